/- What the statements say, of the plain functions. -/
import Derived.Test.YtmcaielgjfpekaaDefs
import Derived.Test.YtmcaielgjfpekaaLe
import Derived.Test.YtmcaielgjfpekaakThInts
import Derived.Test.YtmcaielgjfpekaakThPack
import Derived.Test.YtmcaielgjfpekaakThMesg
import Derived.Test.YtmcaielgjfpekaakThMesg2
import Derived.Test.YtmcaielgjfpekaakThMesg3
import Derived.Test.YtmcaielgjfpekaakThMesg4
import Derived.Test.YtmcaielgjfpekaakThMesg5
import Derived.Test.YtmcaielgjfpekaakThMesg6
import Derived.Test.YtmcaielgjfpekaakThMsg
import Derived.Test.YtmcaielgjfpekaakThMesg7
import Derived.Test.YtmcaielgjfpekaakThMesg8
import Derived.Test.YtmcaielgjfpekaakThMesgS
import Derived.Test.YtmcaielgjfpekaaGpCrc
import Derived.Test.YtmcaielgjfpekaakThCrc
import Derived.Test.YtmcaielgjfpekaakThFram
import Derived.Test.YtmcaielgjfpekaakThPack1
import Derived.Test.YtmcaielgjfpekaakThMesg9
import Derived.Test.YtmcaielgjfpekaakThMesg10
import Derived.Test.YtmcaielgjfpekaakThFram2
import Derived.Test.YtmcaielgjfpekaakThNets
/- Frames under way: sent, taken, lost, doubled and turned as the document says. -/
namespace Go.Gp
open Go
def okU_api_Cmd (x : api_Cmd) : Prop := i64ok x.Kind ∧ i64ok x.Who ∧ (x.Key.length ≤ 1048576 ∧ ∀ z ∈ x.Key, True) ∧ (x.Val.length ≤ 1048576 ∧ ∀ z ∈ x.Val, True) ∧ (x.Old.length ≤ 1048576 ∧ ∀ z ∈ x.Old, True)
def okU_api_Entry (x : api_Entry) : Prop := i64ok x.Sess ∧ i64ok x.Seq ∧ okU_api_Cmd x.Cmd
def okU_api_Msg (x : api_Msg) : Prop := i64ok x.Kind ∧ i64ok x.From ∧ i64ok x.To ∧ i64ok x.View ∧ i64ok x.Inst ∧ i64ok x.Len ∧ True ∧ i64ok x.Members ∧ i64ok x.Source ∧ i64ok x.At ∧ i64ok x.Total ∧ (x.Data.length ≤ 1048576 ∧ ∀ z ∈ x.Data, True) ∧ i64ok x.Hop ∧ i64ok x.Seq ∧ (x.Have.length ≤ 1048576 ∧ ∀ z ∈ x.Have, i64ok z) ∧ (x.Need.length ≤ 1048576 ∧ ∀ z ∈ x.Need, i64ok z) ∧ i64ok x.Index ∧ okU_api_Entry x.Entry
theorem okU_mild {x : api_Msg} (h : okU_api_Msg x) : Mild x ∧ x.Have.length ≤ 1048576 ∧ x.Need.length ≤ 1048576 := by
  obtain ⟨_, _, _, _, _, _, _, _, _, _, _, _, _, _, q1, q2, _, _, _, _, _, g1, g2, g3⟩ := h
  exact ⟨⟨by have := q1.1; omega, by have := q2.1; omega, by have := g1.1; omega, by have := g2.1; omega, by have := g3.1; omega⟩, q1.1, q2.1⟩
def toF (x : hocketlaw23_flight) : nets_frame := ⟨⟨x.from_, x.to, x.b⟩, x.turned⟩
structure FlOk (x : hocketlaw23_flight) : Prop where
  f : 0 ≤ x.from_ ∧ x.from_ < 7
  t : 0 ≤ x.to ∧ x.to < 7
  b : 0 < x.b.length ∧ x.b.length ≤ 224
variable {R : Unit → Prop}
theorem plays_J4 {x0 n mask k : Int} {x1 : List Int} {i t43 : Int} {l : List hocketlaw23_flight} {ag : List hocketlaw23_flight × Int × Int × nets_Net → Option Unit} (hi : 0 ≤ i ∧ i < (x1.length : Int)) (hn : mx (w64 (band .i64 x0 7 + 0)) 1 = n) (hn2 : 1 ≤ n ∧ n ≤ 7)
    (hk : w64 (band .i64 (shr .i64 t43 4) 15 - 1) = k) (hl : ∀ x ∈ l, FlOk x) (next : Sat (ag (l, mask, w64 (i + 1), ⟨n, mask, l.map toF⟩)) R) :
    Sat (hocketlaw23_NetsPlays.J4 2000000 x1 i x0 t43 ag l mask ⟨n, mask, l.map toF⟩) R := by
  have hx := ix_get (xs := x1) (i := i) hi.1 (by omega)
  unfold hocketlaw23_NetsPlays.J4
  refine sat_b hx ?_
  rw [hn]
  have b1 := band_lt (shr .i64 (x1[i.toNat]'(by omega)) 12) 7 3 rfl (by decide)
  have b2 := band_lt (shr .i64 (x1[i.toNat]'(by omega)) 15) 7 3 rfl (by decide)
  have c1 := tmod_nn (x := band .i64 (shr .i64 (x1[i.toNat]'(by omega)) 12) 7) (y := n) b1.1 (by omega)
  have c2 := tmod_nn (x := band .i64 (shr .i64 (x1[i.toNat]'(by omega)) 15) 7) (y := n) b2.1 (by omega)
  refine sat_b (rem_eq (by omega)) (sat_b hx (sat_b (rem_eq (by omega)) ?_))
  generalize Int.tmod (band .i64 (shr .i64 (x1[i.toNat]'(by omega)) 12) 7) n = a at *
  generalize Int.tmod (band .i64 (shr .i64 (x1[i.toNat]'(by omega)) 15) 7) n = b at *
  refine sat_b (count_eq _ _ _) (sat_t (by simp) (sat_b (apart_eq _ _ _ _ _) ?_))
  have j5 : ∀ q : Bool, q = false → Sat (hocketlaw23_NetsPlays.J5 2000000 ⟨n, mask, l.map toF⟩ t43 l ag mask i q) R := fun q hq => by
    subst hq
    unfold hocketlaw23_NetsPlays.J5
    refine sat_f (by simp) ?_
    rw [hk]
    have j7 : Sat (hocketlaw23_NetsPlays.J7 2000000 ag l mask i ⟨n, mask, l.map toF⟩ false) R := by
      unfold hocketlaw23_NetsPlays.J7
      exact sat_f (by simp) next
    by_cases hin : 0 ≤ k ∧ k < (l.length : Int)
    · obtain ⟨j, rfl⟩ : ∃ j : Nat, k = j := ⟨k.toNat, by omega⟩
      have hj : j < l.length := by omega
      have hm : (l.map toF)[j]'(by simpa using hj) = toF l[j] := by simp
      have hb := (hl l[j] (List.getElem_mem _)).b
      refine sat_b (at_eq n mask (l := l.map toF) (i := j) (by simpa using hj) (by rw [hm]; show l[j].b.length ≤ 10000000; omega)) ?_
      rw [hm]
      refine sat_t (by omega) ?_
      rw [decide_eq_true (by omega)]
      unfold hocketlaw23_NetsPlays.J6
      have hix := ix_get (xs := l) (i := (j : Int)) (by omega) (by simpa using hj)
      simp only [Int.toNat_natCast] at hix
      rw [hk]
      refine sat_t rfl (sat_t rfl (sat_b hix (sat_t rfl (sat_b hix (sat_t rfl (sat_b hix ?_))))))
      rw [show (!((toF l[j]).f.Bytes == l[j].b)) = false by simp [toF]]
      exact j7
    · refine sat_b (at_no n mask (l := l.map toF) (by simpa using hin)) ?_
      have j6 : Sat (hocketlaw23_NetsPlays.J6 2000000 (zflt, false) l t43 ag mask i ⟨n, mask, l.map toF⟩ false) R := by
        unfold hocketlaw23_NetsPlays.J6
        exact sat_t rfl (sat_f (by simp) j7)
      refine sat_if (fun h0 => ?_) (fun _ => j6)
      rw [decide_eq_false (by omega)]
      exact j6
  have ha := apart_nodes (mask := mask) (a := a) (b := b) (by omega) (by omega)
  have hu : ∀ z : Int, 0 ≤ z ∧ z < 7 → wu64 z = z := fun z hz => wu64_id (by omega)
  refine sat_if (fun h0 => ?_) (fun h0 => ?_)
  · rw [if_pos h0] at ha
    refine j5 _ ?_
    rw [ha]
    rfl
  · rw [if_neg h0] at ha
    rw [hu a (by omega), hu b (by omega)]
    refine j5 _ ?_
    rw [ha]
    simp
theorem flip_same {b : List UInt8} {bit : Nat} (g : UInt8) (hg : b[bit % (8 * b.length) / 8]? = some g) :
    b.set (bit % (8 * b.length) / 8) (g ^^^ (toU8 (((1 : UInt8).toNat : Int) * 2 ^ (min (wu64 (band .i64 ((bit % (8 * b.length) : Nat) : Int) 7) : Int).toNat 8)))) = flipB b bit := by
  unfold flipB
  rw [hg]
  simp only [Option.getD_some]
  rw [show (7 : Int) = 2 ^ 3 - 1 from rfl, band_mask _ 3 (by decide)]
  have : (((bit % (8 * b.length) : Nat) : Int) % 2 ^ 3) = ((bit % (8 * b.length) % 8 : Nat) : Int) := by
    rw [show (2 : Int) ^ 3 = 8 from rfl]; omega
  rw [this, wu64_id (by omega), Int.toNat_natCast]
  rfl
theorem toF_set (l : List hocketlaw23_flight) (j : Nat) (x : hocketlaw23_flight) : (l.map toF).set j (toF x) = (l.set j x).map toF := by rw [List.map_set]
theorem FlOk_set {l : List hocketlaw23_flight} (hl : ∀ x ∈ l, FlOk x) {j : Nat} {y : hocketlaw23_flight} (hy : FlOk y) : ∀ x ∈ l.set j y, FlOk x := fun x hx => by
  rcases List.mem_or_eq_of_mem_set hx with h | h
  · exact hl x h
  · rw [h]; exact hy
theorem FlOk_cut {l : List hocketlaw23_flight} (hl : ∀ x ∈ l, FlOk x) (j k : Nat) : ∀ x ∈ l.take j ++ l.drop k, FlOk x := fun x hx => by
  rcases List.mem_append.1 hx with h | h
  · exact hl x (List.mem_of_mem_take h)
  · exact hl x (List.mem_of_mem_drop h)
theorem FlOk_more {l : List hocketlaw23_flight} (hl : ∀ x ∈ l, FlOk x) {y : hocketlaw23_flight} (hy : FlOk y) : ∀ x ∈ l ++ [y], FlOk x := fun x hx => by
  rcases List.mem_append.1 hx with h | h
  · exact hl x h
  · rw [List.mem_singleton.1 h]; exact hy
/-- What is sent. -/
theorem plays_send {x0 n mask : Int} {x1 : List Int} {i t43 : Int} {l : List hocketlaw23_flight} {ag : List hocketlaw23_flight × Int × Int × nets_Net → Option Unit} (hn : mx (w64 (band .i64 x0 7 + 0)) 1 = n) (hn2 : 1 ≤ n ∧ n ≤ 7)
    (hl : ∀ x ∈ l, FlOk x) (hll : l.length < 200) {m : api_Msg} (hm : Mild m) (hr : m.Have.length ≤ 1048576 ∧ m.Need.length ≤ 1048576)
    (next : ∀ l' : List hocketlaw23_flight, (∀ x ∈ l', FlOk x) → l'.length ≤ l.length + 1 → Sat (hocketlaw23_NetsPlays.J4 2000000 x1 i x0 t43 ag l' mask ⟨n, mask, l'.map toF⟩) R) :
    Sat (hocketlaw23_NetsPlays.J10 2000000 x0 ⟨n, mask, l.map toF⟩ l x1 i t43 ag mask m) R := by
  unfold hocketlaw23_NetsPlays.J10
  obtain ⟨b, hb1, hb2⟩ := okM_eq (m := m) (by omega) (by omega)
  refine sat_b hb1 ?_
  rw [hn]
  have hs := send_eq n mask (l := l.map toF) hm (by simp; omega)
  have j12 : ∀ w : Bool, (w = true ↔ OkM m ∧ m.From < n ∧ m.To < n) → Sat (hocketlaw23_NetsPlays.J11 2000000 ⟨n, mask, l.map toF⟩ m l x1 i x0 t43 ag mask w) R := fun w hw => by
    unfold hocketlaw23_NetsPlays.J11
    by_cases h : OkM m ∧ m.From < n ∧ m.To < n
    · have hwt : w = true := hw.2 h
      subst hwt
      have h8 := seal_len0 h.1
      have hne : wrapM m ≠ [] := by rw [wrapM_ok h.1]; intro e; rw [e] at h8; simp at h8
      refine sat_b (hs.trans (congrArg some (if_pos ⟨hne, h.2.1, h.2.2, by simpa using hll⟩))) (sat_t rfl (sat_t rfl ?_))
      refine sat_b (wrap1_eq (by omega) (by omega)) (sat_b (app_eq (by simp; omega)) ?_)
      have hy : FlOk ⟨m.From, m.To, wrapM m, false⟩ := ⟨⟨h.1.1.1, by show m.From < 7; omega⟩, ⟨h.1.2.1.1, by show m.To < 7; omega⟩, by show 0 < (wrapM m).length ∧ (wrapM m).length ≤ 224; rw [wrapM_ok h.1]; omega⟩
      have := next (l ++ [⟨m.From, m.To, wrapM m, false⟩]) (FlOk_more hl hy) (by simp)
      rw [List.map_append] at this
      exact this
    · have hwf : w = false := by cases w with | false => rfl | true => exact absurd (hw.1 rfl) h
      subst hwf
      have hno : ¬(wrapM m ≠ [] ∧ m.From < n ∧ m.To < n ∧ (l.map toF).length < 200) := fun g => h ⟨by
        by_cases ok : OkM m
        · exact ok
        · exact absurd (by unfold wrapM; rw [if_neg ok]) g.1, g.2.1, g.2.2.1⟩
      refine sat_b (hs.trans (congrArg some (if_neg hno))) (sat_t rfl (sat_f (by simp) ?_))
      exact next l hl (by omega)
  refine sat_if (fun hbt => ?_) (fun hbf => ?_)
  · have ok := hb2.1 hbt
    refine sat_if (fun hf => ?_) (fun hf => ?_)
    · refine j12 _ ?_
      rw [decide_eq_true_eq]
      exact ⟨fun h => ⟨ok, hf, h⟩, fun h => h.2.2⟩
    · exact j12 _ (by simp only [Bool.false_eq_true, false_iff]; exact fun h => hf h.2.1)
  · exact j12 _ (by simp only [Bool.false_eq_true, false_iff]; exact fun h => hbf (hb2.2 h.1))
/-- What is taken. -/
theorem plays_take {x0 n mask : Int} {x1 : List Int} {i t43 k : Int} {l : List hocketlaw23_flight} {ag : List hocketlaw23_flight × Int × Int × nets_Net → Option Unit} {t54 : Int}
    (hk : w64 (band .i64 (shr .i64 t43 4) 15 - 1) = k) (hk2 : -1 ≤ k ∧ k ≤ 14) (hl : ∀ x ∈ l, FlOk x) (hll : l.length < 200)
    (next : ∀ l' : List hocketlaw23_flight, (∀ x ∈ l', FlOk x) → l'.length ≤ l.length + 1 → Sat (hocketlaw23_NetsPlays.J4 2000000 x1 i x0 t43 ag l' mask ⟨n, mask, l'.map toF⟩) R) :
    Sat (hocketlaw23_NetsPlays.J12 2000000 ⟨n, mask, l.map toF⟩ t43 (decide (0 ≤ k ∧ k < (l.length : Int))) l mask x1 i x0 ag t54 true) R := by
  unfold hocketlaw23_NetsPlays.J12
  refine sat_t rfl ?_
  rw [hk]
  by_cases hin : 0 ≤ k ∧ k < (l.length : Int)
  · rw [decide_eq_true hin]
    obtain ⟨j, rfl⟩ : ∃ j : Nat, k = j := ⟨k.toNat, by omega⟩
    have hj : j < l.length := by omega
    have hm : (l.map toF)[j]'(by simpa using hj) = toF l[j] := by simp
    have hok := hl l[j] (List.getElem_mem _)
    have hb := hok.b
    refine sat_b (take_eq n mask (l := l.map toF) (i := j) (by simpa using hj) (by simp; omega) (by rw [hm]; show l[j].b.length ≤ _; omega)) ?_
    rw [hm]
    have hix := ix_get (xs := l) (i := (j : Int)) (by omega) (by simpa using hj)
    simp only [Int.toNat_natCast] at hix
    refine sat_t rfl (sat_b hix (sat_b hix ?_))
    have hu : ∀ z : Int, 0 ≤ z ∧ z < 7 → wu64 z = z := fun z hz => wu64_id (by omega)
    rw [hu _ hok.f, hu _ hok.t]
    have ha := apart_nodes (mask := mask) hok.f hok.t
    have hw : w64 ((j : Int) + 1) = ((j + 1 : Nat) : Int) := by rw [w64_succ (by omega) (by omega)]; simp
    have j16 : ∀ p : api_Msg × Bool, p = takeM mask (toF l[j]).f → Sat (hocketlaw23_NetsPlays.J15 2000000 l t43 ((takeM mask (toF l[j]).f).1, (takeM mask (toF l[j]).f).2, n, mask, (l.map toF).take j ++ (l.map toF).drop (j + 1)) x1 i x0 ag mask p.2 p.1) R := fun p hp => by
      subst hp
      unfold hocketlaw23_NetsPlays.J15
      rw [hk, hw]
      refine sat_b (cut_eq ⟨by omega, by omega, by omega⟩) (sat_b (cut_eq ⟨by omega, by omega, by omega⟩) (sat_b (app_eq (by simp; omega)) (sat_b (app_eq (by simp; omega)) ?_)))
      unfold hocketlaw23_NetsPlays.J13
      have hr : (takeM mask (toF l[j]).f).1.Have.length < 2000000 ∧ (takeM mask (toF l[j]).f).1.Need.length < 2000000 := by
        unfold takeM
        split
        · unfold zmsg; simp
        · exact openM_rows _
      refine sat_t rfl (sat_b (same_eq hr.1 hr.2) (sat_t (by simp) ?_))
      simp only [Int.toNat_natCast, Int.toNat_zero, List.drop_zero, List.nil_append, List.take_length]
      have := next (l.take j ++ l.drop (j + 1)) (FlOk_cut hl _ _) (by simp; omega)
      rw [List.map_append, List.map_take, List.map_drop] at this
      exact this
    have j15 : ∀ q : Bool, q = !(apartB mask l[j].from_ l[j].to) → Sat (hocketlaw23_NetsPlays.J14 2000000 l t43 ((takeM mask (toF l[j]).f).1, (takeM mask (toF l[j]).f).2, n, mask, (l.map toF).take j ++ (l.map toF).drop (j + 1)) x1 i x0 ag mask q) R := fun q hq => by
      subst hq
      unfold hocketlaw23_NetsPlays.J14
      cases hap : apartB mask l[j].from_ l[j].to with
      | false =>
        refine sat_t rfl ?_
        rw [hk]
        refine sat_b hix (sat_b (open1_eq (by omega)) (j16 (openM l[j].b) ?_))
        unfold takeM
        rw [show apartB mask (toF l[j]).f.From (toF l[j]).f.To = false from hap, if_neg (by simp)]
        rfl
      | true =>
        refine sat_f (by simp) (j16 (zmsg, false) ?_)
        unfold takeM
        rw [show apartB mask (toF l[j]).f.From (toF l[j]).f.To = true from hap, if_pos rfl]
    refine sat_if (fun he => ?_) (fun he => ?_)
    · refine j15 _ ?_
      rw [ha, he]
      split <;> simp
    · refine j15 _ ?_
      rw [ha]
      by_cases h0 : mask = 0
      · rw [if_pos h0, h0]; rfl
      · rw [if_neg h0]
        have : (band .i64 (shr .i64 mask l[j].from_) 1 != band .i64 (shr .i64 mask l[j].to) 1) = true := by simpa using he
        rw [this]
        simpa using h0
  · rw [decide_eq_false hin]
    refine sat_b (take_no n mask (l := l.map toF) (by simpa using hin)) (sat_f (by simp) ?_)
    unfold hocketlaw23_NetsPlays.J13
    refine sat_t rfl (sat_b (same_eq (by unfold zmsg; simp) (by unfold zmsg; simp)) (sat_t (by unfold zmsg; simp) ?_))
    exact next l hl (by omega)
/-- What is lost, doubled, turned, and who is apart. -/
theorem plays_rest {x0 n mask : Int} {x1 : List Int} {i t43 k t54 : Int} {l : List hocketlaw23_flight} {ag : List hocketlaw23_flight × Int × Int × nets_Net → Option Unit} (hi : 0 ≤ i ∧ i < (x1.length : Int))
    (hk : w64 (band .i64 (shr .i64 t43 4) 15 - 1) = k) (hk2 : -1 ≤ k ∧ k ≤ 14) (hl : ∀ x ∈ l, FlOk x) (hll : l.length < 200)
    (next : ∀ (mask' : Int) (l' : List hocketlaw23_flight), (∀ x ∈ l', FlOk x) → l'.length ≤ l.length + 1 → Sat (hocketlaw23_NetsPlays.J4 2000000 x1 i x0 t43 ag l' mask' ⟨n, mask', l'.map toF⟩) R) :
    Sat (hocketlaw23_NetsPlays.J12 2000000 ⟨n, mask, l.map toF⟩ t43 (decide (0 ≤ k ∧ k < (l.length : Int))) l mask x1 i x0 ag t54 false) R := by
  have hx := ix_get (xs := x1) (i := i) hi.1 (by omega)
  have j18a : Sat (hocketlaw23_NetsPlays.J17 2000000 x1 i (decide (0 ≤ k ∧ k < (l.length : Int))) l t43 ⟨n, mask, l.map toF⟩ x0 ag mask true) R := by
    unfold hocketlaw23_NetsPlays.J17
    refine sat_t rfl (sat_b hx ?_)
    have hb := band_lt (shr .i64 (x1[i.toNat]'(by omega)) 8) 1023 10 rfl (by decide)
    have hw : w64 (band .i64 (shr .i64 (x1[i.toNat]'(by omega)) 8) 1023 - 10) = band .i64 (shr .i64 (x1[i.toNat]'(by omega)) 8) 1023 - 10 := w64_id (by omega)
    obtain ⟨bit, hbit⟩ : ∃ bit, bit = band .i64 (shr .i64 (x1[i.toNat]'(by omega)) 8) 1023 - 10 := ⟨_, rfl⟩
    have j19n : (¬(0 ≤ k ∧ k < (l.length : Int)) ∨ bit < 0 ∨ ∃ j : Nat, ∃ hj : j < l.length, k = j ∧ l[j].turned = true) → Sat (hocketlaw23_NetsPlays.J18 2000000 ⟨n, mask, l.map toF⟩ t43 (x1[i.toNat]'(by omega)) l x1 i x0 ag mask false) R := fun h => by
      unfold hocketlaw23_NetsPlays.J18
      rw [hk, hw, ← hbit]
      have hf : nets_Net_Flip.f n mask (l.map toF) k bit = some (false, n, mask, l.map toF) := by
        rcases h with h | h | ⟨j, hj, rfl, ht⟩
        · exact flip_no n mask (.inl (by simpa using h))
        · exact flip_no n mask (.inr h)
        · by_cases hneg : bit < 0
          · exact flip_no n mask (.inr hneg)
          · exact flip_turned n mask (by simpa using hj) (by omega) (by simpa [toF] using ht)
      refine sat_b hf (sat_t rfl (sat_f (by simp) ?_))
      exact next mask l hl (by omega)
    rw [hw, ← hbit]
    by_cases hin : 0 ≤ k ∧ k < (l.length : Int)
    · rw [decide_eq_true hin]
      refine sat_t rfl ?_
      refine sat_if (fun h0 => ?_) (fun h0 => j19n (.inr (.inl (by omega))))
      obtain ⟨j, rfl⟩ : ∃ j : Nat, k = j := ⟨k.toNat, by omega⟩
      have hj : j < l.length := by omega
      have hix := ix_get (xs := l) (i := (j : Int)) (by omega) (by simpa using hj)
      simp only [Int.toNat_natCast] at hix
      rw [hk]
      refine sat_b hix ?_
      cases ht : l[j].turned with
      | true => exact j19n (.inr (.inr ⟨j, hj, rfl, ht⟩))
      | false =>
        have hok := hl l[j] (List.getElem_mem _)
        have hbl := hok.b
        obtain ⟨q, rfl⟩ : ∃ q : Nat, bit = q := ⟨bit.toNat, by omega⟩
        have hm : (l.map toF)[j]'(by simpa using hj) = toF l[j] := by simp
        show Sat (hocketlaw23_NetsPlays.J18 2000000 ⟨n, mask, l.map toF⟩ t43 (x1[i.toNat]'(by omega)) l x1 i x0 ag mask true) R
        unfold hocketlaw23_NetsPlays.J18
        rw [hk, hw, ← hbit]
        have hfl := flip_eq n mask (l := l.map toF) (i := j) (bit := q) (by simpa using hj) (by rw [hm]; exact ht) (by rw [hm]; show 0 < l[j].b.length ∧ l[j].b.length ≤ _; omega)
        rw [hm] at hfl
        refine sat_b hfl (sat_t rfl (sat_t rfl (sat_b hix (sat_b (app_eq (by simp; omega)) ?_))))
        rw [List.nil_append, w64_id (n := 8 * (l[j].b.length : Int)) (by omega)]
        refine sat_b (rem_eq (by omega)) ?_
        obtain ⟨z, hz⟩ : ∃ z : Nat, z = q % (8 * l[j].b.length) := ⟨_, rfl⟩
        have hzl : z < 8 * l[j].b.length := by rw [hz]; exact Nat.mod_lt _ (by omega)
        have hmz : Int.tmod (q : Int) (8 * (l[j].b.length : Int)) = ((z : Nat) : Int) := by
          rw [Int.tmod_eq_emod_of_nonneg (by omega), hz, Int.natCast_emod, Int.natCast_mul]; rfl
        have hd : w64 (Int.tdiv ((z : Nat) : Int) 8) = ((z / 8 : Nat) : Int) := by
          rw [Int.tdiv_eq_ediv_of_nonneg (by omega), w64_id (by omega)]; omega
        rw [hmz, hd]
        have hkz : z / 8 < l[j].b.length := by omega
        have hib := ix_get (xs := l[j].b) (i := ((z / 8 : Nat) : Int)) (by omega) (by rw [Int.toNat_natCast]; exact hkz)
        simp only [Int.toNat_natCast] at hib
        refine sat_b hib (sat_b hib (sat_b hix ?_))
        simp only [Int.toNat_natCast]
        refine sat_b (ix_set hj _) ?_
        rw [List.set_set]
        have hfs := flip_same (b := l[j].b) (bit := q) (l[j].b[z / 8]) (by rw [← hz]; exact List.getElem?_eq_getElem hkz)
        rw [← hz] at hfs
        dsimp only
        rw [hfs]
        have hy : FlOk ⟨l[j].from_, l[j].to, flipB l[j].b q, true⟩ := ⟨hok.f, hok.t, by show 0 < (flipB l[j].b q).length ∧ (flipB l[j].b q).length ≤ 224; rw [flipB_len]; exact hbl⟩
        have := next mask (l.set j ⟨l[j].from_, l[j].to, flipB l[j].b q, true⟩) (FlOk_set hl hy) (by simp)
        rw [← toF_set] at this
        exact this
    · rw [decide_eq_false hin]
      exact sat_f (by simp) (j19n (.inl hin))
  have j18b : Sat (hocketlaw23_NetsPlays.J17 2000000 x1 i (decide (0 ≤ k ∧ k < (l.length : Int))) l t43 ⟨n, mask, l.map toF⟩ x0 ag mask false) R := by
    unfold hocketlaw23_NetsPlays.J17
    refine sat_f (by simp) (sat_b hx (sat_b (split_eq _ _ _ _) ?_))
    exact next _ l hl (by omega)
  have j17a : Sat (hocketlaw23_NetsPlays.J16 2000000 ⟨n, mask, l.map toF⟩ t43 (decide (0 ≤ k ∧ k < (l.length : Int))) l x1 i x0 ag mask t54 true) R := by
    unfold hocketlaw23_NetsPlays.J16
    refine sat_t rfl ?_
    rw [hk]
    by_cases hin : 0 ≤ k ∧ k < (l.length : Int)
    · rw [decide_eq_true hin]
      obtain ⟨j, rfl⟩ : ∃ j : Nat, k = j := ⟨k.toNat, by omega⟩
      have hj : j < l.length := by omega
      have hix := ix_get (xs := l) (i := (j : Int)) (by omega) (by simpa using hj)
      simp only [Int.toNat_natCast] at hix
      have hm : (l.map toF)[j]'(by simpa using hj) = toF l[j] := by simp
      have hok := hl l[j] (List.getElem_mem _)
      have hbl := hok.b
      have htw := twice_eq n mask (l := l.map toF) (i := j) (by simpa using hj) (by simp; omega) (by rw [hm]; show l[j].b.length ≤ _; omega)
      rw [hm] at htw
      refine sat_b (htw.trans (congrArg some (if_pos (by simpa using hll)))) (sat_t rfl (sat_t rfl (sat_b hix (sat_b (app_eq (by simp; omega)) ?_))))
      have := next mask (l ++ [l[j]]) (FlOk_more hl hok) (by simp)
      rw [List.map_append] at this
      exact this
    · rw [decide_eq_false hin]
      refine sat_b (twice_no n mask (l := l.map toF) (by simpa using hin)) (sat_t rfl (sat_f (by simp) ?_))
      exact next mask l hl (by omega)
  have j17b : Sat (hocketlaw23_NetsPlays.J16 2000000 ⟨n, mask, l.map toF⟩ t43 (decide (0 ≤ k ∧ k < (l.length : Int))) l x1 i x0 ag mask t54 false) R := by
    unfold hocketlaw23_NetsPlays.J16
    refine sat_f (by simp) ?_
    refine sat_if (fun h => ?_) (fun h => ?_)
    · rw [show (band .i64 t54 15 == 12) = true by simpa using h]; exact j18a
    · cases hz : (band .i64 t54 15 == 13) with
      | true => exact j18a
      | false => exact j18b
  unfold hocketlaw23_NetsPlays.J12
  refine sat_f (by simp) ?_
  refine sat_if (fun h9 => ?_) (fun h9 => ?_)
  · rw [hk]
    by_cases hin : 0 ≤ k ∧ k < (l.length : Int)
    · rw [decide_eq_true hin]
      obtain ⟨j, rfl⟩ : ∃ j : Nat, k = j := ⟨k.toNat, by omega⟩
      have hj : j < l.length := by omega
      have hw : w64 ((j : Int) + 1) = ((j + 1 : Nat) : Int) := by rw [w64_succ (by omega) (by omega)]; simp
      refine sat_b (drop_eq n mask (l := l.map toF) (i := j) (by simpa using hj) (by simp; omega)) (sat_t rfl (sat_t rfl ?_))
      rw [hw]
      refine sat_b (cut_eq ⟨by omega, by omega, by omega⟩) (sat_b (cut_eq ⟨by omega, by omega, by omega⟩) (sat_b (app_eq (by simp; omega)) (sat_b (app_eq (by simp; omega)) ?_)))
      simp only [Int.toNat_natCast, Int.toNat_zero, List.drop_zero, List.nil_append, List.take_length]
      have := next mask (l.take j ++ l.drop (j + 1)) (FlOk_cut hl _ _) (by simp; omega)
      rw [List.map_append, List.map_take, List.map_drop] at this
      exact this
    · rw [decide_eq_false hin]
      refine sat_b (drop_no n mask (l := l.map toF) (by simpa using hin)) (sat_t rfl (sat_f (by simp) ?_))
      exact next mask l hl (by omega)
  · refine sat_if (fun h => ?_) (fun h => ?_)
    · rw [show (band .i64 t54 15 == 10) = true by simpa using h]; exact j17a
    · cases hz : (band .i64 t54 15 == 11) with
      | true => exact j17a
      | false => exact j17b
theorem hocketlaw23_NetsPlays.pure (x0 : Int) (x1 : List Int) (x2 : List api_Msg) {o0 : Prop} (_ : o0) (_ : x1.length ≤ 1048576 ∧ ∀ z ∈ x1, i64ok z) (h2 : x2.length ≤ 1048576 ∧ ∀ z ∈ x2, okU_api_Msg z) : ∃ K r, hocketlaw23_NetsPlays.f K x0 x1 x2 = some r := by
  refine ⟨2000000, sat_pure ?_⟩
  have hb0 := band_lt x0 7 3 rfl (by decide)
  obtain ⟨n, hn⟩ : ∃ n, mx (w64 (band .i64 x0 7 + 0)) 1 = n := ⟨_, rfl⟩
  have hn7 : 1 ≤ n ∧ n ≤ 7 := by rw [← hn, w64_id (by omega), mx_eq]; omega
  unfold hocketlaw23_NetsPlays.f nets_New.f
  refine sat_b rfl ?_
  rw [show mn (mx (w64 (band .i64 x0 7 + 0)) 1) 7 = n by rw [hn, mn_eq]; omega]
  refine sat_loop (fun v : List hocketlaw23_flight × Int × Int × nets_Net => (120 - v.2.2.1).toNat) (fun v => (∀ x ∈ v.1, FlOk x) ∧ (v.1.length : Int) ≤ v.2.2.1 ∧ (0 ≤ v.2.2.1 ∧ v.2.2.1 ≤ 120) ∧ v.2.2.2 = ⟨n, v.2.1, v.1.map toF⟩) ?_ 2000000 _ ⟨by simp, by simp, by simp, rfl⟩ (by simp only; omega)
  rintro ⟨l, mask, i, z⟩ ⟨hl, hll, hi, hz⟩ ag hag
  simp only at hl hll hi hz
  subst hz
  show Sat (hocketlaw23_NetsPlays.B1 2000000 x1 x2 x0 _ ag l mask i _) _
  unfold hocketlaw23_NetsPlays.B1
  have out : Sat (hocketlaw23_NetsPlays.J1 2000000) (fun _ => True) := by
    unfold hocketlaw23_NetsPlays.J1
    exact fin_nets
  refine sat_if (fun hlt => ?_) (fun _ => ?_)
  · by_cases h120 : i < 120
    · rw [decide_eq_true h120]
      unfold hocketlaw23_NetsPlays.J2
      have hx := ix_get (xs := x1) (i := i) hi.1 (by omega)
      refine sat_t rfl (sat_b hx ?_)
      generalize x1[i.toNat]'(by omega) = t43 at hx ⊢
      have hbk := band_lt (shr .i64 t43 4) 15 4 rfl (by decide)
      obtain ⟨k, hk⟩ : ∃ k, w64 (band .i64 (shr .i64 t43 4) 15 - 1) = k := ⟨_, rfl⟩
      have hk2 : -1 ≤ k ∧ k ≤ 14 := by rw [← hk, w64_id (by omega)]; omega
      have next : ∀ (mask' : Int) (l' : List hocketlaw23_flight), (∀ x ∈ l', FlOk x) → l'.length ≤ l.length + 1 → Sat (hocketlaw23_NetsPlays.J4 2000000 x1 i x0 t43 ag l' mask' ⟨n, mask', l'.map toF⟩) (fun _ => True) := fun mask' l' h1 h3 => by
        refine plays_J4 ⟨hi.1, hlt⟩ hn hn7 hk h1 ?_
        have hw : w64 (i + 1) = i + 1 := w64_id (by omega)
        rw [hw]
        exact hag _ ⟨h1, by simp only; omega, by simp only; omega, rfl⟩ (by simp only; omega)
      have hl200 : l.length < 200 := by omega
      have j3 : Sat (hocketlaw23_NetsPlays.J3 2000000 x1 i x2 x0 ⟨n, mask, l.map toF⟩ l t43 ag mask (decide (0 ≤ k ∧ k < (l.length : Int)))) (fun _ => True) := by
        unfold hocketlaw23_NetsPlays.J3
        refine sat_b hx ?_
        have j11 : ∀ m : api_Msg, Mild m → m.Have.length ≤ 1048576 → m.Need.length ≤ 1048576 → Sat (hocketlaw23_NetsPlays.J10 2000000 x0 ⟨n, mask, l.map toF⟩ l x1 i t43 ag mask m) (fun _ => True) := fun m h1 h3 h4 => plays_send hn hn7 hl hl200 h1 ⟨h3, h4⟩ (next mask)
        have j8t : Sat (hocketlaw23_NetsPlays.J8 2000000 x1 i x2 x0 ⟨n, mask, l.map toF⟩ l t43 ag mask t43 (decide (0 ≤ k ∧ k < (l.length : Int))) true) (fun _ => True) := by
          unfold hocketlaw23_NetsPlays.J8
          refine sat_t rfl (sat_b hx (sat_b hx (sat_bs (msg_num _ _) (fun m ⟨ok, hc⟩ => ?_))))
          have jm := j11 m (ok_mild ok hc) (by have := (ok_rows ok hc).1; omega) (by have := (ok_rows ok hc).2.1; omega)
          refine sat_b hx ?_
          have j10f : Sat (hocketlaw23_NetsPlays.J9 2000000 x2 i x0 ⟨n, mask, l.map toF⟩ l x1 t43 ag mask m false) (fun _ => True) := by
            unfold hocketlaw23_NetsPlays.J9
            exact sat_f (by simp) jm
          refine sat_if (fun _ => ?_) (fun _ => j10f)
          refine sat_if (fun h => ?_) (fun _ => j10f)
          have hx2 := ix_get (xs := x2) (i := i) hi.1 (by omega)
          refine sat_b hx2 ?_
          have hu := h2.2 (x2[i.toNat]'(by omega)) (List.getElem_mem _)
          obtain ⟨u1, u2, u3⟩ := okU_mild hu
          cases hd : decide (((x2[i.toNat]'(by omega)).Data.length : Int) < 100) with
          | false => exact j10f
          | true =>
            unfold hocketlaw23_NetsPlays.J9
            exact sat_t rfl (sat_b hx2 (j11 _ u1 u2 u3))
        have j13 : ∀ w : Bool, Sat (hocketlaw23_NetsPlays.J12 2000000 ⟨n, mask, l.map toF⟩ t43 (decide (0 ≤ k ∧ k < (l.length : Int))) l mask x1 i x0 ag t43 w) (fun _ => True) := fun w => by
          cases w with
          | true => exact plays_take hk hk2 hl hl200 (next mask)
          | false => exact plays_rest ⟨hi.1, hlt⟩ hk hk2 hl hl200 next
        have j8f : Sat (hocketlaw23_NetsPlays.J8 2000000 x1 i x2 x0 ⟨n, mask, l.map toF⟩ l t43 ag mask t43 (decide (0 ≤ k ∧ k < (l.length : Int))) false) (fun _ => True) := by
          unfold hocketlaw23_NetsPlays.J8
          refine sat_f (by simp) (sat_if (fun _ => j13 _) (fun _ => sat_if (fun _ => j13 _) (fun _ => j13 _)))
        have j8 : ∀ w : Bool, Sat (hocketlaw23_NetsPlays.J8 2000000 x1 i x2 x0 ⟨n, mask, l.map toF⟩ l t43 ag mask t43 (decide (0 ≤ k ∧ k < (l.length : Int))) w) (fun _ => True) := fun w => by
          cases w with
          | true => exact j8t
          | false => exact j8f
        exact sat_if (fun _ => j8 _) (fun _ => sat_if (fun _ => j8 _) (fun _ => sat_if (fun _ => j8 _) (fun _ => sat_if (fun _ => j8 _) (fun _ => sat_if (fun _ => j8 _) (fun _ => j8 _)))))
      rw [hk]
      refine sat_if (fun h0 => ?_) (fun h0 => ?_)
      · have e : decide (k < (l.length : Int)) = decide (0 ≤ k ∧ k < (l.length : Int)) := decide_eq_decide.2 ⟨fun h => ⟨by omega, h⟩, fun h => h.2⟩
        rw [e]
        exact j3
      · have e : false = decide (0 ≤ k ∧ k < (l.length : Int)) := by symm; rw [decide_eq_false_iff_not]; omega
        rw [e]
        exact j3
    · rw [decide_eq_false h120]
      unfold hocketlaw23_NetsPlays.J2
      exact sat_f (by simp) out
  · unfold hocketlaw23_NetsPlays.J2
    exact sat_f (by simp) out
end Go.Gp
