/- What the statements say, of the plain functions. -/
import Derived.Test.YtdfhpaojkmnnfaaDefs
import Derived.Test.YtdfhpaojkmnnfaaLe
import Derived.Test.YtdfhpaojkmnnfaaThInts
import Derived.Test.YtdfhpaojkmnnfaaThView
import Derived.Test.YtdfhpaojkmnnfaaThView2
import Derived.Test.YtdfhpaojkmnnfaaThMsg
/- Who comes together: what each step does. (Printed by gthgath.py.) -/
namespace Go.Gp
open Go
@[reducible] def tG (g : gath_Gather) := (g.n, g.id, g.v, g.l, g.come, g.ready, g.commit.Kind, g.commit.From, g.commit.To, g.commit.View, g.commit.Inst, g.commit.Len, g.commit.Has, g.commit.Members, g.commit.Source, g.commit.At, g.commit.Total, g.commit.Data, g.commit.Hop, g.commit.Seq, g.commit.Have, g.commit.Need, g.commit.Index, g.commit.Entry.Sess, g.commit.Entry.Seq, g.commit.Entry.Cmd.Kind, g.commit.Entry.Cmd.Who, g.commit.Entry.Cmd.Key, g.commit.Entry.Cmd.Val, g.commit.Entry.Cmd.Old, g.is)
def compN (m c : Nat) : Nat := m &&& (127 ^^^ c)
theorem del_eq {xs : List Int} {c : Nat} (hc : c < 128) (hx : ∀ x ∈ xs, 0 ≤ x ∧ x < 7) (hl : xs.length ≤ 90) : slices_DeleteFunc_sint_int_39.f 100 xs (c : Int) = some (xs.filter fun x => !c.testBit x.toNat) := by
  have hp : ∀ x : Int, 0 ≤ x → x < 7 → gath_without_1.f x (c : Int) = some (c.testBit x.toNat) := fun x h0 h7 => by
    unfold gath_without_1.f
    obtain ⟨q, rfl⟩ : ∃ q : Nat, x = q := ⟨x.toNat, by omega⟩
    rw [must_eq h0]
    simp only [Option.bind_some]
    rw [bit_eq hc (by omega)]
    rfl
  have hidx : slices_IndexFunc_sint_int_39.f 100 xs (c : Int) = some (match xs.findIdx? (fun x => c.testBit x.toNat) with | some k => (k : Int) | none => -1) := by
    unfold slices_IndexFunc_sint_int_39.f
    have := find_iter (xs := xs) (p := fun x => c.testBit x.toNat) (f := fun again v => slices_IndexFunc_sint_int_39.B1 100 xs (c : Int) (fun v => slices_IndexFunc_sint_int_39.J1 100) again v) (fun ag i h => by
      unfold slices_IndexFunc_sint_int_39.B1
      rw [if_pos (by omega), ix_get (by omega) (by simpa using h)]
      simp only [Option.bind_some, Int.toNat_natCast]
      have := hx xs[i] (List.getElem_mem _)
      rw [hp _ this.1 this.2]
      simp only [Option.bind_some]
      rw [w64_succ (by omega) (by omega)]
      rfl) (fun ag => by
      unfold slices_IndexFunc_sint_int_39.B1
      rw [if_neg (by omega)]
      rfl) xs.length 0 100 (by omega) (by omega)
    refine Eq.trans this ?_
    rw [List.drop_zero]
    cases xs.findIdx? (fun x => c.testBit x.toNat) with
    | none => rfl
    | some k => simp
  unfold slices_DeleteFunc_sint_int_39.f
  rw [hidx]
  simp only [Option.bind_some]
  cases hf : xs.findIdx? (fun x => c.testBit x.toNat) with
  | none =>
    simp only
    rw [if_pos trivial]
    rw [List.findIdx?_eq_none_iff] at hf
    congr 1
    symm
    rw [List.filter_eq_self]
    intro x hx
    rw [hf x hx]
    rfl
  | some k =>
    simp only
    rw [if_neg (by omega)]
    rw [List.findIdx?_eq_some_iff_getElem] at hf
    obtain ⟨hk, hk1, hk2⟩ := hf
    suffices h : Sat (slices_DeleteFunc_sint_int_39.L1 100 (c : Int) (fun v => slices_DeleteFunc_sint_int_39.J1 100 v.1 v.2) 100 (xs, (k : Int), w64 ((k : Int) + 1))) (fun r => r = xs.filter fun x => !c.testBit x.toNat) by
      obtain ⟨r, h1, h2⟩ := h; rw [h1, h2]
    have hw0 : w64 ((k : Int) + 1) = ((k + 1 : Nat) : Int) := by rw [w64_succ (by omega) (by omega)]; simp
    rw [hw0]
    refine sat_loop (fun v : List Int × Int × Int => (xs.length - v.2.2).toNat) (fun v => ∃ a b : Nat, v.2.1 = a ∧ v.2.2 = b ∧ a < b ∧ b ≤ xs.length ∧ v.1.length = xs.length ∧ v.1.take a = (xs.take b).filter (fun x => !c.testBit x.toNat) ∧ v.1.drop b = xs.drop b) ?_ 100 _ ⟨k, k + 1, rfl, rfl, by omega, by omega, rfl, ?_, rfl⟩ (by simp only; omega)
    · rintro ⟨cur, i, j⟩ ⟨a, b, h1, h2, h3, h4, h5, h6, h7⟩ ag hag
      simp only at h1 h2 h5 h6 h7
      subst h1 h2
      show Sat (slices_DeleteFunc_sint_int_39.B1 100 (c : Int) _ ag cur a b) _
      unfold slices_DeleteFunc_sint_int_39.B1
      have hw : w64 ((b : Int) + 1) = ((b + 1 : Nat) : Int) := by rw [w64_succ (by omega) (by omega)]; simp
      have hwa : w64 ((a : Int) + 1) = ((a + 1 : Nat) : Int) := by rw [w64_succ (by omega) (by omega)]; simp
      refine sat_if (fun hlt => ?_) (fun hge => ?_)
      · have hb : b < cur.length := by omega
        have hb' : b < xs.length := by omega
        have hg : cur[b] = xs[b] := by
          have e1 := List.drop_eq_getElem_cons hb
          have e2 := List.drop_eq_getElem_cons hb'
          rw [h7, e2] at e1
          exact (List.cons.inj e1).1.symm
        have hd : cur.drop (b + 1) = xs.drop (b + 1) := by
          rw [← List.drop_drop, ← List.drop_drop, h7]
        refine sat_b (ix_get (by omega) (by simpa using hb)) ?_
        simp only [Int.toNat_natCast]
        rw [hg]
        have hr := hx xs[b] (List.getElem_mem _)
        refine sat_b (hp _ hr.1 hr.2) ?_
        have htk : xs.take (b + 1) = xs.take b ++ [xs[b]] := by rw [List.take_append_getElem]
        refine sat_if (fun hy => ?_) (fun hn => ?_)
        · rw [hw]
          refine hag _ ⟨a, b + 1, rfl, rfl, by omega, by omega, h5, ?_, hd⟩ (by simp only; omega)
          simp only
          rw [htk, List.filter_append, h6]
          simp [hy]
        · refine sat_b (ix_get (by omega) (by simp; omega)) ?_
          rw [hw, hwa]
          refine hag _ ⟨a + 1, b + 1, rfl, rfl, by omega, by omega, by simpa using h5, ?_, ?_⟩ (by simp only; omega)
          · simp only
            rw [htk, List.filter_append, ← h6, List.take_add_one, List.take_set_of_le (by omega), List.getElem?_set_self (by omega)]
            simp [hn]
          · simp only
            rw [List.drop_set_of_lt (by omega)]
            exact hd
      · have : b = xs.length := by omega
        subst this
        unfold slices_DeleteFunc_sint_int_39.J1
        dsimp only
        refine sat_b (must_eq (by omega)) (sat_b (must_eq (by simp; omega)) (sat_r ?_))
        simp only [Int.toNat_natCast]
        rw [List.take_append_of_le_length (by simp; omega), List.take_take, Nat.min_self, h6, List.take_length]
    · simp only
      rw [List.take_append_getElem (h := hk) |>.symm, List.filter_append]
      have : xs.take k = (xs.take k).filter (fun x => !c.testBit x.toNat) := by
        symm
        rw [List.filter_eq_self]
        intro x hx
        rw [List.mem_iff_getElem] at hx
        obtain ⟨q, hq, rfl⟩ := hx
        simp only [List.length_take] at hq
        have := hk2 q (by omega)
        simp only [List.getElem_take]
        simpa using this
      rw [← this]
      simp [hk1]
theorem memN_rng (m : Nat) : ∀ x ∈ memN m, 0 ≤ x ∧ x < 7 := by
  intro x hx
  unfold memN at hx
  simp only [List.mem_append] at hx
  rcases hx with h | h | h | h | h | h | h <;> (split at h <;> simp at h) <;> omega
theorem without_eq {m c : Nat} (hm : m < 128) (hc : c < 128) : gath_without.f 100 (m : Int) (c : Int) = some (memN (compN m c)) := by
  unfold gath_without.f
  rw [members_small (by omega)]
  simp only [Option.bind_some]
  have hl : (memN m).length ≤ 7 := by
    have h : ∀ m : Fin 128, (memN m).length ≤ 7 := by decide +kernel
    exact h ⟨m, hm⟩
  rw [del_eq hc (memN_rng m) (by omega)]
  simp only [Option.bind_some]
  congr 1
  have bit : ∀ q : Nat, q < 7 → (compN m c).testBit q = (m.testBit q && !c.testBit q) := fun q hq => by
    unfold compN
    rw [Nat.testBit_and, Nat.testBit_xor]
    have : ∀ q : Fin 7, (127 : Nat).testBit q = true := by decide
    rw [this ⟨q, hq⟩]
    cases m.testBit q <;> cases c.testBit q <;> rfl
  unfold memN
  simp only [List.filter_append]
  rw [bit 0 (by omega), bit 1 (by omega), bit 2 (by omega), bit 3 (by omega), bit 4 (by omega), bit 5 (by omega), bit 6 (by omega)]
  have one : ∀ q : Nat, (if m.testBit q = true then [(q : Int)] else []).filter (fun x => !c.testBit x.toNat) = if (m.testBit q && !c.testBit q) = true then [(q : Int)] else [] := fun q => by
    cases h1 : m.testBit q <;> cases h2 : c.testBit q <;> simp [h2]
  rw [one, one, one, one, one, one, one]
theorem bandn_eq {m c : Nat} (hm : m < 128) (hc : c < 128) : bandn .i64 (m : Int) (c : Int) = (compN m c : Int) := by
  have h : ∀ m : Fin 128, ∀ c : Fin 128, bandn .i64 ((m : Nat) : Int) ((c : Nat) : Int) = (compN m c : Int) := by decide +kernel
  exact h ⟨m, hm⟩ ⟨c, hc⟩
theorem compN_lt {m c : Nat} (hm : m < 128) : compN m c < 128 := Nat.lt_of_le_of_lt Nat.and_le_left hm
theorem memN_nil {m : Nat} (hm : m < 128) : ((memN m).length = 0) ↔ m = 0 := by
  have h : ∀ m : Fin 128, ((memN m).length = 0) ↔ (m : Nat) = 0 := by decide +kernel
  exact h ⟨m, hm⟩
theorem memN_len {m : Nat} (hm : m < 128) : (memN m).length ≤ 7 := by
  have h : ∀ m : Fin 128, (memN m).length ≤ 7 := by decide +kernel
  exact h ⟨m, hm⟩
theorem memN_mem {m : Nat} (hm : m < 128) (k : Int) : k ∈ memN m ↔ 0 ≤ k ∧ k < 7 ∧ m.testBit k.toNat = true := by
  have h : ∀ m : Fin 128, ∀ k : Fin 7, ((k : Nat) : Int) ∈ memN m ↔ (m : Nat).testBit (k : Nat) = true := by decide +kernel
  have h2 : ∀ m : Fin 128, ∀ x ∈ memN m, 0 ≤ x ∧ x < 7 := by decide +kernel
  constructor
  · intro hk
    have := h2 ⟨m, hm⟩ k hk
    obtain ⟨q, rfl⟩ : ∃ q : Nat, k = q := ⟨k.toNat, by omega⟩
    exact ⟨this.1, this.2, (h ⟨m, hm⟩ ⟨q, by omega⟩).1 hk⟩
  · rintro ⟨h0, h1, h3⟩
    obtain ⟨q, rfl⟩ : ∃ q : Nat, k = q := ⟨k.toNat, by omega⟩
    exact (h ⟨m, hm⟩ ⟨q, by omega⟩).2 h3
theorem compN_bit {m c q : Nat} (hq : q < 7) : (compN m c).testBit q = (m.testBit q && !c.testBit q) := by
  unfold compN
  rw [Nat.testBit_and, Nat.testBit_xor]
  have : ∀ q : Fin 7, (127 : Nat).testBit q = true := by decide
  rw [this ⟨q, hq⟩]
  cases m.testBit q <;> cases c.testBit q <;> rfl
/-- A gather of n nodes, of which those of c came. -/
structure GI (n c : Nat) (g : gath_Gather) : Prop where
  n1 : 1 ≤ n
  n7 : n ≤ 7
  hn : g.n = n
  hc : g.come = c
  lt : c < 2 ^ n
  len : g.l.length < 90
theorem GI.c7 {n c : Nat} {g : gath_Gather} (h : GI n c g) : c < 128 := Nat.lt_of_lt_of_le h.lt (Nat.pow_le_pow_right (by decide) h.n7 : 2 ^ n ≤ 2 ^ 7)
def TakeOk (n c : Nat) (g : gath_Gather) (m : api_Msg) : Prop := g.is = false ∧ m.Kind = 2 ∧ m.View = g.v ∧ 0 ≤ m.From ∧ m.From < n ∧ c.testBit m.From.toNat = false
instance (n c : Nat) (g : gath_Gather) (m : api_Msg) : Decidable (TakeOk n c g m) := by unfold TakeOk; infer_instance
def takeG (g : gath_Gather) (c : Nat) (m : api_Msg) : gath_Gather := { g with l := g.l ++ [m], come := ((c ||| 2 ^ m.From.toNat : Nat) : Int) }
theorem take_yes {n c : Nat} {g : gath_Gather} (h : GI n c g) {m : api_Msg} (k : TakeOk n c g m) : gath_Gather_Take.f g.n g.id g.v g.l g.come g.ready g.commit.Kind g.commit.From g.commit.To g.commit.View g.commit.Inst g.commit.Len g.commit.Has g.commit.Members g.commit.Source g.commit.At g.commit.Total g.commit.Data g.commit.Hop g.commit.Seq g.commit.Have g.commit.Need g.commit.Index g.commit.Entry.Sess g.commit.Entry.Seq g.commit.Entry.Cmd.Kind g.commit.Entry.Cmd.Who g.commit.Entry.Cmd.Key g.commit.Entry.Cmd.Val g.commit.Entry.Cmd.Old g.is m = some (true, tG (takeG g c m)) := by
  obtain ⟨k1, k2, k3, k4, k5, k6⟩ := k
  have hc7 := h.c7
  have hl := h.len
  have hn7 := h.n7
  obtain ⟨f, hf⟩ : ∃ f : Nat, m.From = f := ⟨m.From.toNat, by omega⟩
  rw [hf, Int.toNat_natCast] at k6
  unfold gath_Gather_Take.f
  rw [if_neg (by rw [k1]; simp), if_pos k2, if_pos k3, if_neg (by omega), if_neg (by rw [h.hn]; omega), must_eq (by omega)]
  simp only [Option.bind_some]
  rw [h.hc, hf, bit_eq hc7 (by omega), k6]
  unfold gath_Gather_Take.J1
  rw [if_neg (by simp), must_eq (by omega)]
  simp only [Option.bind_some]
  rw [app_eq (by simp only [List.length_singleton]; omega)]
  simp only [Option.bind_some]
  rw [hf, or_bit hc7 (by omega)]
  unfold takeG
  rw [hf]
  rfl
theorem take_no {n c : Nat} {g : gath_Gather} (h : GI n c g) {m : api_Msg} (k : ¬ TakeOk n c g m) : gath_Gather_Take.f g.n g.id g.v g.l g.come g.ready g.commit.Kind g.commit.From g.commit.To g.commit.View g.commit.Inst g.commit.Len g.commit.Has g.commit.Members g.commit.Source g.commit.At g.commit.Total g.commit.Data g.commit.Hop g.commit.Seq g.commit.Have g.commit.Need g.commit.Index g.commit.Entry.Sess g.commit.Entry.Seq g.commit.Entry.Cmd.Kind g.commit.Entry.Cmd.Who g.commit.Entry.Cmd.Key g.commit.Entry.Cmd.Val g.commit.Entry.Cmd.Old g.is m = some (false, tG g) := by
  have hc7 := h.c7
  have hn7 := h.n7
  unfold gath_Gather_Take.f gath_Gather_Take.J1
  by_cases k1 : g.is = true
  · rw [if_pos k1, if_pos rfl]
  rw [if_neg k1]
  by_cases k2 : m.Kind = 2
  · rw [if_pos k2]
    by_cases k3 : m.View = g.v
    · rw [if_pos k3]
      by_cases k4 : m.From < 0
      · rw [if_pos k4, if_pos rfl]
      rw [if_neg k4]
      by_cases k5 : m.From ≥ g.n
      · rw [if_pos k5, if_pos rfl]
      rw [if_neg k5, must_eq (by omega)]
      simp only [Option.bind_some]
      obtain ⟨f, hf⟩ : ∃ f : Nat, m.From = f := ⟨m.From.toNat, by omega⟩
      have hfn : f < n := by rw [h.hn, hf] at k5; omega
      rw [h.hc, hf, bit_eq hc7 (by omega)]
      have : c.testBit f = true := by
        cases hb : c.testBit f with
        | true => rfl
        | false => exact absurd ⟨by simpa using k1, k2, k3, by omega, by omega, by rw [hf]; exact hb⟩ k
      rw [this, if_pos rfl, ← h.hc]
    · rw [if_neg k3, if_pos rfl]
  · rw [if_neg k2, if_pos rfl]
theorem GI.take {n c : Nat} {g : gath_Gather} (h : GI n c g) {m : api_Msg} (k : TakeOk n c g m) (hl : g.l.length < 89) : GI n (c ||| 2 ^ m.From.toNat) (takeG g c m) := by
  obtain ⟨k1, k2, k3, k4, k5, k6⟩ := k
  exact ⟨h.n1, h.n7, h.hn, rfl, or_lt h.lt (by omega), by unfold takeG; simp only [List.length_append, List.length_singleton]; omega⟩
def cmsg (g : gath_Gather) (r : Int × Int × Int × Bool) : api_Msg := ⟨3, g.id, 0, g.v, 0, r.2.2.1, false, r.1, r.2.1, 0, 0, ([] : List UInt8), 0, 0, ([] : List Int), ([] : List Int), 0, (⟨0, 0, (⟨0, 0, ([] : List UInt8), ([] : List UInt8), ([] : List UInt8)⟩ : api_Cmd)⟩ : api_Entry)⟩
def commitG (g : gath_Gather) (r : Int × Int × Int × Bool) : gath_Gather := { g with commit := cmsg g r, is := true }
theorem commit_was {g : gath_Gather} (h : g.is = true) : gath_Gather_Commit.f 100 g.n g.id g.v g.l g.come g.ready g.commit.Kind g.commit.From g.commit.To g.commit.View g.commit.Inst g.commit.Len g.commit.Has g.commit.Members g.commit.Source g.commit.At g.commit.Total g.commit.Data g.commit.Hop g.commit.Seq g.commit.Have g.commit.Need g.commit.Index g.commit.Entry.Sess g.commit.Entry.Seq g.commit.Entry.Cmd.Kind g.commit.Entry.Cmd.Who g.commit.Entry.Cmd.Key g.commit.Entry.Cmd.Val g.commit.Entry.Cmd.Old g.is = some (g.commit, true, tG g) := by
  unfold gath_Gather_Commit.f gath_Gather_Commit.J1
  rw [if_pos h]
theorem commit_yes {g : gath_Gather} {r : Int × Int × Int × Bool} (h : g.is = false) (hr : view_Choose.f 100 g.l g.n = some r) (hy : r.2.2.2 = true) : gath_Gather_Commit.f 100 g.n g.id g.v g.l g.come g.ready g.commit.Kind g.commit.From g.commit.To g.commit.View g.commit.Inst g.commit.Len g.commit.Has g.commit.Members g.commit.Source g.commit.At g.commit.Total g.commit.Data g.commit.Hop g.commit.Seq g.commit.Have g.commit.Need g.commit.Index g.commit.Entry.Sess g.commit.Entry.Seq g.commit.Entry.Cmd.Kind g.commit.Entry.Cmd.Who g.commit.Entry.Cmd.Key g.commit.Entry.Cmd.Val g.commit.Entry.Cmd.Old g.is = some (cmsg g r, true, tG (commitG g r)) := by
  unfold gath_Gather_Commit.f gath_Gather_Commit.J1
  rw [if_neg (by rw [h]; simp), hr]
  simp only [Option.bind_some]
  rw [if_pos hy]
  rfl
theorem commit_no {g : gath_Gather} {r : Int × Int × Int × Bool} (h : g.is = false) (hr : view_Choose.f 100 g.l g.n = some r) (hy : r.2.2.2 = false) : gath_Gather_Commit.f 100 g.n g.id g.v g.l g.come g.ready g.commit.Kind g.commit.From g.commit.To g.commit.View g.commit.Inst g.commit.Len g.commit.Has g.commit.Members g.commit.Source g.commit.At g.commit.Total g.commit.Data g.commit.Hop g.commit.Seq g.commit.Have g.commit.Need g.commit.Index g.commit.Entry.Sess g.commit.Entry.Seq g.commit.Entry.Cmd.Kind g.commit.Entry.Cmd.Who g.commit.Entry.Cmd.Key g.commit.Entry.Cmd.Val g.commit.Entry.Cmd.Old g.is = some (zmsg, false, tG g) := by
  unfold gath_Gather_Commit.f gath_Gather_Commit.J1
  rw [if_neg (by rw [h]; simp), hr]
  simp only [Option.bind_some]
  rw [if_neg (by rw [hy]; simp)]
  rfl
theorem absent_eq {n c : Nat} {g : gath_Gather} (h : GI n c g) : gath_Gather_Absent.f 100 g.n g.id g.v g.l g.come g.ready g.commit.Kind g.commit.From g.commit.To g.commit.View g.commit.Inst g.commit.Len g.commit.Has g.commit.Members g.commit.Source g.commit.At g.commit.Total g.commit.Data g.commit.Hop g.commit.Seq g.commit.Have g.commit.Need g.commit.Index g.commit.Entry.Sess g.commit.Entry.Seq g.commit.Entry.Cmd.Kind g.commit.Entry.Cmd.Who g.commit.Entry.Cmd.Key g.commit.Entry.Cmd.Val g.commit.Entry.Cmd.Old g.is = some (memN (compN (2 ^ n - 1) c)) := by
  have hn7 := h.n7
  have hp : 2 ^ n ≤ 2 ^ 7 := Nat.pow_le_pow_right (by decide) hn7
  have hp1 : 1 ≤ 2 ^ n := Nat.one_le_two_pow
  unfold gath_Gather_Absent.f
  rw [h.hn, must_eq (by omega)]
  simp only [Option.bind_some]
  rw [shl_bit (by omega), w64_id (by omega), h.hc, show ((2 ^ n : Nat) : Int) - 1 = ((2 ^ n - 1 : Nat) : Int) by omega, without_eq (by omega) h.c7]
  rfl
theorem all_eq {n c : Nat} {g : gath_Gather} (h : GI n c g) : gath_Gather_All.f 100 g.n g.id g.v g.l g.come g.ready g.commit.Kind g.commit.From g.commit.To g.commit.View g.commit.Inst g.commit.Len g.commit.Has g.commit.Members g.commit.Source g.commit.At g.commit.Total g.commit.Data g.commit.Hop g.commit.Seq g.commit.Have g.commit.Need g.commit.Index g.commit.Entry.Sess g.commit.Entry.Seq g.commit.Entry.Cmd.Kind g.commit.Entry.Cmd.Who g.commit.Entry.Cmd.Key g.commit.Entry.Cmd.Val g.commit.Entry.Cmd.Old g.is = some (decide (compN (2 ^ n - 1) c = 0)) := by
  have hn7 := h.n7
  have hp : 2 ^ n ≤ 2 ^ 7 := Nat.pow_le_pow_right (by decide) hn7
  unfold gath_Gather_All.f
  rw [absent_eq h]
  simp only [Option.bind_some]
  congr 1
  have := memN_nil (m := compN (2 ^ n - 1) c) (compN_lt (by omega))
  by_cases h0 : compN (2 ^ n - 1) c = 0
  · rw [decide_eq_true h0]; have := this.2 h0; simp [this]
  · rw [decide_eq_false h0]
    have : (memN (compN (2 ^ n - 1) c)).length ≠ 0 := fun h => h0 (this.1 h)
    have : ((memN (compN (2 ^ n - 1) c)).length : Int) ≠ 0 := by omega
    simpa using this
theorem unready_eq {m r : Nat} (hm : m < 128) (hr : r < 128) {g : gath_Gather} (h1 : g.commit.Members = m) (h2 : g.ready = r) : gath_Gather_Unready.f 100 g.n g.id g.v g.l g.come g.ready g.commit.Kind g.commit.From g.commit.To g.commit.View g.commit.Inst g.commit.Len g.commit.Has g.commit.Members g.commit.Source g.commit.At g.commit.Total g.commit.Data g.commit.Hop g.commit.Seq g.commit.Have g.commit.Need g.commit.Index g.commit.Entry.Sess g.commit.Entry.Seq g.commit.Entry.Cmd.Kind g.commit.Entry.Cmd.Who g.commit.Entry.Cmd.Key g.commit.Entry.Cmd.Val g.commit.Entry.Cmd.Old g.is = some (memN (compN m r)) := by
  unfold gath_Gather_Unready.f
  rw [h1, h2, without_eq hm hr]
  rfl
theorem done_eq {m r : Nat} (hm : m < 128) (hr : r < 128) {g : gath_Gather} (h1 : g.commit.Members = m) (h2 : g.ready = r) : gath_Gather_Done.f 100 g.n g.id g.v g.l g.come g.ready g.commit.Kind g.commit.From g.commit.To g.commit.View g.commit.Inst g.commit.Len g.commit.Has g.commit.Members g.commit.Source g.commit.At g.commit.Total g.commit.Data g.commit.Hop g.commit.Seq g.commit.Have g.commit.Need g.commit.Index g.commit.Entry.Sess g.commit.Entry.Seq g.commit.Entry.Cmd.Kind g.commit.Entry.Cmd.Who g.commit.Entry.Cmd.Key g.commit.Entry.Cmd.Val g.commit.Entry.Cmd.Old g.is = some (g.is && decide (compN m r = 0)) := by
  unfold gath_Gather_Done.f
  by_cases hi : g.is = true
  · rw [if_pos hi, unready_eq hm hr h1 h2, hi]
    simp only [Option.bind_some]
    congr 1
    have := memN_nil (m := compN m r) (compN_lt hm)
    by_cases h0 : compN m r = 0
    · rw [decide_eq_true h0]; have := this.2 h0; simp [this]
    · rw [decide_eq_false h0]
      have : (memN (compN m r)).length ≠ 0 := fun h => h0 (this.1 h)
      have : ((memN (compN m r)).length : Int) ≠ 0 := by omega
      simpa using this
  · rw [if_neg hi]
    simp only [Bool.not_eq_true] at hi
    rw [hi]
    rfl
def ReadyOk (m r : Nat) (g : gath_Gather) (k : Int) : Prop := g.is = true ∧ 0 ≤ k ∧ k < 7 ∧ m.testBit k.toNat = true ∧ r.testBit k.toNat = false
instance (m r : Nat) (g : gath_Gather) (k : Int) : Decidable (ReadyOk m r g k) := by unfold ReadyOk; infer_instance
def readyG (g : gath_Gather) (r : Nat) (k : Int) : gath_Gather := { g with ready := ((r ||| 2 ^ k.toNat : Nat) : Int) }
theorem ready_yes {m r : Nat} (hm : m < 128) (hr : r < 128) {g : gath_Gather} (h1 : g.commit.Members = m) (h2 : g.ready = r) {k : Int} (h : ReadyOk m r g k) : gath_Gather_Ready.f 100 g.n g.id g.v g.l g.come g.ready g.commit.Kind g.commit.From g.commit.To g.commit.View g.commit.Inst g.commit.Len g.commit.Has g.commit.Members g.commit.Source g.commit.At g.commit.Total g.commit.Data g.commit.Hop g.commit.Seq g.commit.Have g.commit.Need g.commit.Index g.commit.Entry.Sess g.commit.Entry.Seq g.commit.Entry.Cmd.Kind g.commit.Entry.Cmd.Who g.commit.Entry.Cmd.Key g.commit.Entry.Cmd.Val g.commit.Entry.Cmd.Old g.is k = some (true, tG (readyG g r k)) := by
  obtain ⟨k1, k2, k3, k4, k5⟩ := h
  obtain ⟨q, rfl⟩ : ∃ q : Nat, k = q := ⟨k.toNat, by omega⟩
  simp only [Int.toNat_natCast] at k4 k5
  have hl := memN_len (m := compN m r) (compN_lt hm)
  have hin : (q : Int) ∈ memN (compN m r) := (memN_mem (compN_lt hm) _).2 ⟨k2, k3, by simp only [Int.toNat_natCast]; rw [compN_bit (by omega), k4, k5]; rfl⟩
  unfold gath_Gather_Ready.f
  rw [if_pos k1, unready_eq hm hr h1 h2]
  simp only [Option.bind_some]
  rw [contains_int (by omega) (by omega), decide_eq_true hin]
  simp only [Option.bind_some]
  unfold gath_Gather_Ready.J1
  rw [if_neg (by simp), must_eq k2]
  simp only [Option.bind_some]
  rw [h2, or_bit hr (by omega)]
  rfl
theorem ready_no {m r : Nat} (hm : m < 128) (hr : r < 128) {g : gath_Gather} (h1 : g.commit.Members = m) (h2 : g.ready = r) {k : Int} (h : ¬ ReadyOk m r g k) : gath_Gather_Ready.f 100 g.n g.id g.v g.l g.come g.ready g.commit.Kind g.commit.From g.commit.To g.commit.View g.commit.Inst g.commit.Len g.commit.Has g.commit.Members g.commit.Source g.commit.At g.commit.Total g.commit.Data g.commit.Hop g.commit.Seq g.commit.Have g.commit.Need g.commit.Index g.commit.Entry.Sess g.commit.Entry.Seq g.commit.Entry.Cmd.Kind g.commit.Entry.Cmd.Who g.commit.Entry.Cmd.Key g.commit.Entry.Cmd.Val g.commit.Entry.Cmd.Old g.is k = some (false, tG g) := by
  have hl := memN_len (m := compN m r) (compN_lt hm)
  unfold gath_Gather_Ready.f gath_Gather_Ready.J1
  by_cases hi : g.is = true
  · rw [if_pos hi, unready_eq hm hr h1 h2]
    simp only [Option.bind_some]
    rw [contains_int (by omega) (by omega)]
    have hin : ¬ k ∈ memN (compN m r) := fun hk => by
      have := (memN_mem (compN_lt hm) k).1 hk
      obtain ⟨e1, e2, e3⟩ := this
      obtain ⟨q, rfl⟩ : ∃ q : Nat, k = q := ⟨k.toNat, by omega⟩
      simp only [Int.toNat_natCast] at e3
      rw [compN_bit (by omega)] at e3
      simp only [Bool.and_eq_true, Bool.not_eq_true'] at e3
      exact h ⟨hi, e1, e2, e3.1, e3.2⟩
    rw [decide_eq_false hin]
    simp only [Option.bind_some]
    rw [if_pos (by simp)]
  · rw [if_neg hi, if_pos rfl]
theorem firstsF_sub (n : Nat) (l : List api_Msg) : ∀ m ∈ (firstsF n l).1, m ∈ l := by
  unfold firstsF
  have : ∀ (l : List api_Msg) (s : List api_Msg × Nat), ∀ m ∈ (l.foldl (stepF n) s).1, m ∈ s.1 ∨ m ∈ l := by
    intro l
    induction l with
    | nil => intro s m hm; exact .inl hm
    | cons a l ih =>
      intro s m hm
      rw [List.foldl_cons] at hm
      rcases ih _ m hm with h | h
      · unfold stepF at h
        split at h
        · simp only [List.mem_append, List.mem_singleton] at h
          rcases h with h | rfl
          · exact .inl h
          · exact .inr (by simp)
        · exact .inl h
      · exact .inr (List.mem_cons_of_mem _ h)
  intro m hm
  rcases this l ([], 0) m hm with h | h
  · simp at h
  · exact h
/-- A new one. -/
def newG (n i : Nat) (v : Int) (own : api_Msg) : gath_Gather := ⟨n, i, v, [{ own with Kind := 2, From := i }], ((2 ^ i : Nat) : Int), 0, zmsg, false⟩
theorem new_eq {n i : Nat} (hi : i < n) (hn : n ≤ 7) (v : Int) (own : api_Msg) : gath_New.f (n : Int) (i : Int) v own = some (tG (newG n i v own)) := by
  unfold gath_New.f
  have e1 : mn (mx (n : Int) 1) 7 = n := by simp only [mn_eq, mx_eq]; omega
  rw [e1, w64_id (by omega)]
  have e2 : mn (mx (i : Int) 0) ((n : Int) - 1) = i := by simp only [mn_eq, mx_eq]; omega
  rw [e2, must_eq (by omega)]
  simp only [Option.bind_some]
  rw [shl_bit (by omega)]
  rfl
theorem GI.new {n i : Nat} (hi : i < n) (hn : n ≤ 7) (v : Int) (own : api_Msg) : GI n (2 ^ i) (newG n i v own) := ⟨by omega, hn, rfl, rfl, Nat.pow_lt_pow_right (by decide) hi, by simp [newG]⟩
end Go.Gp
