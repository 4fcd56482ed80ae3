/- What the statements say, of the plain functions. -/
import Derived.Test.YteojmbigbifklaaDefs
import Derived.Test.YteojmbigbifklaaLe
import Derived.Test.YteojmbigbifklaaThMsg
/- Layer 20: who waits, as the document says. -/
namespace Go.Gp
open Go
theorem awake20 : hocketlaw20_awake.f 100 = some () := by decide +kernel
def toR (x : wait_call) : hocketref15_call := ⟨x.e, x.sent⟩
def isE (e : api_Entry) (x : wait_call) : Bool := decide (x.e.Sess = e.Sess) && decide (x.e.Seq = e.Seq)
theorem still_eq {e : api_Entry} (h : CmdOk e.Cmd) : mach_StillEntry.f e = some e := by
  obtain ⟨h1, h2, h3⟩ := h
  unfold mach_StillEntry.f slices_Clone_sbyte_byte.f
  rw [app_eq (by simp only [List.length_nil]; omega), app_eq (by simp only [List.length_nil]; omega), app_eq (by simp only [List.length_nil]; omega)]
  simp
def posE (l : List wait_call) (e : api_Entry) : Option Nat := l.findIdx? (isE e)
theorem find_eq {l : List wait_call} (hl : l.length < 90) (d : List api_Reply) (e : api_Entry) : wait_Calls_find.f 100 l d e = some (match posE l e with | some k => (k : Int) | none => -1) := by
  unfold wait_Calls_find.f slices_IndexFunc_shocket_wait_call_hocket_wait_call_53.f
  have := find_iter (xs := l) (p := isE e) (f := fun again v => slices_IndexFunc_shocket_wait_call_hocket_wait_call_53.B1 100 l e.Sess e.Seq e.Cmd.Kind e.Cmd.Who e.Cmd.Key e.Cmd.Val e.Cmd.Old (fun v => slices_IndexFunc_shocket_wait_call_hocket_wait_call_53.J1 100) again v) (fun ag i h => by
    unfold slices_IndexFunc_shocket_wait_call_hocket_wait_call_53.B1
    rw [if_pos (by omega), ix_get (by omega) (by simpa using h)]
    simp only [Option.bind_some, Int.toNat_natCast]
    have hf : wait_Calls_find_1.f l[i] e.Sess e.Seq e.Cmd.Kind e.Cmd.Who e.Cmd.Key e.Cmd.Val e.Cmd.Old = some (isE e l[i]) := by
      unfold wait_Calls_find_1.f isE
      by_cases h1 : l[i].e.Sess = e.Sess
      · rw [if_pos h1, decide_eq_true h1]; rfl
      · rw [if_neg h1, decide_eq_false h1]; rfl
    rw [hf]
    simp only [Option.bind_some]
    rw [w64_succ (by omega) (by omega)]
    rfl) (fun ag => by
    unfold slices_IndexFunc_shocket_wait_call_hocket_wait_call_53.B1
    rw [if_neg (by omega)]
    rfl) l.length 0 100 (by omega) (by omega)
  rw [List.drop_zero] at this
  have h2 : slices_IndexFunc_shocket_wait_call_hocket_wait_call_53.L1 100 l e.Sess e.Seq e.Cmd.Kind e.Cmd.Who e.Cmd.Key e.Cmd.Val e.Cmd.Old (fun v => slices_IndexFunc_shocket_wait_call_hocket_wait_call_53.J1 100) 100 0 = some (match posE l e with | some k => (k : Int) | none => -1) := by
    refine Eq.trans this ?_
    unfold posE
    cases l.findIdx? (isE e) with
    | none => rfl
    | some k => simp
  rw [h2]
  rfl
theorem pos_some {l : List wait_call} {e : api_Entry} {k : Nat} (h : posE l e = some k) : ∃ hk : k < l.length, isE e l[k] = true ∧ ∀ j, (hj : j < k) → isE e (l[j]'(by omega)) = false := by
  unfold posE at h
  rw [List.findIdx?_eq_some_iff_getElem] at h
  obtain ⟨h1, h2, h3⟩ := h
  exact ⟨h1, h2, fun j hj => by simpa using h3 j hj⟩
theorem pos_none {l : List wait_call} {e : api_Entry} (h : posE l e = none) : ∀ x ∈ l, isE e x = false := by
  unfold posE at h
  rw [List.findIdx?_eq_none_iff] at h
  exact h
/-! ### calling -/
def callS (l : List wait_call) (e : api_Entry) : Bool × List wait_call := if (posE l e).isSome then (true, l) else if l.length ≥ 8 then (false, l) else (true, l ++ [⟨e, false⟩])
theorem call_eq {l : List wait_call} (hl : l.length ≤ 8) (d : List api_Reply) {e : api_Entry} (he : CmdOk e.Cmd) : wait_Calls_Call.f 100 l d e = some ((callS l e).1, (callS l e).2, d) := by
  unfold wait_Calls_Call.f callS
  rw [find_eq (by omega)]
  simp only [Option.bind_some]
  cases posE l e with
  | some k =>
    simp only [Option.isSome_some, if_true]
    rw [if_pos (by omega)]
  | none =>
    simp only [Option.isSome_none, Bool.false_eq_true, if_false]
    rw [if_neg (by omega)]
    by_cases h8 : l.length ≥ 8
    · rw [if_pos (by omega), if_pos h8]
    · rw [if_neg (by omega), if_neg h8, still_eq he]
      simp only [Option.bind_some]
      rw [app_eq (by simp only [List.length_singleton]; omega)]
      rfl
theorem callr_eq {l : List wait_call} (hl : l.length ≤ 8) (d : List api_Reply) (e : api_Entry) : hocketref15_Calls_Call.f 100 (l.map toR) d e = some ((callS l e).1, (callS l e).2.map toR, d) := by
  suffices h : Sat (hocketref15_Calls_Call.f 100 (l.map toR) d e) (fun r => r = ((callS l e).1, (callS l e).2.map toR, d)) by
    obtain ⟨r, h1, h2⟩ := h; rw [h1, h2]
  unfold hocketref15_Calls_Call.f
  refine sat_loop (fun v : Int => ((l.length : Int) - v).toNat) (fun v => ∃ i : Nat, v = i ∧ i ≤ l.length ∧ ∀ j, (hj : j < i) → (hj2 : j < l.length) → isE e l[j] = false) ?_ 100 _ ⟨0, rfl, by omega, fun j hj => by omega⟩ (by omega)
  rintro j ⟨i, rfl, h2, h3⟩ ag hag
  show Sat (hocketref15_Calls_Call.B1 100 (l.map toR) e d _ ag _) _
  unfold hocketref15_Calls_Call.B1
  have hw : w64 ((i : Int) + 1) = ((i + 1 : Nat) : Int) := by rw [w64_succ (by omega) (by omega)]; simp
  rw [List.length_map]
  refine sat_if (fun hlt => ?_) (fun hge => ?_)
  · have hi : i < l.length := by omega
    have hix : ix (l.map toR) (i : Int) = some (toR l[i]) := ix_eq (by omega) (by simp [hi])
    have two : ∀ b : Bool, b = isE e l[i] → Sat (hocketref15_Calls_Call.J2 100 (l.map toR) d ag i b) (fun r => r = ((callS l e).1, (callS l e).2.map toR, d)) := fun b hb => by
      unfold hocketref15_Calls_Call.J2
      refine sat_if (fun hy => sat_r ?_) (fun hn => ?_)
      · unfold callS
        have : (posE l e).isSome = true := by
          cases hp : posE l e with
          | some k => rfl
          | none => have := pos_none hp l[i] (List.getElem_mem _); rw [← hb, hy] at this; cases this
        rw [if_pos this]
      · rw [hw]
        refine hag _ ⟨i + 1, rfl, by omega, fun j hj hj2 => ?_⟩ (by omega)
        by_cases hji : j = i
        · subst hji; rw [← hb]; simpa using hn
        · exact h3 j (by omega) hj2
    refine sat_b hix (sat_if (fun h1 => ?_) (fun h1 => ?_))
    · refine sat_b hix (two _ ?_)
      have h1 : l[i].e.Sess = e.Sess := h1
      unfold isE
      rw [decide_eq_true h1]
      show (l[i].e.Seq == e.Seq) = _
      rw [Bool.true_and]
      rfl
    · refine two _ ?_
      have h1 : ¬ l[i].e.Sess = e.Sess := h1
      unfold isE
      rw [decide_eq_false h1]
      rfl
  · have : i = l.length := by omega
    subst this
    have hp : posE l e = none := by
      cases hp : posE l e with
      | none => rfl
      | some k =>
        obtain ⟨h4, h5, _⟩ := pos_some hp
        rw [h3 k h4 h4] at h5
        cases h5
    unfold hocketref15_Calls_Call.J1 callS
    rw [hp, List.length_map]
    simp only [Option.isSome_none, Bool.false_eq_true, if_false]
    by_cases h8 : l.length ≥ 8
    · rw [if_pos (by omega), if_pos h8]
      exact sat_r rfl
    · rw [if_neg (by omega), if_neg h8]
      refine sat_b (app_eq (by simp; omega)) (sat_b (app_eq (by simp; omega)) (sat_r ?_))
      simp [toR]
/-! ### done -/
def doneS (l : List wait_call) (d : List api_Reply) (x : api_Done) : Bool × List wait_call × List api_Reply := match posE l x.Entry with
  | some k => (true, l.take k ++ l.drop (k + 1), d ++ [⟨x.Entry.Sess, x.Entry.Seq, x.Result⟩])
  | none => (false, l, d)
theorem done_eq {l : List wait_call} (hl : l.length ≤ 8) {d : List api_Reply} (hd : d.length < 90) {x : api_Done} (hx : x.Result.Val = []) : wait_Calls_Done.f 100 l d x = some (doneS l d x) := by
  unfold wait_Calls_Done.f doneS
  rw [find_eq (by omega)]
  simp only [Option.bind_some]
  cases hp : posE l x.Entry with
  | none => rfl
  | some k =>
    obtain ⟨hk, _, _⟩ := pos_some hp
    simp only
    rw [if_neg (by omega)]
    unfold slices_Delete_shocket_wait_call_hocket_wait_call.f
    have hw : w64 ((k : Int) + 1) = ((k + 1 : Nat) : Int) := by rw [w64_succ (by omega) (by omega)]; simp
    rw [hw, must_eq (by omega)]
    simp only [Option.bind_some]
    rw [if_neg (by omega)]
    unfold slices_Clone_sbyte_byte.f
    rw [hx, app_eq (by simp)]
    simp only [Option.bind_some, Int.toNat_natCast]
    rw [app_eq (by simp only [List.length_singleton]; omega)]
    simp only [Option.bind_some, List.nil_append]
    rw [← hx]
theorem doner_eq {l : List wait_call} (hl : l.length ≤ 8) {d : List api_Reply} (hd : d.length < 90) (x : api_Done) : hocketref15_Calls_Done.f 100 (l.map toR) d x = some ((doneS l d x).1, (doneS l d x).2.1.map toR, (doneS l d x).2.2) := by
  suffices h : Sat (hocketref15_Calls_Done.f 100 (l.map toR) d x) (fun r => r = ((doneS l d x).1, (doneS l d x).2.1.map toR, (doneS l d x).2.2)) by
    obtain ⟨r, h1, h2⟩ := h; rw [h1, h2]
  unfold hocketref15_Calls_Done.f
  refine sat_loop (fun v : Int => ((l.length : Int) - v).toNat) (fun v => ∃ i : Nat, v = i ∧ i ≤ l.length ∧ ∀ j, (hj : j < i) → (hj2 : j < l.length) → isE x.Entry l[j] = false) ?_ 100 _ ⟨0, rfl, by omega, fun j hj => by omega⟩ (by omega)
  rintro j ⟨i, rfl, h2, h3⟩ ag hag
  show Sat (hocketref15_Calls_Done.B1 100 (l.map toR) x d _ ag _) _
  unfold hocketref15_Calls_Done.B1
  have hw : w64 ((i : Int) + 1) = ((i + 1 : Nat) : Int) := by rw [w64_succ (by omega) (by omega)]; simp
  rw [List.length_map]
  refine sat_if (fun hlt => ?_) (fun hge => ?_)
  · have hi : i < l.length := by omega
    have hix : ix (l.map toR) (i : Int) = some (toR l[i]) := ix_eq (by omega) (by simp [hi])
    have two : ∀ b : Bool, b = isE x.Entry l[i] → Sat (hocketref15_Calls_Done.J2 100 (l.map toR) i d x ag b) (fun r => r = ((doneS l d x).1, (doneS l d x).2.1.map toR, (doneS l d x).2.2)) := fun b hb => by
      unfold hocketref15_Calls_Done.J2
      refine sat_if (fun hy => ?_) (fun hn => ?_)
      · have hp : posE l x.Entry = some i := by
          unfold posE
          rw [List.findIdx?_eq_some_iff_getElem]
          exact ⟨hi, by rw [← hb, hy], fun j hj => by rw [h3 j hj (by omega)]; simp⟩
        rw [hw]
        refine sat_b (cut_eq (by simp only [List.length_map]; omega)) (sat_b (app_eq (by simp; omega)) (sat_b (cut_eq (by simp only [List.length_map]; omega)) (sat_b (app_eq (by simp; omega)) ?_)))
        unfold hocketref15_Calls_Done.J3
        refine sat_b (app_eq (by simp only [List.length_singleton]; omega)) ?_
        unfold hocketref15_Calls_Done.J4
        refine sat_r ?_
        unfold doneS
        rw [hp]
        simp only [Int.toNat_natCast, List.nil_append, Int.toNat_zero, List.drop_zero]
        rw [List.map_append, List.map_take, List.map_drop, List.length_map]
        rw [show (l.map toR).take l.length = l.map toR by rw [← List.length_map (as := l) (f := toR), List.take_length]]
      · rw [hw]
        refine hag _ ⟨i + 1, rfl, by omega, fun j hj hj2 => ?_⟩ (by omega)
        by_cases hji : j = i
        · subst hji; rw [← hb]; simpa using hn
        · exact h3 j (by omega) hj2
    refine sat_b hix (sat_if (fun h1 => ?_) (fun h1 => ?_))
    · refine sat_b hix (two _ ?_)
      have h1 : l[i].e.Sess = x.Entry.Sess := h1
      unfold isE
      rw [decide_eq_true h1]
      show (l[i].e.Seq == x.Entry.Seq) = _
      rw [Bool.true_and]
      rfl
    · refine two _ ?_
      have h1 : ¬ l[i].e.Sess = x.Entry.Sess := h1
      unfold isE
      rw [decide_eq_false h1]
      rfl
  · have : i = l.length := by omega
    subst this
    have hp : posE l x.Entry = none := by
      cases hp : posE l x.Entry with
      | none => rfl
      | some k =>
        obtain ⟨h4, h5, _⟩ := pos_some hp
        rw [h3 k h4 h4] at h5
        cases h5
    show Sat (hocketref15_Calls_Done.J1 100 (l.map toR) d) _
    unfold hocketref15_Calls_Done.J1
    refine sat_r ?_
    unfold doneS
    rw [hp]
/-! ### next -/
def nextL (n : Int) : Int → List wait_call → List api_Entry × List wait_call
  | _, [] => ([], [])
  | k, x :: l => if x.sent = false ∧ k < n then (x.e :: (nextL n (k + 1) l).1, ⟨x.e, true⟩ :: (nextL n (k + 1) l).2) else ((nextL n k l).1, x :: (nextL n k l).2)
theorem nextL_cons (n k : Int) (x : wait_call) (l : List wait_call) : nextL n k (x :: l) = if x.sent = false ∧ k < n then (x.e :: (nextL n (k + 1) l).1, ⟨x.e, true⟩ :: (nextL n (k + 1) l).2) else ((nextL n k l).1, x :: (nextL n k l).2) := rfl
theorem nextL_stop (n : Int) : ∀ (l : List wait_call) (k : Int), n ≤ k → nextL n k l = ([], l)
  | [], k, _ => rfl
  | x :: l, k, h => by
    unfold nextL
    rw [if_neg (by omega), nextL_stop n l k h]
theorem nextL_len (n : Int) : ∀ (l : List wait_call) (k : Int), (nextL n k l).2.length = l.length ∧ (nextL n k l).1.length ≤ l.length
  | [], k => by simp [nextL]
  | x :: l, k => by
    unfold nextL
    have h1 := nextL_len n l (k + 1)
    have h2 := nextL_len n l k
    split
    · simp only [List.length_cons]; omega
    · simp only [List.length_cons]; omega
theorem nextL_ok (n : Int) : ∀ (l : List wait_call) (k : Int), (∀ x ∈ l, CmdOk x.e.Cmd) → (∀ x ∈ (nextL n k l).2, CmdOk x.e.Cmd)
  | [], k, _ => by simp [nextL]
  | x :: l, k, h => by
    unfold nextL
    have h1 := nextL_ok n l (k + 1) (fun y hy => h y (List.mem_cons_of_mem _ hy))
    have h2 := nextL_ok n l k (fun y hy => h y (List.mem_cons_of_mem _ hy))
    have h0 := h x (by simp)
    split
    · intro y hy
      simp only [List.mem_cons] at hy
      rcases hy with rfl | hy
      · exact h0
      · exact h1 y hy
    · intro y hy
      simp only [List.mem_cons] at hy
      rcases hy with rfl | hy
      · exact h0
      · exact h2 y hy
theorem drop_of {α : Type} {cur l : List α} {i : Nat} (h : cur.drop i = l.drop i) (hl : cur.length = l.length) (hi : i < l.length) : cur[i]'(by omega) = l[i] ∧ cur.drop (i + 1) = l.drop (i + 1) := by
  have e1 := List.drop_eq_getElem_cons (l := cur) (i := i) (by omega)
  have e2 := List.drop_eq_getElem_cons hi
  rw [h, e2] at e1
  exact ⟨(List.cons.inj e1).1.symm, (List.cons.inj e1).2.symm⟩
theorem next_eq {l : List wait_call} (hl : l.length ≤ 8) (hok : ∀ x ∈ l, CmdOk x.e.Cmd) (d : List api_Reply) (n : Int) : wait_Calls_Next.f 100 l d n = some ((nextL n 0 l).1, (nextL n 0 l).2, d) := by
  suffices h : Sat (wait_Calls_Next.f 100 l d n) (fun r => r = ((nextL n 0 l).1, (nextL n 0 l).2, d)) by
    obtain ⟨r, h1, h2⟩ := h; rw [h1, h2]
  unfold wait_Calls_Next.f
  refine sat_loop (fun v : List api_Entry × List wait_call × Int => ((l.length : Int) - v.2.2).toNat) (fun v => ∃ i : Nat, v.2.2 = i ∧ i ≤ l.length ∧ v.1.length ≤ i ∧ v.2.1.length = l.length ∧ v.2.1.drop i = l.drop i ∧ v.1 ++ (nextL n (v.1.length : Int) (l.drop i)).1 = (nextL n 0 l).1 ∧ v.2.1.take i ++ (nextL n (v.1.length : Int) (l.drop i)).2 = (nextL n 0 l).2) ?_ 100 _ ⟨0, rfl, by omega, by simp, rfl, rfl, by simp, by simp⟩ (by simp only; omega)
  rintro ⟨out, cur, j⟩ ⟨i, h1, h2, h3, h4, h5, h6, h7⟩ ag hag
  simp only at h1 h2 h3 h4 h5 h6 h7
  subst h1
  show Sat (wait_Calls_Next.B1 100 l n _ ag out cur i) _
  unfold wait_Calls_Next.B1
  have hw : w64 ((i : Int) + 1) = ((i + 1 : Nat) : Int) := by rw [w64_succ (by omega) (by omega)]; simp
  refine sat_if (fun hlt => ?_) (fun hge => ?_)
  · have hi : i < l.length := by omega
    obtain ⟨hg, hd⟩ := drop_of h5 h4 hi
    have hix : ix cur (i : Int) = some l[i] := ix_eq (by omega) (by rw [← hg]; simp [h4, hi])
    refine sat_b hix ?_
    rw [List.drop_eq_getElem_cons hi, nextL_cons] at h6 h7
    have skip : ¬ (l[i].sent = false ∧ (out.length : Int) < n) → Sat (wait_Calls_Next.J2 100 cur i l[i] out ag false) _ := fun hs => by
      unfold wait_Calls_Next.J2
      rw [if_neg hs] at h6 h7
      refine sat_f (by simp) ?_
      rw [hw]
      refine hag _ ⟨i + 1, rfl, by omega, by simp only; omega, h4, hd, h6, ?_⟩ (by simp only; omega)
      simp only
      rw [← List.take_append_getElem (l := cur) (i := i) (by omega), hg, List.append_assoc]
      exact h7
    refine sat_if (fun hs => skip (by rw [hs]; simp)) (fun hs => ?_)
    by_cases hn : (out.length : Int) < n
    · rw [decide_eq_true hn]
      have hs' : l[i].sent = false := by simpa using hs
      rw [if_pos ⟨hs', hn⟩] at h6 h7
      unfold wait_Calls_Next.J2
      refine sat_t rfl (sat_b hix (sat_b (still_eq (hok _ (List.getElem_mem _))) (sat_b (app_eq (by simp only [List.length_singleton]; omega)) ?_)))
      rw [hw]
      refine hag _ ⟨i + 1, rfl, by omega, by simp; omega, by simpa using h4, ?_, ?_, ?_⟩ (by simp only; omega)
      · simp only [Int.toNat_natCast]
        rw [List.drop_set_of_lt (by omega)]
        exact hd
      · simp only [List.length_append, List.length_singleton, List.append_assoc, List.singleton_append]
        rw [show ((out.length + 1 : Nat) : Int) = (out.length : Int) + 1 by omega]
        exact h6
      · simp only [List.length_append, List.length_singleton, Int.toNat_natCast]
        rw [show ((out.length + 1 : Nat) : Int) = (out.length : Int) + 1 by omega]
        rw [List.take_add_one, List.take_set_of_le (by omega), List.getElem?_set_self (by omega), List.append_assoc]
        exact h7
    · rw [decide_eq_false hn]
      exact skip (fun h => hn h.2)
  · have : i = l.length := by omega
    subst this
    rw [List.drop_length] at h6 h7
    simp only [nextL, List.append_nil] at h6 h7
    rw [← h4, List.take_length] at h7
    show Sat (wait_Calls_Next.J1 100 d out cur) _
    unfold wait_Calls_Next.J1
    exact sat_r (by rw [h6, h7])
theorem nextr_eq {l : List wait_call} (hl : l.length ≤ 8) (d : List api_Reply) (n : Int) : hocketref15_Calls_Next.f 100 (l.map toR) d n = some ((nextL n 0 l).1, (nextL n 0 l).2.map toR, d) := by
  suffices h : Sat (hocketref15_Calls_Next.f 100 (l.map toR) d n) (fun r => r = ((nextL n 0 l).1, (nextL n 0 l).2.map toR, d)) by
    obtain ⟨r, h1, h2⟩ := h; rw [h1, h2]
  unfold hocketref15_Calls_Next.f
  refine sat_loop (fun v : List api_Entry × Int × List hocketref15_call => ((l.length : Int) - v.2.1).toNat) (fun v => ∃ (i : Nat) (cur : List wait_call), v.2.1 = i ∧ v.2.2 = cur.map toR ∧ i ≤ l.length ∧ v.1.length ≤ i ∧ cur.length = l.length ∧ cur.drop i = l.drop i ∧ v.1 ++ (nextL n (v.1.length : Int) (l.drop i)).1 = (nextL n 0 l).1 ∧ cur.take i ++ (nextL n (v.1.length : Int) (l.drop i)).2 = (nextL n 0 l).2) ?_ 100 _ ⟨0, l, rfl, rfl, by omega, by simp, rfl, rfl, by simp, by simp⟩ (by simp only; omega)
  rintro ⟨out, j, cr⟩ ⟨i, cur, h1, hcr, h2, h3, h4, h5, h6, h7⟩ ag hag
  simp only at h1 hcr h2 h3 h6 h7
  subst h1 hcr
  show Sat (hocketref15_Calls_Next.B1 100 n _ ag out i (cur.map toR)) _
  unfold hocketref15_Calls_Next.B1
  have hw : w64 ((i : Int) + 1) = ((i + 1 : Nat) : Int) := by rw [w64_succ (by omega) (by omega)]; simp
  rw [List.length_map]
  have fin : (l.length ≤ i ∨ n ≤ (out.length : Int)) → Sat (hocketref15_Calls_Next.J2 100 (cur.map toR) i ag out (fun v => hocketref15_Calls_Next.J1 100 d v.1 v.2) false) (fun r => r = ((nextL n 0 l).1, (nextL n 0 l).2.map toR, d)) := fun he => by
    unfold hocketref15_Calls_Next.J2
    refine sat_f (by simp) ?_
    show Sat (hocketref15_Calls_Next.J1 100 d out (cur.map toR)) _
    unfold hocketref15_Calls_Next.J1
    have hs : nextL n (out.length : Int) (l.drop i) = ([], l.drop i) := by
      rcases he with h | h
      · rw [List.drop_eq_nil_of_le h]; rfl
      · exact nextL_stop n _ _ h
    rw [hs] at h6 h7
    simp only [List.append_nil] at h6
    simp only at h7
    rw [← h5, List.take_append_drop] at h7
    exact sat_r (by rw [h6, h7])
  refine sat_if (fun hlt => ?_) (fun hge => fin (.inl (by omega)))
  by_cases hn : (out.length : Int) < n
  · rw [decide_eq_true hn]
    unfold hocketref15_Calls_Next.J2
    refine sat_t rfl ?_
    have hi : i < l.length := by omega
    obtain ⟨hg, hd⟩ := drop_of h5 h4 hi
    have hix : ix (cur.map toR) (i : Int) = some (toR l[i]) := ix_eq (by omega) (by rw [← hg]; simp [h4, hi])
    rw [List.drop_eq_getElem_cons hi, nextL_cons] at h6 h7
    refine sat_b hix (sat_if (fun hs => ?_) (fun hs => ?_))
    · have hs' : l[i].sent = true := hs
      rw [if_neg (by rw [hs']; simp)] at h6 h7
      rw [hw]
      refine hag _ ⟨i + 1, cur, rfl, rfl, by omega, by simp only; omega, h4, hd, h6, ?_⟩ (by simp only; omega)
      rw [← List.take_append_getElem (l := cur) (i := i) (by omega), hg, List.append_assoc]
      exact h7
    · have hs' : l[i].sent = false := by simpa [toR] using hs
      rw [if_pos ⟨hs', hn⟩] at h6 h7
      refine sat_b hix ?_
      have hset : (cur.map toR).set (i : Int).toNat (⟨(toR l[i]).e, true⟩ : hocketref15_call) = (cur.set i ⟨l[i].e, true⟩).map toR := by
        rw [List.map_set, Int.toNat_natCast]
        rfl
      rw [hset]
      refine sat_b (ix_eq (x := toR ⟨l[i].e, true⟩) (by omega) (by simp [h4, hi])) (sat_b (app_eq (by simp only [List.length_singleton]; omega)) ?_)
      rw [hw]
      refine hag _ ⟨i + 1, cur.set i ⟨l[i].e, true⟩, rfl, rfl, by omega, by simp; omega, by simpa using h4, ?_, ?_, ?_⟩ (by simp only; omega)
      · rw [List.drop_set_of_lt (by omega)]
        exact hd
      · simp only [List.length_append, List.length_singleton, List.append_assoc, List.singleton_append]
        rw [show ((out.length + 1 : Nat) : Int) = (out.length : Int) + 1 by omega]
        exact h6
      · simp only [List.length_append, List.length_singleton]
        rw [show ((out.length + 1 : Nat) : Int) = (out.length : Int) + 1 by omega]
        rw [List.take_add_one, List.take_set_of_le (by omega), List.getElem?_set_self (by omega), List.append_assoc]
        exact h7
  · rw [decide_eq_false hn]
    exact fin (.inr (by omega))
/-! ### again -/
def againS (l : List wait_call) : List wait_call := l.map fun x => ⟨x.e, false⟩
theorem again_eq {l : List wait_call} (hl : l.length ≤ 8) (d : List api_Reply) : wait_Calls_Again.f 100 l d = some (againS l, d) := by
  suffices h : Sat (wait_Calls_Again.f 100 l d) (fun r => r = (againS l, d)) by
    obtain ⟨r, h1, h2⟩ := h; rw [h1, h2]
  unfold wait_Calls_Again.f
  refine sat_loop (fun v : Int × List wait_call => ((l.length : Int) - v.1).toNat) (fun v => ∃ i : Nat, v.1 = i ∧ i ≤ l.length ∧ v.2.length = l.length ∧ v.2.drop i = l.drop i ∧ v.2.take i = againS (l.take i)) ?_ 100 _ ⟨0, rfl, by omega, rfl, rfl, by simp [againS]⟩ (by simp only; omega)
  rintro ⟨j, cur⟩ ⟨i, h1, h2, h4, h5, h6⟩ ag hag
  simp only at h1 h2 h4 h5 h6
  subst h1
  show Sat (wait_Calls_Again.B1 100 l _ ag i cur) _
  unfold wait_Calls_Again.B1
  have hw : w64 ((i : Int) + 1) = ((i + 1 : Nat) : Int) := by rw [w64_succ (by omega) (by omega)]; simp
  refine sat_if (fun hlt => ?_) (fun hge => ?_)
  · have hi : i < l.length := by omega
    obtain ⟨hg, hd⟩ := drop_of h5 h4 hi
    refine sat_b (ix_eq (x := l[i]) (by omega) (by rw [← hg]; simp [h4, hi])) ?_
    rw [hw]
    refine hag _ ⟨i + 1, rfl, by omega, by simpa using h4, ?_, ?_⟩ (by simp only; omega)
    · simp only [Int.toNat_natCast]
      rw [List.drop_set_of_lt (by omega)]
      exact hd
    · simp only [Int.toNat_natCast]
      rw [List.take_add_one, List.take_set_of_le (by omega), List.getElem?_set_self (by omega), h6]
      unfold againS
      rw [← List.take_append_getElem (l := l) (i := i) hi, List.map_append]
      rfl
  · have : i = l.length := by omega
    subst this
    rw [List.take_length, ← h4, List.take_length] at h6
    show Sat (wait_Calls_Again.J1 100 d cur) _
    unfold wait_Calls_Again.J1
    exact sat_r (by rw [h6])
theorem againr_eq {l : List wait_call} (hl : l.length ≤ 8) (d : List api_Reply) : hocketref15_Calls_Again.f 100 (l.map toR) d = some ((againS l).map toR, d) := by
  suffices h : Sat (hocketref15_Calls_Again.f 100 (l.map toR) d) (fun r => r = ((againS l).map toR, d)) by
    obtain ⟨r, h1, h2⟩ := h; rw [h1, h2]
  unfold hocketref15_Calls_Again.f
  refine sat_loop (fun v : Int × List hocketref15_call => ((l.length : Int) - v.1).toNat) (fun v => ∃ (i : Nat) (cur : List wait_call), v.1 = i ∧ v.2 = cur.map toR ∧ i ≤ l.length ∧ cur.length = l.length ∧ cur.drop i = l.drop i ∧ cur.take i = againS (l.take i)) ?_ 100 _ ⟨0, l, rfl, rfl, by omega, rfl, rfl, by simp [againS]⟩ (by simp only; omega)
  rintro ⟨j, cr⟩ ⟨i, cur, h1, hcr, h2, h4, h5, h6⟩ ag hag
  simp only at h1 hcr
  subst h1 hcr
  show Sat (hocketref15_Calls_Again.B1 100 _ ag i (cur.map toR)) _
  unfold hocketref15_Calls_Again.B1
  have hw : w64 ((i : Int) + 1) = ((i + 1 : Nat) : Int) := by rw [w64_succ (by omega) (by omega)]; simp
  rw [List.length_map]
  refine sat_if (fun hlt => ?_) (fun hge => ?_)
  · have hi : i < l.length := by omega
    obtain ⟨hg, hd⟩ := drop_of h5 h4 hi
    refine sat_b (ix_eq (x := toR l[i]) (by omega) (by rw [← hg]; simp [h4, hi])) ?_
    rw [hw]
    have hset : (cur.map toR).set (i : Int).toNat (⟨(toR l[i]).e, false⟩ : hocketref15_call) = (cur.set i ⟨l[i].e, false⟩).map toR := by
      rw [List.map_set, Int.toNat_natCast]
      rfl
    rw [hset]
    refine hag _ ⟨i + 1, cur.set i ⟨l[i].e, false⟩, rfl, rfl, by omega, by simpa using h4, ?_, ?_⟩ (by simp only; omega)
    · rw [List.drop_set_of_lt (by omega)]
      exact hd
    · rw [List.take_add_one, List.take_set_of_le (by omega), List.getElem?_set_self (by omega), h6]
      unfold againS
      rw [← List.take_append_getElem (l := l) (i := i) hi, List.map_append]
      rfl
  · have : i = l.length := by omega
    subst this
    rw [List.take_length, ← h4, List.take_length] at h6
    show Sat (hocketref15_Calls_Again.J1 100 d (cur.map toR)) _
    unfold hocketref15_Calls_Again.J1
    exact sat_r (by rw [h6])
/-! ### the same -/
theorem same_e (e : api_Entry) : hocketref4_SameEntry.f e e = some true := by
  unfold hocketref4_SameEntry.f
  simp
theorem same_es {l : List api_Entry} (hl : l.length < 90) : hocketref4_SameEntries.f 100 l l = some true := by
  suffices h : Sat (hocketref4_SameEntries.f 100 l l) (fun r => r = true) by
    obtain ⟨r, h1, h2⟩ := h; rw [h1, h2]
  unfold hocketref4_SameEntries.f
  refine sat_t rfl ?_
  refine sat_loop (fun v : Int => ((l.length : Int) - v).toNat) (fun v => 0 ≤ v ∧ v ≤ l.length) ?_ 100 _ (by omega) (by omega)
  intro i hi ag hag
  show Sat (hocketref4_SameEntries.B1 100 l l _ ag i) _
  unfold hocketref4_SameEntries.B1
  refine sat_if (fun hlt => ?_) (fun _ => sat_r rfl)
  have hix := ix_get (xs := l) hi.1 (by omega)
  refine sat_b hix (sat_b hix (sat_b (same_e _) (sat_t rfl ?_)))
  rw [w64_id (by omega)]
  exact hag _ (by omega) (by omega)
theorem same_rs {l : List api_Reply} (hl : l.length < 90) : hocketref15_SameReplies.f 100 l l = some true := by
  suffices h : Sat (hocketref15_SameReplies.f 100 l l) (fun r => r = true) by
    obtain ⟨r, h1, h2⟩ := h; rw [h1, h2]
  unfold hocketref15_SameReplies.f
  refine sat_t rfl ?_
  refine sat_loop (fun v : Int => ((l.length : Int) - v).toNat) (fun v => 0 ≤ v ∧ v ≤ l.length) ?_ 100 _ (by omega) (by omega)
  intro i hi ag hag
  show Sat (hocketref15_SameReplies.B1 100 l l _ ag i) _
  unfold hocketref15_SameReplies.B1
  refine sat_if (fun hlt => ?_) (fun _ => sat_r rfl)
  have hix := ix_get (xs := l) hi.1 (by omega)
  refine sat_b hix (sat_b hix (sat_t rfl (sat_b hix (sat_b hix (sat_t rfl (sat_b hix (sat_b hix ?_)))))))
  refine sat_b (v := true) (by unfold hocketref4_SameResult.f; simp) ?_
  unfold hocketref15_SameReplies.J2
  refine sat_f (by simp) ?_
  rw [w64_id (by omega)]
  exact hag _ (by omega) (by omega)
theorem hocketlaw20_WaitPlays.pure (acts : List Int) (_h : acts.length ≤ 140737488351232 ∧ ∀ x ∈ acts, i64ok x) : ∃ K r, hocketlaw20_WaitPlays.f K acts = some r := by
  refine ⟨100, sat_pure ?_⟩
  unfold hocketlaw20_WaitPlays.f wait_New.f
  refine sat_b rfl ?_
  refine sat_loop (fun v : Int × wait_Calls × hocketref15_Calls => (60 - v.1).toNat) (fun v => 0 ≤ v.1 ∧ v.1 ≤ 60 ∧ v.2.2.l = v.2.1.l.map toR ∧ v.2.2.r = v.2.1.done ∧ v.2.1.l.length ≤ 8 ∧ (∀ x ∈ v.2.1.l, CmdOk x.e.Cmd) ∧ (v.2.1.done.length : Int) ≤ v.1) ?_ 100 _ ⟨by simp, by simp, rfl, rfl, by simp, by simp, by simp⟩ (by simp only; omega)
  rintro ⟨i, ⟨l, d⟩, ⟨lr, dr⟩⟩ ⟨h0, h1, h2, h3, h4, h5, h6⟩ ag hag
  simp only at h0 h1 h2 h3 h4 h5 h6
  subst h2
  subst dr
  show Sat (hocketlaw20_WaitPlays.B1 100 acts _ ag i ⟨l, d⟩ ⟨l.map toR, d⟩) _
  unfold hocketlaw20_WaitPlays.B1
  have fin : Sat (hocketlaw20_WaitPlays.J1 100 ⟨l, d⟩ ⟨l.map toR, d⟩) (fun _ => True) := by
    unfold hocketlaw20_WaitPlays.J1 wait_Calls_Take.f hocketref15_Calls_Take.f
    exact sat_b rfl (sat_b rfl (sat_b (same_rs (l := d) (by omega)) (sat_t rfl (sat_b awake20 (sat_r trivial)))))
  refine sat_if (fun hlt => ?_) (fun _ => ?_)
  · by_cases hi : i < 60
    · rw [decide_eq_true hi]
      unfold hocketlaw20_WaitPlays.J2
      obtain ⟨t, ht⟩ : ∃ t, ix acts i = some t := ⟨_, ix_get h0 (by omega)⟩
      obtain ⟨e, e1, e2⟩ := entry_ok t (band .i64 (shr .i64 t 4) 31)
      have hw1 : w64 (i + 1) = i + 1 := w64_id (by omega)
      refine sat_t rfl (sat_b ht (sat_b ht (sat_b e1 ?_)))
      have four : ∀ (l' : List wait_call) (d' : List api_Reply), l'.length ≤ 8 → (∀ x ∈ l', CmdOk x.e.Cmd) → (d'.length : Int) ≤ i + 1 → Sat (hocketlaw20_WaitPlays.J4 100 ag i ⟨l', d'⟩ ⟨l'.map toR, d'⟩) (fun _ => True) := fun l' d' k1 k2 k3 => by
        unfold hocketlaw20_WaitPlays.J4 wait_Calls_Waiting.f hocketref15_Calls_Waiting.f
        refine sat_b rfl (sat_b rfl (sat_t (by simp) ?_))
        rw [hw1]
        exact hag _ ⟨by simp only; omega, by simp only; omega, rfl, rfl, k1, k2, by simp only; omega⟩ (by simp only; omega)
      have five : Sat (hocketlaw20_WaitPlays.J5 100 ⟨l, d⟩ e ⟨l.map toR, d⟩ ag i t acts true) (fun _ => True) := by
        unfold hocketlaw20_WaitPlays.J5
        refine sat_t rfl (sat_b (call_eq h4 d e2) (sat_b (callr_eq h4 d e) (sat_t rfl (four (callS l e).2 d ?_ ?_ (by omega)))))
        · unfold callS
          split
          · exact h4
          · split
            · exact h4
            · simp; omega
        · unfold callS
          split
          · exact h5
          · split
            · exact h5
            · intro x hx
              simp only [List.mem_append, List.mem_singleton] at hx
              rcases hx with hx | rfl
              · exact h5 x hx
              · exact e2
      have six : ∀ b : Bool, Sat (hocketlaw20_WaitPlays.J6 100 acts i ⟨l, d⟩ ⟨l.map toR, d⟩ ag t e b) (fun _ => True) := fun b => by
        unfold hocketlaw20_WaitPlays.J6
        refine sat_if (fun _ => ?_) (fun _ => ?_)
        · have hl := nextL_len (w64 ((band .i64 (shr .i64 t 4) 7) - 1)) l 0
          exact sat_b ht (sat_b (next_eq h4 h5 d _) (sat_b (nextr_eq h4 d _) (sat_b (same_es (by simp only; omega)) (sat_t rfl (four (nextL (w64 ((band .i64 (shr .i64 t 4) 7) - 1)) 0 l).2 d (by omega) (nextL_ok _ l 0 h5) (by omega))))))
        refine sat_if (fun _ => ?_) (fun _ => ?_)
        · refine sat_b (done_eq (d := d) h4 (by omega) rfl) (sat_b (doner_eq (d := d) h4 (by omega) _) (sat_t rfl (four (doneS l d ⟨0, e, ⟨0, [], i⟩⟩).2.1 (doneS l d ⟨0, e, ⟨0, [], i⟩⟩).2.2 ?_ ?_ ?_)))
          · unfold doneS
            split
            · simp; omega
            · exact h4
          · unfold doneS
            split
            · intro x hx
              simp only [List.mem_append] at hx
              rcases hx with hx | hx
              · exact h5 x (List.mem_of_mem_take hx)
              · exact h5 x (List.mem_of_mem_drop hx)
            · exact h5
          · unfold doneS
            split
            · simp; omega
            · simp only; omega
        refine sat_if (fun _ => ?_) (fun _ => ?_)
        · refine sat_b (again_eq h4 d) (sat_b (againr_eq h4 d) (four (againS l) d ?_ ?_ (by omega)))
          · unfold againS; simpa using h4
          · intro x hx
            unfold againS at hx
            simp only [List.mem_map] at hx
            obtain ⟨y, hy, rfl⟩ := hx
            exact h5 y hy
        · unfold wait_Calls_Take.f hocketref15_Calls_Take.f
          exact sat_b rfl (sat_b rfl (sat_b (same_rs (l := d) (by omega)) (sat_t rfl (four l [] h4 h5 (by simp; omega)))))
      have five' : ∀ b : Bool, Sat (hocketlaw20_WaitPlays.J5 100 ⟨l, d⟩ e ⟨l.map toR, d⟩ ag i t acts b) (fun _ => True) := fun b => by
        cases b with
        | true => exact five
        | false =>
          unfold hocketlaw20_WaitPlays.J5
          exact sat_f (by simp) (sat_if (fun _ => six _) (fun _ => six _))
      unfold hocketlaw20_WaitPlays.J3
      exact sat_b ht (sat_if (fun _ => five' _) (fun _ => sat_if (fun _ => five' _) (fun _ => five' _)))
    · rw [decide_eq_false hi]
      unfold hocketlaw20_WaitPlays.J2
      exact sat_f (by simp) fin
  · unfold hocketlaw20_WaitPlays.J2
    exact sat_f (by simp) fin
end Go.Gp
