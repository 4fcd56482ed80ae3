/- What the calls do: each function once. -/
import Derived.Test.YteojmbigbifklaaFacts
namespace Go.Proofs
open Go.Gp
set_option linter.unusedVariables false
set_option maxHeartbeats 4000000 in
set_option maxRecDepth 20000 in
theorem hocketref4_SameResult.calls (x0 : api_Result) (p0_0 : Value) (x1 : api_Result) (p1_1 : Value) (r : Bool) (w0 w : World) (Z A : Mem) (hA : A.le Z) (hS : Sep w0 w [] Z) (hp0_0 : Rd Kd.u8 A p0_0 x0.Val) (hp1_1 : Rd Kd.u8 A p1_1 x1.Val)
    (H : hocketref4_SameResult.f x0 x1 = some r) :
    Calls Try.prog 19 [.agg ([.int .i64 x0.Err, p0_0, .int .i64 x0.N] : List Value).toArray, .agg ([.int .i64 x1.Err, p1_1, .int .i64 x1.N] : List Value).toArray].toArray w (Ret fun v w' => ∃ (N : Mem), v = .bool r ∧ Sep w0 w' [N] Z) := by
  unfold hocketref4_SameResult.f at H
  refine f_enter _ Try.func19 rfl Try.ntmps19 rfl fun a hm => ?_
  replace hm : Fr 26 a [(0, .agg ([.int .i64 x0.Err, p0_0, .int .i64 x0.N] : List Value).toArray), (1, .agg ([.int .i64 x1.Err, p1_1, .int .i64 x1.N] : List Value).toArray)] := hm
  replace hS := hS.start
  replace hS : Sep w0 w [Mem.no] Z := hS
  refine wp_seq ?_
  refine wp_region_lit ?_
  refine v_box (vs := [.int .i64 x0.Err, p0_0, .int .i64 x0.N]) hm rfl rfl rfl hS ?_
  intro w_1 g_2 hS'
  clear hm a; intro a hm
  replace hS : Sep w0 w_1 [Mem.no, Mem.one g_2 (.cells ([.int .i64 x0.Err, p0_0, .int .i64 x0.N] : List Value).toArray 28 (0, 0))] Z := hS'
  clear hS'
  refine v_box (vs := [.int .i64 x1.Err, p1_1, .int .i64 x1.N]) hm rfl rfl rfl hS ?_
  intro w_3 g_4 hS'
  clear hm a; intro a hm
  replace hS : Sep w0 w_3 [Mem.no, Mem.one g_2 (.cells ([.int .i64 x0.Err, p0_0, .int .i64 x0.N] : List Value).toArray 28 (0, 0)), Mem.one g_4 (.cells ([.int .i64 x1.Err, p1_1, .int .i64 x1.N] : List Value).toArray 28 (0, 0))] Z := hS'
  clear hS'
  refine s_assign hm rfl rfl ?_
  clear hm a; intro a hm
  refine wpList_nil ?_
  replace hm : Fr 26 a [(2, .pointer (some ⟨g_2, 0, none⟩)), (3, .pointer (some ⟨g_4, 0, none⟩)), (4, .bool false)] := hm.keep [2, 3, 4]
  refine x_then_n ?_
  refine c_seq fun KJ_5 hKJ_5 => ?_
  refine wp_region_lit ?_
  refine s_fieldAddr hm rfl Try.underlying28 rfl ti23 rfl rfl ?_
  clear hm a; intro a hm
  refine s_load hm rfl rfl (hS.load_one (p := 1) rfl Try.underlying23 rfl rfl) ?_
  clear hm a; intro a hm
  refine s_fieldAddr hm rfl Try.underlying28 rfl ti23 rfl rfl ?_
  clear hm a; intro a hm
  refine s_load hm rfl rfl (hS.load_one (p := 2) rfl Try.underlying23 rfl rfl) ?_
  clear hm a; intro a hm
  refine s_cmp (b := (x0.Err == x1.Err)) hm rfl rfl rfl (.inl ⟨rfl, rfl⟩) ?_
  clear hm a; intro a hm
  refine s_move hm rfl rfl ?_
  clear hm a; intro a hm
  by_cases hc_6 : x0.Err = x1.Err
  · rw [if_pos hc_6] at H
    refine s_on hm rfl rfl (beq_iff_eq.2 hc_6) ?_
    refine s_fieldAddr hm rfl Try.underlying28 rfl ti26 rfl rfl ?_
    clear hm a; intro a hm
    refine s_on hm rfl rfl (beq_iff_eq.2 hc_6) ?_
    refine s_load hm rfl rfl (hS.load_one (p := 1) rfl Try.underlying26 rfl rfl) ?_
    clear hm a; intro a hm
    refine s_on hm rfl rfl (beq_iff_eq.2 hc_6) ?_
    refine s_b2s hm rfl Try.underlying26 Try.underlying5 Try.underlying9 rfl hp0_0 (hA.trans hS.old) ?_
    clear hm a; intro a hm
    refine s_on hm rfl rfl (beq_iff_eq.2 hc_6) ?_
    refine s_fieldAddr hm rfl Try.underlying28 rfl ti26 rfl rfl ?_
    clear hm a; intro a hm
    refine s_on hm rfl rfl (beq_iff_eq.2 hc_6) ?_
    refine s_load hm rfl rfl (hS.load_one (p := 2) rfl Try.underlying26 rfl rfl) ?_
    clear hm a; intro a hm
    refine s_on hm rfl rfl (beq_iff_eq.2 hc_6) ?_
    refine s_b2s hm rfl Try.underlying26 Try.underlying5 Try.underlying9 rfl hp1_1 (hA.trans hS.old) ?_
    clear hm a; intro a hm
    refine s_on hm rfl rfl (beq_iff_eq.2 hc_6) ?_
    refine s_strEq (b := (x0.Val == x1.Val)) hm rfl rfl rfl (.inl ⟨rfl, rfl⟩) ?_
    clear hm a; intro a hm
    refine s_pick_t hm rfl rfl (beq_iff_eq.2 hc_6) rfl ?_
    clear hm a; intro a hm
    refine s_move hm rfl rfl ?_
    clear hm a; intro a hm
    by_cases hc_7 : x0.Val = x1.Val
    · rw [if_pos hc_7] at H
      refine s_on hm rfl rfl (beq_iff_eq.2 hc_7) ?_
      refine s_fieldAddr hm rfl Try.underlying28 rfl ti3 rfl rfl ?_
      clear hm a; intro a hm
      refine s_on hm rfl rfl (beq_iff_eq.2 hc_7) ?_
      refine s_load hm rfl rfl (hS.load_one (p := 1) rfl Try.underlying3 rfl rfl) ?_
      clear hm a; intro a hm
      refine s_on hm rfl rfl (beq_iff_eq.2 hc_7) ?_
      refine s_fieldAddr hm rfl Try.underlying28 rfl ti3 rfl rfl ?_
      clear hm a; intro a hm
      refine s_on hm rfl rfl (beq_iff_eq.2 hc_7) ?_
      refine s_load hm rfl rfl (hS.load_one (p := 2) rfl Try.underlying3 rfl rfl) ?_
      clear hm a; intro a hm
      refine s_on hm rfl rfl (beq_iff_eq.2 hc_7) ?_
      refine s_cmp (b := (x0.N == x1.N)) hm rfl rfl rfl (.inl ⟨rfl, rfl⟩) ?_
      clear hm a; intro a hm
      refine s_pick_t hm rfl rfl (beq_iff_eq.2 hc_7) rfl ?_
      clear hm a; intro a hm
      refine s_assign hm rfl rfl ?_
      clear hm a; intro a hm
      refine wpList_nil ?_
      replace hm : Fr 26 a [(4, .bool (x0.N == x1.N))] := hm.keep [4]
      refine x_then_n (hKJ_5 _ _ ?_)
      refine wp_ret ?_
      obtain rfl := Option.some.inj H
      exact f_ret hm (rs := [.tmp 4]) rfl (.tmp rfl .nil) ⟨_, rfl, Mem.no, rfl, (Sep.sel hS [0] (by decide))⟩
    · rw [if_neg hc_7] at H
      refine s_off hm rfl rfl rfl (beq_eq_false_iff_ne.2 hc_7) ?_
      clear hm a; intro a hm
      refine s_off hm rfl rfl rfl (beq_eq_false_iff_ne.2 hc_7) ?_
      clear hm a; intro a hm
      refine s_off hm rfl rfl rfl (beq_eq_false_iff_ne.2 hc_7) ?_
      clear hm a; intro a hm
      refine s_off hm rfl rfl rfl (beq_eq_false_iff_ne.2 hc_7) ?_
      clear hm a; intro a hm
      refine s_off hm rfl rfl rfl (beq_eq_false_iff_ne.2 hc_7) ?_
      clear hm a; intro a hm
      refine s_pick_f hm rfl rfl (beq_eq_false_iff_ne.2 hc_7) rfl ?_
      clear hm a; intro a hm
      refine s_assign hm rfl rfl ?_
      clear hm a; intro a hm
      refine wpList_nil ?_
      replace hm : Fr 26 a [(4, .bool false)] := hm.keep [4]
      refine x_then_n (hKJ_5 _ _ ?_)
      refine wp_ret ?_
      obtain rfl := Option.some.inj H
      exact f_ret hm (rs := [.tmp 4]) rfl (.tmp rfl .nil) ⟨_, rfl, Mem.no, rfl, (Sep.sel hS [0] (by decide))⟩
  · rw [if_neg hc_6] at H
    refine s_off hm rfl rfl rfl (beq_eq_false_iff_ne.2 hc_6) ?_
    clear hm a; intro a hm
    refine s_off hm rfl rfl rfl (beq_eq_false_iff_ne.2 hc_6) ?_
    clear hm a; intro a hm
    refine s_off hm rfl rfl rfl (beq_eq_false_iff_ne.2 hc_6) ?_
    clear hm a; intro a hm
    refine s_off hm rfl rfl rfl (beq_eq_false_iff_ne.2 hc_6) ?_
    clear hm a; intro a hm
    refine s_off hm rfl rfl rfl (beq_eq_false_iff_ne.2 hc_6) ?_
    clear hm a; intro a hm
    refine s_off hm rfl rfl rfl (beq_eq_false_iff_ne.2 hc_6) ?_
    clear hm a; intro a hm
    refine s_off hm rfl rfl rfl (beq_eq_false_iff_ne.2 hc_6) ?_
    clear hm a; intro a hm
    refine s_pick_f hm rfl rfl (beq_eq_false_iff_ne.2 hc_6) rfl ?_
    clear hm a; intro a hm
    refine s_move hm rfl rfl ?_
    clear hm a; intro a hm
    refine s_off hm rfl rfl rfl rfl ?_
    clear hm a; intro a hm
    refine s_off hm rfl rfl rfl rfl ?_
    clear hm a; intro a hm
    refine s_off hm rfl rfl rfl rfl ?_
    clear hm a; intro a hm
    refine s_off hm rfl rfl rfl rfl ?_
    clear hm a; intro a hm
    refine s_off hm rfl rfl rfl rfl ?_
    clear hm a; intro a hm
    refine s_pick_f hm rfl rfl rfl rfl ?_
    clear hm a; intro a hm
    refine s_assign hm rfl rfl ?_
    clear hm a; intro a hm
    refine wpList_nil ?_
    replace hm : Fr 26 a [(4, .bool false)] := hm.keep [4]
    refine x_then_n (hKJ_5 _ _ ?_)
    refine wp_ret ?_
    obtain rfl := Option.some.inj H
    exact f_ret hm (rs := [.tmp 4]) rfl (.tmp rfl .nil) ⟨_, rfl, Mem.no, rfl, (Sep.sel hS [0] (by decide))⟩

set_option maxHeartbeats 4000000 in
set_option maxRecDepth 20000 in
theorem wait_New.calls (r : (List wait_call) × (List api_Reply)) (w0 w : World) (Z A : Mem) (hA : A.le Z) (hS : Sep w0 w [] Z)
    (H : wait_New.f = some r) :
    Calls Try.prog 21 [].toArray w (Ret fun v w' => ∃ (u0 : Nat) (u1 : Value) (u2 : Value) (N : Mem) (M0 : Mem) (M1 : Mem), v = .pointer (some ⟨u0, 0, none⟩) ∧ Sep w0 w' [N, Mem.one u0 (.cells ([u1, u2] : List Value).toArray 74 (0, 0)), M0, M1] Z ∧ Own k_wait_call 78 M0 N u1 r.1 ∧ Own k_api_Reply 56 M1 N u2 r.2) := by
  unfold wait_New.f at H
  refine f_enter _ Try.func21 rfl Try.ntmps21 rfl fun a hm => ?_
  replace hm : Fr 3 a [] := hm
  replace hS := hS.start
  replace hS : Sep w0 w [Mem.no] Z := hS
  refine wp_seq ?_
  refine wp_region_lit ?_
  refine s_assign hm rfl rfl ?_
  clear hm a; intro a hm
  refine wpList_nil ?_
  replace hm : Fr 3 a [(0, .pointer none)] := hm.keep [0]
  refine x_then_n ?_
  refine wp_seq ?_
  refine wp_region_lit ?_
  refine s_build hm rfl ti74 pl74 rfl .nil (cs := [.slice none 0 0, .slice none 0 0]) rfl ?_
  clear hm a; intro a hm
  refine v_box (vs := [.slice none 0 0, .slice none 0 0]) hm rfl rfl rfl hS ?_
  intro w_1 g_2 hS'
  clear hm a; intro a hm
  replace hS : Sep w0 w_1 [Mem.no, Mem.one g_2 (.cells ([.slice none 0 0, .slice none 0 0] : List Value).toArray 74 (0, 0))] Z := hS'
  clear hS'
  refine s_assign hm rfl rfl ?_
  clear hm a; intro a hm
  refine wpList_nil ?_
  replace hm : Fr 3 a [(0, .pointer (some ⟨g_2, 0, none⟩))] := hm.keep [0]
  refine x_then_n ?_
  refine wp_ret ?_
  have hS' := hS.room
  replace hS : Sep w0 w_1 [Mem.no, Mem.one g_2 (.cells ([.slice none 0 0, .slice none 0 0] : List Value).toArray 74 (0, 0)), Mem.no] Z := hS'
  clear hS'
  replace hS : Sep w0 w_1 [Mem.no, Mem.one g_2 (.cells ([.slice none 0 0, .slice none 0 0] : List Value).toArray 74 (0, 0)), Mem.no] Z := hS
  have hS' := hS.room
  replace hS : Sep w0 w_1 [Mem.no, Mem.one g_2 (.cells ([.slice none 0 0, .slice none 0 0] : List Value).toArray 74 (0, 0)), Mem.no, Mem.no] Z := hS'
  clear hS'
  replace hS : Sep w0 w_1 [Mem.no, Mem.one g_2 (.cells ([.slice none 0 0, .slice none 0 0] : List Value).toArray 74 (0, 0)), Mem.no, Mem.no] Z := hS
  obtain rfl := Option.some.inj H
  exact f_ret hm (rs := [.tmp 0]) rfl (.tmp rfl .nil) ⟨_, rfl, g_2, .slice none 0 0, .slice none 0 0, Mem.no, Mem.no, Mem.no, rfl, (Sep.sel hS [0, 1, 2, 3] (by decide)), ((Own.nil k_wait_call 78 Mem.no).mono (Mem.le.refl _)), ((Own.nil k_api_Reply 56 Mem.no).mono (Mem.le.refl _))⟩

set_option maxHeartbeats 4000000 in
theorem slices_Clone_sbyte_byte.calls (x0 : List UInt8) (p0_0 : Value) (r : List UInt8) (w0 w : World) (Z A : Mem) (hA : A.le Z) (hS : Sep w0 w [] Z) (hp0_0 : Rd Kd.u8 A p0_0 x0)
    (H : slices_Clone_sbyte_byte.f x0 = some r) :
    Calls Try.prog 49 [p0_0].toArray w (Ret fun v w' => ∃ (u0 : Value) (N : Mem) (M0 : Mem), v = u0 ∧ Sep w0 w' [N, M0] Z ∧ Own Kd.u8 5 M0 Mem.no u0 r) := by
  unfold slices_Clone_sbyte_byte.f at H
  refine f_enter _ Try.func49 rfl Try.ntmps49 rfl fun a hm => ?_
  replace hm : Fr 8 a [(0, p0_0)] := hm
  replace hS := hS.start
  replace hS : Sep w0 w [Mem.no] Z := hS
  refine wp_seq ?_
  refine wp_region_lit ?_
  refine s_assign hm rfl rfl ?_
  clear hm a; intro a hm
  refine wpList_nil ?_
  replace hm : Fr 8 a [(0, p0_0)] := hm.keep [0]
  refine x_then_n ?_
  refine c_seq fun KJ hKJ => ?_
  refine wp_seq ?_
  refine wp_region_lit ?_
  refine s_move hm rfl rfl ?_
  clear hm a; intro a hm
  refine s_slNil hm rfl Try.underlying26 rfl hp0_0 fun b hb => ?_
  clear hm a; intro a hm
  refine wpList_nil ?_
  refine x_then_n ?_
  cases b with
  | true =>
    have hx := hb rfl
    subst hx
    refine c_cond_t hm rfl rfl ?_
    refine wp_seq ?_
    refine wp_region_lit ?_
    refine s_assign hm rfl rfl ?_
    clear hm a; intro a hm
    refine wpList_nil ?_
    replace hm : Fr 8 a [(2, .slice none 0 0)] := hm.keep [2]
    refine x_then_n ?_
    refine wp_ret (x_then_r ?_)
    obtain rfl := (app_some H).2
    replace hS := hS.room
    exact f_ret hm (rs := [.tmp 2]) rfl (.tmp rfl .nil) ⟨_, rfl, _, Mem.no, Mem.no, rfl, hS, Own.nil _ _ _⟩
  | false =>
    refine c_cond_f hm rfl rfl ?_
    refine wp_skip ?_
    refine x_then_n (hKJ _ _ ?_)
    refine wp_seq ?_
    refine wp_region_lit ?_
    have hq5 : Reps Kd.u8 Mem.no ([] : List UInt8) _ := (Reps.nil Kd.u8 _)
    refine s_buildSlice hm rfl Try.underlying26 ti5 rfl rfl rfl .nil rfl rfl rfl hS hq5 rfl ?_
    intro w1 v2 M3 hS' ho4
    clear hm a; intro a hm
    replace hS : Sep w0 w1 [Mem.no, M3] Z := hS'
    clear hS' hq5
    refine s_move hm rfl rfl ?_
    clear hm a; intro a hm
    refine s_append (J := Mem.no) (I' := Mem.no) (p := 1) 140737488355328 hm rfl rfl rfl Try.underlying26 ti5 rfl rfl rfl rfl hS rfl ho4 (Src.flat flat_u8 (hp0_0.src (hA.trans hS.old))) (Mem.le.refl _) (Mem.le.refl _) H ?_
    intro w8 v9 M10 hS' ho11
    clear hm a; intro a hm
    refine s_assign hm rfl rfl ?_
    clear hm a; intro a hm
    refine wpList_nil ?_
    replace hm : Fr 8 a [(2, v9)] := hm.keep [2]
    refine x_then_n ?_
    refine wp_ret ?_
    exact f_ret hm (rs := [.tmp 2]) rfl (.tmp rfl .nil) ⟨_, rfl, _, Mem.no, M10, rfl, hS', ho11⟩


end Go.Proofs
