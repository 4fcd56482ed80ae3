/- What the calls do: each function once. -/
import Derived.Test.YtbjefkmbpbdhbaaFacts
namespace Go.Proofs
open Go.Gp
set_option linter.unusedVariables false
set_option maxHeartbeats 4000000 in
theorem slices_Clone_sbyte_byte.calls (x0 : List UInt8) (p0_0 : Value) (r : List UInt8) (w0 w : World) (Z A : Mem) (hA : A.le Z) (hS : Sep w0 w [] Z) (hp0_0 : Rd Kd.u8 A p0_0 x0)
    (H : slices_Clone_sbyte_byte.f x0 = some r) :
    Calls Try.prog 42 [p0_0].toArray w (Ret fun v w' => ∃ (u0 : Value) (N : Mem) (M0 : Mem), v = u0 ∧ Sep w0 w' [N, M0] Z ∧ Own Kd.u8 5 M0 Mem.no u0 r) := by
  unfold slices_Clone_sbyte_byte.f at H
  refine f_enter _ Try.func42 rfl Try.ntmps42 rfl fun a hm => ?_
  replace hm : Fr 8 a [(0, p0_0)] := hm
  replace hS := hS.start
  replace hS : Sep w0 w [Mem.no] Z := hS
  refine wp_seq ?_
  refine wp_region_lit ?_
  refine s_assign hm rfl rfl ?_
  clear hm a; intro a hm
  refine wpList_nil ?_
  replace hm : Fr 8 a [(0, p0_0)] := hm.keep [0]
  refine x_then_n ?_
  refine c_seq fun KJ hKJ => ?_
  refine wp_seq ?_
  refine wp_region_lit ?_
  refine s_move hm rfl rfl ?_
  clear hm a; intro a hm
  refine s_slNil hm rfl Try.underlying25 rfl hp0_0 fun b hb => ?_
  clear hm a; intro a hm
  refine wpList_nil ?_
  refine x_then_n ?_
  cases b with
  | true =>
    have hx := hb rfl
    subst hx
    refine c_cond_t hm rfl rfl ?_
    refine wp_seq ?_
    refine wp_region_lit ?_
    refine s_assign hm rfl rfl ?_
    clear hm a; intro a hm
    refine wpList_nil ?_
    replace hm : Fr 8 a [(2, .slice none 0 0)] := hm.keep [2]
    refine x_then_n ?_
    refine wp_ret (x_then_r ?_)
    obtain rfl := (app_some H).2
    replace hS := hS.room
    exact f_ret hm (rs := [.tmp 2]) rfl (.tmp rfl .nil) ⟨_, rfl, _, Mem.no, Mem.no, rfl, hS, Own.nil _ _ _⟩
  | false =>
    refine c_cond_f hm rfl rfl ?_
    refine wp_skip ?_
    refine x_then_n (hKJ _ _ ?_)
    refine wp_seq ?_
    refine wp_region_lit ?_
    have hq5 : Reps Kd.u8 Mem.no ([] : List UInt8) _ := (Reps.nil Kd.u8 _)
    refine s_buildSlice hm rfl Try.underlying25 ti5 rfl rfl rfl .nil rfl rfl rfl hS hq5 rfl ?_
    intro w1 v2 M3 hS' ho4
    clear hm a; intro a hm
    replace hS : Sep w0 w1 [Mem.no, M3] Z := hS'
    clear hS' hq5
    refine s_move hm rfl rfl ?_
    clear hm a; intro a hm
    refine s_append (J := Mem.no) (I' := Mem.no) (p := 1) 140737488355328 hm rfl rfl rfl Try.underlying25 ti5 rfl rfl rfl rfl hS rfl ho4 (Src.flat flat_u8 (hp0_0.src (hA.trans hS.old))) (Mem.le.refl _) (Mem.le.refl _) H ?_
    intro w8 v9 M10 hS' ho11
    clear hm a; intro a hm
    refine s_assign hm rfl rfl ?_
    clear hm a; intro a hm
    refine wpList_nil ?_
    replace hm : Fr 8 a [(2, v9)] := hm.keep [2]
    refine x_then_n ?_
    refine wp_ret ?_
    exact f_ret hm (rs := [.tmp 2]) rfl (.tmp rfl .nil) ⟨_, rfl, _, Mem.no, M10, rfl, hS', ho11⟩

set_option maxHeartbeats 4000000 in
set_option maxRecDepth 20000 in
theorem hocketref4_own.calls (x0 : List UInt8) (p0_0 : Value) (r : (List UInt8)) (w0 w : World) (Z A : Mem) (hA : A.le Z) (hS : Sep w0 w [] Z) (hp0_0 : Rd Kd.u8 A p0_0 x0)
    (H : hocketref4_own.f x0 = some r) :
    Calls Try.prog 43 [p0_0].toArray w (Ret fun v w' => ∃ (u0 : Value) (N : Mem) (M0 : Mem), v = u0 ∧ Sep w0 w' [N, M0] Z ∧ Own Kd.u8 5 M0 Mem.no u0 r) := by
  unfold hocketref4_own.f at H
  refine f_enter _ Try.func43 rfl Try.ntmps43 rfl fun a hm => ?_
  replace hm : Fr 6 a [(0, p0_0)] := hm
  replace hS := hS.start
  replace hS : Sep w0 w [Mem.no] Z := hS
  refine wp_seq ?_
  refine wp_region_lit ?_
  refine s_assign hm rfl rfl ?_
  clear hm a; intro a hm
  refine wpList_nil ?_
  replace hm : Fr 6 a [(0, p0_0), (2, .slice none 0 0)] := hm.keep [0, 2]
  refine x_then_n ?_
  refine wp_seq ?_
  refine wp_region_lit ?_
  have hq_5 : Reps Kd.u8 Mem.no ([] : List UInt8) _ := (Reps.nil Kd.u8 _)
  refine s_buildSlice hm rfl Try.underlying25 ti5 rfl rfl rfl .nil rfl rfl rfl hS hq_5 rfl ?_
  intro w_1 v_2 M_3 hS' ho_4
  clear hm a; intro a hm
  replace hS : Sep w0 w_1 [Mem.no, M_3] Z := hS'
  clear hS' hq_5
  refine s_move hm rfl rfl ?_
  clear hm a; intro a hm
  obtain ⟨t_7, et_7, H⟩ := Option.bind_eq_some_iff.1 H
  refine s_append (J := Mem.no) (I' := Mem.no) (p := 1) 140737488355328 hm rfl rfl rfl Try.underlying25 ti5 rfl rfl rfl rfl hS rfl ho_4 (Src.flat flat_u8 (hp0_0.src (hA.trans hS.old))) (Mem.le.refl _) (Mem.le.refl _) et_7 ?_
  intro w_8 v_9 M_10 hS' ho_11
  clear hm a; intro a hm
  replace hS : Sep w0 w_8 [Mem.no, M_10] Z := hS'
  clear hS'
  refine s_assign hm rfl rfl ?_
  clear hm a; intro a hm
  refine wpList_nil ?_
  replace hm : Fr 6 a [(2, v_9)] := hm.keep [2]
  refine x_then_n ?_
  refine wp_ret ?_
  obtain rfl := Option.some.inj H
  exact f_ret hm (rs := [.tmp 2]) rfl (.tmp rfl .nil) ⟨_, rfl, v_9, Mem.no, M_10, rfl, (Sep.sel hS [0, 1] (by decide)), ho_11⟩

set_option maxHeartbeats 4000000 in
set_option maxRecDepth 20000 in
theorem hocketref4_bad.calls (x0 : Int) (r : api_Result) (w0 w : World) (Z A : Mem) (hA : A.le Z) (hS : Sep w0 w [] Z)
    (H : hocketref4_bad.f x0 = some r) :
    Calls Try.prog 44 [.int .i64 x0].toArray w (Ret fun v w' => ∃ (u0 : Value) (N : Mem) (M0 : Mem), v = .agg [.int .i64 r.Err, u0, .int .i64 r.N].toArray ∧ Sep w0 w' [N, M0] Z ∧ Own Kd.u8 5 M0 Mem.no u0 r.Val) := by
  unfold hocketref4_bad.f at H
  refine f_enter _ Try.func44 rfl Try.ntmps44 rfl fun a hm => ?_
  replace hm : Fr 5 a [(0, .int .i64 x0)] := hm
  replace hS := hS.start
  replace hS : Sep w0 w [Mem.no] Z := hS
  refine wp_seq ?_
  refine wp_region_lit ?_
  refine v_alloc hm rfl ti27 hS ?_
  intro w_1 g_2 hS'
  clear hm a; intro a hm
  replace hS : Sep w0 w_1 [Mem.no, Mem.one g_2 (.cells ([.int .i64 0, .slice none 0 0, .int .i64 0] : List Value).toArray 27 (0, 0))] Z := hS'
  clear hS'
  refine wpList_nil ?_
  replace hm : Fr 5 a [(0, .int .i64 x0), (2, .pointer (some ⟨g_2, 0, none⟩))] := hm.keep [0, 2]
  refine x_then_n ?_
  refine wp_seq ?_
  refine wp_region_lit ?_
  refine s_move hm rfl rfl ?_
  clear hm a; intro a hm
  refine s_build hm rfl ti27 pl27 rfl (.cons rfl .nil) (cs := [.int .i64 x0, .slice none 0 0, .int .i64 0]) rfl ?_
  clear hm a; intro a hm
  obtain ⟨w_3, hs', hS'⟩ := hS.store (P := Try.prog) (p := 1) (o := 0) (t := 27) (v := .agg [.int .i64 x0, .slice none 0 0, .int .i64 0].toArray) (vs := [.int .i64 x0, .slice none 0 0, .int .i64 0]) rfl ti27 rfl rfl rfl (by intro u hu; simp only [List.mem_cons, List.not_mem_nil, or_false] at hu; rcases hu with rfl | rfl | rfl <;> rfl)
  refine s_store hm rfl rfl hs' ?_
  replace hS : Sep w0 w_3 [Mem.no, Mem.one g_2 (.cells ([.int .i64 x0, .slice none 0 0, .int .i64 0] : List Value).toArray 27 (0, 0))] Z := hS'
  clear hs' hS'
  refine wpList_nil ?_
  replace hm : Fr 5 a [(2, .pointer (some ⟨g_2, 0, none⟩))] := hm.keep [2]
  refine x_then_n ?_
  refine wp_ret ?_
  have hS' := hS.room
  replace hS : Sep w0 w_3 [Mem.no, Mem.one g_2 (.cells ([.int .i64 x0, .slice none 0 0, .int .i64 0] : List Value).toArray 27 (0, 0)), Mem.no] Z := hS'
  clear hS'
  replace hS : Sep w0 w_3 [Mem.no, Mem.one g_2 (.cells ([.int .i64 x0, .slice none 0 0, .int .i64 0] : List Value).toArray 27 (0, 0)), Mem.no] Z := hS
  obtain rfl := Option.some.inj H
  exact f_ret hm (rs := [.cell 2 27]) rfl (.cell rfl (hS.load_agg (p := 1) (us := [.int .i64 x0, .slice none 0 0, .int .i64 0]) rfl Try.underlying27 rfl ti27 rfl rfl) .nil) ⟨_, rfl, .slice none 0 0, Mem.no, Mem.no, rfl, (Sep.sel hS [0, 2] (by decide)), (Own.nil Kd.u8 5 Mem.no)⟩

set_option maxHeartbeats 4000000 in
set_option maxRecDepth 20000 in
theorem hocketref4_SameResult.calls (x0 : api_Result) (p0_0 : Value) (x1 : api_Result) (p1_1 : Value) (r : Bool) (w0 w : World) (Z A : Mem) (hA : A.le Z) (hS : Sep w0 w [] Z) (hp0_0 : Rd Kd.u8 A p0_0 x0.Val) (hp1_1 : Rd Kd.u8 A p1_1 x1.Val)
    (H : hocketref4_SameResult.f x0 x1 = some r) :
    Calls Try.prog 19 [.agg [.int .i64 x0.Err, p0_0, .int .i64 x0.N].toArray, .agg [.int .i64 x1.Err, p1_1, .int .i64 x1.N].toArray].toArray w (Ret fun v w' => ∃ (N : Mem), v = .bool r ∧ Sep w0 w' [N] Z) := by
  unfold hocketref4_SameResult.f at H
  refine f_enter _ Try.func19 rfl Try.ntmps19 rfl fun a hm => ?_
  replace hm : Fr 26 a [(0, .agg [.int .i64 x0.Err, p0_0, .int .i64 x0.N].toArray), (1, .agg [.int .i64 x1.Err, p1_1, .int .i64 x1.N].toArray)] := hm
  replace hS := hS.start
  replace hS : Sep w0 w [Mem.no] Z := hS
  refine wp_seq ?_
  refine wp_region_lit ?_
  refine v_box (vs := [.int .i64 x0.Err, p0_0, .int .i64 x0.N]) hm rfl rfl rfl hS ?_
  intro w_1 g_2 hS'
  clear hm a; intro a hm
  replace hS : Sep w0 w_1 [Mem.no, Mem.one g_2 (.cells ([.int .i64 x0.Err, p0_0, .int .i64 x0.N] : List Value).toArray 27 (0, 0))] Z := hS'
  clear hS'
  refine v_box (vs := [.int .i64 x1.Err, p1_1, .int .i64 x1.N]) hm rfl rfl rfl hS ?_
  intro w_3 g_4 hS'
  clear hm a; intro a hm
  replace hS : Sep w0 w_3 [Mem.no, Mem.one g_2 (.cells ([.int .i64 x0.Err, p0_0, .int .i64 x0.N] : List Value).toArray 27 (0, 0)), Mem.one g_4 (.cells ([.int .i64 x1.Err, p1_1, .int .i64 x1.N] : List Value).toArray 27 (0, 0))] Z := hS'
  clear hS'
  refine s_assign hm rfl rfl ?_
  clear hm a; intro a hm
  refine wpList_nil ?_
  replace hm : Fr 26 a [(2, .pointer (some ⟨g_2, 0, none⟩)), (3, .pointer (some ⟨g_4, 0, none⟩)), (4, .bool false)] := hm.keep [2, 3, 4]
  refine x_then_n ?_
  refine c_seq fun KJ_5 hKJ_5 => ?_
  refine wp_region_lit ?_
  refine s_fieldAddr hm rfl Try.underlying27 rfl ti22 rfl rfl ?_
  clear hm a; intro a hm
  refine s_load hm rfl rfl (hS.load_one (p := 1) rfl Try.underlying22 rfl rfl) ?_
  clear hm a; intro a hm
  refine s_fieldAddr hm rfl Try.underlying27 rfl ti22 rfl rfl ?_
  clear hm a; intro a hm
  refine s_load hm rfl rfl (hS.load_one (p := 2) rfl Try.underlying22 rfl rfl) ?_
  clear hm a; intro a hm
  refine s_cmp (b := (x0.Err == x1.Err)) hm rfl rfl rfl (.inl ⟨rfl, rfl⟩) ?_
  clear hm a; intro a hm
  refine s_move hm rfl rfl ?_
  clear hm a; intro a hm
  by_cases hc_6 : x0.Err = x1.Err
  · rw [if_pos hc_6] at H
    refine s_on hm rfl rfl (beq_iff_eq.2 hc_6) ?_
    refine s_fieldAddr hm rfl Try.underlying27 rfl ti25 rfl rfl ?_
    clear hm a; intro a hm
    refine s_on hm rfl rfl (beq_iff_eq.2 hc_6) ?_
    refine s_load hm rfl rfl (hS.load_one (p := 1) rfl Try.underlying25 rfl rfl) ?_
    clear hm a; intro a hm
    refine s_on hm rfl rfl (beq_iff_eq.2 hc_6) ?_
    refine s_b2s hm rfl Try.underlying25 Try.underlying5 Try.underlying9 rfl hp0_0 (hA.trans hS.old) ?_
    clear hm a; intro a hm
    refine s_on hm rfl rfl (beq_iff_eq.2 hc_6) ?_
    refine s_fieldAddr hm rfl Try.underlying27 rfl ti25 rfl rfl ?_
    clear hm a; intro a hm
    refine s_on hm rfl rfl (beq_iff_eq.2 hc_6) ?_
    refine s_load hm rfl rfl (hS.load_one (p := 2) rfl Try.underlying25 rfl rfl) ?_
    clear hm a; intro a hm
    refine s_on hm rfl rfl (beq_iff_eq.2 hc_6) ?_
    refine s_b2s hm rfl Try.underlying25 Try.underlying5 Try.underlying9 rfl hp1_1 (hA.trans hS.old) ?_
    clear hm a; intro a hm
    refine s_on hm rfl rfl (beq_iff_eq.2 hc_6) ?_
    refine s_strEq (b := (x0.Val == x1.Val)) hm rfl rfl rfl (.inl ⟨rfl, rfl⟩) ?_
    clear hm a; intro a hm
    refine s_pick_t hm rfl rfl (beq_iff_eq.2 hc_6) rfl ?_
    clear hm a; intro a hm
    refine s_move hm rfl rfl ?_
    clear hm a; intro a hm
    by_cases hc_7 : x0.Val = x1.Val
    · rw [if_pos hc_7] at H
      refine s_on hm rfl rfl (beq_iff_eq.2 hc_7) ?_
      refine s_fieldAddr hm rfl Try.underlying27 rfl ti3 rfl rfl ?_
      clear hm a; intro a hm
      refine s_on hm rfl rfl (beq_iff_eq.2 hc_7) ?_
      refine s_load hm rfl rfl (hS.load_one (p := 1) rfl Try.underlying3 rfl rfl) ?_
      clear hm a; intro a hm
      refine s_on hm rfl rfl (beq_iff_eq.2 hc_7) ?_
      refine s_fieldAddr hm rfl Try.underlying27 rfl ti3 rfl rfl ?_
      clear hm a; intro a hm
      refine s_on hm rfl rfl (beq_iff_eq.2 hc_7) ?_
      refine s_load hm rfl rfl (hS.load_one (p := 2) rfl Try.underlying3 rfl rfl) ?_
      clear hm a; intro a hm
      refine s_on hm rfl rfl (beq_iff_eq.2 hc_7) ?_
      refine s_cmp (b := (x0.N == x1.N)) hm rfl rfl rfl (.inl ⟨rfl, rfl⟩) ?_
      clear hm a; intro a hm
      refine s_pick_t hm rfl rfl (beq_iff_eq.2 hc_7) rfl ?_
      clear hm a; intro a hm
      refine s_assign hm rfl rfl ?_
      clear hm a; intro a hm
      refine wpList_nil ?_
      replace hm : Fr 26 a [(4, .bool (x0.N == x1.N))] := hm.keep [4]
      refine x_then_n (hKJ_5 _ _ ?_)
      refine wp_ret ?_
      obtain rfl := Option.some.inj H
      exact f_ret hm (rs := [.tmp 4]) rfl (.tmp rfl .nil) ⟨_, rfl, Mem.no, rfl, (Sep.sel hS [0] (by decide))⟩
    · rw [if_neg hc_7] at H
      refine s_off hm rfl rfl rfl (beq_eq_false_iff_ne.2 hc_7) ?_
      clear hm a; intro a hm
      refine s_off hm rfl rfl rfl (beq_eq_false_iff_ne.2 hc_7) ?_
      clear hm a; intro a hm
      refine s_off hm rfl rfl rfl (beq_eq_false_iff_ne.2 hc_7) ?_
      clear hm a; intro a hm
      refine s_off hm rfl rfl rfl (beq_eq_false_iff_ne.2 hc_7) ?_
      clear hm a; intro a hm
      refine s_off hm rfl rfl rfl (beq_eq_false_iff_ne.2 hc_7) ?_
      clear hm a; intro a hm
      refine s_pick_f hm rfl rfl (beq_eq_false_iff_ne.2 hc_7) rfl ?_
      clear hm a; intro a hm
      refine s_assign hm rfl rfl ?_
      clear hm a; intro a hm
      refine wpList_nil ?_
      replace hm : Fr 26 a [(4, .bool false)] := hm.keep [4]
      refine x_then_n (hKJ_5 _ _ ?_)
      refine wp_ret ?_
      obtain rfl := Option.some.inj H
      exact f_ret hm (rs := [.tmp 4]) rfl (.tmp rfl .nil) ⟨_, rfl, Mem.no, rfl, (Sep.sel hS [0] (by decide))⟩
  · rw [if_neg hc_6] at H
    refine s_off hm rfl rfl rfl (beq_eq_false_iff_ne.2 hc_6) ?_
    clear hm a; intro a hm
    refine s_off hm rfl rfl rfl (beq_eq_false_iff_ne.2 hc_6) ?_
    clear hm a; intro a hm
    refine s_off hm rfl rfl rfl (beq_eq_false_iff_ne.2 hc_6) ?_
    clear hm a; intro a hm
    refine s_off hm rfl rfl rfl (beq_eq_false_iff_ne.2 hc_6) ?_
    clear hm a; intro a hm
    refine s_off hm rfl rfl rfl (beq_eq_false_iff_ne.2 hc_6) ?_
    clear hm a; intro a hm
    refine s_off hm rfl rfl rfl (beq_eq_false_iff_ne.2 hc_6) ?_
    clear hm a; intro a hm
    refine s_off hm rfl rfl rfl (beq_eq_false_iff_ne.2 hc_6) ?_
    clear hm a; intro a hm
    refine s_pick_f hm rfl rfl (beq_eq_false_iff_ne.2 hc_6) rfl ?_
    clear hm a; intro a hm
    refine s_move hm rfl rfl ?_
    clear hm a; intro a hm
    refine s_off hm rfl rfl rfl rfl ?_
    clear hm a; intro a hm
    refine s_off hm rfl rfl rfl rfl ?_
    clear hm a; intro a hm
    refine s_off hm rfl rfl rfl rfl ?_
    clear hm a; intro a hm
    refine s_off hm rfl rfl rfl rfl ?_
    clear hm a; intro a hm
    refine s_off hm rfl rfl rfl rfl ?_
    clear hm a; intro a hm
    refine s_pick_f hm rfl rfl rfl rfl ?_
    clear hm a; intro a hm
    refine s_assign hm rfl rfl ?_
    clear hm a; intro a hm
    refine wpList_nil ?_
    replace hm : Fr 26 a [(4, .bool false)] := hm.keep [4]
    refine x_then_n (hKJ_5 _ _ ?_)
    refine wp_ret ?_
    obtain rfl := Option.some.inj H
    exact f_ret hm (rs := [.tmp 4]) rfl (.tmp rfl .nil) ⟨_, rfl, Mem.no, rfl, (Sep.sel hS [0] (by decide))⟩

set_option maxHeartbeats 4000000 in
theorem slices_Clip_ssbyte_sbyte.calls (v : Value) (w : World) (hf : ∃ A l c, v = .slice A l c ∧ l ≤ c) : Calls Try.prog 50 [v].toArray w (Ret fun u w' => w = w' ∧ Clipped v u) := by
  obtain ⟨A, l, c, rfl, hlc⟩ := hf
  refine f_enter _ Try.func50 rfl Try.ntmps50 rfl fun a hm => ?_
  replace hm : Fr 9 a [(0, .slice A l c)] := hm
  refine wp_seq ?_
  refine wp_region_lit ?_
  refine s_assign hm rfl rfl ?_
  clear hm a; intro a hm
  refine wpList_nil ?_
  refine x_then_n ?_
  refine wp_seq ?_
  refine wp_region_lit ?_
  refine s_move hm rfl rfl ?_
  clear hm a; intro a hm
  refine s_move hm rfl rfl ?_
  clear hm a; intro a hm
  refine s_lenV hm rfl Try.underlying37 rfl ?_
  clear hm a; intro a hm
  refine s_move hm rfl rfl ?_
  clear hm a; intro a hm
  refine s_lenV hm rfl Try.underlying37 rfl ?_
  clear hm a; intro a hm
  refine s_clip hm rfl Try.underlying37 ti25 rfl rfl rfl hlc ?_
  clear hm a; intro a hm
  refine s_assign hm rfl rfl ?_
  clear hm a; intro a hm
  refine wpList_nil ?_
  refine x_then_n ?_
  refine wp_ret ?_
  exact f_ret hm (rs := [.tmp 2]) rfl (.tmp rfl .nil) ⟨_, rfl, rfl, A, l, c, rfl, rfl⟩

set_option maxHeartbeats 4000000 in
set_option maxRecDepth 20000 in
theorem fifo_Still.calls (K : Nat) (x0 : List (List UInt8)) (p0_0 : Value) (r : (List (List UInt8))) (w0 w : World) (Z A : Mem) (hA : A.le Z) (hS : Sep w0 w [] Z) (hp0_0 : Rd (Kd.slice Kd.u8) A p0_0 x0)
    (H : fifo_Still.f K x0 = some r) :
    Calls Try.prog 45 [p0_0].toArray w (Ret fun v w' => ∃ (u0 : Value) (N : Mem) (M0 : Mem), v = u0 ∧ Sep w0 w' [N, M0] Z ∧ Own (Kd.slice Kd.u8) 25 M0 N u0 r) := by
  unfold fifo_Still.f at H
  refine f_enter _ Try.func45 rfl Try.ntmps45 rfl fun a hm => ?_
  replace hm : Fr 20 a [(0, p0_0)] := hm
  replace hS := hS.start
  replace hS : Sep w0 w [Mem.no] Z := hS
  refine wp_seq ?_
  refine wp_region_lit ?_
  refine s_assign hm rfl rfl ?_
  clear hm a; intro a hm
  refine wpList_nil ?_
  replace hm : Fr 20 a [(0, p0_0), (2, .slice none 0 0)] := hm.keep [0, 2]
  refine x_then_n ?_
  refine wp_seq ?_
  refine wp_region_lit ?_
  refine s_assign hm rfl rfl ?_
  clear hm a; intro a hm
  refine wpList_nil ?_
  replace hm : Fr 20 a [(0, p0_0), (2, .slice none 0 0), (3, .slice none 0 0)] := hm.keep [0, 2, 3]
  refine x_then_n ?_
  refine c_seq fun KJ_1 hKJ_1 => ?_
  refine wp_seq ?_
  refine wp_region_lit ?_
  refine s_move hm rfl rfl ?_
  clear hm a; intro a hm
  refine s_len hm rfl Try.underlying37 rfl hp0_0 ?_
  clear hm a; intro a hm
  refine s_move hm rfl rfl ?_
  clear hm a; intro a hm
  refine wpList_nil ?_
  replace hm : Fr 20 a [(2, .slice none 0 0), (3, .slice none 0 0), (6, p0_0), (7, .int .i64 (x0.length : Int)), (8, .int .i64 0)] := hm.keep [2, 3, 6, 7, 8]
  refine x_then_n ?_
  have hJ_j_9 : ∀ (x_3 : List (List UInt8)), fifo_Still.j_9 K x_3 = some r → ∀ (a : Act) (w_8 : World), (∃ (v_6 : Value) (N_2 : Mem) (M_4 : Mem), Fr 20 a [(2, .slice none 0 0), (3, v_6)] ∧ Sep w0 w_8 [N_2, M_4] Z ∧ Mem.no.le N_2 ∧ Own (Kd.slice Kd.u8) 25 M_4 N_2 v_6 x_3) → KJ_1 a w_8 := by
    clear H hm hS a
    rintro x_3 H a w_8 ⟨v_6, N_2, M_4, hm, hS, le_2, ho_7⟩
    unfold fifo_Still.j_9 at H
    refine hKJ_1 _ _ ?_
    refine wp_seq ?_
    refine wp_region_lit ?_
    refine s_move hm rfl rfl ?_
    clear hm a; intro a hm
    refine s_call hm rfl Try.call50 rfl (slices_Clip_ssbyte_sbyte.calls _ _ ho_7.slform) ?_
    rintro v_10 _ ⟨rfl, hk_11⟩
    clear hm a; intro a hm
    refine s_assign hm rfl rfl ?_
    clear hm a; intro a hm
    refine wpList_nil ?_
    replace hm : Fr 20 a [(2, v_10)] := hm.keep [2]
    refine x_then_n ?_
    refine wp_ret ?_
    obtain rfl := Option.some.inj H
    exact f_ret hm (rs := [.tmp 2]) rfl (.tmp rfl .nil) ⟨_, rfl, v_10, N_2, M_4, rfl, (Sep.sel hS [0, 1] (by decide)), ((ho_7.clip hk_11).mono (Mem.le.refl _))⟩
  clear hKJ_1
  have hS' := hS.room
  replace hS : Sep w0 w [Mem.no, Mem.no] Z := hS'
  clear hS'
  replace hS : Sep w0 w [Mem.no, Mem.no] Z := hS
  replace hm : Fr 20 a [(2, .slice none 0 0), (3, .slice none 0 0), (6, p0_0), (7, .int .i64 (x0.length : Int)), (8, .int .i64 0)] := hm.keep [2, 3, 6, 7, 8]
  refine c_block ?_
  refine c_loop (fun k_20 a w_20 => ∃ (x_14 : List (List UInt8)) (x_19 : Int) (v_17 : Value) (N_13 : Mem) (M_15 : Mem), fifo_Still.l_20 K x0 (fun v => fifo_Still.j_9 K v) k_20 (x_14, x_19) = some r ∧ Fr 20 a [(2, .slice none 0 0), (3, v_17), (6, p0_0), (7, .int .i64 (x0.length : Int)), (8, .int .i64 x_19)] ∧ Sep w0 w_20 [N_13, M_15] Z ∧ Mem.no.le N_13 ∧ Own (Kd.slice Kd.u8) 25 M_15 N_13 v_17 x_14) K ⟨([] : List (List UInt8)), 0, .slice none 0 0, Mem.no, Mem.no, H, hm, (Sep.sel hS [0, 1] (by decide)), (Mem.le.refl _), ((Own.nil (Kd.slice Kd.u8) 25 Mem.no).mono (Mem.le.refl _))⟩ (fun a w h => by obtain ⟨_, _, _, _, _, H, _⟩ := h; cases (show (none : Option ((List (List UInt8)))) = some r from H)) ?_
  clear hm hS a H
  rintro k_20 a w_20 KL_20 hKL_20 ⟨x_14, x_19, v_17, N_13, M_15, H, hm, hS, le_13, ho_18⟩
  replace H : fifo_Still.b_20 K x0 (fun v => fifo_Still.j_9 K v) (fifo_Still.l_20 K x0 (fun v => fifo_Still.j_9 K v) k_20) x_14 x_19 = some r := H
  unfold fifo_Still.b_20 at H
  refine wp_seq ?_
  refine wp_region_lit ?_
  refine s_cmp (b := decide (x_19 < (x0.length : Int))) hm rfl rfl rfl (.inr (.inr (.inl ⟨rfl, rfl⟩))) ?_
  clear hm a; intro a hm
  refine wpList_nil ?_
  replace hm : Fr 20 a [(2, .slice none 0 0), (3, v_17), (6, p0_0), (7, .int .i64 (x0.length : Int)), (8, .int .i64 x_19), (9, .bool (decide (x_19 < (x0.length : Int))))] := hm.keep [2, 3, 6, 7, 8, 9]
  refine x_then_n ?_
  refine c_seq fun KJ_23 hKJ_23 => ?_
  by_cases hc_24 : x_19 < (x0.length : Int)
  · rw [if_pos hc_24] at H
    refine c_cond_t hm rfl (decide_eq_true hc_24) ?_
    refine wp_skip ?_
    refine x_then_n (hKJ_23 _ _ ?_)
    refine wp_seq ?_
    refine c_block ?_
    refine wp_seq ?_
    refine wp_region_lit ?_
    obtain ⟨t_25, et_25, H⟩ := Option.bind_eq_some_iff.1 H
    refine v_index hm rfl Try.underlying37 ti25 rfl rfl rfl hp0_0 (hA.trans hS.old) et_25 ?_
    intro ad_26 cs_27 hk_28 hc_29
    obtain ⟨v_30, rfl, hr_31⟩ := hk_28
    clear hm a; intro a hm
    refine s_load hm rfl rfl (el_one (o := 0) hc_29 Try.underlying25 rfl rfl) ?_
    clear hm a; intro a hm
    refine s_assign hm rfl rfl ?_
    clear hm a; intro a hm
    refine wpList_nil ?_
    replace hm : Fr 20 a [(2, .slice none 0 0), (3, v_17), (5, v_30), (6, p0_0), (7, .int .i64 (x0.length : Int)), (8, .int .i64 x_19)] := hm.keep [2, 3, 5, 6, 7, 8]
    refine x_then_n ?_
    refine wp_region_lit ?_
    refine s_move hm rfl rfl ?_
    clear hm a; intro a hm
    refine s_move hm rfl rfl ?_
    clear hm a; intro a hm
    obtain ⟨t_32, et_32, H⟩ := Option.bind_eq_some_iff.1 H
    refine s_call hm rfl Try.call42 rfl (slices_Clone_sbyte_byte.calls t_25 _ t_32 w0 _ _ _ (Mem.le.refl _) (hS.enter [] (by decide)) (hr_31.mono (hA.trans (hS.le_zed []))) et_32) ?_
    rintro v_36 w_33 ⟨_, N_34, M_38, rfl, hS', hr_37⟩
    clear hm a; intro a hm
    obtain ⟨N_35, hS'', le_35, ln_35⟩ := hS.call [] (by decide) rfl (l' := []) (ow := [M_38]) rfl hS'
    replace hS : Sep w0 w_33 [N_35, M_15, M_38] Z := hS''
    clear hS' hS''
    obtain ⟨N_40, hS', le_40, lo_40⟩ := hS.freeze 1 rfl
    replace hS : Sep w0 w_33 [N_40, M_15, Mem.no] Z := hS'
    clear hS'
    have hq_45 : Reps (Kd.slice Kd.u8) N_40 ([t_32] : List (List UInt8)) _ := ((Reps.one (d := (Kd.slice Kd.u8)) (x := t_32) ⟨_, rfl, (hr_37.rd lo_40 (Mem.no_le _))⟩).append (Reps.nil (Kd.slice Kd.u8) _))
    refine s_buildSlice hm rfl Try.underlying37 ti25 rfl rfl rfl (.cons (hr_37.rd lo_40 (Mem.no_le _)).cells .nil) rfl rfl rfl hS hq_45 rfl ?_
    intro w_41 v_42 M_43 hS' ho_44
    clear hm a; intro a hm
    replace hS : Sep w0 w_41 [N_40, M_15, Mem.no, M_43] Z := hS'
    clear hS' hq_45
    obtain ⟨t_47, et_47, H⟩ := Option.bind_eq_some_iff.1 H
    refine s_append (J := N_40) (I' := N_40) (p := 1) 5864062014805 hm rfl rfl rfl Try.underlying37 ti25 rfl rfl rfl rfl hS rfl ho_18 (ho_44.src (hS.own 3)) (le_35.trans le_40) (Mem.le.refl _) et_47 ?_
    intro w_48 v_49 M_50 hS' ho_51
    clear hm a; intro a hm
    replace hS : Sep w0 w_48 [N_40, M_50, Mem.no, M_43] Z := hS'
    clear hS'
    refine s_assign hm rfl rfl ?_
    clear hm a; intro a hm
    refine wpList_nil ?_
    replace hm : Fr 20 a [(2, .slice none 0 0), (3, v_49), (6, p0_0), (7, .int .i64 (x0.length : Int)), (8, .int .i64 x_19)] := hm.keep [2, 3, 6, 7, 8]
    refine x_block_n ?_
    refine x_then_n ?_
    refine wp_region_lit ?_
    refine s_arith (r := w64 (x_19 + 1)) hm rfl rfl rfl (.inl ⟨rfl, rfl⟩) ?_
    clear hm a; intro a hm
    refine s_move hm rfl rfl ?_
    clear hm a; intro a hm
    refine wpList_nil ?_
    replace hm : Fr 20 a [(2, .slice none 0 0), (3, v_49), (6, p0_0), (7, .int .i64 (x0.length : Int)), (8, .int .i64 (w64 (x_19 + 1)))] := hm.keep [2, 3, 6, 7, 8]
    refine x_then_n (hKL_20 _ _ ?_)
    replace hS : Sep w0 w_48 [N_40, M_50, Mem.no, M_43] Z := hS
    replace hm : Fr 20 a [(2, .slice none 0 0), (3, v_49), (6, p0_0), (7, .int .i64 (x0.length : Int)), (8, .int .i64 (w64 (x_19 + 1)))] := hm.keep [2, 3, 6, 7, 8]
    exact ⟨t_47, w64 (x_19 + 1), v_49, N_40, M_50, H, hm, (Sep.sel hS [0, 1] (by decide)), (le_13.trans (le_35.trans le_40)), (ho_51.mono (Mem.le.refl _))⟩
  · rw [if_neg hc_24] at H
    refine c_cond_f hm rfl (decide_eq_false hc_24) ?_
    refine wp_exit (x_then_x (x_then_x (x_block_t ?_)))
    replace hS : Sep w0 w_20 [N_13, M_15] Z := hS
    replace hm : Fr 20 a [(2, .slice none 0 0), (3, v_17)] := hm.keep [2, 3]
    exact x_then_n (hJ_j_9 x_14 H _ _ ⟨v_17, N_13, M_15, hm, (Sep.sel hS [0, 1] (by decide)), le_13, (ho_18.mono (Mem.le.refl _))⟩)

set_option maxHeartbeats 4000000 in
set_option maxRecDepth 20000 in
theorem fifo_Push.calls (K : Nat) (x0 : List (List UInt8)) (p0_0 : Value) (x1 : List UInt8) (p1_1 : Value) (r : (List (List UInt8)) × api_Result) (w0 w : World) (Z A : Mem) (hA : A.le Z) (hS : Sep w0 w [] Z) (hp0_0 : Rd (Kd.slice Kd.u8) A p0_0 x0) (hp1_1 : Rd Kd.u8 A p1_1 x1)
    (H : fifo_Push.f K x0 x1 = some r) :
    Calls Try.prog 22 [p0_0, p1_1].toArray w (Ret fun v w' => ∃ (u0 : Value) (u1 : Value) (N : Mem) (M0 : Mem) (M1 : Mem), v = .tuple [u0, .agg [.int .i64 r.2.Err, u1, .int .i64 r.2.N].toArray].toArray ∧ Sep w0 w' [N, M0, M1] Z ∧ Own (Kd.slice Kd.u8) 25 M0 N u0 r.1 ∧ Own Kd.u8 5 M1 Mem.no u1 r.2.Val) := by
  unfold fifo_Push.f at H
  refine f_enter _ Try.func22 rfl Try.ntmps22 rfl fun a hm => ?_
  replace hm : Fr 29 a [(0, p0_0), (1, p1_1)] := hm
  replace hS := hS.start
  replace hS : Sep w0 w [Mem.no] Z := hS
  refine wp_seq ?_
  refine wp_region_lit ?_
  refine s_assign hm rfl rfl ?_
  clear hm a; intro a hm
  refine v_alloc hm rfl ti27 hS ?_
  intro w_1 g_2 hS'
  clear hm a; intro a hm
  replace hS : Sep w0 w_1 [Mem.no, Mem.one g_2 (.cells ([.int .i64 0, .slice none 0 0, .int .i64 0] : List Value).toArray 27 (0, 0))] Z := hS'
  clear hS'
  refine wpList_nil ?_
  replace hm : Fr 29 a [(0, p0_0), (1, p1_1), (4, .slice none 0 0), (5, .pointer (some ⟨g_2, 0, none⟩))] := hm.keep [0, 1, 4, 5]
  refine x_then_n ?_
  refine wp_seq ?_
  refine wp_region_lit ?_
  refine s_move hm rfl rfl ?_
  clear hm a; intro a hm
  obtain ⟨t_3, et_3, H⟩ := Option.bind_eq_some_iff.1 H
  refine s_call hm rfl Try.call45 rfl (fifo_Still.calls K x0 _ t_3 w0 _ _ _ (Mem.le.refl _) (hS.enter [] (by decide)) (hp0_0.mono (hA.trans (hS.le_zed []))) et_3) ?_
  rintro v_7 w_4 ⟨_, N_5, M_9, rfl, hS', hr_8⟩
  clear hm a; intro a hm
  obtain ⟨N_6, hS'', le_6, ln_6⟩ := hS.call [] (by decide) rfl (l' := []) (ow := [M_9]) rfl hS'
  replace hS : Sep w0 w_4 [N_6, Mem.one g_2 (.cells ([.int .i64 0, .slice none 0 0, .int .i64 0] : List Value).toArray 27 (0, 0)), M_9] Z := hS''
  clear hS' hS''
  refine s_assign hm rfl rfl ?_
  clear hm a; intro a hm
  refine wpList_nil ?_
  replace hm : Fr 29 a [(0, v_7), (1, p1_1), (4, .slice none 0 0), (5, .pointer (some ⟨g_2, 0, none⟩))] := hm.keep [0, 1, 4, 5]
  refine x_then_n ?_
  refine c_seq fun KJ_11 hKJ_11 => ?_
  refine c_block ?_
  refine wp_seq ?_
  refine wp_region_lit ?_
  refine s_move hm rfl rfl ?_
  clear hm a; intro a hm
  refine s_len hm rfl Try.underlying25 rfl hp1_1 ?_
  clear hm a; intro a hm
  refine s_cmp (b := decide ((x1.length : Int) > 16)) hm rfl rfl rfl (.inr (.inr (.inr (.inr (.inl ⟨rfl, rfl⟩))))) ?_
  clear hm a; intro a hm
  refine s_assign hm rfl rfl ?_
  clear hm a; intro a hm
  refine wpList_nil ?_
  replace hm : Fr 29 a [(0, v_7), (1, p1_1), (4, .slice none 0 0), (5, .pointer (some ⟨g_2, 0, none⟩)), (8, .bool (decide ((x1.length : Int) > 16)))] := hm.keep [0, 1, 4, 5, 8]
  refine x_then_n ?_
  by_cases hc_12 : (x1.length : Int) > 16
  · rw [if_pos hc_12] at H
    refine c_cond_t hm rfl (decide_eq_true hc_12) ?_
    refine wp_seq ?_
    refine wp_region_lit ?_
    refine s_move hm rfl rfl ?_
    clear hm a; intro a hm
    refine s_build hm rfl ti27 pl27 rfl (.cons rfl .nil) (cs := [.int .i64 1, .slice none 0 0, .int .i64 0]) rfl ?_
    clear hm a; intro a hm
    refine s_assign hm rfl rfl ?_
    clear hm a; intro a hm
    obtain ⟨w_13, hs', hS'⟩ := hS.store (P := Try.prog) (p := 1) (o := 0) (t := 27) (v := .agg [.int .i64 1, .slice none 0 0, .int .i64 0].toArray) (vs := [.int .i64 1, .slice none 0 0, .int .i64 0]) rfl ti27 rfl rfl rfl (by intro u hu; simp only [List.mem_cons, List.not_mem_nil, or_false] at hu; rcases hu with rfl | rfl | rfl <;> rfl)
    refine s_store hm rfl rfl hs' ?_
    replace hS : Sep w0 w_13 [N_6, Mem.one g_2 (.cells ([.int .i64 1, .slice none 0 0, .int .i64 0] : List Value).toArray 27 (0, 0)), M_9] Z := hS'
    clear hs' hS'
    refine wpList_nil ?_
    replace hm : Fr 29 a [(0, v_7), (1, p1_1), (4, v_7), (5, .pointer (some ⟨g_2, 0, none⟩))] := hm.keep [0, 1, 4, 5]
    refine x_then_n ?_
    refine wp_ret (x_block_r (x_then_r ?_))
    have hS' := hS.room
    replace hS : Sep w0 w_13 [N_6, Mem.one g_2 (.cells ([.int .i64 1, .slice none 0 0, .int .i64 0] : List Value).toArray 27 (0, 0)), M_9, Mem.no] Z := hS'
    clear hS'
    replace hS : Sep w0 w_13 [N_6, Mem.one g_2 (.cells ([.int .i64 1, .slice none 0 0, .int .i64 0] : List Value).toArray 27 (0, 0)), M_9, Mem.no] Z := hS
    obtain rfl := Option.some.inj H
    exact f_ret hm (rs := [.tmp 4, .cell 5 27]) rfl (.tmp rfl (.cell rfl (hS.load_agg (p := 1) (us := [.int .i64 1, .slice none 0 0, .int .i64 0]) rfl Try.underlying27 rfl ti27 rfl rfl) .nil)) ⟨_, rfl, v_7, .slice none 0 0, N_6, M_9, Mem.no, rfl, (Sep.sel hS [0, 2, 3] (by decide)), ((hr_8.mono ln_6).mono (Mem.le.refl _)), (Own.nil Kd.u8 5 Mem.no)⟩
  · rw [if_neg hc_12] at H
    refine c_cond_f hm rfl (decide_eq_false hc_12) ?_
    refine wp_seq ?_
    refine wp_region_lit ?_
    refine s_move hm rfl rfl ?_
    clear hm a; intro a hm
    refine s_lenO hm rfl Try.underlying37 rfl (hr_8.mono ln_6) ?_
    clear hm a; intro a hm
    refine s_cmp (b := decide ((t_3.length : Int) ≥ 8)) hm rfl rfl rfl (.inr (.inr (.inr (.inr (.inr ⟨rfl, rfl⟩))))) ?_
    clear hm a; intro a hm
    refine s_assign hm rfl rfl ?_
    clear hm a; intro a hm
    refine wpList_nil ?_
    replace hm : Fr 29 a [(0, v_7), (1, p1_1), (4, .slice none 0 0), (5, .pointer (some ⟨g_2, 0, none⟩)), (14, .bool (decide ((t_3.length : Int) ≥ 8)))] := hm.keep [0, 1, 4, 5, 14]
    refine x_then_n ?_
    by_cases hc_15 : (t_3.length : Int) ≥ 8
    · rw [if_pos hc_15] at H
      refine c_cond_t hm rfl (decide_eq_true hc_15) ?_
      refine wp_seq ?_
      refine wp_region_lit ?_
      refine s_move hm rfl rfl ?_
      clear hm a; intro a hm
      refine s_build hm rfl ti27 pl27 rfl (.cons rfl .nil) (cs := [.int .i64 3, .slice none 0 0, .int .i64 0]) rfl ?_
      clear hm a; intro a hm
      refine s_assign hm rfl rfl ?_
      clear hm a; intro a hm
      obtain ⟨w_16, hs', hS'⟩ := hS.store (P := Try.prog) (p := 1) (o := 0) (t := 27) (v := .agg [.int .i64 3, .slice none 0 0, .int .i64 0].toArray) (vs := [.int .i64 3, .slice none 0 0, .int .i64 0]) rfl ti27 rfl rfl rfl (by intro u hu; simp only [List.mem_cons, List.not_mem_nil, or_false] at hu; rcases hu with rfl | rfl | rfl <;> rfl)
      refine s_store hm rfl rfl hs' ?_
      replace hS : Sep w0 w_16 [N_6, Mem.one g_2 (.cells ([.int .i64 3, .slice none 0 0, .int .i64 0] : List Value).toArray 27 (0, 0)), M_9] Z := hS'
      clear hs' hS'
      refine wpList_nil ?_
      replace hm : Fr 29 a [(0, v_7), (1, p1_1), (4, v_7), (5, .pointer (some ⟨g_2, 0, none⟩))] := hm.keep [0, 1, 4, 5]
      refine x_then_n ?_
      refine wp_ret (x_block_r (x_then_r ?_))
      have hS' := hS.room
      replace hS : Sep w0 w_16 [N_6, Mem.one g_2 (.cells ([.int .i64 3, .slice none 0 0, .int .i64 0] : List Value).toArray 27 (0, 0)), M_9, Mem.no] Z := hS'
      clear hS'
      replace hS : Sep w0 w_16 [N_6, Mem.one g_2 (.cells ([.int .i64 3, .slice none 0 0, .int .i64 0] : List Value).toArray 27 (0, 0)), M_9, Mem.no] Z := hS
      obtain rfl := Option.some.inj H
      exact f_ret hm (rs := [.tmp 4, .cell 5 27]) rfl (.tmp rfl (.cell rfl (hS.load_agg (p := 1) (us := [.int .i64 3, .slice none 0 0, .int .i64 0]) rfl Try.underlying27 rfl ti27 rfl rfl) .nil)) ⟨_, rfl, v_7, .slice none 0 0, N_6, M_9, Mem.no, rfl, (Sep.sel hS [0, 2, 3] (by decide)), ((hr_8.mono ln_6).mono (Mem.le.refl _)), (Own.nil Kd.u8 5 Mem.no)⟩
    · rw [if_neg hc_15] at H
      refine c_cond_f hm rfl (decide_eq_false hc_15) ?_
      refine wp_skip ?_
      refine x_block_n ?_
      refine x_then_n (hKJ_11 _ _ ?_)
      refine wp_seq ?_
      refine wp_region_lit ?_
      refine s_move hm rfl rfl ?_
      clear hm a; intro a hm
      refine s_move hm rfl rfl ?_
      clear hm a; intro a hm
      obtain ⟨t_18, et_18, H⟩ := Option.bind_eq_some_iff.1 H
      refine s_call hm rfl Try.call42 rfl (slices_Clone_sbyte_byte.calls x1 _ t_18 w0 _ _ _ (Mem.le.refl _) (hS.enter [] (by decide)) (hp1_1.mono (hA.trans (hS.le_zed []))) et_18) ?_
      rintro v_22 w_19 ⟨_, N_20, M_24, rfl, hS', hr_23⟩
      clear hm a; intro a hm
      obtain ⟨N_21, hS'', le_21, ln_21⟩ := hS.call [] (by decide) rfl (l' := []) (ow := [M_24]) rfl hS'
      replace hS : Sep w0 w_19 [N_21, Mem.one g_2 (.cells ([.int .i64 0, .slice none 0 0, .int .i64 0] : List Value).toArray 27 (0, 0)), M_9, M_24] Z := hS''
      clear hS' hS''
      obtain ⟨N_26, hS', le_26, lo_26⟩ := hS.freeze 2 rfl
      replace hS : Sep w0 w_19 [N_26, Mem.one g_2 (.cells ([.int .i64 0, .slice none 0 0, .int .i64 0] : List Value).toArray 27 (0, 0)), M_9, Mem.no] Z := hS'
      clear hS'
      have hq_31 : Reps (Kd.slice Kd.u8) N_26 ([t_18] : List (List UInt8)) _ := ((Reps.one (d := (Kd.slice Kd.u8)) (x := t_18) ⟨_, rfl, (hr_23.rd lo_26 (Mem.no_le _))⟩).append (Reps.nil (Kd.slice Kd.u8) _))
      refine s_buildSlice hm rfl Try.underlying37 ti25 rfl rfl rfl (.cons (hr_23.rd lo_26 (Mem.no_le _)).cells .nil) rfl rfl rfl hS hq_31 rfl ?_
      intro w_27 v_28 M_29 hS' ho_30
      clear hm a; intro a hm
      replace hS : Sep w0 w_27 [N_26, Mem.one g_2 (.cells ([.int .i64 0, .slice none 0 0, .int .i64 0] : List Value).toArray 27 (0, 0)), M_9, Mem.no, M_29] Z := hS'
      clear hS' hq_31
      obtain ⟨t_33, et_33, H⟩ := Option.bind_eq_some_iff.1 H
      refine s_append (J := N_26) (I' := N_26) (p := 2) 5864062014805 hm rfl rfl rfl Try.underlying37 ti25 rfl rfl rfl rfl hS rfl (hr_8.mono ln_6) (ho_30.src (hS.own 4)) (le_21.trans le_26) (Mem.le.refl _) et_33 ?_
      intro w_34 v_35 M_36 hS' ho_37
      clear hm a; intro a hm
      replace hS : Sep w0 w_34 [N_26, Mem.one g_2 (.cells ([.int .i64 0, .slice none 0 0, .int .i64 0] : List Value).toArray 27 (0, 0)), M_36, Mem.no, M_29] Z := hS'
      clear hS'
      refine s_move hm rfl rfl ?_
      clear hm a; intro a hm
      refine s_lenO hm rfl Try.underlying37 rfl (hr_8.mono ln_6) ?_
      clear hm a; intro a hm
      refine s_arith (r := w64 ((t_3.length : Int) + 1)) hm rfl rfl rfl (.inl ⟨rfl, rfl⟩) ?_
      clear hm a; intro a hm
      refine s_build hm rfl ti27 pl27 rfl (.cons rfl .nil) (cs := [.int .i64 0, .slice none 0 0, .int .i64 (w64 ((t_3.length : Int) + 1))]) rfl ?_
      clear hm a; intro a hm
      refine s_assign hm rfl rfl ?_
      clear hm a; intro a hm
      obtain ⟨w_39, hs', hS'⟩ := hS.store (P := Try.prog) (p := 1) (o := 0) (t := 27) (v := .agg [.int .i64 0, .slice none 0 0, .int .i64 (w64 ((t_3.length : Int) + 1))].toArray) (vs := [.int .i64 0, .slice none 0 0, .int .i64 (w64 ((t_3.length : Int) + 1))]) rfl ti27 rfl rfl rfl (by intro u hu; simp only [List.mem_cons, List.not_mem_nil, or_false] at hu; rcases hu with rfl | rfl | rfl <;> rfl)
      refine s_store hm rfl rfl hs' ?_
      replace hS : Sep w0 w_39 [N_26, Mem.one g_2 (.cells ([.int .i64 0, .slice none 0 0, .int .i64 (w64 ((t_3.length : Int) + 1))] : List Value).toArray 27 (0, 0)), M_36, Mem.no, M_29] Z := hS'
      clear hs' hS'
      refine wpList_nil ?_
      replace hm : Fr 29 a [(4, v_35), (5, .pointer (some ⟨g_2, 0, none⟩))] := hm.keep [4, 5]
      refine x_then_n ?_
      refine wp_ret ?_
      have hS' := hS.room
      replace hS : Sep w0 w_39 [N_26, Mem.one g_2 (.cells ([.int .i64 0, .slice none 0 0, .int .i64 (w64 ((t_3.length : Int) + 1))] : List Value).toArray 27 (0, 0)), M_36, Mem.no, M_29, Mem.no] Z := hS'
      clear hS'
      replace hS : Sep w0 w_39 [N_26, Mem.one g_2 (.cells ([.int .i64 0, .slice none 0 0, .int .i64 (w64 ((t_3.length : Int) + 1))] : List Value).toArray 27 (0, 0)), M_36, Mem.no, M_29, Mem.no] Z := hS
      obtain rfl := Option.some.inj H
      exact f_ret hm (rs := [.tmp 4, .cell 5 27]) rfl (.tmp rfl (.cell rfl (hS.load_agg (p := 1) (us := [.int .i64 0, .slice none 0 0, .int .i64 (w64 ((t_3.length : Int) + 1))]) rfl Try.underlying27 rfl ti27 rfl rfl) .nil)) ⟨_, rfl, v_35, .slice none 0 0, N_26, M_36, Mem.no, rfl, (Sep.sel hS [0, 2, 5] (by decide)), (ho_37.mono (Mem.le.refl _)), (Own.nil Kd.u8 5 Mem.no)⟩

set_option maxHeartbeats 4000000 in
set_option maxRecDepth 20000 in
theorem hocketref4_SameRows.calls (K : Nat) (x0 : List (List UInt8)) (p0_0 : Value) (x1 : List (List UInt8)) (p1_1 : Value) (r : Bool) (w0 w : World) (Z A : Mem) (hA : A.le Z) (hS : Sep w0 w [] Z) (hp0_0 : Rd (Kd.slice Kd.u8) A p0_0 x0) (hp1_1 : Rd (Kd.slice Kd.u8) A p1_1 x1)
    (H : hocketref4_SameRows.f K x0 x1 = some r) :
    Calls Try.prog 23 [p0_0, p1_1].toArray w (Ret fun v w' => ∃ (N : Mem), v = .bool r ∧ Sep w0 w' [N] Z) := by
  unfold hocketref4_SameRows.f at H
  refine f_enter _ Try.func23 rfl Try.ntmps23 rfl fun a hm => ?_
  replace hm : Fr 28 a [(0, p0_0), (1, p1_1)] := hm
  replace hS := hS.start
  replace hS : Sep w0 w [Mem.no] Z := hS
  refine wp_seq ?_
  refine wp_region_lit ?_
  refine s_assign hm rfl rfl ?_
  clear hm a; intro a hm
  refine wpList_nil ?_
  replace hm : Fr 28 a [(0, p0_0), (1, p1_1), (4, .bool false)] := hm.keep [0, 1, 4]
  refine x_then_n ?_
  refine c_seq fun KJ_1 hKJ_1 => ?_
  refine wp_seq ?_
  refine wp_region_lit ?_
  refine s_move hm rfl rfl ?_
  clear hm a; intro a hm
  refine s_len hm rfl Try.underlying37 rfl hp0_0 ?_
  clear hm a; intro a hm
  refine s_move hm rfl rfl ?_
  clear hm a; intro a hm
  refine s_len hm rfl Try.underlying37 rfl hp1_1 ?_
  clear hm a; intro a hm
  refine s_cmp (b := ((x0.length : Int) != (x1.length : Int))) hm rfl rfl rfl (.inr (.inl ⟨rfl, rfl⟩)) ?_
  clear hm a; intro a hm
  refine wpList_nil ?_
  replace hm : Fr 28 a [(0, p0_0), (1, p1_1), (4, .bool false), (10, .bool ((x0.length : Int) != (x1.length : Int)))] := hm.keep [0, 1, 4, 10]
  refine x_then_n ?_
  by_cases hc_2 : (x0.length : Int) = (x1.length : Int)
  · rw [if_pos hc_2] at H
    refine c_cond_f hm rfl (bne_eq_false_iff_eq.2 hc_2) ?_
    refine wp_skip ?_
    refine x_then_n (hKJ_1 _ _ ?_)
    refine c_seq fun KJ_3 hKJ_3 => ?_
    refine wp_seq ?_
    refine wp_region_lit ?_
    refine s_assign hm rfl rfl ?_
    clear hm a; intro a hm
    refine wpList_nil ?_
    replace hm : Fr 28 a [(0, p0_0), (1, p1_1), (4, .bool false), (5, .int .i64 0)] := hm.keep [0, 1, 4, 5]
    refine x_then_n ?_
    have hJ_j_6 : hocketref4_SameRows.j_6 K = some r → ∀ (a : Act) (w_5 : World), (∃ (N_4 : Mem), Fr 28 a [(4, .bool false)] ∧ Sep w0 w_5 [N_4] Z ∧ Mem.no.le N_4) → KJ_3 a w_5 := by
      clear H hm hS a
      rintro H a w_5 ⟨N_4, hm, hS, le_4⟩
      unfold hocketref4_SameRows.j_6 at H
      refine hKJ_3 _ _ ?_
      refine wp_seq ?_
      refine wp_region_lit ?_
      refine s_assign hm rfl rfl ?_
      clear hm a; intro a hm
      refine wpList_nil ?_
      replace hm : Fr 28 a [(4, .bool true)] := hm.keep [4]
      refine x_then_n ?_
      refine wp_ret ?_
      obtain rfl := Option.some.inj H
      exact f_ret hm (rs := [.tmp 4]) rfl (.tmp rfl .nil) ⟨_, rfl, N_4, rfl, (Sep.sel hS [0] (by decide))⟩
    clear hKJ_3
    replace hS : Sep w0 w [Mem.no] Z := hS
    replace hm : Fr 28 a [(0, p0_0), (1, p1_1), (4, .bool false), (5, .int .i64 0)] := hm.keep [0, 1, 4, 5]
    refine c_block ?_
    refine c_loop (fun k_9 a w_9 => ∃ (x_8 : Int) (N_7 : Mem), hocketref4_SameRows.l_9 K x0 x1 (fun v => hocketref4_SameRows.j_6 K) k_9 x_8 = some r ∧ Fr 28 a [(0, p0_0), (1, p1_1), (4, .bool false), (5, .int .i64 x_8)] ∧ Sep w0 w_9 [N_7] Z ∧ Mem.no.le N_7) K ⟨0, Mem.no, H, hm, (Sep.sel hS [0] (by decide)), (Mem.le.refl _)⟩ (fun a w h => by obtain ⟨_, _, H, _⟩ := h; cases (show (none : Option (Bool)) = some r from H)) ?_
    clear hm hS a H
    rintro k_9 a w_9 KL_9 hKL_9 ⟨x_8, N_7, H, hm, hS, le_7⟩
    replace H : hocketref4_SameRows.b_9 K x0 x1 (fun v => hocketref4_SameRows.j_6 K) (hocketref4_SameRows.l_9 K x0 x1 (fun v => hocketref4_SameRows.j_6 K) k_9) x_8 = some r := H
    unfold hocketref4_SameRows.b_9 at H
    refine c_seq fun KJ_11 hKJ_11 => ?_
    refine wp_seq ?_
    refine wp_region_lit ?_
    refine s_move hm rfl rfl ?_
    clear hm a; intro a hm
    refine s_move hm rfl rfl ?_
    clear hm a; intro a hm
    refine s_len hm rfl Try.underlying37 rfl hp0_0 ?_
    clear hm a; intro a hm
    refine s_cmp (b := decide (x_8 < (x0.length : Int))) hm rfl rfl rfl (.inr (.inr (.inl ⟨rfl, rfl⟩))) ?_
    clear hm a; intro a hm
    refine wpList_nil ?_
    replace hm : Fr 28 a [(0, p0_0), (1, p1_1), (4, .bool false), (5, .int .i64 x_8), (14, .bool (decide (x_8 < (x0.length : Int))))] := hm.keep [0, 1, 4, 5, 14]
    refine x_then_n ?_
    by_cases hc_12 : x_8 < (x0.length : Int)
    · rw [if_pos hc_12] at H
      refine c_cond_t hm rfl (decide_eq_true hc_12) ?_
      refine wp_skip ?_
      refine x_then_n (hKJ_11 _ _ ?_)
      refine c_seq fun KJ_13 hKJ_13 => ?_
      refine c_block ?_
      refine wp_seq ?_
      refine h_begin (S := fun w => Sep w0 w [N_7] Z) 11 (by kernel_rfl) rfl [false, false, false, false, false, false, false, false, false, false, false].toArray rfl hS fun w_14 hS => ?_
      replace hS : Sep w0 w_14 [N_7] Z := hS
      refine h_take 0 [true, false, false, false, false, false, false, false, false, false, false].toArray rfl (by kernel_rfl) (by kernel_rfl) (by kernel_rfl) (fun _ _ _ _ h => h) rfl rfl rfl rfl hm (hS.sub (.cons (Mem.le.refl _) (Sub.nil _))) (v := p0_0) (fun w hS => r_move hm rfl) ?_
      clear hm a; intro a hm
      refine h_take 1 [true, true, false, false, false, false, false, false, false, false, false].toArray rfl (by kernel_rfl) (by kernel_rfl) (by kernel_rfl) (fun _ _ _ _ h => h) rfl rfl rfl rfl hm (hS.sub (.cons (Mem.le.refl _) (Sub.nil _))) (v := .int .i64 x_8) (fun w hS => r_move hm rfl) ?_
      clear hm a; intro a hm
      obtain ⟨t_15, et_15, H⟩ := Option.bind_eq_some_iff.1 H
      refine h_takeE 2 [true, true, true, false, false, false, false, false, false, false, false].toArray rfl (by kernel_rfl) (by kernel_rfl) (by kernel_rfl) (fun _ _ _ _ h => h) rfl rfl rfl rfl hm (hS.sub (.cons (Mem.le.refl _) (Sub.nil _))) (f := fun ad => .pointer (some ad)) (r_index hm Try.underlying37 ti25 rfl rfl rfl hp0_0 et_15) ?_
      rintro ad_16 ⟨cs_17, hk_18, hc_19⟩
      obtain ⟨v_20, rfl, hr_21⟩ := hk_18
      clear hm a; intro a hm
      refine h_take 3 [true, true, true, true, false, false, false, false, false, false, false].toArray rfl (by kernel_rfl) (by kernel_rfl) (by kernel_rfl) (fun _ _ _ _ h => h) rfl rfl rfl rfl hm (hS.sub (.cons (Mem.le.refl _) (Sub.nil _))) (v := v_20) (fun w hS => r_load hm rfl (el_one (o := 0) (fun j c h => Mem.cell_le (hA.trans hS.old) (hc_19 j c h)) Try.underlying25 rfl rfl)) ?_
      clear hm a; intro a hm
      refine h_take 4 [true, true, true, true, true, false, false, false, false, false, false].toArray rfl (by kernel_rfl) (by kernel_rfl) (by kernel_rfl) (fun _ _ _ _ h => h) rfl rfl rfl rfl hm (hS.sub (.cons (Mem.le.refl _) (Sub.nil _))) (v := .string ⟨t_15.toArray⟩) (fun w hS => r_b2s hm Try.underlying25 Try.underlying5 Try.underlying9 rfl hr_21 (hA.trans hS.old)) ?_
      clear hm a; intro a hm
      refine h_take 5 [true, true, true, true, true, true, false, false, false, false, false].toArray rfl (by kernel_rfl) (by kernel_rfl) (by kernel_rfl) (fun _ _ _ _ h => h) rfl rfl rfl rfl hm (hS.sub (.cons (Mem.le.refl _) (Sub.nil _))) (v := p1_1) (fun w hS => r_move hm rfl) ?_
      clear hm a; intro a hm
      refine h_take 6 [true, true, true, true, true, true, true, false, false, false, false].toArray rfl (by kernel_rfl) (by kernel_rfl) (by kernel_rfl) (fun _ _ _ _ h => h) rfl rfl rfl rfl hm (hS.sub (.cons (Mem.le.refl _) (Sub.nil _))) (v := .int .i64 x_8) (fun w hS => r_move hm rfl) ?_
      clear hm a; intro a hm
      obtain ⟨t_22, et_22, H⟩ := Option.bind_eq_some_iff.1 H
      refine h_takeE 7 [true, true, true, true, true, true, true, true, false, false, false].toArray rfl (by kernel_rfl) (by kernel_rfl) (by kernel_rfl) (fun _ _ _ _ h => h) rfl rfl rfl rfl hm (hS.sub (.cons (Mem.le.refl _) (Sub.nil _))) (f := fun ad => .pointer (some ad)) (r_index hm Try.underlying37 ti25 rfl rfl rfl hp1_1 et_22) ?_
      rintro ad_23 ⟨cs_24, hk_25, hc_26⟩
      obtain ⟨v_27, rfl, hr_28⟩ := hk_25
      clear hm a; intro a hm
      refine h_take 8 [true, true, true, true, true, true, true, true, true, false, false].toArray rfl (by kernel_rfl) (by kernel_rfl) (by kernel_rfl) (fun _ _ _ _ h => h) rfl rfl rfl rfl hm (hS.sub (.cons (Mem.le.refl _) (Sub.nil _))) (v := v_27) (fun w hS => r_load hm rfl (el_one (o := 0) (fun j c h => Mem.cell_le (hA.trans hS.old) (hc_26 j c h)) Try.underlying25 rfl rfl)) ?_
      clear hm a; intro a hm
      refine h_take 9 [true, true, true, true, true, true, true, true, true, true, false].toArray rfl (by kernel_rfl) (by kernel_rfl) (by kernel_rfl) (fun _ _ _ _ h => h) rfl rfl rfl rfl hm (hS.sub (.cons (Mem.le.refl _) (Sub.nil _))) (v := .string ⟨t_22.toArray⟩) (fun w hS => r_b2s hm Try.underlying25 Try.underlying5 Try.underlying9 rfl hr_28 (hA.trans hS.old)) ?_
      clear hm a; intro a hm
      refine h_take 10 [true, true, true, true, true, true, true, true, true, true, true].toArray rfl (by kernel_rfl) (by kernel_rfl) (by kernel_rfl) (fun _ _ _ _ h => h) rfl rfl rfl rfl hm (hS.sub (.cons (Mem.le.refl _) (Sub.nil _))) (v := .bool (!(t_15 == t_22))) (fun w hS => r_strEq (b := !(t_15 == t_22)) hm rfl rfl (.inr ⟨rfl, rfl⟩)) ?_
      clear hm a; intro a hm
      refine h_done (by kernel_rfl) ?_
      replace hm : Fr 28 a [(0, p0_0), (1, p1_1), (4, .bool false), (5, .int .i64 x_8), (27, .bool (!(t_15 == t_22)))] := hm.keep [0, 1, 4, 5, 27]
      refine x_then_n ?_
      by_cases hc_29 : t_15 = t_22
      · rw [if_pos hc_29] at H
        refine c_cond_f hm rfl (nf (beq_iff_eq.2 hc_29)) ?_
        refine wp_skip ?_
        refine x_block_n ?_
        refine x_then_n (hKJ_13 _ _ ?_)
        refine wp_region_lit ?_
        refine s_move hm rfl rfl ?_
        clear hm a; intro a hm
        refine s_arith (r := w64 (x_8 + 1)) hm rfl rfl rfl (.inl ⟨rfl, rfl⟩) ?_
        clear hm a; intro a hm
        refine s_assign hm rfl rfl ?_
        clear hm a; intro a hm
        refine wpList_nil ?_
        replace hm : Fr 28 a [(0, p0_0), (1, p1_1), (4, .bool false), (5, .int .i64 (w64 (x_8 + 1)))] := hm.keep [0, 1, 4, 5]
        refine x_then_n (hKL_9 _ _ ?_)
        replace hS : Sep w0 w_14 [N_7] Z := hS
        replace hm : Fr 28 a [(0, p0_0), (1, p1_1), (4, .bool false), (5, .int .i64 (w64 (x_8 + 1)))] := hm.keep [0, 1, 4, 5]
        exact ⟨w64 (x_8 + 1), N_7, H, hm, (Sep.sel hS [0] (by decide)), le_7⟩
      · rw [if_neg hc_29] at H
        refine c_cond_t hm rfl (nt (beq_eq_false_iff_ne.2 hc_29)) ?_
        refine wp_seq ?_
        refine wp_region_lit ?_
        refine s_assign hm rfl rfl ?_
        clear hm a; intro a hm
        refine wpList_nil ?_
        replace hm : Fr 28 a [(0, p0_0), (1, p1_1), (4, .bool false), (5, .int .i64 x_8)] := hm.keep [0, 1, 4, 5]
        refine x_then_n ?_
        refine wp_ret (x_block_r (x_then_r (x_then_r (x_block_r (x_then_r ?_)))))
        obtain rfl := Option.some.inj H
        exact f_ret hm (rs := [.tmp 4]) rfl (.tmp rfl .nil) ⟨_, rfl, N_7, rfl, (Sep.sel hS [0] (by decide))⟩
    · rw [if_neg hc_12] at H
      refine c_cond_f hm rfl (decide_eq_false hc_12) ?_
      refine wp_exit (x_then_x (x_then_x (x_block_t ?_)))
      replace hS : Sep w0 w_9 [N_7] Z := hS
      replace hm : Fr 28 a [(4, .bool false)] := hm.keep [4]
      exact x_then_n (hJ_j_6  H _ _ ⟨N_7, hm, (Sep.sel hS [0] (by decide)), le_7⟩)
  · rw [if_neg hc_2] at H
    refine c_cond_t hm rfl (bne_iff_ne.2 hc_2) ?_
    refine wp_seq ?_
    refine wp_region_lit ?_
    refine s_assign hm rfl rfl ?_
    clear hm a; intro a hm
    refine wpList_nil ?_
    replace hm : Fr 28 a [(0, p0_0), (1, p1_1), (4, .bool false)] := hm.keep [0, 1, 4]
    refine x_then_n ?_
    refine wp_ret (x_then_r ?_)
    obtain rfl := Option.some.inj H
    exact f_ret hm (rs := [.tmp 4]) rfl (.tmp rfl .nil) ⟨_, rfl, Mem.no, rfl, (Sep.sel hS [0] (by decide))⟩

set_option maxHeartbeats 4000000 in
set_option maxRecDepth 20000 in
theorem fifo_Pop.calls (K : Nat) (x0 : List (List UInt8)) (p0_0 : Value) (r : (List (List UInt8)) × api_Result) (w0 w : World) (Z A : Mem) (hA : A.le Z) (hS : Sep w0 w [] Z) (hp0_0 : Rd (Kd.slice Kd.u8) A p0_0 x0)
    (H : fifo_Pop.f K x0 = some r) :
    Calls Try.prog 24 [p0_0].toArray w (Ret fun v w' => ∃ (u0 : Value) (u1 : Value) (N : Mem), v = .tuple [u0, .agg [.int .i64 r.2.Err, u1, .int .i64 r.2.N].toArray].toArray ∧ Sep w0 w' [N] Z ∧ Rd (Kd.slice Kd.u8) N u0 r.1 ∧ Rd Kd.u8 N u1 r.2.Val) := by
  unfold fifo_Pop.f at H
  refine f_enter _ Try.func24 rfl Try.ntmps24 rfl fun a hm => ?_
  replace hm : Fr 17 a [(0, p0_0)] := hm
  replace hS := hS.start
  replace hS : Sep w0 w [Mem.no] Z := hS
  refine wp_seq ?_
  refine wp_region_lit ?_
  refine s_assign hm rfl rfl ?_
  clear hm a; intro a hm
  refine v_alloc hm rfl ti27 hS ?_
  intro w_1 g_2 hS'
  clear hm a; intro a hm
  replace hS : Sep w0 w_1 [Mem.no, Mem.one g_2 (.cells ([.int .i64 0, .slice none 0 0, .int .i64 0] : List Value).toArray 27 (0, 0))] Z := hS'
  clear hS'
  refine wpList_nil ?_
  replace hm : Fr 17 a [(0, p0_0), (2, .slice none 0 0), (3, .pointer (some ⟨g_2, 0, none⟩))] := hm.keep [0, 2, 3]
  refine x_then_n ?_
  refine wp_seq ?_
  refine wp_region_lit ?_
  refine s_move hm rfl rfl ?_
  clear hm a; intro a hm
  obtain ⟨t_3, et_3, H⟩ := Option.bind_eq_some_iff.1 H
  refine s_call hm rfl Try.call45 rfl (fifo_Still.calls K x0 _ t_3 w0 _ _ _ (Mem.le.refl _) (hS.enter [] (by decide)) (hp0_0.mono (hA.trans (hS.le_zed []))) et_3) ?_
  rintro v_7 w_4 ⟨_, N_5, M_9, rfl, hS', hr_8⟩
  clear hm a; intro a hm
  obtain ⟨N_6, hS'', le_6, ln_6⟩ := hS.call [] (by decide) rfl (l' := []) (ow := [M_9]) rfl hS'
  replace hS : Sep w0 w_4 [N_6, Mem.one g_2 (.cells ([.int .i64 0, .slice none 0 0, .int .i64 0] : List Value).toArray 27 (0, 0)), M_9] Z := hS''
  clear hS' hS''
  refine s_assign hm rfl rfl ?_
  clear hm a; intro a hm
  refine wpList_nil ?_
  replace hm : Fr 17 a [(0, v_7), (2, .slice none 0 0), (3, .pointer (some ⟨g_2, 0, none⟩))] := hm.keep [0, 2, 3]
  refine x_then_n ?_
  refine c_seq fun KJ_11 hKJ_11 => ?_
  refine wp_seq ?_
  refine wp_region_lit ?_
  refine s_move hm rfl rfl ?_
  clear hm a; intro a hm
  refine s_lenO hm rfl Try.underlying37 rfl (hr_8.mono ln_6) ?_
  clear hm a; intro a hm
  refine s_cmp (b := ((t_3.length : Int) == 0)) hm rfl rfl rfl (.inl ⟨rfl, rfl⟩) ?_
  clear hm a; intro a hm
  refine wpList_nil ?_
  replace hm : Fr 17 a [(0, v_7), (2, .slice none 0 0), (3, .pointer (some ⟨g_2, 0, none⟩)), (8, .bool ((t_3.length : Int) == 0))] := hm.keep [0, 2, 3, 8]
  refine x_then_n ?_
  by_cases hc_12 : (t_3.length : Int) = 0
  · rw [if_pos hc_12] at H
    refine c_cond_t hm rfl (beq_iff_eq.2 hc_12) ?_
    refine wp_seq ?_
    refine wp_region_lit ?_
    refine s_move hm rfl rfl ?_
    clear hm a; intro a hm
    refine s_build hm rfl ti27 pl27 rfl (.cons rfl .nil) (cs := [.int .i64 4, .slice none 0 0, .int .i64 0]) rfl ?_
    clear hm a; intro a hm
    refine s_assign hm rfl rfl ?_
    clear hm a; intro a hm
    obtain ⟨w_13, hs', hS'⟩ := hS.store (P := Try.prog) (p := 1) (o := 0) (t := 27) (v := .agg [.int .i64 4, .slice none 0 0, .int .i64 0].toArray) (vs := [.int .i64 4, .slice none 0 0, .int .i64 0]) rfl ti27 rfl rfl rfl (by intro u hu; simp only [List.mem_cons, List.not_mem_nil, or_false] at hu; rcases hu with rfl | rfl | rfl <;> rfl)
    refine s_store hm rfl rfl hs' ?_
    replace hS : Sep w0 w_13 [N_6, Mem.one g_2 (.cells ([.int .i64 4, .slice none 0 0, .int .i64 0] : List Value).toArray 27 (0, 0)), M_9] Z := hS'
    clear hs' hS'
    refine wpList_nil ?_
    replace hm : Fr 17 a [(0, v_7), (2, v_7), (3, .pointer (some ⟨g_2, 0, none⟩))] := hm.keep [0, 2, 3]
    refine x_then_n ?_
    refine wp_ret (x_then_r ?_)
    obtain ⟨N_14, hS', le_14, lo_14⟩ := hS.freeze 1 rfl
    replace hS : Sep w0 w_13 [N_14, Mem.one g_2 (.cells ([.int .i64 4, .slice none 0 0, .int .i64 0] : List Value).toArray 27 (0, 0)), Mem.no] Z := hS'
    clear hS'
    obtain rfl := Option.some.inj H
    exact f_ret hm (rs := [.tmp 2, .cell 3 27]) rfl (.tmp rfl (.cell rfl (hS.load_agg (p := 1) (us := [.int .i64 4, .slice none 0 0, .int .i64 0]) rfl Try.underlying27 rfl ti27 rfl rfl) .nil)) ⟨_, rfl, v_7, .slice none 0 0, N_14, rfl, (Sep.sel hS [0] (by decide)), ((hr_8.mono ln_6).rd lo_14 le_14), (Rd.nil _ _)⟩
  · rw [if_neg hc_12] at H
    refine c_cond_f hm rfl (beq_eq_false_iff_ne.2 hc_12) ?_
    refine wp_skip ?_
    refine x_then_n (hKJ_11 _ _ ?_)
    refine wp_seq ?_
    obtain ⟨N_15, hS', le_15, lo_15⟩ := hS.freeze 1 rfl
    replace hS : Sep w0 w_4 [N_15, Mem.one g_2 (.cells ([.int .i64 0, .slice none 0 0, .int .i64 0] : List Value).toArray 27 (0, 0)), Mem.no] Z := hS'
    clear hS'
    refine h_begin (S := fun w => Sep w0 w [N_15, Mem.no, Mem.no] Z) 8 (by kernel_rfl) rfl [false, false, false, false, false, false, false, false].toArray rfl hS fun w_16 hS => ?_
    replace hS : Sep w0 w_16 [N_15, Mem.one g_2 (.cells ([.int .i64 0, .slice none 0 0, .int .i64 0] : List Value).toArray 27 (0, 0)), Mem.no] Z := hS
    refine h_take 0 [true, false, false, false, false, false, false, false].toArray rfl (by kernel_rfl) (by kernel_rfl) (by kernel_rfl) (fun _ _ _ _ h => h) rfl rfl rfl rfl hm (hS.sub (.cons (Mem.le.refl _) (.cons (Mem.no_le _) (.cons (Mem.no_le _) (Sub.nil _))))) (v := v_7) (fun w hS => r_move hm rfl) ?_
    clear hm a; intro a hm
    obtain ⟨t_17, et_17, H⟩ := Option.bind_eq_some_iff.1 H
    refine h_takeE 1 [true, true, false, false, false, false, false, false].toArray rfl (by kernel_rfl) (by kernel_rfl) (by kernel_rfl) (fun _ _ _ _ h => h) rfl rfl rfl rfl hm (hS.sub (.cons (Mem.le.refl _) (.cons (Mem.no_le _) (.cons (Mem.no_le _) (Sub.nil _))))) (f := fun v => v) (r_slice hm Try.underlying37 ti25 rfl rfl ((hr_8.mono ln_6).rd lo_15 le_15) rfl rfl et_17) ?_
    intro v_18 hr_19
    clear hm a; intro a hm
    refine h_take 2 [true, true, true, false, false, false, false, false].toArray rfl (by kernel_rfl) (by kernel_rfl) (by kernel_rfl) (fun _ _ _ _ h => h) rfl rfl rfl rfl hm (hS.sub (.cons (Mem.le.refl _) (.cons (Mem.no_le _) (.cons (Mem.no_le _) (Sub.nil _))))) (v := v_7) (fun w hS => r_move hm rfl) ?_
    clear hm a; intro a hm
    obtain ⟨t_20, et_20, H⟩ := Option.bind_eq_some_iff.1 H
    refine h_takeE 3 [true, true, true, true, false, false, false, false].toArray rfl (by kernel_rfl) (by kernel_rfl) (by kernel_rfl) (fun _ _ _ _ h => h) rfl rfl rfl rfl hm (hS.sub (.cons (Mem.le.refl _) (.cons (Mem.no_le _) (.cons (Mem.no_le _) (Sub.nil _))))) (f := fun ad => .pointer (some ad)) (r_index hm Try.underlying37 ti25 rfl rfl rfl ((hr_8.mono ln_6).rd lo_15 le_15) et_20) ?_
    rintro ad_21 ⟨cs_22, hk_23, hc_24⟩
    obtain ⟨v_25, rfl, hr_26⟩ := hk_23
    clear hm a; intro a hm
    refine h_take 4 [true, true, true, true, true, false, false, false].toArray rfl (by kernel_rfl) (by kernel_rfl) (by kernel_rfl) (fun _ _ _ _ h => h) rfl rfl rfl rfl hm (hS.sub (.cons (Mem.le.refl _) (.cons (Mem.no_le _) (.cons (Mem.no_le _) (Sub.nil _))))) (v := v_25) (fun w hS => r_load hm rfl (el_one (o := 0) (fun j c h => Mem.cell_le ((Mem.le.refl _).trans (hS.own 0)) (hc_24 j c h)) Try.underlying25 rfl rfl)) ?_
    clear hm a; intro a hm
    refine h_take 5 [true, true, true, true, true, true, false, false].toArray rfl (by kernel_rfl) (by kernel_rfl) (by kernel_rfl) (fun _ _ _ _ h => h) rfl rfl rfl rfl hm (hS.sub (.cons (Mem.le.refl _) (.cons (Mem.no_le _) (.cons (Mem.no_le _) (Sub.nil _))))) (v := .agg [.int .i64 0, v_25, .int .i64 0].toArray) (fun w hS => r_build hm ti27 pl27 rfl (.cons hr_26.cells .nil) (cs := [.int .i64 0, v_25, .int .i64 0]) rfl) ?_
    clear hm a; intro a hm
    refine h_take 6 [true, true, true, true, true, true, true, false].toArray rfl (by kernel_rfl) (by kernel_rfl) (by kernel_rfl) (fun _ _ _ _ h => h) rfl rfl rfl rfl hm (hS.sub (.cons (Mem.le.refl _) (.cons (Mem.no_le _) (.cons (Mem.no_le _) (Sub.nil _))))) (v := v_18) (fun w hS => r_assign hm rfl) ?_
    clear hm a; intro a hm
    refine h_event 7 [true, true, true, true, true, true, true, true].toArray rfl (by kernel_rfl) rfl ?_
    obtain ⟨w_27, hs', hS'⟩ := hS.store (P := Try.prog) (p := 1) (o := 0) (t := 27) (v := .agg [.int .i64 0, v_25, .int .i64 0].toArray) (vs := [.int .i64 0, v_25, .int .i64 0]) rfl ti27 rfl rfl rfl (by intro u hu; simp only [List.mem_cons, List.not_mem_nil, or_false] at hu; rcases hu with rfl | rfl | rfl <;> first | rfl | exact hr_26.one)
    refine s_store hm rfl rfl hs' ?_
    replace hS : Sep w0 w_27 [N_15, Mem.one g_2 (.cells ([.int .i64 0, v_25, .int .i64 0] : List Value).toArray 27 (0, 0)), Mem.no] Z := hS'
    clear hs' hS'
    refine wpList_nil ?_
    refine x_then_n ⟨(hS.sub (.cons (Mem.le.refl _) (.cons (Mem.no_le _) (.cons (Mem.no_le _) (Sub.nil _))))), ?_⟩
    refine h_done (by kernel_rfl) ?_
    replace hm : Fr 17 a [(2, v_18), (3, .pointer (some ⟨g_2, 0, none⟩))] := hm.keep [2, 3]
    refine x_then_n ?_
    refine wp_ret ?_
    obtain rfl := Option.some.inj H
    exact f_ret hm (rs := [.tmp 2, .cell 3 27]) rfl (.tmp rfl (.cell rfl (hS.load_agg (p := 1) (us := [.int .i64 0, v_25, .int .i64 0]) rfl Try.underlying27 rfl ti27 rfl rfl) .nil)) ⟨_, rfl, v_18, v_25, N_15, rfl, (Sep.sel hS [0] (by decide)), hr_19, hr_26⟩

set_option maxHeartbeats 4000000 in
set_option maxRecDepth 20000 in
theorem hocketlaw5_awake.calls (K : Nat) (r : Unit) (w0 w : World) (Z A : Mem) (hA : A.le Z) (hS : Sep w0 w [] Z)
    (H : hocketlaw5_awake.f K = some r) :
    Calls Try.prog 25 [].toArray w (Ret fun v w' => ∃ (N : Mem), v = .bool true ∧ Sep w0 w' [N] Z) := by
  unfold hocketlaw5_awake.f at H
  refine f_enter _ Try.func25 rfl Try.ntmps25 rfl fun a hm => ?_
  replace hm : Fr 59 a [] := hm
  replace hS := hS.start
  replace hS : Sep w0 w [Mem.no] Z := hS
  refine wp_seq ?_
  refine wp_region_lit ?_
  refine s_assign hm rfl rfl ?_
  clear hm a; intro a hm
  refine wpList_nil ?_
  replace hm : Fr 59 a [(0, .bool false)] := hm.keep [0]
  refine x_then_n ?_
  refine wp_seq ?_
  refine wp_region_lit ?_
  have hq_5 : Reps Kd.u8 Mem.no ([(97 : UInt8)] : List UInt8) _ := ((Reps.one (d := Kd.u8) (x := (97 : UInt8)) (show Kd.u8.K _ _ [.int .u8 ((97 : UInt8).toNat : Int)] from rfl)).append (Reps.nil Kd.u8 _))
  refine s_buildSlice hm rfl Try.underlying25 ti5 rfl rfl rfl (.cons rfl .nil) rfl rfl rfl hS hq_5 rfl ?_
  intro w_1 v_2 M_3 hS' ho_4
  clear hm a; intro a hm
  replace hS : Sep w0 w_1 [Mem.no, M_3] Z := hS'
  clear hS' hq_5
  refine s_conv_sl (p := 1) hm rfl Try.underlying25 Try.underlying5 rfl ho_4 (by simp) hS rfl ?_
  intro w_7 M_8 hS' hr_9
  clear hm a; intro a hm
  obtain ⟨N_10, hS'', le_10, lo_10⟩ := Sep.freeze (N0 := Mem.no) (l := [M_8]) hS' 0 rfl
  replace hS : Sep w0 w_7 [N_10, Mem.no] Z := hS''
  clear hS' hS''
  obtain ⟨t_11, et_11, H⟩ := Option.bind_eq_some_iff.1 H
  refine s_call hm rfl Try.call22 rfl (fifo_Push.calls K ([] : List (List UInt8)) _ ([(97 : UInt8)] : List UInt8) _ t_11 w0 _ _ _ (Mem.le.refl _) (hS.enter [] (by decide)) (Rd.nil _ _) ((hr_9.mono lo_10).mono ((Mem.le.refl _).trans (hS.new_zed []))) et_11) ?_
  rintro _ w_12 ⟨v_15, v_19, N_13, M_17, M_21, rfl, hS', hr_16, hr_20⟩
  clear hm a; intro a hm
  obtain ⟨N_14, hS'', le_14, ln_14⟩ := hS.call [] (by decide) rfl (l' := []) (ow := [M_17, M_21]) rfl hS'
  replace hS : Sep w0 w_12 [N_14, Mem.no, M_17, M_21] Z := hS''
  clear hS' hS''
  refine s_move hm rfl rfl ?_
  clear hm a; intro a hm
  refine s_extract hm rfl rfl rfl ?_
  clear hm a; intro a hm
  refine s_extract hm rfl rfl rfl ?_
  clear hm a; intro a hm
  refine v_alloc hm rfl ti27 hS ?_
  intro w_23 g_24 hS'
  clear hm a; intro a hm
  replace hS : Sep w0 w_23 [N_14, Mem.no, M_17, M_21, Mem.one g_24 (.cells ([.int .i64 0, .slice none 0 0, .int .i64 0] : List Value).toArray 27 (0, 0))] Z := hS'
  clear hS'
  refine s_assign hm rfl rfl ?_
  clear hm a; intro a hm
  obtain ⟨w_25, hs', hS'⟩ := hS.store (P := Try.prog) (p := 4) (o := 0) (t := 27) (v := .agg [.int .i64 t_11.2.Err, v_19, .int .i64 t_11.2.N].toArray) (vs := [.int .i64 t_11.2.Err, v_19, .int .i64 t_11.2.N]) rfl ti27 rfl rfl rfl (by intro u hu; simp only [List.mem_cons, List.not_mem_nil, or_false] at hu; rcases hu with rfl | rfl | rfl <;> first | rfl | exact hr_20.one)
  refine s_store hm rfl rfl hs' ?_
  replace hS : Sep w0 w_25 [N_14, Mem.no, M_17, M_21, Mem.one g_24 (.cells ([.int .i64 t_11.2.Err, v_19, .int .i64 t_11.2.N] : List Value).toArray 27 (0, 0))] Z := hS'
  clear hs' hS'
  refine wpList_nil ?_
  replace hm : Fr 59 a [(0, .bool false), (1, v_15), (2, .pointer (some ⟨g_24, 0, none⟩))] := hm.keep [0, 1, 2]
  refine x_then_n ?_
  refine wp_seq ?_
  refine wp_region_lit ?_
  refine s_move hm rfl rfl ?_
  clear hm a; intro a hm
  have hq_30 : Reps Kd.u8 Mem.no ([(98 : UInt8)] : List UInt8) _ := ((Reps.one (d := Kd.u8) (x := (98 : UInt8)) (show Kd.u8.K _ _ [.int .u8 ((98 : UInt8).toNat : Int)] from rfl)).append (Reps.nil Kd.u8 _))
  refine s_buildSlice hm rfl Try.underlying25 ti5 rfl rfl rfl (.cons rfl .nil) rfl rfl rfl hS hq_30 rfl ?_
  intro w_26 v_27 M_28 hS' ho_29
  clear hm a; intro a hm
  replace hS : Sep w0 w_26 [N_14, Mem.no, M_17, M_21, Mem.one g_24 (.cells ([.int .i64 t_11.2.Err, v_19, .int .i64 t_11.2.N] : List Value).toArray 27 (0, 0)), M_28] Z := hS'
  clear hS' hq_30
  refine s_conv_sl (p := 5) hm rfl Try.underlying25 Try.underlying5 rfl ho_29 (by simp) hS rfl ?_
  intro w_32 M_33 hS' hr_34
  clear hm a; intro a hm
  obtain ⟨N_35, hS'', le_35, lo_35⟩ := Sep.freeze (N0 := N_14) (l := [Mem.no, M_17, M_21, Mem.one g_24 (.cells ([.int .i64 t_11.2.Err, v_19, .int .i64 t_11.2.N] : List Value).toArray 27 (0, 0)), M_33]) hS' 4 rfl
  replace hS : Sep w0 w_32 [N_35, Mem.no, M_17, M_21, Mem.one g_24 (.cells ([.int .i64 t_11.2.Err, v_19, .int .i64 t_11.2.N] : List Value).toArray 27 (0, 0)), Mem.no] Z := hS''
  clear hS' hS''
  obtain ⟨t_36, et_36, H⟩ := Option.bind_eq_some_iff.1 H
  refine s_call hm rfl Try.call22 rfl (fifo_Push.calls K t_11.1 _ ([(98 : UInt8)] : List UInt8) _ t_36 w0 _ _ _ (Mem.le.refl _) (hS.enter [] (by decide)) ((hr_16.mono ln_14).rd (hS.own_zed [] 1 (by decide)) (le_35.trans (hS.new_zed []))) ((hr_34.mono lo_35).mono ((Mem.le.refl _).trans (hS.new_zed []))) et_36) ?_
  rintro _ w_37 ⟨v_40, v_44, N_38, M_42, M_46, rfl, hS', hr_41, hr_45⟩
  clear hm a; intro a hm
  obtain ⟨N_39, hS'', le_39, ln_39⟩ := hS.call [] (by decide) rfl (l' := []) (ow := [M_42, M_46]) rfl hS'
  replace hS : Sep w0 w_37 [N_39, Mem.no, M_17, M_21, Mem.one g_24 (.cells ([.int .i64 t_11.2.Err, v_19, .int .i64 t_11.2.N] : List Value).toArray 27 (0, 0)), Mem.no, M_42, M_46] Z := hS''
  clear hS' hS''
  refine s_move hm rfl rfl ?_
  clear hm a; intro a hm
  refine s_extract hm rfl rfl rfl ?_
  clear hm a; intro a hm
  refine s_extract hm rfl rfl rfl ?_
  clear hm a; intro a hm
  refine v_alloc hm rfl ti27 hS ?_
  intro w_48 g_49 hS'
  clear hm a; intro a hm
  replace hS : Sep w0 w_48 [N_39, Mem.no, M_17, M_21, Mem.one g_24 (.cells ([.int .i64 t_11.2.Err, v_19, .int .i64 t_11.2.N] : List Value).toArray 27 (0, 0)), Mem.no, M_42, M_46, Mem.one g_49 (.cells ([.int .i64 0, .slice none 0 0, .int .i64 0] : List Value).toArray 27 (0, 0))] Z := hS'
  clear hS'
  refine s_assign hm rfl rfl ?_
  clear hm a; intro a hm
  obtain ⟨w_50, hs', hS'⟩ := hS.store (P := Try.prog) (p := 8) (o := 0) (t := 27) (v := .agg [.int .i64 t_36.2.Err, v_44, .int .i64 t_36.2.N].toArray) (vs := [.int .i64 t_36.2.Err, v_44, .int .i64 t_36.2.N]) rfl ti27 rfl rfl rfl (by intro u hu; simp only [List.mem_cons, List.not_mem_nil, or_false] at hu; rcases hu with rfl | rfl | rfl <;> first | rfl | exact hr_45.one)
  refine s_store hm rfl rfl hs' ?_
  replace hS : Sep w0 w_50 [N_39, Mem.no, M_17, M_21, Mem.one g_24 (.cells ([.int .i64 t_11.2.Err, v_19, .int .i64 t_11.2.N] : List Value).toArray 27 (0, 0)), Mem.no, M_42, M_46, Mem.one g_49 (.cells ([.int .i64 t_36.2.Err, v_44, .int .i64 t_36.2.N] : List Value).toArray 27 (0, 0))] Z := hS'
  clear hs' hS'
  refine wpList_nil ?_
  replace hm : Fr 59 a [(0, .bool false), (1, v_40), (2, .pointer (some ⟨g_24, 0, none⟩)), (3, .pointer (some ⟨g_49, 0, none⟩))] := hm.keep [0, 1, 2, 3]
  refine x_then_n ?_
  refine wp_seq ?_
  refine wp_region_lit ?_
  refine s_move hm rfl rfl ?_
  clear hm a; intro a hm
  obtain ⟨t_51, et_51, H⟩ := Option.bind_eq_some_iff.1 H
  refine s_call hm rfl Try.call24 rfl (fifo_Pop.calls K t_36.1 _ t_51 w0 _ _ _ (Mem.le.refl _) (hS.enter [] (by decide)) ((hr_41.mono ln_39).rd (hS.own_zed [] 5 (by decide)) ((Mem.le.refl _).trans (hS.new_zed []))) et_51) ?_
  rintro _ w_52 ⟨v_55, v_57, N_53, rfl, hS', hr_56, hr_58⟩
  clear hm a; intro a hm
  obtain ⟨N_54, hS'', le_54, ln_54⟩ := hS.call [] (by decide) rfl (l' := []) (ow := []) rfl hS'
  replace hS : Sep w0 w_52 [N_54, Mem.no, M_17, M_21, Mem.one g_24 (.cells ([.int .i64 t_11.2.Err, v_19, .int .i64 t_11.2.N] : List Value).toArray 27 (0, 0)), Mem.no, M_42, M_46, Mem.one g_49 (.cells ([.int .i64 t_36.2.Err, v_44, .int .i64 t_36.2.N] : List Value).toArray 27 (0, 0))] Z := hS''
  clear hS' hS''
  refine s_move hm rfl rfl ?_
  clear hm a; intro a hm
  refine s_extract hm rfl rfl rfl ?_
  clear hm a; intro a hm
  refine s_extract hm rfl rfl rfl ?_
  clear hm a; intro a hm
  refine v_alloc hm rfl ti27 hS ?_
  intro w_59 g_60 hS'
  clear hm a; intro a hm
  replace hS : Sep w0 w_59 [N_54, Mem.no, M_17, M_21, Mem.one g_24 (.cells ([.int .i64 t_11.2.Err, v_19, .int .i64 t_11.2.N] : List Value).toArray 27 (0, 0)), Mem.no, M_42, M_46, Mem.one g_49 (.cells ([.int .i64 t_36.2.Err, v_44, .int .i64 t_36.2.N] : List Value).toArray 27 (0, 0)), Mem.one g_60 (.cells ([.int .i64 0, .slice none 0 0, .int .i64 0] : List Value).toArray 27 (0, 0))] Z := hS'
  clear hS'
  refine s_assign hm rfl rfl ?_
  clear hm a; intro a hm
  obtain ⟨w_61, hs', hS'⟩ := hS.store (P := Try.prog) (p := 9) (o := 0) (t := 27) (v := .agg [.int .i64 t_51.2.Err, v_57, .int .i64 t_51.2.N].toArray) (vs := [.int .i64 t_51.2.Err, v_57, .int .i64 t_51.2.N]) rfl ti27 rfl rfl rfl (by intro u hu; simp only [List.mem_cons, List.not_mem_nil, or_false] at hu; rcases hu with rfl | rfl | rfl <;> first | rfl | exact (hr_58.mono ln_54).one)
  refine s_store hm rfl rfl hs' ?_
  replace hS : Sep w0 w_61 [N_54, Mem.no, M_17, M_21, Mem.one g_24 (.cells ([.int .i64 t_11.2.Err, v_19, .int .i64 t_11.2.N] : List Value).toArray 27 (0, 0)), Mem.no, M_42, M_46, Mem.one g_49 (.cells ([.int .i64 t_36.2.Err, v_44, .int .i64 t_36.2.N] : List Value).toArray 27 (0, 0)), Mem.one g_60 (.cells ([.int .i64 t_51.2.Err, v_57, .int .i64 t_51.2.N] : List Value).toArray 27 (0, 0))] Z := hS'
  clear hs' hS'
  refine wpList_nil ?_
  replace hm : Fr 59 a [(0, .bool false), (1, v_40), (2, .pointer (some ⟨g_24, 0, none⟩)), (3, .pointer (some ⟨g_49, 0, none⟩)), (4, v_55), (5, .pointer (some ⟨g_60, 0, none⟩))] := hm.keep [0, 1, 2, 3, 4, 5]
  refine x_then_n ?_
  refine wp_seq ?_
  refine wp_region_lit ?_
  obtain ⟨t_62, et_62, H⟩ := Option.bind_eq_some_iff.1 H
  refine s_call hm rfl Try.call24 rfl (fifo_Pop.calls K ([] : List (List UInt8)) _ t_62 w0 _ _ _ (Mem.le.refl _) (hS.enter [] (by decide)) (Rd.nil _ _) et_62) ?_
  rintro _ w_63 ⟨v_66, v_68, N_64, rfl, hS', hr_67, hr_69⟩
  clear hm a; intro a hm
  obtain ⟨N_65, hS'', le_65, ln_65⟩ := hS.call [] (by decide) rfl (l' := []) (ow := []) rfl hS'
  replace hS : Sep w0 w_63 [N_65, Mem.no, M_17, M_21, Mem.one g_24 (.cells ([.int .i64 t_11.2.Err, v_19, .int .i64 t_11.2.N] : List Value).toArray 27 (0, 0)), Mem.no, M_42, M_46, Mem.one g_49 (.cells ([.int .i64 t_36.2.Err, v_44, .int .i64 t_36.2.N] : List Value).toArray 27 (0, 0)), Mem.one g_60 (.cells ([.int .i64 t_51.2.Err, v_57, .int .i64 t_51.2.N] : List Value).toArray 27 (0, 0))] Z := hS''
  clear hS' hS''
  refine s_move hm rfl rfl ?_
  clear hm a; intro a hm
  refine s_extract hm rfl rfl rfl ?_
  clear hm a; intro a hm
  refine s_extract hm rfl rfl rfl ?_
  clear hm a; intro a hm
  refine v_alloc hm rfl ti27 hS ?_
  intro w_70 g_71 hS'
  clear hm a; intro a hm
  replace hS : Sep w0 w_70 [N_65, Mem.no, M_17, M_21, Mem.one g_24 (.cells ([.int .i64 t_11.2.Err, v_19, .int .i64 t_11.2.N] : List Value).toArray 27 (0, 0)), Mem.no, M_42, M_46, Mem.one g_49 (.cells ([.int .i64 t_36.2.Err, v_44, .int .i64 t_36.2.N] : List Value).toArray 27 (0, 0)), Mem.one g_60 (.cells ([.int .i64 t_51.2.Err, v_57, .int .i64 t_51.2.N] : List Value).toArray 27 (0, 0)), Mem.one g_71 (.cells ([.int .i64 0, .slice none 0 0, .int .i64 0] : List Value).toArray 27 (0, 0))] Z := hS'
  clear hS'
  refine s_assign hm rfl rfl ?_
  clear hm a; intro a hm
  obtain ⟨w_72, hs', hS'⟩ := hS.store (P := Try.prog) (p := 10) (o := 0) (t := 27) (v := .agg [.int .i64 t_62.2.Err, v_68, .int .i64 t_62.2.N].toArray) (vs := [.int .i64 t_62.2.Err, v_68, .int .i64 t_62.2.N]) rfl ti27 rfl rfl rfl (by intro u hu; simp only [List.mem_cons, List.not_mem_nil, or_false] at hu; rcases hu with rfl | rfl | rfl <;> first | rfl | exact (hr_69.mono ln_65).one)
  refine s_store hm rfl rfl hs' ?_
  replace hS : Sep w0 w_72 [N_65, Mem.no, M_17, M_21, Mem.one g_24 (.cells ([.int .i64 t_11.2.Err, v_19, .int .i64 t_11.2.N] : List Value).toArray 27 (0, 0)), Mem.no, M_42, M_46, Mem.one g_49 (.cells ([.int .i64 t_36.2.Err, v_44, .int .i64 t_36.2.N] : List Value).toArray 27 (0, 0)), Mem.one g_60 (.cells ([.int .i64 t_51.2.Err, v_57, .int .i64 t_51.2.N] : List Value).toArray 27 (0, 0)), Mem.one g_71 (.cells ([.int .i64 t_62.2.Err, v_68, .int .i64 t_62.2.N] : List Value).toArray 27 (0, 0))] Z := hS'
  clear hs' hS'
  refine wpList_nil ?_
  replace hm : Fr 59 a [(0, .bool false), (1, v_40), (2, .pointer (some ⟨g_24, 0, none⟩)), (3, .pointer (some ⟨g_49, 0, none⟩)), (4, v_55), (5, .pointer (some ⟨g_60, 0, none⟩)), (7, .pointer (some ⟨g_71, 0, none⟩))] := hm.keep [0, 1, 2, 3, 4, 5, 7]
  refine x_then_n ?_
  refine c_seq fun KJ_73 hKJ_73 => ?_
  refine wp_region_lit ?_
  refine s_fieldAddr hm rfl Try.underlying27 rfl ti3 rfl rfl ?_
  clear hm a; intro a hm
  refine s_load hm rfl rfl (hS.load_one (p := 4) rfl Try.underlying3 rfl rfl) ?_
  clear hm a; intro a hm
  refine s_cmp (b := (t_11.2.N == 1)) hm rfl rfl rfl (.inl ⟨rfl, rfl⟩) ?_
  clear hm a; intro a hm
  refine s_move hm rfl rfl ?_
  clear hm a; intro a hm
  by_cases hc_74 : t_11.2.N = 1
  · rw [if_pos hc_74] at H
    refine s_on hm rfl rfl (beq_iff_eq.2 hc_74) ?_
    refine s_fieldAddr hm rfl Try.underlying27 rfl ti3 rfl rfl ?_
    clear hm a; intro a hm
    refine s_on hm rfl rfl (beq_iff_eq.2 hc_74) ?_
    refine s_load hm rfl rfl (hS.load_one (p := 8) rfl Try.underlying3 rfl rfl) ?_
    clear hm a; intro a hm
    refine s_on hm rfl rfl (beq_iff_eq.2 hc_74) ?_
    refine s_cmp (b := (t_36.2.N == 2)) hm rfl rfl rfl (.inl ⟨rfl, rfl⟩) ?_
    clear hm a; intro a hm
    refine s_pick_t hm rfl rfl (beq_iff_eq.2 hc_74) rfl ?_
    clear hm a; intro a hm
    refine s_move hm rfl rfl ?_
    clear hm a; intro a hm
    by_cases hc_75 : t_36.2.N = 2
    · rw [if_pos hc_75] at H
      refine s_on hm rfl rfl (beq_iff_eq.2 hc_75) ?_
      refine s_move hm rfl rfl ?_
      clear hm a; intro a hm
      refine s_on hm rfl rfl (beq_iff_eq.2 hc_75) ?_
      refine s_lenO hm rfl Try.underlying37 rfl (hr_41.mono ln_39) ?_
      clear hm a; intro a hm
      refine s_on hm rfl rfl (beq_iff_eq.2 hc_75) ?_
      refine s_cmp (b := ((t_36.1.length : Int) == 2)) hm rfl rfl rfl (.inl ⟨rfl, rfl⟩) ?_
      clear hm a; intro a hm
      refine s_pick_t hm rfl rfl (beq_iff_eq.2 hc_75) rfl ?_
      clear hm a; intro a hm
      refine s_move hm rfl rfl ?_
      clear hm a; intro a hm
      by_cases hc_76 : (t_36.1.length : Int) = 2
      · rw [if_pos hc_76] at H
        refine s_on hm rfl rfl (beq_iff_eq.2 hc_76) ?_
        refine s_move hm rfl rfl ?_
        clear hm a; intro a hm
        refine s_on hm rfl rfl (beq_iff_eq.2 hc_76) ?_
        refine s_len hm rfl Try.underlying37 rfl (hr_56.mono ln_54) ?_
        clear hm a; intro a hm
        refine s_on hm rfl rfl (beq_iff_eq.2 hc_76) ?_
        refine s_cmp (b := ((t_51.1.length : Int) == 1)) hm rfl rfl rfl (.inl ⟨rfl, rfl⟩) ?_
        clear hm a; intro a hm
        refine s_pick_t hm rfl rfl (beq_iff_eq.2 hc_76) rfl ?_
        clear hm a; intro a hm
        refine s_move hm rfl rfl ?_
        clear hm a; intro a hm
        by_cases hc_77 : (t_51.1.length : Int) = 1
        · rw [if_pos hc_77] at H
          refine s_on hm rfl rfl (beq_iff_eq.2 hc_77) ?_
          refine s_fieldAddr hm rfl Try.underlying27 rfl ti25 rfl rfl ?_
          clear hm a; intro a hm
          refine s_on hm rfl rfl (beq_iff_eq.2 hc_77) ?_
          refine s_load hm rfl rfl (hS.load_one (p := 9) rfl Try.underlying25 rfl rfl) ?_
          clear hm a; intro a hm
          refine s_on hm rfl rfl (beq_iff_eq.2 hc_77) ?_
          refine s_b2s hm rfl Try.underlying25 Try.underlying5 Try.underlying9 rfl (hr_58.mono ln_54) (le_65.trans (hS.own 0)) ?_
          clear hm a; intro a hm
          refine s_on hm rfl rfl (beq_iff_eq.2 hc_77) ?_
          refine s_strEq (b := (t_51.2.Val == ([97] : List UInt8))) hm rfl rfl rfl (.inl ⟨rfl, rfl⟩) ?_
          clear hm a; intro a hm
          refine s_pick_t hm rfl rfl (beq_iff_eq.2 hc_77) rfl ?_
          clear hm a; intro a hm
          refine s_move hm rfl rfl ?_
          clear hm a; intro a hm
          by_cases hc_78 : t_51.2.Val = ([97] : List UInt8)
          · rw [if_pos hc_78] at H
            refine s_on hm rfl rfl (beq_iff_eq.2 hc_78) ?_
            refine s_fieldAddr hm rfl Try.underlying27 rfl ti22 rfl rfl ?_
            clear hm a; intro a hm
            refine s_on hm rfl rfl (beq_iff_eq.2 hc_78) ?_
            refine s_load hm rfl rfl (hS.load_one (p := 10) rfl Try.underlying22 rfl rfl) ?_
            clear hm a; intro a hm
            refine s_on hm rfl rfl (beq_iff_eq.2 hc_78) ?_
            refine s_cmp (b := (t_62.2.Err == 4)) hm rfl rfl rfl (.inl ⟨rfl, rfl⟩) ?_
            clear hm a; intro a hm
            refine s_pick_t hm rfl rfl (beq_iff_eq.2 hc_78) rfl ?_
            clear hm a; intro a hm
            refine s_assign hm rfl rfl ?_
            clear hm a; intro a hm
            refine wpList_nil ?_
            replace hm : Fr 59 a [(0, .bool (t_62.2.Err == 4))] := hm.keep [0]
            refine x_then_n (hKJ_73 _ _ ?_)
            refine wp_ret ?_
            by_cases hc_79 : t_62.2.Err = 4
            · rw [if_pos hc_79] at H
              exact f_ret hm (rs := [.tmp 0]) rfl (.tmp rfl .nil) ⟨_, rfl, N_65, (by rw [(beq_iff_eq.2 hc_79)]; rfl), (Sep.sel hS [0] (by decide))⟩
            · rw [if_neg hc_79] at H
              cases H
          · rw [if_neg hc_78] at H
            cases H
        · rw [if_neg hc_77] at H
          cases H
      · rw [if_neg hc_76] at H
        cases H
    · rw [if_neg hc_75] at H
      cases H
  · rw [if_neg hc_74] at H
    cases H

set_option maxHeartbeats 4000000 in
set_option maxRecDepth 20000 in
theorem hocketref4_rows.calls (K : Nat) (x0 : List (List UInt8)) (p0_0 : Value) (r : (List (List UInt8))) (w0 w : World) (Z A : Mem) (hA : A.le Z) (hS : Sep w0 w [] Z) (hp0_0 : Rd (Kd.slice Kd.u8) A p0_0 x0)
    (H : hocketref4_rows.f K x0 = some r) :
    Calls Try.prog 46 [p0_0].toArray w (Ret fun v w' => ∃ (u0 : Value) (N : Mem) (M0 : Mem), v = u0 ∧ Sep w0 w' [N, M0] Z ∧ Own (Kd.slice Kd.u8) 25 M0 N u0 r) := by
  unfold hocketref4_rows.f at H
  refine f_enter _ Try.func46 rfl Try.ntmps46 rfl fun a hm => ?_
  replace hm : Fr 20 a [(0, p0_0)] := hm
  replace hS := hS.start
  replace hS : Sep w0 w [Mem.no] Z := hS
  refine wp_seq ?_
  refine wp_region_lit ?_
  refine s_assign hm rfl rfl ?_
  clear hm a; intro a hm
  refine wpList_nil ?_
  replace hm : Fr 20 a [(0, p0_0), (2, .slice none 0 0)] := hm.keep [0, 2]
  refine x_then_n ?_
  refine wp_seq ?_
  refine wp_region_lit ?_
  refine s_assign hm rfl rfl ?_
  clear hm a; intro a hm
  refine wpList_nil ?_
  replace hm : Fr 20 a [(0, p0_0), (2, .slice none 0 0), (3, .slice none 0 0)] := hm.keep [0, 2, 3]
  refine x_then_n ?_
  refine c_seq fun KJ_1 hKJ_1 => ?_
  refine wp_seq ?_
  refine wp_region_lit ?_
  refine s_assign hm rfl rfl ?_
  clear hm a; intro a hm
  refine wpList_nil ?_
  replace hm : Fr 20 a [(0, p0_0), (2, .slice none 0 0), (3, .slice none 0 0), (4, .int .i64 0)] := hm.keep [0, 2, 3, 4]
  refine x_then_n ?_
  have hJ_j_9 : ∀ (x_3 : List (List UInt8)), hocketref4_rows.j_9 K x_3 = some r → ∀ (a : Act) (w_8 : World), (∃ (v_6 : Value) (N_2 : Mem) (M_4 : Mem), Fr 20 a [(2, .slice none 0 0), (3, v_6)] ∧ Sep w0 w_8 [N_2, M_4] Z ∧ Mem.no.le N_2 ∧ Own (Kd.slice Kd.u8) 25 M_4 N_2 v_6 x_3) → KJ_1 a w_8 := by
    clear H hm hS a
    rintro x_3 H a w_8 ⟨v_6, N_2, M_4, hm, hS, le_2, ho_7⟩
    unfold hocketref4_rows.j_9 at H
    refine hKJ_1 _ _ ?_
    refine wp_seq ?_
    refine wp_region_lit ?_
    refine s_move hm rfl rfl ?_
    clear hm a; intro a hm
    refine s_assign hm rfl rfl ?_
    clear hm a; intro a hm
    refine wpList_nil ?_
    replace hm : Fr 20 a [(2, v_6)] := hm.keep [2]
    refine x_then_n ?_
    refine wp_ret ?_
    obtain rfl := Option.some.inj H
    exact f_ret hm (rs := [.tmp 2]) rfl (.tmp rfl .nil) ⟨_, rfl, v_6, N_2, M_4, rfl, (Sep.sel hS [0, 1] (by decide)), (ho_7.mono (Mem.le.refl _))⟩
  clear hKJ_1
  have hS' := hS.room
  replace hS : Sep w0 w [Mem.no, Mem.no] Z := hS'
  clear hS'
  replace hS : Sep w0 w [Mem.no, Mem.no] Z := hS
  replace hm : Fr 20 a [(0, p0_0), (2, .slice none 0 0), (3, .slice none 0 0), (4, .int .i64 0)] := hm.keep [0, 2, 3, 4]
  refine c_block ?_
  refine c_loop (fun k_17 a w_17 => ∃ (x_11 : List (List UInt8)) (x_16 : Int) (v_14 : Value) (N_10 : Mem) (M_12 : Mem), hocketref4_rows.l_17 K x0 (fun v => hocketref4_rows.j_9 K v) k_17 (x_11, x_16) = some r ∧ Fr 20 a [(0, p0_0), (2, .slice none 0 0), (3, v_14), (4, .int .i64 x_16)] ∧ Sep w0 w_17 [N_10, M_12] Z ∧ Mem.no.le N_10 ∧ Own (Kd.slice Kd.u8) 25 M_12 N_10 v_14 x_11) K ⟨([] : List (List UInt8)), 0, .slice none 0 0, Mem.no, Mem.no, H, hm, (Sep.sel hS [0, 1] (by decide)), (Mem.le.refl _), ((Own.nil (Kd.slice Kd.u8) 25 Mem.no).mono (Mem.le.refl _))⟩ (fun a w h => by obtain ⟨_, _, _, _, _, H, _⟩ := h; cases (show (none : Option ((List (List UInt8)))) = some r from H)) ?_
  clear hm hS a H
  rintro k_17 a w_17 KL_17 hKL_17 ⟨x_11, x_16, v_14, N_10, M_12, H, hm, hS, le_10, ho_15⟩
  replace H : hocketref4_rows.b_17 K x0 (fun v => hocketref4_rows.j_9 K v) (hocketref4_rows.l_17 K x0 (fun v => hocketref4_rows.j_9 K v) k_17) x_11 x_16 = some r := H
  unfold hocketref4_rows.b_17 at H
  refine c_seq fun KJ_20 hKJ_20 => ?_
  refine wp_seq ?_
  refine wp_region_lit ?_
  refine s_move hm rfl rfl ?_
  clear hm a; intro a hm
  refine s_move hm rfl rfl ?_
  clear hm a; intro a hm
  refine s_len hm rfl Try.underlying37 rfl hp0_0 ?_
  clear hm a; intro a hm
  refine s_cmp (b := decide (x_16 < (x0.length : Int))) hm rfl rfl rfl (.inr (.inr (.inl ⟨rfl, rfl⟩))) ?_
  clear hm a; intro a hm
  refine wpList_nil ?_
  replace hm : Fr 20 a [(0, p0_0), (2, .slice none 0 0), (3, v_14), (4, .int .i64 x_16), (8, .bool (decide (x_16 < (x0.length : Int))))] := hm.keep [0, 2, 3, 4, 8]
  refine x_then_n ?_
  by_cases hc_21 : x_16 < (x0.length : Int)
  · rw [if_pos hc_21] at H
    refine c_cond_t hm rfl (decide_eq_true hc_21) ?_
    refine wp_skip ?_
    refine x_then_n (hKJ_20 _ _ ?_)
    refine wp_seq ?_
    refine c_block ?_
    refine wp_region_lit ?_
    refine s_move hm rfl rfl ?_
    clear hm a; intro a hm
    refine s_move hm rfl rfl ?_
    clear hm a; intro a hm
    refine s_move hm rfl rfl ?_
    clear hm a; intro a hm
    obtain ⟨t_22, et_22, H⟩ := Option.bind_eq_some_iff.1 H
    refine v_index hm rfl Try.underlying37 ti25 rfl rfl rfl hp0_0 (hA.trans hS.old) et_22 ?_
    intro ad_23 cs_24 hk_25 hc_26
    obtain ⟨v_27, rfl, hr_28⟩ := hk_25
    clear hm a; intro a hm
    refine s_load hm rfl rfl (el_one (o := 0) hc_26 Try.underlying25 rfl rfl) ?_
    clear hm a; intro a hm
    obtain ⟨t_29, et_29, H⟩ := Option.bind_eq_some_iff.1 H
    refine s_call hm rfl Try.call43 rfl (hocketref4_own.calls t_22 _ t_29 w0 _ _ _ (Mem.le.refl _) (hS.enter [] (by decide)) (hr_28.mono (hA.trans (hS.le_zed []))) et_29) ?_
    rintro v_33 w_30 ⟨_, N_31, M_35, rfl, hS', hr_34⟩
    clear hm a; intro a hm
    obtain ⟨N_32, hS'', le_32, ln_32⟩ := hS.call [] (by decide) rfl (l' := []) (ow := [M_35]) rfl hS'
    replace hS : Sep w0 w_30 [N_32, M_12, M_35] Z := hS''
    clear hS' hS''
    obtain ⟨N_37, hS', le_37, lo_37⟩ := hS.freeze 1 rfl
    replace hS : Sep w0 w_30 [N_37, M_12, Mem.no] Z := hS'
    clear hS'
    have hq_42 : Reps (Kd.slice Kd.u8) N_37 ([t_29] : List (List UInt8)) _ := ((Reps.one (d := (Kd.slice Kd.u8)) (x := t_29) ⟨_, rfl, (hr_34.rd lo_37 (Mem.no_le _))⟩).append (Reps.nil (Kd.slice Kd.u8) _))
    refine s_buildSlice hm rfl Try.underlying37 ti25 rfl rfl rfl (.cons (hr_34.rd lo_37 (Mem.no_le _)).cells .nil) rfl rfl rfl hS hq_42 rfl ?_
    intro w_38 v_39 M_40 hS' ho_41
    clear hm a; intro a hm
    replace hS : Sep w0 w_38 [N_37, M_12, Mem.no, M_40] Z := hS'
    clear hS' hq_42
    obtain ⟨t_44, et_44, H⟩ := Option.bind_eq_some_iff.1 H
    refine s_append (J := N_37) (I' := N_37) (p := 1) 5864062014805 hm rfl rfl rfl Try.underlying37 ti25 rfl rfl rfl rfl hS rfl ho_15 (ho_41.src (hS.own 3)) (le_32.trans le_37) (Mem.le.refl _) et_44 ?_
    intro w_45 v_46 M_47 hS' ho_48
    clear hm a; intro a hm
    replace hS : Sep w0 w_45 [N_37, M_47, Mem.no, M_40] Z := hS'
    clear hS'
    refine s_assign hm rfl rfl ?_
    clear hm a; intro a hm
    refine wpList_nil ?_
    replace hm : Fr 20 a [(0, p0_0), (2, .slice none 0 0), (3, v_46), (4, .int .i64 x_16)] := hm.keep [0, 2, 3, 4]
    refine x_block_n ?_
    refine x_then_n ?_
    refine wp_region_lit ?_
    refine s_move hm rfl rfl ?_
    clear hm a; intro a hm
    refine s_arith (r := w64 (x_16 + 1)) hm rfl rfl rfl (.inl ⟨rfl, rfl⟩) ?_
    clear hm a; intro a hm
    refine s_assign hm rfl rfl ?_
    clear hm a; intro a hm
    refine wpList_nil ?_
    replace hm : Fr 20 a [(0, p0_0), (2, .slice none 0 0), (3, v_46), (4, .int .i64 (w64 (x_16 + 1)))] := hm.keep [0, 2, 3, 4]
    refine x_then_n (hKL_17 _ _ ?_)
    replace hS : Sep w0 w_45 [N_37, M_47, Mem.no, M_40] Z := hS
    replace hm : Fr 20 a [(0, p0_0), (2, .slice none 0 0), (3, v_46), (4, .int .i64 (w64 (x_16 + 1)))] := hm.keep [0, 2, 3, 4]
    exact ⟨t_44, w64 (x_16 + 1), v_46, N_37, M_47, H, hm, (Sep.sel hS [0, 1] (by decide)), (le_10.trans (le_32.trans le_37)), (ho_48.mono (Mem.le.refl _))⟩
  · rw [if_neg hc_21] at H
    refine c_cond_f hm rfl (decide_eq_false hc_21) ?_
    refine wp_exit (x_then_x (x_then_x (x_block_t ?_)))
    replace hS : Sep w0 w_17 [N_10, M_12] Z := hS
    replace hm : Fr 20 a [(2, .slice none 0 0), (3, v_14)] := hm.keep [2, 3]
    exact x_then_n (hJ_j_9 x_11 H _ _ ⟨v_14, N_10, M_12, hm, (Sep.sel hS [0, 1] (by decide)), le_10, (ho_15.mono (Mem.le.refl _))⟩)

set_option maxHeartbeats 4000000 in
set_option maxRecDepth 20000 in
theorem hocketref4_Push.calls (K : Nat) (x0 : List (List UInt8)) (p0_0 : Value) (x1 : List UInt8) (p1_1 : Value) (r : (List (List UInt8)) × api_Result) (w0 w : World) (Z A : Mem) (hA : A.le Z) (hS : Sep w0 w [] Z) (hp0_0 : Rd (Kd.slice Kd.u8) A p0_0 x0) (hp1_1 : Rd Kd.u8 A p1_1 x1)
    (H : hocketref4_Push.f K x0 x1 = some r) :
    Calls Try.prog 26 [p0_0, p1_1].toArray w (Ret fun v w' => ∃ (u0 : Value) (u1 : Value) (N : Mem) (M0 : Mem) (M1 : Mem), v = .tuple [u0, .agg [.int .i64 r.2.Err, u1, .int .i64 r.2.N].toArray].toArray ∧ Sep w0 w' [N, M0, M1] Z ∧ Own (Kd.slice Kd.u8) 25 M0 N u0 r.1 ∧ Own Kd.u8 5 M1 Mem.no u1 r.2.Val) := by
  unfold hocketref4_Push.f at H
  refine f_enter _ Try.func26 rfl Try.ntmps26 rfl fun a hm => ?_
  replace hm : Fr 28 a [(0, p0_0), (1, p1_1)] := hm
  replace hS := hS.start
  replace hS : Sep w0 w [Mem.no] Z := hS
  refine wp_seq ?_
  refine wp_region_lit ?_
  refine s_assign hm rfl rfl ?_
  clear hm a; intro a hm
  refine v_alloc hm rfl ti27 hS ?_
  intro w_1 g_2 hS'
  clear hm a; intro a hm
  replace hS : Sep w0 w_1 [Mem.no, Mem.one g_2 (.cells ([.int .i64 0, .slice none 0 0, .int .i64 0] : List Value).toArray 27 (0, 0))] Z := hS'
  clear hS'
  refine wpList_nil ?_
  replace hm : Fr 28 a [(0, p0_0), (1, p1_1), (4, .slice none 0 0), (5, .pointer (some ⟨g_2, 0, none⟩))] := hm.keep [0, 1, 4, 5]
  refine x_then_n ?_
  refine c_seq fun KJ_3 hKJ_3 => ?_
  refine wp_seq ?_
  refine wp_region_lit ?_
  refine s_move hm rfl rfl ?_
  clear hm a; intro a hm
  refine s_len hm rfl Try.underlying25 rfl hp1_1 ?_
  clear hm a; intro a hm
  refine s_cmp (b := decide ((x1.length : Int) > 16)) hm rfl rfl rfl (.inr (.inr (.inr (.inr (.inl ⟨rfl, rfl⟩))))) ?_
  clear hm a; intro a hm
  refine wpList_nil ?_
  replace hm : Fr 28 a [(0, p0_0), (1, p1_1), (4, .slice none 0 0), (5, .pointer (some ⟨g_2, 0, none⟩)), (8, .bool (decide ((x1.length : Int) > 16)))] := hm.keep [0, 1, 4, 5, 8]
  refine x_then_n ?_
  by_cases hc_4 : (x1.length : Int) > 16
  · rw [if_pos hc_4] at H
    refine c_cond_t hm rfl (decide_eq_true hc_4) ?_
    refine wp_seq ?_
    refine wp_region_lit ?_
    refine s_move hm rfl rfl ?_
    clear hm a; intro a hm
    obtain ⟨t_5, et_5, H⟩ := Option.bind_eq_some_iff.1 H
    refine s_call hm rfl Try.call46 rfl (hocketref4_rows.calls K x0 _ t_5 w0 _ _ _ (Mem.le.refl _) (hS.enter [] (by decide)) (hp0_0.mono (hA.trans (hS.le_zed []))) et_5) ?_
    rintro v_9 w_6 ⟨_, N_7, M_11, rfl, hS', hr_10⟩
    clear hm a; intro a hm
    obtain ⟨N_8, hS'', le_8, ln_8⟩ := hS.call [] (by decide) rfl (l' := []) (ow := [M_11]) rfl hS'
    replace hS : Sep w0 w_6 [N_8, Mem.one g_2 (.cells ([.int .i64 0, .slice none 0 0, .int .i64 0] : List Value).toArray 27 (0, 0)), M_11] Z := hS''
    clear hS' hS''
    obtain ⟨t_13, et_13, H⟩ := Option.bind_eq_some_iff.1 H
    refine s_call hm rfl Try.call44 rfl (hocketref4_bad.calls 1 t_13 w0 _ _ _ (Mem.le.refl _) (hS.enter [] (by decide))  et_13) ?_
    rintro _ w_14 ⟨v_17, N_15, M_19, rfl, hS', hr_18⟩
    clear hm a; intro a hm
    obtain ⟨N_16, hS'', le_16, ln_16⟩ := hS.call [] (by decide) rfl (l' := []) (ow := [M_19]) rfl hS'
    replace hS : Sep w0 w_14 [N_16, Mem.one g_2 (.cells ([.int .i64 0, .slice none 0 0, .int .i64 0] : List Value).toArray 27 (0, 0)), M_11, M_19] Z := hS''
    clear hS' hS''
    refine s_assign hm rfl rfl ?_
    clear hm a; intro a hm
    obtain ⟨w_21, hs', hS'⟩ := hS.store (P := Try.prog) (p := 1) (o := 0) (t := 27) (v := .agg [.int .i64 t_13.Err, v_17, .int .i64 t_13.N].toArray) (vs := [.int .i64 t_13.Err, v_17, .int .i64 t_13.N]) rfl ti27 rfl rfl rfl (by intro u hu; simp only [List.mem_cons, List.not_mem_nil, or_false] at hu; rcases hu with rfl | rfl | rfl <;> first | rfl | exact hr_18.one)
    refine s_store hm rfl rfl hs' ?_
    replace hS : Sep w0 w_21 [N_16, Mem.one g_2 (.cells ([.int .i64 t_13.Err, v_17, .int .i64 t_13.N] : List Value).toArray 27 (0, 0)), M_11, M_19] Z := hS'
    clear hs' hS'
    refine wpList_nil ?_
    replace hm : Fr 28 a [(0, p0_0), (1, p1_1), (4, v_9), (5, .pointer (some ⟨g_2, 0, none⟩))] := hm.keep [0, 1, 4, 5]
    refine x_then_n ?_
    refine wp_ret (x_then_r ?_)
    obtain rfl := Option.some.inj H
    exact f_ret hm (rs := [.tmp 4, .cell 5 27]) rfl (.tmp rfl (.cell rfl (hS.load_agg (p := 1) (us := [.int .i64 t_13.Err, v_17, .int .i64 t_13.N]) rfl Try.underlying27 rfl ti27 rfl rfl) .nil)) ⟨_, rfl, v_9, v_17, N_16, M_11, M_19, rfl, (Sep.sel hS [0, 2, 3] (by decide)), ((hr_10.mono ln_8).mono le_16), hr_18⟩
  · rw [if_neg hc_4] at H
    refine c_cond_f hm rfl (decide_eq_false hc_4) ?_
    refine wp_skip ?_
    refine x_then_n (hKJ_3 _ _ ?_)
    refine c_seq fun KJ_22 hKJ_22 => ?_
    refine wp_seq ?_
    refine wp_region_lit ?_
    refine s_move hm rfl rfl ?_
    clear hm a; intro a hm
    refine s_len hm rfl Try.underlying37 rfl hp0_0 ?_
    clear hm a; intro a hm
    refine s_cmp (b := decide ((x0.length : Int) ≥ 8)) hm rfl rfl rfl (.inr (.inr (.inr (.inr (.inr ⟨rfl, rfl⟩))))) ?_
    clear hm a; intro a hm
    refine wpList_nil ?_
    replace hm : Fr 28 a [(0, p0_0), (1, p1_1), (4, .slice none 0 0), (5, .pointer (some ⟨g_2, 0, none⟩)), (14, .bool (decide ((x0.length : Int) ≥ 8)))] := hm.keep [0, 1, 4, 5, 14]
    refine x_then_n ?_
    by_cases hc_23 : (x0.length : Int) ≥ 8
    · rw [if_pos hc_23] at H
      refine c_cond_t hm rfl (decide_eq_true hc_23) ?_
      refine wp_seq ?_
      refine wp_region_lit ?_
      refine s_move hm rfl rfl ?_
      clear hm a; intro a hm
      obtain ⟨t_24, et_24, H⟩ := Option.bind_eq_some_iff.1 H
      refine s_call hm rfl Try.call46 rfl (hocketref4_rows.calls K x0 _ t_24 w0 _ _ _ (Mem.le.refl _) (hS.enter [] (by decide)) (hp0_0.mono (hA.trans (hS.le_zed []))) et_24) ?_
      rintro v_28 w_25 ⟨_, N_26, M_30, rfl, hS', hr_29⟩
      clear hm a; intro a hm
      obtain ⟨N_27, hS'', le_27, ln_27⟩ := hS.call [] (by decide) rfl (l' := []) (ow := [M_30]) rfl hS'
      replace hS : Sep w0 w_25 [N_27, Mem.one g_2 (.cells ([.int .i64 0, .slice none 0 0, .int .i64 0] : List Value).toArray 27 (0, 0)), M_30] Z := hS''
      clear hS' hS''
      obtain ⟨t_32, et_32, H⟩ := Option.bind_eq_some_iff.1 H
      refine s_call hm rfl Try.call44 rfl (hocketref4_bad.calls 3 t_32 w0 _ _ _ (Mem.le.refl _) (hS.enter [] (by decide))  et_32) ?_
      rintro _ w_33 ⟨v_36, N_34, M_38, rfl, hS', hr_37⟩
      clear hm a; intro a hm
      obtain ⟨N_35, hS'', le_35, ln_35⟩ := hS.call [] (by decide) rfl (l' := []) (ow := [M_38]) rfl hS'
      replace hS : Sep w0 w_33 [N_35, Mem.one g_2 (.cells ([.int .i64 0, .slice none 0 0, .int .i64 0] : List Value).toArray 27 (0, 0)), M_30, M_38] Z := hS''
      clear hS' hS''
      refine s_assign hm rfl rfl ?_
      clear hm a; intro a hm
      obtain ⟨w_40, hs', hS'⟩ := hS.store (P := Try.prog) (p := 1) (o := 0) (t := 27) (v := .agg [.int .i64 t_32.Err, v_36, .int .i64 t_32.N].toArray) (vs := [.int .i64 t_32.Err, v_36, .int .i64 t_32.N]) rfl ti27 rfl rfl rfl (by intro u hu; simp only [List.mem_cons, List.not_mem_nil, or_false] at hu; rcases hu with rfl | rfl | rfl <;> first | rfl | exact hr_37.one)
      refine s_store hm rfl rfl hs' ?_
      replace hS : Sep w0 w_40 [N_35, Mem.one g_2 (.cells ([.int .i64 t_32.Err, v_36, .int .i64 t_32.N] : List Value).toArray 27 (0, 0)), M_30, M_38] Z := hS'
      clear hs' hS'
      refine wpList_nil ?_
      replace hm : Fr 28 a [(0, p0_0), (1, p1_1), (4, v_28), (5, .pointer (some ⟨g_2, 0, none⟩))] := hm.keep [0, 1, 4, 5]
      refine x_then_n ?_
      refine wp_ret (x_then_r ?_)
      obtain rfl := Option.some.inj H
      exact f_ret hm (rs := [.tmp 4, .cell 5 27]) rfl (.tmp rfl (.cell rfl (hS.load_agg (p := 1) (us := [.int .i64 t_32.Err, v_36, .int .i64 t_32.N]) rfl Try.underlying27 rfl ti27 rfl rfl) .nil)) ⟨_, rfl, v_28, v_36, N_35, M_30, M_38, rfl, (Sep.sel hS [0, 2, 3] (by decide)), ((hr_29.mono ln_27).mono le_35), hr_37⟩
    · rw [if_neg hc_23] at H
      refine c_cond_f hm rfl (decide_eq_false hc_23) ?_
      refine wp_skip ?_
      refine x_then_n (hKJ_22 _ _ ?_)
      refine wp_seq ?_
      refine wp_region_lit ?_
      refine s_move hm rfl rfl ?_
      clear hm a; intro a hm
      obtain ⟨t_41, et_41, H⟩ := Option.bind_eq_some_iff.1 H
      refine s_call hm rfl Try.call46 rfl (hocketref4_rows.calls K x0 _ t_41 w0 _ _ _ (Mem.le.refl _) (hS.enter [] (by decide)) (hp0_0.mono (hA.trans (hS.le_zed []))) et_41) ?_
      rintro v_45 w_42 ⟨_, N_43, M_47, rfl, hS', hr_46⟩
      clear hm a; intro a hm
      obtain ⟨N_44, hS'', le_44, ln_44⟩ := hS.call [] (by decide) rfl (l' := []) (ow := [M_47]) rfl hS'
      replace hS : Sep w0 w_42 [N_44, Mem.one g_2 (.cells ([.int .i64 0, .slice none 0 0, .int .i64 0] : List Value).toArray 27 (0, 0)), M_47] Z := hS''
      clear hS' hS''
      refine s_move hm rfl rfl ?_
      clear hm a; intro a hm
      obtain ⟨t_49, et_49, H⟩ := Option.bind_eq_some_iff.1 H
      refine s_call hm rfl Try.call43 rfl (hocketref4_own.calls x1 _ t_49 w0 _ _ _ (Mem.le.refl _) (hS.enter [] (by decide)) (hp1_1.mono (hA.trans (hS.le_zed []))) et_49) ?_
      rintro v_53 w_50 ⟨_, N_51, M_55, rfl, hS', hr_54⟩
      clear hm a; intro a hm
      obtain ⟨N_52, hS'', le_52, ln_52⟩ := hS.call [] (by decide) rfl (l' := []) (ow := [M_55]) rfl hS'
      replace hS : Sep w0 w_50 [N_52, Mem.one g_2 (.cells ([.int .i64 0, .slice none 0 0, .int .i64 0] : List Value).toArray 27 (0, 0)), M_47, M_55] Z := hS''
      clear hS' hS''
      obtain ⟨N_57, hS', le_57, lo_57⟩ := hS.freeze 2 rfl
      replace hS : Sep w0 w_50 [N_57, Mem.one g_2 (.cells ([.int .i64 0, .slice none 0 0, .int .i64 0] : List Value).toArray 27 (0, 0)), M_47, Mem.no] Z := hS'
      clear hS'
      have hq_62 : Reps (Kd.slice Kd.u8) N_57 ([t_49] : List (List UInt8)) _ := ((Reps.one (d := (Kd.slice Kd.u8)) (x := t_49) ⟨_, rfl, (hr_54.rd lo_57 (Mem.no_le _))⟩).append (Reps.nil (Kd.slice Kd.u8) _))
      refine s_buildSlice hm rfl Try.underlying37 ti25 rfl rfl rfl (.cons (hr_54.rd lo_57 (Mem.no_le _)).cells .nil) rfl rfl rfl hS hq_62 rfl ?_
      intro w_58 v_59 M_60 hS' ho_61
      clear hm a; intro a hm
      replace hS : Sep w0 w_58 [N_57, Mem.one g_2 (.cells ([.int .i64 0, .slice none 0 0, .int .i64 0] : List Value).toArray 27 (0, 0)), M_47, Mem.no, M_60] Z := hS'
      clear hS' hq_62
      obtain ⟨t_64, et_64, H⟩ := Option.bind_eq_some_iff.1 H
      refine s_append (J := N_57) (I' := N_57) (p := 2) 5864062014805 hm rfl rfl rfl Try.underlying37 ti25 rfl rfl rfl rfl hS rfl (hr_46.mono ln_44) (ho_61.src (hS.own 4)) (le_52.trans le_57) (Mem.le.refl _) et_64 ?_
      intro w_65 v_66 M_67 hS' ho_68
      clear hm a; intro a hm
      replace hS : Sep w0 w_65 [N_57, Mem.one g_2 (.cells ([.int .i64 0, .slice none 0 0, .int .i64 0] : List Value).toArray 27 (0, 0)), M_67, Mem.no, M_60] Z := hS'
      clear hS'
      refine s_move hm rfl rfl ?_
      clear hm a; intro a hm
      refine s_len hm rfl Try.underlying37 rfl hp0_0 ?_
      clear hm a; intro a hm
      refine s_arith (r := w64 ((x0.length : Int) + 1)) hm rfl rfl rfl (.inl ⟨rfl, rfl⟩) ?_
      clear hm a; intro a hm
      refine s_build hm rfl ti27 pl27 rfl (.cons rfl .nil) (cs := [.int .i64 0, .slice none 0 0, .int .i64 (w64 ((x0.length : Int) + 1))]) rfl ?_
      clear hm a; intro a hm
      refine s_assign hm rfl rfl ?_
      clear hm a; intro a hm
      obtain ⟨w_70, hs', hS'⟩ := hS.store (P := Try.prog) (p := 1) (o := 0) (t := 27) (v := .agg [.int .i64 0, .slice none 0 0, .int .i64 (w64 ((x0.length : Int) + 1))].toArray) (vs := [.int .i64 0, .slice none 0 0, .int .i64 (w64 ((x0.length : Int) + 1))]) rfl ti27 rfl rfl rfl (by intro u hu; simp only [List.mem_cons, List.not_mem_nil, or_false] at hu; rcases hu with rfl | rfl | rfl <;> rfl)
      refine s_store hm rfl rfl hs' ?_
      replace hS : Sep w0 w_70 [N_57, Mem.one g_2 (.cells ([.int .i64 0, .slice none 0 0, .int .i64 (w64 ((x0.length : Int) + 1))] : List Value).toArray 27 (0, 0)), M_67, Mem.no, M_60] Z := hS'
      clear hs' hS'
      refine wpList_nil ?_
      replace hm : Fr 28 a [(4, v_66), (5, .pointer (some ⟨g_2, 0, none⟩))] := hm.keep [4, 5]
      refine x_then_n ?_
      refine wp_ret ?_
      have hS' := hS.room
      replace hS : Sep w0 w_70 [N_57, Mem.one g_2 (.cells ([.int .i64 0, .slice none 0 0, .int .i64 (w64 ((x0.length : Int) + 1))] : List Value).toArray 27 (0, 0)), M_67, Mem.no, M_60, Mem.no] Z := hS'
      clear hS'
      replace hS : Sep w0 w_70 [N_57, Mem.one g_2 (.cells ([.int .i64 0, .slice none 0 0, .int .i64 (w64 ((x0.length : Int) + 1))] : List Value).toArray 27 (0, 0)), M_67, Mem.no, M_60, Mem.no] Z := hS
      obtain rfl := Option.some.inj H
      exact f_ret hm (rs := [.tmp 4, .cell 5 27]) rfl (.tmp rfl (.cell rfl (hS.load_agg (p := 1) (us := [.int .i64 0, .slice none 0 0, .int .i64 (w64 ((x0.length : Int) + 1))]) rfl Try.underlying27 rfl ti27 rfl rfl) .nil)) ⟨_, rfl, v_66, .slice none 0 0, N_57, M_67, Mem.no, rfl, (Sep.sel hS [0, 2, 5] (by decide)), (ho_68.mono (Mem.le.refl _)), (Own.nil Kd.u8 5 Mem.no)⟩

set_option maxHeartbeats 4000000 in
set_option maxRecDepth 20000 in
theorem hocketref4_Pop.calls (K : Nat) (x0 : List (List UInt8)) (p0_0 : Value) (r : (List (List UInt8)) × api_Result) (w0 w : World) (Z A : Mem) (hA : A.le Z) (hS : Sep w0 w [] Z) (hp0_0 : Rd (Kd.slice Kd.u8) A p0_0 x0)
    (H : hocketref4_Pop.f K x0 = some r) :
    Calls Try.prog 27 [p0_0].toArray w (Ret fun v w' => ∃ (u0 : Value) (u1 : Value) (N : Mem) (M0 : Mem) (M1 : Mem), v = .tuple [u0, .agg [.int .i64 r.2.Err, u1, .int .i64 r.2.N].toArray].toArray ∧ Sep w0 w' [N, M0, M1] Z ∧ Own (Kd.slice Kd.u8) 25 M0 N u0 r.1 ∧ Own Kd.u8 5 M1 Mem.no u1 r.2.Val) := by
  unfold hocketref4_Pop.f at H
  refine f_enter _ Try.func27 rfl Try.ntmps27 rfl fun a hm => ?_
  replace hm : Fr 16 a [(0, p0_0)] := hm
  replace hS := hS.start
  replace hS : Sep w0 w [Mem.no] Z := hS
  refine wp_seq ?_
  refine wp_region_lit ?_
  refine s_assign hm rfl rfl ?_
  clear hm a; intro a hm
  refine v_alloc hm rfl ti27 hS ?_
  intro w_1 g_2 hS'
  clear hm a; intro a hm
  replace hS : Sep w0 w_1 [Mem.no, Mem.one g_2 (.cells ([.int .i64 0, .slice none 0 0, .int .i64 0] : List Value).toArray 27 (0, 0))] Z := hS'
  clear hS'
  refine wpList_nil ?_
  replace hm : Fr 16 a [(0, p0_0), (2, .slice none 0 0), (3, .pointer (some ⟨g_2, 0, none⟩))] := hm.keep [0, 2, 3]
  refine x_then_n ?_
  refine c_seq fun KJ_3 hKJ_3 => ?_
  refine wp_seq ?_
  refine wp_region_lit ?_
  refine s_move hm rfl rfl ?_
  clear hm a; intro a hm
  refine s_len hm rfl Try.underlying37 rfl hp0_0 ?_
  clear hm a; intro a hm
  refine s_cmp (b := ((x0.length : Int) == 0)) hm rfl rfl rfl (.inl ⟨rfl, rfl⟩) ?_
  clear hm a; intro a hm
  refine wpList_nil ?_
  replace hm : Fr 16 a [(0, p0_0), (2, .slice none 0 0), (3, .pointer (some ⟨g_2, 0, none⟩)), (6, .bool ((x0.length : Int) == 0))] := hm.keep [0, 2, 3, 6]
  refine x_then_n ?_
  by_cases hc_4 : (x0.length : Int) = 0
  · rw [if_pos hc_4] at H
    refine c_cond_t hm rfl (beq_iff_eq.2 hc_4) ?_
    refine wp_seq ?_
    refine wp_region_lit ?_
    obtain ⟨t_5, et_5, H⟩ := Option.bind_eq_some_iff.1 H
    refine s_call hm rfl Try.call44 rfl (hocketref4_bad.calls 4 t_5 w0 _ _ _ (Mem.le.refl _) (hS.enter [] (by decide))  et_5) ?_
    rintro _ w_6 ⟨v_9, N_7, M_11, rfl, hS', hr_10⟩
    clear hm a; intro a hm
    obtain ⟨N_8, hS'', le_8, ln_8⟩ := hS.call [] (by decide) rfl (l' := []) (ow := [M_11]) rfl hS'
    replace hS : Sep w0 w_6 [N_8, Mem.one g_2 (.cells ([.int .i64 0, .slice none 0 0, .int .i64 0] : List Value).toArray 27 (0, 0)), M_11] Z := hS''
    clear hS' hS''
    refine s_assign hm rfl rfl ?_
    clear hm a; intro a hm
    obtain ⟨w_13, hs', hS'⟩ := hS.store (P := Try.prog) (p := 1) (o := 0) (t := 27) (v := .agg [.int .i64 t_5.Err, v_9, .int .i64 t_5.N].toArray) (vs := [.int .i64 t_5.Err, v_9, .int .i64 t_5.N]) rfl ti27 rfl rfl rfl (by intro u hu; simp only [List.mem_cons, List.not_mem_nil, or_false] at hu; rcases hu with rfl | rfl | rfl <;> first | rfl | exact hr_10.one)
    refine s_store hm rfl rfl hs' ?_
    replace hS : Sep w0 w_13 [N_8, Mem.one g_2 (.cells ([.int .i64 t_5.Err, v_9, .int .i64 t_5.N] : List Value).toArray 27 (0, 0)), M_11] Z := hS'
    clear hs' hS'
    refine wpList_nil ?_
    replace hm : Fr 16 a [(0, p0_0), (2, .slice none 0 0), (3, .pointer (some ⟨g_2, 0, none⟩))] := hm.keep [0, 2, 3]
    refine x_then_n ?_
    refine wp_ret (x_then_r ?_)
    have hS' := hS.room
    replace hS : Sep w0 w_13 [N_8, Mem.one g_2 (.cells ([.int .i64 t_5.Err, v_9, .int .i64 t_5.N] : List Value).toArray 27 (0, 0)), M_11, Mem.no] Z := hS'
    clear hS'
    obtain rfl := Option.some.inj H
    exact f_ret hm (rs := [.tmp 2, .cell 3 27]) rfl (.tmp rfl (.cell rfl (hS.load_agg (p := 1) (us := [.int .i64 t_5.Err, v_9, .int .i64 t_5.N]) rfl Try.underlying27 rfl ti27 rfl rfl) .nil)) ⟨_, rfl, .slice none 0 0, v_9, N_8, Mem.no, M_11, rfl, (Sep.sel hS [0, 3, 2] (by decide)), ((Own.nil (Kd.slice Kd.u8) 25 N_8).mono (Mem.le.refl _)), hr_10⟩
  · rw [if_neg hc_4] at H
    refine c_cond_f hm rfl (beq_eq_false_iff_ne.2 hc_4) ?_
    refine wp_skip ?_
    refine x_then_n (hKJ_3 _ _ ?_)
    refine wp_seq ?_
    refine h_begin (S := fun w => Sep w0 w [Mem.no, Mem.no] Z) 10 (by kernel_rfl) rfl [false, false, false, false, false, false, false, false, false, false].toArray rfl hS fun w_15 hS => ?_
    replace hS : Sep w0 w_15 [Mem.no, Mem.one g_2 (.cells ([.int .i64 0, .slice none 0 0, .int .i64 0] : List Value).toArray 27 (0, 0))] Z := hS
    refine h_take 0 [true, false, false, false, false, false, false, false, false, false].toArray rfl (by kernel_rfl) (by kernel_rfl) (by kernel_rfl) (fun _ _ _ _ h => h) rfl rfl rfl rfl hm (hS.sub (.cons (Mem.le.refl _) (.cons (Mem.no_le _) (Sub.nil _)))) (v := p0_0) (fun w hS => r_move hm rfl) ?_
    clear hm a; intro a hm
    obtain ⟨t_16, et_16, H⟩ := Option.bind_eq_some_iff.1 H
    refine h_takeE 1 [true, true, false, false, false, false, false, false, false, false].toArray rfl (by kernel_rfl) (by kernel_rfl) (by kernel_rfl) (fun _ _ _ _ h => h) rfl rfl rfl rfl hm (hS.sub (.cons (Mem.le.refl _) (.cons (Mem.no_le _) (Sub.nil _)))) (f := fun v => v) (r_slice hm Try.underlying37 ti25 rfl rfl hp0_0 rfl rfl et_16) ?_
    intro v_17 hr_18
    clear hm a; intro a hm
    refine h_take 3 [true, true, false, true, false, false, false, false, false, false].toArray rfl (by kernel_rfl) (by kernel_rfl) (by kernel_rfl) (fun _ _ _ _ h => h) rfl rfl rfl rfl hm (hS.sub (.cons (Mem.le.refl _) (.cons (Mem.no_le _) (Sub.nil _)))) (v := p0_0) (fun w hS => r_move hm rfl) ?_
    clear hm a; intro a hm
    obtain ⟨t_19, et_19, H⟩ := Option.bind_eq_some_iff.1 H
    refine h_takeE 4 [true, true, false, true, true, false, false, false, false, false].toArray rfl (by kernel_rfl) (by kernel_rfl) (by kernel_rfl) (fun _ _ _ _ h => h) rfl rfl rfl rfl hm (hS.sub (.cons (Mem.le.refl _) (.cons (Mem.no_le _) (Sub.nil _)))) (f := fun ad => .pointer (some ad)) (r_index hm Try.underlying37 ti25 rfl rfl rfl hp0_0 et_19) ?_
    rintro ad_20 ⟨cs_21, hk_22, hc_23⟩
    obtain ⟨v_24, rfl, hr_25⟩ := hk_22
    clear hm a; intro a hm
    refine h_take 5 [true, true, false, true, true, true, false, false, false, false].toArray rfl (by kernel_rfl) (by kernel_rfl) (by kernel_rfl) (fun _ _ _ _ h => h) rfl rfl rfl rfl hm (hS.sub (.cons (Mem.le.refl _) (.cons (Mem.no_le _) (Sub.nil _)))) (v := v_24) (fun w hS => r_load hm rfl (el_one (o := 0) (fun j c h => Mem.cell_le (hA.trans hS.old) (hc_23 j c h)) Try.underlying25 rfl rfl)) ?_
    clear hm a; intro a hm
    refine h_event 2 [true, true, true, true, true, true, false, false, false, false].toArray rfl (by kernel_rfl) rfl ?_
    obtain ⟨t_26, et_26, H⟩ := Option.bind_eq_some_iff.1 H
    refine s_call hm rfl Try.call46 rfl (hocketref4_rows.calls K t_16 _ t_26 w0 _ _ _ (Mem.le.refl _) (hS.enter [] (by decide)) (hr_18.mono (hA.trans (hS.le_zed []))) et_26) ?_
    rintro v_30 w_27 ⟨_, N_28, M_32, rfl, hS', hr_31⟩
    clear hm a; intro a hm
    obtain ⟨N_29, hS'', le_29, ln_29⟩ := hS.call [] (by decide) rfl (l' := []) (ow := [M_32]) rfl hS'
    replace hS : Sep w0 w_27 [N_29, Mem.one g_2 (.cells ([.int .i64 0, .slice none 0 0, .int .i64 0] : List Value).toArray 27 (0, 0)), M_32] Z := hS''
    clear hS' hS''
    refine wpList_nil ?_
    refine x_then_n ⟨(hS.sub (.cons le_29 (.cons (Mem.no_le _) (Sub.nil _)))), ?_⟩
    refine h_event 6 [true, true, true, true, true, true, true, false, false, false].toArray rfl (by kernel_rfl) rfl ?_
    obtain ⟨t_34, et_34, H⟩ := Option.bind_eq_some_iff.1 H
    refine s_call hm rfl Try.call43 rfl (hocketref4_own.calls t_19 _ t_34 w0 _ _ _ (Mem.le.refl _) (hS.enter [] (by decide)) (hr_25.mono (hA.trans (hS.le_zed []))) et_34) ?_
    rintro v_38 w_35 ⟨_, N_36, M_40, rfl, hS', hr_39⟩
    clear hm a; intro a hm
    obtain ⟨N_37, hS'', le_37, ln_37⟩ := hS.call [] (by decide) rfl (l' := []) (ow := [M_40]) rfl hS'
    replace hS : Sep w0 w_35 [N_37, Mem.one g_2 (.cells ([.int .i64 0, .slice none 0 0, .int .i64 0] : List Value).toArray 27 (0, 0)), M_32, M_40] Z := hS''
    clear hS' hS''
    refine wpList_nil ?_
    refine x_then_n ⟨(hS.sub (.cons (le_29.trans le_37) (.cons (Mem.no_le _) (Sub.nil _)))), ?_⟩
    refine h_take 7 [true, true, true, true, true, true, true, true, false, false].toArray rfl (by kernel_rfl) (by kernel_rfl) (by kernel_rfl) (fun _ _ _ _ h => h) rfl rfl rfl rfl hm (hS.sub (.cons (le_29.trans le_37) (.cons (Mem.no_le _) (Sub.nil _)))) (v := .agg [.int .i64 0, v_38, .int .i64 0].toArray) (fun w hS => r_build hm ti27 pl27 rfl (.cons hr_39.cells .nil) (cs := [.int .i64 0, v_38, .int .i64 0]) rfl) ?_
    clear hm a; intro a hm
    refine h_take 8 [true, true, true, true, true, true, true, true, true, false].toArray rfl (by kernel_rfl) (by kernel_rfl) (by kernel_rfl) (fun _ _ _ _ h => h) rfl rfl rfl rfl hm (hS.sub (.cons (le_29.trans le_37) (.cons (Mem.no_le _) (Sub.nil _)))) (v := v_30) (fun w hS => r_assign hm rfl) ?_
    clear hm a; intro a hm
    refine h_event 9 [true, true, true, true, true, true, true, true, true, true].toArray rfl (by kernel_rfl) rfl ?_
    obtain ⟨w_42, hs', hS'⟩ := hS.store (P := Try.prog) (p := 1) (o := 0) (t := 27) (v := .agg [.int .i64 0, v_38, .int .i64 0].toArray) (vs := [.int .i64 0, v_38, .int .i64 0]) rfl ti27 rfl rfl rfl (by intro u hu; simp only [List.mem_cons, List.not_mem_nil, or_false] at hu; rcases hu with rfl | rfl | rfl <;> first | rfl | exact hr_39.one)
    refine s_store hm rfl rfl hs' ?_
    replace hS : Sep w0 w_42 [N_37, Mem.one g_2 (.cells ([.int .i64 0, v_38, .int .i64 0] : List Value).toArray 27 (0, 0)), M_32, M_40] Z := hS'
    clear hs' hS'
    refine wpList_nil ?_
    refine x_then_n ⟨(hS.sub (.cons (le_29.trans le_37) (.cons (Mem.no_le _) (Sub.nil _)))), ?_⟩
    refine h_done (by kernel_rfl) ?_
    replace hm : Fr 16 a [(2, v_30), (3, .pointer (some ⟨g_2, 0, none⟩))] := hm.keep [2, 3]
    refine x_then_n ?_
    refine wp_ret ?_
    obtain rfl := Option.some.inj H
    exact f_ret hm (rs := [.tmp 2, .cell 3 27]) rfl (.tmp rfl (.cell rfl (hS.load_agg (p := 1) (us := [.int .i64 0, v_38, .int .i64 0]) rfl Try.underlying27 rfl ti27 rfl rfl) .nil)) ⟨_, rfl, v_30, v_38, N_37, M_32, M_40, rfl, (Sep.sel hS [0, 2, 3] (by decide)), ((hr_31.mono ln_29).mono le_37), hr_39⟩

set_option maxHeartbeats 4000000 in
set_option maxRecDepth 20000 in
theorem hocketlaw5_FifoPlays.calls (K : Nat) (x0 : List Int) (p0_0 : Value) (x1 : List (List UInt8)) (p1_1 : Value) (r : Unit) (w0 w : World) (Z A : Mem) (hA : A.le Z) (hS : Sep w0 w [] Z) (hp0_0 : Rd (Kd.int .i64) A p0_0 x0) (hp1_1 : Rd (Kd.slice Kd.u8) A p1_1 x1)
    (H : hocketlaw5_FifoPlays.f K x0 x1 = some r) :
    Calls Try.prog 8 [p0_0, p1_1].toArray w (Ret fun v w' => ∃ (N : Mem), v = .bool true ∧ Sep w0 w' [N] Z) := by
  unfold hocketlaw5_FifoPlays.f at H
  refine f_enter _ Try.func8 rfl Try.ntmps8 rfl fun a hm => ?_
  replace hm : Fr 96 a [(0, p0_0), (1, p1_1)] := hm
  replace hS := hS.start
  replace hS : Sep w0 w [Mem.no] Z := hS
  refine wp_seq ?_
  refine wp_region_lit ?_
  refine s_assign hm rfl rfl ?_
  clear hm a; intro a hm
  refine wpList_nil ?_
  replace hm : Fr 96 a [(0, p0_0), (1, p1_1), (4, .bool false)] := hm.keep [0, 1, 4]
  refine x_then_n ?_
  refine wp_seq ?_
  refine wp_region_lit ?_
  refine s_assign hm rfl rfl ?_
  clear hm a; intro a hm
  refine s_assign hm rfl rfl ?_
  clear hm a; intro a hm
  refine wpList_nil ?_
  replace hm : Fr 96 a [(0, p0_0), (1, p1_1), (4, .bool false), (5, .slice none 0 0), (6, .slice none 0 0)] := hm.keep [0, 1, 4, 5, 6]
  refine x_then_n ?_
  refine c_seq fun KJ_1 hKJ_1 => ?_
  refine wp_seq ?_
  refine wp_region_lit ?_
  refine s_move hm rfl rfl ?_
  clear hm a; intro a hm
  refine s_len hm rfl Try.underlying37 rfl hp1_1 ?_
  clear hm a; intro a hm
  refine s_cmp (b := decide ((x1.length : Int) ≤ 12)) hm rfl rfl rfl (.inr (.inr (.inr (.inl ⟨rfl, rfl⟩)))) ?_
  clear hm a; intro a hm
  refine wpList_nil ?_
  replace hm : Fr 96 a [(0, p0_0), (1, p1_1), (4, .bool false), (5, .slice none 0 0), (6, .slice none 0 0), (14, .bool (decide ((x1.length : Int) ≤ 12)))] := hm.keep [0, 1, 4, 5, 6, 14]
  refine x_then_n ?_
  have hJ_j_10 : ∀ (x_3 : List (List UInt8)), ∀ (x_6 : List (List UInt8)), hocketlaw5_FifoPlays.j_10 K x1 x0 x_3 x_6 = some r → ∀ (a : Act) (w_9 : World), (∃ (v_4 : Value) (v_7 : Value) (N_2 : Mem), Fr 96 a [(0, p0_0), (1, p1_1), (4, .bool false), (5, v_4), (6, v_7)] ∧ Sep w0 w_9 [N_2] Z ∧ Mem.no.le N_2 ∧ Rd (Kd.slice Kd.u8) A v_4 x_3 ∧ Rd (Kd.slice Kd.u8) A v_7 x_6) → KJ_1 a w_9 := by
    clear H hm hS a
    rintro x_3 x_6 H a w_9 ⟨v_4, v_7, N_2, hm, hS, le_2, hr_5, hr_8⟩
    unfold hocketlaw5_FifoPlays.j_10 at H
    refine hKJ_1 _ _ ?_
    refine c_seq fun KJ_11 hKJ_11 => ?_
    refine wp_seq ?_
    refine wp_region_lit ?_
    refine s_move hm rfl rfl ?_
    clear hm a; intro a hm
    refine s_len hm rfl Try.underlying37 rfl hp1_1 ?_
    clear hm a; intro a hm
    refine s_move hm rfl rfl ?_
    clear hm a; intro a hm
    refine wpList_nil ?_
    replace hm : Fr 96 a [(0, p0_0), (1, p1_1), (4, .bool false), (5, v_4), (6, v_7), (18, .int .i64 (x1.length : Int)), (19, .int .i64 0)] := hm.keep [0, 1, 4, 5, 6, 18, 19]
    refine x_then_n ?_
    have hJ_j_14 : hocketlaw5_FifoPlays.j_14 K x0 x1 x_3 x_6 = some r → ∀ (a : Act) (w_13 : World), (∃ (N_12 : Mem), Fr 96 a [(0, p0_0), (1, p1_1), (4, .bool false), (5, v_4), (6, v_7)] ∧ Sep w0 w_13 [N_12] Z ∧ N_2.le N_12) → KJ_11 a w_13 := by
      clear H hm hS a
      rintro H a w_13 ⟨N_12, hm, hS, le_12⟩
      unfold hocketlaw5_FifoPlays.j_14 at H
      refine hKJ_11 _ _ ?_
      refine c_seq fun KJ_15 hKJ_15 => ?_
      refine wp_seq ?_
      refine wp_region_lit ?_
      refine s_assign hm rfl rfl ?_
      clear hm a; intro a hm
      refine wpList_nil ?_
      replace hm : Fr 96 a [(0, p0_0), (1, p1_1), (4, .bool false), (5, v_4), (6, v_7), (8, .int .i64 0)] := hm.keep [0, 1, 4, 5, 6, 8]
      refine x_then_n ?_
      have hJ_j_18 : hocketlaw5_FifoPlays.j_18 K = some r → ∀ (a : Act) (w_17 : World), (∃ (N_16 : Mem), Fr 96 a [(4, .bool false)] ∧ Sep w0 w_17 [N_16] Z ∧ N_12.le N_16) → KJ_15 a w_17 := by
        clear H hm hS a
        rintro H a w_17 ⟨N_16, hm, hS, le_16⟩
        unfold hocketlaw5_FifoPlays.j_18 at H
        refine hKJ_15 _ _ ?_
        refine wp_seq ?_
        refine wp_region_lit ?_
        obtain ⟨t_19, et_19, H⟩ := Option.bind_eq_some_iff.1 H
        refine s_call hm rfl Try.call25 rfl (hocketlaw5_awake.calls K  t_19 w0 _ _ _ (Mem.le.refl _) (hS.enter [] (by decide))  et_19) ?_
        rintro _ w_20 ⟨N_21, rfl, hS'⟩
        clear hm a; intro a hm
        obtain ⟨N_22, hS'', le_22, ln_22⟩ := hS.call [] (by decide) rfl (l' := []) (ow := []) rfl hS'
        replace hS : Sep w0 w_20 [N_22] Z := hS''
        clear hS' hS''
        refine s_assign hm rfl rfl ?_
        clear hm a; intro a hm
        refine wpList_nil ?_
        replace hm : Fr 96 a [(4, .bool true)] := hm.keep [4]
        refine x_then_n ?_
        refine wp_ret ?_
        exact f_ret hm (rs := [.tmp 4]) rfl (.tmp rfl .nil) ⟨_, rfl, N_22, rfl, (Sep.sel hS [0] (by decide))⟩
      clear hKJ_15
      replace hS : Sep w0 w_13 [N_12] Z := hS
      replace hm : Fr 96 a [(0, p0_0), (1, p1_1), (4, .bool false), (5, v_4), (6, v_7), (8, .int .i64 0)] := hm.keep [0, 1, 4, 5, 6, 8]
      refine c_block ?_
      refine c_loop (fun k_31 a w_31 => ∃ (x_24 : List (List UInt8)) (x_27 : List (List UInt8)) (x_30 : Int) (v_25 : Value) (v_28 : Value) (N_23 : Mem), hocketlaw5_FifoPlays.l_31 K x0 x1 (fun v => hocketlaw5_FifoPlays.j_18 K) k_31 (x_24, x_27, x_30) = some r ∧ Fr 96 a [(0, p0_0), (1, p1_1), (4, .bool false), (5, v_25), (6, v_28), (8, .int .i64 x_30)] ∧ Sep w0 w_31 [N_23] Z ∧ N_12.le N_23 ∧ Rd (Kd.slice Kd.u8) (A.un N_23) v_25 x_24 ∧ Rd (Kd.slice Kd.u8) (A.un N_23) v_28 x_27) K ⟨x_3, x_6, 0, v_4, v_7, N_12, H, hm, (Sep.sel hS [0] (by decide)), (Mem.le.refl _), (hr_5.mono (Mem.le_un _ _)), (hr_8.mono (Mem.le_un _ _))⟩ (fun a w h => by obtain ⟨_, _, _, _, _, _, H, _⟩ := h; cases (show (none : Option (Unit)) = some r from H)) ?_
      clear hm hS a H
      rintro k_31 a w_31 KL_31 hKL_31 ⟨x_24, x_27, x_30, v_25, v_28, N_23, H, hm, hS, le_23, hr_26, hr_29⟩
      replace H : hocketlaw5_FifoPlays.b_31 K x0 x1 (fun v => hocketlaw5_FifoPlays.j_18 K) (hocketlaw5_FifoPlays.l_31 K x0 x1 (fun v => hocketlaw5_FifoPlays.j_18 K) k_31) x_24 x_27 x_30 = some r := H
      unfold hocketlaw5_FifoPlays.b_31 at H
      refine c_seq fun KJ_33 hKJ_33 => ?_
      refine c_seq fun KJ_34 hKJ_34 => ?_
      have hJ_j_38 : ∀ (x_36 : Bool), hocketlaw5_FifoPlays.j_38 K x0 x_30 x1 x_24 x_27 (hocketlaw5_FifoPlays.l_31 K x0 x1 (fun v => hocketlaw5_FifoPlays.j_18 K) k_31) (fun v => hocketlaw5_FifoPlays.j_18 K) x_36 = some r → ∀ (a : Act) (w_37 : World), (∃ (N_35 : Mem), Fr 96 a [(0, p0_0), (1, p1_1), (4, .bool false), (5, v_25), (6, v_28), (8, .int .i64 x_30), (37, .bool x_36)] ∧ Sep w0 w_37 [N_35] Z ∧ N_23.le N_35) → KJ_34 a w_37 := by
        clear H hm hS a
        rintro x_36 H a w_37 ⟨N_35, hm, hS, le_35⟩
        unfold hocketlaw5_FifoPlays.j_38 at H
        refine hKJ_34 _ _ ?_
        by_cases hc_39 : x_36 = true
        · rw [if_pos hc_39] at H
          refine c_cond_t hm rfl hc_39 ?_
          refine wp_skip ?_
          refine x_then_n (hKJ_33 _ _ ?_)
          refine c_seq fun KJ_40 hKJ_40 => ?_
          refine c_block ?_
          refine wp_seq ?_
          refine wp_region_lit ?_
          refine v_alloc hm rfl ti27 hS ?_
          intro w_41 g_42 hS'
          clear hm a; intro a hm
          replace hS : Sep w0 w_41 [N_35, Mem.one g_42 (.cells ([.int .i64 0, .slice none 0 0, .int .i64 0] : List Value).toArray 27 (0, 0))] Z := hS'
          clear hS'
          refine v_alloc hm rfl ti27 hS ?_
          intro w_43 g_44 hS'
          clear hm a; intro a hm
          replace hS : Sep w0 w_43 [N_35, Mem.one g_42 (.cells ([.int .i64 0, .slice none 0 0, .int .i64 0] : List Value).toArray 27 (0, 0)), Mem.one g_44 (.cells ([.int .i64 0, .slice none 0 0, .int .i64 0] : List Value).toArray 27 (0, 0))] Z := hS'
          clear hS'
          refine wpList_nil ?_
          replace hm : Fr 96 a [(0, p0_0), (1, p1_1), (4, .bool false), (5, v_25), (6, v_28), (8, .int .i64 x_30), (9, .pointer (some ⟨g_42, 0, none⟩)), (10, .pointer (some ⟨g_44, 0, none⟩))] := hm.keep [0, 1, 4, 5, 6, 8, 9, 10]
          refine x_then_n ?_
          refine c_seq fun KJ_45 hKJ_45 => ?_
          refine c_seq fun KJ_46 hKJ_46 => ?_
          have hJ_j_50 : ∀ (x_48 : Bool), hocketlaw5_FifoPlays.j_50 K x0 x_30 x1 x_24 x_27 (hocketlaw5_FifoPlays.l_31 K x0 x1 (fun v => hocketlaw5_FifoPlays.j_18 K) k_31) x_48 = some r → ∀ (a : Act) (w_49 : World), (∃ (N_47 : Mem), Fr 96 a [(0, p0_0), (1, p1_1), (4, .bool false), (5, v_25), (6, v_28), (8, .int .i64 x_30), (9, .pointer (some ⟨g_42, 0, none⟩)), (10, .pointer (some ⟨g_44, 0, none⟩)), (50, .bool x_48)] ∧ Sep w0 w_49 [N_47, Mem.one g_42 (.cells ([.int .i64 0, .slice none 0 0, .int .i64 0] : List Value).toArray 27 (0, 0)), Mem.one g_44 (.cells ([.int .i64 0, .slice none 0 0, .int .i64 0] : List Value).toArray 27 (0, 0))] Z ∧ N_35.le N_47) → KJ_46 a w_49 := by
            clear H hm hS a
            rintro x_48 H a w_49 ⟨N_47, hm, hS, le_47⟩
            unfold hocketlaw5_FifoPlays.j_50 at H
            refine hKJ_46 _ _ ?_
            have hJ_j_73 : ∀ (x_52 : List (List UInt8)), ∀ (x_55 : List (List UInt8)), ∀ (x_60 : Int), ∀ (x_61 : List UInt8), ∀ (x_64 : Int), ∀ (x_65 : Int), ∀ (x_66 : List UInt8), ∀ (x_71 : Int), hocketlaw5_FifoPlays.j_73 K (hocketlaw5_FifoPlays.l_31 K x0 x1 (fun v => hocketlaw5_FifoPlays.j_18 K) k_31) x_30 x_52 x_55 x_60 x_61 x_64 x_65 x_66 x_71 = some r → ∀ (a : Act) (w_72 : World), (∃ (v_53 : Value) (v_58 : Value) (v_62 : Value) (v_69 : Value) (N_51 : Mem) (M_56 : Mem) (M_67 : Mem), Fr 96 a [(0, p0_0), (1, p1_1), (4, .bool false), (5, v_53), (6, v_58), (8, .int .i64 x_30), (9, .pointer (some ⟨g_42, 0, none⟩)), (10, .pointer (some ⟨g_44, 0, none⟩))] ∧ Sep w0 w_72 [N_51, Mem.one g_42 (.cells ([.int .i64 x_60, v_62, .int .i64 x_64] : List Value).toArray 27 (0, 0)), Mem.one g_44 (.cells ([.int .i64 x_65, v_69, .int .i64 x_71] : List Value).toArray 27 (0, 0)), M_56, M_67] Z ∧ N_47.le N_51 ∧ Rd (Kd.slice Kd.u8) N_51 v_53 x_52 ∧ Own (Kd.slice Kd.u8) 25 M_56 N_51 v_58 x_55 ∧ Rd Kd.u8 N_51 v_62 x_61 ∧ Own Kd.u8 5 M_67 Mem.no v_69 x_66) → KJ_45 a w_72 := by
              clear H hm hS a
              rintro x_52 x_55 x_60 x_61 x_64 x_65 x_66 x_71 H a w_72 ⟨v_53, v_58, v_62, v_69, N_51, M_56, M_67, hm, hS, le_51, hr_54, ho_59, hr_63, ho_70⟩
              unfold hocketlaw5_FifoPlays.j_73 at H
              refine hKJ_45 _ _ ?_
              refine c_seq fun KJ_74 hKJ_74 => ?_
              have hJ_j_78 : ∀ (x_76 : Bool), hocketlaw5_FifoPlays.j_78 K (hocketlaw5_FifoPlays.l_31 K x0 x1 (fun v => hocketlaw5_FifoPlays.j_18 K) k_31) x_52 x_55 x_30 x_76 = some r → ∀ (a : Act) (w_77 : World), (∃ (N_75 : Mem), Fr 96 a [(0, p0_0), (1, p1_1), (4, .bool false), (5, v_53), (6, v_58), (8, .int .i64 x_30), (94, .bool x_76)] ∧ Sep w0 w_77 [N_75, Mem.no, Mem.no, M_56, Mem.no] Z ∧ N_51.le N_75) → KJ_74 a w_77 := by
                clear H hm hS a
                rintro x_76 H a w_77 ⟨N_75, hm, hS, le_75⟩
                unfold hocketlaw5_FifoPlays.j_78 at H
                refine hKJ_74 _ _ ?_
                by_cases hc_79 : x_76 = true
                · rw [if_pos hc_79] at H
                  cases H
                · rw [if_neg hc_79] at H
                  refine c_cond_f hm rfl (Bool.eq_false_iff.2 hc_79) ?_
                  refine wp_skip ?_
                  refine x_block_n ?_
                  refine x_then_n (hKJ_40 _ _ ?_)
                  refine wp_region_lit ?_
                  refine s_move hm rfl rfl ?_
                  clear hm a; intro a hm
                  refine s_arith (r := w64 (x_30 + 1)) hm rfl rfl rfl (.inl ⟨rfl, rfl⟩) ?_
                  clear hm a; intro a hm
                  refine s_assign hm rfl rfl ?_
                  clear hm a; intro a hm
                  refine wpList_nil ?_
                  replace hm : Fr 96 a [(0, p0_0), (1, p1_1), (4, .bool false), (5, v_53), (6, v_58), (8, .int .i64 (w64 (x_30 + 1)))] := hm.keep [0, 1, 4, 5, 6, 8]
                  refine x_then_n (hKL_31 _ _ ?_)
                  obtain ⟨N_80, hS', le_80, lo_80⟩ := hS.freeze 2 rfl
                  replace hS : Sep w0 w_77 [N_80, Mem.no, Mem.no, Mem.no, Mem.no] Z := hS'
                  clear hS'
                  replace hS : Sep w0 w_77 [N_80, Mem.no, Mem.no, Mem.no, Mem.no] Z := hS
                  replace hm : Fr 96 a [(0, p0_0), (1, p1_1), (4, .bool false), (5, v_53), (6, v_58), (8, .int .i64 (w64 (x_30 + 1)))] := hm.keep [0, 1, 4, 5, 6, 8]
                  exact ⟨x_52, x_55, w64 (x_30 + 1), v_53, v_58, N_80, H, hm, (Sep.sel hS [0] (by decide)), (le_23.trans (le_35.trans (le_47.trans (le_51.trans (le_75.trans le_80))))), (hr_54.mono ((le_75.trans le_80).trans (hS.sndA hA))), ((ho_59.rd lo_80 (le_75.trans le_80)).mono ((Mem.le.refl _).trans (hS.sndA hA)))⟩
              clear hKJ_74
              refine wp_region_lit ?_
              refine s_load hm rfl rfl (hS.load_agg (p := 1) (us := [.int .i64 x_60, v_62, .int .i64 x_64]) rfl Try.underlying27 rfl ti27 rfl rfl) ?_
              clear hm a; intro a hm
              refine s_load hm rfl rfl (hS.load_agg (p := 2) (us := [.int .i64 x_65, v_69, .int .i64 x_71]) rfl Try.underlying27 rfl ti27 rfl rfl) ?_
              clear hm a; intro a hm
              obtain ⟨t_81, et_81, H⟩ := Option.bind_eq_some_iff.1 H
              refine s_call hm rfl Try.call19 rfl (hocketref4_SameResult.calls (⟨x_60, x_61, x_64⟩ : api_Result) _ (⟨x_65, x_66, x_71⟩ : api_Result) _ t_81 w0 _ _ _ (Mem.le.refl _) (hS.enter [] (by decide)) (hr_63.mono ((Mem.le.refl _).trans (hS.new_zed []))) (ho_70.rd (hS.own_zed [] 3 (by decide)) (Mem.no_le _)) et_81) ?_
              rintro _ w_82 ⟨N_83, rfl, hS'⟩
              clear hm a; intro a hm
              obtain ⟨N_84, hS'', le_84, ln_84⟩ := hS.call [] (by decide) rfl (l' := []) (ow := []) rfl hS'
              replace hS : Sep w0 w_82 [N_84, Mem.one g_42 (.cells ([.int .i64 x_60, v_62, .int .i64 x_64] : List Value).toArray 27 (0, 0)), Mem.one g_44 (.cells ([.int .i64 x_65, v_69, .int .i64 x_71] : List Value).toArray 27 (0, 0)), M_56, M_67] Z := hS''
              clear hS' hS''
              refine s_not hm rfl rfl ?_
              clear hm a; intro a hm
              refine s_move hm rfl rfl ?_
              clear hm a; intro a hm
              by_cases hc_85 : t_81 = true
              · rw [if_pos hc_85] at H
                refine s_on hm rfl rfl (nf hc_85) ?_
                refine s_move hm rfl rfl ?_
                clear hm a; intro a hm
                refine s_on hm rfl rfl (nf hc_85) ?_
                refine s_move hm rfl rfl ?_
                clear hm a; intro a hm
                refine s_on hm rfl rfl (nf hc_85) ?_
                obtain ⟨t_86, et_86, H⟩ := Option.bind_eq_some_iff.1 H
                refine s_call hm rfl Try.call23 rfl (hocketref4_SameRows.calls K x_52 _ x_55 _ t_86 w0 _ _ _ (Mem.le.refl _) (hS.enter [] (by decide)) (hr_54.mono (le_84.trans (hS.new_zed []))) (ho_59.rd (hS.own_zed [] 2 (by decide)) (le_84.trans (hS.new_zed []))) et_86) ?_
                rintro _ w_87 ⟨N_88, rfl, hS'⟩
                clear hm a; intro a hm
                obtain ⟨N_89, hS'', le_89, ln_89⟩ := hS.call [] (by decide) rfl (l' := []) (ow := []) rfl hS'
                replace hS : Sep w0 w_87 [N_89, Mem.one g_42 (.cells ([.int .i64 x_60, v_62, .int .i64 x_64] : List Value).toArray 27 (0, 0)), Mem.one g_44 (.cells ([.int .i64 x_65, v_69, .int .i64 x_71] : List Value).toArray 27 (0, 0)), M_56, M_67] Z := hS''
                clear hS' hS''
                refine s_on hm rfl rfl (nf hc_85) ?_
                refine s_not hm rfl rfl ?_
                clear hm a; intro a hm
                refine s_pick_f hm rfl rfl (nf hc_85) rfl ?_
                clear hm a; intro a hm
                refine wpList_nil ?_
                replace hm : Fr 96 a [(0, p0_0), (1, p1_1), (4, .bool false), (5, v_53), (6, v_58), (8, .int .i64 x_30), (94, .bool (!t_86))] := hm.keep [0, 1, 4, 5, 6, 8, 94]
                replace hS : Sep w0 w_87 [N_89, Mem.one g_42 (.cells ([.int .i64 x_60, v_62, .int .i64 x_64] : List Value).toArray 27 (0, 0)), Mem.one g_44 (.cells ([.int .i64 x_65, v_69, .int .i64 x_71] : List Value).toArray 27 (0, 0)), M_56, M_67] Z := hS
                replace hm : Fr 96 a [(0, p0_0), (1, p1_1), (4, .bool false), (5, v_53), (6, v_58), (8, .int .i64 x_30), (94, .bool (!t_86))] := hm.keep [0, 1, 4, 5, 6, 8, 94]
                exact x_then_n (hJ_j_78 (!t_86) H _ _ ⟨N_89, hm, (Sep.sel hS [0, 1000, 1001, 3, 1003] (by decide)), (le_84.trans le_89)⟩)
              · rw [if_neg hc_85] at H
                refine s_off hm rfl rfl rfl (nt (Bool.eq_false_iff.2 hc_85)) ?_
                clear hm a; intro a hm
                refine s_off hm rfl rfl rfl (nt (Bool.eq_false_iff.2 hc_85)) ?_
                clear hm a; intro a hm
                refine s_off hm rfl rfl rfl (nt (Bool.eq_false_iff.2 hc_85)) ?_
                clear hm a; intro a hm
                refine s_off hm rfl rfl rfl (nt (Bool.eq_false_iff.2 hc_85)) ?_
                clear hm a; intro a hm
                refine s_pick_t hm rfl rfl (nt (Bool.eq_false_iff.2 hc_85)) rfl ?_
                clear hm a; intro a hm
                refine wpList_nil ?_
                replace hm : Fr 96 a [(0, p0_0), (1, p1_1), (4, .bool false), (5, v_53), (6, v_58), (8, .int .i64 x_30), (94, .bool true)] := hm.keep [0, 1, 4, 5, 6, 8, 94]
                replace hS : Sep w0 w_82 [N_84, Mem.one g_42 (.cells ([.int .i64 x_60, v_62, .int .i64 x_64] : List Value).toArray 27 (0, 0)), Mem.one g_44 (.cells ([.int .i64 x_65, v_69, .int .i64 x_71] : List Value).toArray 27 (0, 0)), M_56, M_67] Z := hS
                replace hm : Fr 96 a [(0, p0_0), (1, p1_1), (4, .bool false), (5, v_53), (6, v_58), (8, .int .i64 x_30), (94, .bool true)] := hm.keep [0, 1, 4, 5, 6, 8, 94]
                exact x_then_n (hJ_j_78 true H _ _ ⟨N_84, hm, (Sep.sel hS [0, 1000, 1001, 3, 1003] (by decide)), le_84⟩)
            clear hKJ_45
            by_cases hc_90 : x_48 = true
            · rw [if_pos hc_90] at H
              refine c_cond_t hm rfl hc_90 ?_
              refine wp_seq ?_
              refine wp_region_lit ?_
              refine s_move hm rfl rfl ?_
              clear hm a; intro a hm
              refine s_move hm rfl rfl ?_
              clear hm a; intro a hm
              refine s_move hm rfl rfl ?_
              clear hm a; intro a hm
              obtain ⟨t_91, et_91, H⟩ := Option.bind_eq_some_iff.1 H
              refine v_index hm rfl Try.underlying44 ti3 rfl rfl rfl hp0_0 (hA.trans hS.old) et_91 ?_
              intro ad_92 cs_93 hk_94 hc_95
              obtain rfl := (show cs_93 = [.int .i64 t_91] from hk_94)
              clear hm a; intro a hm
              refine s_load hm rfl rfl (el_one (o := 0) hc_95 Try.underlying3 rfl rfl) ?_
              clear hm a; intro a hm
              refine s_shift (r := shr .i64 t_91 2) hm rfl rfl rfl (by decide) (.inr ⟨rfl, rfl⟩) ?_
              clear hm a; intro a hm
              refine s_bits (i := shr .i64 t_91 2) (j := 255) (r := band .i64 (shr .i64 t_91 2) 255) hm rfl rfl rfl (.inl ⟨rfl, rfl⟩) ?_
              clear hm a; intro a hm
              refine s_move hm rfl rfl ?_
              clear hm a; intro a hm
              refine s_len hm rfl Try.underlying37 rfl hp1_1 ?_
              clear hm a; intro a hm
              obtain ⟨t_96, et_96, H⟩ := Option.bind_eq_some_iff.1 H
              refine s_div (r := t_96) hm rfl rfl rfl (rem_some et_96).1 (.inr ⟨rfl, (rem_some et_96).2⟩) ?_
              clear hm a; intro a hm
              obtain ⟨t_97, et_97, H⟩ := Option.bind_eq_some_iff.1 H
              refine v_index hm rfl Try.underlying37 ti25 rfl rfl rfl hp1_1 (hA.trans hS.old) et_97 ?_
              intro ad_98 cs_99 hk_100 hc_101
              obtain ⟨v_102, rfl, hr_103⟩ := hk_100
              clear hm a; intro a hm
              refine s_load hm rfl rfl (el_one (o := 0) hc_101 Try.underlying25 rfl rfl) ?_
              clear hm a; intro a hm
              refine s_assign hm rfl rfl ?_
              clear hm a; intro a hm
              refine wpList_nil ?_
              replace hm : Fr 96 a [(0, p0_0), (1, p1_1), (4, .bool false), (5, v_25), (6, v_28), (8, .int .i64 x_30), (9, .pointer (some ⟨g_42, 0, none⟩)), (10, .pointer (some ⟨g_44, 0, none⟩)), (11, v_102)] := hm.keep [0, 1, 4, 5, 6, 8, 9, 10, 11]
              refine x_then_n ?_
              refine wp_seq ?_
              refine wp_region_lit ?_
              refine s_move hm rfl rfl ?_
              clear hm a; intro a hm
              refine s_move hm rfl rfl ?_
              clear hm a; intro a hm
              obtain ⟨t_104, et_104, H⟩ := Option.bind_eq_some_iff.1 H
              refine s_call hm rfl Try.call22 rfl (fifo_Push.calls K x_24 _ t_97 _ t_104 w0 _ _ _ (Mem.le.refl _) (hS.enter [] (by decide)) (hr_26.mono (Mem.un_le (hA.trans (hS.le_zed [])) ((le_35.trans le_47).trans (hS.new_zed [])))) (hr_103.mono (hA.trans (hS.le_zed []))) et_104) ?_
              rintro _ w_105 ⟨v_108, v_112, N_106, M_110, M_114, rfl, hS', hr_109, hr_113⟩
              clear hm a; intro a hm
              obtain ⟨N_107, hS'', le_107, ln_107⟩ := hS.call [] (by decide) rfl (l' := []) (ow := [M_110, M_114]) rfl hS'
              replace hS : Sep w0 w_105 [N_107, Mem.one g_42 (.cells ([.int .i64 0, .slice none 0 0, .int .i64 0] : List Value).toArray 27 (0, 0)), Mem.one g_44 (.cells ([.int .i64 0, .slice none 0 0, .int .i64 0] : List Value).toArray 27 (0, 0)), M_110, M_114] Z := hS''
              clear hS' hS''
              refine s_move hm rfl rfl ?_
              clear hm a; intro a hm
              refine s_extract hm rfl rfl rfl ?_
              clear hm a; intro a hm
              refine s_extract hm rfl rfl rfl ?_
              clear hm a; intro a hm
              refine s_assign hm rfl rfl ?_
              clear hm a; intro a hm
              obtain ⟨w_116, hs', hS'⟩ := hS.store (P := Try.prog) (p := 1) (o := 0) (t := 27) (v := .agg [.int .i64 t_104.2.Err, v_112, .int .i64 t_104.2.N].toArray) (vs := [.int .i64 t_104.2.Err, v_112, .int .i64 t_104.2.N]) rfl ti27 rfl rfl rfl (by intro u hu; simp only [List.mem_cons, List.not_mem_nil, or_false] at hu; rcases hu with rfl | rfl | rfl <;> first | rfl | exact hr_113.one)
              refine s_store hm rfl rfl hs' ?_
              replace hS : Sep w0 w_116 [N_107, Mem.one g_42 (.cells ([.int .i64 t_104.2.Err, v_112, .int .i64 t_104.2.N] : List Value).toArray 27 (0, 0)), Mem.one g_44 (.cells ([.int .i64 0, .slice none 0 0, .int .i64 0] : List Value).toArray 27 (0, 0)), M_110, M_114] Z := hS'
              clear hs' hS'
              refine wpList_nil ?_
              replace hm : Fr 96 a [(0, p0_0), (1, p1_1), (4, .bool false), (5, v_108), (6, v_28), (8, .int .i64 x_30), (9, .pointer (some ⟨g_42, 0, none⟩)), (10, .pointer (some ⟨g_44, 0, none⟩)), (11, v_102)] := hm.keep [0, 1, 4, 5, 6, 8, 9, 10, 11]
              refine x_then_n ?_
              refine wp_region_lit ?_
              refine s_move hm rfl rfl ?_
              clear hm a; intro a hm
              refine s_move hm rfl rfl ?_
              clear hm a; intro a hm
              obtain ⟨t_117, et_117, H⟩ := Option.bind_eq_some_iff.1 H
              refine s_call hm rfl Try.call26 rfl (hocketref4_Push.calls K x_27 _ t_97 _ t_117 w0 _ _ _ (Mem.le.refl _) (hS.enter [] (by decide)) (hr_29.mono (Mem.un_le (hA.trans (hS.le_zed [])) ((le_35.trans (le_47.trans le_107)).trans (hS.new_zed [])))) (hr_103.mono (hA.trans (hS.le_zed []))) et_117) ?_
              rintro _ w_118 ⟨v_121, v_125, N_119, M_123, M_127, rfl, hS', hr_122, hr_126⟩
              clear hm a; intro a hm
              obtain ⟨N_120, hS'', le_120, ln_120⟩ := hS.call [] (by decide) rfl (l' := []) (ow := [M_123, M_127]) rfl hS'
              replace hS : Sep w0 w_118 [N_120, Mem.one g_42 (.cells ([.int .i64 t_104.2.Err, v_112, .int .i64 t_104.2.N] : List Value).toArray 27 (0, 0)), Mem.one g_44 (.cells ([.int .i64 0, .slice none 0 0, .int .i64 0] : List Value).toArray 27 (0, 0)), M_110, M_114, M_123, M_127] Z := hS''
              clear hS' hS''
              refine s_move hm rfl rfl ?_
              clear hm a; intro a hm
              refine s_extract hm rfl rfl rfl ?_
              clear hm a; intro a hm
              refine s_extract hm rfl rfl rfl ?_
              clear hm a; intro a hm
              refine s_assign hm rfl rfl ?_
              clear hm a; intro a hm
              obtain ⟨w_129, hs', hS'⟩ := hS.store (P := Try.prog) (p := 2) (o := 0) (t := 27) (v := .agg [.int .i64 t_117.2.Err, v_125, .int .i64 t_117.2.N].toArray) (vs := [.int .i64 t_117.2.Err, v_125, .int .i64 t_117.2.N]) rfl ti27 rfl rfl rfl (by intro u hu; simp only [List.mem_cons, List.not_mem_nil, or_false] at hu; rcases hu with rfl | rfl | rfl <;> first | rfl | exact hr_126.one)
              refine s_store hm rfl rfl hs' ?_
              replace hS : Sep w0 w_129 [N_120, Mem.one g_42 (.cells ([.int .i64 t_104.2.Err, v_112, .int .i64 t_104.2.N] : List Value).toArray 27 (0, 0)), Mem.one g_44 (.cells ([.int .i64 t_117.2.Err, v_125, .int .i64 t_117.2.N] : List Value).toArray 27 (0, 0)), M_110, M_114, M_123, M_127] Z := hS'
              clear hs' hS'
              refine wpList_nil ?_
              replace hm : Fr 96 a [(0, p0_0), (1, p1_1), (4, .bool false), (5, v_108), (6, v_121), (8, .int .i64 x_30), (9, .pointer (some ⟨g_42, 0, none⟩)), (10, .pointer (some ⟨g_44, 0, none⟩))] := hm.keep [0, 1, 4, 5, 6, 8, 9, 10]
              obtain ⟨N_130, hS', le_130, lo_130⟩ := hS.freeze 2 rfl
              replace hS : Sep w0 w_129 [N_130, Mem.one g_42 (.cells ([.int .i64 t_104.2.Err, v_112, .int .i64 t_104.2.N] : List Value).toArray 27 (0, 0)), Mem.one g_44 (.cells ([.int .i64 t_117.2.Err, v_125, .int .i64 t_117.2.N] : List Value).toArray 27 (0, 0)), Mem.no, M_114, M_123, M_127] Z := hS'
              clear hS'
              obtain ⟨N_131, hS', le_131, lo_131⟩ := hS.freeze 3 rfl
              replace hS : Sep w0 w_129 [N_131, Mem.one g_42 (.cells ([.int .i64 t_104.2.Err, v_112, .int .i64 t_104.2.N] : List Value).toArray 27 (0, 0)), Mem.one g_44 (.cells ([.int .i64 t_117.2.Err, v_125, .int .i64 t_117.2.N] : List Value).toArray 27 (0, 0)), Mem.no, Mem.no, M_123, M_127] Z := hS'
              clear hS'
              replace hS : Sep w0 w_129 [N_131, Mem.one g_42 (.cells ([.int .i64 t_104.2.Err, v_112, .int .i64 t_104.2.N] : List Value).toArray 27 (0, 0)), Mem.one g_44 (.cells ([.int .i64 t_117.2.Err, v_125, .int .i64 t_117.2.N] : List Value).toArray 27 (0, 0)), Mem.no, Mem.no, M_123, M_127] Z := hS
              replace hm : Fr 96 a [(0, p0_0), (1, p1_1), (4, .bool false), (5, v_108), (6, v_121), (8, .int .i64 x_30), (9, .pointer (some ⟨g_42, 0, none⟩)), (10, .pointer (some ⟨g_44, 0, none⟩))] := hm.keep [0, 1, 4, 5, 6, 8, 9, 10]
              exact x_then_n (hJ_j_73 t_104.1 t_117.1 t_104.2.Err t_104.2.Val t_104.2.N t_117.2.Err t_117.2.Val t_117.2.N H _ _ ⟨v_108, v_121, v_112, v_125, N_131, M_123, M_127, hm, (Sep.sel hS [0, 1, 2, 5, 6] (by decide)), (le_107.trans (le_120.trans (le_130.trans le_131))), (((hr_109.mono ln_107).rd lo_130 (le_120.trans le_130)).mono le_131), ((hr_122.mono ln_120).mono (le_130.trans le_131)), (hr_113.rd lo_131 (Mem.no_le _)), hr_126⟩)
            · rw [if_neg hc_90] at H
              refine c_cond_f hm rfl (Bool.eq_false_iff.2 hc_90) ?_
              refine wp_seq ?_
              refine wp_region_lit ?_
              refine s_move hm rfl rfl ?_
              clear hm a; intro a hm
              obtain ⟨t_132, et_132, H⟩ := Option.bind_eq_some_iff.1 H
              refine s_call hm rfl Try.call24 rfl (fifo_Pop.calls K x_24 _ t_132 w0 _ _ _ (Mem.le.refl _) (hS.enter [] (by decide)) (hr_26.mono (Mem.un_le (hA.trans (hS.le_zed [])) ((le_35.trans le_47).trans (hS.new_zed [])))) et_132) ?_
              rintro _ w_133 ⟨v_136, v_138, N_134, rfl, hS', hr_137, hr_139⟩
              clear hm a; intro a hm
              obtain ⟨N_135, hS'', le_135, ln_135⟩ := hS.call [] (by decide) rfl (l' := []) (ow := []) rfl hS'
              replace hS : Sep w0 w_133 [N_135, Mem.one g_42 (.cells ([.int .i64 0, .slice none 0 0, .int .i64 0] : List Value).toArray 27 (0, 0)), Mem.one g_44 (.cells ([.int .i64 0, .slice none 0 0, .int .i64 0] : List Value).toArray 27 (0, 0))] Z := hS''
              clear hS' hS''
              refine s_move hm rfl rfl ?_
              clear hm a; intro a hm
              refine s_extract hm rfl rfl rfl ?_
              clear hm a; intro a hm
              refine s_extract hm rfl rfl rfl ?_
              clear hm a; intro a hm
              refine s_assign hm rfl rfl ?_
              clear hm a; intro a hm
              obtain ⟨w_140, hs', hS'⟩ := hS.store (P := Try.prog) (p := 1) (o := 0) (t := 27) (v := .agg [.int .i64 t_132.2.Err, v_138, .int .i64 t_132.2.N].toArray) (vs := [.int .i64 t_132.2.Err, v_138, .int .i64 t_132.2.N]) rfl ti27 rfl rfl rfl (by intro u hu; simp only [List.mem_cons, List.not_mem_nil, or_false] at hu; rcases hu with rfl | rfl | rfl <;> first | rfl | exact (hr_139.mono ln_135).one)
              refine s_store hm rfl rfl hs' ?_
              replace hS : Sep w0 w_140 [N_135, Mem.one g_42 (.cells ([.int .i64 t_132.2.Err, v_138, .int .i64 t_132.2.N] : List Value).toArray 27 (0, 0)), Mem.one g_44 (.cells ([.int .i64 0, .slice none 0 0, .int .i64 0] : List Value).toArray 27 (0, 0))] Z := hS'
              clear hs' hS'
              refine wpList_nil ?_
              replace hm : Fr 96 a [(0, p0_0), (1, p1_1), (4, .bool false), (5, v_136), (6, v_28), (8, .int .i64 x_30), (9, .pointer (some ⟨g_42, 0, none⟩)), (10, .pointer (some ⟨g_44, 0, none⟩))] := hm.keep [0, 1, 4, 5, 6, 8, 9, 10]
              refine x_then_n ?_
              refine wp_region_lit ?_
              refine s_move hm rfl rfl ?_
              clear hm a; intro a hm
              obtain ⟨t_141, et_141, H⟩ := Option.bind_eq_some_iff.1 H
              refine s_call hm rfl Try.call27 rfl (hocketref4_Pop.calls K x_27 _ t_141 w0 _ _ _ (Mem.le.refl _) (hS.enter [] (by decide)) (hr_29.mono (Mem.un_le (hA.trans (hS.le_zed [])) ((le_35.trans (le_47.trans le_135)).trans (hS.new_zed [])))) et_141) ?_
              rintro _ w_142 ⟨v_145, v_149, N_143, M_147, M_151, rfl, hS', hr_146, hr_150⟩
              clear hm a; intro a hm
              obtain ⟨N_144, hS'', le_144, ln_144⟩ := hS.call [] (by decide) rfl (l' := []) (ow := [M_147, M_151]) rfl hS'
              replace hS : Sep w0 w_142 [N_144, Mem.one g_42 (.cells ([.int .i64 t_132.2.Err, v_138, .int .i64 t_132.2.N] : List Value).toArray 27 (0, 0)), Mem.one g_44 (.cells ([.int .i64 0, .slice none 0 0, .int .i64 0] : List Value).toArray 27 (0, 0)), M_147, M_151] Z := hS''
              clear hS' hS''
              refine s_move hm rfl rfl ?_
              clear hm a; intro a hm
              refine s_extract hm rfl rfl rfl ?_
              clear hm a; intro a hm
              refine s_extract hm rfl rfl rfl ?_
              clear hm a; intro a hm
              refine s_assign hm rfl rfl ?_
              clear hm a; intro a hm
              obtain ⟨w_153, hs', hS'⟩ := hS.store (P := Try.prog) (p := 2) (o := 0) (t := 27) (v := .agg [.int .i64 t_141.2.Err, v_149, .int .i64 t_141.2.N].toArray) (vs := [.int .i64 t_141.2.Err, v_149, .int .i64 t_141.2.N]) rfl ti27 rfl rfl rfl (by intro u hu; simp only [List.mem_cons, List.not_mem_nil, or_false] at hu; rcases hu with rfl | rfl | rfl <;> first | rfl | exact hr_150.one)
              refine s_store hm rfl rfl hs' ?_
              replace hS : Sep w0 w_153 [N_144, Mem.one g_42 (.cells ([.int .i64 t_132.2.Err, v_138, .int .i64 t_132.2.N] : List Value).toArray 27 (0, 0)), Mem.one g_44 (.cells ([.int .i64 t_141.2.Err, v_149, .int .i64 t_141.2.N] : List Value).toArray 27 (0, 0)), M_147, M_151] Z := hS'
              clear hs' hS'
              refine wpList_nil ?_
              replace hm : Fr 96 a [(0, p0_0), (1, p1_1), (4, .bool false), (5, v_136), (6, v_145), (8, .int .i64 x_30), (9, .pointer (some ⟨g_42, 0, none⟩)), (10, .pointer (some ⟨g_44, 0, none⟩))] := hm.keep [0, 1, 4, 5, 6, 8, 9, 10]
              replace hS : Sep w0 w_153 [N_144, Mem.one g_42 (.cells ([.int .i64 t_132.2.Err, v_138, .int .i64 t_132.2.N] : List Value).toArray 27 (0, 0)), Mem.one g_44 (.cells ([.int .i64 t_141.2.Err, v_149, .int .i64 t_141.2.N] : List Value).toArray 27 (0, 0)), M_147, M_151] Z := hS
              replace hm : Fr 96 a [(0, p0_0), (1, p1_1), (4, .bool false), (5, v_136), (6, v_145), (8, .int .i64 x_30), (9, .pointer (some ⟨g_42, 0, none⟩)), (10, .pointer (some ⟨g_44, 0, none⟩))] := hm.keep [0, 1, 4, 5, 6, 8, 9, 10]
              exact x_then_n (hJ_j_73 t_132.1 t_141.1 t_132.2.Err t_132.2.Val t_132.2.N t_141.2.Err t_141.2.Val t_141.2.N H _ _ ⟨v_136, v_145, v_138, v_149, N_144, M_147, M_151, hm, (Sep.sel hS [0, 1, 2, 3, 4] (by decide)), (le_135.trans le_144), ((hr_137.mono ln_135).mono le_144), ((hr_146.mono ln_144).mono (Mem.le.refl _)), ((hr_139.mono ln_135).mono le_144), hr_150⟩)
          clear hKJ_46
          refine wp_region_lit ?_
          refine s_move hm rfl rfl ?_
          clear hm a; intro a hm
          refine s_move hm rfl rfl ?_
          clear hm a; intro a hm
          obtain ⟨t_154, et_154, H⟩ := Option.bind_eq_some_iff.1 H
          refine v_index hm rfl Try.underlying44 ti3 rfl rfl rfl hp0_0 (hA.trans hS.old) et_154 ?_
          intro ad_155 cs_156 hk_157 hc_158
          obtain rfl := (show cs_156 = [.int .i64 t_154] from hk_157)
          clear hm a; intro a hm
          refine s_load hm rfl rfl (el_one (o := 0) hc_158 Try.underlying3 rfl rfl) ?_
          clear hm a; intro a hm
          refine s_bits (i := t_154) (j := 3) (r := band .i64 t_154 3) hm rfl rfl rfl (.inl ⟨rfl, rfl⟩) ?_
          clear hm a; intro a hm
          refine s_cmp (b := decide ((band .i64 t_154 3) < 2)) hm rfl rfl rfl (.inr (.inr (.inl ⟨rfl, rfl⟩))) ?_
          clear hm a; intro a hm
          refine s_move hm rfl rfl ?_
          clear hm a; intro a hm
          by_cases hc_159 : (band .i64 t_154 3) < 2
          · rw [if_pos hc_159] at H
            refine s_on hm rfl rfl (decide_eq_true hc_159) ?_
            refine s_move hm rfl rfl ?_
            clear hm a; intro a hm
            refine s_on hm rfl rfl (decide_eq_true hc_159) ?_
            refine s_len hm rfl Try.underlying37 rfl hp1_1 ?_
            clear hm a; intro a hm
            refine s_on hm rfl rfl (decide_eq_true hc_159) ?_
            refine s_cmp (b := decide ((x1.length : Int) > 0)) hm rfl rfl rfl (.inr (.inr (.inr (.inr (.inl ⟨rfl, rfl⟩))))) ?_
            clear hm a; intro a hm
            refine s_pick_t hm rfl rfl (decide_eq_true hc_159) rfl ?_
            clear hm a; intro a hm
            refine wpList_nil ?_
            replace hm : Fr 96 a [(0, p0_0), (1, p1_1), (4, .bool false), (5, v_25), (6, v_28), (8, .int .i64 x_30), (9, .pointer (some ⟨g_42, 0, none⟩)), (10, .pointer (some ⟨g_44, 0, none⟩)), (50, .bool (decide ((x1.length : Int) > 0)))] := hm.keep [0, 1, 4, 5, 6, 8, 9, 10, 50]
            replace hS : Sep w0 w_43 [N_35, Mem.one g_42 (.cells ([.int .i64 0, .slice none 0 0, .int .i64 0] : List Value).toArray 27 (0, 0)), Mem.one g_44 (.cells ([.int .i64 0, .slice none 0 0, .int .i64 0] : List Value).toArray 27 (0, 0))] Z := hS
            replace hm : Fr 96 a [(0, p0_0), (1, p1_1), (4, .bool false), (5, v_25), (6, v_28), (8, .int .i64 x_30), (9, .pointer (some ⟨g_42, 0, none⟩)), (10, .pointer (some ⟨g_44, 0, none⟩)), (50, .bool (decide ((x1.length : Int) > 0)))] := hm.keep [0, 1, 4, 5, 6, 8, 9, 10, 50]
            exact x_then_n (hJ_j_50 (decide ((x1.length : Int) > 0)) H _ _ ⟨N_35, hm, (Sep.sel hS [0, 1, 2] (by decide)), (Mem.le.refl _)⟩)
          · rw [if_neg hc_159] at H
            refine s_off hm rfl rfl rfl (decide_eq_false hc_159) ?_
            clear hm a; intro a hm
            refine s_off hm rfl rfl rfl (decide_eq_false hc_159) ?_
            clear hm a; intro a hm
            refine s_off hm rfl rfl rfl (decide_eq_false hc_159) ?_
            clear hm a; intro a hm
            refine s_pick_f hm rfl rfl (decide_eq_false hc_159) rfl ?_
            clear hm a; intro a hm
            refine wpList_nil ?_
            replace hm : Fr 96 a [(0, p0_0), (1, p1_1), (4, .bool false), (5, v_25), (6, v_28), (8, .int .i64 x_30), (9, .pointer (some ⟨g_42, 0, none⟩)), (10, .pointer (some ⟨g_44, 0, none⟩)), (50, .bool false)] := hm.keep [0, 1, 4, 5, 6, 8, 9, 10, 50]
            replace hS : Sep w0 w_43 [N_35, Mem.one g_42 (.cells ([.int .i64 0, .slice none 0 0, .int .i64 0] : List Value).toArray 27 (0, 0)), Mem.one g_44 (.cells ([.int .i64 0, .slice none 0 0, .int .i64 0] : List Value).toArray 27 (0, 0))] Z := hS
            replace hm : Fr 96 a [(0, p0_0), (1, p1_1), (4, .bool false), (5, v_25), (6, v_28), (8, .int .i64 x_30), (9, .pointer (some ⟨g_42, 0, none⟩)), (10, .pointer (some ⟨g_44, 0, none⟩)), (50, .bool false)] := hm.keep [0, 1, 4, 5, 6, 8, 9, 10, 50]
            exact x_then_n (hJ_j_50 false H _ _ ⟨N_35, hm, (Sep.sel hS [0, 1, 2] (by decide)), (Mem.le.refl _)⟩)
        · rw [if_neg hc_39] at H
          refine c_cond_f hm rfl (Bool.eq_false_iff.2 hc_39) ?_
          refine wp_exit (x_then_x (x_then_x (x_block_t ?_)))
          replace hS : Sep w0 w_37 [N_35] Z := hS
          replace hm : Fr 96 a [(4, .bool false)] := hm.keep [4]
          exact x_then_n (hJ_j_18  H _ _ ⟨N_35, hm, (Sep.sel hS [0] (by decide)), (le_23.trans le_35)⟩)
      clear hKJ_34
      refine wp_region_lit ?_
      refine s_move hm rfl rfl ?_
      clear hm a; intro a hm
      refine s_move hm rfl rfl ?_
      clear hm a; intro a hm
      refine s_len hm rfl Try.underlying44 rfl hp0_0 ?_
      clear hm a; intro a hm
      refine s_cmp (b := decide (x_30 < (x0.length : Int))) hm rfl rfl rfl (.inr (.inr (.inl ⟨rfl, rfl⟩))) ?_
      clear hm a; intro a hm
      refine s_move hm rfl rfl ?_
      clear hm a; intro a hm
      by_cases hc_160 : x_30 < (x0.length : Int)
      · rw [if_pos hc_160] at H
        refine s_on hm rfl rfl (decide_eq_true hc_160) ?_
        refine s_move hm rfl rfl ?_
        clear hm a; intro a hm
        refine s_on hm rfl rfl (decide_eq_true hc_160) ?_
        refine s_cmp (b := decide (x_30 < 40)) hm rfl rfl rfl (.inr (.inr (.inl ⟨rfl, rfl⟩))) ?_
        clear hm a; intro a hm
        refine s_pick_t hm rfl rfl (decide_eq_true hc_160) rfl ?_
        clear hm a; intro a hm
        refine wpList_nil ?_
        replace hm : Fr 96 a [(0, p0_0), (1, p1_1), (4, .bool false), (5, v_25), (6, v_28), (8, .int .i64 x_30), (37, .bool (decide (x_30 < 40)))] := hm.keep [0, 1, 4, 5, 6, 8, 37]
        replace hS : Sep w0 w_31 [N_23] Z := hS
        replace hm : Fr 96 a [(0, p0_0), (1, p1_1), (4, .bool false), (5, v_25), (6, v_28), (8, .int .i64 x_30), (37, .bool (decide (x_30 < 40)))] := hm.keep [0, 1, 4, 5, 6, 8, 37]
        exact x_then_n (hJ_j_38 (decide (x_30 < 40)) H _ _ ⟨N_23, hm, (Sep.sel hS [0] (by decide)), (Mem.le.refl _)⟩)
      · rw [if_neg hc_160] at H
        refine s_off hm rfl rfl rfl (decide_eq_false hc_160) ?_
        clear hm a; intro a hm
        refine s_off hm rfl rfl rfl (decide_eq_false hc_160) ?_
        clear hm a; intro a hm
        refine s_pick_f hm rfl rfl (decide_eq_false hc_160) rfl ?_
        clear hm a; intro a hm
        refine wpList_nil ?_
        replace hm : Fr 96 a [(0, p0_0), (1, p1_1), (4, .bool false), (5, v_25), (6, v_28), (8, .int .i64 x_30), (37, .bool false)] := hm.keep [0, 1, 4, 5, 6, 8, 37]
        replace hS : Sep w0 w_31 [N_23] Z := hS
        replace hm : Fr 96 a [(0, p0_0), (1, p1_1), (4, .bool false), (5, v_25), (6, v_28), (8, .int .i64 x_30), (37, .bool false)] := hm.keep [0, 1, 4, 5, 6, 8, 37]
        exact x_then_n (hJ_j_38 false H _ _ ⟨N_23, hm, (Sep.sel hS [0] (by decide)), (Mem.le.refl _)⟩)
    clear hKJ_11
    replace hS : Sep w0 w_9 [N_2] Z := hS
    replace hm : Fr 96 a [(0, p0_0), (1, p1_1), (4, .bool false), (5, v_4), (6, v_7), (18, .int .i64 (x1.length : Int)), (19, .int .i64 0)] := hm.keep [0, 1, 4, 5, 6, 18, 19]
    refine c_block ?_
    refine c_loop (fun k_163 a w_163 => ∃ (x_162 : Int) (N_161 : Mem), hocketlaw5_FifoPlays.l_163 K x1 (fun v => hocketlaw5_FifoPlays.j_14 K x0 x1 x_3 x_6) k_163 x_162 = some r ∧ Fr 96 a [(0, p0_0), (1, p1_1), (4, .bool false), (5, v_4), (6, v_7), (18, .int .i64 (x1.length : Int)), (19, .int .i64 x_162)] ∧ Sep w0 w_163 [N_161] Z ∧ N_2.le N_161) K ⟨0, N_2, H, hm, (Sep.sel hS [0] (by decide)), (Mem.le.refl _)⟩ (fun a w h => by obtain ⟨_, _, H, _⟩ := h; cases (show (none : Option (Unit)) = some r from H)) ?_
    clear hm hS a H
    rintro k_163 a w_163 KL_163 hKL_163 ⟨x_162, N_161, H, hm, hS, le_161⟩
    replace H : hocketlaw5_FifoPlays.b_163 K x1 (fun v => hocketlaw5_FifoPlays.j_14 K x0 x1 x_3 x_6) (hocketlaw5_FifoPlays.l_163 K x1 (fun v => hocketlaw5_FifoPlays.j_14 K x0 x1 x_3 x_6) k_163) x_162 = some r := H
    unfold hocketlaw5_FifoPlays.b_163 at H
    refine wp_seq ?_
    refine wp_region_lit ?_
    refine s_cmp (b := decide (x_162 < (x1.length : Int))) hm rfl rfl rfl (.inr (.inr (.inl ⟨rfl, rfl⟩))) ?_
    clear hm a; intro a hm
    refine wpList_nil ?_
    replace hm : Fr 96 a [(0, p0_0), (1, p1_1), (4, .bool false), (5, v_4), (6, v_7), (18, .int .i64 (x1.length : Int)), (19, .int .i64 x_162), (20, .bool (decide (x_162 < (x1.length : Int))))] := hm.keep [0, 1, 4, 5, 6, 18, 19, 20]
    refine x_then_n ?_
    refine c_seq fun KJ_165 hKJ_165 => ?_
    by_cases hc_166 : x_162 < (x1.length : Int)
    · rw [if_pos hc_166] at H
      refine c_cond_t hm rfl (decide_eq_true hc_166) ?_
      refine wp_skip ?_
      refine x_then_n (hKJ_165 _ _ ?_)
      refine c_seq fun KJ_167 hKJ_167 => ?_
      refine c_block ?_
      refine wp_seq ?_
      refine wp_region_lit ?_
      refine s_move hm rfl rfl ?_
      clear hm a; intro a hm
      refine s_assign hm rfl rfl ?_
      clear hm a; intro a hm
      refine wpList_nil ?_
      replace hm : Fr 96 a [(0, p0_0), (1, p1_1), (4, .bool false), (5, v_4), (6, v_7), (7, .int .i64 x_162), (18, .int .i64 (x1.length : Int)), (19, .int .i64 x_162)] := hm.keep [0, 1, 4, 5, 6, 7, 18, 19]
      refine x_then_n ?_
      refine wp_seq ?_
      refine wp_region_lit ?_
      refine s_move hm rfl rfl ?_
      clear hm a; intro a hm
      refine s_move hm rfl rfl ?_
      clear hm a; intro a hm
      obtain ⟨t_168, et_168, H⟩ := Option.bind_eq_some_iff.1 H
      refine v_index hm rfl Try.underlying37 ti25 rfl rfl rfl hp1_1 (hA.trans hS.old) et_168 ?_
      intro ad_169 cs_170 hk_171 hc_172
      obtain ⟨v_173, rfl, hr_174⟩ := hk_171
      clear hm a; intro a hm
      refine s_load hm rfl rfl (el_one (o := 0) hc_172 Try.underlying25 rfl rfl) ?_
      clear hm a; intro a hm
      refine s_len hm rfl Try.underlying25 rfl hr_174 ?_
      clear hm a; intro a hm
      refine s_cmp (b := decide ((t_168.length : Int) > 60)) hm rfl rfl rfl (.inr (.inr (.inr (.inr (.inl ⟨rfl, rfl⟩))))) ?_
      clear hm a; intro a hm
      refine wpList_nil ?_
      replace hm : Fr 96 a [(0, p0_0), (1, p1_1), (4, .bool false), (5, v_4), (6, v_7), (18, .int .i64 (x1.length : Int)), (19, .int .i64 x_162), (27, .bool (decide ((t_168.length : Int) > 60)))] := hm.keep [0, 1, 4, 5, 6, 18, 19, 27]
      refine x_then_n ?_
      by_cases hc_175 : (t_168.length : Int) > 60
      · rw [if_pos hc_175] at H
        refine c_cond_t hm rfl (decide_eq_true hc_175) ?_
        refine wp_seq ?_
        refine wp_region_lit ?_
        obtain ⟨t_176, et_176, H⟩ := Option.bind_eq_some_iff.1 H
        refine s_call hm rfl Try.call25 rfl (hocketlaw5_awake.calls K  t_176 w0 _ _ _ (Mem.le.refl _) (hS.enter [] (by decide))  et_176) ?_
        rintro _ w_177 ⟨N_178, rfl, hS'⟩
        clear hm a; intro a hm
        obtain ⟨N_179, hS'', le_179, ln_179⟩ := hS.call [] (by decide) rfl (l' := []) (ow := []) rfl hS'
        replace hS : Sep w0 w_177 [N_179] Z := hS''
        clear hS' hS''
        refine s_assign hm rfl rfl ?_
        clear hm a; intro a hm
        refine wpList_nil ?_
        replace hm : Fr 96 a [(0, p0_0), (1, p1_1), (4, .bool true), (5, v_4), (6, v_7), (18, .int .i64 (x1.length : Int)), (19, .int .i64 x_162)] := hm.keep [0, 1, 4, 5, 6, 18, 19]
        refine x_then_n ?_
        refine wp_ret (x_block_r (x_then_r (x_then_r (x_block_r (x_then_r ?_)))))
        exact f_ret hm (rs := [.tmp 4]) rfl (.tmp rfl .nil) ⟨_, rfl, N_179, rfl, (Sep.sel hS [0] (by decide))⟩
      · rw [if_neg hc_175] at H
        refine c_cond_f hm rfl (decide_eq_false hc_175) ?_
        refine wp_skip ?_
        refine x_block_n ?_
        refine x_then_n (hKJ_167 _ _ ?_)
        refine wp_region_lit ?_
        refine s_arith (r := w64 (x_162 + 1)) hm rfl rfl rfl (.inl ⟨rfl, rfl⟩) ?_
        clear hm a; intro a hm
        refine s_move hm rfl rfl ?_
        clear hm a; intro a hm
        refine wpList_nil ?_
        replace hm : Fr 96 a [(0, p0_0), (1, p1_1), (4, .bool false), (5, v_4), (6, v_7), (18, .int .i64 (x1.length : Int)), (19, .int .i64 (w64 (x_162 + 1)))] := hm.keep [0, 1, 4, 5, 6, 18, 19]
        refine x_then_n (hKL_163 _ _ ?_)
        replace hS : Sep w0 w_163 [N_161] Z := hS
        replace hm : Fr 96 a [(0, p0_0), (1, p1_1), (4, .bool false), (5, v_4), (6, v_7), (18, .int .i64 (x1.length : Int)), (19, .int .i64 (w64 (x_162 + 1)))] := hm.keep [0, 1, 4, 5, 6, 18, 19]
        exact ⟨w64 (x_162 + 1), N_161, H, hm, (Sep.sel hS [0] (by decide)), le_161⟩
    · rw [if_neg hc_166] at H
      refine c_cond_f hm rfl (decide_eq_false hc_166) ?_
      refine wp_exit (x_then_x (x_then_x (x_block_t ?_)))
      replace hS : Sep w0 w_163 [N_161] Z := hS
      replace hm : Fr 96 a [(0, p0_0), (1, p1_1), (4, .bool false), (5, v_4), (6, v_7)] := hm.keep [0, 1, 4, 5, 6]
      exact x_then_n (hJ_j_14  H _ _ ⟨N_161, hm, (Sep.sel hS [0] (by decide)), le_161⟩)
  clear hKJ_1
  by_cases hc_180 : (x1.length : Int) ≤ 12
  · rw [if_pos hc_180] at H
    refine c_cond_t hm rfl (decide_eq_true hc_180) ?_
    refine wp_region_lit ?_
    refine s_move hm rfl rfl ?_
    clear hm a; intro a hm
    refine s_move hm rfl rfl ?_
    clear hm a; intro a hm
    refine s_assign hm rfl rfl ?_
    clear hm a; intro a hm
    refine s_assign hm rfl rfl ?_
    clear hm a; intro a hm
    refine wpList_nil ?_
    replace hm : Fr 96 a [(0, p0_0), (1, p1_1), (4, .bool false), (5, p1_1), (6, p1_1)] := hm.keep [0, 1, 4, 5, 6]
    replace hS : Sep w0 w [Mem.no] Z := hS
    replace hm : Fr 96 a [(0, p0_0), (1, p1_1), (4, .bool false), (5, p1_1), (6, p1_1)] := hm.keep [0, 1, 4, 5, 6]
    exact x_then_n (hJ_j_10 x1 x1 H _ _ ⟨p1_1, p1_1, Mem.no, hm, (Sep.sel hS [0] (by decide)), (Mem.le.refl _), hp1_1, hp1_1⟩)
  · rw [if_neg hc_180] at H
    refine c_cond_f hm rfl (decide_eq_false hc_180) ?_
    refine wp_skip ?_
    replace hS : Sep w0 w [Mem.no] Z := hS
    replace hm : Fr 96 a [(0, p0_0), (1, p1_1), (4, .bool false), (5, .slice none 0 0), (6, .slice none 0 0)] := hm.keep [0, 1, 4, 5, 6]
    exact x_then_n (hJ_j_10 ([] : List (List UInt8)) ([] : List (List UInt8)) H _ _ ⟨.slice none 0 0, .slice none 0 0, Mem.no, hm, (Sep.sel hS [0] (by decide)), (Mem.le.refl _), (Rd.nil _ _), (Rd.nil _ _)⟩)


end Go.Proofs
