/- What the calls do: each function once. -/
import Derived.Test.YtbjefkmbpbdhbaaFacts
namespace Go.Proofs
open Go.Gp
set_option linter.unusedVariables false
set_option maxHeartbeats 4000000 in
theorem slices_Clone_sbyte_byte.calls (x0 : List UInt8) (p0_0 : Value) (r : List UInt8) (w0 w : World) (Z A : Mem) (hA : A.le Z) (hS : Sep w0 w [] Z) (hp0_0 : Rd Kd.u8 A p0_0 x0)
    (H : slices_Clone_sbyte_byte.f x0 = some r) :
    Calls Try.prog 42 [p0_0].toArray w (Ret fun v w' => ∃ (u0 : Value) (N : Mem) (M0 : Mem), v = u0 ∧ Sep w0 w' [N, M0] Z ∧ Own Kd.u8 5 M0 Mem.no u0 r) := by
  unfold slices_Clone_sbyte_byte.f at H
  refine f_enter _ Try.func42 rfl Try.ntmps42 rfl fun a hm => ?_
  replace hm : Fr 8 a [(0, p0_0)] := hm
  replace hS := hS.start
  replace hS : Sep w0 w [Mem.no] Z := hS
  refine wp_seq ?_
  refine wp_region_lit ?_
  refine s_assign hm rfl rfl ?_
  clear hm a; intro a hm
  refine wpList_nil ?_
  replace hm : Fr 8 a [(0, p0_0)] := hm.keep [0]
  refine x_then_n ?_
  refine c_seq fun KJ hKJ => ?_
  refine wp_seq ?_
  refine wp_region_lit ?_
  refine s_move hm rfl rfl ?_
  clear hm a; intro a hm
  refine s_slNil hm rfl Try.underlying25 rfl hp0_0 fun b hb => ?_
  clear hm a; intro a hm
  refine wpList_nil ?_
  refine x_then_n ?_
  cases b with
  | true =>
    have hx := hb rfl
    subst hx
    refine c_cond_t hm rfl rfl ?_
    refine wp_seq ?_
    refine wp_region_lit ?_
    refine s_assign hm rfl rfl ?_
    clear hm a; intro a hm
    refine wpList_nil ?_
    replace hm : Fr 8 a [(2, .slice none 0 0)] := hm.keep [2]
    refine x_then_n ?_
    refine wp_ret (x_then_r ?_)
    obtain rfl := (app_some H).2
    replace hS := hS.room
    exact f_ret hm (rs := [.tmp 2]) rfl (.tmp rfl .nil) ⟨_, rfl, _, Mem.no, Mem.no, rfl, hS, Own.nil _ _ _⟩
  | false =>
    refine c_cond_f hm rfl rfl ?_
    refine wp_skip ?_
    refine x_then_n (hKJ _ _ ?_)
    refine wp_seq ?_
    refine wp_region_lit ?_
    have hq5 : Reps Kd.u8 Mem.no ([] : List UInt8) _ := (Reps.nil Kd.u8 _)
    refine s_buildSlice hm rfl Try.underlying25 ti5 rfl rfl rfl .nil rfl rfl rfl hS hq5 rfl ?_
    intro w1 v2 M3 hS' ho4
    clear hm a; intro a hm
    replace hS : Sep w0 w1 [Mem.no, M3] Z := hS'
    clear hS' hq5
    refine s_move hm rfl rfl ?_
    clear hm a; intro a hm
    refine s_append (J := Mem.no) (I' := Mem.no) (p := 1) 140737488355328 hm rfl rfl rfl Try.underlying25 ti5 rfl rfl rfl rfl hS rfl ho4 (Src.flat flat_u8 (hp0_0.src (hA.trans hS.old))) (Mem.le.refl _) (Mem.le.refl _) H ?_
    intro w8 v9 M10 hS' ho11
    clear hm a; intro a hm
    refine s_assign hm rfl rfl ?_
    clear hm a; intro a hm
    refine wpList_nil ?_
    replace hm : Fr 8 a [(2, v9)] := hm.keep [2]
    refine x_then_n ?_
    refine wp_ret ?_
    exact f_ret hm (rs := [.tmp 2]) rfl (.tmp rfl .nil) ⟨_, rfl, _, Mem.no, M10, rfl, hS', ho11⟩

set_option maxHeartbeats 4000000 in
set_option maxRecDepth 20000 in
theorem regs_Write.calls (x0 : List UInt8) (p0_0 : Value) (x1 : List UInt8) (p1_1 : Value) (r : (List UInt8) × api_Result) (w0 w : World) (Z A : Mem) (hA : A.le Z) (hS : Sep w0 w [] Z) (hp0_0 : Rd Kd.u8 A p0_0 x0) (hp1_1 : Rd Kd.u8 A p1_1 x1)
    (H : regs_Write.f x0 x1 = some r) :
    Calls Try.prog 15 [p0_0, p1_1].toArray w (Ret fun v w' => ∃ (u0 : Value) (u1 : Value) (N : Mem) (M0 : Mem) (M1 : Mem), v = .tuple [u0, .agg [.int .i64 r.2.Err, u1, .int .i64 r.2.N].toArray].toArray ∧ Sep w0 w' [N, M0, M1] Z ∧ Own Kd.u8 5 M0 Mem.no u0 r.1 ∧ Own Kd.u8 5 M1 Mem.no u1 r.2.Val) := by
  unfold regs_Write.f at H
  refine f_enter _ Try.func15 rfl Try.ntmps15 rfl fun a hm => ?_
  replace hm : Fr 15 a [(0, p0_0), (1, p1_1)] := hm
  replace hS := hS.start
  replace hS : Sep w0 w [Mem.no] Z := hS
  refine wp_seq ?_
  refine wp_region_lit ?_
  refine s_assign hm rfl rfl ?_
  clear hm a; intro a hm
  refine v_alloc hm rfl ti27 hS ?_
  intro w_1 g_2 hS'
  clear hm a; intro a hm
  replace hS : Sep w0 w_1 [Mem.no, Mem.one g_2 (.cells ([.int .i64 0, .slice none 0 0, .int .i64 0] : List Value).toArray 27 (0, 0))] Z := hS'
  clear hS'
  refine wpList_nil ?_
  replace hm : Fr 15 a [(0, p0_0), (1, p1_1), (4, .slice none 0 0), (5, .pointer (some ⟨g_2, 0, none⟩))] := hm.keep [0, 1, 4, 5]
  refine x_then_n ?_
  refine c_seq fun KJ_3 hKJ_3 => ?_
  refine wp_seq ?_
  refine wp_region_lit ?_
  refine s_move hm rfl rfl ?_
  clear hm a; intro a hm
  refine s_len hm rfl Try.underlying25 rfl hp1_1 ?_
  clear hm a; intro a hm
  refine s_cmp (b := decide ((x1.length : Int) > 16)) hm rfl rfl rfl (.inr (.inr (.inr (.inr (.inl ⟨rfl, rfl⟩))))) ?_
  clear hm a; intro a hm
  refine wpList_nil ?_
  replace hm : Fr 15 a [(0, p0_0), (1, p1_1), (4, .slice none 0 0), (5, .pointer (some ⟨g_2, 0, none⟩)), (8, .bool (decide ((x1.length : Int) > 16)))] := hm.keep [0, 1, 4, 5, 8]
  refine x_then_n ?_
  by_cases hc_4 : (x1.length : Int) > 16
  · rw [if_pos hc_4] at H
    refine c_cond_t hm rfl (decide_eq_true hc_4) ?_
    refine wp_seq ?_
    refine wp_region_lit ?_
    refine s_move hm rfl rfl ?_
    clear hm a; intro a hm
    obtain ⟨t_5, et_5, H⟩ := Option.bind_eq_some_iff.1 H
    refine s_call hm rfl Try.call42 rfl (slices_Clone_sbyte_byte.calls x0 _ t_5 w0 _ _ _ (Mem.le.refl _) (hS.enter [] (by decide)) (hp0_0.mono (hA.trans (hS.le_zed []))) et_5) ?_
    rintro v_9 w_6 ⟨_, N_7, M_11, rfl, hS', hr_10⟩
    clear hm a; intro a hm
    obtain ⟨N_8, hS'', le_8, ln_8⟩ := hS.call [] (by decide) rfl (l' := []) (ow := [M_11]) rfl hS'
    replace hS : Sep w0 w_6 [N_8, Mem.one g_2 (.cells ([.int .i64 0, .slice none 0 0, .int .i64 0] : List Value).toArray 27 (0, 0)), M_11] Z := hS''
    clear hS' hS''
    refine s_build hm rfl ti27 pl27 rfl (.cons rfl .nil) (cs := [.int .i64 1, .slice none 0 0, .int .i64 0]) rfl ?_
    clear hm a; intro a hm
    refine s_assign hm rfl rfl ?_
    clear hm a; intro a hm
    obtain ⟨w_13, hs', hS'⟩ := hS.store (P := Try.prog) (p := 1) (o := 0) (t := 27) (v := .agg [.int .i64 1, .slice none 0 0, .int .i64 0].toArray) (vs := [.int .i64 1, .slice none 0 0, .int .i64 0]) rfl ti27 rfl rfl rfl (by intro u hu; simp only [List.mem_cons, List.not_mem_nil, or_false] at hu; rcases hu with rfl | rfl | rfl <;> rfl)
    refine s_store hm rfl rfl hs' ?_
    replace hS : Sep w0 w_13 [N_8, Mem.one g_2 (.cells ([.int .i64 1, .slice none 0 0, .int .i64 0] : List Value).toArray 27 (0, 0)), M_11] Z := hS'
    clear hs' hS'
    refine wpList_nil ?_
    replace hm : Fr 15 a [(1, p1_1), (4, v_9), (5, .pointer (some ⟨g_2, 0, none⟩))] := hm.keep [1, 4, 5]
    refine x_then_n ?_
    refine wp_ret (x_then_r ?_)
    have hS' := hS.room
    replace hS : Sep w0 w_13 [N_8, Mem.one g_2 (.cells ([.int .i64 1, .slice none 0 0, .int .i64 0] : List Value).toArray 27 (0, 0)), M_11, Mem.no] Z := hS'
    clear hS'
    replace hS : Sep w0 w_13 [N_8, Mem.one g_2 (.cells ([.int .i64 1, .slice none 0 0, .int .i64 0] : List Value).toArray 27 (0, 0)), M_11, Mem.no] Z := hS
    obtain rfl := Option.some.inj H
    exact f_ret hm (rs := [.tmp 4, .cell 5 27]) rfl (.tmp rfl (.cell rfl (hS.load_agg (p := 1) (us := [.int .i64 1, .slice none 0 0, .int .i64 0]) rfl Try.underlying27 rfl ti27 rfl rfl) .nil)) ⟨_, rfl, v_9, .slice none 0 0, N_8, M_11, Mem.no, rfl, (Sep.sel hS [0, 2, 3] (by decide)), hr_10, (Own.nil Kd.u8 5 Mem.no)⟩
  · rw [if_neg hc_4] at H
    refine c_cond_f hm rfl (decide_eq_false hc_4) ?_
    refine wp_skip ?_
    refine x_then_n (hKJ_3 _ _ ?_)
    refine wp_seq ?_
    refine wp_region_lit ?_
    refine s_move hm rfl rfl ?_
    clear hm a; intro a hm
    obtain ⟨t_15, et_15, H⟩ := Option.bind_eq_some_iff.1 H
    refine s_call hm rfl Try.call42 rfl (slices_Clone_sbyte_byte.calls x1 _ t_15 w0 _ _ _ (Mem.le.refl _) (hS.enter [] (by decide)) (hp1_1.mono (hA.trans (hS.le_zed []))) et_15) ?_
    rintro v_19 w_16 ⟨_, N_17, M_21, rfl, hS', hr_20⟩
    clear hm a; intro a hm
    obtain ⟨N_18, hS'', le_18, ln_18⟩ := hS.call [] (by decide) rfl (l' := []) (ow := [M_21]) rfl hS'
    replace hS : Sep w0 w_16 [N_18, Mem.one g_2 (.cells ([.int .i64 0, .slice none 0 0, .int .i64 0] : List Value).toArray 27 (0, 0)), M_21] Z := hS''
    clear hS' hS''
    refine s_build hm rfl ti27 pl27 rfl .nil (cs := [.int .i64 0, .slice none 0 0, .int .i64 0]) rfl ?_
    clear hm a; intro a hm
    refine s_assign hm rfl rfl ?_
    clear hm a; intro a hm
    obtain ⟨w_23, hs', hS'⟩ := hS.store (P := Try.prog) (p := 1) (o := 0) (t := 27) (v := .agg [.int .i64 0, .slice none 0 0, .int .i64 0].toArray) (vs := [.int .i64 0, .slice none 0 0, .int .i64 0]) rfl ti27 rfl rfl rfl (by intro u hu; simp only [List.mem_cons, List.not_mem_nil, or_false] at hu; rcases hu with rfl | rfl | rfl <;> rfl)
    refine s_store hm rfl rfl hs' ?_
    replace hS : Sep w0 w_23 [N_18, Mem.one g_2 (.cells ([.int .i64 0, .slice none 0 0, .int .i64 0] : List Value).toArray 27 (0, 0)), M_21] Z := hS'
    clear hs' hS'
    refine wpList_nil ?_
    replace hm : Fr 15 a [(4, v_19), (5, .pointer (some ⟨g_2, 0, none⟩))] := hm.keep [4, 5]
    refine x_then_n ?_
    refine wp_ret ?_
    have hS' := hS.room
    replace hS : Sep w0 w_23 [N_18, Mem.one g_2 (.cells ([.int .i64 0, .slice none 0 0, .int .i64 0] : List Value).toArray 27 (0, 0)), M_21, Mem.no] Z := hS'
    clear hS'
    replace hS : Sep w0 w_23 [N_18, Mem.one g_2 (.cells ([.int .i64 0, .slice none 0 0, .int .i64 0] : List Value).toArray 27 (0, 0)), M_21, Mem.no] Z := hS
    obtain rfl := Option.some.inj H
    exact f_ret hm (rs := [.tmp 4, .cell 5 27]) rfl (.tmp rfl (.cell rfl (hS.load_agg (p := 1) (us := [.int .i64 0, .slice none 0 0, .int .i64 0]) rfl Try.underlying27 rfl ti27 rfl rfl) .nil)) ⟨_, rfl, v_19, .slice none 0 0, N_18, M_21, Mem.no, rfl, (Sep.sel hS [0, 2, 3] (by decide)), hr_20, (Own.nil Kd.u8 5 Mem.no)⟩

set_option maxHeartbeats 4000000 in
set_option maxRecDepth 20000 in
theorem bytes_Equal.calls (x0 : List UInt8) (p0_0 : Value) (x1 : List UInt8) (p1_1 : Value) (r : Bool) (w0 w : World) (Z A : Mem) (hA : A.le Z) (hS : Sep w0 w [] Z) (hp0_0 : Rd Kd.u8 A p0_0 x0) (hp1_1 : Rd Kd.u8 A p1_1 x1)
    (H : bytes_Equal.f x0 x1 = some r) :
    Calls Try.prog 41 [p0_0, p1_1].toArray w (Ret fun v w' => ∃ (N : Mem), v = .bool r ∧ Sep w0 w' [N] Z) := by
  unfold bytes_Equal.f at H
  refine f_enter _ Try.func41 rfl Try.ntmps41 rfl fun a hm => ?_
  replace hm : Fr 10 a [(0, p0_0), (1, p1_1)] := hm
  replace hS := hS.start
  replace hS : Sep w0 w [Mem.no] Z := hS
  refine wp_seq ?_
  refine wp_region_lit ?_
  refine s_assign hm rfl rfl ?_
  clear hm a; intro a hm
  refine wpList_nil ?_
  replace hm : Fr 10 a [(0, p0_0), (1, p1_1), (4, .bool false)] := hm.keep [0, 1, 4]
  refine x_then_n ?_
  refine wp_seq ?_
  refine wp_region_lit ?_
  refine s_move hm rfl rfl ?_
  clear hm a; intro a hm
  refine s_b2s hm rfl Try.underlying25 Try.underlying5 Try.underlying9 rfl hp0_0 (hA.trans hS.old) ?_
  clear hm a; intro a hm
  refine s_move hm rfl rfl ?_
  clear hm a; intro a hm
  refine s_b2s hm rfl Try.underlying25 Try.underlying5 Try.underlying9 rfl hp1_1 (hA.trans hS.old) ?_
  clear hm a; intro a hm
  refine s_strEq (b := (x0 == x1)) hm rfl rfl rfl (.inl ⟨rfl, rfl⟩) ?_
  clear hm a; intro a hm
  refine s_assign hm rfl rfl ?_
  clear hm a; intro a hm
  refine wpList_nil ?_
  replace hm : Fr 10 a [(4, .bool (x0 == x1))] := hm.keep [4]
  refine x_then_n ?_
  refine wp_ret ?_
  obtain rfl := Option.some.inj H
  exact f_ret hm (rs := [.tmp 4]) rfl (.tmp rfl .nil) ⟨_, rfl, Mem.no, rfl, (Sep.sel hS [0] (by decide))⟩

set_option maxHeartbeats 4000000 in
set_option maxRecDepth 20000 in
theorem regs_Cas.calls (x0 : List UInt8) (p0_0 : Value) (x1 : List UInt8) (p1_1 : Value) (x2 : List UInt8) (p2_2 : Value) (r : (List UInt8) × api_Result) (w0 w : World) (Z A : Mem) (hA : A.le Z) (hS : Sep w0 w [] Z) (hp0_0 : Rd Kd.u8 A p0_0 x0) (hp1_1 : Rd Kd.u8 A p1_1 x1) (hp2_2 : Rd Kd.u8 A p2_2 x2)
    (H : regs_Cas.f x0 x1 x2 = some r) :
    Calls Try.prog 14 [p0_0, p1_1, p2_2].toArray w (Ret fun v w' => ∃ (u0 : Value) (u1 : Value) (N : Mem) (M0 : Mem) (M1 : Mem), v = .tuple [u0, .agg [.int .i64 r.2.Err, u1, .int .i64 r.2.N].toArray].toArray ∧ Sep w0 w' [N, M0, M1] Z ∧ Own Kd.u8 5 M0 Mem.no u0 r.1 ∧ Own Kd.u8 5 M1 Mem.no u1 r.2.Val) := by
  unfold regs_Cas.f at H
  refine f_enter _ Try.func14 rfl Try.ntmps14 rfl fun a hm => ?_
  replace hm : Fr 27 a [(0, p0_0), (1, p1_1), (2, p2_2)] := hm
  replace hS := hS.start
  replace hS : Sep w0 w [Mem.no] Z := hS
  refine wp_seq ?_
  refine wp_region_lit ?_
  refine s_assign hm rfl rfl ?_
  clear hm a; intro a hm
  refine v_alloc hm rfl ti27 hS ?_
  intro w_1 g_2 hS'
  clear hm a; intro a hm
  replace hS : Sep w0 w_1 [Mem.no, Mem.one g_2 (.cells ([.int .i64 0, .slice none 0 0, .int .i64 0] : List Value).toArray 27 (0, 0))] Z := hS'
  clear hS'
  refine wpList_nil ?_
  replace hm : Fr 27 a [(0, p0_0), (1, p1_1), (2, p2_2), (6, .slice none 0 0), (7, .pointer (some ⟨g_2, 0, none⟩))] := hm.keep [0, 1, 2, 6, 7]
  refine x_then_n ?_
  refine c_seq fun KJ_3 hKJ_3 => ?_
  refine c_seq fun KJ_4 hKJ_4 => ?_
  have hJ_j_8 : ∀ (x_6 : Bool), regs_Cas.j_8 x0 x2 x_6 = some r → ∀ (a : Act) (w_7 : World), (∃ (N_5 : Mem), Fr 27 a [(0, p0_0), (2, p2_2), (6, .slice none 0 0), (7, .pointer (some ⟨g_2, 0, none⟩)), (16, .bool x_6)] ∧ Sep w0 w_7 [N_5, Mem.one g_2 (.cells ([.int .i64 0, .slice none 0 0, .int .i64 0] : List Value).toArray 27 (0, 0))] Z ∧ Mem.no.le N_5) → KJ_4 a w_7 := by
    clear H hm hS a
    rintro x_6 H a w_7 ⟨N_5, hm, hS, le_5⟩
    unfold regs_Cas.j_8 at H
    refine hKJ_4 _ _ ?_
    by_cases hc_9 : x_6 = true
    · rw [if_pos hc_9] at H
      refine c_cond_t hm rfl hc_9 ?_
      refine wp_seq ?_
      refine wp_region_lit ?_
      refine s_move hm rfl rfl ?_
      clear hm a; intro a hm
      obtain ⟨t_10, et_10, H⟩ := Option.bind_eq_some_iff.1 H
      refine s_call hm rfl Try.call42 rfl (slices_Clone_sbyte_byte.calls x0 _ t_10 w0 _ _ _ (Mem.le.refl _) (hS.enter [] (by decide)) (hp0_0.mono (hA.trans (hS.le_zed []))) et_10) ?_
      rintro v_14 w_11 ⟨_, N_12, M_16, rfl, hS', hr_15⟩
      clear hm a; intro a hm
      obtain ⟨N_13, hS'', le_13, ln_13⟩ := hS.call [] (by decide) rfl (l' := []) (ow := [M_16]) rfl hS'
      replace hS : Sep w0 w_11 [N_13, Mem.one g_2 (.cells ([.int .i64 0, .slice none 0 0, .int .i64 0] : List Value).toArray 27 (0, 0)), M_16] Z := hS''
      clear hS' hS''
      refine s_move hm rfl rfl ?_
      clear hm a; intro a hm
      obtain ⟨t_18, et_18, H⟩ := Option.bind_eq_some_iff.1 H
      refine s_call hm rfl Try.call42 rfl (slices_Clone_sbyte_byte.calls x0 _ t_18 w0 _ _ _ (Mem.le.refl _) (hS.enter [] (by decide)) (hp0_0.mono (hA.trans (hS.le_zed []))) et_18) ?_
      rintro v_22 w_19 ⟨_, N_20, M_24, rfl, hS', hr_23⟩
      clear hm a; intro a hm
      obtain ⟨N_21, hS'', le_21, ln_21⟩ := hS.call [] (by decide) rfl (l' := []) (ow := [M_24]) rfl hS'
      replace hS : Sep w0 w_19 [N_21, Mem.one g_2 (.cells ([.int .i64 0, .slice none 0 0, .int .i64 0] : List Value).toArray 27 (0, 0)), M_16, M_24] Z := hS''
      clear hS' hS''
      refine s_build hm rfl ti27 pl27 rfl (.cons rfl (.cons hr_23.cells .nil)) (cs := [.int .i64 2, v_22, .int .i64 0]) rfl ?_
      clear hm a; intro a hm
      refine s_assign hm rfl rfl ?_
      clear hm a; intro a hm
      obtain ⟨w_26, hs', hS'⟩ := hS.store (P := Try.prog) (p := 1) (o := 0) (t := 27) (v := .agg [.int .i64 2, v_22, .int .i64 0].toArray) (vs := [.int .i64 2, v_22, .int .i64 0]) rfl ti27 rfl rfl rfl (by intro u hu; simp only [List.mem_cons, List.not_mem_nil, or_false] at hu; rcases hu with rfl | rfl | rfl <;> first | rfl | exact hr_23.one)
      refine s_store hm rfl rfl hs' ?_
      replace hS : Sep w0 w_26 [N_21, Mem.one g_2 (.cells ([.int .i64 2, v_22, .int .i64 0] : List Value).toArray 27 (0, 0)), M_16, M_24] Z := hS'
      clear hs' hS'
      refine wpList_nil ?_
      replace hm : Fr 27 a [(0, p0_0), (2, p2_2), (6, v_14), (7, .pointer (some ⟨g_2, 0, none⟩))] := hm.keep [0, 2, 6, 7]
      refine x_then_n ?_
      refine wp_ret (x_then_r ?_)
      obtain rfl := Option.some.inj H
      exact f_ret hm (rs := [.tmp 6, .cell 7 27]) rfl (.tmp rfl (.cell rfl (hS.load_agg (p := 1) (us := [.int .i64 2, v_22, .int .i64 0]) rfl Try.underlying27 rfl ti27 rfl rfl) .nil)) ⟨_, rfl, v_14, v_22, N_21, M_16, M_24, rfl, (Sep.sel hS [0, 2, 3] (by decide)), hr_15, hr_23⟩
    · rw [if_neg hc_9] at H
      refine c_cond_f hm rfl (Bool.eq_false_iff.2 hc_9) ?_
      refine wp_skip ?_
      refine x_then_n (hKJ_3 _ _ ?_)
      refine wp_seq ?_
      refine wp_region_lit ?_
      refine s_move hm rfl rfl ?_
      clear hm a; intro a hm
      refine s_move hm rfl rfl ?_
      clear hm a; intro a hm
      obtain ⟨t_27, et_27, H⟩ := Option.bind_eq_some_iff.1 H
      refine s_call hm rfl Try.call15 rfl (regs_Write.calls x0 _ x2 _ t_27 w0 _ _ _ (Mem.le.refl _) (hS.enter [] (by decide)) (hp0_0.mono (hA.trans (hS.le_zed []))) (hp2_2.mono (hA.trans (hS.le_zed []))) et_27) ?_
      rintro _ w_28 ⟨v_31, v_35, N_29, M_33, M_37, rfl, hS', hr_32, hr_36⟩
      clear hm a; intro a hm
      obtain ⟨N_30, hS'', le_30, ln_30⟩ := hS.call [] (by decide) rfl (l' := []) (ow := [M_33, M_37]) rfl hS'
      replace hS : Sep w0 w_28 [N_30, Mem.one g_2 (.cells ([.int .i64 0, .slice none 0 0, .int .i64 0] : List Value).toArray 27 (0, 0)), M_33, M_37] Z := hS''
      clear hS' hS''
      refine s_extract hm rfl rfl rfl ?_
      clear hm a; intro a hm
      refine s_extract hm rfl rfl rfl ?_
      clear hm a; intro a hm
      refine s_assign hm rfl rfl ?_
      clear hm a; intro a hm
      obtain ⟨w_39, hs', hS'⟩ := hS.store (P := Try.prog) (p := 1) (o := 0) (t := 27) (v := .agg [.int .i64 t_27.2.Err, v_35, .int .i64 t_27.2.N].toArray) (vs := [.int .i64 t_27.2.Err, v_35, .int .i64 t_27.2.N]) rfl ti27 rfl rfl rfl (by intro u hu; simp only [List.mem_cons, List.not_mem_nil, or_false] at hu; rcases hu with rfl | rfl | rfl <;> first | rfl | exact hr_36.one)
      refine s_store hm rfl rfl hs' ?_
      replace hS : Sep w0 w_39 [N_30, Mem.one g_2 (.cells ([.int .i64 t_27.2.Err, v_35, .int .i64 t_27.2.N] : List Value).toArray 27 (0, 0)), M_33, M_37] Z := hS'
      clear hs' hS'
      refine wpList_nil ?_
      replace hm : Fr 27 a [(6, v_31), (7, .pointer (some ⟨g_2, 0, none⟩))] := hm.keep [6, 7]
      refine x_then_n ?_
      refine wp_ret ?_
      obtain rfl := Option.some.inj H
      exact f_ret hm (rs := [.tmp 6, .cell 7 27]) rfl (.tmp rfl (.cell rfl (hS.load_agg (p := 1) (us := [.int .i64 t_27.2.Err, v_35, .int .i64 t_27.2.N]) rfl Try.underlying27 rfl ti27 rfl rfl) .nil)) ⟨_, rfl, v_31, v_35, N_30, M_33, M_37, rfl, (Sep.sel hS [0, 2, 3] (by decide)), hr_32, hr_36⟩
  clear hKJ_4
  refine wp_region_lit ?_
  refine s_move hm rfl rfl ?_
  clear hm a; intro a hm
  refine s_len hm rfl Try.underlying25 rfl hp2_2 ?_
  clear hm a; intro a hm
  refine s_cmp (b := decide ((x2.length : Int) ≤ 16)) hm rfl rfl rfl (.inr (.inr (.inr (.inl ⟨rfl, rfl⟩)))) ?_
  clear hm a; intro a hm
  refine s_move hm rfl rfl ?_
  clear hm a; intro a hm
  by_cases hc_40 : (x2.length : Int) ≤ 16
  · rw [if_pos hc_40] at H
    refine s_on hm rfl rfl (decide_eq_true hc_40) ?_
    refine s_move hm rfl rfl ?_
    clear hm a; intro a hm
    refine s_on hm rfl rfl (decide_eq_true hc_40) ?_
    refine s_move hm rfl rfl ?_
    clear hm a; intro a hm
    refine s_on hm rfl rfl (decide_eq_true hc_40) ?_
    obtain ⟨t_41, et_41, H⟩ := Option.bind_eq_some_iff.1 H
    refine s_call hm rfl Try.call41 rfl (bytes_Equal.calls x0 _ x1 _ t_41 w0 _ _ _ (Mem.le.refl _) (hS.enter [] (by decide)) (hp0_0.mono (hA.trans (hS.le_zed []))) (hp1_1.mono (hA.trans (hS.le_zed []))) et_41) ?_
    rintro _ w_42 ⟨N_43, rfl, hS'⟩
    clear hm a; intro a hm
    obtain ⟨N_44, hS'', le_44, ln_44⟩ := hS.call [] (by decide) rfl (l' := []) (ow := []) rfl hS'
    replace hS : Sep w0 w_42 [N_44, Mem.one g_2 (.cells ([.int .i64 0, .slice none 0 0, .int .i64 0] : List Value).toArray 27 (0, 0))] Z := hS''
    clear hS' hS''
    refine s_on hm rfl rfl (decide_eq_true hc_40) ?_
    refine s_not hm rfl rfl ?_
    clear hm a; intro a hm
    refine s_pick_t hm rfl rfl (decide_eq_true hc_40) rfl ?_
    clear hm a; intro a hm
    refine wpList_nil ?_
    replace hm : Fr 27 a [(0, p0_0), (2, p2_2), (6, .slice none 0 0), (7, .pointer (some ⟨g_2, 0, none⟩)), (16, .bool (!t_41))] := hm.keep [0, 2, 6, 7, 16]
    replace hS : Sep w0 w_42 [N_44, Mem.one g_2 (.cells ([.int .i64 0, .slice none 0 0, .int .i64 0] : List Value).toArray 27 (0, 0))] Z := hS
    replace hm : Fr 27 a [(0, p0_0), (2, p2_2), (6, .slice none 0 0), (7, .pointer (some ⟨g_2, 0, none⟩)), (16, .bool (!t_41))] := hm.keep [0, 2, 6, 7, 16]
    exact x_then_n (hJ_j_8 (!t_41) H _ _ ⟨N_44, hm, (Sep.sel hS [0, 1] (by decide)), le_44⟩)
  · rw [if_neg hc_40] at H
    refine s_off hm rfl rfl rfl (decide_eq_false hc_40) ?_
    clear hm a; intro a hm
    refine s_off hm rfl rfl rfl (decide_eq_false hc_40) ?_
    clear hm a; intro a hm
    refine s_off hm rfl rfl rfl (decide_eq_false hc_40) ?_
    clear hm a; intro a hm
    refine s_off hm rfl rfl rfl (decide_eq_false hc_40) ?_
    clear hm a; intro a hm
    refine s_pick_f hm rfl rfl (decide_eq_false hc_40) rfl ?_
    clear hm a; intro a hm
    refine wpList_nil ?_
    replace hm : Fr 27 a [(0, p0_0), (2, p2_2), (6, .slice none 0 0), (7, .pointer (some ⟨g_2, 0, none⟩)), (16, .bool false)] := hm.keep [0, 2, 6, 7, 16]
    replace hS : Sep w0 w_1 [Mem.no, Mem.one g_2 (.cells ([.int .i64 0, .slice none 0 0, .int .i64 0] : List Value).toArray 27 (0, 0))] Z := hS
    replace hm : Fr 27 a [(0, p0_0), (2, p2_2), (6, .slice none 0 0), (7, .pointer (some ⟨g_2, 0, none⟩)), (16, .bool false)] := hm.keep [0, 2, 6, 7, 16]
    exact x_then_n (hJ_j_8 false H _ _ ⟨Mem.no, hm, (Sep.sel hS [0, 1] (by decide)), (Mem.le.refl _)⟩)

set_option maxHeartbeats 4000000 in
set_option maxRecDepth 20000 in
theorem regs_Read.calls (x0 : List UInt8) (p0_0 : Value) (r : api_Result) (w0 w : World) (Z A : Mem) (hA : A.le Z) (hS : Sep w0 w [] Z) (hp0_0 : Rd Kd.u8 A p0_0 x0)
    (H : regs_Read.f x0 = some r) :
    Calls Try.prog 20 [p0_0].toArray w (Ret fun v w' => ∃ (u0 : Value) (N : Mem) (M0 : Mem), v = .agg [.int .i64 r.Err, u0, .int .i64 r.N].toArray ∧ Sep w0 w' [N, M0] Z ∧ Own Kd.u8 5 M0 Mem.no u0 r.Val) := by
  unfold regs_Read.f at H
  refine f_enter _ Try.func20 rfl Try.ntmps20 rfl fun a hm => ?_
  replace hm : Fr 6 a [(0, p0_0)] := hm
  replace hS := hS.start
  replace hS : Sep w0 w [Mem.no] Z := hS
  refine wp_seq ?_
  refine wp_region_lit ?_
  refine v_alloc hm rfl ti27 hS ?_
  intro w_1 g_2 hS'
  clear hm a; intro a hm
  replace hS : Sep w0 w_1 [Mem.no, Mem.one g_2 (.cells ([.int .i64 0, .slice none 0 0, .int .i64 0] : List Value).toArray 27 (0, 0))] Z := hS'
  clear hS'
  refine wpList_nil ?_
  replace hm : Fr 6 a [(0, p0_0), (2, .pointer (some ⟨g_2, 0, none⟩))] := hm.keep [0, 2]
  refine x_then_n ?_
  refine wp_seq ?_
  refine wp_region_lit ?_
  refine s_move hm rfl rfl ?_
  clear hm a; intro a hm
  obtain ⟨t_3, et_3, H⟩ := Option.bind_eq_some_iff.1 H
  refine s_call hm rfl Try.call42 rfl (slices_Clone_sbyte_byte.calls x0 _ t_3 w0 _ _ _ (Mem.le.refl _) (hS.enter [] (by decide)) (hp0_0.mono (hA.trans (hS.le_zed []))) et_3) ?_
  rintro v_7 w_4 ⟨_, N_5, M_9, rfl, hS', hr_8⟩
  clear hm a; intro a hm
  obtain ⟨N_6, hS'', le_6, ln_6⟩ := hS.call [] (by decide) rfl (l' := []) (ow := [M_9]) rfl hS'
  replace hS : Sep w0 w_4 [N_6, Mem.one g_2 (.cells ([.int .i64 0, .slice none 0 0, .int .i64 0] : List Value).toArray 27 (0, 0)), M_9] Z := hS''
  clear hS' hS''
  refine s_build hm rfl ti27 pl27 rfl (.cons hr_8.cells .nil) (cs := [.int .i64 0, v_7, .int .i64 0]) rfl ?_
  clear hm a; intro a hm
  obtain ⟨w_11, hs', hS'⟩ := hS.store (P := Try.prog) (p := 1) (o := 0) (t := 27) (v := .agg [.int .i64 0, v_7, .int .i64 0].toArray) (vs := [.int .i64 0, v_7, .int .i64 0]) rfl ti27 rfl rfl rfl (by intro u hu; simp only [List.mem_cons, List.not_mem_nil, or_false] at hu; rcases hu with rfl | rfl | rfl <;> first | rfl | exact hr_8.one)
  refine s_store hm rfl rfl hs' ?_
  replace hS : Sep w0 w_11 [N_6, Mem.one g_2 (.cells ([.int .i64 0, v_7, .int .i64 0] : List Value).toArray 27 (0, 0)), M_9] Z := hS'
  clear hs' hS'
  refine wpList_nil ?_
  replace hm : Fr 6 a [(2, .pointer (some ⟨g_2, 0, none⟩))] := hm.keep [2]
  refine x_then_n ?_
  refine wp_ret ?_
  obtain rfl := Option.some.inj H
  exact f_ret hm (rs := [.cell 2 27]) rfl (.cell rfl (hS.load_agg (p := 1) (us := [.int .i64 0, v_7, .int .i64 0]) rfl Try.underlying27 rfl ti27 rfl rfl) .nil) ⟨_, rfl, v_7, N_6, M_9, rfl, (Sep.sel hS [0, 2] (by decide)), hr_8⟩

set_option maxHeartbeats 4000000 in
set_option maxRecDepth 20000 in
theorem hocketlaw4_awake.calls (r : Unit) (w0 w : World) (Z A : Mem) (hA : A.le Z) (hS : Sep w0 w [] Z)
    (H : hocketlaw4_awake.f = some r) :
    Calls Try.prog 16 [].toArray w (Ret fun v w' => ∃ (N : Mem), v = .bool true ∧ Sep w0 w' [N] Z) := by
  unfold hocketlaw4_awake.f at H
  refine f_enter _ Try.func16 rfl Try.ntmps16 rfl fun a hm => ?_
  replace hm : Fr 66 a [] := hm
  replace hS := hS.start
  replace hS : Sep w0 w [Mem.no] Z := hS
  refine wp_seq ?_
  refine wp_region_lit ?_
  refine s_assign hm rfl rfl ?_
  clear hm a; intro a hm
  refine wpList_nil ?_
  replace hm : Fr 66 a [(0, .bool false)] := hm.keep [0]
  refine x_then_n ?_
  refine wp_seq ?_
  refine wp_region_lit ?_
  have hq_5 : Reps Kd.u8 Mem.no ([(97 : UInt8)] : List UInt8) _ := ((Reps.one (d := Kd.u8) (x := (97 : UInt8)) (show Kd.u8.K _ _ [.int .u8 ((97 : UInt8).toNat : Int)] from rfl)).append (Reps.nil Kd.u8 _))
  refine s_buildSlice hm rfl Try.underlying25 ti5 rfl rfl rfl (.cons rfl .nil) rfl rfl rfl hS hq_5 rfl ?_
  intro w_1 v_2 M_3 hS' ho_4
  clear hm a; intro a hm
  replace hS : Sep w0 w_1 [Mem.no, M_3] Z := hS'
  clear hS' hq_5
  refine s_conv_sl (p := 1) hm rfl Try.underlying25 Try.underlying5 rfl ho_4 (by simp) hS rfl ?_
  intro w_7 M_8 hS' hr_9
  clear hm a; intro a hm
  obtain ⟨N_10, hS'', le_10, lo_10⟩ := Sep.freeze (N0 := Mem.no) (l := [M_8]) hS' 0 rfl
  replace hS : Sep w0 w_7 [N_10, Mem.no] Z := hS''
  clear hS' hS''
  have hq_15 : Reps Kd.u8 Mem.no ([(98 : UInt8)] : List UInt8) _ := ((Reps.one (d := Kd.u8) (x := (98 : UInt8)) (show Kd.u8.K _ _ [.int .u8 ((98 : UInt8).toNat : Int)] from rfl)).append (Reps.nil Kd.u8 _))
  refine s_buildSlice hm rfl Try.underlying25 ti5 rfl rfl rfl (.cons rfl .nil) rfl rfl rfl hS hq_15 rfl ?_
  intro w_11 v_12 M_13 hS' ho_14
  clear hm a; intro a hm
  replace hS : Sep w0 w_11 [N_10, Mem.no, M_13] Z := hS'
  clear hS' hq_15
  refine s_conv_sl (p := 2) hm rfl Try.underlying25 Try.underlying5 rfl ho_14 (by simp) hS rfl ?_
  intro w_17 M_18 hS' hr_19
  clear hm a; intro a hm
  obtain ⟨N_20, hS'', le_20, lo_20⟩ := Sep.freeze (N0 := N_10) (l := [Mem.no, M_18]) hS' 1 rfl
  replace hS : Sep w0 w_17 [N_20, Mem.no, Mem.no] Z := hS''
  clear hS' hS''
  obtain ⟨t_21, et_21, H⟩ := Option.bind_eq_some_iff.1 H
  refine s_call hm rfl Try.call15 rfl (regs_Write.calls ([(97 : UInt8)] : List UInt8) _ ([(98 : UInt8)] : List UInt8) _ t_21 w0 _ _ _ (Mem.le.refl _) (hS.enter [] (by decide)) ((hr_9.mono lo_10).mono (le_20.trans (hS.new_zed []))) ((hr_19.mono lo_20).mono ((Mem.le.refl _).trans (hS.new_zed []))) et_21) ?_
  rintro _ w_22 ⟨v_25, v_29, N_23, M_27, M_31, rfl, hS', hr_26, hr_30⟩
  clear hm a; intro a hm
  obtain ⟨N_24, hS'', le_24, ln_24⟩ := hS.call [] (by decide) rfl (l' := []) (ow := [M_27, M_31]) rfl hS'
  replace hS : Sep w0 w_22 [N_24, Mem.no, Mem.no, M_27, M_31] Z := hS''
  clear hS' hS''
  refine s_move hm rfl rfl ?_
  clear hm a; intro a hm
  refine s_extract hm rfl rfl rfl ?_
  clear hm a; intro a hm
  refine s_extract hm rfl rfl rfl ?_
  clear hm a; intro a hm
  refine v_alloc hm rfl ti27 hS ?_
  intro w_33 g_34 hS'
  clear hm a; intro a hm
  replace hS : Sep w0 w_33 [N_24, Mem.no, Mem.no, M_27, M_31, Mem.one g_34 (.cells ([.int .i64 0, .slice none 0 0, .int .i64 0] : List Value).toArray 27 (0, 0))] Z := hS'
  clear hS'
  refine s_assign hm rfl rfl ?_
  clear hm a; intro a hm
  obtain ⟨w_35, hs', hS'⟩ := hS.store (P := Try.prog) (p := 5) (o := 0) (t := 27) (v := .agg [.int .i64 t_21.2.Err, v_29, .int .i64 t_21.2.N].toArray) (vs := [.int .i64 t_21.2.Err, v_29, .int .i64 t_21.2.N]) rfl ti27 rfl rfl rfl (by intro u hu; simp only [List.mem_cons, List.not_mem_nil, or_false] at hu; rcases hu with rfl | rfl | rfl <;> first | rfl | exact hr_30.one)
  refine s_store hm rfl rfl hs' ?_
  replace hS : Sep w0 w_35 [N_24, Mem.no, Mem.no, M_27, M_31, Mem.one g_34 (.cells ([.int .i64 t_21.2.Err, v_29, .int .i64 t_21.2.N] : List Value).toArray 27 (0, 0))] Z := hS'
  clear hs' hS'
  refine wpList_nil ?_
  replace hm : Fr 66 a [(0, .bool false), (1, v_25), (2, .pointer (some ⟨g_34, 0, none⟩))] := hm.keep [0, 1, 2]
  refine x_then_n ?_
  refine wp_seq ?_
  refine wp_region_lit ?_
  refine s_move hm rfl rfl ?_
  clear hm a; intro a hm
  have hq_40 : Reps Kd.u8 Mem.no ([(97 : UInt8)] : List UInt8) _ := ((Reps.one (d := Kd.u8) (x := (97 : UInt8)) (show Kd.u8.K _ _ [.int .u8 ((97 : UInt8).toNat : Int)] from rfl)).append (Reps.nil Kd.u8 _))
  refine s_buildSlice hm rfl Try.underlying25 ti5 rfl rfl rfl (.cons rfl .nil) rfl rfl rfl hS hq_40 rfl ?_
  intro w_36 v_37 M_38 hS' ho_39
  clear hm a; intro a hm
  replace hS : Sep w0 w_36 [N_24, Mem.no, Mem.no, M_27, M_31, Mem.one g_34 (.cells ([.int .i64 t_21.2.Err, v_29, .int .i64 t_21.2.N] : List Value).toArray 27 (0, 0)), M_38] Z := hS'
  clear hS' hq_40
  refine s_conv_sl (p := 6) hm rfl Try.underlying25 Try.underlying5 rfl ho_39 (by simp) hS rfl ?_
  intro w_42 M_43 hS' hr_44
  clear hm a; intro a hm
  obtain ⟨N_45, hS'', le_45, lo_45⟩ := Sep.freeze (N0 := N_24) (l := [Mem.no, Mem.no, M_27, M_31, Mem.one g_34 (.cells ([.int .i64 t_21.2.Err, v_29, .int .i64 t_21.2.N] : List Value).toArray 27 (0, 0)), M_43]) hS' 5 rfl
  replace hS : Sep w0 w_42 [N_45, Mem.no, Mem.no, M_27, M_31, Mem.one g_34 (.cells ([.int .i64 t_21.2.Err, v_29, .int .i64 t_21.2.N] : List Value).toArray 27 (0, 0)), Mem.no] Z := hS''
  clear hS' hS''
  have hq_50 : Reps Kd.u8 Mem.no ([(99 : UInt8)] : List UInt8) _ := ((Reps.one (d := Kd.u8) (x := (99 : UInt8)) (show Kd.u8.K _ _ [.int .u8 ((99 : UInt8).toNat : Int)] from rfl)).append (Reps.nil Kd.u8 _))
  refine s_buildSlice hm rfl Try.underlying25 ti5 rfl rfl rfl (.cons rfl .nil) rfl rfl rfl hS hq_50 rfl ?_
  intro w_46 v_47 M_48 hS' ho_49
  clear hm a; intro a hm
  replace hS : Sep w0 w_46 [N_45, Mem.no, Mem.no, M_27, M_31, Mem.one g_34 (.cells ([.int .i64 t_21.2.Err, v_29, .int .i64 t_21.2.N] : List Value).toArray 27 (0, 0)), Mem.no, M_48] Z := hS'
  clear hS' hq_50
  refine s_conv_sl (p := 7) hm rfl Try.underlying25 Try.underlying5 rfl ho_49 (by simp) hS rfl ?_
  intro w_52 M_53 hS' hr_54
  clear hm a; intro a hm
  obtain ⟨N_55, hS'', le_55, lo_55⟩ := Sep.freeze (N0 := N_45) (l := [Mem.no, Mem.no, M_27, M_31, Mem.one g_34 (.cells ([.int .i64 t_21.2.Err, v_29, .int .i64 t_21.2.N] : List Value).toArray 27 (0, 0)), Mem.no, M_53]) hS' 6 rfl
  replace hS : Sep w0 w_52 [N_55, Mem.no, Mem.no, M_27, M_31, Mem.one g_34 (.cells ([.int .i64 t_21.2.Err, v_29, .int .i64 t_21.2.N] : List Value).toArray 27 (0, 0)), Mem.no, Mem.no] Z := hS''
  clear hS' hS''
  obtain ⟨t_56, et_56, H⟩ := Option.bind_eq_some_iff.1 H
  refine s_call hm rfl Try.call14 rfl (regs_Cas.calls t_21.1 _ ([(97 : UInt8)] : List UInt8) _ ([(99 : UInt8)] : List UInt8) _ t_56 w0 _ _ _ (Mem.le.refl _) (hS.enter [] (by decide)) (hr_26.rd (hS.own_zed [] 2 (by decide)) (Mem.no_le _)) ((hr_44.mono lo_45).mono (le_55.trans (hS.new_zed []))) ((hr_54.mono lo_55).mono ((Mem.le.refl _).trans (hS.new_zed []))) et_56) ?_
  rintro _ w_57 ⟨v_60, v_64, N_58, M_62, M_66, rfl, hS', hr_61, hr_65⟩
  clear hm a; intro a hm
  obtain ⟨N_59, hS'', le_59, ln_59⟩ := hS.call [] (by decide) rfl (l' := []) (ow := [M_62, M_66]) rfl hS'
  replace hS : Sep w0 w_57 [N_59, Mem.no, Mem.no, M_27, M_31, Mem.one g_34 (.cells ([.int .i64 t_21.2.Err, v_29, .int .i64 t_21.2.N] : List Value).toArray 27 (0, 0)), Mem.no, Mem.no, M_62, M_66] Z := hS''
  clear hS' hS''
  refine s_move hm rfl rfl ?_
  clear hm a; intro a hm
  refine s_extract hm rfl rfl rfl ?_
  clear hm a; intro a hm
  refine s_extract hm rfl rfl rfl ?_
  clear hm a; intro a hm
  refine v_alloc hm rfl ti27 hS ?_
  intro w_68 g_69 hS'
  clear hm a; intro a hm
  replace hS : Sep w0 w_68 [N_59, Mem.no, Mem.no, M_27, M_31, Mem.one g_34 (.cells ([.int .i64 t_21.2.Err, v_29, .int .i64 t_21.2.N] : List Value).toArray 27 (0, 0)), Mem.no, Mem.no, M_62, M_66, Mem.one g_69 (.cells ([.int .i64 0, .slice none 0 0, .int .i64 0] : List Value).toArray 27 (0, 0))] Z := hS'
  clear hS'
  refine s_assign hm rfl rfl ?_
  clear hm a; intro a hm
  obtain ⟨w_70, hs', hS'⟩ := hS.store (P := Try.prog) (p := 10) (o := 0) (t := 27) (v := .agg [.int .i64 t_56.2.Err, v_64, .int .i64 t_56.2.N].toArray) (vs := [.int .i64 t_56.2.Err, v_64, .int .i64 t_56.2.N]) rfl ti27 rfl rfl rfl (by intro u hu; simp only [List.mem_cons, List.not_mem_nil, or_false] at hu; rcases hu with rfl | rfl | rfl <;> first | rfl | exact hr_65.one)
  refine s_store hm rfl rfl hs' ?_
  replace hS : Sep w0 w_70 [N_59, Mem.no, Mem.no, M_27, M_31, Mem.one g_34 (.cells ([.int .i64 t_21.2.Err, v_29, .int .i64 t_21.2.N] : List Value).toArray 27 (0, 0)), Mem.no, Mem.no, M_62, M_66, Mem.one g_69 (.cells ([.int .i64 t_56.2.Err, v_64, .int .i64 t_56.2.N] : List Value).toArray 27 (0, 0))] Z := hS'
  clear hs' hS'
  refine wpList_nil ?_
  replace hm : Fr 66 a [(0, .bool false), (1, v_25), (2, .pointer (some ⟨g_34, 0, none⟩)), (3, v_60), (4, .pointer (some ⟨g_69, 0, none⟩))] := hm.keep [0, 1, 2, 3, 4]
  refine x_then_n ?_
  refine wp_seq ?_
  refine wp_region_lit ?_
  refine s_move hm rfl rfl ?_
  clear hm a; intro a hm
  obtain ⟨t_71, et_71, H⟩ := Option.bind_eq_some_iff.1 H
  refine s_make (kd := Kd.u8) (I := Mem.no) 140737488355328 hm rfl rfl Try.underlying25 ti5 rfl rfl rfl rfl hS (show Kd.u8.K _ _ [.int .u8 ((0 : UInt8).toNat : Int)] from rfl) et_71 ?_
  intro w_72 v_73 M_74 hS' ho_75
  clear hm a; intro a hm
  replace hS : Sep w0 w_72 [N_59, Mem.no, Mem.no, M_27, M_31, Mem.one g_34 (.cells ([.int .i64 t_21.2.Err, v_29, .int .i64 t_21.2.N] : List Value).toArray 27 (0, 0)), Mem.no, Mem.no, M_62, M_66, Mem.one g_69 (.cells ([.int .i64 t_56.2.Err, v_64, .int .i64 t_56.2.N] : List Value).toArray 27 (0, 0)), M_74] Z := hS'
  clear hS'
  obtain ⟨t_77, et_77, H⟩ := Option.bind_eq_some_iff.1 H
  refine s_call hm rfl Try.call15 rfl (regs_Write.calls t_21.1 _ t_71 _ t_77 w0 _ _ _ (Mem.le.refl _) (hS.enter [] (by decide)) (hr_26.rd (hS.own_zed [] 2 (by decide)) (Mem.no_le _)) (ho_75.rd (hS.own_zed [] 10 (by decide)) (Mem.no_le _)) et_77) ?_
  rintro _ w_78 ⟨v_81, v_85, N_79, M_83, M_87, rfl, hS', hr_82, hr_86⟩
  clear hm a; intro a hm
  obtain ⟨N_80, hS'', le_80, ln_80⟩ := hS.call [] (by decide) rfl (l' := []) (ow := [M_83, M_87]) rfl hS'
  replace hS : Sep w0 w_78 [N_80, Mem.no, Mem.no, M_27, M_31, Mem.one g_34 (.cells ([.int .i64 t_21.2.Err, v_29, .int .i64 t_21.2.N] : List Value).toArray 27 (0, 0)), Mem.no, Mem.no, M_62, M_66, Mem.one g_69 (.cells ([.int .i64 t_56.2.Err, v_64, .int .i64 t_56.2.N] : List Value).toArray 27 (0, 0)), M_74, M_83, M_87] Z := hS''
  clear hS' hS''
  refine s_move hm rfl rfl ?_
  clear hm a; intro a hm
  refine s_extract hm rfl rfl rfl ?_
  clear hm a; intro a hm
  refine s_extract hm rfl rfl rfl ?_
  clear hm a; intro a hm
  refine v_alloc hm rfl ti27 hS ?_
  intro w_89 g_90 hS'
  clear hm a; intro a hm
  replace hS : Sep w0 w_89 [N_80, Mem.no, Mem.no, M_27, M_31, Mem.one g_34 (.cells ([.int .i64 t_21.2.Err, v_29, .int .i64 t_21.2.N] : List Value).toArray 27 (0, 0)), Mem.no, Mem.no, M_62, M_66, Mem.one g_69 (.cells ([.int .i64 t_56.2.Err, v_64, .int .i64 t_56.2.N] : List Value).toArray 27 (0, 0)), M_74, M_83, M_87, Mem.one g_90 (.cells ([.int .i64 0, .slice none 0 0, .int .i64 0] : List Value).toArray 27 (0, 0))] Z := hS'
  clear hS'
  refine s_assign hm rfl rfl ?_
  clear hm a; intro a hm
  obtain ⟨w_91, hs', hS'⟩ := hS.store (P := Try.prog) (p := 14) (o := 0) (t := 27) (v := .agg [.int .i64 t_77.2.Err, v_85, .int .i64 t_77.2.N].toArray) (vs := [.int .i64 t_77.2.Err, v_85, .int .i64 t_77.2.N]) rfl ti27 rfl rfl rfl (by intro u hu; simp only [List.mem_cons, List.not_mem_nil, or_false] at hu; rcases hu with rfl | rfl | rfl <;> first | rfl | exact hr_86.one)
  refine s_store hm rfl rfl hs' ?_
  replace hS : Sep w0 w_91 [N_80, Mem.no, Mem.no, M_27, M_31, Mem.one g_34 (.cells ([.int .i64 t_21.2.Err, v_29, .int .i64 t_21.2.N] : List Value).toArray 27 (0, 0)), Mem.no, Mem.no, M_62, M_66, Mem.one g_69 (.cells ([.int .i64 t_56.2.Err, v_64, .int .i64 t_56.2.N] : List Value).toArray 27 (0, 0)), M_74, M_83, M_87, Mem.one g_90 (.cells ([.int .i64 t_77.2.Err, v_85, .int .i64 t_77.2.N] : List Value).toArray 27 (0, 0))] Z := hS'
  clear hs' hS'
  refine wpList_nil ?_
  replace hm : Fr 66 a [(0, .bool false), (1, v_25), (2, .pointer (some ⟨g_34, 0, none⟩)), (3, v_60), (4, .pointer (some ⟨g_69, 0, none⟩)), (6, .pointer (some ⟨g_90, 0, none⟩))] := hm.keep [0, 1, 2, 3, 4, 6]
  refine x_then_n ?_
  refine c_seq fun KJ_92 hKJ_92 => ?_
  refine wp_region_lit ?_
  refine s_move hm rfl rfl ?_
  clear hm a; intro a hm
  refine s_b2s hm rfl Try.underlying25 Try.underlying5 Try.underlying9 rfl (hr_26.rd (J := hp w_91) (hS.own 3) (Mem.no_le _)) (Mem.le.refl _) ?_
  clear hm a; intro a hm
  refine s_strEq (b := (t_21.1 == ([98] : List UInt8))) hm rfl rfl rfl (.inl ⟨rfl, rfl⟩) ?_
  clear hm a; intro a hm
  refine s_move hm rfl rfl ?_
  clear hm a; intro a hm
  by_cases hc_93 : t_21.1 = ([98] : List UInt8)
  · rw [if_pos hc_93] at H
    refine s_on hm rfl rfl (beq_iff_eq.2 hc_93) ?_
    refine s_fieldAddr hm rfl Try.underlying27 rfl ti22 rfl rfl ?_
    clear hm a; intro a hm
    refine s_on hm rfl rfl (beq_iff_eq.2 hc_93) ?_
    refine s_load hm rfl rfl (hS.load_one (p := 5) rfl Try.underlying22 rfl rfl) ?_
    clear hm a; intro a hm
    refine s_on hm rfl rfl (beq_iff_eq.2 hc_93) ?_
    refine s_cmp (b := (t_21.2.Err == 0)) hm rfl rfl rfl (.inl ⟨rfl, rfl⟩) ?_
    clear hm a; intro a hm
    refine s_pick_t hm rfl rfl (beq_iff_eq.2 hc_93) rfl ?_
    clear hm a; intro a hm
    refine s_move hm rfl rfl ?_
    clear hm a; intro a hm
    by_cases hc_94 : t_21.2.Err = 0
    · rw [if_pos hc_94] at H
      refine s_on hm rfl rfl (beq_iff_eq.2 hc_94) ?_
      refine s_move hm rfl rfl ?_
      clear hm a; intro a hm
      refine s_on hm rfl rfl (beq_iff_eq.2 hc_94) ?_
      refine s_b2s hm rfl Try.underlying25 Try.underlying5 Try.underlying9 rfl (hr_61.rd (J := hp w_91) (hS.own 8) (Mem.no_le _)) (Mem.le.refl _) ?_
      clear hm a; intro a hm
      refine s_on hm rfl rfl (beq_iff_eq.2 hc_94) ?_
      refine s_strEq (b := (t_56.1 == ([98] : List UInt8))) hm rfl rfl rfl (.inl ⟨rfl, rfl⟩) ?_
      clear hm a; intro a hm
      refine s_pick_t hm rfl rfl (beq_iff_eq.2 hc_94) rfl ?_
      clear hm a; intro a hm
      refine s_move hm rfl rfl ?_
      clear hm a; intro a hm
      by_cases hc_95 : t_56.1 = ([98] : List UInt8)
      · rw [if_pos hc_95] at H
        refine s_on hm rfl rfl (beq_iff_eq.2 hc_95) ?_
        refine s_fieldAddr hm rfl Try.underlying27 rfl ti22 rfl rfl ?_
        clear hm a; intro a hm
        refine s_on hm rfl rfl (beq_iff_eq.2 hc_95) ?_
        refine s_load hm rfl rfl (hS.load_one (p := 10) rfl Try.underlying22 rfl rfl) ?_
        clear hm a; intro a hm
        refine s_on hm rfl rfl (beq_iff_eq.2 hc_95) ?_
        refine s_cmp (b := (t_56.2.Err == 2)) hm rfl rfl rfl (.inl ⟨rfl, rfl⟩) ?_
        clear hm a; intro a hm
        refine s_pick_t hm rfl rfl (beq_iff_eq.2 hc_95) rfl ?_
        clear hm a; intro a hm
        refine s_move hm rfl rfl ?_
        clear hm a; intro a hm
        by_cases hc_96 : t_56.2.Err = 2
        · rw [if_pos hc_96] at H
          refine s_on hm rfl rfl (beq_iff_eq.2 hc_96) ?_
          refine s_fieldAddr hm rfl Try.underlying27 rfl ti25 rfl rfl ?_
          clear hm a; intro a hm
          refine s_on hm rfl rfl (beq_iff_eq.2 hc_96) ?_
          refine s_load hm rfl rfl (hS.load_one (p := 10) rfl Try.underlying25 rfl rfl) ?_
          clear hm a; intro a hm
          refine s_on hm rfl rfl (beq_iff_eq.2 hc_96) ?_
          refine s_b2s hm rfl Try.underlying25 Try.underlying5 Try.underlying9 rfl (hr_65.rd (J := hp w_91) (hS.own 9) (Mem.no_le _)) (Mem.le.refl _) ?_
          clear hm a; intro a hm
          refine s_on hm rfl rfl (beq_iff_eq.2 hc_96) ?_
          refine s_strEq (b := (t_56.2.Val == ([98] : List UInt8))) hm rfl rfl rfl (.inl ⟨rfl, rfl⟩) ?_
          clear hm a; intro a hm
          refine s_pick_t hm rfl rfl (beq_iff_eq.2 hc_96) rfl ?_
          clear hm a; intro a hm
          refine s_move hm rfl rfl ?_
          clear hm a; intro a hm
          by_cases hc_97 : t_56.2.Val = ([98] : List UInt8)
          · rw [if_pos hc_97] at H
            refine s_on hm rfl rfl (beq_iff_eq.2 hc_97) ?_
            refine s_fieldAddr hm rfl Try.underlying27 rfl ti22 rfl rfl ?_
            clear hm a; intro a hm
            refine s_on hm rfl rfl (beq_iff_eq.2 hc_97) ?_
            refine s_load hm rfl rfl (hS.load_one (p := 14) rfl Try.underlying22 rfl rfl) ?_
            clear hm a; intro a hm
            refine s_on hm rfl rfl (beq_iff_eq.2 hc_97) ?_
            refine s_cmp (b := (t_77.2.Err == 1)) hm rfl rfl rfl (.inl ⟨rfl, rfl⟩) ?_
            clear hm a; intro a hm
            refine s_pick_t hm rfl rfl (beq_iff_eq.2 hc_97) rfl ?_
            clear hm a; intro a hm
            refine s_move hm rfl rfl ?_
            clear hm a; intro a hm
            by_cases hc_98 : t_77.2.Err = 1
            · rw [if_pos hc_98] at H
              refine s_on hm rfl rfl (beq_iff_eq.2 hc_98) ?_
              refine s_move hm rfl rfl ?_
              clear hm a; intro a hm
              refine s_on hm rfl rfl (beq_iff_eq.2 hc_98) ?_
              obtain ⟨t_99, et_99, H⟩ := Option.bind_eq_some_iff.1 H
              refine s_call hm rfl Try.call20 rfl (regs_Read.calls t_21.1 _ t_99 w0 _ _ _ (Mem.le.refl _) (hS.enter [] (by decide)) (hr_26.rd (hS.own_zed [] 2 (by decide)) (Mem.no_le _)) et_99) ?_
              rintro _ w_100 ⟨v_103, N_101, M_105, rfl, hS', hr_104⟩
              clear hm a; intro a hm
              obtain ⟨N_102, hS'', le_102, ln_102⟩ := hS.call [] (by decide) rfl (l' := []) (ow := [M_105]) rfl hS'
              replace hS : Sep w0 w_100 [N_102, Mem.no, Mem.no, M_27, M_31, Mem.one g_34 (.cells ([.int .i64 t_21.2.Err, v_29, .int .i64 t_21.2.N] : List Value).toArray 27 (0, 0)), Mem.no, Mem.no, M_62, M_66, Mem.one g_69 (.cells ([.int .i64 t_56.2.Err, v_64, .int .i64 t_56.2.N] : List Value).toArray 27 (0, 0)), M_74, M_83, M_87, Mem.one g_90 (.cells ([.int .i64 t_77.2.Err, v_85, .int .i64 t_77.2.N] : List Value).toArray 27 (0, 0)), M_105] Z := hS''
              clear hS' hS''
              refine s_on hm rfl rfl (beq_iff_eq.2 hc_98) ?_
              refine s_field_one hm rfl Try.underlying27 rfl Try.underlying25 rfl rfl rfl ?_
              clear hm a; intro a hm
              refine s_on hm rfl rfl (beq_iff_eq.2 hc_98) ?_
              refine s_b2s hm rfl Try.underlying25 Try.underlying5 Try.underlying9 rfl (hr_104.rd (J := hp w_100) (hS.own 15) (Mem.no_le _)) (Mem.le.refl _) ?_
              clear hm a; intro a hm
              refine s_on hm rfl rfl (beq_iff_eq.2 hc_98) ?_
              refine s_strEq (b := (t_99.Val == ([98] : List UInt8))) hm rfl rfl rfl (.inl ⟨rfl, rfl⟩) ?_
              clear hm a; intro a hm
              refine s_pick_t hm rfl rfl (beq_iff_eq.2 hc_98) rfl ?_
              clear hm a; intro a hm
              refine s_assign hm rfl rfl ?_
              clear hm a; intro a hm
              refine wpList_nil ?_
              replace hm : Fr 66 a [(0, .bool (t_99.Val == ([98] : List UInt8)))] := hm.keep [0]
              refine x_then_n (hKJ_92 _ _ ?_)
              refine wp_ret ?_
              by_cases hc_107 : t_99.Val = ([98] : List UInt8)
              · rw [if_pos hc_107] at H
                exact f_ret hm (rs := [.tmp 0]) rfl (.tmp rfl .nil) ⟨_, rfl, N_102, (by rw [(beq_iff_eq.2 hc_107)]; rfl), (Sep.sel hS [0] (by decide))⟩
              · rw [if_neg hc_107] at H
                cases H
            · rw [if_neg hc_98] at H
              cases H
          · rw [if_neg hc_97] at H
            cases H
        · rw [if_neg hc_96] at H
          cases H
      · rw [if_neg hc_95] at H
        cases H
    · rw [if_neg hc_94] at H
      cases H
  · rw [if_neg hc_93] at H
    cases H

set_option maxHeartbeats 4000000 in
set_option maxRecDepth 20000 in
theorem hocketlaw4_RegsOnce.calls (K : Nat) (x0 : List UInt8) (p0_0 : Value) (x1 : List UInt8) (p1_1 : Value) (x2 : List UInt8) (p2_2 : Value) (r : Unit) (w0 w : World) (Z A : Mem) (hA : A.le Z) (hS : Sep w0 w [] Z) (hp0_0 : Rd Kd.u8 A p0_0 x0) (hp1_1 : Rd Kd.u8 A p1_1 x1) (hp2_2 : Rd Kd.u8 A p2_2 x2)
    (H : hocketlaw4_RegsOnce.f K x0 x1 x2 = some r) :
    Calls Try.prog 5 [p0_0, p1_1, p2_2].toArray w (Ret fun v w' => ∃ (N : Mem), v = .bool true ∧ Sep w0 w' [N] Z) := by
  unfold hocketlaw4_RegsOnce.f at H
  refine f_enter _ Try.func5 rfl Try.ntmps5 rfl fun a hm => ?_
  replace hm : Fr 140 a [(0, p0_0), (1, p1_1), (2, p2_2)] := hm
  replace hS := hS.start
  replace hS : Sep w0 w [Mem.no] Z := hS
  refine wp_seq ?_
  refine wp_region_lit ?_
  refine s_assign hm rfl rfl ?_
  clear hm a; intro a hm
  refine wpList_nil ?_
  replace hm : Fr 140 a [(0, p0_0), (1, p1_1), (2, p2_2), (6, .bool false)] := hm.keep [0, 1, 2, 6]
  refine x_then_n ?_
  refine wp_seq ?_
  refine h_begin (S := fun w => Sep w0 w [Mem.no] Z) 18 (by kernel_rfl) rfl [false, false, false, false, false, false, false, false, false, false, false, false, false, false, false, false, false, false].toArray rfl hS fun w_1 hS => ?_
  replace hS : Sep w0 w_1 [Mem.no] Z := hS
  refine h_take 0 [true, false, false, false, false, false, false, false, false, false, false, false, false, false, false, false, false, false].toArray rfl (by kernel_rfl) (by kernel_rfl) (by kernel_rfl) (fun _ _ _ _ h => h) rfl rfl rfl rfl hm (hS.sub (.cons (Mem.le.refl _) (Sub.nil _))) (v := p0_0) (fun w hS => r_move hm rfl) ?_
  clear hm a; intro a hm
  refine h_take 1 [true, true, false, false, false, false, false, false, false, false, false, false, false, false, false, false, false, false].toArray rfl (by kernel_rfl) (by kernel_rfl) (by kernel_rfl) (fun _ _ _ _ h => h) rfl rfl rfl rfl hm (hS.sub (.cons (Mem.le.refl _) (Sub.nil _))) (v := p0_0) (fun w hS => r_move hm rfl) ?_
  clear hm a; intro a hm
  refine h_take 2 [true, true, true, false, false, false, false, false, false, false, false, false, false, false, false, false, false, false].toArray rfl (by kernel_rfl) (by kernel_rfl) (by kernel_rfl) (fun _ _ _ _ h => h) rfl rfl rfl rfl hm (hS.sub (.cons (Mem.le.refl _) (Sub.nil _))) (v := .int .i64 (x0.length : Int)) (fun w hS => r_len hm Try.underlying25 rfl hp0_0) ?_
  clear hm a; intro a hm
  refine h_take 3 [true, true, true, true, false, false, false, false, false, false, false, false, false, false, false, false, false, false].toArray rfl (by kernel_rfl) (by kernel_rfl) (by kernel_rfl) (fun _ _ _ _ h => h) rfl rfl rfl rfl hm (hS.sub (.cons (Mem.le.refl _) (Sub.nil _))) (v := .int .i64 (mn (x0.length : Int) 16)) (fun w hS => r_min hm rfl rfl) ?_
  clear hm a; intro a hm
  obtain ⟨t_2, et_2, H⟩ := Option.bind_eq_some_iff.1 H
  refine h_takeE 4 [true, true, true, true, true, false, false, false, false, false, false, false, false, false, false, false, false, false].toArray rfl (by kernel_rfl) (by kernel_rfl) (by kernel_rfl) (fun _ _ _ _ h => h) rfl rfl rfl rfl hm (hS.sub (.cons (Mem.le.refl _) (Sub.nil _))) (f := fun v => v) (r_slice hm Try.underlying25 ti5 rfl rfl hp0_0 rfl rfl et_2) ?_
  intro v_3 hr_4
  clear hm a; intro a hm
  refine h_take 5 [true, true, true, true, true, true, false, false, false, false, false, false, false, false, false, false, false, false].toArray rfl (by kernel_rfl) (by kernel_rfl) (by kernel_rfl) (fun _ _ _ _ h => h) rfl rfl rfl rfl hm (hS.sub (.cons (Mem.le.refl _) (Sub.nil _))) (v := p1_1) (fun w hS => r_move hm rfl) ?_
  clear hm a; intro a hm
  refine h_take 6 [true, true, true, true, true, true, true, false, false, false, false, false, false, false, false, false, false, false].toArray rfl (by kernel_rfl) (by kernel_rfl) (by kernel_rfl) (fun _ _ _ _ h => h) rfl rfl rfl rfl hm (hS.sub (.cons (Mem.le.refl _) (Sub.nil _))) (v := p1_1) (fun w hS => r_move hm rfl) ?_
  clear hm a; intro a hm
  refine h_take 7 [true, true, true, true, true, true, true, true, false, false, false, false, false, false, false, false, false, false].toArray rfl (by kernel_rfl) (by kernel_rfl) (by kernel_rfl) (fun _ _ _ _ h => h) rfl rfl rfl rfl hm (hS.sub (.cons (Mem.le.refl _) (Sub.nil _))) (v := .int .i64 (x1.length : Int)) (fun w hS => r_len hm Try.underlying25 rfl hp1_1) ?_
  clear hm a; intro a hm
  refine h_take 8 [true, true, true, true, true, true, true, true, true, false, false, false, false, false, false, false, false, false].toArray rfl (by kernel_rfl) (by kernel_rfl) (by kernel_rfl) (fun _ _ _ _ h => h) rfl rfl rfl rfl hm (hS.sub (.cons (Mem.le.refl _) (Sub.nil _))) (v := .int .i64 (mn (x1.length : Int) 16)) (fun w hS => r_min hm rfl rfl) ?_
  clear hm a; intro a hm
  obtain ⟨t_5, et_5, H⟩ := Option.bind_eq_some_iff.1 H
  refine h_takeE 9 [true, true, true, true, true, true, true, true, true, true, false, false, false, false, false, false, false, false].toArray rfl (by kernel_rfl) (by kernel_rfl) (by kernel_rfl) (fun _ _ _ _ h => h) rfl rfl rfl rfl hm (hS.sub (.cons (Mem.le.refl _) (Sub.nil _))) (f := fun v => v) (r_slice hm Try.underlying25 ti5 rfl rfl hp1_1 rfl rfl et_5) ?_
  intro v_6 hr_7
  clear hm a; intro a hm
  refine h_take 10 [true, true, true, true, true, true, true, true, true, true, true, false, false, false, false, false, false, false].toArray rfl (by kernel_rfl) (by kernel_rfl) (by kernel_rfl) (fun _ _ _ _ h => h) rfl rfl rfl rfl hm (hS.sub (.cons (Mem.le.refl _) (Sub.nil _))) (v := p2_2) (fun w hS => r_move hm rfl) ?_
  clear hm a; intro a hm
  refine h_take 11 [true, true, true, true, true, true, true, true, true, true, true, true, false, false, false, false, false, false].toArray rfl (by kernel_rfl) (by kernel_rfl) (by kernel_rfl) (fun _ _ _ _ h => h) rfl rfl rfl rfl hm (hS.sub (.cons (Mem.le.refl _) (Sub.nil _))) (v := p2_2) (fun w hS => r_move hm rfl) ?_
  clear hm a; intro a hm
  refine h_take 12 [true, true, true, true, true, true, true, true, true, true, true, true, true, false, false, false, false, false].toArray rfl (by kernel_rfl) (by kernel_rfl) (by kernel_rfl) (fun _ _ _ _ h => h) rfl rfl rfl rfl hm (hS.sub (.cons (Mem.le.refl _) (Sub.nil _))) (v := .int .i64 (x2.length : Int)) (fun w hS => r_len hm Try.underlying25 rfl hp2_2) ?_
  clear hm a; intro a hm
  refine h_take 13 [true, true, true, true, true, true, true, true, true, true, true, true, true, true, false, false, false, false].toArray rfl (by kernel_rfl) (by kernel_rfl) (by kernel_rfl) (fun _ _ _ _ h => h) rfl rfl rfl rfl hm (hS.sub (.cons (Mem.le.refl _) (Sub.nil _))) (v := .int .i64 (mn (x2.length : Int) 16)) (fun w hS => r_min hm rfl rfl) ?_
  clear hm a; intro a hm
  obtain ⟨t_8, et_8, H⟩ := Option.bind_eq_some_iff.1 H
  refine h_takeE 14 [true, true, true, true, true, true, true, true, true, true, true, true, true, true, true, false, false, false].toArray rfl (by kernel_rfl) (by kernel_rfl) (by kernel_rfl) (fun _ _ _ _ h => h) rfl rfl rfl rfl hm (hS.sub (.cons (Mem.le.refl _) (Sub.nil _))) (f := fun v => v) (r_slice hm Try.underlying25 ti5 rfl rfl hp2_2 rfl rfl et_8) ?_
  intro v_9 hr_10
  clear hm a; intro a hm
  refine h_take 15 [true, true, true, true, true, true, true, true, true, true, true, true, true, true, true, true, false, false].toArray rfl (by kernel_rfl) (by kernel_rfl) (by kernel_rfl) (fun _ _ _ _ h => h) rfl rfl rfl rfl hm (hS.sub (.cons (Mem.le.refl _) (Sub.nil _))) (v := v_3) (fun w hS => r_assign hm rfl) ?_
  clear hm a; intro a hm
  refine h_take 16 [true, true, true, true, true, true, true, true, true, true, true, true, true, true, true, true, true, false].toArray rfl (by kernel_rfl) (by kernel_rfl) (by kernel_rfl) (fun _ _ _ _ h => h) rfl rfl rfl rfl hm (hS.sub (.cons (Mem.le.refl _) (Sub.nil _))) (v := v_6) (fun w hS => r_assign hm rfl) ?_
  clear hm a; intro a hm
  refine h_take 17 [true, true, true, true, true, true, true, true, true, true, true, true, true, true, true, true, true, true].toArray rfl (by kernel_rfl) (by kernel_rfl) (by kernel_rfl) (fun _ _ _ _ h => h) rfl rfl rfl rfl hm (hS.sub (.cons (Mem.le.refl _) (Sub.nil _))) (v := v_9) (fun w hS => r_assign hm rfl) ?_
  clear hm a; intro a hm
  refine h_done (by kernel_rfl) ?_
  replace hm : Fr 140 a [(0, v_3), (1, v_6), (2, v_9), (6, .bool false)] := hm.keep [0, 1, 2, 6]
  refine x_then_n ?_
  refine wp_seq ?_
  refine wp_region_lit ?_
  refine s_move hm rfl rfl ?_
  clear hm a; intro a hm
  refine s_move hm rfl rfl ?_
  clear hm a; intro a hm
  refine s_move hm rfl rfl ?_
  clear hm a; intro a hm
  obtain ⟨t_11, et_11, H⟩ := Option.bind_eq_some_iff.1 H
  refine s_call hm rfl Try.call14 rfl (regs_Cas.calls t_2 _ t_2 _ t_5 _ t_11 w0 _ _ _ (Mem.le.refl _) (hS.enter [] (by decide)) (hr_4.mono (hA.trans (hS.le_zed []))) (hr_4.mono (hA.trans (hS.le_zed []))) (hr_7.mono (hA.trans (hS.le_zed []))) et_11) ?_
  rintro _ w_12 ⟨v_15, v_19, N_13, M_17, M_21, rfl, hS', hr_16, hr_20⟩
  clear hm a; intro a hm
  obtain ⟨N_14, hS'', le_14, ln_14⟩ := hS.call [] (by decide) rfl (l' := []) (ow := [M_17, M_21]) rfl hS'
  replace hS : Sep w0 w_12 [N_14, M_17, M_21] Z := hS''
  clear hS' hS''
  refine s_move hm rfl rfl ?_
  clear hm a; intro a hm
  refine s_extract hm rfl rfl rfl ?_
  clear hm a; intro a hm
  refine s_extract hm rfl rfl rfl ?_
  clear hm a; intro a hm
  refine v_alloc hm rfl ti27 hS ?_
  intro w_23 g_24 hS'
  clear hm a; intro a hm
  replace hS : Sep w0 w_23 [N_14, M_17, M_21, Mem.one g_24 (.cells ([.int .i64 0, .slice none 0 0, .int .i64 0] : List Value).toArray 27 (0, 0))] Z := hS'
  clear hS'
  refine s_assign hm rfl rfl ?_
  clear hm a; intro a hm
  obtain ⟨w_25, hs', hS'⟩ := hS.store (P := Try.prog) (p := 3) (o := 0) (t := 27) (v := .agg [.int .i64 t_11.2.Err, v_19, .int .i64 t_11.2.N].toArray) (vs := [.int .i64 t_11.2.Err, v_19, .int .i64 t_11.2.N]) rfl ti27 rfl rfl rfl (by intro u hu; simp only [List.mem_cons, List.not_mem_nil, or_false] at hu; rcases hu with rfl | rfl | rfl <;> first | rfl | exact hr_20.one)
  refine s_store hm rfl rfl hs' ?_
  replace hS : Sep w0 w_25 [N_14, M_17, M_21, Mem.one g_24 (.cells ([.int .i64 t_11.2.Err, v_19, .int .i64 t_11.2.N] : List Value).toArray 27 (0, 0))] Z := hS'
  clear hs' hS'
  refine wpList_nil ?_
  replace hm : Fr 140 a [(0, v_3), (1, v_6), (2, v_9), (6, .bool false), (7, v_15), (8, .pointer (some ⟨g_24, 0, none⟩))] := hm.keep [0, 1, 2, 6, 7, 8]
  refine x_then_n ?_
  refine wp_seq ?_
  refine wp_region_lit ?_
  refine s_move hm rfl rfl ?_
  clear hm a; intro a hm
  refine s_move hm rfl rfl ?_
  clear hm a; intro a hm
  refine s_move hm rfl rfl ?_
  clear hm a; intro a hm
  obtain ⟨t_26, et_26, H⟩ := Option.bind_eq_some_iff.1 H
  refine s_call hm rfl Try.call14 rfl (regs_Cas.calls t_11.1 _ t_2 _ t_8 _ t_26 w0 _ _ _ (Mem.le.refl _) (hS.enter [] (by decide)) (hr_16.rd (hS.own_zed [] 0 (by decide)) (Mem.no_le _)) (hr_4.mono (hA.trans (hS.le_zed []))) (hr_10.mono (hA.trans (hS.le_zed []))) et_26) ?_
  rintro _ w_27 ⟨v_30, v_34, N_28, M_32, M_36, rfl, hS', hr_31, hr_35⟩
  clear hm a; intro a hm
  obtain ⟨N_29, hS'', le_29, ln_29⟩ := hS.call [] (by decide) rfl (l' := []) (ow := [M_32, M_36]) rfl hS'
  replace hS : Sep w0 w_27 [N_29, M_17, M_21, Mem.one g_24 (.cells ([.int .i64 t_11.2.Err, v_19, .int .i64 t_11.2.N] : List Value).toArray 27 (0, 0)), M_32, M_36] Z := hS''
  clear hS' hS''
  refine s_move hm rfl rfl ?_
  clear hm a; intro a hm
  refine s_extract hm rfl rfl rfl ?_
  clear hm a; intro a hm
  refine s_extract hm rfl rfl rfl ?_
  clear hm a; intro a hm
  refine v_alloc hm rfl ti27 hS ?_
  intro w_38 g_39 hS'
  clear hm a; intro a hm
  replace hS : Sep w0 w_38 [N_29, M_17, M_21, Mem.one g_24 (.cells ([.int .i64 t_11.2.Err, v_19, .int .i64 t_11.2.N] : List Value).toArray 27 (0, 0)), M_32, M_36, Mem.one g_39 (.cells ([.int .i64 0, .slice none 0 0, .int .i64 0] : List Value).toArray 27 (0, 0))] Z := hS'
  clear hS'
  refine s_assign hm rfl rfl ?_
  clear hm a; intro a hm
  obtain ⟨w_40, hs', hS'⟩ := hS.store (P := Try.prog) (p := 6) (o := 0) (t := 27) (v := .agg [.int .i64 t_26.2.Err, v_34, .int .i64 t_26.2.N].toArray) (vs := [.int .i64 t_26.2.Err, v_34, .int .i64 t_26.2.N]) rfl ti27 rfl rfl rfl (by intro u hu; simp only [List.mem_cons, List.not_mem_nil, or_false] at hu; rcases hu with rfl | rfl | rfl <;> first | rfl | exact hr_35.one)
  refine s_store hm rfl rfl hs' ?_
  replace hS : Sep w0 w_40 [N_29, M_17, M_21, Mem.one g_24 (.cells ([.int .i64 t_11.2.Err, v_19, .int .i64 t_11.2.N] : List Value).toArray 27 (0, 0)), M_32, M_36, Mem.one g_39 (.cells ([.int .i64 t_26.2.Err, v_34, .int .i64 t_26.2.N] : List Value).toArray 27 (0, 0))] Z := hS'
  clear hs' hS'
  refine wpList_nil ?_
  replace hm : Fr 140 a [(0, v_3), (1, v_6), (2, v_9), (6, .bool false), (7, v_15), (8, .pointer (some ⟨g_24, 0, none⟩)), (9, v_30), (10, .pointer (some ⟨g_39, 0, none⟩))] := hm.keep [0, 1, 2, 6, 7, 8, 9, 10]
  refine x_then_n ?_
  refine c_seq fun KJ_41 hKJ_41 => ?_
  refine c_seq fun KJ_42 hKJ_42 => ?_
  have hJ_j_46 : ∀ (x_44 : Bool), hocketlaw4_RegsOnce.j_46 K t_26 t_5 t_2 t_8 t_11 x_44 = some r → ∀ (a : Act) (w_45 : World), (∃ (N_43 : Mem), Fr 140 a [(0, v_3), (1, v_6), (2, v_9), (6, .bool false), (7, v_15), (9, v_30), (10, .pointer (some ⟨g_39, 0, none⟩)), (53, .bool x_44)] ∧ Sep w0 w_45 [N_43, M_17, Mem.no, Mem.no, M_32, M_36, Mem.one g_39 (.cells ([.int .i64 t_26.2.Err, v_34, .int .i64 t_26.2.N] : List Value).toArray 27 (0, 0))] Z ∧ N_29.le N_43) → KJ_42 a w_45 := by
    clear H hm hS a
    rintro x_44 H a w_45 ⟨N_43, hm, hS, le_43⟩
    unfold hocketlaw4_RegsOnce.j_46 at H
    refine hKJ_42 _ _ ?_
    by_cases hc_47 : x_44 = true
    · rw [if_pos hc_47] at H
      cases H
    · rw [if_neg hc_47] at H
      refine c_cond_f hm rfl (Bool.eq_false_iff.2 hc_47) ?_
      refine wp_skip ?_
      refine x_then_n (hKJ_41 _ _ ?_)
      refine c_seq fun KJ_48 hKJ_48 => ?_
      refine c_seq fun KJ_49 hKJ_49 => ?_
      have hJ_j_53 : ∀ (x_51 : Bool), hocketlaw4_RegsOnce.j_53 K t_2 t_11 x_51 = some r → ∀ (a : Act) (w_52 : World), (∃ (N_50 : Mem), Fr 140 a [(0, v_3), (6, .bool false), (7, v_15), (94, .bool x_51)] ∧ Sep w0 w_52 [N_50, M_17, Mem.no, Mem.no, Mem.no, Mem.no, Mem.no] Z ∧ N_43.le N_50) → KJ_49 a w_52 := by
        clear H hm hS a
        rintro x_51 H a w_52 ⟨N_50, hm, hS, le_50⟩
        unfold hocketlaw4_RegsOnce.j_53 at H
        refine hKJ_49 _ _ ?_
        by_cases hc_54 : x_51 = true
        · rw [if_pos hc_54] at H
          cases H
        · rw [if_neg hc_54] at H
          refine c_cond_f hm rfl (Bool.eq_false_iff.2 hc_54) ?_
          refine wp_skip ?_
          refine x_then_n (hKJ_48 _ _ ?_)
          refine wp_seq ?_
          refine wp_region_lit ?_
          refine s_move hm rfl rfl ?_
          clear hm a; intro a hm
          obtain ⟨t_55, et_55, H⟩ := Option.bind_eq_some_iff.1 H
          refine s_call hm rfl Try.call20 rfl (regs_Read.calls t_2 _ t_55 w0 _ _ _ (Mem.le.refl _) (hS.enter [] (by decide)) (hr_4.mono (hA.trans (hS.le_zed []))) et_55) ?_
          rintro _ w_56 ⟨v_59, N_57, M_61, rfl, hS', hr_60⟩
          clear hm a; intro a hm
          obtain ⟨N_58, hS'', le_58, ln_58⟩ := hS.call [] (by decide) rfl (l' := []) (ow := [M_61]) rfl hS'
          replace hS : Sep w0 w_56 [N_58, M_17, Mem.no, Mem.no, Mem.no, Mem.no, Mem.no, M_61] Z := hS''
          clear hS' hS''
          refine v_alloc hm rfl ti27 hS ?_
          intro w_63 g_64 hS'
          clear hm a; intro a hm
          replace hS : Sep w0 w_63 [N_58, M_17, Mem.no, Mem.no, Mem.no, Mem.no, Mem.no, M_61, Mem.one g_64 (.cells ([.int .i64 0, .slice none 0 0, .int .i64 0] : List Value).toArray 27 (0, 0))] Z := hS'
          clear hS'
          obtain ⟨w_65, hs', hS'⟩ := hS.store (P := Try.prog) (p := 8) (o := 0) (t := 27) (v := .agg [.int .i64 t_55.Err, v_59, .int .i64 t_55.N].toArray) (vs := [.int .i64 t_55.Err, v_59, .int .i64 t_55.N]) rfl ti27 rfl rfl rfl (by intro u hu; simp only [List.mem_cons, List.not_mem_nil, or_false] at hu; rcases hu with rfl | rfl | rfl <;> first | rfl | exact hr_60.one)
          refine s_store hm rfl rfl hs' ?_
          replace hS : Sep w0 w_65 [N_58, M_17, Mem.no, Mem.no, Mem.no, Mem.no, Mem.no, M_61, Mem.one g_64 (.cells ([.int .i64 t_55.Err, v_59, .int .i64 t_55.N] : List Value).toArray 27 (0, 0))] Z := hS'
          clear hs' hS'
          refine wpList_nil ?_
          replace hm : Fr 140 a [(0, v_3), (6, .bool false), (7, v_15), (11, .pointer (some ⟨g_64, 0, none⟩))] := hm.keep [0, 6, 7, 11]
          refine x_then_n ?_
          refine wp_seq ?_
          refine wp_region_lit ?_
          refine s_move hm rfl rfl ?_
          clear hm a; intro a hm
          refine s_b2s hm rfl Try.underlying25 Try.underlying5 Try.underlying9 rfl hr_4 (hA.trans hS.old) ?_
          clear hm a; intro a hm
          refine s_assign hm rfl rfl ?_
          clear hm a; intro a hm
          refine wpList_nil ?_
          replace hm : Fr 140 a [(0, v_3), (6, .bool false), (7, v_15), (11, .pointer (some ⟨g_64, 0, none⟩)), (12, .string ⟨t_2.toArray⟩)] := hm.keep [0, 6, 7, 11, 12]
          refine x_then_n ?_
          refine c_seq fun KJ_66 hKJ_66 => ?_
          refine wp_seq ?_
          refine wp_region_lit ?_
          refine s_fieldAddr hm rfl Try.underlying27 rfl ti25 rfl rfl ?_
          clear hm a; intro a hm
          refine s_load hm rfl rfl (hS.load_one (p := 8) rfl Try.underlying25 rfl rfl) ?_
          clear hm a; intro a hm
          refine s_lenO hm rfl Try.underlying25 rfl hr_60 ?_
          clear hm a; intro a hm
          refine s_move hm rfl rfl ?_
          clear hm a; intro a hm
          refine wpList_nil ?_
          replace hm : Fr 140 a [(0, v_3), (6, .bool false), (7, v_15), (11, .pointer (some ⟨g_64, 0, none⟩)), (12, .string ⟨t_2.toArray⟩), (101, .int .i64 (t_55.Val.length : Int)), (102, .int .i64 0)] := hm.keep [0, 6, 7, 11, 12, 101, 102]
          refine x_then_n ?_
          have hJ_j_69 : hocketlaw4_RegsOnce.j_69 K t_11 t_2 = some r → ∀ (a : Act) (w_68 : World), (∃ (N_67 : Mem), Fr 140 a [(0, v_3), (6, .bool false), (7, v_15), (12, .string ⟨t_2.toArray⟩)] ∧ Sep w0 w_68 [N_67, M_17, Mem.no, Mem.no, Mem.no, Mem.no, Mem.no, Mem.no, Mem.no] Z ∧ N_58.le N_67) → KJ_66 a w_68 := by
            clear H hm hS a
            rintro H a w_68 ⟨N_67, hm, hS, le_67⟩
            unfold hocketlaw4_RegsOnce.j_69 at H
            refine hKJ_66 _ _ ?_
            refine c_seq fun KJ_70 hKJ_70 => ?_
            refine wp_seq ?_
            refine wp_region_lit ?_
            refine s_move hm rfl rfl ?_
            clear hm a; intro a hm
            refine s_lenO hm rfl Try.underlying25 rfl hr_16 ?_
            clear hm a; intro a hm
            refine s_move hm rfl rfl ?_
            clear hm a; intro a hm
            refine wpList_nil ?_
            replace hm : Fr 140 a [(0, v_3), (6, .bool false), (7, v_15), (12, .string ⟨t_2.toArray⟩), (114, .int .i64 (t_11.1.length : Int)), (115, .int .i64 0)] := hm.keep [0, 6, 7, 12, 114, 115]
            refine x_then_n ?_
            have hJ_j_73 : hocketlaw4_RegsOnce.j_73 K t_2 = some r → ∀ (a : Act) (w_72 : World), (∃ (N_71 : Mem), Fr 140 a [(0, v_3), (6, .bool false), (12, .string ⟨t_2.toArray⟩)] ∧ Sep w0 w_72 [N_71, Mem.no, Mem.no, Mem.no, Mem.no, Mem.no, Mem.no, Mem.no, Mem.no] Z ∧ N_67.le N_71) → KJ_70 a w_72 := by
              clear H hm hS a
              rintro H a w_72 ⟨N_71, hm, hS, le_71⟩
              unfold hocketlaw4_RegsOnce.j_73 at H
              refine hKJ_70 _ _ ?_
              refine c_seq fun KJ_74 hKJ_74 => ?_
              refine wp_region_lit ?_
              refine s_move hm rfl rfl ?_
              clear hm a; intro a hm
              refine s_b2s hm rfl Try.underlying25 Try.underlying5 Try.underlying9 rfl hr_4 (hA.trans hS.old) ?_
              clear hm a; intro a hm
              refine s_move hm rfl rfl ?_
              clear hm a; intro a hm
              refine s_strEq (b := (t_2 == t_2)) hm rfl rfl rfl (.inl ⟨rfl, rfl⟩) ?_
              clear hm a; intro a hm
              refine s_move hm rfl rfl ?_
              clear hm a; intro a hm
              by_cases hc_75 : t_2 = t_2
              · rw [if_pos hc_75] at H
                refine s_on hm rfl rfl (beq_iff_eq.2 hc_75) ?_
                refine s_move hm rfl rfl ?_
                clear hm a; intro a hm
                refine s_on hm rfl rfl (beq_iff_eq.2 hc_75) ?_
                obtain ⟨t_76, et_76, H⟩ := Option.bind_eq_some_iff.1 H
                refine s_call hm rfl Try.call20 rfl (regs_Read.calls t_2 _ t_76 w0 _ _ _ (Mem.le.refl _) (hS.enter [] (by decide)) (hr_4.mono (hA.trans (hS.le_zed []))) et_76) ?_
                rintro _ w_77 ⟨v_80, N_78, M_82, rfl, hS', hr_81⟩
                clear hm a; intro a hm
                obtain ⟨N_79, hS'', le_79, ln_79⟩ := hS.call [] (by decide) rfl (l' := []) (ow := [M_82]) rfl hS'
                replace hS : Sep w0 w_77 [N_79, Mem.no, Mem.no, Mem.no, Mem.no, Mem.no, Mem.no, Mem.no, Mem.no, M_82] Z := hS''
                clear hS' hS''
                refine s_on hm rfl rfl (beq_iff_eq.2 hc_75) ?_
                refine s_field_one hm rfl Try.underlying27 rfl Try.underlying25 rfl rfl rfl ?_
                clear hm a; intro a hm
                refine s_on hm rfl rfl (beq_iff_eq.2 hc_75) ?_
                refine s_b2s hm rfl Try.underlying25 Try.underlying5 Try.underlying9 rfl (hr_81.rd (J := hp w_77) (hS.own 9) (Mem.no_le _)) (Mem.le.refl _) ?_
                clear hm a; intro a hm
                refine s_on hm rfl rfl (beq_iff_eq.2 hc_75) ?_
                refine s_move hm rfl rfl ?_
                clear hm a; intro a hm
                refine s_on hm rfl rfl (beq_iff_eq.2 hc_75) ?_
                refine s_strEq (b := (t_76.Val == t_2)) hm rfl rfl rfl (.inl ⟨rfl, rfl⟩) ?_
                clear hm a; intro a hm
                refine s_pick_t hm rfl rfl (beq_iff_eq.2 hc_75) rfl ?_
                clear hm a; intro a hm
                refine s_move hm rfl rfl ?_
                clear hm a; intro a hm
                by_cases hc_84 : t_76.Val = t_2
                · rw [if_pos hc_84] at H
                  refine s_on hm rfl rfl (beq_iff_eq.2 hc_84) ?_
                  obtain ⟨t_85, et_85, H⟩ := Option.bind_eq_some_iff.1 H
                  refine s_call hm rfl Try.call16 rfl (hocketlaw4_awake.calls  t_85 w0 _ _ _ (Mem.le.refl _) (hS.enter [] (by decide))  et_85) ?_
                  rintro _ w_86 ⟨N_87, rfl, hS'⟩
                  clear hm a; intro a hm
                  obtain ⟨N_88, hS'', le_88, ln_88⟩ := hS.call [] (by decide) rfl (l' := []) (ow := []) rfl hS'
                  replace hS : Sep w0 w_86 [N_88, Mem.no, Mem.no, Mem.no, Mem.no, Mem.no, Mem.no, Mem.no, Mem.no, M_82] Z := hS''
                  clear hS' hS''
                  refine s_pick_t hm rfl rfl (beq_iff_eq.2 hc_84) rfl ?_
                  clear hm a; intro a hm
                  refine s_assign hm rfl rfl ?_
                  clear hm a; intro a hm
                  refine wpList_nil ?_
                  replace hm : Fr 140 a [(6, .bool true)] := hm.keep [6]
                  refine x_then_n (hKJ_74 _ _ ?_)
                  refine wp_ret ?_
                  exact f_ret hm (rs := [.tmp 6]) rfl (.tmp rfl .nil) ⟨_, rfl, N_88, rfl, (Sep.sel hS [0] (by decide))⟩
                · rw [if_neg hc_84] at H
                  cases H
              · rw [if_neg hc_75] at H
                cases H
            clear hKJ_70
            replace hS : Sep w0 w_68 [N_67, M_17, Mem.no, Mem.no, Mem.no, Mem.no, Mem.no, Mem.no, Mem.no] Z := hS
            replace hm : Fr 140 a [(0, v_3), (6, .bool false), (7, v_15), (12, .string ⟨t_2.toArray⟩), (114, .int .i64 (t_11.1.length : Int)), (115, .int .i64 0)] := hm.keep [0, 6, 7, 12, 114, 115]
            refine c_block ?_
            refine c_loop (fun k_96 a w_96 => ∃ (x_90 : List UInt8) (x_95 : Int) (v_93 : Value) (N_89 : Mem) (M_91 : Mem), hocketlaw4_RegsOnce.l_96 K t_11 (fun v => hocketlaw4_RegsOnce.j_73 K t_2) k_96 (x_90, x_95) = some r ∧ Fr 140 a [(0, v_3), (6, .bool false), (7, v_93), (12, .string ⟨t_2.toArray⟩), (114, .int .i64 (t_11.1.length : Int)), (115, .int .i64 x_95)] ∧ Sep w0 w_96 [N_89, M_91, Mem.no, Mem.no, Mem.no, Mem.no, Mem.no, Mem.no, Mem.no] Z ∧ N_67.le N_89 ∧ Own Kd.u8 5 M_91 Mem.no v_93 x_90) K ⟨t_11.1, 0, v_15, N_67, M_17, H, hm, (Sep.sel hS [0, 1, 1001, 1002, 1003, 1004, 1005, 1006, 1007] (by decide)), (Mem.le.refl _), hr_16⟩ (fun a w h => by obtain ⟨_, _, _, _, _, H, _⟩ := h; cases (show (none : Option (Unit)) = some r from H)) ?_
            clear hm hS a H
            rintro k_96 a w_96 KL_96 hKL_96 ⟨x_90, x_95, v_93, N_89, M_91, H, hm, hS, le_89, ho_94⟩
            replace H : hocketlaw4_RegsOnce.b_96 K t_11 (fun v => hocketlaw4_RegsOnce.j_73 K t_2) (hocketlaw4_RegsOnce.l_96 K t_11 (fun v => hocketlaw4_RegsOnce.j_73 K t_2) k_96) x_90 x_95 = some r := H
            unfold hocketlaw4_RegsOnce.b_96 at H
            refine wp_seq ?_
            refine wp_region_lit ?_
            refine s_cmp (b := decide (x_95 < (t_11.1.length : Int))) hm rfl rfl rfl (.inr (.inr (.inl ⟨rfl, rfl⟩))) ?_
            clear hm a; intro a hm
            refine wpList_nil ?_
            replace hm : Fr 140 a [(0, v_3), (6, .bool false), (7, v_93), (12, .string ⟨t_2.toArray⟩), (114, .int .i64 (t_11.1.length : Int)), (115, .int .i64 x_95), (116, .bool (decide (x_95 < (t_11.1.length : Int))))] := hm.keep [0, 6, 7, 12, 114, 115, 116]
            refine x_then_n ?_
            refine c_seq fun KJ_98 hKJ_98 => ?_
            by_cases hc_99 : x_95 < (t_11.1.length : Int)
            · rw [if_pos hc_99] at H
              refine c_cond_t hm rfl (decide_eq_true hc_99) ?_
              refine wp_skip ?_
              refine x_then_n (hKJ_98 _ _ ?_)
              refine wp_seq ?_
              refine c_block ?_
              refine wp_seq ?_
              refine wp_region_lit ?_
              refine s_move hm rfl rfl ?_
              clear hm a; intro a hm
              refine s_assign hm rfl rfl ?_
              clear hm a; intro a hm
              refine wpList_nil ?_
              replace hm : Fr 140 a [(0, v_3), (6, .bool false), (7, v_93), (12, .string ⟨t_2.toArray⟩), (14, .int .i64 x_95), (114, .int .i64 (t_11.1.length : Int)), (115, .int .i64 x_95)] := hm.keep [0, 6, 7, 12, 14, 114, 115]
              refine x_then_n ?_
              refine wp_region_lit ?_
              refine s_move hm rfl rfl ?_
              clear hm a; intro a hm
              refine s_move hm rfl rfl ?_
              clear hm a; intro a hm
              obtain ⟨t_100, et_100, H⟩ := Option.bind_eq_some_iff.1 H
              refine v_indexO hm rfl Try.underlying25 ti5 rfl rfl rfl ho_94 (hS.own 1) et_100 ?_
              intro ad_101 cs_102 hk_103 hc_104
              obtain rfl := (show cs_102 = [.int .u8 (t_100.toNat : Int)] from hk_103)
              clear hm a; intro a hm
              refine s_load hm rfl rfl (el_one (o := 0) hc_104 Try.underlying5 rfl rfl) ?_
              clear hm a; intro a hm
              refine s_arith (r := ((toU8 ((t_100.toNat : Int) + ((1 : UInt8).toNat : Int))).toNat : Int)) hm rfl rfl rfl (.inl ⟨rfl, (wrap_u8 _).symm⟩) ?_
              clear hm a; intro a hm
              obtain ⟨t_105, et_105, H⟩ := Option.bind_eq_some_iff.1 H
              refine s_indexOwn hm rfl Try.underlying25 ti5 rfl rfl rfl ho_94 et_105 ?_
              intro g_106 cur_107 hM_108
              clear hm a; intro a hm
              obtain ⟨w_109, M_110, hs', hS', ho_111⟩ := Own.stored (P := Try.prog) (p := 1) (t := 5) (o := 0) (nv := .int .u8 ((toU8 ((t_100.toNat : Int) + ((1 : UInt8).toNat : Int))).toNat : Int)) (vs := [.int .u8 ((toU8 ((t_100.toNat : Int) + ((1 : UInt8).toNat : Int))).toNat : Int)]) (u' := toU8 ((t_100.toNat : Int) + ((1 : UInt8).toNat : Int))) hS rfl ho_94 hM_108 et_105 ti5 rfl rfl rfl (by intro u hu; simp only [List.mem_cons, List.not_mem_nil, or_false] at hu; rcases hu with rfl <;> rfl) (fun cs hk => by obtain rfl := (show cs = [_] from hk); rfl)
              refine s_store hm rfl rfl hs' ?_
              replace hS : Sep w0 w_109 [N_89, M_110, Mem.no, Mem.no, Mem.no, Mem.no, Mem.no, Mem.no, Mem.no] Z := hS'
              clear hs' hS'
              refine wpList_nil ?_
              replace hm : Fr 140 a [(0, v_3), (6, .bool false), (7, v_93), (12, .string ⟨t_2.toArray⟩), (114, .int .i64 (t_11.1.length : Int)), (115, .int .i64 x_95)] := hm.keep [0, 6, 7, 12, 114, 115]
              refine x_block_n ?_
              refine x_then_n ?_
              refine wp_region_lit ?_
              refine s_arith (r := w64 (x_95 + 1)) hm rfl rfl rfl (.inl ⟨rfl, rfl⟩) ?_
              clear hm a; intro a hm
              refine s_move hm rfl rfl ?_
              clear hm a; intro a hm
              refine wpList_nil ?_
              replace hm : Fr 140 a [(0, v_3), (6, .bool false), (7, v_93), (12, .string ⟨t_2.toArray⟩), (114, .int .i64 (t_11.1.length : Int)), (115, .int .i64 (w64 (x_95 + 1)))] := hm.keep [0, 6, 7, 12, 114, 115]
              refine x_then_n (hKL_96 _ _ ?_)
              replace hS : Sep w0 w_109 [N_89, M_110, Mem.no, Mem.no, Mem.no, Mem.no, Mem.no, Mem.no, Mem.no] Z := hS
              replace hm : Fr 140 a [(0, v_3), (6, .bool false), (7, v_93), (12, .string ⟨t_2.toArray⟩), (114, .int .i64 (t_11.1.length : Int)), (115, .int .i64 (w64 (x_95 + 1)))] := hm.keep [0, 6, 7, 12, 114, 115]
              exact ⟨(x_90.set (x_95).toNat (toU8 ((t_100.toNat : Int) + ((1 : UInt8).toNat : Int)))), w64 (x_95 + 1), v_93, N_89, M_110, H, hm, (Sep.sel hS [0, 1, 1001, 1002, 1003, 1004, 1005, 1006, 1007] (by decide)), le_89, ho_111⟩
            · rw [if_neg hc_99] at H
              refine c_cond_f hm rfl (decide_eq_false hc_99) ?_
              refine wp_exit (x_then_x (x_then_x (x_block_t ?_)))
              replace hS : Sep w0 w_96 [N_89, M_91, Mem.no, Mem.no, Mem.no, Mem.no, Mem.no, Mem.no, Mem.no] Z := hS
              replace hm : Fr 140 a [(0, v_3), (6, .bool false), (12, .string ⟨t_2.toArray⟩)] := hm.keep [0, 6, 12]
              exact x_then_n (hJ_j_73  H _ _ ⟨N_89, hm, (Sep.sel hS [0, 1000, 1001, 1002, 1003, 1004, 1005, 1006, 1007] (by decide)), le_89⟩)
          clear hKJ_66
          replace hS : Sep w0 w_65 [N_58, M_17, Mem.no, Mem.no, Mem.no, Mem.no, Mem.no, M_61, Mem.one g_64 (.cells ([.int .i64 t_55.Err, v_59, .int .i64 t_55.N] : List Value).toArray 27 (0, 0))] Z := hS
          replace hm : Fr 140 a [(0, v_3), (6, .bool false), (7, v_15), (11, .pointer (some ⟨g_64, 0, none⟩)), (12, .string ⟨t_2.toArray⟩), (101, .int .i64 (t_55.Val.length : Int)), (102, .int .i64 0)] := hm.keep [0, 6, 7, 11, 12, 101, 102]
          refine c_block ?_
          refine c_loop (fun k_119 a w_119 => ∃ (x_113 : Int) (x_114 : List UInt8) (v_117 : Value) (N_112 : Mem) (M_115 : Mem), hocketlaw4_RegsOnce.l_119 K t_55 (fun v => hocketlaw4_RegsOnce.j_69 K t_11 t_2) k_119 (x_113, x_114) = some r ∧ Fr 140 a [(0, v_3), (6, .bool false), (7, v_15), (11, .pointer (some ⟨g_64, 0, none⟩)), (12, .string ⟨t_2.toArray⟩), (101, .int .i64 (t_55.Val.length : Int)), (102, .int .i64 x_113)] ∧ Sep w0 w_119 [N_112, M_17, Mem.no, Mem.no, Mem.no, Mem.no, Mem.no, M_115, Mem.one g_64 (.cells ([.int .i64 t_55.Err, v_117, .int .i64 t_55.N] : List Value).toArray 27 (0, 0))] Z ∧ N_58.le N_112 ∧ Own Kd.u8 5 M_115 Mem.no v_117 x_114) K ⟨0, t_55.Val, v_59, N_58, M_61, H, hm, (Sep.sel hS [0, 1, 1001, 1002, 1003, 1004, 1005, 7, 8] (by decide)), (Mem.le.refl _), hr_60⟩ (fun a w h => by obtain ⟨_, _, _, _, _, H, _⟩ := h; cases (show (none : Option (Unit)) = some r from H)) ?_
          clear hm hS a H
          rintro k_119 a w_119 KL_119 hKL_119 ⟨x_113, x_114, v_117, N_112, M_115, H, hm, hS, le_112, ho_118⟩
          replace H : hocketlaw4_RegsOnce.b_119 K t_55 (fun v => hocketlaw4_RegsOnce.j_69 K t_11 t_2) (hocketlaw4_RegsOnce.l_119 K t_55 (fun v => hocketlaw4_RegsOnce.j_69 K t_11 t_2) k_119) x_113 x_114 = some r := H
          unfold hocketlaw4_RegsOnce.b_119 at H
          refine wp_seq ?_
          refine wp_region_lit ?_
          refine s_cmp (b := decide (x_113 < (t_55.Val.length : Int))) hm rfl rfl rfl (.inr (.inr (.inl ⟨rfl, rfl⟩))) ?_
          clear hm a; intro a hm
          refine wpList_nil ?_
          replace hm : Fr 140 a [(0, v_3), (6, .bool false), (7, v_15), (11, .pointer (some ⟨g_64, 0, none⟩)), (12, .string ⟨t_2.toArray⟩), (101, .int .i64 (t_55.Val.length : Int)), (102, .int .i64 x_113), (103, .bool (decide (x_113 < (t_55.Val.length : Int))))] := hm.keep [0, 6, 7, 11, 12, 101, 102, 103]
          refine x_then_n ?_
          refine c_seq fun KJ_121 hKJ_121 => ?_
          by_cases hc_122 : x_113 < (t_55.Val.length : Int)
          · rw [if_pos hc_122] at H
            refine c_cond_t hm rfl (decide_eq_true hc_122) ?_
            refine wp_skip ?_
            refine x_then_n (hKJ_121 _ _ ?_)
            refine wp_seq ?_
            refine c_block ?_
            refine wp_seq ?_
            refine wp_region_lit ?_
            refine s_move hm rfl rfl ?_
            clear hm a; intro a hm
            refine s_assign hm rfl rfl ?_
            clear hm a; intro a hm
            refine wpList_nil ?_
            replace hm : Fr 140 a [(0, v_3), (6, .bool false), (7, v_15), (11, .pointer (some ⟨g_64, 0, none⟩)), (12, .string ⟨t_2.toArray⟩), (13, .int .i64 x_113), (101, .int .i64 (t_55.Val.length : Int)), (102, .int .i64 x_113)] := hm.keep [0, 6, 7, 11, 12, 13, 101, 102]
            refine x_then_n ?_
            refine wp_region_lit ?_
            refine s_fieldAddr hm rfl Try.underlying27 rfl ti25 rfl rfl ?_
            clear hm a; intro a hm
            refine s_load hm rfl rfl (hS.load_one (p := 8) rfl Try.underlying25 rfl rfl) ?_
            clear hm a; intro a hm
            refine s_move hm rfl rfl ?_
            clear hm a; intro a hm
            obtain ⟨t_123, et_123, H⟩ := Option.bind_eq_some_iff.1 H
            refine v_indexO hm rfl Try.underlying25 ti5 rfl rfl rfl ho_118 (hS.own 7) et_123 ?_
            intro ad_124 cs_125 hk_126 hc_127
            obtain rfl := (show cs_125 = [.int .u8 (t_123.toNat : Int)] from hk_126)
            clear hm a; intro a hm
            refine s_load hm rfl rfl (el_one (o := 0) hc_127 Try.underlying5 rfl rfl) ?_
            clear hm a; intro a hm
            refine s_arith (r := ((toU8 ((t_123.toNat : Int) + ((1 : UInt8).toNat : Int))).toNat : Int)) hm rfl rfl rfl (.inl ⟨rfl, (wrap_u8 _).symm⟩) ?_
            clear hm a; intro a hm
            obtain ⟨t_128, et_128, H⟩ := Option.bind_eq_some_iff.1 H
            refine s_indexOwn hm rfl Try.underlying25 ti5 rfl rfl rfl ho_118 et_128 ?_
            intro g_129 cur_130 hM_131
            clear hm a; intro a hm
            obtain ⟨w_132, M_133, hs', hS', ho_134⟩ := Own.stored (P := Try.prog) (p := 7) (t := 5) (o := 0) (nv := .int .u8 ((toU8 ((t_123.toNat : Int) + ((1 : UInt8).toNat : Int))).toNat : Int)) (vs := [.int .u8 ((toU8 ((t_123.toNat : Int) + ((1 : UInt8).toNat : Int))).toNat : Int)]) (u' := toU8 ((t_123.toNat : Int) + ((1 : UInt8).toNat : Int))) hS rfl ho_118 hM_131 et_128 ti5 rfl rfl rfl (by intro u hu; simp only [List.mem_cons, List.not_mem_nil, or_false] at hu; rcases hu with rfl <;> rfl) (fun cs hk => by obtain rfl := (show cs = [_] from hk); rfl)
            refine s_store hm rfl rfl hs' ?_
            replace hS : Sep w0 w_132 [N_112, M_17, Mem.no, Mem.no, Mem.no, Mem.no, Mem.no, M_133, Mem.one g_64 (.cells ([.int .i64 t_55.Err, v_117, .int .i64 t_55.N] : List Value).toArray 27 (0, 0))] Z := hS'
            clear hs' hS'
            refine wpList_nil ?_
            replace hm : Fr 140 a [(0, v_3), (6, .bool false), (7, v_15), (11, .pointer (some ⟨g_64, 0, none⟩)), (12, .string ⟨t_2.toArray⟩), (101, .int .i64 (t_55.Val.length : Int)), (102, .int .i64 x_113)] := hm.keep [0, 6, 7, 11, 12, 101, 102]
            refine x_block_n ?_
            refine x_then_n ?_
            refine wp_region_lit ?_
            refine s_arith (r := w64 (x_113 + 1)) hm rfl rfl rfl (.inl ⟨rfl, rfl⟩) ?_
            clear hm a; intro a hm
            refine s_move hm rfl rfl ?_
            clear hm a; intro a hm
            refine wpList_nil ?_
            replace hm : Fr 140 a [(0, v_3), (6, .bool false), (7, v_15), (11, .pointer (some ⟨g_64, 0, none⟩)), (12, .string ⟨t_2.toArray⟩), (101, .int .i64 (t_55.Val.length : Int)), (102, .int .i64 (w64 (x_113 + 1)))] := hm.keep [0, 6, 7, 11, 12, 101, 102]
            refine x_then_n (hKL_119 _ _ ?_)
            replace hS : Sep w0 w_132 [N_112, M_17, Mem.no, Mem.no, Mem.no, Mem.no, Mem.no, M_133, Mem.one g_64 (.cells ([.int .i64 t_55.Err, v_117, .int .i64 t_55.N] : List Value).toArray 27 (0, 0))] Z := hS
            replace hm : Fr 140 a [(0, v_3), (6, .bool false), (7, v_15), (11, .pointer (some ⟨g_64, 0, none⟩)), (12, .string ⟨t_2.toArray⟩), (101, .int .i64 (t_55.Val.length : Int)), (102, .int .i64 (w64 (x_113 + 1)))] := hm.keep [0, 6, 7, 11, 12, 101, 102]
            exact ⟨w64 (x_113 + 1), (x_114.set (x_113).toNat (toU8 ((t_123.toNat : Int) + ((1 : UInt8).toNat : Int)))), v_117, N_112, M_133, H, hm, (Sep.sel hS [0, 1, 1001, 1002, 1003, 1004, 1005, 7, 8] (by decide)), le_112, ho_134⟩
          · rw [if_neg hc_122] at H
            refine c_cond_f hm rfl (decide_eq_false hc_122) ?_
            refine wp_exit (x_then_x (x_then_x (x_block_t ?_)))
            replace hS : Sep w0 w_119 [N_112, M_17, Mem.no, Mem.no, Mem.no, Mem.no, Mem.no, M_115, Mem.one g_64 (.cells ([.int .i64 t_55.Err, v_117, .int .i64 t_55.N] : List Value).toArray 27 (0, 0))] Z := hS
            replace hm : Fr 140 a [(0, v_3), (6, .bool false), (7, v_15), (12, .string ⟨t_2.toArray⟩)] := hm.keep [0, 6, 7, 12]
            exact x_then_n (hJ_j_69  H _ _ ⟨N_112, hm, (Sep.sel hS [0, 1, 1001, 1002, 1003, 1004, 1005, 1006, 1007] (by decide)), le_112⟩)
      clear hKJ_49
      refine wp_region_lit ?_
      refine s_fieldAddr hm rfl Try.underlying27 rfl ti22 rfl rfl ?_
      clear hm a; intro a hm
      refine s_load hm rfl rfl (hS.load_one (p := 6) rfl Try.underlying22 rfl rfl) ?_
      clear hm a; intro a hm
      refine s_cmp (b := (t_26.2.Err == 0)) hm rfl rfl rfl (.inl ⟨rfl, rfl⟩) ?_
      clear hm a; intro a hm
      refine s_move hm rfl rfl ?_
      clear hm a; intro a hm
      refine s_b2s hm rfl Try.underlying25 Try.underlying5 Try.underlying9 rfl hr_7 (hA.trans hS.old) ?_
      clear hm a; intro a hm
      refine s_move hm rfl rfl ?_
      clear hm a; intro a hm
      refine s_b2s hm rfl Try.underlying25 Try.underlying5 Try.underlying9 rfl hr_4 (hA.trans hS.old) ?_
      clear hm a; intro a hm
      refine s_strEq (b := (t_5 == t_2)) hm rfl rfl rfl (.inl ⟨rfl, rfl⟩) ?_
      clear hm a; intro a hm
      refine s_beq (b := !((t_26.2.Err == 0) == (t_5 == t_2))) hm rfl Try.underlying4 rfl rfl (.inr ⟨rfl, rfl⟩) ?_
      clear hm a; intro a hm
      refine s_move hm rfl rfl ?_
      clear hm a; intro a hm
      by_cases hc_135 : (t_26.2.Err == 0) = (t_5 == t_2)
      · rw [if_pos hc_135] at H
        refine s_on hm rfl rfl (nf (beq_iff_eq.2 hc_135)) ?_
        refine s_fieldAddr hm rfl Try.underlying27 rfl ti22 rfl rfl ?_
        clear hm a; intro a hm
        refine s_on hm rfl rfl (nf (beq_iff_eq.2 hc_135)) ?_
        refine s_load hm rfl rfl (hS.load_one (p := 6) rfl Try.underlying22 rfl rfl) ?_
        clear hm a; intro a hm
        refine s_on hm rfl rfl (nf (beq_iff_eq.2 hc_135)) ?_
        refine s_cmp (b := (t_26.2.Err == 0)) hm rfl rfl rfl (.inl ⟨rfl, rfl⟩) ?_
        clear hm a; intro a hm
        refine s_on hm rfl rfl (nf (beq_iff_eq.2 hc_135)) ?_
        refine s_move hm rfl rfl ?_
        clear hm a; intro a hm
        by_cases hc_136 : t_26.2.Err = 0
        · rw [if_pos hc_136] at H
          refine s_on hm rfl rfl (beq_iff_eq.2 hc_136) ?_
          refine s_move hm rfl rfl ?_
          clear hm a; intro a hm
          refine s_on hm rfl rfl (beq_iff_eq.2 hc_136) ?_
          refine s_b2s hm rfl Try.underlying25 Try.underlying5 Try.underlying9 rfl (hr_31.rd (J := hp w_45) (hS.own 4) (Mem.no_le _)) (Mem.le.refl _) ?_
          clear hm a; intro a hm
          refine s_on hm rfl rfl (beq_iff_eq.2 hc_136) ?_
          refine s_move hm rfl rfl ?_
          clear hm a; intro a hm
          refine s_on hm rfl rfl (beq_iff_eq.2 hc_136) ?_
          refine s_b2s hm rfl Try.underlying25 Try.underlying5 Try.underlying9 rfl hr_10 (hA.trans hS.old) ?_
          clear hm a; intro a hm
          refine s_on hm rfl rfl (beq_iff_eq.2 hc_136) ?_
          refine s_strEq (b := !(t_26.1 == t_8)) hm rfl rfl rfl (.inr ⟨rfl, rfl⟩) ?_
          clear hm a; intro a hm
          refine s_on hm rfl rfl (nf (beq_iff_eq.2 hc_135)) ?_
          refine s_pick_t hm rfl rfl (beq_iff_eq.2 hc_136) rfl ?_
          clear hm a; intro a hm
          refine s_pick_f hm rfl rfl (nf (beq_iff_eq.2 hc_135)) rfl ?_
          clear hm a; intro a hm
          refine s_move hm rfl rfl ?_
          clear hm a; intro a hm
          by_cases hc_137 : t_26.1 = t_8
          · rw [if_pos hc_137] at H
            refine s_on hm rfl rfl (nf (beq_iff_eq.2 hc_137)) ?_
            refine s_fieldAddr hm rfl Try.underlying27 rfl ti22 rfl rfl ?_
            clear hm a; intro a hm
            refine s_on hm rfl rfl (nf (beq_iff_eq.2 hc_137)) ?_
            refine s_load hm rfl rfl (hS.load_one (p := 6) rfl Try.underlying22 rfl rfl) ?_
            clear hm a; intro a hm
            refine s_on hm rfl rfl (nf (beq_iff_eq.2 hc_137)) ?_
            refine s_cmp (b := (t_26.2.Err != 0)) hm rfl rfl rfl (.inr (.inl ⟨rfl, rfl⟩)) ?_
            clear hm a; intro a hm
            refine s_on hm rfl rfl (nf (beq_iff_eq.2 hc_137)) ?_
            refine s_move hm rfl rfl ?_
            clear hm a; intro a hm
            refine s_off hm rfl rfl rfl (bne_eq_false_iff_eq.2 hc_136) ?_
            clear hm a; intro a hm
            refine s_off hm rfl rfl rfl (bne_eq_false_iff_eq.2 hc_136) ?_
            clear hm a; intro a hm
            refine s_off hm rfl rfl rfl (bne_eq_false_iff_eq.2 hc_136) ?_
            clear hm a; intro a hm
            refine s_off hm rfl rfl rfl (bne_eq_false_iff_eq.2 hc_136) ?_
            clear hm a; intro a hm
            refine s_off hm rfl rfl rfl (bne_eq_false_iff_eq.2 hc_136) ?_
            clear hm a; intro a hm
            refine s_off hm rfl rfl rfl (bne_eq_false_iff_eq.2 hc_136) ?_
            clear hm a; intro a hm
            refine s_offu hm rfl rfl rfl ?_
            clear hm a; intro a hm
            refine s_offu hm rfl rfl rfl ?_
            clear hm a; intro a hm
            refine s_offu hm rfl rfl rfl ?_
            clear hm a; intro a hm
            refine s_offu hm rfl rfl rfl ?_
            clear hm a; intro a hm
            refine s_offu hm rfl rfl rfl ?_
            clear hm a; intro a hm
            refine s_offu hm rfl rfl rfl ?_
            clear hm a; intro a hm
            refine s_off hm rfl rfl rfl (bne_eq_false_iff_eq.2 hc_136) ?_
            clear hm a; intro a hm
            refine s_on hm rfl rfl (nf (beq_iff_eq.2 hc_137)) ?_
            refine s_pick_f hm rfl rfl (bne_eq_false_iff_eq.2 hc_136) rfl ?_
            clear hm a; intro a hm
            refine s_pick_f hm rfl rfl (nf (beq_iff_eq.2 hc_137)) rfl ?_
            clear hm a; intro a hm
            refine wpList_nil ?_
            replace hm : Fr 140 a [(0, v_3), (6, .bool false), (7, v_15), (94, .bool false)] := hm.keep [0, 6, 7, 94]
            replace hS : Sep w0 w_45 [N_43, M_17, Mem.no, Mem.no, M_32, M_36, Mem.one g_39 (.cells ([.int .i64 t_26.2.Err, v_34, .int .i64 t_26.2.N] : List Value).toArray 27 (0, 0))] Z := hS
            replace hm : Fr 140 a [(0, v_3), (6, .bool false), (7, v_15), (94, .bool false)] := hm.keep [0, 6, 7, 94]
            exact x_then_n (hJ_j_53 false H _ _ ⟨N_43, hm, (Sep.sel hS [0, 1, 1001, 1002, 1003, 1004, 1005] (by decide)), (Mem.le.refl _)⟩)
          · rw [if_neg hc_137] at H
            refine s_off hm rfl rfl rfl (nt (beq_eq_false_iff_ne.2 hc_137)) ?_
            clear hm a; intro a hm
            refine s_off hm rfl rfl rfl (nt (beq_eq_false_iff_ne.2 hc_137)) ?_
            clear hm a; intro a hm
            refine s_off hm rfl rfl rfl (nt (beq_eq_false_iff_ne.2 hc_137)) ?_
            clear hm a; intro a hm
            refine s_off hm rfl rfl rfl (nt (beq_eq_false_iff_ne.2 hc_137)) ?_
            clear hm a; intro a hm
            refine s_offu hm rfl rfl rfl ?_
            clear hm a; intro a hm
            refine s_offu hm rfl rfl rfl ?_
            clear hm a; intro a hm
            refine s_offu hm rfl rfl rfl ?_
            clear hm a; intro a hm
            refine s_offu hm rfl rfl rfl ?_
            clear hm a; intro a hm
            refine s_offu hm rfl rfl rfl ?_
            clear hm a; intro a hm
            refine s_offu hm rfl rfl rfl ?_
            clear hm a; intro a hm
            refine s_offu hm rfl rfl rfl ?_
            clear hm a; intro a hm
            refine s_offu hm rfl rfl rfl ?_
            clear hm a; intro a hm
            refine s_offu hm rfl rfl rfl ?_
            clear hm a; intro a hm
            refine s_offu hm rfl rfl rfl ?_
            clear hm a; intro a hm
            refine s_offu hm rfl rfl rfl ?_
            clear hm a; intro a hm
            refine s_offu hm rfl rfl rfl ?_
            clear hm a; intro a hm
            refine s_offu hm rfl rfl rfl ?_
            clear hm a; intro a hm
            refine s_off hm rfl rfl rfl (nt (beq_eq_false_iff_ne.2 hc_137)) ?_
            clear hm a; intro a hm
            refine s_pick_t hm rfl rfl (nt (beq_eq_false_iff_ne.2 hc_137)) rfl ?_
            clear hm a; intro a hm
            refine wpList_nil ?_
            replace hm : Fr 140 a [(0, v_3), (6, .bool false), (7, v_15), (94, .bool true)] := hm.keep [0, 6, 7, 94]
            replace hS : Sep w0 w_45 [N_43, M_17, Mem.no, Mem.no, M_32, M_36, Mem.one g_39 (.cells ([.int .i64 t_26.2.Err, v_34, .int .i64 t_26.2.N] : List Value).toArray 27 (0, 0))] Z := hS
            replace hm : Fr 140 a [(0, v_3), (6, .bool false), (7, v_15), (94, .bool true)] := hm.keep [0, 6, 7, 94]
            exact x_then_n (hJ_j_53 true H _ _ ⟨N_43, hm, (Sep.sel hS [0, 1, 1001, 1002, 1003, 1004, 1005] (by decide)), (Mem.le.refl _)⟩)
        · rw [if_neg hc_136] at H
          refine s_off hm rfl rfl rfl (beq_eq_false_iff_ne.2 hc_136) ?_
          clear hm a; intro a hm
          refine s_off hm rfl rfl rfl (beq_eq_false_iff_ne.2 hc_136) ?_
          clear hm a; intro a hm
          refine s_off hm rfl rfl rfl (beq_eq_false_iff_ne.2 hc_136) ?_
          clear hm a; intro a hm
          refine s_off hm rfl rfl rfl (beq_eq_false_iff_ne.2 hc_136) ?_
          clear hm a; intro a hm
          refine s_off hm rfl rfl rfl (beq_eq_false_iff_ne.2 hc_136) ?_
          clear hm a; intro a hm
          refine s_on hm rfl rfl (nf (beq_iff_eq.2 hc_135)) ?_
          refine s_pick_f hm rfl rfl (beq_eq_false_iff_ne.2 hc_136) rfl ?_
          clear hm a; intro a hm
          refine s_pick_f hm rfl rfl (nf (beq_iff_eq.2 hc_135)) rfl ?_
          clear hm a; intro a hm
          refine s_move hm rfl rfl ?_
          clear hm a; intro a hm
          refine s_on hm rfl rfl rfl ?_
          refine s_fieldAddr hm rfl Try.underlying27 rfl ti22 rfl rfl ?_
          clear hm a; intro a hm
          refine s_on hm rfl rfl rfl ?_
          refine s_load hm rfl rfl (hS.load_one (p := 6) rfl Try.underlying22 rfl rfl) ?_
          clear hm a; intro a hm
          refine s_on hm rfl rfl rfl ?_
          refine s_cmp (b := (t_26.2.Err != 0)) hm rfl rfl rfl (.inr (.inl ⟨rfl, rfl⟩)) ?_
          clear hm a; intro a hm
          refine s_on hm rfl rfl rfl ?_
          refine s_move hm rfl rfl ?_
          clear hm a; intro a hm
          refine s_on hm rfl rfl (bne_iff_ne.2 hc_136) ?_
          refine s_move hm rfl rfl ?_
          clear hm a; intro a hm
          refine s_on hm rfl rfl (bne_iff_ne.2 hc_136) ?_
          refine s_b2s hm rfl Try.underlying25 Try.underlying5 Try.underlying9 rfl (hr_31.rd (J := hp w_45) (hS.own 4) (Mem.no_le _)) (Mem.le.refl _) ?_
          clear hm a; intro a hm
          refine s_on hm rfl rfl (bne_iff_ne.2 hc_136) ?_
          refine s_move hm rfl rfl ?_
          clear hm a; intro a hm
          refine s_on hm rfl rfl (bne_iff_ne.2 hc_136) ?_
          refine s_b2s hm rfl Try.underlying25 Try.underlying5 Try.underlying9 rfl hr_7 (hA.trans hS.old) ?_
          clear hm a; intro a hm
          refine s_on hm rfl rfl (bne_iff_ne.2 hc_136) ?_
          refine s_strEq (b := !(t_26.1 == t_5)) hm rfl rfl rfl (.inr ⟨rfl, rfl⟩) ?_
          clear hm a; intro a hm
          refine s_on hm rfl rfl (bne_iff_ne.2 hc_136) ?_
          refine s_move hm rfl rfl ?_
          clear hm a; intro a hm
          by_cases hc_138 : t_26.1 = t_5
          · rw [if_pos hc_138] at H
            refine s_on hm rfl rfl (nf (beq_iff_eq.2 hc_138)) ?_
            refine s_fieldAddr hm rfl Try.underlying27 rfl ti25 rfl rfl ?_
            clear hm a; intro a hm
            refine s_on hm rfl rfl (nf (beq_iff_eq.2 hc_138)) ?_
            refine s_load hm rfl rfl (hS.load_one (p := 6) rfl Try.underlying25 rfl rfl) ?_
            clear hm a; intro a hm
            refine s_on hm rfl rfl (nf (beq_iff_eq.2 hc_138)) ?_
            refine s_b2s hm rfl Try.underlying25 Try.underlying5 Try.underlying9 rfl (hr_35.rd (J := hp w_45) (hS.own 5) (Mem.no_le _)) (Mem.le.refl _) ?_
            clear hm a; intro a hm
            refine s_on hm rfl rfl (nf (beq_iff_eq.2 hc_138)) ?_
            refine s_move hm rfl rfl ?_
            clear hm a; intro a hm
            refine s_on hm rfl rfl (nf (beq_iff_eq.2 hc_138)) ?_
            refine s_b2s hm rfl Try.underlying25 Try.underlying5 Try.underlying9 rfl hr_7 (hA.trans hS.old) ?_
            clear hm a; intro a hm
            refine s_on hm rfl rfl (nf (beq_iff_eq.2 hc_138)) ?_
            refine s_strEq (b := !(t_26.2.Val == t_5)) hm rfl rfl rfl (.inr ⟨rfl, rfl⟩) ?_
            clear hm a; intro a hm
            refine s_on hm rfl rfl (bne_iff_ne.2 hc_136) ?_
            refine s_pick_f hm rfl rfl (nf (beq_iff_eq.2 hc_138)) rfl ?_
            clear hm a; intro a hm
            refine s_on hm rfl rfl rfl ?_
            refine s_pick_t hm rfl rfl (bne_iff_ne.2 hc_136) rfl ?_
            clear hm a; intro a hm
            refine s_pick_f hm rfl rfl rfl rfl ?_
            clear hm a; intro a hm
            refine wpList_nil ?_
            replace hm : Fr 140 a [(0, v_3), (6, .bool false), (7, v_15), (94, .bool (!(t_26.2.Val == t_5)))] := hm.keep [0, 6, 7, 94]
            replace hS : Sep w0 w_45 [N_43, M_17, Mem.no, Mem.no, M_32, M_36, Mem.one g_39 (.cells ([.int .i64 t_26.2.Err, v_34, .int .i64 t_26.2.N] : List Value).toArray 27 (0, 0))] Z := hS
            replace hm : Fr 140 a [(0, v_3), (6, .bool false), (7, v_15), (94, .bool (!(t_26.2.Val == t_5)))] := hm.keep [0, 6, 7, 94]
            exact x_then_n (hJ_j_53 (!(t_26.2.Val == t_5)) H _ _ ⟨N_43, hm, (Sep.sel hS [0, 1, 1001, 1002, 1003, 1004, 1005] (by decide)), (Mem.le.refl _)⟩)
          · rw [if_neg hc_138] at H
            refine s_off hm rfl rfl rfl (nt (beq_eq_false_iff_ne.2 hc_138)) ?_
            clear hm a; intro a hm
            refine s_off hm rfl rfl rfl (nt (beq_eq_false_iff_ne.2 hc_138)) ?_
            clear hm a; intro a hm
            refine s_off hm rfl rfl rfl (nt (beq_eq_false_iff_ne.2 hc_138)) ?_
            clear hm a; intro a hm
            refine s_off hm rfl rfl rfl (nt (beq_eq_false_iff_ne.2 hc_138)) ?_
            clear hm a; intro a hm
            refine s_off hm rfl rfl rfl (nt (beq_eq_false_iff_ne.2 hc_138)) ?_
            clear hm a; intro a hm
            refine s_off hm rfl rfl rfl (nt (beq_eq_false_iff_ne.2 hc_138)) ?_
            clear hm a; intro a hm
            refine s_on hm rfl rfl (bne_iff_ne.2 hc_136) ?_
            refine s_pick_t hm rfl rfl (nt (beq_eq_false_iff_ne.2 hc_138)) rfl ?_
            clear hm a; intro a hm
            refine s_on hm rfl rfl rfl ?_
            refine s_pick_t hm rfl rfl (bne_iff_ne.2 hc_136) rfl ?_
            clear hm a; intro a hm
            refine s_pick_f hm rfl rfl rfl rfl ?_
            clear hm a; intro a hm
            refine wpList_nil ?_
            replace hm : Fr 140 a [(0, v_3), (6, .bool false), (7, v_15), (94, .bool true)] := hm.keep [0, 6, 7, 94]
            replace hS : Sep w0 w_45 [N_43, M_17, Mem.no, Mem.no, M_32, M_36, Mem.one g_39 (.cells ([.int .i64 t_26.2.Err, v_34, .int .i64 t_26.2.N] : List Value).toArray 27 (0, 0))] Z := hS
            replace hm : Fr 140 a [(0, v_3), (6, .bool false), (7, v_15), (94, .bool true)] := hm.keep [0, 6, 7, 94]
            exact x_then_n (hJ_j_53 true H _ _ ⟨N_43, hm, (Sep.sel hS [0, 1, 1001, 1002, 1003, 1004, 1005] (by decide)), (Mem.le.refl _)⟩)
      · rw [if_neg hc_135] at H
        refine s_off hm rfl rfl rfl (nt (beq_eq_false_iff_ne.2 hc_135)) ?_
        clear hm a; intro a hm
        refine s_off hm rfl rfl rfl (nt (beq_eq_false_iff_ne.2 hc_135)) ?_
        clear hm a; intro a hm
        refine s_off hm rfl rfl rfl (nt (beq_eq_false_iff_ne.2 hc_135)) ?_
        clear hm a; intro a hm
        refine s_off hm rfl rfl rfl (nt (beq_eq_false_iff_ne.2 hc_135)) ?_
        clear hm a; intro a hm
        refine s_offu hm rfl rfl rfl ?_
        clear hm a; intro a hm
        refine s_offu hm rfl rfl rfl ?_
        clear hm a; intro a hm
        refine s_offu hm rfl rfl rfl ?_
        clear hm a; intro a hm
        refine s_offu hm rfl rfl rfl ?_
        clear hm a; intro a hm
        refine s_offu hm rfl rfl rfl ?_
        clear hm a; intro a hm
        refine s_off hm rfl rfl rfl (nt (beq_eq_false_iff_ne.2 hc_135)) ?_
        clear hm a; intro a hm
        refine s_pick_t hm rfl rfl (nt (beq_eq_false_iff_ne.2 hc_135)) rfl ?_
        clear hm a; intro a hm
        refine s_move hm rfl rfl ?_
        clear hm a; intro a hm
        refine s_off hm rfl rfl rfl rfl ?_
        clear hm a; intro a hm
        refine s_off hm rfl rfl rfl rfl ?_
        clear hm a; intro a hm
        refine s_off hm rfl rfl rfl rfl ?_
        clear hm a; intro a hm
        refine s_off hm rfl rfl rfl rfl ?_
        clear hm a; intro a hm
        refine s_offu hm rfl rfl rfl ?_
        clear hm a; intro a hm
        refine s_offu hm rfl rfl rfl ?_
        clear hm a; intro a hm
        refine s_offu hm rfl rfl rfl ?_
        clear hm a; intro a hm
        refine s_offu hm rfl rfl rfl ?_
        clear hm a; intro a hm
        refine s_offu hm rfl rfl rfl ?_
        clear hm a; intro a hm
        refine s_offu hm rfl rfl rfl ?_
        clear hm a; intro a hm
        refine s_offu hm rfl rfl rfl ?_
        clear hm a; intro a hm
        refine s_offu hm rfl rfl rfl ?_
        clear hm a; intro a hm
        refine s_offu hm rfl rfl rfl ?_
        clear hm a; intro a hm
        refine s_offu hm rfl rfl rfl ?_
        clear hm a; intro a hm
        refine s_offu hm rfl rfl rfl ?_
        clear hm a; intro a hm
        refine s_offu hm rfl rfl rfl ?_
        clear hm a; intro a hm
        refine s_offu hm rfl rfl rfl ?_
        clear hm a; intro a hm
        refine s_off hm rfl rfl rfl rfl ?_
        clear hm a; intro a hm
        refine s_pick_t hm rfl rfl rfl rfl ?_
        clear hm a; intro a hm
        refine wpList_nil ?_
        replace hm : Fr 140 a [(0, v_3), (6, .bool false), (7, v_15), (94, .bool true)] := hm.keep [0, 6, 7, 94]
        replace hS : Sep w0 w_45 [N_43, M_17, Mem.no, Mem.no, M_32, M_36, Mem.one g_39 (.cells ([.int .i64 t_26.2.Err, v_34, .int .i64 t_26.2.N] : List Value).toArray 27 (0, 0))] Z := hS
        replace hm : Fr 140 a [(0, v_3), (6, .bool false), (7, v_15), (94, .bool true)] := hm.keep [0, 6, 7, 94]
        exact x_then_n (hJ_j_53 true H _ _ ⟨N_43, hm, (Sep.sel hS [0, 1, 1001, 1002, 1003, 1004, 1005] (by decide)), (Mem.le.refl _)⟩)
  clear hKJ_42
  refine wp_region_lit ?_
  refine s_fieldAddr hm rfl Try.underlying27 rfl ti22 rfl rfl ?_
  clear hm a; intro a hm
  refine s_load hm rfl rfl (hS.load_one (p := 3) rfl Try.underlying22 rfl rfl) ?_
  clear hm a; intro a hm
  refine s_cmp (b := (t_11.2.Err != 0)) hm rfl rfl rfl (.inr (.inl ⟨rfl, rfl⟩)) ?_
  clear hm a; intro a hm
  refine s_move hm rfl rfl ?_
  clear hm a; intro a hm
  by_cases hc_139 : t_11.2.Err = 0
  · rw [if_pos hc_139] at H
    refine s_on hm rfl rfl (bne_eq_false_iff_eq.2 hc_139) ?_
    refine s_move hm rfl rfl ?_
    clear hm a; intro a hm
    refine s_on hm rfl rfl (bne_eq_false_iff_eq.2 hc_139) ?_
    refine s_b2s hm rfl Try.underlying25 Try.underlying5 Try.underlying9 rfl (hr_16.rd (J := hp w_40) (hS.own 1) (Mem.no_le _)) (Mem.le.refl _) ?_
    clear hm a; intro a hm
    refine s_on hm rfl rfl (bne_eq_false_iff_eq.2 hc_139) ?_
    refine s_move hm rfl rfl ?_
    clear hm a; intro a hm
    refine s_on hm rfl rfl (bne_eq_false_iff_eq.2 hc_139) ?_
    refine s_b2s hm rfl Try.underlying25 Try.underlying5 Try.underlying9 rfl hr_7 (hA.trans hS.old) ?_
    clear hm a; intro a hm
    refine s_on hm rfl rfl (bne_eq_false_iff_eq.2 hc_139) ?_
    refine s_strEq (b := !(t_11.1 == t_5)) hm rfl rfl rfl (.inr ⟨rfl, rfl⟩) ?_
    clear hm a; intro a hm
    refine s_pick_f hm rfl rfl (bne_eq_false_iff_eq.2 hc_139) rfl ?_
    clear hm a; intro a hm
    refine wpList_nil ?_
    replace hm : Fr 140 a [(0, v_3), (1, v_6), (2, v_9), (6, .bool false), (7, v_15), (9, v_30), (10, .pointer (some ⟨g_39, 0, none⟩)), (53, .bool (!(t_11.1 == t_5)))] := hm.keep [0, 1, 2, 6, 7, 9, 10, 53]
    replace hS : Sep w0 w_40 [N_29, M_17, M_21, Mem.one g_24 (.cells ([.int .i64 t_11.2.Err, v_19, .int .i64 t_11.2.N] : List Value).toArray 27 (0, 0)), M_32, M_36, Mem.one g_39 (.cells ([.int .i64 t_26.2.Err, v_34, .int .i64 t_26.2.N] : List Value).toArray 27 (0, 0))] Z := hS
    replace hm : Fr 140 a [(0, v_3), (1, v_6), (2, v_9), (6, .bool false), (7, v_15), (9, v_30), (10, .pointer (some ⟨g_39, 0, none⟩)), (53, .bool (!(t_11.1 == t_5)))] := hm.keep [0, 1, 2, 6, 7, 9, 10, 53]
    exact x_then_n (hJ_j_46 (!(t_11.1 == t_5)) H _ _ ⟨N_29, hm, (Sep.sel hS [0, 1, 1001, 1002, 4, 5, 6] (by decide)), (Mem.le.refl _)⟩)
  · rw [if_neg hc_139] at H
    refine s_off hm rfl rfl rfl (bne_iff_ne.2 hc_139) ?_
    clear hm a; intro a hm
    refine s_off hm rfl rfl rfl (bne_iff_ne.2 hc_139) ?_
    clear hm a; intro a hm
    refine s_off hm rfl rfl rfl (bne_iff_ne.2 hc_139) ?_
    clear hm a; intro a hm
    refine s_off hm rfl rfl rfl (bne_iff_ne.2 hc_139) ?_
    clear hm a; intro a hm
    refine s_off hm rfl rfl rfl (bne_iff_ne.2 hc_139) ?_
    clear hm a; intro a hm
    refine s_pick_t hm rfl rfl (bne_iff_ne.2 hc_139) rfl ?_
    clear hm a; intro a hm
    refine wpList_nil ?_
    replace hm : Fr 140 a [(0, v_3), (1, v_6), (2, v_9), (6, .bool false), (7, v_15), (9, v_30), (10, .pointer (some ⟨g_39, 0, none⟩)), (53, .bool true)] := hm.keep [0, 1, 2, 6, 7, 9, 10, 53]
    replace hS : Sep w0 w_40 [N_29, M_17, M_21, Mem.one g_24 (.cells ([.int .i64 t_11.2.Err, v_19, .int .i64 t_11.2.N] : List Value).toArray 27 (0, 0)), M_32, M_36, Mem.one g_39 (.cells ([.int .i64 t_26.2.Err, v_34, .int .i64 t_26.2.N] : List Value).toArray 27 (0, 0))] Z := hS
    replace hm : Fr 140 a [(0, v_3), (1, v_6), (2, v_9), (6, .bool false), (7, v_15), (9, v_30), (10, .pointer (some ⟨g_39, 0, none⟩)), (53, .bool true)] := hm.keep [0, 1, 2, 6, 7, 9, 10, 53]
    exact x_then_n (hJ_j_46 true H _ _ ⟨N_29, hm, (Sep.sel hS [0, 1, 1001, 1002, 4, 5, 6] (by decide)), (Mem.le.refl _)⟩)


end Go.Proofs
