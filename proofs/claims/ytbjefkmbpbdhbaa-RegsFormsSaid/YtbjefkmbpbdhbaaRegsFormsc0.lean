/- What the calls do: each function once. -/
import Derived.Test.YtbjefkmbpbdhbaaFacts
namespace Go.Proofs
open Go.Gp
set_option linter.unusedVariables false
set_option maxHeartbeats 4000000 in
theorem slices_Clone_byte_byte.calls (x0 : List UInt8) (p0_0 : Value) (r : List UInt8) (w0 w : World) (Z A : Mem) (hA : A.le Z) (hS : Sep w0 w [] Z) (hp0_0 : Rd Kd.u8 A p0_0 x0)
    (H : slices_Clone_byte_byte.f x0 = some r) :
    Calls Try.prog 42 [p0_0].toArray w (Ret fun v w' => ∃ (u0 : Value) (N : Mem) (M0 : Mem), v = u0 ∧ Sep w0 w' [N, M0] Z ∧ Own Kd.u8 5 M0 Mem.no u0 r) := by
  unfold slices_Clone_byte_byte.f at H
  refine f_enter _ Try.func42 rfl Try.ntmps42 rfl fun a hm => ?_
  replace hm : Fr 8 a [(0, p0_0)] := hm
  replace hS := hS.start
  replace hS : Sep w0 w [Mem.no] Z := hS
  refine wp_seq ?_
  refine wp_region_lit ?_
  refine s_assign hm rfl rfl ?_
  clear hm a; intro a hm
  refine wpList_nil ?_
  replace hm : Fr 8 a [(0, p0_0)] := hm.keep [0]
  refine x_then_n ?_
  refine c_seq fun KJ hKJ => ?_
  refine wp_seq ?_
  refine wp_region_lit ?_
  refine s_move hm rfl rfl ?_
  clear hm a; intro a hm
  refine s_slNil hm rfl Try.underlying25 rfl hp0_0 fun b hb => ?_
  clear hm a; intro a hm
  refine wpList_nil ?_
  refine x_then_n ?_
  cases b with
  | true =>
    have hx := hb rfl
    subst hx
    refine c_cond_t hm rfl rfl ?_
    refine wp_seq ?_
    refine wp_region_lit ?_
    refine s_assign hm rfl rfl ?_
    clear hm a; intro a hm
    refine wpList_nil ?_
    replace hm : Fr 8 a [(2, .slice none 0 0)] := hm.keep [2]
    refine x_then_n ?_
    refine wp_ret (x_then_r ?_)
    obtain rfl := (app_some H).2
    replace hS := hS.room
    exact f_ret hm (rs := [.tmp 2]) rfl (.tmp rfl .nil) ⟨_, rfl, _, Mem.no, Mem.no, rfl, hS, Own.nil _ _ _⟩
  | false =>
    refine c_cond_f hm rfl rfl ?_
    refine wp_skip ?_
    refine x_then_n (hKJ _ _ ?_)
    refine wp_seq ?_
    refine wp_region_lit ?_
    have hq5 : Reps Kd.u8 Mem.no ([] : List UInt8) _ := (Reps.nil Kd.u8 _)
    refine s_buildSlice hm rfl Try.underlying25 ti5 rfl rfl rfl .nil rfl rfl rfl hS hq5 rfl ?_
    intro w1 v2 M3 hS' ho4
    clear hm a; intro a hm
    replace hS : Sep w0 w1 [Mem.no, M3] Z := hS'
    clear hS' hq5
    refine s_move hm rfl rfl ?_
    clear hm a; intro a hm
    refine s_append (J := Mem.no) (I' := Mem.no) (p := 1) 140737488355328 hm rfl rfl rfl Try.underlying25 ti5 rfl rfl rfl rfl hS rfl ho4 (Src.flat flat_u8 (hp0_0.src (hA.trans hS.old))) (Mem.le.refl _) (Mem.le.refl _) H ?_
    intro w8 v9 M10 hS' ho11
    clear hm a; intro a hm
    refine s_assign hm rfl rfl ?_
    clear hm a; intro a hm
    refine wpList_nil ?_
    replace hm : Fr 8 a [(2, v9)] := hm.keep [2]
    refine x_then_n ?_
    refine wp_ret ?_
    exact f_ret hm (rs := [.tmp 2]) rfl (.tmp rfl .nil) ⟨_, rfl, _, Mem.no, M10, rfl, hS', ho11⟩

set_option maxHeartbeats 4000000 in
set_option maxRecDepth 20000 in
theorem regs_Write.calls (x0 : List UInt8) (p0_0 : Value) (x1 : List UInt8) (p1_1 : Value) (r : (List UInt8) × api_Result) (w0 w : World) (Z A : Mem) (hA : A.le Z) (hS : Sep w0 w [] Z) (hp0_0 : Rd Kd.u8 A p0_0 x0) (hp1_1 : Rd Kd.u8 A p1_1 x1)
    (H : regs_Write.f x0 x1 = some r) :
    Calls Try.prog 15 [p0_0, p1_1].toArray w (Ret fun v w' => ∃ (u0 : Value) (u1 : Value) (N : Mem) (M0 : Mem) (M1 : Mem), v = .tuple [u0, .agg [.int .i64 r.2.Err, u1, .int .i64 r.2.N].toArray].toArray ∧ Sep w0 w' [N, M0, M1] Z ∧ Own Kd.u8 5 M0 Mem.no u0 r.1 ∧ Own Kd.u8 5 M1 Mem.no u1 r.2.Val) := by
  unfold regs_Write.f at H
  refine f_enter _ Try.func15 rfl Try.ntmps15 rfl fun a hm => ?_
  replace hm : Fr 15 a [(0, p0_0), (1, p1_1)] := hm
  replace hS := hS.start
  replace hS : Sep w0 w [Mem.no] Z := hS
  refine wp_seq ?_
  refine wp_region_lit ?_
  refine s_assign hm rfl rfl ?_
  clear hm a; intro a hm
  refine v_alloc hm rfl ti27 hS ?_
  intro w_1 g_2 hS'
  clear hm a; intro a hm
  replace hS : Sep w0 w_1 [Mem.no, Mem.one g_2 (.cells [.int .i64 0, .slice none 0 0, .int .i64 0].toArray 27 (0, 0))] Z := hS'
  clear hS'
  refine wpList_nil ?_
  replace hm : Fr 15 a [(0, p0_0), (1, p1_1), (4, .slice none 0 0), (5, .pointer (some ⟨g_2, 0, none⟩))] := hm.keep [0, 1, 4, 5]
  refine x_then_n ?_
  refine c_seq fun KJ_3 hKJ_3 => ?_
  refine wp_seq ?_
  refine wp_region_lit ?_
  refine s_move hm rfl rfl ?_
  clear hm a; intro a hm
  refine s_len hm rfl Try.underlying25 rfl hp1_1 ?_
  clear hm a; intro a hm
  refine s_cmp (b := decide ((x1.length : Int) > 16)) hm rfl rfl rfl (.inr (.inr (.inr (.inr (.inl ⟨rfl, rfl⟩))))) ?_
  clear hm a; intro a hm
  refine wpList_nil ?_
  replace hm : Fr 15 a [(0, p0_0), (1, p1_1), (4, .slice none 0 0), (5, .pointer (some ⟨g_2, 0, none⟩)), (8, .bool (decide ((x1.length : Int) > 16)))] := hm.keep [0, 1, 4, 5, 8]
  refine x_then_n ?_
  by_cases hc_4 : (x1.length : Int) > 16
  · rw [if_pos hc_4] at H
    refine c_cond_t hm rfl (decide_eq_true hc_4) ?_
    refine wp_seq ?_
    refine wp_region_lit ?_
    refine s_move hm rfl rfl ?_
    clear hm a; intro a hm
    obtain ⟨t_5, et_5, H⟩ := Option.bind_eq_some_iff.1 H
    refine s_call hm rfl Try.call42 rfl (slices_Clone_byte_byte.calls x0 _ t_5 w0 _ _ _ (Mem.le.refl _) (hS.enter [] (by decide)) (hp0_0.mono (hA.trans (hS.le_zed []))) et_5) ?_
    rintro v_9 w_6 ⟨_, N_7, M_11, rfl, hS', hr_10⟩
    clear hm a; intro a hm
    obtain ⟨N_8, hS'', le_8, ln_8⟩ := hS.call [] (by decide) rfl (l' := []) (ow := [M_11]) rfl hS'
    replace hS : Sep w0 w_6 [N_8, Mem.one g_2 (.cells [.int .i64 0, .slice none 0 0, .int .i64 0].toArray 27 (0, 0)), M_11] Z := hS''
    clear hS' hS''
    refine s_build hm rfl ti27 pl27 rfl (.cons rfl .nil) (cs := [.int .i64 1, .slice none 0 0, .int .i64 0]) rfl ?_
    clear hm a; intro a hm
    refine s_assign hm rfl rfl ?_
    clear hm a; intro a hm
    obtain ⟨w_13, hs', hS'⟩ := hS.store (P := Try.prog) (p := 1) (o := 0) (t := 27) (v := .agg [.int .i64 1, .slice none 0 0, .int .i64 0].toArray) (vs := [.int .i64 1, .slice none 0 0, .int .i64 0]) rfl ti27 rfl rfl rfl (by intro u hu; simp only [List.mem_cons, List.not_mem_nil, or_false] at hu; rcases hu with rfl | rfl | rfl <;> rfl)
    refine s_store hm rfl rfl hs' ?_
    replace hS : Sep w0 w_13 [N_8, Mem.one g_2 (.cells [.int .i64 1, .slice none 0 0, .int .i64 0].toArray 27 (0, 0)), M_11] Z := hS'
    clear hs' hS'
    refine wpList_nil ?_
    replace hm : Fr 15 a [(1, p1_1), (4, v_9), (5, .pointer (some ⟨g_2, 0, none⟩))] := hm.keep [1, 4, 5]
    refine x_then_n ?_
    refine wp_ret (x_then_r ?_)
    have hS' := hS.room
    replace hS : Sep w0 w_13 [N_8, Mem.one g_2 (.cells [.int .i64 1, .slice none 0 0, .int .i64 0].toArray 27 (0, 0)), M_11, Mem.no] Z := hS'
    clear hS'
    replace hS : Sep w0 w_13 [N_8, Mem.one g_2 (.cells [.int .i64 1, .slice none 0 0, .int .i64 0].toArray 27 (0, 0)), M_11, Mem.no] Z := hS
    obtain rfl := Option.some.inj H
    exact f_ret hm (rs := [.tmp 4, .cell 5 27]) rfl (.tmp rfl (.cell rfl (hS.load_agg (p := 1) (us := [.int .i64 1, .slice none 0 0, .int .i64 0]) rfl Try.underlying27 rfl ti27 rfl rfl) .nil)) ⟨_, rfl, v_9, .slice none 0 0, N_8, M_11, Mem.no, rfl, (Sep.sel hS [0, 2, 3] (by decide)), hr_10, (Own.nil Kd.u8 5 Mem.no)⟩
  · rw [if_neg hc_4] at H
    refine c_cond_f hm rfl (decide_eq_false hc_4) ?_
    refine wp_skip ?_
    refine x_then_n (hKJ_3 _ _ ?_)
    refine wp_seq ?_
    refine wp_region_lit ?_
    refine s_move hm rfl rfl ?_
    clear hm a; intro a hm
    obtain ⟨t_15, et_15, H⟩ := Option.bind_eq_some_iff.1 H
    refine s_call hm rfl Try.call42 rfl (slices_Clone_byte_byte.calls x1 _ t_15 w0 _ _ _ (Mem.le.refl _) (hS.enter [] (by decide)) (hp1_1.mono (hA.trans (hS.le_zed []))) et_15) ?_
    rintro v_19 w_16 ⟨_, N_17, M_21, rfl, hS', hr_20⟩
    clear hm a; intro a hm
    obtain ⟨N_18, hS'', le_18, ln_18⟩ := hS.call [] (by decide) rfl (l' := []) (ow := [M_21]) rfl hS'
    replace hS : Sep w0 w_16 [N_18, Mem.one g_2 (.cells [.int .i64 0, .slice none 0 0, .int .i64 0].toArray 27 (0, 0)), M_21] Z := hS''
    clear hS' hS''
    refine s_build hm rfl ti27 pl27 rfl .nil (cs := [.int .i64 0, .slice none 0 0, .int .i64 0]) rfl ?_
    clear hm a; intro a hm
    refine s_assign hm rfl rfl ?_
    clear hm a; intro a hm
    obtain ⟨w_23, hs', hS'⟩ := hS.store (P := Try.prog) (p := 1) (o := 0) (t := 27) (v := .agg [.int .i64 0, .slice none 0 0, .int .i64 0].toArray) (vs := [.int .i64 0, .slice none 0 0, .int .i64 0]) rfl ti27 rfl rfl rfl (by intro u hu; simp only [List.mem_cons, List.not_mem_nil, or_false] at hu; rcases hu with rfl | rfl | rfl <;> rfl)
    refine s_store hm rfl rfl hs' ?_
    replace hS : Sep w0 w_23 [N_18, Mem.one g_2 (.cells [.int .i64 0, .slice none 0 0, .int .i64 0].toArray 27 (0, 0)), M_21] Z := hS'
    clear hs' hS'
    refine wpList_nil ?_
    replace hm : Fr 15 a [(4, v_19), (5, .pointer (some ⟨g_2, 0, none⟩))] := hm.keep [4, 5]
    refine x_then_n ?_
    refine wp_ret ?_
    have hS' := hS.room
    replace hS : Sep w0 w_23 [N_18, Mem.one g_2 (.cells [.int .i64 0, .slice none 0 0, .int .i64 0].toArray 27 (0, 0)), M_21, Mem.no] Z := hS'
    clear hS'
    replace hS : Sep w0 w_23 [N_18, Mem.one g_2 (.cells [.int .i64 0, .slice none 0 0, .int .i64 0].toArray 27 (0, 0)), M_21, Mem.no] Z := hS
    obtain rfl := Option.some.inj H
    exact f_ret hm (rs := [.tmp 4, .cell 5 27]) rfl (.tmp rfl (.cell rfl (hS.load_agg (p := 1) (us := [.int .i64 0, .slice none 0 0, .int .i64 0]) rfl Try.underlying27 rfl ti27 rfl rfl) .nil)) ⟨_, rfl, v_19, .slice none 0 0, N_18, M_21, Mem.no, rfl, (Sep.sel hS [0, 2, 3] (by decide)), hr_20, (Own.nil Kd.u8 5 Mem.no)⟩

set_option maxHeartbeats 4000000 in
set_option maxRecDepth 20000 in
theorem bytes_Equal.calls (x0 : List UInt8) (p0_0 : Value) (x1 : List UInt8) (p1_1 : Value) (r : Bool) (w0 w : World) (Z A : Mem) (hA : A.le Z) (hS : Sep w0 w [] Z) (hp0_0 : Rd Kd.u8 A p0_0 x0) (hp1_1 : Rd Kd.u8 A p1_1 x1)
    (H : bytes_Equal.f x0 x1 = some r) :
    Calls Try.prog 41 [p0_0, p1_1].toArray w (Ret fun v w' => ∃ (N : Mem), v = .bool r ∧ Sep w0 w' [N] Z) := by
  unfold bytes_Equal.f at H
  refine f_enter _ Try.func41 rfl Try.ntmps41 rfl fun a hm => ?_
  replace hm : Fr 10 a [(0, p0_0), (1, p1_1)] := hm
  replace hS := hS.start
  replace hS : Sep w0 w [Mem.no] Z := hS
  refine wp_seq ?_
  refine wp_region_lit ?_
  refine s_assign hm rfl rfl ?_
  clear hm a; intro a hm
  refine wpList_nil ?_
  replace hm : Fr 10 a [(0, p0_0), (1, p1_1), (4, .bool false)] := hm.keep [0, 1, 4]
  refine x_then_n ?_
  refine wp_seq ?_
  refine wp_region_lit ?_
  refine s_move hm rfl rfl ?_
  clear hm a; intro a hm
  refine s_b2s hm rfl Try.underlying25 Try.underlying5 Try.underlying9 rfl hp0_0 (hA.trans hS.old) ?_
  clear hm a; intro a hm
  refine s_move hm rfl rfl ?_
  clear hm a; intro a hm
  refine s_b2s hm rfl Try.underlying25 Try.underlying5 Try.underlying9 rfl hp1_1 (hA.trans hS.old) ?_
  clear hm a; intro a hm
  refine s_strEq (b := (x0 == x1)) hm rfl rfl rfl (.inl ⟨rfl, rfl⟩) ?_
  clear hm a; intro a hm
  refine s_assign hm rfl rfl ?_
  clear hm a; intro a hm
  refine wpList_nil ?_
  replace hm : Fr 10 a [(4, .bool (x0 == x1))] := hm.keep [4]
  refine x_then_n ?_
  refine wp_ret ?_
  obtain rfl := Option.some.inj H
  exact f_ret hm (rs := [.tmp 4]) rfl (.tmp rfl .nil) ⟨_, rfl, Mem.no, rfl, (Sep.sel hS [0] (by decide))⟩

set_option maxHeartbeats 4000000 in
set_option maxRecDepth 20000 in
theorem regs_Cas.calls (x0 : List UInt8) (p0_0 : Value) (x1 : List UInt8) (p1_1 : Value) (x2 : List UInt8) (p2_2 : Value) (r : (List UInt8) × api_Result) (w0 w : World) (Z A : Mem) (hA : A.le Z) (hS : Sep w0 w [] Z) (hp0_0 : Rd Kd.u8 A p0_0 x0) (hp1_1 : Rd Kd.u8 A p1_1 x1) (hp2_2 : Rd Kd.u8 A p2_2 x2)
    (H : regs_Cas.f x0 x1 x2 = some r) :
    Calls Try.prog 14 [p0_0, p1_1, p2_2].toArray w (Ret fun v w' => ∃ (u0 : Value) (u1 : Value) (N : Mem) (M0 : Mem) (M1 : Mem), v = .tuple [u0, .agg [.int .i64 r.2.Err, u1, .int .i64 r.2.N].toArray].toArray ∧ Sep w0 w' [N, M0, M1] Z ∧ Own Kd.u8 5 M0 Mem.no u0 r.1 ∧ Own Kd.u8 5 M1 Mem.no u1 r.2.Val) := by
  unfold regs_Cas.f at H
  refine f_enter _ Try.func14 rfl Try.ntmps14 rfl fun a hm => ?_
  replace hm : Fr 27 a [(0, p0_0), (1, p1_1), (2, p2_2)] := hm
  replace hS := hS.start
  replace hS : Sep w0 w [Mem.no] Z := hS
  refine wp_seq ?_
  refine wp_region_lit ?_
  refine s_assign hm rfl rfl ?_
  clear hm a; intro a hm
  refine v_alloc hm rfl ti27 hS ?_
  intro w_1 g_2 hS'
  clear hm a; intro a hm
  replace hS : Sep w0 w_1 [Mem.no, Mem.one g_2 (.cells [.int .i64 0, .slice none 0 0, .int .i64 0].toArray 27 (0, 0))] Z := hS'
  clear hS'
  refine wpList_nil ?_
  replace hm : Fr 27 a [(0, p0_0), (1, p1_1), (2, p2_2), (6, .slice none 0 0), (7, .pointer (some ⟨g_2, 0, none⟩))] := hm.keep [0, 1, 2, 6, 7]
  refine x_then_n ?_
  refine c_seq fun KJ_3 hKJ_3 => ?_
  refine c_seq fun KJ_4 hKJ_4 => ?_
  have hJ_j_8 : ∀ (x_6 : Bool), regs_Cas.j_8 x0 x2 x_6 = some r → ∀ (a : Act) (w_7 : World), (∃ (N_5 : Mem), Fr 27 a [(0, p0_0), (2, p2_2), (6, .slice none 0 0), (7, .pointer (some ⟨g_2, 0, none⟩)), (16, .bool x_6)] ∧ Sep w0 w_7 [N_5, Mem.one g_2 (.cells [.int .i64 0, .slice none 0 0, .int .i64 0].toArray 27 (0, 0))] Z ∧ Mem.no.le N_5) → KJ_4 a w_7 := by
    clear H hm hS a
    rintro x_6 H a w_7 ⟨N_5, hm, hS, le_5⟩
    unfold regs_Cas.j_8 at H
    refine hKJ_4 _ _ ?_
    by_cases hc_9 : x_6 = true
    · rw [if_pos hc_9] at H
      refine c_cond_t hm rfl hc_9 ?_
      refine wp_seq ?_
      refine wp_region_lit ?_
      refine s_move hm rfl rfl ?_
      clear hm a; intro a hm
      obtain ⟨t_10, et_10, H⟩ := Option.bind_eq_some_iff.1 H
      refine s_call hm rfl Try.call42 rfl (slices_Clone_byte_byte.calls x0 _ t_10 w0 _ _ _ (Mem.le.refl _) (hS.enter [] (by decide)) (hp0_0.mono (hA.trans (hS.le_zed []))) et_10) ?_
      rintro v_14 w_11 ⟨_, N_12, M_16, rfl, hS', hr_15⟩
      clear hm a; intro a hm
      obtain ⟨N_13, hS'', le_13, ln_13⟩ := hS.call [] (by decide) rfl (l' := []) (ow := [M_16]) rfl hS'
      replace hS : Sep w0 w_11 [N_13, Mem.one g_2 (.cells [.int .i64 0, .slice none 0 0, .int .i64 0].toArray 27 (0, 0)), M_16] Z := hS''
      clear hS' hS''
      refine s_move hm rfl rfl ?_
      clear hm a; intro a hm
      obtain ⟨t_18, et_18, H⟩ := Option.bind_eq_some_iff.1 H
      refine s_call hm rfl Try.call42 rfl (slices_Clone_byte_byte.calls x0 _ t_18 w0 _ _ _ (Mem.le.refl _) (hS.enter [] (by decide)) (hp0_0.mono (hA.trans (hS.le_zed []))) et_18) ?_
      rintro v_22 w_19 ⟨_, N_20, M_24, rfl, hS', hr_23⟩
      clear hm a; intro a hm
      obtain ⟨N_21, hS'', le_21, ln_21⟩ := hS.call [] (by decide) rfl (l' := []) (ow := [M_24]) rfl hS'
      replace hS : Sep w0 w_19 [N_21, Mem.one g_2 (.cells [.int .i64 0, .slice none 0 0, .int .i64 0].toArray 27 (0, 0)), M_16, M_24] Z := hS''
      clear hS' hS''
      refine s_build hm rfl ti27 pl27 rfl (.cons rfl (.cons hr_23.cells .nil)) (cs := [.int .i64 2, v_22, .int .i64 0]) rfl ?_
      clear hm a; intro a hm
      refine s_assign hm rfl rfl ?_
      clear hm a; intro a hm
      obtain ⟨w_26, hs', hS'⟩ := hS.store (P := Try.prog) (p := 1) (o := 0) (t := 27) (v := .agg [.int .i64 2, v_22, .int .i64 0].toArray) (vs := [.int .i64 2, v_22, .int .i64 0]) rfl ti27 rfl rfl rfl (by intro u hu; simp only [List.mem_cons, List.not_mem_nil, or_false] at hu; rcases hu with rfl | rfl | rfl <;> first | rfl | exact hr_23.one)
      refine s_store hm rfl rfl hs' ?_
      replace hS : Sep w0 w_26 [N_21, Mem.one g_2 (.cells [.int .i64 2, v_22, .int .i64 0].toArray 27 (0, 0)), M_16, M_24] Z := hS'
      clear hs' hS'
      refine wpList_nil ?_
      replace hm : Fr 27 a [(0, p0_0), (2, p2_2), (6, v_14), (7, .pointer (some ⟨g_2, 0, none⟩))] := hm.keep [0, 2, 6, 7]
      refine x_then_n ?_
      refine wp_ret (x_then_r ?_)
      obtain rfl := Option.some.inj H
      exact f_ret hm (rs := [.tmp 6, .cell 7 27]) rfl (.tmp rfl (.cell rfl (hS.load_agg (p := 1) (us := [.int .i64 2, v_22, .int .i64 0]) rfl Try.underlying27 rfl ti27 rfl rfl) .nil)) ⟨_, rfl, v_14, v_22, N_21, M_16, M_24, rfl, (Sep.sel hS [0, 2, 3] (by decide)), hr_15, hr_23⟩
    · rw [if_neg hc_9] at H
      refine c_cond_f hm rfl (Bool.eq_false_iff.2 hc_9) ?_
      refine wp_skip ?_
      refine x_then_n (hKJ_3 _ _ ?_)
      refine wp_seq ?_
      refine wp_region_lit ?_
      refine s_move hm rfl rfl ?_
      clear hm a; intro a hm
      refine s_move hm rfl rfl ?_
      clear hm a; intro a hm
      obtain ⟨t_27, et_27, H⟩ := Option.bind_eq_some_iff.1 H
      refine s_call hm rfl Try.call15 rfl (regs_Write.calls x0 _ x2 _ t_27 w0 _ _ _ (Mem.le.refl _) (hS.enter [] (by decide)) (hp0_0.mono (hA.trans (hS.le_zed []))) (hp2_2.mono (hA.trans (hS.le_zed []))) et_27) ?_
      rintro _ w_28 ⟨v_31, v_35, N_29, M_33, M_37, rfl, hS', hr_32, hr_36⟩
      clear hm a; intro a hm
      obtain ⟨N_30, hS'', le_30, ln_30⟩ := hS.call [] (by decide) rfl (l' := []) (ow := [M_33, M_37]) rfl hS'
      replace hS : Sep w0 w_28 [N_30, Mem.one g_2 (.cells [.int .i64 0, .slice none 0 0, .int .i64 0].toArray 27 (0, 0)), M_33, M_37] Z := hS''
      clear hS' hS''
      refine s_extract hm rfl rfl rfl ?_
      clear hm a; intro a hm
      refine s_extract hm rfl rfl rfl ?_
      clear hm a; intro a hm
      refine s_assign hm rfl rfl ?_
      clear hm a; intro a hm
      obtain ⟨w_39, hs', hS'⟩ := hS.store (P := Try.prog) (p := 1) (o := 0) (t := 27) (v := .agg [.int .i64 t_27.2.Err, v_35, .int .i64 t_27.2.N].toArray) (vs := [.int .i64 t_27.2.Err, v_35, .int .i64 t_27.2.N]) rfl ti27 rfl rfl rfl (by intro u hu; simp only [List.mem_cons, List.not_mem_nil, or_false] at hu; rcases hu with rfl | rfl | rfl <;> first | rfl | exact hr_36.one)
      refine s_store hm rfl rfl hs' ?_
      replace hS : Sep w0 w_39 [N_30, Mem.one g_2 (.cells [.int .i64 t_27.2.Err, v_35, .int .i64 t_27.2.N].toArray 27 (0, 0)), M_33, M_37] Z := hS'
      clear hs' hS'
      refine wpList_nil ?_
      replace hm : Fr 27 a [(6, v_31), (7, .pointer (some ⟨g_2, 0, none⟩))] := hm.keep [6, 7]
      refine x_then_n ?_
      refine wp_ret ?_
      obtain rfl := Option.some.inj H
      exact f_ret hm (rs := [.tmp 6, .cell 7 27]) rfl (.tmp rfl (.cell rfl (hS.load_agg (p := 1) (us := [.int .i64 t_27.2.Err, v_35, .int .i64 t_27.2.N]) rfl Try.underlying27 rfl ti27 rfl rfl) .nil)) ⟨_, rfl, v_31, v_35, N_30, M_33, M_37, rfl, (Sep.sel hS [0, 2, 3] (by decide)), hr_32, hr_36⟩
  clear hKJ_4
  refine wp_region_lit ?_
  refine s_move hm rfl rfl ?_
  clear hm a; intro a hm
  refine s_len hm rfl Try.underlying25 rfl hp2_2 ?_
  clear hm a; intro a hm
  refine s_cmp (b := decide ((x2.length : Int) ≤ 16)) hm rfl rfl rfl (.inr (.inr (.inr (.inl ⟨rfl, rfl⟩)))) ?_
  clear hm a; intro a hm
  refine s_move hm rfl rfl ?_
  clear hm a; intro a hm
  by_cases hc_40 : (x2.length : Int) ≤ 16
  · rw [if_pos hc_40] at H
    refine s_on hm rfl rfl (decide_eq_true hc_40) ?_
    refine s_move hm rfl rfl ?_
    clear hm a; intro a hm
    refine s_on hm rfl rfl (decide_eq_true hc_40) ?_
    refine s_move hm rfl rfl ?_
    clear hm a; intro a hm
    refine s_on hm rfl rfl (decide_eq_true hc_40) ?_
    obtain ⟨t_41, et_41, H⟩ := Option.bind_eq_some_iff.1 H
    refine s_call hm rfl Try.call41 rfl (bytes_Equal.calls x0 _ x1 _ t_41 w0 _ _ _ (Mem.le.refl _) (hS.enter [] (by decide)) (hp0_0.mono (hA.trans (hS.le_zed []))) (hp1_1.mono (hA.trans (hS.le_zed []))) et_41) ?_
    rintro _ w_42 ⟨N_43, rfl, hS'⟩
    clear hm a; intro a hm
    obtain ⟨N_44, hS'', le_44, ln_44⟩ := hS.call [] (by decide) rfl (l' := []) (ow := []) rfl hS'
    replace hS : Sep w0 w_42 [N_44, Mem.one g_2 (.cells [.int .i64 0, .slice none 0 0, .int .i64 0].toArray 27 (0, 0))] Z := hS''
    clear hS' hS''
    refine s_on hm rfl rfl (decide_eq_true hc_40) ?_
    refine s_not hm rfl rfl ?_
    clear hm a; intro a hm
    refine s_pick_t hm rfl rfl (decide_eq_true hc_40) rfl ?_
    clear hm a; intro a hm
    refine wpList_nil ?_
    replace hm : Fr 27 a [(0, p0_0), (2, p2_2), (6, .slice none 0 0), (7, .pointer (some ⟨g_2, 0, none⟩)), (16, .bool (!t_41))] := hm.keep [0, 2, 6, 7, 16]
    replace hS : Sep w0 w_42 [N_44, Mem.one g_2 (.cells [.int .i64 0, .slice none 0 0, .int .i64 0].toArray 27 (0, 0))] Z := hS
    replace hm : Fr 27 a [(0, p0_0), (2, p2_2), (6, .slice none 0 0), (7, .pointer (some ⟨g_2, 0, none⟩)), (16, .bool (!t_41))] := hm.keep [0, 2, 6, 7, 16]
    exact x_then_n (hJ_j_8 (!t_41) H _ _ ⟨N_44, hm, (Sep.sel hS [0, 1] (by decide)), le_44⟩)
  · rw [if_neg hc_40] at H
    refine s_off hm rfl rfl rfl (decide_eq_false hc_40) ?_
    clear hm a; intro a hm
    refine s_off hm rfl rfl rfl (decide_eq_false hc_40) ?_
    clear hm a; intro a hm
    refine s_off hm rfl rfl rfl (decide_eq_false hc_40) ?_
    clear hm a; intro a hm
    refine s_off hm rfl rfl rfl (decide_eq_false hc_40) ?_
    clear hm a; intro a hm
    refine s_pick_f hm rfl rfl (decide_eq_false hc_40) rfl ?_
    clear hm a; intro a hm
    refine wpList_nil ?_
    replace hm : Fr 27 a [(0, p0_0), (2, p2_2), (6, .slice none 0 0), (7, .pointer (some ⟨g_2, 0, none⟩)), (16, .bool false)] := hm.keep [0, 2, 6, 7, 16]
    replace hS : Sep w0 w_1 [Mem.no, Mem.one g_2 (.cells [.int .i64 0, .slice none 0 0, .int .i64 0].toArray 27 (0, 0))] Z := hS
    replace hm : Fr 27 a [(0, p0_0), (2, p2_2), (6, .slice none 0 0), (7, .pointer (some ⟨g_2, 0, none⟩)), (16, .bool false)] := hm.keep [0, 2, 6, 7, 16]
    exact x_then_n (hJ_j_8 false H _ _ ⟨Mem.no, hm, (Sep.sel hS [0, 1] (by decide)), (Mem.le.refl _)⟩)

set_option maxHeartbeats 4000000 in
set_option maxRecDepth 20000 in
theorem regs_Read.calls (x0 : List UInt8) (p0_0 : Value) (r : api_Result) (w0 w : World) (Z A : Mem) (hA : A.le Z) (hS : Sep w0 w [] Z) (hp0_0 : Rd Kd.u8 A p0_0 x0)
    (H : regs_Read.f x0 = some r) :
    Calls Try.prog 20 [p0_0].toArray w (Ret fun v w' => ∃ (u0 : Value) (N : Mem) (M0 : Mem), v = .agg [.int .i64 r.Err, u0, .int .i64 r.N].toArray ∧ Sep w0 w' [N, M0] Z ∧ Own Kd.u8 5 M0 Mem.no u0 r.Val) := by
  unfold regs_Read.f at H
  refine f_enter _ Try.func20 rfl Try.ntmps20 rfl fun a hm => ?_
  replace hm : Fr 6 a [(0, p0_0)] := hm
  replace hS := hS.start
  replace hS : Sep w0 w [Mem.no] Z := hS
  refine wp_seq ?_
  refine wp_region_lit ?_
  refine v_alloc hm rfl ti27 hS ?_
  intro w_1 g_2 hS'
  clear hm a; intro a hm
  replace hS : Sep w0 w_1 [Mem.no, Mem.one g_2 (.cells [.int .i64 0, .slice none 0 0, .int .i64 0].toArray 27 (0, 0))] Z := hS'
  clear hS'
  refine wpList_nil ?_
  replace hm : Fr 6 a [(0, p0_0), (2, .pointer (some ⟨g_2, 0, none⟩))] := hm.keep [0, 2]
  refine x_then_n ?_
  refine wp_seq ?_
  refine wp_region_lit ?_
  refine s_move hm rfl rfl ?_
  clear hm a; intro a hm
  obtain ⟨t_3, et_3, H⟩ := Option.bind_eq_some_iff.1 H
  refine s_call hm rfl Try.call42 rfl (slices_Clone_byte_byte.calls x0 _ t_3 w0 _ _ _ (Mem.le.refl _) (hS.enter [] (by decide)) (hp0_0.mono (hA.trans (hS.le_zed []))) et_3) ?_
  rintro v_7 w_4 ⟨_, N_5, M_9, rfl, hS', hr_8⟩
  clear hm a; intro a hm
  obtain ⟨N_6, hS'', le_6, ln_6⟩ := hS.call [] (by decide) rfl (l' := []) (ow := [M_9]) rfl hS'
  replace hS : Sep w0 w_4 [N_6, Mem.one g_2 (.cells [.int .i64 0, .slice none 0 0, .int .i64 0].toArray 27 (0, 0)), M_9] Z := hS''
  clear hS' hS''
  refine s_build hm rfl ti27 pl27 rfl (.cons hr_8.cells .nil) (cs := [.int .i64 0, v_7, .int .i64 0]) rfl ?_
  clear hm a; intro a hm
  obtain ⟨w_11, hs', hS'⟩ := hS.store (P := Try.prog) (p := 1) (o := 0) (t := 27) (v := .agg [.int .i64 0, v_7, .int .i64 0].toArray) (vs := [.int .i64 0, v_7, .int .i64 0]) rfl ti27 rfl rfl rfl (by intro u hu; simp only [List.mem_cons, List.not_mem_nil, or_false] at hu; rcases hu with rfl | rfl | rfl <;> first | rfl | exact hr_8.one)
  refine s_store hm rfl rfl hs' ?_
  replace hS : Sep w0 w_11 [N_6, Mem.one g_2 (.cells [.int .i64 0, v_7, .int .i64 0].toArray 27 (0, 0)), M_9] Z := hS'
  clear hs' hS'
  refine wpList_nil ?_
  replace hm : Fr 6 a [(2, .pointer (some ⟨g_2, 0, none⟩))] := hm.keep [2]
  refine x_then_n ?_
  refine wp_ret ?_
  obtain rfl := Option.some.inj H
  exact f_ret hm (rs := [.cell 2 27]) rfl (.cell rfl (hS.load_agg (p := 1) (us := [.int .i64 0, v_7, .int .i64 0]) rfl Try.underlying27 rfl ti27 rfl rfl) .nil) ⟨_, rfl, v_7, N_6, M_9, rfl, (Sep.sel hS [0, 2] (by decide)), hr_8⟩

set_option maxHeartbeats 4000000 in
set_option maxRecDepth 20000 in
theorem hocketlaw4_awake.calls (r : Unit) (w0 w : World) (Z A : Mem) (hA : A.le Z) (hS : Sep w0 w [] Z)
    (H : hocketlaw4_awake.f = some r) :
    Calls Try.prog 16 [].toArray w (Ret fun v w' => ∃ (N : Mem), v = .bool true ∧ Sep w0 w' [N] Z) := by
  unfold hocketlaw4_awake.f at H
  refine f_enter _ Try.func16 rfl Try.ntmps16 rfl fun a hm => ?_
  replace hm : Fr 66 a [] := hm
  replace hS := hS.start
  replace hS : Sep w0 w [Mem.no] Z := hS
  refine wp_seq ?_
  refine wp_region_lit ?_
  refine s_assign hm rfl rfl ?_
  clear hm a; intro a hm
  refine wpList_nil ?_
  replace hm : Fr 66 a [(0, .bool false)] := hm.keep [0]
  refine x_then_n ?_
  refine wp_seq ?_
  refine wp_region_lit ?_
  have hq_5 : Reps Kd.u8 Mem.no ([(97 : UInt8)] : List UInt8) _ := ((Reps.one (d := Kd.u8) (x := (97 : UInt8)) (show Kd.u8.K _ _ [.int .u8 ((97 : UInt8).toNat : Int)] from rfl)).append (Reps.nil Kd.u8 _))
  refine s_buildSlice hm rfl Try.underlying25 ti5 rfl rfl rfl (.cons rfl .nil) rfl rfl rfl hS hq_5 rfl ?_
  intro w_1 v_2 M_3 hS' ho_4
  clear hm a; intro a hm
  replace hS : Sep w0 w_1 [Mem.no, M_3] Z := hS'
  clear hS' hq_5
  refine s_conv_sl (p := 1) hm rfl Try.underlying25 Try.underlying5 rfl ho_4 (by simp) hS rfl ?_
  intro w_7 M_8 hS' hr_9
  clear hm a; intro a hm
  obtain ⟨N_10, hS'', le_10, lo_10⟩ := Sep.freeze (N0 := Mem.no) (l := [M_8]) hS' 0 rfl
  replace hS : Sep w0 w_7 [N_10, Mem.no] Z := hS''
  clear hS' hS''
  have hq_15 : Reps Kd.u8 Mem.no ([(98 : UInt8)] : List UInt8) _ := ((Reps.one (d := Kd.u8) (x := (98 : UInt8)) (show Kd.u8.K _ _ [.int .u8 ((98 : UInt8).toNat : Int)] from rfl)).append (Reps.nil Kd.u8 _))
  refine s_buildSlice hm rfl Try.underlying25 ti5 rfl rfl rfl (.cons rfl .nil) rfl rfl rfl hS hq_15 rfl ?_
  intro w_11 v_12 M_13 hS' ho_14
  clear hm a; intro a hm
  replace hS : Sep w0 w_11 [N_10, Mem.no, M_13] Z := hS'
  clear hS' hq_15
  refine s_conv_sl (p := 2) hm rfl Try.underlying25 Try.underlying5 rfl ho_14 (by simp) hS rfl ?_
  intro w_17 M_18 hS' hr_19
  clear hm a; intro a hm
  obtain ⟨N_20, hS'', le_20, lo_20⟩ := Sep.freeze (N0 := N_10) (l := [Mem.no, M_18]) hS' 1 rfl
  replace hS : Sep w0 w_17 [N_20, Mem.no, Mem.no] Z := hS''
  clear hS' hS''
  obtain ⟨t_21, et_21, H⟩ := Option.bind_eq_some_iff.1 H
  refine s_call hm rfl Try.call15 rfl (regs_Write.calls ([(97 : UInt8)] : List UInt8) _ ([(98 : UInt8)] : List UInt8) _ t_21 w0 _ _ _ (Mem.le.refl _) (hS.enter [] (by decide)) ((hr_9.mono lo_10).mono (le_20.trans (hS.new_zed []))) ((hr_19.mono lo_20).mono ((Mem.le.refl _).trans (hS.new_zed []))) et_21) ?_
  rintro _ w_22 ⟨v_25, v_29, N_23, M_27, M_31, rfl, hS', hr_26, hr_30⟩
  clear hm a; intro a hm
  obtain ⟨N_24, hS'', le_24, ln_24⟩ := hS.call [] (by decide) rfl (l' := []) (ow := [M_27, M_31]) rfl hS'
  replace hS : Sep w0 w_22 [N_24, Mem.no, Mem.no, M_27, M_31] Z := hS''
  clear hS' hS''
  refine s_move hm rfl rfl ?_
  clear hm a; intro a hm
  refine s_extract hm rfl rfl rfl ?_
  clear hm a; intro a hm
  refine s_extract hm rfl rfl rfl ?_
  clear hm a; intro a hm
  refine v_alloc hm rfl ti27 hS ?_
  intro w_33 g_34 hS'
  clear hm a; intro a hm
  replace hS : Sep w0 w_33 [N_24, Mem.no, Mem.no, M_27, M_31, Mem.one g_34 (.cells [.int .i64 0, .slice none 0 0, .int .i64 0].toArray 27 (0, 0))] Z := hS'
  clear hS'
  refine s_assign hm rfl rfl ?_
  clear hm a; intro a hm
  obtain ⟨w_35, hs', hS'⟩ := hS.store (P := Try.prog) (p := 5) (o := 0) (t := 27) (v := .agg [.int .i64 t_21.2.Err, v_29, .int .i64 t_21.2.N].toArray) (vs := [.int .i64 t_21.2.Err, v_29, .int .i64 t_21.2.N]) rfl ti27 rfl rfl rfl (by intro u hu; simp only [List.mem_cons, List.not_mem_nil, or_false] at hu; rcases hu with rfl | rfl | rfl <;> first | rfl | exact hr_30.one)
  refine s_store hm rfl rfl hs' ?_
  replace hS : Sep w0 w_35 [N_24, Mem.no, Mem.no, M_27, M_31, Mem.one g_34 (.cells [.int .i64 t_21.2.Err, v_29, .int .i64 t_21.2.N].toArray 27 (0, 0))] Z := hS'
  clear hs' hS'
  refine wpList_nil ?_
  replace hm : Fr 66 a [(0, .bool false), (1, v_25), (2, .pointer (some ⟨g_34, 0, none⟩))] := hm.keep [0, 1, 2]
  refine x_then_n ?_
  refine wp_seq ?_
  refine wp_region_lit ?_
  refine s_move hm rfl rfl ?_
  clear hm a; intro a hm
  have hq_40 : Reps Kd.u8 Mem.no ([(97 : UInt8)] : List UInt8) _ := ((Reps.one (d := Kd.u8) (x := (97 : UInt8)) (show Kd.u8.K _ _ [.int .u8 ((97 : UInt8).toNat : Int)] from rfl)).append (Reps.nil Kd.u8 _))
  refine s_buildSlice hm rfl Try.underlying25 ti5 rfl rfl rfl (.cons rfl .nil) rfl rfl rfl hS hq_40 rfl ?_
  intro w_36 v_37 M_38 hS' ho_39
  clear hm a; intro a hm
  replace hS : Sep w0 w_36 [N_24, Mem.no, Mem.no, M_27, M_31, Mem.one g_34 (.cells [.int .i64 t_21.2.Err, v_29, .int .i64 t_21.2.N].toArray 27 (0, 0)), M_38] Z := hS'
  clear hS' hq_40
  refine s_conv_sl (p := 6) hm rfl Try.underlying25 Try.underlying5 rfl ho_39 (by simp) hS rfl ?_
  intro w_42 M_43 hS' hr_44
  clear hm a; intro a hm
  obtain ⟨N_45, hS'', le_45, lo_45⟩ := Sep.freeze (N0 := N_24) (l := [Mem.no, Mem.no, M_27, M_31, Mem.one g_34 (.cells [.int .i64 t_21.2.Err, v_29, .int .i64 t_21.2.N].toArray 27 (0, 0)), M_43]) hS' 5 rfl
  replace hS : Sep w0 w_42 [N_45, Mem.no, Mem.no, M_27, M_31, Mem.one g_34 (.cells [.int .i64 t_21.2.Err, v_29, .int .i64 t_21.2.N].toArray 27 (0, 0)), Mem.no] Z := hS''
  clear hS' hS''
  have hq_50 : Reps Kd.u8 Mem.no ([(99 : UInt8)] : List UInt8) _ := ((Reps.one (d := Kd.u8) (x := (99 : UInt8)) (show Kd.u8.K _ _ [.int .u8 ((99 : UInt8).toNat : Int)] from rfl)).append (Reps.nil Kd.u8 _))
  refine s_buildSlice hm rfl Try.underlying25 ti5 rfl rfl rfl (.cons rfl .nil) rfl rfl rfl hS hq_50 rfl ?_
  intro w_46 v_47 M_48 hS' ho_49
  clear hm a; intro a hm
  replace hS : Sep w0 w_46 [N_45, Mem.no, Mem.no, M_27, M_31, Mem.one g_34 (.cells [.int .i64 t_21.2.Err, v_29, .int .i64 t_21.2.N].toArray 27 (0, 0)), Mem.no, M_48] Z := hS'
  clear hS' hq_50
  refine s_conv_sl (p := 7) hm rfl Try.underlying25 Try.underlying5 rfl ho_49 (by simp) hS rfl ?_
  intro w_52 M_53 hS' hr_54
  clear hm a; intro a hm
  obtain ⟨N_55, hS'', le_55, lo_55⟩ := Sep.freeze (N0 := N_45) (l := [Mem.no, Mem.no, M_27, M_31, Mem.one g_34 (.cells [.int .i64 t_21.2.Err, v_29, .int .i64 t_21.2.N].toArray 27 (0, 0)), Mem.no, M_53]) hS' 6 rfl
  replace hS : Sep w0 w_52 [N_55, Mem.no, Mem.no, M_27, M_31, Mem.one g_34 (.cells [.int .i64 t_21.2.Err, v_29, .int .i64 t_21.2.N].toArray 27 (0, 0)), Mem.no, Mem.no] Z := hS''
  clear hS' hS''
  obtain ⟨t_56, et_56, H⟩ := Option.bind_eq_some_iff.1 H
  refine s_call hm rfl Try.call14 rfl (regs_Cas.calls t_21.1 _ ([(97 : UInt8)] : List UInt8) _ ([(99 : UInt8)] : List UInt8) _ t_56 w0 _ _ _ (Mem.le.refl _) (hS.enter [] (by decide)) (hr_26.rd (hS.own_zed [] 2 (by decide)) (Mem.no_le _)) ((hr_44.mono lo_45).mono (le_55.trans (hS.new_zed []))) ((hr_54.mono lo_55).mono ((Mem.le.refl _).trans (hS.new_zed []))) et_56) ?_
  rintro _ w_57 ⟨v_60, v_64, N_58, M_62, M_66, rfl, hS', hr_61, hr_65⟩
  clear hm a; intro a hm
  obtain ⟨N_59, hS'', le_59, ln_59⟩ := hS.call [] (by decide) rfl (l' := []) (ow := [M_62, M_66]) rfl hS'
  replace hS : Sep w0 w_57 [N_59, Mem.no, Mem.no, M_27, M_31, Mem.one g_34 (.cells [.int .i64 t_21.2.Err, v_29, .int .i64 t_21.2.N].toArray 27 (0, 0)), Mem.no, Mem.no, M_62, M_66] Z := hS''
  clear hS' hS''
  refine s_move hm rfl rfl ?_
  clear hm a; intro a hm
  refine s_extract hm rfl rfl rfl ?_
  clear hm a; intro a hm
  refine s_extract hm rfl rfl rfl ?_
  clear hm a; intro a hm
  refine v_alloc hm rfl ti27 hS ?_
  intro w_68 g_69 hS'
  clear hm a; intro a hm
  replace hS : Sep w0 w_68 [N_59, Mem.no, Mem.no, M_27, M_31, Mem.one g_34 (.cells [.int .i64 t_21.2.Err, v_29, .int .i64 t_21.2.N].toArray 27 (0, 0)), Mem.no, Mem.no, M_62, M_66, Mem.one g_69 (.cells [.int .i64 0, .slice none 0 0, .int .i64 0].toArray 27 (0, 0))] Z := hS'
  clear hS'
  refine s_assign hm rfl rfl ?_
  clear hm a; intro a hm
  obtain ⟨w_70, hs', hS'⟩ := hS.store (P := Try.prog) (p := 10) (o := 0) (t := 27) (v := .agg [.int .i64 t_56.2.Err, v_64, .int .i64 t_56.2.N].toArray) (vs := [.int .i64 t_56.2.Err, v_64, .int .i64 t_56.2.N]) rfl ti27 rfl rfl rfl (by intro u hu; simp only [List.mem_cons, List.not_mem_nil, or_false] at hu; rcases hu with rfl | rfl | rfl <;> first | rfl | exact hr_65.one)
  refine s_store hm rfl rfl hs' ?_
  replace hS : Sep w0 w_70 [N_59, Mem.no, Mem.no, M_27, M_31, Mem.one g_34 (.cells [.int .i64 t_21.2.Err, v_29, .int .i64 t_21.2.N].toArray 27 (0, 0)), Mem.no, Mem.no, M_62, M_66, Mem.one g_69 (.cells [.int .i64 t_56.2.Err, v_64, .int .i64 t_56.2.N].toArray 27 (0, 0))] Z := hS'
  clear hs' hS'
  refine wpList_nil ?_
  replace hm : Fr 66 a [(0, .bool false), (1, v_25), (2, .pointer (some ⟨g_34, 0, none⟩)), (3, v_60), (4, .pointer (some ⟨g_69, 0, none⟩))] := hm.keep [0, 1, 2, 3, 4]
  refine x_then_n ?_
  refine wp_seq ?_
  refine wp_region_lit ?_
  refine s_move hm rfl rfl ?_
  clear hm a; intro a hm
  obtain ⟨t_71, et_71, H⟩ := Option.bind_eq_some_iff.1 H
  refine s_make (kd := Kd.u8) (I := Mem.no) 140737488355328 hm rfl rfl Try.underlying25 ti5 rfl rfl rfl rfl hS (show Kd.u8.K _ _ [.int .u8 ((0 : UInt8).toNat : Int)] from rfl) et_71 ?_
  intro w_72 v_73 M_74 hS' ho_75
  clear hm a; intro a hm
  replace hS : Sep w0 w_72 [N_59, Mem.no, Mem.no, M_27, M_31, Mem.one g_34 (.cells [.int .i64 t_21.2.Err, v_29, .int .i64 t_21.2.N].toArray 27 (0, 0)), Mem.no, Mem.no, M_62, M_66, Mem.one g_69 (.cells [.int .i64 t_56.2.Err, v_64, .int .i64 t_56.2.N].toArray 27 (0, 0)), M_74] Z := hS'
  clear hS'
  obtain ⟨t_77, et_77, H⟩ := Option.bind_eq_some_iff.1 H
  refine s_call hm rfl Try.call15 rfl (regs_Write.calls t_21.1 _ t_71 _ t_77 w0 _ _ _ (Mem.le.refl _) (hS.enter [] (by decide)) (hr_26.rd (hS.own_zed [] 2 (by decide)) (Mem.no_le _)) (ho_75.rd (hS.own_zed [] 10 (by decide)) (Mem.no_le _)) et_77) ?_
  rintro _ w_78 ⟨v_81, v_85, N_79, M_83, M_87, rfl, hS', hr_82, hr_86⟩
  clear hm a; intro a hm
  obtain ⟨N_80, hS'', le_80, ln_80⟩ := hS.call [] (by decide) rfl (l' := []) (ow := [M_83, M_87]) rfl hS'
  replace hS : Sep w0 w_78 [N_80, Mem.no, Mem.no, M_27, M_31, Mem.one g_34 (.cells [.int .i64 t_21.2.Err, v_29, .int .i64 t_21.2.N].toArray 27 (0, 0)), Mem.no, Mem.no, M_62, M_66, Mem.one g_69 (.cells [.int .i64 t_56.2.Err, v_64, .int .i64 t_56.2.N].toArray 27 (0, 0)), M_74, M_83, M_87] Z := hS''
  clear hS' hS''
  refine s_move hm rfl rfl ?_
  clear hm a; intro a hm
  refine s_extract hm rfl rfl rfl ?_
  clear hm a; intro a hm
  refine s_extract hm rfl rfl rfl ?_
  clear hm a; intro a hm
  refine v_alloc hm rfl ti27 hS ?_
  intro w_89 g_90 hS'
  clear hm a; intro a hm
  replace hS : Sep w0 w_89 [N_80, Mem.no, Mem.no, M_27, M_31, Mem.one g_34 (.cells [.int .i64 t_21.2.Err, v_29, .int .i64 t_21.2.N].toArray 27 (0, 0)), Mem.no, Mem.no, M_62, M_66, Mem.one g_69 (.cells [.int .i64 t_56.2.Err, v_64, .int .i64 t_56.2.N].toArray 27 (0, 0)), M_74, M_83, M_87, Mem.one g_90 (.cells [.int .i64 0, .slice none 0 0, .int .i64 0].toArray 27 (0, 0))] Z := hS'
  clear hS'
  refine s_assign hm rfl rfl ?_
  clear hm a; intro a hm
  obtain ⟨w_91, hs', hS'⟩ := hS.store (P := Try.prog) (p := 14) (o := 0) (t := 27) (v := .agg [.int .i64 t_77.2.Err, v_85, .int .i64 t_77.2.N].toArray) (vs := [.int .i64 t_77.2.Err, v_85, .int .i64 t_77.2.N]) rfl ti27 rfl rfl rfl (by intro u hu; simp only [List.mem_cons, List.not_mem_nil, or_false] at hu; rcases hu with rfl | rfl | rfl <;> first | rfl | exact hr_86.one)
  refine s_store hm rfl rfl hs' ?_
  replace hS : Sep w0 w_91 [N_80, Mem.no, Mem.no, M_27, M_31, Mem.one g_34 (.cells [.int .i64 t_21.2.Err, v_29, .int .i64 t_21.2.N].toArray 27 (0, 0)), Mem.no, Mem.no, M_62, M_66, Mem.one g_69 (.cells [.int .i64 t_56.2.Err, v_64, .int .i64 t_56.2.N].toArray 27 (0, 0)), M_74, M_83, M_87, Mem.one g_90 (.cells [.int .i64 t_77.2.Err, v_85, .int .i64 t_77.2.N].toArray 27 (0, 0))] Z := hS'
  clear hs' hS'
  refine wpList_nil ?_
  replace hm : Fr 66 a [(0, .bool false), (1, v_25), (2, .pointer (some ⟨g_34, 0, none⟩)), (3, v_60), (4, .pointer (some ⟨g_69, 0, none⟩)), (6, .pointer (some ⟨g_90, 0, none⟩))] := hm.keep [0, 1, 2, 3, 4, 6]
  refine x_then_n ?_
  refine c_seq fun KJ_92 hKJ_92 => ?_
  refine wp_region_lit ?_
  refine s_move hm rfl rfl ?_
  clear hm a; intro a hm
  refine s_b2s hm rfl Try.underlying25 Try.underlying5 Try.underlying9 rfl (hr_26.rd (J := hp w_91) (hS.own 3) (Mem.no_le _)) (Mem.le.refl _) ?_
  clear hm a; intro a hm
  refine s_strEq (b := (t_21.1 == ([98] : List UInt8))) hm rfl rfl rfl (.inl ⟨rfl, rfl⟩) ?_
  clear hm a; intro a hm
  refine s_move hm rfl rfl ?_
  clear hm a; intro a hm
  by_cases hc_93 : t_21.1 = ([98] : List UInt8)
  · rw [if_pos hc_93] at H
    refine s_on hm rfl rfl (beq_iff_eq.2 hc_93) ?_
    refine s_fieldAddr hm rfl Try.underlying27 rfl ti22 rfl rfl ?_
    clear hm a; intro a hm
    refine s_on hm rfl rfl (beq_iff_eq.2 hc_93) ?_
    refine s_load hm rfl rfl (hS.load_one (p := 5) rfl Try.underlying22 rfl rfl) ?_
    clear hm a; intro a hm
    refine s_on hm rfl rfl (beq_iff_eq.2 hc_93) ?_
    refine s_cmp (b := (t_21.2.Err == 0)) hm rfl rfl rfl (.inl ⟨rfl, rfl⟩) ?_
    clear hm a; intro a hm
    refine s_pick_t hm rfl rfl (beq_iff_eq.2 hc_93) rfl ?_
    clear hm a; intro a hm
    refine s_move hm rfl rfl ?_
    clear hm a; intro a hm
    by_cases hc_94 : t_21.2.Err = 0
    · rw [if_pos hc_94] at H
      refine s_on hm rfl rfl (beq_iff_eq.2 hc_94) ?_
      refine s_move hm rfl rfl ?_
      clear hm a; intro a hm
      refine s_on hm rfl rfl (beq_iff_eq.2 hc_94) ?_
      refine s_b2s hm rfl Try.underlying25 Try.underlying5 Try.underlying9 rfl (hr_61.rd (J := hp w_91) (hS.own 8) (Mem.no_le _)) (Mem.le.refl _) ?_
      clear hm a; intro a hm
      refine s_on hm rfl rfl (beq_iff_eq.2 hc_94) ?_
      refine s_strEq (b := (t_56.1 == ([98] : List UInt8))) hm rfl rfl rfl (.inl ⟨rfl, rfl⟩) ?_
      clear hm a; intro a hm
      refine s_pick_t hm rfl rfl (beq_iff_eq.2 hc_94) rfl ?_
      clear hm a; intro a hm
      refine s_move hm rfl rfl ?_
      clear hm a; intro a hm
      by_cases hc_95 : t_56.1 = ([98] : List UInt8)
      · rw [if_pos hc_95] at H
        refine s_on hm rfl rfl (beq_iff_eq.2 hc_95) ?_
        refine s_fieldAddr hm rfl Try.underlying27 rfl ti22 rfl rfl ?_
        clear hm a; intro a hm
        refine s_on hm rfl rfl (beq_iff_eq.2 hc_95) ?_
        refine s_load hm rfl rfl (hS.load_one (p := 10) rfl Try.underlying22 rfl rfl) ?_
        clear hm a; intro a hm
        refine s_on hm rfl rfl (beq_iff_eq.2 hc_95) ?_
        refine s_cmp (b := (t_56.2.Err == 2)) hm rfl rfl rfl (.inl ⟨rfl, rfl⟩) ?_
        clear hm a; intro a hm
        refine s_pick_t hm rfl rfl (beq_iff_eq.2 hc_95) rfl ?_
        clear hm a; intro a hm
        refine s_move hm rfl rfl ?_
        clear hm a; intro a hm
        by_cases hc_96 : t_56.2.Err = 2
        · rw [if_pos hc_96] at H
          refine s_on hm rfl rfl (beq_iff_eq.2 hc_96) ?_
          refine s_fieldAddr hm rfl Try.underlying27 rfl ti25 rfl rfl ?_
          clear hm a; intro a hm
          refine s_on hm rfl rfl (beq_iff_eq.2 hc_96) ?_
          refine s_load hm rfl rfl (hS.load_one (p := 10) rfl Try.underlying25 rfl rfl) ?_
          clear hm a; intro a hm
          refine s_on hm rfl rfl (beq_iff_eq.2 hc_96) ?_
          refine s_b2s hm rfl Try.underlying25 Try.underlying5 Try.underlying9 rfl (hr_65.rd (J := hp w_91) (hS.own 9) (Mem.no_le _)) (Mem.le.refl _) ?_
          clear hm a; intro a hm
          refine s_on hm rfl rfl (beq_iff_eq.2 hc_96) ?_
          refine s_strEq (b := (t_56.2.Val == ([98] : List UInt8))) hm rfl rfl rfl (.inl ⟨rfl, rfl⟩) ?_
          clear hm a; intro a hm
          refine s_pick_t hm rfl rfl (beq_iff_eq.2 hc_96) rfl ?_
          clear hm a; intro a hm
          refine s_move hm rfl rfl ?_
          clear hm a; intro a hm
          by_cases hc_97 : t_56.2.Val = ([98] : List UInt8)
          · rw [if_pos hc_97] at H
            refine s_on hm rfl rfl (beq_iff_eq.2 hc_97) ?_
            refine s_fieldAddr hm rfl Try.underlying27 rfl ti22 rfl rfl ?_
            clear hm a; intro a hm
            refine s_on hm rfl rfl (beq_iff_eq.2 hc_97) ?_
            refine s_load hm rfl rfl (hS.load_one (p := 14) rfl Try.underlying22 rfl rfl) ?_
            clear hm a; intro a hm
            refine s_on hm rfl rfl (beq_iff_eq.2 hc_97) ?_
            refine s_cmp (b := (t_77.2.Err == 1)) hm rfl rfl rfl (.inl ⟨rfl, rfl⟩) ?_
            clear hm a; intro a hm
            refine s_pick_t hm rfl rfl (beq_iff_eq.2 hc_97) rfl ?_
            clear hm a; intro a hm
            refine s_move hm rfl rfl ?_
            clear hm a; intro a hm
            by_cases hc_98 : t_77.2.Err = 1
            · rw [if_pos hc_98] at H
              refine s_on hm rfl rfl (beq_iff_eq.2 hc_98) ?_
              refine s_move hm rfl rfl ?_
              clear hm a; intro a hm
              refine s_on hm rfl rfl (beq_iff_eq.2 hc_98) ?_
              obtain ⟨t_99, et_99, H⟩ := Option.bind_eq_some_iff.1 H
              refine s_call hm rfl Try.call20 rfl (regs_Read.calls t_21.1 _ t_99 w0 _ _ _ (Mem.le.refl _) (hS.enter [] (by decide)) (hr_26.rd (hS.own_zed [] 2 (by decide)) (Mem.no_le _)) et_99) ?_
              rintro _ w_100 ⟨v_103, N_101, M_105, rfl, hS', hr_104⟩
              clear hm a; intro a hm
              obtain ⟨N_102, hS'', le_102, ln_102⟩ := hS.call [] (by decide) rfl (l' := []) (ow := [M_105]) rfl hS'
              replace hS : Sep w0 w_100 [N_102, Mem.no, Mem.no, M_27, M_31, Mem.one g_34 (.cells [.int .i64 t_21.2.Err, v_29, .int .i64 t_21.2.N].toArray 27 (0, 0)), Mem.no, Mem.no, M_62, M_66, Mem.one g_69 (.cells [.int .i64 t_56.2.Err, v_64, .int .i64 t_56.2.N].toArray 27 (0, 0)), M_74, M_83, M_87, Mem.one g_90 (.cells [.int .i64 t_77.2.Err, v_85, .int .i64 t_77.2.N].toArray 27 (0, 0)), M_105] Z := hS''
              clear hS' hS''
              refine s_on hm rfl rfl (beq_iff_eq.2 hc_98) ?_
              refine s_field_one hm rfl Try.underlying27 rfl Try.underlying25 rfl rfl rfl ?_
              clear hm a; intro a hm
              refine s_on hm rfl rfl (beq_iff_eq.2 hc_98) ?_
              refine s_b2s hm rfl Try.underlying25 Try.underlying5 Try.underlying9 rfl (hr_104.rd (J := hp w_100) (hS.own 15) (Mem.no_le _)) (Mem.le.refl _) ?_
              clear hm a; intro a hm
              refine s_on hm rfl rfl (beq_iff_eq.2 hc_98) ?_
              refine s_strEq (b := (t_99.Val == ([98] : List UInt8))) hm rfl rfl rfl (.inl ⟨rfl, rfl⟩) ?_
              clear hm a; intro a hm
              refine s_pick_t hm rfl rfl (beq_iff_eq.2 hc_98) rfl ?_
              clear hm a; intro a hm
              refine s_assign hm rfl rfl ?_
              clear hm a; intro a hm
              refine wpList_nil ?_
              replace hm : Fr 66 a [(0, .bool (t_99.Val == ([98] : List UInt8)))] := hm.keep [0]
              refine x_then_n (hKJ_92 _ _ ?_)
              refine wp_ret ?_
              by_cases hc_107 : t_99.Val = ([98] : List UInt8)
              · rw [if_pos hc_107] at H
                exact f_ret hm (rs := [.tmp 0]) rfl (.tmp rfl .nil) ⟨_, rfl, N_102, (by rw [(beq_iff_eq.2 hc_107)]; rfl), (Sep.sel hS [0] (by decide))⟩
              · rw [if_neg hc_107] at H
                cases H
            · rw [if_neg hc_98] at H
              cases H
          · rw [if_neg hc_97] at H
            cases H
        · rw [if_neg hc_96] at H
          cases H
      · rw [if_neg hc_95] at H
        cases H
    · rw [if_neg hc_94] at H
      cases H
  · rw [if_neg hc_93] at H
    cases H

set_option maxHeartbeats 4000000 in
set_option maxRecDepth 20000 in
theorem hocketlaw4_RegsForms.calls (x0 : Int) (r : Unit) (w0 w : World) (Z A : Mem) (hA : A.le Z) (hS : Sep w0 w [] Z)
    (H : hocketlaw4_RegsForms.f x0 = some r) :
    Calls Try.prog 3 [.int .i64 x0].toArray w (Ret fun v w' => ∃ (N : Mem), v = .bool true ∧ Sep w0 w' [N] Z) := by
  unfold hocketlaw4_RegsForms.f at H
  refine f_enter _ Try.func3 rfl Try.ntmps3 rfl fun a hm => ?_
  replace hm : Fr 125 a [(0, .int .i64 x0)] := hm
  replace hS := hS.start
  replace hS : Sep w0 w [Mem.no] Z := hS
  refine wp_seq ?_
  refine wp_region_lit ?_
  refine s_assign hm rfl rfl ?_
  clear hm a; intro a hm
  refine wpList_nil ?_
  replace hm : Fr 125 a [(0, .int .i64 x0), (2, .bool false)] := hm.keep [0, 2]
  refine x_then_n ?_
  refine wp_seq ?_
  refine wp_region_lit ?_
  refine s_assign hm rfl rfl ?_
  clear hm a; intro a hm
  refine s_assign hm rfl rfl ?_
  clear hm a; intro a hm
  refine wpList_nil ?_
  replace hm : Fr 125 a [(0, .int .i64 x0), (2, .bool false), (3, .string ⟨([48, 49, 50, 51, 52, 53, 54, 55, 56, 57, 48, 49, 50, 51, 52, 53, 54] : List UInt8).toArray⟩), (4, .string ⟨([48, 49, 50, 51, 52, 53, 54, 55, 56, 57, 48, 49, 50, 51, 52, 53] : List UInt8).toArray⟩)] := hm.keep [0, 2, 3, 4]
  refine x_then_n ?_
  refine wp_seq ?_
  refine wp_region_lit ?_
  refine s_build hm rfl ti23 pl23 rfl (.cons rfl (.cons rfl (.cons rfl (.cons rfl (.cons rfl (.cons rfl .nil)))))) (cs := [.string ⟨([] : List UInt8).toArray⟩, .string ⟨([] : List UInt8).toArray⟩, .string ⟨([] : List UInt8).toArray⟩, .string ⟨([] : List UInt8).toArray⟩, .int .i64 0, .string ⟨([] : List UInt8).toArray⟩]) rfl ?_
  clear hm a; intro a hm
  refine s_build hm rfl ti23 pl23 rfl (.cons rfl (.cons rfl (.cons rfl (.cons rfl (.cons rfl (.cons rfl .nil)))))) (cs := [.string ⟨([97] : List UInt8).toArray⟩, .string ⟨([97] : List UInt8).toArray⟩, .string ⟨([98] : List UInt8).toArray⟩, .string ⟨([98] : List UInt8).toArray⟩, .int .i64 0, .string ⟨([] : List UInt8).toArray⟩]) rfl ?_
  clear hm a; intro a hm
  refine s_build hm rfl ti23 pl23 rfl (.cons rfl (.cons rfl (.cons rfl (.cons rfl (.cons rfl (.cons rfl .nil)))))) (cs := [.string ⟨([97] : List UInt8).toArray⟩, .string ⟨([] : List UInt8).toArray⟩, .string ⟨([98] : List UInt8).toArray⟩, .string ⟨([97] : List UInt8).toArray⟩, .int .i64 2, .string ⟨([97] : List UInt8).toArray⟩]) rfl ?_
  clear hm a; intro a hm
  refine s_build hm rfl ti23 pl23 rfl (.cons rfl (.cons rfl (.cons rfl (.cons rfl (.cons rfl (.cons rfl .nil)))))) (cs := [.string ⟨([] : List UInt8).toArray⟩, .string ⟨([97] : List UInt8).toArray⟩, .string ⟨([98] : List UInt8).toArray⟩, .string ⟨([] : List UInt8).toArray⟩, .int .i64 2, .string ⟨([] : List UInt8).toArray⟩]) rfl ?_
  clear hm a; intro a hm
  refine s_move hm rfl rfl ?_
  clear hm a; intro a hm
  refine s_build hm rfl ti23 pl23 rfl (.cons rfl (.cons rfl (.cons rfl (.cons rfl (.cons rfl (.cons rfl .nil)))))) (cs := [.string ⟨([97] : List UInt8).toArray⟩, .string ⟨([97] : List UInt8).toArray⟩, .string ⟨([48, 49, 50, 51, 52, 53, 54, 55, 56, 57, 48, 49, 50, 51, 52, 53, 54] : List UInt8).toArray⟩, .string ⟨([97] : List UInt8).toArray⟩, .int .i64 1, .string ⟨([] : List UInt8).toArray⟩]) rfl ?_
  clear hm a; intro a hm
  refine s_move hm rfl rfl ?_
  clear hm a; intro a hm
  refine s_build hm rfl ti23 pl23 rfl (.cons rfl (.cons rfl (.cons rfl (.cons rfl (.cons rfl (.cons rfl .nil)))))) (cs := [.string ⟨([97] : List UInt8).toArray⟩, .string ⟨([120] : List UInt8).toArray⟩, .string ⟨([48, 49, 50, 51, 52, 53, 54, 55, 56, 57, 48, 49, 50, 51, 52, 53, 54] : List UInt8).toArray⟩, .string ⟨([97] : List UInt8).toArray⟩, .int .i64 1, .string ⟨([] : List UInt8).toArray⟩]) rfl ?_
  clear hm a; intro a hm
  refine s_move hm rfl rfl ?_
  clear hm a; intro a hm
  refine s_move hm rfl rfl ?_
  clear hm a; intro a hm
  refine s_build hm rfl ti23 pl23 rfl (.cons rfl (.cons rfl (.cons rfl (.cons rfl (.cons rfl (.cons rfl .nil)))))) (cs := [.string ⟨([97] : List UInt8).toArray⟩, .string ⟨([97] : List UInt8).toArray⟩, .string ⟨([48, 49, 50, 51, 52, 53, 54, 55, 56, 57, 48, 49, 50, 51, 52, 53] : List UInt8).toArray⟩, .string ⟨([48, 49, 50, 51, 52, 53, 54, 55, 56, 57, 48, 49, 50, 51, 52, 53] : List UInt8).toArray⟩, .int .i64 0, .string ⟨([] : List UInt8).toArray⟩]) rfl ?_
  clear hm a; intro a hm
  refine s_build hm rfl ti23 pl23 rfl (.cons rfl (.cons rfl (.cons rfl (.cons rfl (.cons rfl (.cons rfl .nil)))))) (cs := [.string ⟨([97] : List UInt8).toArray⟩, .string ⟨([97] : List UInt8).toArray⟩, .string ⟨([] : List UInt8).toArray⟩, .string ⟨([] : List UInt8).toArray⟩, .int .i64 0, .string ⟨([] : List UInt8).toArray⟩]) rfl ?_
  clear hm a; intro a hm
  refine s_build hm rfl ti23 pl23 rfl (.cons rfl (.cons rfl (.cons rfl (.cons rfl (.cons rfl (.cons rfl .nil)))))) (cs := [.string ⟨([97] : List UInt8).toArray⟩, .string ⟨([97, 98] : List UInt8).toArray⟩, .string ⟨([98] : List UInt8).toArray⟩, .string ⟨([97] : List UInt8).toArray⟩, .int .i64 2, .string ⟨([97] : List UInt8).toArray⟩]) rfl ?_
  clear hm a; intro a hm
  refine s_build hm rfl ti23 pl23 rfl (.cons rfl (.cons rfl (.cons rfl (.cons rfl (.cons rfl (.cons rfl .nil)))))) (cs := [.string ⟨([0] : List UInt8).toArray⟩, .string ⟨([0] : List UInt8).toArray⟩, .string ⟨([255] : List UInt8).toArray⟩, .string ⟨([255] : List UInt8).toArray⟩, .int .i64 0, .string ⟨([] : List UInt8).toArray⟩]) rfl ?_
  clear hm a; intro a hm
  have hq_5 : Reps k_An_s_old_v_want_e_val Mem.no ([(⟨([] : List UInt8), ([] : List UInt8), ([] : List UInt8), ([] : List UInt8), 0, ([] : List UInt8)⟩ : An_s_old_v_want_e_val), (⟨([97] : List UInt8), ([97] : List UInt8), ([98] : List UInt8), ([98] : List UInt8), 0, ([] : List UInt8)⟩ : An_s_old_v_want_e_val), (⟨([97] : List UInt8), ([] : List UInt8), ([98] : List UInt8), ([97] : List UInt8), 2, ([97] : List UInt8)⟩ : An_s_old_v_want_e_val), (⟨([] : List UInt8), ([97] : List UInt8), ([98] : List UInt8), ([] : List UInt8), 2, ([] : List UInt8)⟩ : An_s_old_v_want_e_val), (⟨([97] : List UInt8), ([97] : List UInt8), ([48, 49, 50, 51, 52, 53, 54, 55, 56, 57, 48, 49, 50, 51, 52, 53, 54] : List UInt8), ([97] : List UInt8), 1, ([] : List UInt8)⟩ : An_s_old_v_want_e_val), (⟨([97] : List UInt8), ([120] : List UInt8), ([48, 49, 50, 51, 52, 53, 54, 55, 56, 57, 48, 49, 50, 51, 52, 53, 54] : List UInt8), ([97] : List UInt8), 1, ([] : List UInt8)⟩ : An_s_old_v_want_e_val), (⟨([97] : List UInt8), ([97] : List UInt8), ([48, 49, 50, 51, 52, 53, 54, 55, 56, 57, 48, 49, 50, 51, 52, 53] : List UInt8), ([48, 49, 50, 51, 52, 53, 54, 55, 56, 57, 48, 49, 50, 51, 52, 53] : List UInt8), 0, ([] : List UInt8)⟩ : An_s_old_v_want_e_val), (⟨([97] : List UInt8), ([97] : List UInt8), ([] : List UInt8), ([] : List UInt8), 0, ([] : List UInt8)⟩ : An_s_old_v_want_e_val), (⟨([97] : List UInt8), ([97, 98] : List UInt8), ([98] : List UInt8), ([97] : List UInt8), 2, ([97] : List UInt8)⟩ : An_s_old_v_want_e_val), (⟨([0] : List UInt8), ([0] : List UInt8), ([255] : List UInt8), ([255] : List UInt8), 0, ([] : List UInt8)⟩ : An_s_old_v_want_e_val)] : List An_s_old_v_want_e_val) _ := ((Reps.one (d := k_An_s_old_v_want_e_val) (x := (⟨([] : List UInt8), ([] : List UInt8), ([] : List UInt8), ([] : List UInt8), 0, ([] : List UInt8)⟩ : An_s_old_v_want_e_val)) k_An_s_old_v_want_e_val.mk').append ((Reps.one (d := k_An_s_old_v_want_e_val) (x := (⟨([97] : List UInt8), ([97] : List UInt8), ([98] : List UInt8), ([98] : List UInt8), 0, ([] : List UInt8)⟩ : An_s_old_v_want_e_val)) k_An_s_old_v_want_e_val.mk').append ((Reps.one (d := k_An_s_old_v_want_e_val) (x := (⟨([97] : List UInt8), ([] : List UInt8), ([98] : List UInt8), ([97] : List UInt8), 2, ([97] : List UInt8)⟩ : An_s_old_v_want_e_val)) k_An_s_old_v_want_e_val.mk').append ((Reps.one (d := k_An_s_old_v_want_e_val) (x := (⟨([] : List UInt8), ([97] : List UInt8), ([98] : List UInt8), ([] : List UInt8), 2, ([] : List UInt8)⟩ : An_s_old_v_want_e_val)) k_An_s_old_v_want_e_val.mk').append ((Reps.one (d := k_An_s_old_v_want_e_val) (x := (⟨([97] : List UInt8), ([97] : List UInt8), ([48, 49, 50, 51, 52, 53, 54, 55, 56, 57, 48, 49, 50, 51, 52, 53, 54] : List UInt8), ([97] : List UInt8), 1, ([] : List UInt8)⟩ : An_s_old_v_want_e_val)) k_An_s_old_v_want_e_val.mk').append ((Reps.one (d := k_An_s_old_v_want_e_val) (x := (⟨([97] : List UInt8), ([120] : List UInt8), ([48, 49, 50, 51, 52, 53, 54, 55, 56, 57, 48, 49, 50, 51, 52, 53, 54] : List UInt8), ([97] : List UInt8), 1, ([] : List UInt8)⟩ : An_s_old_v_want_e_val)) k_An_s_old_v_want_e_val.mk').append ((Reps.one (d := k_An_s_old_v_want_e_val) (x := (⟨([97] : List UInt8), ([97] : List UInt8), ([48, 49, 50, 51, 52, 53, 54, 55, 56, 57, 48, 49, 50, 51, 52, 53] : List UInt8), ([48, 49, 50, 51, 52, 53, 54, 55, 56, 57, 48, 49, 50, 51, 52, 53] : List UInt8), 0, ([] : List UInt8)⟩ : An_s_old_v_want_e_val)) k_An_s_old_v_want_e_val.mk').append ((Reps.one (d := k_An_s_old_v_want_e_val) (x := (⟨([97] : List UInt8), ([97] : List UInt8), ([] : List UInt8), ([] : List UInt8), 0, ([] : List UInt8)⟩ : An_s_old_v_want_e_val)) k_An_s_old_v_want_e_val.mk').append ((Reps.one (d := k_An_s_old_v_want_e_val) (x := (⟨([97] : List UInt8), ([97, 98] : List UInt8), ([98] : List UInt8), ([97] : List UInt8), 2, ([97] : List UInt8)⟩ : An_s_old_v_want_e_val)) k_An_s_old_v_want_e_val.mk').append ((Reps.one (d := k_An_s_old_v_want_e_val) (x := (⟨([0] : List UInt8), ([0] : List UInt8), ([255] : List UInt8), ([255] : List UInt8), 0, ([] : List UInt8)⟩ : An_s_old_v_want_e_val)) k_An_s_old_v_want_e_val.mk').append (Reps.nil k_An_s_old_v_want_e_val _)))))))))))
  refine s_buildSlice hm rfl Try.underlying24 ti23 rfl rfl rfl (.cons rfl (.cons rfl (.cons rfl (.cons rfl (.cons rfl (.cons rfl (.cons rfl (.cons rfl (.cons rfl (.cons rfl .nil)))))))))) rfl rfl rfl hS hq_5 rfl ?_
  intro w_1 v_2 M_3 hS' ho_4
  clear hm a; intro a hm
  replace hS : Sep w0 w_1 [Mem.no, M_3] Z := hS'
  clear hS' hq_5
  refine s_assign hm rfl rfl ?_
  clear hm a; intro a hm
  refine wpList_nil ?_
  replace hm : Fr 125 a [(0, .int .i64 x0), (2, .bool false), (5, v_2)] := hm.keep [0, 2, 5]
  refine x_then_n ?_
  refine wp_seq ?_
  refine wp_region_lit ?_
  refine s_move hm rfl rfl ?_
  clear hm a; intro a hm
  refine s_move hm rfl rfl ?_
  clear hm a; intro a hm
  refine s_bits (i := x0) (j := 255) (r := band .i64 x0 255) hm rfl rfl rfl (.inl ⟨rfl, rfl⟩) ?_
  clear hm a; intro a hm
  refine s_move hm rfl rfl ?_
  clear hm a; intro a hm
  refine s_len hm rfl Try.underlying24 rfl (ho_4.rd (J := hp w_1) (hS.own 1) (Mem.no_le _)) ?_
  clear hm a; intro a hm
  obtain ⟨t_7, et_7, H⟩ := Option.bind_eq_some_iff.1 H
  refine s_div (r := t_7) hm rfl rfl rfl (rem_some et_7).1 (.inr ⟨rfl, (rem_some et_7).2⟩) ?_
  clear hm a; intro a hm
  obtain ⟨t_8, et_8, H⟩ := Option.bind_eq_some_iff.1 H
  refine v_indexO hm rfl Try.underlying24 ti23 rfl rfl rfl ho_4 (hS.own 1) et_8 ?_
  intro ad_9 cs_10 hk_11 hc_12
  obtain rfl := k_An_s_old_v_want_e_val.open' hk_11
  clear hm a; intro a hm
  refine s_load hm rfl rfl (el_agg (o := 0) (us := [.string ⟨t_8.s.toArray⟩, .string ⟨t_8.old.toArray⟩, .string ⟨t_8.v.toArray⟩, .string ⟨t_8.want.toArray⟩, .int .i64 t_8.e, .string ⟨t_8.val.toArray⟩]) hc_12 Try.underlying23 rfl ti23 rfl rfl) ?_
  clear hm a; intro a hm
  refine v_alloc hm rfl ti23 hS ?_
  intro w_13 g_14 hS'
  clear hm a; intro a hm
  replace hS : Sep w0 w_13 [Mem.no, M_3, Mem.one g_14 (.cells [.string ⟨([] : List UInt8).toArray⟩, .string ⟨([] : List UInt8).toArray⟩, .string ⟨([] : List UInt8).toArray⟩, .string ⟨([] : List UInt8).toArray⟩, .int .i64 0, .string ⟨([] : List UInt8).toArray⟩].toArray 23 (0, 0))] Z := hS'
  clear hS'
  obtain ⟨w_15, hs', hS'⟩ := hS.store (P := Try.prog) (p := 2) (o := 0) (t := 23) (v := .agg [.string ⟨t_8.s.toArray⟩, .string ⟨t_8.old.toArray⟩, .string ⟨t_8.v.toArray⟩, .string ⟨t_8.want.toArray⟩, .int .i64 t_8.e, .string ⟨t_8.val.toArray⟩].toArray) (vs := [.string ⟨t_8.s.toArray⟩, .string ⟨t_8.old.toArray⟩, .string ⟨t_8.v.toArray⟩, .string ⟨t_8.want.toArray⟩, .int .i64 t_8.e, .string ⟨t_8.val.toArray⟩]) rfl ti23 rfl rfl rfl (by intro u hu; simp only [List.mem_cons, List.not_mem_nil, or_false] at hu; rcases hu with rfl | rfl | rfl | rfl | rfl | rfl <;> rfl)
  refine s_store hm rfl rfl hs' ?_
  replace hS : Sep w0 w_15 [Mem.no, M_3, Mem.one g_14 (.cells [.string ⟨t_8.s.toArray⟩, .string ⟨t_8.old.toArray⟩, .string ⟨t_8.v.toArray⟩, .string ⟨t_8.want.toArray⟩, .int .i64 t_8.e, .string ⟨t_8.val.toArray⟩].toArray 23 (0, 0))] Z := hS'
  clear hs' hS'
  refine wpList_nil ?_
  replace hm : Fr 125 a [(2, .bool false), (6, .pointer (some ⟨g_14, 0, none⟩))] := hm.keep [2, 6]
  refine x_then_n ?_
  refine wp_seq ?_
  refine wp_region_lit ?_
  refine s_fieldAddr hm rfl Try.underlying23 rfl ti9 rfl rfl ?_
  clear hm a; intro a hm
  refine s_load hm rfl rfl (hS.load_one (p := 2) rfl Try.underlying9 rfl rfl) ?_
  clear hm a; intro a hm
  obtain ⟨u_16, eu_16, H⟩ := Option.bind_eq_some_iff.1 H
  refine s_s2b hm rfl Try.underlying9 Try.underlying25 Try.underlying5 rfl (must_some eu_16) hS ?_
  intro w_17 v_18 M_19 hS' hr_20
  clear hm a; intro a hm
  obtain ⟨N_21, hS'', le_21, lo_21⟩ := Sep.freeze (l := [M_3, Mem.one g_14 (.cells [.string ⟨t_8.s.toArray⟩, .string ⟨t_8.old.toArray⟩, .string ⟨t_8.v.toArray⟩, .string ⟨t_8.want.toArray⟩, .int .i64 t_8.e, .string ⟨t_8.val.toArray⟩].toArray 23 (0, 0)), M_19]) hS' 2 rfl
  replace hS : Sep w0 w_17 [N_21, M_3, Mem.one g_14 (.cells [.string ⟨t_8.s.toArray⟩, .string ⟨t_8.old.toArray⟩, .string ⟨t_8.v.toArray⟩, .string ⟨t_8.want.toArray⟩, .int .i64 t_8.e, .string ⟨t_8.val.toArray⟩].toArray 23 (0, 0)), Mem.no] Z := hS''
  clear hS' hS''
  refine s_fieldAddr hm rfl Try.underlying23 rfl ti9 rfl rfl ?_
  clear hm a; intro a hm
  refine s_load hm rfl rfl (hS.load_one (p := 2) rfl Try.underlying9 rfl rfl) ?_
  clear hm a; intro a hm
  obtain ⟨u_22, eu_22, H⟩ := Option.bind_eq_some_iff.1 H
  refine s_s2b hm rfl Try.underlying9 Try.underlying25 Try.underlying5 rfl (must_some eu_22) hS ?_
  intro w_23 v_24 M_25 hS' hr_26
  clear hm a; intro a hm
  obtain ⟨N_27, hS'', le_27, lo_27⟩ := Sep.freeze (l := [M_3, Mem.one g_14 (.cells [.string ⟨t_8.s.toArray⟩, .string ⟨t_8.old.toArray⟩, .string ⟨t_8.v.toArray⟩, .string ⟨t_8.want.toArray⟩, .int .i64 t_8.e, .string ⟨t_8.val.toArray⟩].toArray 23 (0, 0)), Mem.no, M_25]) hS' 3 rfl
  replace hS : Sep w0 w_23 [N_27, M_3, Mem.one g_14 (.cells [.string ⟨t_8.s.toArray⟩, .string ⟨t_8.old.toArray⟩, .string ⟨t_8.v.toArray⟩, .string ⟨t_8.want.toArray⟩, .int .i64 t_8.e, .string ⟨t_8.val.toArray⟩].toArray 23 (0, 0)), Mem.no, Mem.no] Z := hS''
  clear hS' hS''
  refine s_fieldAddr hm rfl Try.underlying23 rfl ti9 rfl rfl ?_
  clear hm a; intro a hm
  refine s_load hm rfl rfl (hS.load_one (p := 2) rfl Try.underlying9 rfl rfl) ?_
  clear hm a; intro a hm
  obtain ⟨u_28, eu_28, H⟩ := Option.bind_eq_some_iff.1 H
  refine s_s2b hm rfl Try.underlying9 Try.underlying25 Try.underlying5 rfl (must_some eu_28) hS ?_
  intro w_29 v_30 M_31 hS' hr_32
  clear hm a; intro a hm
  obtain ⟨N_33, hS'', le_33, lo_33⟩ := Sep.freeze (l := [M_3, Mem.one g_14 (.cells [.string ⟨t_8.s.toArray⟩, .string ⟨t_8.old.toArray⟩, .string ⟨t_8.v.toArray⟩, .string ⟨t_8.want.toArray⟩, .int .i64 t_8.e, .string ⟨t_8.val.toArray⟩].toArray 23 (0, 0)), Mem.no, Mem.no, M_31]) hS' 4 rfl
  replace hS : Sep w0 w_29 [N_33, M_3, Mem.one g_14 (.cells [.string ⟨t_8.s.toArray⟩, .string ⟨t_8.old.toArray⟩, .string ⟨t_8.v.toArray⟩, .string ⟨t_8.want.toArray⟩, .int .i64 t_8.e, .string ⟨t_8.val.toArray⟩].toArray 23 (0, 0)), Mem.no, Mem.no, Mem.no] Z := hS''
  clear hS' hS''
  obtain ⟨t_34, et_34, H⟩ := Option.bind_eq_some_iff.1 H
  refine s_call hm rfl Try.call14 rfl (regs_Cas.calls t_8.s _ t_8.old _ t_8.v _ t_34 w0 _ _ _ (Mem.le.refl _) (hS.enter [] (by decide)) ((hr_20.mono lo_21).mono ((le_27.trans le_33).trans (hS.new_zed []))) ((hr_26.mono lo_27).mono (le_33.trans (hS.new_zed []))) ((hr_32.mono lo_33).mono ((Mem.le.refl _).trans (hS.new_zed []))) et_34) ?_
  rintro _ w_35 ⟨v_38, v_42, N_36, M_40, M_44, rfl, hS', hr_39, hr_43⟩
  clear hm a; intro a hm
  obtain ⟨N_37, hS'', le_37, ln_37⟩ := hS.call [] (by decide) rfl (l' := []) (ow := [M_40, M_44]) rfl hS'
  replace hS : Sep w0 w_35 [N_37, M_3, Mem.one g_14 (.cells [.string ⟨t_8.s.toArray⟩, .string ⟨t_8.old.toArray⟩, .string ⟨t_8.v.toArray⟩, .string ⟨t_8.want.toArray⟩, .int .i64 t_8.e, .string ⟨t_8.val.toArray⟩].toArray 23 (0, 0)), Mem.no, Mem.no, Mem.no, M_40, M_44] Z := hS''
  clear hS' hS''
  refine s_move hm rfl rfl ?_
  clear hm a; intro a hm
  refine s_extract hm rfl rfl rfl ?_
  clear hm a; intro a hm
  refine s_extract hm rfl rfl rfl ?_
  clear hm a; intro a hm
  refine v_alloc hm rfl ti27 hS ?_
  intro w_46 g_47 hS'
  clear hm a; intro a hm
  replace hS : Sep w0 w_46 [N_37, M_3, Mem.one g_14 (.cells [.string ⟨t_8.s.toArray⟩, .string ⟨t_8.old.toArray⟩, .string ⟨t_8.v.toArray⟩, .string ⟨t_8.want.toArray⟩, .int .i64 t_8.e, .string ⟨t_8.val.toArray⟩].toArray 23 (0, 0)), Mem.no, Mem.no, Mem.no, M_40, M_44, Mem.one g_47 (.cells [.int .i64 0, .slice none 0 0, .int .i64 0].toArray 27 (0, 0))] Z := hS'
  clear hS'
  refine s_assign hm rfl rfl ?_
  clear hm a; intro a hm
  obtain ⟨w_48, hs', hS'⟩ := hS.store (P := Try.prog) (p := 8) (o := 0) (t := 27) (v := .agg [.int .i64 t_34.2.Err, v_42, .int .i64 t_34.2.N].toArray) (vs := [.int .i64 t_34.2.Err, v_42, .int .i64 t_34.2.N]) rfl ti27 rfl rfl rfl (by intro u hu; simp only [List.mem_cons, List.not_mem_nil, or_false] at hu; rcases hu with rfl | rfl | rfl <;> first | rfl | exact hr_43.one)
  refine s_store hm rfl rfl hs' ?_
  replace hS : Sep w0 w_48 [N_37, M_3, Mem.one g_14 (.cells [.string ⟨t_8.s.toArray⟩, .string ⟨t_8.old.toArray⟩, .string ⟨t_8.v.toArray⟩, .string ⟨t_8.want.toArray⟩, .int .i64 t_8.e, .string ⟨t_8.val.toArray⟩].toArray 23 (0, 0)), Mem.no, Mem.no, Mem.no, M_40, M_44, Mem.one g_47 (.cells [.int .i64 t_34.2.Err, v_42, .int .i64 t_34.2.N].toArray 27 (0, 0))] Z := hS'
  clear hs' hS'
  refine wpList_nil ?_
  replace hm : Fr 125 a [(2, .bool false), (6, .pointer (some ⟨g_14, 0, none⟩)), (7, v_38), (8, .pointer (some ⟨g_47, 0, none⟩))] := hm.keep [2, 6, 7, 8]
  refine x_then_n ?_
  refine wp_seq ?_
  refine wp_region_lit ?_
  refine s_fieldAddr hm rfl Try.underlying23 rfl ti9 rfl rfl ?_
  clear hm a; intro a hm
  refine s_load hm rfl rfl (hS.load_one (p := 2) rfl Try.underlying9 rfl rfl) ?_
  clear hm a; intro a hm
  refine s_s2b hm rfl Try.underlying9 Try.underlying25 Try.underlying5 rfl (must_some eu_16) hS ?_
  intro w_49 v_50 M_51 hS' hr_52
  clear hm a; intro a hm
  obtain ⟨N_53, hS'', le_53, lo_53⟩ := Sep.freeze (l := [M_3, Mem.one g_14 (.cells [.string ⟨t_8.s.toArray⟩, .string ⟨t_8.old.toArray⟩, .string ⟨t_8.v.toArray⟩, .string ⟨t_8.want.toArray⟩, .int .i64 t_8.e, .string ⟨t_8.val.toArray⟩].toArray 23 (0, 0)), Mem.no, Mem.no, Mem.no, M_40, M_44, Mem.one g_47 (.cells [.int .i64 t_34.2.Err, v_42, .int .i64 t_34.2.N].toArray 27 (0, 0)), M_51]) hS' 8 rfl
  replace hS : Sep w0 w_49 [N_53, M_3, Mem.one g_14 (.cells [.string ⟨t_8.s.toArray⟩, .string ⟨t_8.old.toArray⟩, .string ⟨t_8.v.toArray⟩, .string ⟨t_8.want.toArray⟩, .int .i64 t_8.e, .string ⟨t_8.val.toArray⟩].toArray 23 (0, 0)), Mem.no, Mem.no, Mem.no, M_40, M_44, Mem.one g_47 (.cells [.int .i64 t_34.2.Err, v_42, .int .i64 t_34.2.N].toArray 27 (0, 0)), Mem.no] Z := hS''
  clear hS' hS''
  refine s_fieldAddr hm rfl Try.underlying23 rfl ti9 rfl rfl ?_
  clear hm a; intro a hm
  refine s_load hm rfl rfl (hS.load_one (p := 2) rfl Try.underlying9 rfl rfl) ?_
  clear hm a; intro a hm
  refine s_s2b hm rfl Try.underlying9 Try.underlying25 Try.underlying5 rfl (must_some eu_28) hS ?_
  intro w_54 v_55 M_56 hS' hr_57
  clear hm a; intro a hm
  obtain ⟨N_58, hS'', le_58, lo_58⟩ := Sep.freeze (l := [M_3, Mem.one g_14 (.cells [.string ⟨t_8.s.toArray⟩, .string ⟨t_8.old.toArray⟩, .string ⟨t_8.v.toArray⟩, .string ⟨t_8.want.toArray⟩, .int .i64 t_8.e, .string ⟨t_8.val.toArray⟩].toArray 23 (0, 0)), Mem.no, Mem.no, Mem.no, M_40, M_44, Mem.one g_47 (.cells [.int .i64 t_34.2.Err, v_42, .int .i64 t_34.2.N].toArray 27 (0, 0)), Mem.no, M_56]) hS' 9 rfl
  replace hS : Sep w0 w_54 [N_58, M_3, Mem.one g_14 (.cells [.string ⟨t_8.s.toArray⟩, .string ⟨t_8.old.toArray⟩, .string ⟨t_8.v.toArray⟩, .string ⟨t_8.want.toArray⟩, .int .i64 t_8.e, .string ⟨t_8.val.toArray⟩].toArray 23 (0, 0)), Mem.no, Mem.no, Mem.no, M_40, M_44, Mem.one g_47 (.cells [.int .i64 t_34.2.Err, v_42, .int .i64 t_34.2.N].toArray 27 (0, 0)), Mem.no, Mem.no] Z := hS''
  clear hS' hS''
  obtain ⟨t_59, et_59, H⟩ := Option.bind_eq_some_iff.1 H
  refine s_call hm rfl Try.call15 rfl (regs_Write.calls t_8.s _ t_8.v _ t_59 w0 _ _ _ (Mem.le.refl _) (hS.enter [] (by decide)) ((hr_52.mono lo_53).mono (le_58.trans (hS.new_zed []))) ((hr_57.mono lo_58).mono ((Mem.le.refl _).trans (hS.new_zed []))) et_59) ?_
  rintro _ w_60 ⟨v_63, v_67, N_61, M_65, M_69, rfl, hS', hr_64, hr_68⟩
  clear hm a; intro a hm
  obtain ⟨N_62, hS'', le_62, ln_62⟩ := hS.call [] (by decide) rfl (l' := []) (ow := [M_65, M_69]) rfl hS'
  replace hS : Sep w0 w_60 [N_62, M_3, Mem.one g_14 (.cells [.string ⟨t_8.s.toArray⟩, .string ⟨t_8.old.toArray⟩, .string ⟨t_8.v.toArray⟩, .string ⟨t_8.want.toArray⟩, .int .i64 t_8.e, .string ⟨t_8.val.toArray⟩].toArray 23 (0, 0)), Mem.no, Mem.no, Mem.no, M_40, M_44, Mem.one g_47 (.cells [.int .i64 t_34.2.Err, v_42, .int .i64 t_34.2.N].toArray 27 (0, 0)), Mem.no, Mem.no, M_65, M_69] Z := hS''
  clear hS' hS''
  refine s_move hm rfl rfl ?_
  clear hm a; intro a hm
  refine s_extract hm rfl rfl rfl ?_
  clear hm a; intro a hm
  refine s_extract hm rfl rfl rfl ?_
  clear hm a; intro a hm
  refine v_alloc hm rfl ti27 hS ?_
  intro w_71 g_72 hS'
  clear hm a; intro a hm
  replace hS : Sep w0 w_71 [N_62, M_3, Mem.one g_14 (.cells [.string ⟨t_8.s.toArray⟩, .string ⟨t_8.old.toArray⟩, .string ⟨t_8.v.toArray⟩, .string ⟨t_8.want.toArray⟩, .int .i64 t_8.e, .string ⟨t_8.val.toArray⟩].toArray 23 (0, 0)), Mem.no, Mem.no, Mem.no, M_40, M_44, Mem.one g_47 (.cells [.int .i64 t_34.2.Err, v_42, .int .i64 t_34.2.N].toArray 27 (0, 0)), Mem.no, Mem.no, M_65, M_69, Mem.one g_72 (.cells [.int .i64 0, .slice none 0 0, .int .i64 0].toArray 27 (0, 0))] Z := hS'
  clear hS'
  refine s_assign hm rfl rfl ?_
  clear hm a; intro a hm
  obtain ⟨w_73, hs', hS'⟩ := hS.store (P := Try.prog) (p := 13) (o := 0) (t := 27) (v := .agg [.int .i64 t_59.2.Err, v_67, .int .i64 t_59.2.N].toArray) (vs := [.int .i64 t_59.2.Err, v_67, .int .i64 t_59.2.N]) rfl ti27 rfl rfl rfl (by intro u hu; simp only [List.mem_cons, List.not_mem_nil, or_false] at hu; rcases hu with rfl | rfl | rfl <;> first | rfl | exact hr_68.one)
  refine s_store hm rfl rfl hs' ?_
  replace hS : Sep w0 w_73 [N_62, M_3, Mem.one g_14 (.cells [.string ⟨t_8.s.toArray⟩, .string ⟨t_8.old.toArray⟩, .string ⟨t_8.v.toArray⟩, .string ⟨t_8.want.toArray⟩, .int .i64 t_8.e, .string ⟨t_8.val.toArray⟩].toArray 23 (0, 0)), Mem.no, Mem.no, Mem.no, M_40, M_44, Mem.one g_47 (.cells [.int .i64 t_34.2.Err, v_42, .int .i64 t_34.2.N].toArray 27 (0, 0)), Mem.no, Mem.no, M_65, M_69, Mem.one g_72 (.cells [.int .i64 t_59.2.Err, v_67, .int .i64 t_59.2.N].toArray 27 (0, 0))] Z := hS'
  clear hs' hS'
  refine wpList_nil ?_
  replace hm : Fr 125 a [(2, .bool false), (6, .pointer (some ⟨g_14, 0, none⟩)), (7, v_38), (8, .pointer (some ⟨g_47, 0, none⟩)), (9, v_63), (10, .pointer (some ⟨g_72, 0, none⟩))] := hm.keep [2, 6, 7, 8, 9, 10]
  refine x_then_n ?_
  refine c_seq fun KJ_74 hKJ_74 => ?_
  refine c_seq fun KJ_75 hKJ_75 => ?_
  have hJ_j_79 : ∀ (x_77 : Bool), hocketlaw4_RegsForms.j_79 t_34 t_8 x_77 = some r → ∀ (a : Act) (w_78 : World), (∃ (N_76 : Mem), Fr 125 a [(2, .bool false), (6, .pointer (some ⟨g_14, 0, none⟩)), (7, v_38), (8, .pointer (some ⟨g_47, 0, none⟩)), (96, .bool x_77)] ∧ Sep w0 w_78 [N_76, Mem.no, Mem.one g_14 (.cells [.string ⟨t_8.s.toArray⟩, .string ⟨t_8.old.toArray⟩, .string ⟨t_8.v.toArray⟩, .string ⟨t_8.want.toArray⟩, .int .i64 t_8.e, .string ⟨t_8.val.toArray⟩].toArray 23 (0, 0)), Mem.no, Mem.no, Mem.no, M_40, M_44, Mem.one g_47 (.cells [.int .i64 t_34.2.Err, v_42, .int .i64 t_34.2.N].toArray 27 (0, 0)), Mem.no, Mem.no, Mem.no, Mem.no, Mem.no] Z ∧ N_62.le N_76) → KJ_75 a w_78 := by
    clear H hm hS a
    rintro x_77 H a w_78 ⟨N_76, hm, hS, le_76⟩
    unfold hocketlaw4_RegsForms.j_79 at H
    refine hKJ_75 _ _ ?_
    by_cases hc_80 : x_77 = true
    · rw [if_pos hc_80] at H
      cases H
    · rw [if_neg hc_80] at H
      refine c_cond_f hm rfl (Bool.eq_false_iff.2 hc_80) ?_
      refine wp_skip ?_
      refine x_then_n (hKJ_74 _ _ ?_)
      refine c_seq fun KJ_81 hKJ_81 => ?_
      refine wp_region_lit ?_
      refine s_move hm rfl rfl ?_
      clear hm a; intro a hm
      refine s_b2s hm rfl Try.underlying25 Try.underlying5 Try.underlying9 rfl (hr_39.rd (J := hp w_78) (hS.own 6) (Mem.no_le _)) (Mem.le.refl _) ?_
      clear hm a; intro a hm
      refine s_fieldAddr hm rfl Try.underlying23 rfl ti9 rfl rfl ?_
      clear hm a; intro a hm
      refine s_load hm rfl rfl (hS.load_one (p := 2) rfl Try.underlying9 rfl rfl) ?_
      clear hm a; intro a hm
      refine s_strEq (b := (t_34.1 == t_8.want)) hm rfl rfl rfl (.inl ⟨rfl, rfl⟩) ?_
      clear hm a; intro a hm
      refine s_move hm rfl rfl ?_
      clear hm a; intro a hm
      by_cases hc_82 : t_34.1 = t_8.want
      · rw [if_pos hc_82] at H
        refine s_on hm rfl rfl (beq_iff_eq.2 hc_82) ?_
        refine s_fieldAddr hm rfl Try.underlying27 rfl ti22 rfl rfl ?_
        clear hm a; intro a hm
        refine s_on hm rfl rfl (beq_iff_eq.2 hc_82) ?_
        refine s_load hm rfl rfl (hS.load_one (p := 8) rfl Try.underlying22 rfl rfl) ?_
        clear hm a; intro a hm
        refine s_on hm rfl rfl (beq_iff_eq.2 hc_82) ?_
        refine s_fieldAddr hm rfl Try.underlying23 rfl ti22 rfl rfl ?_
        clear hm a; intro a hm
        refine s_on hm rfl rfl (beq_iff_eq.2 hc_82) ?_
        refine s_load hm rfl rfl (hS.load_one (p := 2) rfl Try.underlying22 rfl rfl) ?_
        clear hm a; intro a hm
        refine s_on hm rfl rfl (beq_iff_eq.2 hc_82) ?_
        refine s_cmp (b := (t_34.2.Err == t_8.e)) hm rfl rfl rfl (.inl ⟨rfl, rfl⟩) ?_
        clear hm a; intro a hm
        refine s_pick_t hm rfl rfl (beq_iff_eq.2 hc_82) rfl ?_
        clear hm a; intro a hm
        refine s_move hm rfl rfl ?_
        clear hm a; intro a hm
        by_cases hc_83 : t_34.2.Err = t_8.e
        · rw [if_pos hc_83] at H
          refine s_on hm rfl rfl (beq_iff_eq.2 hc_83) ?_
          refine s_fieldAddr hm rfl Try.underlying27 rfl ti25 rfl rfl ?_
          clear hm a; intro a hm
          refine s_on hm rfl rfl (beq_iff_eq.2 hc_83) ?_
          refine s_load hm rfl rfl (hS.load_one (p := 8) rfl Try.underlying25 rfl rfl) ?_
          clear hm a; intro a hm
          refine s_on hm rfl rfl (beq_iff_eq.2 hc_83) ?_
          refine s_b2s hm rfl Try.underlying25 Try.underlying5 Try.underlying9 rfl (hr_43.rd (J := hp w_78) (hS.own 7) (Mem.no_le _)) (Mem.le.refl _) ?_
          clear hm a; intro a hm
          refine s_on hm rfl rfl (beq_iff_eq.2 hc_83) ?_
          refine s_fieldAddr hm rfl Try.underlying23 rfl ti9 rfl rfl ?_
          clear hm a; intro a hm
          refine s_on hm rfl rfl (beq_iff_eq.2 hc_83) ?_
          refine s_load hm rfl rfl (hS.load_one (p := 2) rfl Try.underlying9 rfl rfl) ?_
          clear hm a; intro a hm
          refine s_on hm rfl rfl (beq_iff_eq.2 hc_83) ?_
          refine s_strEq (b := (t_34.2.Val == t_8.val)) hm rfl rfl rfl (.inl ⟨rfl, rfl⟩) ?_
          clear hm a; intro a hm
          refine s_pick_t hm rfl rfl (beq_iff_eq.2 hc_83) rfl ?_
          clear hm a; intro a hm
          refine s_move hm rfl rfl ?_
          clear hm a; intro a hm
          by_cases hc_84 : t_34.2.Val = t_8.val
          · rw [if_pos hc_84] at H
            refine s_on hm rfl rfl (beq_iff_eq.2 hc_84) ?_
            refine s_fieldAddr hm rfl Try.underlying27 rfl ti3 rfl rfl ?_
            clear hm a; intro a hm
            refine s_on hm rfl rfl (beq_iff_eq.2 hc_84) ?_
            refine s_load hm rfl rfl (hS.load_one (p := 8) rfl Try.underlying3 rfl rfl) ?_
            clear hm a; intro a hm
            refine s_on hm rfl rfl (beq_iff_eq.2 hc_84) ?_
            refine s_cmp (b := (t_34.2.N == 0)) hm rfl rfl rfl (.inl ⟨rfl, rfl⟩) ?_
            clear hm a; intro a hm
            refine s_pick_t hm rfl rfl (beq_iff_eq.2 hc_84) rfl ?_
            clear hm a; intro a hm
            refine s_move hm rfl rfl ?_
            clear hm a; intro a hm
            by_cases hc_85 : t_34.2.N = 0
            · rw [if_pos hc_85] at H
              refine s_on hm rfl rfl (beq_iff_eq.2 hc_85) ?_
              obtain ⟨t_86, et_86, H⟩ := Option.bind_eq_some_iff.1 H
              refine s_call hm rfl Try.call16 rfl (hocketlaw4_awake.calls  t_86 w0 _ _ _ (Mem.le.refl _) (hS.enter [] (by decide))  et_86) ?_
              rintro _ w_87 ⟨N_88, rfl, hS'⟩
              clear hm a; intro a hm
              obtain ⟨N_89, hS'', le_89, ln_89⟩ := hS.call [] (by decide) rfl (l' := []) (ow := []) rfl hS'
              replace hS : Sep w0 w_87 [N_89, Mem.no, Mem.one g_14 (.cells [.string ⟨t_8.s.toArray⟩, .string ⟨t_8.old.toArray⟩, .string ⟨t_8.v.toArray⟩, .string ⟨t_8.want.toArray⟩, .int .i64 t_8.e, .string ⟨t_8.val.toArray⟩].toArray 23 (0, 0)), Mem.no, Mem.no, Mem.no, M_40, M_44, Mem.one g_47 (.cells [.int .i64 t_34.2.Err, v_42, .int .i64 t_34.2.N].toArray 27 (0, 0)), Mem.no, Mem.no, Mem.no, Mem.no, Mem.no] Z := hS''
              clear hS' hS''
              refine s_pick_t hm rfl rfl (beq_iff_eq.2 hc_85) rfl ?_
              clear hm a; intro a hm
              refine s_assign hm rfl rfl ?_
              clear hm a; intro a hm
              refine wpList_nil ?_
              replace hm : Fr 125 a [(2, .bool true)] := hm.keep [2]
              refine x_then_n (hKJ_81 _ _ ?_)
              refine wp_ret ?_
              exact f_ret hm (rs := [.tmp 2]) rfl (.tmp rfl .nil) ⟨_, rfl, N_89, rfl, (Sep.sel hS [0] (by decide))⟩
            · rw [if_neg hc_85] at H
              cases H
          · rw [if_neg hc_84] at H
            cases H
        · rw [if_neg hc_83] at H
          cases H
      · rw [if_neg hc_82] at H
        cases H
  clear hKJ_75
  refine wp_region_lit ?_
  refine s_fieldAddr hm rfl Try.underlying23 rfl ti9 rfl rfl ?_
  clear hm a; intro a hm
  refine s_load hm rfl rfl (hS.load_one (p := 2) rfl Try.underlying9 rfl rfl) ?_
  clear hm a; intro a hm
  refine s_lenS hm rfl Try.underlying9 rfl ?_
  clear hm a; intro a hm
  refine s_cmp (b := decide ((t_8.v.length : Int) > 16)) hm rfl rfl rfl (.inr (.inr (.inr (.inr (.inl ⟨rfl, rfl⟩))))) ?_
  clear hm a; intro a hm
  refine s_move hm rfl rfl ?_
  clear hm a; intro a hm
  by_cases hc_90 : (t_8.v.length : Int) > 16
  · rw [if_pos hc_90] at H
    refine s_on hm rfl rfl (decide_eq_true hc_90) ?_
    refine s_fieldAddr hm rfl Try.underlying27 rfl ti22 rfl rfl ?_
    clear hm a; intro a hm
    refine s_on hm rfl rfl (decide_eq_true hc_90) ?_
    refine s_load hm rfl rfl (hS.load_one (p := 13) rfl Try.underlying22 rfl rfl) ?_
    clear hm a; intro a hm
    refine s_on hm rfl rfl (decide_eq_true hc_90) ?_
    refine s_cmp (b := (t_59.2.Err != 1)) hm rfl rfl rfl (.inr (.inl ⟨rfl, rfl⟩)) ?_
    clear hm a; intro a hm
    refine s_on hm rfl rfl (decide_eq_true hc_90) ?_
    refine s_move hm rfl rfl ?_
    clear hm a; intro a hm
    by_cases hc_91 : t_59.2.Err = 1
    · rw [if_pos hc_91] at H
      refine s_on hm rfl rfl (bne_eq_false_iff_eq.2 hc_91) ?_
      refine s_move hm rfl rfl ?_
      clear hm a; intro a hm
      refine s_on hm rfl rfl (bne_eq_false_iff_eq.2 hc_91) ?_
      refine s_b2s hm rfl Try.underlying25 Try.underlying5 Try.underlying9 rfl (hr_64.rd (J := hp w_73) (hS.own 11) (Mem.no_le _)) (Mem.le.refl _) ?_
      clear hm a; intro a hm
      refine s_on hm rfl rfl (bne_eq_false_iff_eq.2 hc_91) ?_
      refine s_fieldAddr hm rfl Try.underlying23 rfl ti9 rfl rfl ?_
      clear hm a; intro a hm
      refine s_on hm rfl rfl (bne_eq_false_iff_eq.2 hc_91) ?_
      refine s_load hm rfl rfl (hS.load_one (p := 2) rfl Try.underlying9 rfl rfl) ?_
      clear hm a; intro a hm
      refine s_on hm rfl rfl (bne_eq_false_iff_eq.2 hc_91) ?_
      refine s_strEq (b := !(t_59.1 == t_8.s)) hm rfl rfl rfl (.inr ⟨rfl, rfl⟩) ?_
      clear hm a; intro a hm
      refine s_on hm rfl rfl (decide_eq_true hc_90) ?_
      refine s_pick_f hm rfl rfl (bne_eq_false_iff_eq.2 hc_91) rfl ?_
      clear hm a; intro a hm
      refine s_pick_t hm rfl rfl (decide_eq_true hc_90) rfl ?_
      clear hm a; intro a hm
      refine s_move hm rfl rfl ?_
      clear hm a; intro a hm
      by_cases hc_92 : t_59.1 = t_8.s
      · rw [if_pos hc_92] at H
        refine s_on hm rfl rfl (nf (beq_iff_eq.2 hc_92)) ?_
        refine s_fieldAddr hm rfl Try.underlying23 rfl ti9 rfl rfl ?_
        clear hm a; intro a hm
        refine s_on hm rfl rfl (nf (beq_iff_eq.2 hc_92)) ?_
        refine s_load hm rfl rfl (hS.load_one (p := 2) rfl Try.underlying9 rfl rfl) ?_
        clear hm a; intro a hm
        refine s_on hm rfl rfl (nf (beq_iff_eq.2 hc_92)) ?_
        refine s_lenS hm rfl Try.underlying9 rfl ?_
        clear hm a; intro a hm
        refine s_on hm rfl rfl (nf (beq_iff_eq.2 hc_92)) ?_
        refine s_cmp (b := decide ((t_8.v.length : Int) ≤ 16)) hm rfl rfl rfl (.inr (.inr (.inr (.inl ⟨rfl, rfl⟩)))) ?_
        clear hm a; intro a hm
        refine s_on hm rfl rfl (nf (beq_iff_eq.2 hc_92)) ?_
        refine s_move hm rfl rfl ?_
        clear hm a; intro a hm
        by_cases hc_93 : (t_8.v.length : Int) ≤ 16
        · rw [if_pos hc_93] at H
          refine s_on hm rfl rfl (decide_eq_true hc_93) ?_
          refine s_fieldAddr hm rfl Try.underlying27 rfl ti22 rfl rfl ?_
          clear hm a; intro a hm
          refine s_on hm rfl rfl (decide_eq_true hc_93) ?_
          refine s_load hm rfl rfl (hS.load_one (p := 13) rfl Try.underlying22 rfl rfl) ?_
          clear hm a; intro a hm
          refine s_on hm rfl rfl (decide_eq_true hc_93) ?_
          refine s_cmp (b := (t_59.2.Err != 0)) hm rfl rfl rfl (.inr (.inl ⟨rfl, rfl⟩)) ?_
          clear hm a; intro a hm
          refine s_on hm rfl rfl (decide_eq_true hc_93) ?_
          refine s_move hm rfl rfl ?_
          clear hm a; intro a hm
          by_cases hc_94 : t_59.2.Err = 0
          · rw [if_pos hc_94] at H
            refine s_on hm rfl rfl (bne_eq_false_iff_eq.2 hc_94) ?_
            refine s_move hm rfl rfl ?_
            clear hm a; intro a hm
            refine s_on hm rfl rfl (bne_eq_false_iff_eq.2 hc_94) ?_
            refine s_b2s hm rfl Try.underlying25 Try.underlying5 Try.underlying9 rfl (hr_64.rd (J := hp w_73) (hS.own 11) (Mem.no_le _)) (Mem.le.refl _) ?_
            clear hm a; intro a hm
            refine s_on hm rfl rfl (bne_eq_false_iff_eq.2 hc_94) ?_
            refine s_fieldAddr hm rfl Try.underlying23 rfl ti9 rfl rfl ?_
            clear hm a; intro a hm
            refine s_on hm rfl rfl (bne_eq_false_iff_eq.2 hc_94) ?_
            refine s_load hm rfl rfl (hS.load_one (p := 2) rfl Try.underlying9 rfl rfl) ?_
            clear hm a; intro a hm
            refine s_on hm rfl rfl (bne_eq_false_iff_eq.2 hc_94) ?_
            refine s_strEq (b := !(t_59.1 == t_8.v)) hm rfl rfl rfl (.inr ⟨rfl, rfl⟩) ?_
            clear hm a; intro a hm
            refine s_on hm rfl rfl (decide_eq_true hc_93) ?_
            refine s_pick_f hm rfl rfl (bne_eq_false_iff_eq.2 hc_94) rfl ?_
            clear hm a; intro a hm
            refine s_on hm rfl rfl (decide_eq_true hc_93) ?_
            refine s_move hm rfl rfl ?_
            clear hm a; intro a hm
            by_cases hc_95 : t_59.1 = t_8.v
            · rw [if_pos hc_95] at H
              refine s_on hm rfl rfl (nf (beq_iff_eq.2 hc_95)) ?_
              refine s_fieldAddr hm rfl Try.underlying27 rfl ti25 rfl rfl ?_
              clear hm a; intro a hm
              refine s_on hm rfl rfl (nf (beq_iff_eq.2 hc_95)) ?_
              refine s_load hm rfl rfl (hS.load_one (p := 13) rfl Try.underlying25 rfl rfl) ?_
              clear hm a; intro a hm
              refine s_on hm rfl rfl (nf (beq_iff_eq.2 hc_95)) ?_
              refine s_len hm rfl Try.underlying25 rfl (hr_68.rd (J := hp w_73) (hS.own 12) (Mem.no_le _)) ?_
              clear hm a; intro a hm
              refine s_on hm rfl rfl (nf (beq_iff_eq.2 hc_95)) ?_
              refine s_cmp (b := ((t_59.2.Val.length : Int) != 0)) hm rfl rfl rfl (.inr (.inl ⟨rfl, rfl⟩)) ?_
              clear hm a; intro a hm
              refine s_on hm rfl rfl (decide_eq_true hc_93) ?_
              refine s_pick_f hm rfl rfl (nf (beq_iff_eq.2 hc_95)) rfl ?_
              clear hm a; intro a hm
              refine s_on hm rfl rfl (nf (beq_iff_eq.2 hc_92)) ?_
              refine s_pick_t hm rfl rfl (decide_eq_true hc_93) rfl ?_
              clear hm a; intro a hm
              refine s_pick_f hm rfl rfl (nf (beq_iff_eq.2 hc_92)) rfl ?_
              clear hm a; intro a hm
              refine wpList_nil ?_
              replace hm : Fr 125 a [(2, .bool false), (6, .pointer (some ⟨g_14, 0, none⟩)), (7, v_38), (8, .pointer (some ⟨g_47, 0, none⟩)), (96, .bool ((t_59.2.Val.length : Int) != 0))] := hm.keep [2, 6, 7, 8, 96]
              replace hS : Sep w0 w_73 [N_62, M_3, Mem.one g_14 (.cells [.string ⟨t_8.s.toArray⟩, .string ⟨t_8.old.toArray⟩, .string ⟨t_8.v.toArray⟩, .string ⟨t_8.want.toArray⟩, .int .i64 t_8.e, .string ⟨t_8.val.toArray⟩].toArray 23 (0, 0)), Mem.no, Mem.no, Mem.no, M_40, M_44, Mem.one g_47 (.cells [.int .i64 t_34.2.Err, v_42, .int .i64 t_34.2.N].toArray 27 (0, 0)), Mem.no, Mem.no, M_65, M_69, Mem.one g_72 (.cells [.int .i64 t_59.2.Err, v_67, .int .i64 t_59.2.N].toArray 27 (0, 0))] Z := hS
              replace hm : Fr 125 a [(2, .bool false), (6, .pointer (some ⟨g_14, 0, none⟩)), (7, v_38), (8, .pointer (some ⟨g_47, 0, none⟩)), (96, .bool ((t_59.2.Val.length : Int) != 0))] := hm.keep [2, 6, 7, 8, 96]
              exact x_then_n (hJ_j_79 ((t_59.2.Val.length : Int) != 0) H _ _ ⟨N_62, hm, (Sep.sel hS [0, 1000, 2, 1002, 1003, 1004, 6, 7, 8, 1008, 1009, 1010, 1011, 1012] (by decide)), (Mem.le.refl _)⟩)
            · rw [if_neg hc_95] at H
              refine s_off hm rfl rfl rfl (nt (beq_eq_false_iff_ne.2 hc_95)) ?_
              clear hm a; intro a hm
              refine s_off hm rfl rfl rfl (nt (beq_eq_false_iff_ne.2 hc_95)) ?_
              clear hm a; intro a hm
              refine s_off hm rfl rfl rfl (nt (beq_eq_false_iff_ne.2 hc_95)) ?_
              clear hm a; intro a hm
              refine s_off hm rfl rfl rfl (nt (beq_eq_false_iff_ne.2 hc_95)) ?_
              clear hm a; intro a hm
              refine s_on hm rfl rfl (decide_eq_true hc_93) ?_
              refine s_pick_t hm rfl rfl (nt (beq_eq_false_iff_ne.2 hc_95)) rfl ?_
              clear hm a; intro a hm
              refine s_on hm rfl rfl (nf (beq_iff_eq.2 hc_92)) ?_
              refine s_pick_t hm rfl rfl (decide_eq_true hc_93) rfl ?_
              clear hm a; intro a hm
              refine s_pick_f hm rfl rfl (nf (beq_iff_eq.2 hc_92)) rfl ?_
              clear hm a; intro a hm
              refine wpList_nil ?_
              replace hm : Fr 125 a [(2, .bool false), (6, .pointer (some ⟨g_14, 0, none⟩)), (7, v_38), (8, .pointer (some ⟨g_47, 0, none⟩)), (96, .bool true)] := hm.keep [2, 6, 7, 8, 96]
              replace hS : Sep w0 w_73 [N_62, M_3, Mem.one g_14 (.cells [.string ⟨t_8.s.toArray⟩, .string ⟨t_8.old.toArray⟩, .string ⟨t_8.v.toArray⟩, .string ⟨t_8.want.toArray⟩, .int .i64 t_8.e, .string ⟨t_8.val.toArray⟩].toArray 23 (0, 0)), Mem.no, Mem.no, Mem.no, M_40, M_44, Mem.one g_47 (.cells [.int .i64 t_34.2.Err, v_42, .int .i64 t_34.2.N].toArray 27 (0, 0)), Mem.no, Mem.no, M_65, M_69, Mem.one g_72 (.cells [.int .i64 t_59.2.Err, v_67, .int .i64 t_59.2.N].toArray 27 (0, 0))] Z := hS
              replace hm : Fr 125 a [(2, .bool false), (6, .pointer (some ⟨g_14, 0, none⟩)), (7, v_38), (8, .pointer (some ⟨g_47, 0, none⟩)), (96, .bool true)] := hm.keep [2, 6, 7, 8, 96]
              exact x_then_n (hJ_j_79 true H _ _ ⟨N_62, hm, (Sep.sel hS [0, 1000, 2, 1002, 1003, 1004, 6, 7, 8, 1008, 1009, 1010, 1011, 1012] (by decide)), (Mem.le.refl _)⟩)
          · rw [if_neg hc_94] at H
            refine s_off hm rfl rfl rfl (bne_iff_ne.2 hc_94) ?_
            clear hm a; intro a hm
            refine s_off hm rfl rfl rfl (bne_iff_ne.2 hc_94) ?_
            clear hm a; intro a hm
            refine s_off hm rfl rfl rfl (bne_iff_ne.2 hc_94) ?_
            clear hm a; intro a hm
            refine s_off hm rfl rfl rfl (bne_iff_ne.2 hc_94) ?_
            clear hm a; intro a hm
            refine s_off hm rfl rfl rfl (bne_iff_ne.2 hc_94) ?_
            clear hm a; intro a hm
            refine s_on hm rfl rfl (decide_eq_true hc_93) ?_
            refine s_pick_t hm rfl rfl (bne_iff_ne.2 hc_94) rfl ?_
            clear hm a; intro a hm
            refine s_on hm rfl rfl (decide_eq_true hc_93) ?_
            refine s_move hm rfl rfl ?_
            clear hm a; intro a hm
            refine s_off hm rfl rfl rfl rfl ?_
            clear hm a; intro a hm
            refine s_off hm rfl rfl rfl rfl ?_
            clear hm a; intro a hm
            refine s_off hm rfl rfl rfl rfl ?_
            clear hm a; intro a hm
            refine s_off hm rfl rfl rfl rfl ?_
            clear hm a; intro a hm
            refine s_on hm rfl rfl (decide_eq_true hc_93) ?_
            refine s_pick_t hm rfl rfl rfl rfl ?_
            clear hm a; intro a hm
            refine s_on hm rfl rfl (nf (beq_iff_eq.2 hc_92)) ?_
            refine s_pick_t hm rfl rfl (decide_eq_true hc_93) rfl ?_
            clear hm a; intro a hm
            refine s_pick_f hm rfl rfl (nf (beq_iff_eq.2 hc_92)) rfl ?_
            clear hm a; intro a hm
            refine wpList_nil ?_
            replace hm : Fr 125 a [(2, .bool false), (6, .pointer (some ⟨g_14, 0, none⟩)), (7, v_38), (8, .pointer (some ⟨g_47, 0, none⟩)), (96, .bool true)] := hm.keep [2, 6, 7, 8, 96]
            replace hS : Sep w0 w_73 [N_62, M_3, Mem.one g_14 (.cells [.string ⟨t_8.s.toArray⟩, .string ⟨t_8.old.toArray⟩, .string ⟨t_8.v.toArray⟩, .string ⟨t_8.want.toArray⟩, .int .i64 t_8.e, .string ⟨t_8.val.toArray⟩].toArray 23 (0, 0)), Mem.no, Mem.no, Mem.no, M_40, M_44, Mem.one g_47 (.cells [.int .i64 t_34.2.Err, v_42, .int .i64 t_34.2.N].toArray 27 (0, 0)), Mem.no, Mem.no, M_65, M_69, Mem.one g_72 (.cells [.int .i64 t_59.2.Err, v_67, .int .i64 t_59.2.N].toArray 27 (0, 0))] Z := hS
            replace hm : Fr 125 a [(2, .bool false), (6, .pointer (some ⟨g_14, 0, none⟩)), (7, v_38), (8, .pointer (some ⟨g_47, 0, none⟩)), (96, .bool true)] := hm.keep [2, 6, 7, 8, 96]
            exact x_then_n (hJ_j_79 true H _ _ ⟨N_62, hm, (Sep.sel hS [0, 1000, 2, 1002, 1003, 1004, 6, 7, 8, 1008, 1009, 1010, 1011, 1012] (by decide)), (Mem.le.refl _)⟩)
        · rw [if_neg hc_93] at H
          refine s_off hm rfl rfl rfl (decide_eq_false hc_93) ?_
          clear hm a; intro a hm
          refine s_off hm rfl rfl rfl (decide_eq_false hc_93) ?_
          clear hm a; intro a hm
          refine s_off hm rfl rfl rfl (decide_eq_false hc_93) ?_
          clear hm a; intro a hm
          refine s_off hm rfl rfl rfl (decide_eq_false hc_93) ?_
          clear hm a; intro a hm
          refine s_offu hm rfl rfl rfl ?_
          clear hm a; intro a hm
          refine s_offu hm rfl rfl rfl ?_
          clear hm a; intro a hm
          refine s_offu hm rfl rfl rfl ?_
          clear hm a; intro a hm
          refine s_offu hm rfl rfl rfl ?_
          clear hm a; intro a hm
          refine s_offu hm rfl rfl rfl ?_
          clear hm a; intro a hm
          refine s_off hm rfl rfl rfl (decide_eq_false hc_93) ?_
          clear hm a; intro a hm
          refine s_off hm rfl rfl rfl (decide_eq_false hc_93) ?_
          clear hm a; intro a hm
          refine s_offu hm rfl rfl rfl ?_
          clear hm a; intro a hm
          refine s_offu hm rfl rfl rfl ?_
          clear hm a; intro a hm
          refine s_offu hm rfl rfl rfl ?_
          clear hm a; intro a hm
          refine s_offu hm rfl rfl rfl ?_
          clear hm a; intro a hm
          refine s_off hm rfl rfl rfl (decide_eq_false hc_93) ?_
          clear hm a; intro a hm
          refine s_on hm rfl rfl (nf (beq_iff_eq.2 hc_92)) ?_
          refine s_pick_f hm rfl rfl (decide_eq_false hc_93) rfl ?_
          clear hm a; intro a hm
          refine s_pick_f hm rfl rfl (nf (beq_iff_eq.2 hc_92)) rfl ?_
          clear hm a; intro a hm
          refine wpList_nil ?_
          replace hm : Fr 125 a [(2, .bool false), (6, .pointer (some ⟨g_14, 0, none⟩)), (7, v_38), (8, .pointer (some ⟨g_47, 0, none⟩)), (96, .bool false)] := hm.keep [2, 6, 7, 8, 96]
          replace hS : Sep w0 w_73 [N_62, M_3, Mem.one g_14 (.cells [.string ⟨t_8.s.toArray⟩, .string ⟨t_8.old.toArray⟩, .string ⟨t_8.v.toArray⟩, .string ⟨t_8.want.toArray⟩, .int .i64 t_8.e, .string ⟨t_8.val.toArray⟩].toArray 23 (0, 0)), Mem.no, Mem.no, Mem.no, M_40, M_44, Mem.one g_47 (.cells [.int .i64 t_34.2.Err, v_42, .int .i64 t_34.2.N].toArray 27 (0, 0)), Mem.no, Mem.no, M_65, M_69, Mem.one g_72 (.cells [.int .i64 t_59.2.Err, v_67, .int .i64 t_59.2.N].toArray 27 (0, 0))] Z := hS
          replace hm : Fr 125 a [(2, .bool false), (6, .pointer (some ⟨g_14, 0, none⟩)), (7, v_38), (8, .pointer (some ⟨g_47, 0, none⟩)), (96, .bool false)] := hm.keep [2, 6, 7, 8, 96]
          exact x_then_n (hJ_j_79 false H _ _ ⟨N_62, hm, (Sep.sel hS [0, 1000, 2, 1002, 1003, 1004, 6, 7, 8, 1008, 1009, 1010, 1011, 1012] (by decide)), (Mem.le.refl _)⟩)
      · rw [if_neg hc_92] at H
        refine s_off hm rfl rfl rfl (nt (beq_eq_false_iff_ne.2 hc_92)) ?_
        clear hm a; intro a hm
        refine s_off hm rfl rfl rfl (nt (beq_eq_false_iff_ne.2 hc_92)) ?_
        clear hm a; intro a hm
        refine s_off hm rfl rfl rfl (nt (beq_eq_false_iff_ne.2 hc_92)) ?_
        clear hm a; intro a hm
        refine s_off hm rfl rfl rfl (nt (beq_eq_false_iff_ne.2 hc_92)) ?_
        clear hm a; intro a hm
        refine s_off hm rfl rfl rfl (nt (beq_eq_false_iff_ne.2 hc_92)) ?_
        clear hm a; intro a hm
        refine s_offu hm rfl rfl rfl ?_
        clear hm a; intro a hm
        refine s_offu hm rfl rfl rfl ?_
        clear hm a; intro a hm
        refine s_offu hm rfl rfl rfl ?_
        clear hm a; intro a hm
        refine s_offu hm rfl rfl rfl ?_
        clear hm a; intro a hm
        refine s_offu hm rfl rfl rfl ?_
        clear hm a; intro a hm
        refine s_offu hm rfl rfl rfl ?_
        clear hm a; intro a hm
        refine s_offu hm rfl rfl rfl ?_
        clear hm a; intro a hm
        refine s_offu hm rfl rfl rfl ?_
        clear hm a; intro a hm
        refine s_offu hm rfl rfl rfl ?_
        clear hm a; intro a hm
        refine s_offu hm rfl rfl rfl ?_
        clear hm a; intro a hm
        refine s_offu hm rfl rfl rfl ?_
        clear hm a; intro a hm
        refine s_offu hm rfl rfl rfl ?_
        clear hm a; intro a hm
        refine s_offu hm rfl rfl rfl ?_
        clear hm a; intro a hm
        refine s_offu hm rfl rfl rfl ?_
        clear hm a; intro a hm
        refine s_offu hm rfl rfl rfl ?_
        clear hm a; intro a hm
        refine s_offu hm rfl rfl rfl ?_
        clear hm a; intro a hm
        refine s_off hm rfl rfl rfl (nt (beq_eq_false_iff_ne.2 hc_92)) ?_
        clear hm a; intro a hm
        refine s_pick_t hm rfl rfl (nt (beq_eq_false_iff_ne.2 hc_92)) rfl ?_
        clear hm a; intro a hm
        refine wpList_nil ?_
        replace hm : Fr 125 a [(2, .bool false), (6, .pointer (some ⟨g_14, 0, none⟩)), (7, v_38), (8, .pointer (some ⟨g_47, 0, none⟩)), (96, .bool true)] := hm.keep [2, 6, 7, 8, 96]
        replace hS : Sep w0 w_73 [N_62, M_3, Mem.one g_14 (.cells [.string ⟨t_8.s.toArray⟩, .string ⟨t_8.old.toArray⟩, .string ⟨t_8.v.toArray⟩, .string ⟨t_8.want.toArray⟩, .int .i64 t_8.e, .string ⟨t_8.val.toArray⟩].toArray 23 (0, 0)), Mem.no, Mem.no, Mem.no, M_40, M_44, Mem.one g_47 (.cells [.int .i64 t_34.2.Err, v_42, .int .i64 t_34.2.N].toArray 27 (0, 0)), Mem.no, Mem.no, M_65, M_69, Mem.one g_72 (.cells [.int .i64 t_59.2.Err, v_67, .int .i64 t_59.2.N].toArray 27 (0, 0))] Z := hS
        replace hm : Fr 125 a [(2, .bool false), (6, .pointer (some ⟨g_14, 0, none⟩)), (7, v_38), (8, .pointer (some ⟨g_47, 0, none⟩)), (96, .bool true)] := hm.keep [2, 6, 7, 8, 96]
        exact x_then_n (hJ_j_79 true H _ _ ⟨N_62, hm, (Sep.sel hS [0, 1000, 2, 1002, 1003, 1004, 6, 7, 8, 1008, 1009, 1010, 1011, 1012] (by decide)), (Mem.le.refl _)⟩)
    · rw [if_neg hc_91] at H
      refine s_off hm rfl rfl rfl (bne_iff_ne.2 hc_91) ?_
      clear hm a; intro a hm
      refine s_off hm rfl rfl rfl (bne_iff_ne.2 hc_91) ?_
      clear hm a; intro a hm
      refine s_off hm rfl rfl rfl (bne_iff_ne.2 hc_91) ?_
      clear hm a; intro a hm
      refine s_off hm rfl rfl rfl (bne_iff_ne.2 hc_91) ?_
      clear hm a; intro a hm
      refine s_off hm rfl rfl rfl (bne_iff_ne.2 hc_91) ?_
      clear hm a; intro a hm
      refine s_on hm rfl rfl (decide_eq_true hc_90) ?_
      refine s_pick_t hm rfl rfl (bne_iff_ne.2 hc_91) rfl ?_
      clear hm a; intro a hm
      refine s_pick_t hm rfl rfl (decide_eq_true hc_90) rfl ?_
      clear hm a; intro a hm
      refine s_move hm rfl rfl ?_
      clear hm a; intro a hm
      refine s_off hm rfl rfl rfl rfl ?_
      clear hm a; intro a hm
      refine s_off hm rfl rfl rfl rfl ?_
      clear hm a; intro a hm
      refine s_off hm rfl rfl rfl rfl ?_
      clear hm a; intro a hm
      refine s_off hm rfl rfl rfl rfl ?_
      clear hm a; intro a hm
      refine s_off hm rfl rfl rfl rfl ?_
      clear hm a; intro a hm
      refine s_offu hm rfl rfl rfl ?_
      clear hm a; intro a hm
      refine s_offu hm rfl rfl rfl ?_
      clear hm a; intro a hm
      refine s_offu hm rfl rfl rfl ?_
      clear hm a; intro a hm
      refine s_offu hm rfl rfl rfl ?_
      clear hm a; intro a hm
      refine s_offu hm rfl rfl rfl ?_
      clear hm a; intro a hm
      refine s_offu hm rfl rfl rfl ?_
      clear hm a; intro a hm
      refine s_offu hm rfl rfl rfl ?_
      clear hm a; intro a hm
      refine s_offu hm rfl rfl rfl ?_
      clear hm a; intro a hm
      refine s_offu hm rfl rfl rfl ?_
      clear hm a; intro a hm
      refine s_offu hm rfl rfl rfl ?_
      clear hm a; intro a hm
      refine s_offu hm rfl rfl rfl ?_
      clear hm a; intro a hm
      refine s_offu hm rfl rfl rfl ?_
      clear hm a; intro a hm
      refine s_offu hm rfl rfl rfl ?_
      clear hm a; intro a hm
      refine s_offu hm rfl rfl rfl ?_
      clear hm a; intro a hm
      refine s_offu hm rfl rfl rfl ?_
      clear hm a; intro a hm
      refine s_offu hm rfl rfl rfl ?_
      clear hm a; intro a hm
      refine s_off hm rfl rfl rfl rfl ?_
      clear hm a; intro a hm
      refine s_pick_t hm rfl rfl rfl rfl ?_
      clear hm a; intro a hm
      refine wpList_nil ?_
      replace hm : Fr 125 a [(2, .bool false), (6, .pointer (some ⟨g_14, 0, none⟩)), (7, v_38), (8, .pointer (some ⟨g_47, 0, none⟩)), (96, .bool true)] := hm.keep [2, 6, 7, 8, 96]
      replace hS : Sep w0 w_73 [N_62, M_3, Mem.one g_14 (.cells [.string ⟨t_8.s.toArray⟩, .string ⟨t_8.old.toArray⟩, .string ⟨t_8.v.toArray⟩, .string ⟨t_8.want.toArray⟩, .int .i64 t_8.e, .string ⟨t_8.val.toArray⟩].toArray 23 (0, 0)), Mem.no, Mem.no, Mem.no, M_40, M_44, Mem.one g_47 (.cells [.int .i64 t_34.2.Err, v_42, .int .i64 t_34.2.N].toArray 27 (0, 0)), Mem.no, Mem.no, M_65, M_69, Mem.one g_72 (.cells [.int .i64 t_59.2.Err, v_67, .int .i64 t_59.2.N].toArray 27 (0, 0))] Z := hS
      replace hm : Fr 125 a [(2, .bool false), (6, .pointer (some ⟨g_14, 0, none⟩)), (7, v_38), (8, .pointer (some ⟨g_47, 0, none⟩)), (96, .bool true)] := hm.keep [2, 6, 7, 8, 96]
      exact x_then_n (hJ_j_79 true H _ _ ⟨N_62, hm, (Sep.sel hS [0, 1000, 2, 1002, 1003, 1004, 6, 7, 8, 1008, 1009, 1010, 1011, 1012] (by decide)), (Mem.le.refl _)⟩)
  · rw [if_neg hc_90] at H
    refine s_off hm rfl rfl rfl (decide_eq_false hc_90) ?_
    clear hm a; intro a hm
    refine s_off hm rfl rfl rfl (decide_eq_false hc_90) ?_
    clear hm a; intro a hm
    refine s_off hm rfl rfl rfl (decide_eq_false hc_90) ?_
    clear hm a; intro a hm
    refine s_off hm rfl rfl rfl (decide_eq_false hc_90) ?_
    clear hm a; intro a hm
    refine s_offu hm rfl rfl rfl ?_
    clear hm a; intro a hm
    refine s_offu hm rfl rfl rfl ?_
    clear hm a; intro a hm
    refine s_offu hm rfl rfl rfl ?_
    clear hm a; intro a hm
    refine s_offu hm rfl rfl rfl ?_
    clear hm a; intro a hm
    refine s_offu hm rfl rfl rfl ?_
    clear hm a; intro a hm
    refine s_off hm rfl rfl rfl (decide_eq_false hc_90) ?_
    clear hm a; intro a hm
    refine s_pick_f hm rfl rfl (decide_eq_false hc_90) rfl ?_
    clear hm a; intro a hm
    refine s_move hm rfl rfl ?_
    clear hm a; intro a hm
    refine s_on hm rfl rfl rfl ?_
    refine s_fieldAddr hm rfl Try.underlying23 rfl ti9 rfl rfl ?_
    clear hm a; intro a hm
    refine s_on hm rfl rfl rfl ?_
    refine s_load hm rfl rfl (hS.load_one (p := 2) rfl Try.underlying9 rfl rfl) ?_
    clear hm a; intro a hm
    refine s_on hm rfl rfl rfl ?_
    refine s_lenS hm rfl Try.underlying9 rfl ?_
    clear hm a; intro a hm
    refine s_on hm rfl rfl rfl ?_
    refine s_cmp (b := decide ((t_8.v.length : Int) ≤ 16)) hm rfl rfl rfl (.inr (.inr (.inr (.inl ⟨rfl, rfl⟩)))) ?_
    clear hm a; intro a hm
    refine s_on hm rfl rfl rfl ?_
    refine s_move hm rfl rfl ?_
    clear hm a; intro a hm
    by_cases hc_96 : (t_8.v.length : Int) ≤ 16
    · rw [if_pos hc_96] at H
      refine s_on hm rfl rfl (decide_eq_true hc_96) ?_
      refine s_fieldAddr hm rfl Try.underlying27 rfl ti22 rfl rfl ?_
      clear hm a; intro a hm
      refine s_on hm rfl rfl (decide_eq_true hc_96) ?_
      refine s_load hm rfl rfl (hS.load_one (p := 13) rfl Try.underlying22 rfl rfl) ?_
      clear hm a; intro a hm
      refine s_on hm rfl rfl (decide_eq_true hc_96) ?_
      refine s_cmp (b := (t_59.2.Err != 0)) hm rfl rfl rfl (.inr (.inl ⟨rfl, rfl⟩)) ?_
      clear hm a; intro a hm
      refine s_on hm rfl rfl (decide_eq_true hc_96) ?_
      refine s_move hm rfl rfl ?_
      clear hm a; intro a hm
      by_cases hc_97 : t_59.2.Err = 0
      · rw [if_pos hc_97] at H
        refine s_on hm rfl rfl (bne_eq_false_iff_eq.2 hc_97) ?_
        refine s_move hm rfl rfl ?_
        clear hm a; intro a hm
        refine s_on hm rfl rfl (bne_eq_false_iff_eq.2 hc_97) ?_
        refine s_b2s hm rfl Try.underlying25 Try.underlying5 Try.underlying9 rfl (hr_64.rd (J := hp w_73) (hS.own 11) (Mem.no_le _)) (Mem.le.refl _) ?_
        clear hm a; intro a hm
        refine s_on hm rfl rfl (bne_eq_false_iff_eq.2 hc_97) ?_
        refine s_fieldAddr hm rfl Try.underlying23 rfl ti9 rfl rfl ?_
        clear hm a; intro a hm
        refine s_on hm rfl rfl (bne_eq_false_iff_eq.2 hc_97) ?_
        refine s_load hm rfl rfl (hS.load_one (p := 2) rfl Try.underlying9 rfl rfl) ?_
        clear hm a; intro a hm
        refine s_on hm rfl rfl (bne_eq_false_iff_eq.2 hc_97) ?_
        refine s_strEq (b := !(t_59.1 == t_8.v)) hm rfl rfl rfl (.inr ⟨rfl, rfl⟩) ?_
        clear hm a; intro a hm
        refine s_on hm rfl rfl (decide_eq_true hc_96) ?_
        refine s_pick_f hm rfl rfl (bne_eq_false_iff_eq.2 hc_97) rfl ?_
        clear hm a; intro a hm
        refine s_on hm rfl rfl (decide_eq_true hc_96) ?_
        refine s_move hm rfl rfl ?_
        clear hm a; intro a hm
        by_cases hc_98 : t_59.1 = t_8.v
        · rw [if_pos hc_98] at H
          refine s_on hm rfl rfl (nf (beq_iff_eq.2 hc_98)) ?_
          refine s_fieldAddr hm rfl Try.underlying27 rfl ti25 rfl rfl ?_
          clear hm a; intro a hm
          refine s_on hm rfl rfl (nf (beq_iff_eq.2 hc_98)) ?_
          refine s_load hm rfl rfl (hS.load_one (p := 13) rfl Try.underlying25 rfl rfl) ?_
          clear hm a; intro a hm
          refine s_on hm rfl rfl (nf (beq_iff_eq.2 hc_98)) ?_
          refine s_len hm rfl Try.underlying25 rfl (hr_68.rd (J := hp w_73) (hS.own 12) (Mem.no_le _)) ?_
          clear hm a; intro a hm
          refine s_on hm rfl rfl (nf (beq_iff_eq.2 hc_98)) ?_
          refine s_cmp (b := ((t_59.2.Val.length : Int) != 0)) hm rfl rfl rfl (.inr (.inl ⟨rfl, rfl⟩)) ?_
          clear hm a; intro a hm
          refine s_on hm rfl rfl (decide_eq_true hc_96) ?_
          refine s_pick_f hm rfl rfl (nf (beq_iff_eq.2 hc_98)) rfl ?_
          clear hm a; intro a hm
          refine s_on hm rfl rfl rfl ?_
          refine s_pick_t hm rfl rfl (decide_eq_true hc_96) rfl ?_
          clear hm a; intro a hm
          refine s_pick_f hm rfl rfl rfl rfl ?_
          clear hm a; intro a hm
          refine wpList_nil ?_
          replace hm : Fr 125 a [(2, .bool false), (6, .pointer (some ⟨g_14, 0, none⟩)), (7, v_38), (8, .pointer (some ⟨g_47, 0, none⟩)), (96, .bool ((t_59.2.Val.length : Int) != 0))] := hm.keep [2, 6, 7, 8, 96]
          replace hS : Sep w0 w_73 [N_62, M_3, Mem.one g_14 (.cells [.string ⟨t_8.s.toArray⟩, .string ⟨t_8.old.toArray⟩, .string ⟨t_8.v.toArray⟩, .string ⟨t_8.want.toArray⟩, .int .i64 t_8.e, .string ⟨t_8.val.toArray⟩].toArray 23 (0, 0)), Mem.no, Mem.no, Mem.no, M_40, M_44, Mem.one g_47 (.cells [.int .i64 t_34.2.Err, v_42, .int .i64 t_34.2.N].toArray 27 (0, 0)), Mem.no, Mem.no, M_65, M_69, Mem.one g_72 (.cells [.int .i64 t_59.2.Err, v_67, .int .i64 t_59.2.N].toArray 27 (0, 0))] Z := hS
          replace hm : Fr 125 a [(2, .bool false), (6, .pointer (some ⟨g_14, 0, none⟩)), (7, v_38), (8, .pointer (some ⟨g_47, 0, none⟩)), (96, .bool ((t_59.2.Val.length : Int) != 0))] := hm.keep [2, 6, 7, 8, 96]
          exact x_then_n (hJ_j_79 ((t_59.2.Val.length : Int) != 0) H _ _ ⟨N_62, hm, (Sep.sel hS [0, 1000, 2, 1002, 1003, 1004, 6, 7, 8, 1008, 1009, 1010, 1011, 1012] (by decide)), (Mem.le.refl _)⟩)
        · rw [if_neg hc_98] at H
          refine s_off hm rfl rfl rfl (nt (beq_eq_false_iff_ne.2 hc_98)) ?_
          clear hm a; intro a hm
          refine s_off hm rfl rfl rfl (nt (beq_eq_false_iff_ne.2 hc_98)) ?_
          clear hm a; intro a hm
          refine s_off hm rfl rfl rfl (nt (beq_eq_false_iff_ne.2 hc_98)) ?_
          clear hm a; intro a hm
          refine s_off hm rfl rfl rfl (nt (beq_eq_false_iff_ne.2 hc_98)) ?_
          clear hm a; intro a hm
          refine s_on hm rfl rfl (decide_eq_true hc_96) ?_
          refine s_pick_t hm rfl rfl (nt (beq_eq_false_iff_ne.2 hc_98)) rfl ?_
          clear hm a; intro a hm
          refine s_on hm rfl rfl rfl ?_
          refine s_pick_t hm rfl rfl (decide_eq_true hc_96) rfl ?_
          clear hm a; intro a hm
          refine s_pick_f hm rfl rfl rfl rfl ?_
          clear hm a; intro a hm
          refine wpList_nil ?_
          replace hm : Fr 125 a [(2, .bool false), (6, .pointer (some ⟨g_14, 0, none⟩)), (7, v_38), (8, .pointer (some ⟨g_47, 0, none⟩)), (96, .bool true)] := hm.keep [2, 6, 7, 8, 96]
          replace hS : Sep w0 w_73 [N_62, M_3, Mem.one g_14 (.cells [.string ⟨t_8.s.toArray⟩, .string ⟨t_8.old.toArray⟩, .string ⟨t_8.v.toArray⟩, .string ⟨t_8.want.toArray⟩, .int .i64 t_8.e, .string ⟨t_8.val.toArray⟩].toArray 23 (0, 0)), Mem.no, Mem.no, Mem.no, M_40, M_44, Mem.one g_47 (.cells [.int .i64 t_34.2.Err, v_42, .int .i64 t_34.2.N].toArray 27 (0, 0)), Mem.no, Mem.no, M_65, M_69, Mem.one g_72 (.cells [.int .i64 t_59.2.Err, v_67, .int .i64 t_59.2.N].toArray 27 (0, 0))] Z := hS
          replace hm : Fr 125 a [(2, .bool false), (6, .pointer (some ⟨g_14, 0, none⟩)), (7, v_38), (8, .pointer (some ⟨g_47, 0, none⟩)), (96, .bool true)] := hm.keep [2, 6, 7, 8, 96]
          exact x_then_n (hJ_j_79 true H _ _ ⟨N_62, hm, (Sep.sel hS [0, 1000, 2, 1002, 1003, 1004, 6, 7, 8, 1008, 1009, 1010, 1011, 1012] (by decide)), (Mem.le.refl _)⟩)
      · rw [if_neg hc_97] at H
        refine s_off hm rfl rfl rfl (bne_iff_ne.2 hc_97) ?_
        clear hm a; intro a hm
        refine s_off hm rfl rfl rfl (bne_iff_ne.2 hc_97) ?_
        clear hm a; intro a hm
        refine s_off hm rfl rfl rfl (bne_iff_ne.2 hc_97) ?_
        clear hm a; intro a hm
        refine s_off hm rfl rfl rfl (bne_iff_ne.2 hc_97) ?_
        clear hm a; intro a hm
        refine s_off hm rfl rfl rfl (bne_iff_ne.2 hc_97) ?_
        clear hm a; intro a hm
        refine s_on hm rfl rfl (decide_eq_true hc_96) ?_
        refine s_pick_t hm rfl rfl (bne_iff_ne.2 hc_97) rfl ?_
        clear hm a; intro a hm
        refine s_on hm rfl rfl (decide_eq_true hc_96) ?_
        refine s_move hm rfl rfl ?_
        clear hm a; intro a hm
        refine s_off hm rfl rfl rfl rfl ?_
        clear hm a; intro a hm
        refine s_off hm rfl rfl rfl rfl ?_
        clear hm a; intro a hm
        refine s_off hm rfl rfl rfl rfl ?_
        clear hm a; intro a hm
        refine s_off hm rfl rfl rfl rfl ?_
        clear hm a; intro a hm
        refine s_on hm rfl rfl (decide_eq_true hc_96) ?_
        refine s_pick_t hm rfl rfl rfl rfl ?_
        clear hm a; intro a hm
        refine s_on hm rfl rfl rfl ?_
        refine s_pick_t hm rfl rfl (decide_eq_true hc_96) rfl ?_
        clear hm a; intro a hm
        refine s_pick_f hm rfl rfl rfl rfl ?_
        clear hm a; intro a hm
        refine wpList_nil ?_
        replace hm : Fr 125 a [(2, .bool false), (6, .pointer (some ⟨g_14, 0, none⟩)), (7, v_38), (8, .pointer (some ⟨g_47, 0, none⟩)), (96, .bool true)] := hm.keep [2, 6, 7, 8, 96]
        replace hS : Sep w0 w_73 [N_62, M_3, Mem.one g_14 (.cells [.string ⟨t_8.s.toArray⟩, .string ⟨t_8.old.toArray⟩, .string ⟨t_8.v.toArray⟩, .string ⟨t_8.want.toArray⟩, .int .i64 t_8.e, .string ⟨t_8.val.toArray⟩].toArray 23 (0, 0)), Mem.no, Mem.no, Mem.no, M_40, M_44, Mem.one g_47 (.cells [.int .i64 t_34.2.Err, v_42, .int .i64 t_34.2.N].toArray 27 (0, 0)), Mem.no, Mem.no, M_65, M_69, Mem.one g_72 (.cells [.int .i64 t_59.2.Err, v_67, .int .i64 t_59.2.N].toArray 27 (0, 0))] Z := hS
        replace hm : Fr 125 a [(2, .bool false), (6, .pointer (some ⟨g_14, 0, none⟩)), (7, v_38), (8, .pointer (some ⟨g_47, 0, none⟩)), (96, .bool true)] := hm.keep [2, 6, 7, 8, 96]
        exact x_then_n (hJ_j_79 true H _ _ ⟨N_62, hm, (Sep.sel hS [0, 1000, 2, 1002, 1003, 1004, 6, 7, 8, 1008, 1009, 1010, 1011, 1012] (by decide)), (Mem.le.refl _)⟩)
    · rw [if_neg hc_96] at H
      refine s_off hm rfl rfl rfl (decide_eq_false hc_96) ?_
      clear hm a; intro a hm
      refine s_off hm rfl rfl rfl (decide_eq_false hc_96) ?_
      clear hm a; intro a hm
      refine s_off hm rfl rfl rfl (decide_eq_false hc_96) ?_
      clear hm a; intro a hm
      refine s_off hm rfl rfl rfl (decide_eq_false hc_96) ?_
      clear hm a; intro a hm
      refine s_offu hm rfl rfl rfl ?_
      clear hm a; intro a hm
      refine s_offu hm rfl rfl rfl ?_
      clear hm a; intro a hm
      refine s_offu hm rfl rfl rfl ?_
      clear hm a; intro a hm
      refine s_offu hm rfl rfl rfl ?_
      clear hm a; intro a hm
      refine s_offu hm rfl rfl rfl ?_
      clear hm a; intro a hm
      refine s_off hm rfl rfl rfl (decide_eq_false hc_96) ?_
      clear hm a; intro a hm
      refine s_off hm rfl rfl rfl (decide_eq_false hc_96) ?_
      clear hm a; intro a hm
      refine s_offu hm rfl rfl rfl ?_
      clear hm a; intro a hm
      refine s_offu hm rfl rfl rfl ?_
      clear hm a; intro a hm
      refine s_offu hm rfl rfl rfl ?_
      clear hm a; intro a hm
      refine s_offu hm rfl rfl rfl ?_
      clear hm a; intro a hm
      refine s_off hm rfl rfl rfl (decide_eq_false hc_96) ?_
      clear hm a; intro a hm
      refine s_on hm rfl rfl rfl ?_
      refine s_pick_f hm rfl rfl (decide_eq_false hc_96) rfl ?_
      clear hm a; intro a hm
      refine s_pick_f hm rfl rfl rfl rfl ?_
      clear hm a; intro a hm
      refine wpList_nil ?_
      replace hm : Fr 125 a [(2, .bool false), (6, .pointer (some ⟨g_14, 0, none⟩)), (7, v_38), (8, .pointer (some ⟨g_47, 0, none⟩)), (96, .bool false)] := hm.keep [2, 6, 7, 8, 96]
      replace hS : Sep w0 w_73 [N_62, M_3, Mem.one g_14 (.cells [.string ⟨t_8.s.toArray⟩, .string ⟨t_8.old.toArray⟩, .string ⟨t_8.v.toArray⟩, .string ⟨t_8.want.toArray⟩, .int .i64 t_8.e, .string ⟨t_8.val.toArray⟩].toArray 23 (0, 0)), Mem.no, Mem.no, Mem.no, M_40, M_44, Mem.one g_47 (.cells [.int .i64 t_34.2.Err, v_42, .int .i64 t_34.2.N].toArray 27 (0, 0)), Mem.no, Mem.no, M_65, M_69, Mem.one g_72 (.cells [.int .i64 t_59.2.Err, v_67, .int .i64 t_59.2.N].toArray 27 (0, 0))] Z := hS
      replace hm : Fr 125 a [(2, .bool false), (6, .pointer (some ⟨g_14, 0, none⟩)), (7, v_38), (8, .pointer (some ⟨g_47, 0, none⟩)), (96, .bool false)] := hm.keep [2, 6, 7, 8, 96]
      exact x_then_n (hJ_j_79 false H _ _ ⟨N_62, hm, (Sep.sel hS [0, 1000, 2, 1002, 1003, 1004, 6, 7, 8, 1008, 1009, 1010, 1011, 1012] (by decide)), (Mem.le.refl _)⟩)


end Go.Proofs
