/- What the calls do: each function once. -/
import Derived.Test.YtbjefkmbpbdhbaaFacts
namespace Go.Proofs
open Go.Gp
set_option linter.unusedVariables false
set_option maxHeartbeats 4000000 in
theorem slices_Clone_byte_byte.calls (x0 : List UInt8) (p0_0 : Value) (r : List UInt8) (w0 w : World) (Z A : Mem) (hA : A.le Z) (hS : Sep w0 w [] Z) (hp0_0 : Rd Kd.u8 A p0_0 x0)
    (H : slices_Clone_byte_byte.f x0 = some r) :
    Calls Try.prog 42 [p0_0].toArray w (Ret fun v w' => ∃ (u0 : Value) (N : Mem) (M0 : Mem), v = u0 ∧ Sep w0 w' [N, M0] Z ∧ Own Kd.u8 5 M0 Mem.no u0 r) := by
  unfold slices_Clone_byte_byte.f at H
  refine f_enter _ Try.func42 rfl Try.ntmps42 rfl fun a hm => ?_
  replace hm : Fr 8 a [(0, p0_0)] := hm
  replace hS := hS.start
  replace hS : Sep w0 w [Mem.no] Z := hS
  refine wp_seq ?_
  refine wp_region_lit ?_
  refine s_assign hm rfl rfl ?_
  clear hm a; intro a hm
  refine wpList_nil ?_
  replace hm : Fr 8 a [(0, p0_0)] := hm.keep [0]
  refine x_then_n ?_
  refine c_seq fun KJ hKJ => ?_
  refine wp_seq ?_
  refine wp_region_lit ?_
  refine s_move hm rfl rfl ?_
  clear hm a; intro a hm
  refine s_slNil hm rfl Try.underlying25 rfl hp0_0 fun b hb => ?_
  clear hm a; intro a hm
  refine wpList_nil ?_
  refine x_then_n ?_
  cases b with
  | true =>
    have hx := hb rfl
    subst hx
    refine c_cond_t hm rfl rfl ?_
    refine wp_seq ?_
    refine wp_region_lit ?_
    refine s_assign hm rfl rfl ?_
    clear hm a; intro a hm
    refine wpList_nil ?_
    replace hm : Fr 8 a [(2, .slice none 0 0)] := hm.keep [2]
    refine x_then_n ?_
    refine wp_ret (x_then_r ?_)
    obtain rfl := (app_some H).2
    replace hS := hS.room
    exact f_ret hm (rs := [.tmp 2]) rfl (.tmp rfl .nil) ⟨_, rfl, _, Mem.no, Mem.no, rfl, hS, Own.nil _ _ _⟩
  | false =>
    refine c_cond_f hm rfl rfl ?_
    refine wp_skip ?_
    refine x_then_n (hKJ _ _ ?_)
    refine wp_seq ?_
    refine wp_region_lit ?_
    have hq5 : Reps Kd.u8 Mem.no ([] : List UInt8) _ := (Reps.nil Kd.u8 _)
    refine s_buildSlice hm rfl Try.underlying25 ti5 rfl rfl rfl .nil rfl rfl rfl hS hq5 rfl ?_
    intro w1 v2 M3 hS' ho4
    clear hm a; intro a hm
    replace hS : Sep w0 w1 [Mem.no, M3] Z := hS'
    clear hS' hq5
    refine s_move hm rfl rfl ?_
    clear hm a; intro a hm
    refine s_append (J := Mem.no) (I' := Mem.no) (p := 1) 140737488355328 hm rfl rfl rfl Try.underlying25 ti5 rfl rfl rfl rfl hS rfl ho4 (Src.flat flat_u8 (hp0_0.src (hA.trans hS.old))) (Mem.le.refl _) (Mem.le.refl _) H ?_
    intro w8 v9 M10 hS' ho11
    clear hm a; intro a hm
    refine s_assign hm rfl rfl ?_
    clear hm a; intro a hm
    refine wpList_nil ?_
    replace hm : Fr 8 a [(2, v9)] := hm.keep [2]
    refine x_then_n ?_
    refine wp_ret ?_
    exact f_ret hm (rs := [.tmp 2]) rfl (.tmp rfl .nil) ⟨_, rfl, _, Mem.no, M10, rfl, hS', ho11⟩

set_option maxHeartbeats 4000000 in
set_option maxRecDepth 20000 in
theorem regs_Write.calls (x0 : List UInt8) (p0_0 : Value) (x1 : List UInt8) (p1_1 : Value) (r : (List UInt8) × api_Result) (w0 w : World) (Z A : Mem) (hA : A.le Z) (hS : Sep w0 w [] Z) (hp0_0 : Rd Kd.u8 A p0_0 x0) (hp1_1 : Rd Kd.u8 A p1_1 x1)
    (H : regs_Write.f x0 x1 = some r) :
    Calls Try.prog 15 [p0_0, p1_1].toArray w (Ret fun v w' => ∃ (u0 : Value) (u1 : Value) (N : Mem) (M0 : Mem) (M1 : Mem), v = .tuple [u0, .agg [.int .i64 r.2.Err, u1, .int .i64 r.2.N].toArray].toArray ∧ Sep w0 w' [N, M0, M1] Z ∧ Own Kd.u8 5 M0 Mem.no u0 r.1 ∧ Own Kd.u8 5 M1 Mem.no u1 r.2.Val) := by
  unfold regs_Write.f at H
  refine f_enter _ Try.func15 rfl Try.ntmps15 rfl fun a hm => ?_
  replace hm : Fr 15 a [(0, p0_0), (1, p1_1)] := hm
  replace hS := hS.start
  replace hS : Sep w0 w [Mem.no] Z := hS
  refine wp_seq ?_
  refine wp_region_lit ?_
  refine s_assign hm rfl rfl ?_
  clear hm a; intro a hm
  refine v_alloc hm rfl ti27 hS ?_
  intro w_1 g_2 hS'
  clear hm a; intro a hm
  replace hS : Sep w0 w_1 [Mem.no, Mem.one g_2 (.cells [.int .i64 0, .slice none 0 0, .int .i64 0].toArray 27 (0, 0))] Z := hS'
  clear hS'
  refine wpList_nil ?_
  replace hm : Fr 15 a [(0, p0_0), (1, p1_1), (4, .slice none 0 0), (5, .pointer (some ⟨g_2, 0, none⟩))] := hm.keep [0, 1, 4, 5]
  refine x_then_n ?_
  refine c_seq fun KJ_3 hKJ_3 => ?_
  refine wp_seq ?_
  refine wp_region_lit ?_
  refine s_move hm rfl rfl ?_
  clear hm a; intro a hm
  refine s_len hm rfl Try.underlying25 rfl hp1_1 ?_
  clear hm a; intro a hm
  refine s_cmp (b := decide ((x1.length : Int) > 16)) hm rfl rfl rfl (.inr (.inr (.inr (.inr (.inl ⟨rfl, rfl⟩))))) ?_
  clear hm a; intro a hm
  refine wpList_nil ?_
  replace hm : Fr 15 a [(0, p0_0), (1, p1_1), (4, .slice none 0 0), (5, .pointer (some ⟨g_2, 0, none⟩)), (8, .bool (decide ((x1.length : Int) > 16)))] := hm.keep [0, 1, 4, 5, 8]
  refine x_then_n ?_
  by_cases hc_4 : (x1.length : Int) > 16
  · rw [if_pos hc_4] at H
    refine c_cond_t hm rfl (decide_eq_true hc_4) ?_
    refine wp_seq ?_
    refine wp_region_lit ?_
    refine s_move hm rfl rfl ?_
    clear hm a; intro a hm
    obtain ⟨t_5, et_5, H⟩ := Option.bind_eq_some_iff.1 H
    refine s_call hm rfl Try.call42 rfl (slices_Clone_byte_byte.calls x0 _ t_5 w0 _ _ _ (Mem.le.refl _) (hS.enter [] (by decide)) (hp0_0.mono (hA.trans (hS.le_zed []))) et_5) ?_
    rintro v_9 w_6 ⟨_, N_7, M_11, rfl, hS', hr_10⟩
    clear hm a; intro a hm
    obtain ⟨N_8, hS'', le_8, ln_8⟩ := hS.call [] (by decide) rfl (l' := []) (ow := [M_11]) rfl hS'
    replace hS : Sep w0 w_6 [N_8, Mem.one g_2 (.cells [.int .i64 0, .slice none 0 0, .int .i64 0].toArray 27 (0, 0)), M_11] Z := hS''
    clear hS' hS''
    refine s_build hm rfl ti27 pl27 rfl (.cons rfl .nil) (cs := [.int .i64 1, .slice none 0 0, .int .i64 0]) rfl ?_
    clear hm a; intro a hm
    refine s_assign hm rfl rfl ?_
    clear hm a; intro a hm
    obtain ⟨w_13, hs', hS'⟩ := hS.store (P := Try.prog) (p := 1) (o := 0) (t := 27) (v := .agg [.int .i64 1, .slice none 0 0, .int .i64 0].toArray) (vs := [.int .i64 1, .slice none 0 0, .int .i64 0]) rfl ti27 rfl rfl rfl (by intro u hu; simp only [List.mem_cons, List.not_mem_nil, or_false] at hu; rcases hu with rfl | rfl | rfl <;> rfl)
    refine s_store hm rfl rfl hs' ?_
    replace hS : Sep w0 w_13 [N_8, Mem.one g_2 (.cells [.int .i64 1, .slice none 0 0, .int .i64 0].toArray 27 (0, 0)), M_11] Z := hS'
    clear hs' hS'
    refine wpList_nil ?_
    replace hm : Fr 15 a [(1, p1_1), (4, v_9), (5, .pointer (some ⟨g_2, 0, none⟩))] := hm.keep [1, 4, 5]
    refine x_then_n ?_
    refine wp_ret (x_then_r ?_)
    have hS' := hS.room
    replace hS : Sep w0 w_13 [N_8, Mem.one g_2 (.cells [.int .i64 1, .slice none 0 0, .int .i64 0].toArray 27 (0, 0)), M_11, Mem.no] Z := hS'
    clear hS'
    replace hS : Sep w0 w_13 [N_8, Mem.one g_2 (.cells [.int .i64 1, .slice none 0 0, .int .i64 0].toArray 27 (0, 0)), M_11, Mem.no] Z := hS
    obtain rfl := Option.some.inj H
    exact f_ret hm (rs := [.tmp 4, .cell 5 27]) rfl (.tmp rfl (.cell rfl (hS.load_agg (p := 1) (us := [.int .i64 1, .slice none 0 0, .int .i64 0]) rfl Try.underlying27 rfl ti27 rfl rfl) .nil)) ⟨_, rfl, v_9, .slice none 0 0, N_8, M_11, Mem.no, rfl, (Sep.sel hS [0, 2, 3] (by decide)), hr_10, (Own.nil Kd.u8 5 Mem.no)⟩
  · rw [if_neg hc_4] at H
    refine c_cond_f hm rfl (decide_eq_false hc_4) ?_
    refine wp_skip ?_
    refine x_then_n (hKJ_3 _ _ ?_)
    refine wp_seq ?_
    refine wp_region_lit ?_
    refine s_move hm rfl rfl ?_
    clear hm a; intro a hm
    obtain ⟨t_15, et_15, H⟩ := Option.bind_eq_some_iff.1 H
    refine s_call hm rfl Try.call42 rfl (slices_Clone_byte_byte.calls x1 _ t_15 w0 _ _ _ (Mem.le.refl _) (hS.enter [] (by decide)) (hp1_1.mono (hA.trans (hS.le_zed []))) et_15) ?_
    rintro v_19 w_16 ⟨_, N_17, M_21, rfl, hS', hr_20⟩
    clear hm a; intro a hm
    obtain ⟨N_18, hS'', le_18, ln_18⟩ := hS.call [] (by decide) rfl (l' := []) (ow := [M_21]) rfl hS'
    replace hS : Sep w0 w_16 [N_18, Mem.one g_2 (.cells [.int .i64 0, .slice none 0 0, .int .i64 0].toArray 27 (0, 0)), M_21] Z := hS''
    clear hS' hS''
    refine s_build hm rfl ti27 pl27 rfl .nil (cs := [.int .i64 0, .slice none 0 0, .int .i64 0]) rfl ?_
    clear hm a; intro a hm
    refine s_assign hm rfl rfl ?_
    clear hm a; intro a hm
    obtain ⟨w_23, hs', hS'⟩ := hS.store (P := Try.prog) (p := 1) (o := 0) (t := 27) (v := .agg [.int .i64 0, .slice none 0 0, .int .i64 0].toArray) (vs := [.int .i64 0, .slice none 0 0, .int .i64 0]) rfl ti27 rfl rfl rfl (by intro u hu; simp only [List.mem_cons, List.not_mem_nil, or_false] at hu; rcases hu with rfl | rfl | rfl <;> rfl)
    refine s_store hm rfl rfl hs' ?_
    replace hS : Sep w0 w_23 [N_18, Mem.one g_2 (.cells [.int .i64 0, .slice none 0 0, .int .i64 0].toArray 27 (0, 0)), M_21] Z := hS'
    clear hs' hS'
    refine wpList_nil ?_
    replace hm : Fr 15 a [(4, v_19), (5, .pointer (some ⟨g_2, 0, none⟩))] := hm.keep [4, 5]
    refine x_then_n ?_
    refine wp_ret ?_
    have hS' := hS.room
    replace hS : Sep w0 w_23 [N_18, Mem.one g_2 (.cells [.int .i64 0, .slice none 0 0, .int .i64 0].toArray 27 (0, 0)), M_21, Mem.no] Z := hS'
    clear hS'
    replace hS : Sep w0 w_23 [N_18, Mem.one g_2 (.cells [.int .i64 0, .slice none 0 0, .int .i64 0].toArray 27 (0, 0)), M_21, Mem.no] Z := hS
    obtain rfl := Option.some.inj H
    exact f_ret hm (rs := [.tmp 4, .cell 5 27]) rfl (.tmp rfl (.cell rfl (hS.load_agg (p := 1) (us := [.int .i64 0, .slice none 0 0, .int .i64 0]) rfl Try.underlying27 rfl ti27 rfl rfl) .nil)) ⟨_, rfl, v_19, .slice none 0 0, N_18, M_21, Mem.no, rfl, (Sep.sel hS [0, 2, 3] (by decide)), hr_20, (Own.nil Kd.u8 5 Mem.no)⟩

set_option maxHeartbeats 4000000 in
set_option maxRecDepth 20000 in
theorem bytes_Equal.calls (x0 : List UInt8) (p0_0 : Value) (x1 : List UInt8) (p1_1 : Value) (r : Bool) (w0 w : World) (Z A : Mem) (hA : A.le Z) (hS : Sep w0 w [] Z) (hp0_0 : Rd Kd.u8 A p0_0 x0) (hp1_1 : Rd Kd.u8 A p1_1 x1)
    (H : bytes_Equal.f x0 x1 = some r) :
    Calls Try.prog 41 [p0_0, p1_1].toArray w (Ret fun v w' => ∃ (N : Mem), v = .bool r ∧ Sep w0 w' [N] Z) := by
  unfold bytes_Equal.f at H
  refine f_enter _ Try.func41 rfl Try.ntmps41 rfl fun a hm => ?_
  replace hm : Fr 10 a [(0, p0_0), (1, p1_1)] := hm
  replace hS := hS.start
  replace hS : Sep w0 w [Mem.no] Z := hS
  refine wp_seq ?_
  refine wp_region_lit ?_
  refine s_assign hm rfl rfl ?_
  clear hm a; intro a hm
  refine wpList_nil ?_
  replace hm : Fr 10 a [(0, p0_0), (1, p1_1), (4, .bool false)] := hm.keep [0, 1, 4]
  refine x_then_n ?_
  refine wp_seq ?_
  refine wp_region_lit ?_
  refine s_move hm rfl rfl ?_
  clear hm a; intro a hm
  refine s_b2s hm rfl Try.underlying25 Try.underlying5 Try.underlying9 rfl hp0_0 (hA.trans hS.old) ?_
  clear hm a; intro a hm
  refine s_move hm rfl rfl ?_
  clear hm a; intro a hm
  refine s_b2s hm rfl Try.underlying25 Try.underlying5 Try.underlying9 rfl hp1_1 (hA.trans hS.old) ?_
  clear hm a; intro a hm
  refine s_strEq (b := (x0 == x1)) hm rfl rfl rfl (.inl ⟨rfl, rfl⟩) ?_
  clear hm a; intro a hm
  refine s_assign hm rfl rfl ?_
  clear hm a; intro a hm
  refine wpList_nil ?_
  replace hm : Fr 10 a [(4, .bool (x0 == x1))] := hm.keep [4]
  refine x_then_n ?_
  refine wp_ret ?_
  obtain rfl := Option.some.inj H
  exact f_ret hm (rs := [.tmp 4]) rfl (.tmp rfl .nil) ⟨_, rfl, Mem.no, rfl, (Sep.sel hS [0] (by decide))⟩

set_option maxHeartbeats 4000000 in
set_option maxRecDepth 20000 in
theorem regs_Cas.calls (x0 : List UInt8) (p0_0 : Value) (x1 : List UInt8) (p1_1 : Value) (x2 : List UInt8) (p2_2 : Value) (r : (List UInt8) × api_Result) (w0 w : World) (Z A : Mem) (hA : A.le Z) (hS : Sep w0 w [] Z) (hp0_0 : Rd Kd.u8 A p0_0 x0) (hp1_1 : Rd Kd.u8 A p1_1 x1) (hp2_2 : Rd Kd.u8 A p2_2 x2)
    (H : regs_Cas.f x0 x1 x2 = some r) :
    Calls Try.prog 14 [p0_0, p1_1, p2_2].toArray w (Ret fun v w' => ∃ (u0 : Value) (u1 : Value) (N : Mem) (M0 : Mem) (M1 : Mem), v = .tuple [u0, .agg [.int .i64 r.2.Err, u1, .int .i64 r.2.N].toArray].toArray ∧ Sep w0 w' [N, M0, M1] Z ∧ Own Kd.u8 5 M0 Mem.no u0 r.1 ∧ Own Kd.u8 5 M1 Mem.no u1 r.2.Val) := by
  unfold regs_Cas.f at H
  refine f_enter _ Try.func14 rfl Try.ntmps14 rfl fun a hm => ?_
  replace hm : Fr 27 a [(0, p0_0), (1, p1_1), (2, p2_2)] := hm
  replace hS := hS.start
  replace hS : Sep w0 w [Mem.no] Z := hS
  refine wp_seq ?_
  refine wp_region_lit ?_
  refine s_assign hm rfl rfl ?_
  clear hm a; intro a hm
  refine v_alloc hm rfl ti27 hS ?_
  intro w_1 g_2 hS'
  clear hm a; intro a hm
  replace hS : Sep w0 w_1 [Mem.no, Mem.one g_2 (.cells [.int .i64 0, .slice none 0 0, .int .i64 0].toArray 27 (0, 0))] Z := hS'
  clear hS'
  refine wpList_nil ?_
  replace hm : Fr 27 a [(0, p0_0), (1, p1_1), (2, p2_2), (6, .slice none 0 0), (7, .pointer (some ⟨g_2, 0, none⟩))] := hm.keep [0, 1, 2, 6, 7]
  refine x_then_n ?_
  refine c_seq fun KJ_3 hKJ_3 => ?_
  refine c_seq fun KJ_4 hKJ_4 => ?_
  have hJ_j_8 : ∀ (x_6 : Bool), regs_Cas.j_8 x0 x2 x_6 = some r → ∀ (a : Act) (w_7 : World), (∃ (N_5 : Mem), Fr 27 a [(0, p0_0), (2, p2_2), (6, .slice none 0 0), (7, .pointer (some ⟨g_2, 0, none⟩)), (16, .bool x_6)] ∧ Sep w0 w_7 [N_5, Mem.one g_2 (.cells [.int .i64 0, .slice none 0 0, .int .i64 0].toArray 27 (0, 0))] Z ∧ Mem.no.le N_5) → KJ_4 a w_7 := by
    clear H hm hS a
    rintro x_6 H a w_7 ⟨N_5, hm, hS, le_5⟩
    unfold regs_Cas.j_8 at H
    refine hKJ_4 _ _ ?_
    by_cases hc_9 : x_6 = true
    · rw [if_pos hc_9] at H
      refine c_cond_t hm rfl hc_9 ?_
      refine wp_seq ?_
      refine wp_region_lit ?_
      refine s_move hm rfl rfl ?_
      clear hm a; intro a hm
      obtain ⟨t_10, et_10, H⟩ := Option.bind_eq_some_iff.1 H
      refine s_call hm rfl Try.call42 rfl (slices_Clone_byte_byte.calls x0 _ t_10 w0 _ _ _ (Mem.le.refl _) (hS.enter [] (by decide)) (hp0_0.mono (hA.trans (hS.le_zed []))) et_10) ?_
      rintro v_14 w_11 ⟨_, N_12, M_16, rfl, hS', hr_15⟩
      clear hm a; intro a hm
      obtain ⟨N_13, hS'', le_13, ln_13⟩ := hS.call [] (by decide) rfl (l' := []) (ow := [M_16]) rfl hS'
      replace hS : Sep w0 w_11 [N_13, Mem.one g_2 (.cells [.int .i64 0, .slice none 0 0, .int .i64 0].toArray 27 (0, 0)), M_16] Z := hS''
      clear hS' hS''
      refine s_move hm rfl rfl ?_
      clear hm a; intro a hm
      obtain ⟨t_18, et_18, H⟩ := Option.bind_eq_some_iff.1 H
      refine s_call hm rfl Try.call42 rfl (slices_Clone_byte_byte.calls x0 _ t_18 w0 _ _ _ (Mem.le.refl _) (hS.enter [] (by decide)) (hp0_0.mono (hA.trans (hS.le_zed []))) et_18) ?_
      rintro v_22 w_19 ⟨_, N_20, M_24, rfl, hS', hr_23⟩
      clear hm a; intro a hm
      obtain ⟨N_21, hS'', le_21, ln_21⟩ := hS.call [] (by decide) rfl (l' := []) (ow := [M_24]) rfl hS'
      replace hS : Sep w0 w_19 [N_21, Mem.one g_2 (.cells [.int .i64 0, .slice none 0 0, .int .i64 0].toArray 27 (0, 0)), M_16, M_24] Z := hS''
      clear hS' hS''
      refine s_build hm rfl ti27 pl27 rfl (.cons rfl (.cons hr_23.cells .nil)) (cs := [.int .i64 2, v_22, .int .i64 0]) rfl ?_
      clear hm a; intro a hm
      refine s_assign hm rfl rfl ?_
      clear hm a; intro a hm
      obtain ⟨w_26, hs', hS'⟩ := hS.store (P := Try.prog) (p := 1) (o := 0) (t := 27) (v := .agg [.int .i64 2, v_22, .int .i64 0].toArray) (vs := [.int .i64 2, v_22, .int .i64 0]) rfl ti27 rfl rfl rfl (by intro u hu; simp only [List.mem_cons, List.not_mem_nil, or_false] at hu; rcases hu with rfl | rfl | rfl <;> first | rfl | exact hr_23.one)
      refine s_store hm rfl rfl hs' ?_
      replace hS : Sep w0 w_26 [N_21, Mem.one g_2 (.cells [.int .i64 2, v_22, .int .i64 0].toArray 27 (0, 0)), M_16, M_24] Z := hS'
      clear hs' hS'
      refine wpList_nil ?_
      replace hm : Fr 27 a [(0, p0_0), (2, p2_2), (6, v_14), (7, .pointer (some ⟨g_2, 0, none⟩))] := hm.keep [0, 2, 6, 7]
      refine x_then_n ?_
      refine wp_ret (x_then_r ?_)
      obtain rfl := Option.some.inj H
      exact f_ret hm (rs := [.tmp 6, .cell 7 27]) rfl (.tmp rfl (.cell rfl (hS.load_agg (p := 1) (us := [.int .i64 2, v_22, .int .i64 0]) rfl Try.underlying27 rfl ti27 rfl rfl) .nil)) ⟨_, rfl, v_14, v_22, N_21, M_16, M_24, rfl, (Sep.sel hS [0, 2, 3] (by decide)), hr_15, hr_23⟩
    · rw [if_neg hc_9] at H
      refine c_cond_f hm rfl (Bool.eq_false_iff.2 hc_9) ?_
      refine wp_skip ?_
      refine x_then_n (hKJ_3 _ _ ?_)
      refine wp_seq ?_
      refine wp_region_lit ?_
      refine s_move hm rfl rfl ?_
      clear hm a; intro a hm
      refine s_move hm rfl rfl ?_
      clear hm a; intro a hm
      obtain ⟨t_27, et_27, H⟩ := Option.bind_eq_some_iff.1 H
      refine s_call hm rfl Try.call15 rfl (regs_Write.calls x0 _ x2 _ t_27 w0 _ _ _ (Mem.le.refl _) (hS.enter [] (by decide)) (hp0_0.mono (hA.trans (hS.le_zed []))) (hp2_2.mono (hA.trans (hS.le_zed []))) et_27) ?_
      rintro _ w_28 ⟨v_31, v_35, N_29, M_33, M_37, rfl, hS', hr_32, hr_36⟩
      clear hm a; intro a hm
      obtain ⟨N_30, hS'', le_30, ln_30⟩ := hS.call [] (by decide) rfl (l' := []) (ow := [M_33, M_37]) rfl hS'
      replace hS : Sep w0 w_28 [N_30, Mem.one g_2 (.cells [.int .i64 0, .slice none 0 0, .int .i64 0].toArray 27 (0, 0)), M_33, M_37] Z := hS''
      clear hS' hS''
      refine s_extract hm rfl rfl rfl ?_
      clear hm a; intro a hm
      refine s_extract hm rfl rfl rfl ?_
      clear hm a; intro a hm
      refine s_assign hm rfl rfl ?_
      clear hm a; intro a hm
      obtain ⟨w_39, hs', hS'⟩ := hS.store (P := Try.prog) (p := 1) (o := 0) (t := 27) (v := .agg [.int .i64 t_27.2.Err, v_35, .int .i64 t_27.2.N].toArray) (vs := [.int .i64 t_27.2.Err, v_35, .int .i64 t_27.2.N]) rfl ti27 rfl rfl rfl (by intro u hu; simp only [List.mem_cons, List.not_mem_nil, or_false] at hu; rcases hu with rfl | rfl | rfl <;> first | rfl | exact hr_36.one)
      refine s_store hm rfl rfl hs' ?_
      replace hS : Sep w0 w_39 [N_30, Mem.one g_2 (.cells [.int .i64 t_27.2.Err, v_35, .int .i64 t_27.2.N].toArray 27 (0, 0)), M_33, M_37] Z := hS'
      clear hs' hS'
      refine wpList_nil ?_
      replace hm : Fr 27 a [(6, v_31), (7, .pointer (some ⟨g_2, 0, none⟩))] := hm.keep [6, 7]
      refine x_then_n ?_
      refine wp_ret ?_
      obtain rfl := Option.some.inj H
      exact f_ret hm (rs := [.tmp 6, .cell 7 27]) rfl (.tmp rfl (.cell rfl (hS.load_agg (p := 1) (us := [.int .i64 t_27.2.Err, v_35, .int .i64 t_27.2.N]) rfl Try.underlying27 rfl ti27 rfl rfl) .nil)) ⟨_, rfl, v_31, v_35, N_30, M_33, M_37, rfl, (Sep.sel hS [0, 2, 3] (by decide)), hr_32, hr_36⟩
  clear hKJ_4
  refine wp_region_lit ?_
  refine s_move hm rfl rfl ?_
  clear hm a; intro a hm
  refine s_len hm rfl Try.underlying25 rfl hp2_2 ?_
  clear hm a; intro a hm
  refine s_cmp (b := decide ((x2.length : Int) ≤ 16)) hm rfl rfl rfl (.inr (.inr (.inr (.inl ⟨rfl, rfl⟩)))) ?_
  clear hm a; intro a hm
  refine s_move hm rfl rfl ?_
  clear hm a; intro a hm
  by_cases hc_40 : (x2.length : Int) ≤ 16
  · rw [if_pos hc_40] at H
    refine s_on hm rfl rfl (decide_eq_true hc_40) ?_
    refine s_move hm rfl rfl ?_
    clear hm a; intro a hm
    refine s_on hm rfl rfl (decide_eq_true hc_40) ?_
    refine s_move hm rfl rfl ?_
    clear hm a; intro a hm
    refine s_on hm rfl rfl (decide_eq_true hc_40) ?_
    obtain ⟨t_41, et_41, H⟩ := Option.bind_eq_some_iff.1 H
    refine s_call hm rfl Try.call41 rfl (bytes_Equal.calls x0 _ x1 _ t_41 w0 _ _ _ (Mem.le.refl _) (hS.enter [] (by decide)) (hp0_0.mono (hA.trans (hS.le_zed []))) (hp1_1.mono (hA.trans (hS.le_zed []))) et_41) ?_
    rintro _ w_42 ⟨N_43, rfl, hS'⟩
    clear hm a; intro a hm
    obtain ⟨N_44, hS'', le_44, ln_44⟩ := hS.call [] (by decide) rfl (l' := []) (ow := []) rfl hS'
    replace hS : Sep w0 w_42 [N_44, Mem.one g_2 (.cells [.int .i64 0, .slice none 0 0, .int .i64 0].toArray 27 (0, 0))] Z := hS''
    clear hS' hS''
    refine s_on hm rfl rfl (decide_eq_true hc_40) ?_
    refine s_not hm rfl rfl ?_
    clear hm a; intro a hm
    refine s_pick_t hm rfl rfl (decide_eq_true hc_40) rfl ?_
    clear hm a; intro a hm
    refine wpList_nil ?_
    replace hm : Fr 27 a [(0, p0_0), (2, p2_2), (6, .slice none 0 0), (7, .pointer (some ⟨g_2, 0, none⟩)), (16, .bool (!t_41))] := hm.keep [0, 2, 6, 7, 16]
    replace hS : Sep w0 w_42 [N_44, Mem.one g_2 (.cells [.int .i64 0, .slice none 0 0, .int .i64 0].toArray 27 (0, 0))] Z := hS
    replace hm : Fr 27 a [(0, p0_0), (2, p2_2), (6, .slice none 0 0), (7, .pointer (some ⟨g_2, 0, none⟩)), (16, .bool (!t_41))] := hm.keep [0, 2, 6, 7, 16]
    exact x_then_n (hJ_j_8 (!t_41) H _ _ ⟨N_44, hm, (Sep.sel hS [0, 1] (by decide)), le_44⟩)
  · rw [if_neg hc_40] at H
    refine s_off hm rfl rfl rfl (decide_eq_false hc_40) ?_
    clear hm a; intro a hm
    refine s_off hm rfl rfl rfl (decide_eq_false hc_40) ?_
    clear hm a; intro a hm
    refine s_off hm rfl rfl rfl (decide_eq_false hc_40) ?_
    clear hm a; intro a hm
    refine s_off hm rfl rfl rfl (decide_eq_false hc_40) ?_
    clear hm a; intro a hm
    refine s_pick_f hm rfl rfl (decide_eq_false hc_40) rfl ?_
    clear hm a; intro a hm
    refine wpList_nil ?_
    replace hm : Fr 27 a [(0, p0_0), (2, p2_2), (6, .slice none 0 0), (7, .pointer (some ⟨g_2, 0, none⟩)), (16, .bool false)] := hm.keep [0, 2, 6, 7, 16]
    replace hS : Sep w0 w_1 [Mem.no, Mem.one g_2 (.cells [.int .i64 0, .slice none 0 0, .int .i64 0].toArray 27 (0, 0))] Z := hS
    replace hm : Fr 27 a [(0, p0_0), (2, p2_2), (6, .slice none 0 0), (7, .pointer (some ⟨g_2, 0, none⟩)), (16, .bool false)] := hm.keep [0, 2, 6, 7, 16]
    exact x_then_n (hJ_j_8 false H _ _ ⟨Mem.no, hm, (Sep.sel hS [0, 1] (by decide)), (Mem.le.refl _)⟩)

set_option maxHeartbeats 4000000 in
set_option maxRecDepth 20000 in
theorem regs_Read.calls (x0 : List UInt8) (p0_0 : Value) (r : api_Result) (w0 w : World) (Z A : Mem) (hA : A.le Z) (hS : Sep w0 w [] Z) (hp0_0 : Rd Kd.u8 A p0_0 x0)
    (H : regs_Read.f x0 = some r) :
    Calls Try.prog 20 [p0_0].toArray w (Ret fun v w' => ∃ (u0 : Value) (N : Mem) (M0 : Mem), v = .agg [.int .i64 r.Err, u0, .int .i64 r.N].toArray ∧ Sep w0 w' [N, M0] Z ∧ Own Kd.u8 5 M0 Mem.no u0 r.Val) := by
  unfold regs_Read.f at H
  refine f_enter _ Try.func20 rfl Try.ntmps20 rfl fun a hm => ?_
  replace hm : Fr 6 a [(0, p0_0)] := hm
  replace hS := hS.start
  replace hS : Sep w0 w [Mem.no] Z := hS
  refine wp_seq ?_
  refine wp_region_lit ?_
  refine v_alloc hm rfl ti27 hS ?_
  intro w_1 g_2 hS'
  clear hm a; intro a hm
  replace hS : Sep w0 w_1 [Mem.no, Mem.one g_2 (.cells [.int .i64 0, .slice none 0 0, .int .i64 0].toArray 27 (0, 0))] Z := hS'
  clear hS'
  refine wpList_nil ?_
  replace hm : Fr 6 a [(0, p0_0), (2, .pointer (some ⟨g_2, 0, none⟩))] := hm.keep [0, 2]
  refine x_then_n ?_
  refine wp_seq ?_
  refine wp_region_lit ?_
  refine s_move hm rfl rfl ?_
  clear hm a; intro a hm
  obtain ⟨t_3, et_3, H⟩ := Option.bind_eq_some_iff.1 H
  refine s_call hm rfl Try.call42 rfl (slices_Clone_byte_byte.calls x0 _ t_3 w0 _ _ _ (Mem.le.refl _) (hS.enter [] (by decide)) (hp0_0.mono (hA.trans (hS.le_zed []))) et_3) ?_
  rintro v_7 w_4 ⟨_, N_5, M_9, rfl, hS', hr_8⟩
  clear hm a; intro a hm
  obtain ⟨N_6, hS'', le_6, ln_6⟩ := hS.call [] (by decide) rfl (l' := []) (ow := [M_9]) rfl hS'
  replace hS : Sep w0 w_4 [N_6, Mem.one g_2 (.cells [.int .i64 0, .slice none 0 0, .int .i64 0].toArray 27 (0, 0)), M_9] Z := hS''
  clear hS' hS''
  refine s_build hm rfl ti27 pl27 rfl (.cons hr_8.cells .nil) (cs := [.int .i64 0, v_7, .int .i64 0]) rfl ?_
  clear hm a; intro a hm
  obtain ⟨w_11, hs', hS'⟩ := hS.store (P := Try.prog) (p := 1) (o := 0) (t := 27) (v := .agg [.int .i64 0, v_7, .int .i64 0].toArray) (vs := [.int .i64 0, v_7, .int .i64 0]) rfl ti27 rfl rfl rfl (by intro u hu; simp only [List.mem_cons, List.not_mem_nil, or_false] at hu; rcases hu with rfl | rfl | rfl <;> first | rfl | exact hr_8.one)
  refine s_store hm rfl rfl hs' ?_
  replace hS : Sep w0 w_11 [N_6, Mem.one g_2 (.cells [.int .i64 0, v_7, .int .i64 0].toArray 27 (0, 0)), M_9] Z := hS'
  clear hs' hS'
  refine wpList_nil ?_
  replace hm : Fr 6 a [(2, .pointer (some ⟨g_2, 0, none⟩))] := hm.keep [2]
  refine x_then_n ?_
  refine wp_ret ?_
  obtain rfl := Option.some.inj H
  exact f_ret hm (rs := [.cell 2 27]) rfl (.cell rfl (hS.load_agg (p := 1) (us := [.int .i64 0, v_7, .int .i64 0]) rfl Try.underlying27 rfl ti27 rfl rfl) .nil) ⟨_, rfl, v_7, N_6, M_9, rfl, (Sep.sel hS [0, 2] (by decide)), hr_8⟩

set_option maxHeartbeats 4000000 in
set_option maxRecDepth 20000 in
theorem hocketlaw4_awake.calls (r : Unit) (w0 w : World) (Z A : Mem) (hA : A.le Z) (hS : Sep w0 w [] Z)
    (H : hocketlaw4_awake.f = some r) :
    Calls Try.prog 16 [].toArray w (Ret fun v w' => ∃ (N : Mem), v = .bool true ∧ Sep w0 w' [N] Z) := by
  unfold hocketlaw4_awake.f at H
  refine f_enter _ Try.func16 rfl Try.ntmps16 rfl fun a hm => ?_
  replace hm : Fr 66 a [] := hm
  replace hS := hS.start
  replace hS : Sep w0 w [Mem.no] Z := hS
  refine wp_seq ?_
  refine wp_region_lit ?_
  refine s_assign hm rfl rfl ?_
  clear hm a; intro a hm
  refine wpList_nil ?_
  replace hm : Fr 66 a [(0, .bool false)] := hm.keep [0]
  refine x_then_n ?_
  refine wp_seq ?_
  refine wp_region_lit ?_
  have hq_5 : Reps Kd.u8 Mem.no ([(97 : UInt8)] : List UInt8) _ := ((Reps.one (d := Kd.u8) (x := (97 : UInt8)) (show Kd.u8.K _ _ [.int .u8 ((97 : UInt8).toNat : Int)] from rfl)).append (Reps.nil Kd.u8 _))
  refine s_buildSlice hm rfl Try.underlying25 ti5 rfl rfl rfl (.cons rfl .nil) rfl rfl rfl hS hq_5 rfl ?_
  intro w_1 v_2 M_3 hS' ho_4
  clear hm a; intro a hm
  replace hS : Sep w0 w_1 [Mem.no, M_3] Z := hS'
  clear hS' hq_5
  refine s_conv_sl (p := 1) hm rfl Try.underlying25 Try.underlying5 rfl ho_4 (by simp) hS rfl ?_
  intro w_7 M_8 hS' hr_9
  clear hm a; intro a hm
  obtain ⟨N_10, hS'', le_10, lo_10⟩ := Sep.freeze (N0 := Mem.no) (l := [M_8]) hS' 0 rfl
  replace hS : Sep w0 w_7 [N_10, Mem.no] Z := hS''
  clear hS' hS''
  have hq_15 : Reps Kd.u8 Mem.no ([(98 : UInt8)] : List UInt8) _ := ((Reps.one (d := Kd.u8) (x := (98 : UInt8)) (show Kd.u8.K _ _ [.int .u8 ((98 : UInt8).toNat : Int)] from rfl)).append (Reps.nil Kd.u8 _))
  refine s_buildSlice hm rfl Try.underlying25 ti5 rfl rfl rfl (.cons rfl .nil) rfl rfl rfl hS hq_15 rfl ?_
  intro w_11 v_12 M_13 hS' ho_14
  clear hm a; intro a hm
  replace hS : Sep w0 w_11 [N_10, Mem.no, M_13] Z := hS'
  clear hS' hq_15
  refine s_conv_sl (p := 2) hm rfl Try.underlying25 Try.underlying5 rfl ho_14 (by simp) hS rfl ?_
  intro w_17 M_18 hS' hr_19
  clear hm a; intro a hm
  obtain ⟨N_20, hS'', le_20, lo_20⟩ := Sep.freeze (N0 := N_10) (l := [Mem.no, M_18]) hS' 1 rfl
  replace hS : Sep w0 w_17 [N_20, Mem.no, Mem.no] Z := hS''
  clear hS' hS''
  obtain ⟨t_21, et_21, H⟩ := Option.bind_eq_some_iff.1 H
  refine s_call hm rfl Try.call15 rfl (regs_Write.calls ([(97 : UInt8)] : List UInt8) _ ([(98 : UInt8)] : List UInt8) _ t_21 w0 _ _ _ (Mem.le.refl _) (hS.enter [] (by decide)) ((hr_9.mono lo_10).mono (le_20.trans (hS.new_zed []))) ((hr_19.mono lo_20).mono ((Mem.le.refl _).trans (hS.new_zed []))) et_21) ?_
  rintro _ w_22 ⟨v_25, v_29, N_23, M_27, M_31, rfl, hS', hr_26, hr_30⟩
  clear hm a; intro a hm
  obtain ⟨N_24, hS'', le_24, ln_24⟩ := hS.call [] (by decide) rfl (l' := []) (ow := [M_27, M_31]) rfl hS'
  replace hS : Sep w0 w_22 [N_24, Mem.no, Mem.no, M_27, M_31] Z := hS''
  clear hS' hS''
  refine s_move hm rfl rfl ?_
  clear hm a; intro a hm
  refine s_extract hm rfl rfl rfl ?_
  clear hm a; intro a hm
  refine s_extract hm rfl rfl rfl ?_
  clear hm a; intro a hm
  refine v_alloc hm rfl ti27 hS ?_
  intro w_33 g_34 hS'
  clear hm a; intro a hm
  replace hS : Sep w0 w_33 [N_24, Mem.no, Mem.no, M_27, M_31, Mem.one g_34 (.cells [.int .i64 0, .slice none 0 0, .int .i64 0].toArray 27 (0, 0))] Z := hS'
  clear hS'
  refine s_assign hm rfl rfl ?_
  clear hm a; intro a hm
  obtain ⟨w_35, hs', hS'⟩ := hS.store (P := Try.prog) (p := 5) (o := 0) (t := 27) (v := .agg [.int .i64 t_21.2.Err, v_29, .int .i64 t_21.2.N].toArray) (vs := [.int .i64 t_21.2.Err, v_29, .int .i64 t_21.2.N]) rfl ti27 rfl rfl rfl (by intro u hu; simp only [List.mem_cons, List.not_mem_nil, or_false] at hu; rcases hu with rfl | rfl | rfl <;> first | rfl | exact hr_30.one)
  refine s_store hm rfl rfl hs' ?_
  replace hS : Sep w0 w_35 [N_24, Mem.no, Mem.no, M_27, M_31, Mem.one g_34 (.cells [.int .i64 t_21.2.Err, v_29, .int .i64 t_21.2.N].toArray 27 (0, 0))] Z := hS'
  clear hs' hS'
  refine wpList_nil ?_
  replace hm : Fr 66 a [(0, .bool false), (1, v_25), (2, .pointer (some ⟨g_34, 0, none⟩))] := hm.keep [0, 1, 2]
  refine x_then_n ?_
  refine wp_seq ?_
  refine wp_region_lit ?_
  refine s_move hm rfl rfl ?_
  clear hm a; intro a hm
  have hq_40 : Reps Kd.u8 Mem.no ([(97 : UInt8)] : List UInt8) _ := ((Reps.one (d := Kd.u8) (x := (97 : UInt8)) (show Kd.u8.K _ _ [.int .u8 ((97 : UInt8).toNat : Int)] from rfl)).append (Reps.nil Kd.u8 _))
  refine s_buildSlice hm rfl Try.underlying25 ti5 rfl rfl rfl (.cons rfl .nil) rfl rfl rfl hS hq_40 rfl ?_
  intro w_36 v_37 M_38 hS' ho_39
  clear hm a; intro a hm
  replace hS : Sep w0 w_36 [N_24, Mem.no, Mem.no, M_27, M_31, Mem.one g_34 (.cells [.int .i64 t_21.2.Err, v_29, .int .i64 t_21.2.N].toArray 27 (0, 0)), M_38] Z := hS'
  clear hS' hq_40
  refine s_conv_sl (p := 6) hm rfl Try.underlying25 Try.underlying5 rfl ho_39 (by simp) hS rfl ?_
  intro w_42 M_43 hS' hr_44
  clear hm a; intro a hm
  obtain ⟨N_45, hS'', le_45, lo_45⟩ := Sep.freeze (N0 := N_24) (l := [Mem.no, Mem.no, M_27, M_31, Mem.one g_34 (.cells [.int .i64 t_21.2.Err, v_29, .int .i64 t_21.2.N].toArray 27 (0, 0)), M_43]) hS' 5 rfl
  replace hS : Sep w0 w_42 [N_45, Mem.no, Mem.no, M_27, M_31, Mem.one g_34 (.cells [.int .i64 t_21.2.Err, v_29, .int .i64 t_21.2.N].toArray 27 (0, 0)), Mem.no] Z := hS''
  clear hS' hS''
  have hq_50 : Reps Kd.u8 Mem.no ([(99 : UInt8)] : List UInt8) _ := ((Reps.one (d := Kd.u8) (x := (99 : UInt8)) (show Kd.u8.K _ _ [.int .u8 ((99 : UInt8).toNat : Int)] from rfl)).append (Reps.nil Kd.u8 _))
  refine s_buildSlice hm rfl Try.underlying25 ti5 rfl rfl rfl (.cons rfl .nil) rfl rfl rfl hS hq_50 rfl ?_
  intro w_46 v_47 M_48 hS' ho_49
  clear hm a; intro a hm
  replace hS : Sep w0 w_46 [N_45, Mem.no, Mem.no, M_27, M_31, Mem.one g_34 (.cells [.int .i64 t_21.2.Err, v_29, .int .i64 t_21.2.N].toArray 27 (0, 0)), Mem.no, M_48] Z := hS'
  clear hS' hq_50
  refine s_conv_sl (p := 7) hm rfl Try.underlying25 Try.underlying5 rfl ho_49 (by simp) hS rfl ?_
  intro w_52 M_53 hS' hr_54
  clear hm a; intro a hm
  obtain ⟨N_55, hS'', le_55, lo_55⟩ := Sep.freeze (N0 := N_45) (l := [Mem.no, Mem.no, M_27, M_31, Mem.one g_34 (.cells [.int .i64 t_21.2.Err, v_29, .int .i64 t_21.2.N].toArray 27 (0, 0)), Mem.no, M_53]) hS' 6 rfl
  replace hS : Sep w0 w_52 [N_55, Mem.no, Mem.no, M_27, M_31, Mem.one g_34 (.cells [.int .i64 t_21.2.Err, v_29, .int .i64 t_21.2.N].toArray 27 (0, 0)), Mem.no, Mem.no] Z := hS''
  clear hS' hS''
  obtain ⟨t_56, et_56, H⟩ := Option.bind_eq_some_iff.1 H
  refine s_call hm rfl Try.call14 rfl (regs_Cas.calls t_21.1 _ ([(97 : UInt8)] : List UInt8) _ ([(99 : UInt8)] : List UInt8) _ t_56 w0 _ _ _ (Mem.le.refl _) (hS.enter [] (by decide)) (hr_26.rd (hS.own_zed [] 2 (by decide)) (Mem.no_le _)) ((hr_44.mono lo_45).mono (le_55.trans (hS.new_zed []))) ((hr_54.mono lo_55).mono ((Mem.le.refl _).trans (hS.new_zed []))) et_56) ?_
  rintro _ w_57 ⟨v_60, v_64, N_58, M_62, M_66, rfl, hS', hr_61, hr_65⟩
  clear hm a; intro a hm
  obtain ⟨N_59, hS'', le_59, ln_59⟩ := hS.call [] (by decide) rfl (l' := []) (ow := [M_62, M_66]) rfl hS'
  replace hS : Sep w0 w_57 [N_59, Mem.no, Mem.no, M_27, M_31, Mem.one g_34 (.cells [.int .i64 t_21.2.Err, v_29, .int .i64 t_21.2.N].toArray 27 (0, 0)), Mem.no, Mem.no, M_62, M_66] Z := hS''
  clear hS' hS''
  refine s_move hm rfl rfl ?_
  clear hm a; intro a hm
  refine s_extract hm rfl rfl rfl ?_
  clear hm a; intro a hm
  refine s_extract hm rfl rfl rfl ?_
  clear hm a; intro a hm
  refine v_alloc hm rfl ti27 hS ?_
  intro w_68 g_69 hS'
  clear hm a; intro a hm
  replace hS : Sep w0 w_68 [N_59, Mem.no, Mem.no, M_27, M_31, Mem.one g_34 (.cells [.int .i64 t_21.2.Err, v_29, .int .i64 t_21.2.N].toArray 27 (0, 0)), Mem.no, Mem.no, M_62, M_66, Mem.one g_69 (.cells [.int .i64 0, .slice none 0 0, .int .i64 0].toArray 27 (0, 0))] Z := hS'
  clear hS'
  refine s_assign hm rfl rfl ?_
  clear hm a; intro a hm
  obtain ⟨w_70, hs', hS'⟩ := hS.store (P := Try.prog) (p := 10) (o := 0) (t := 27) (v := .agg [.int .i64 t_56.2.Err, v_64, .int .i64 t_56.2.N].toArray) (vs := [.int .i64 t_56.2.Err, v_64, .int .i64 t_56.2.N]) rfl ti27 rfl rfl rfl (by intro u hu; simp only [List.mem_cons, List.not_mem_nil, or_false] at hu; rcases hu with rfl | rfl | rfl <;> first | rfl | exact hr_65.one)
  refine s_store hm rfl rfl hs' ?_
  replace hS : Sep w0 w_70 [N_59, Mem.no, Mem.no, M_27, M_31, Mem.one g_34 (.cells [.int .i64 t_21.2.Err, v_29, .int .i64 t_21.2.N].toArray 27 (0, 0)), Mem.no, Mem.no, M_62, M_66, Mem.one g_69 (.cells [.int .i64 t_56.2.Err, v_64, .int .i64 t_56.2.N].toArray 27 (0, 0))] Z := hS'
  clear hs' hS'
  refine wpList_nil ?_
  replace hm : Fr 66 a [(0, .bool false), (1, v_25), (2, .pointer (some ⟨g_34, 0, none⟩)), (3, v_60), (4, .pointer (some ⟨g_69, 0, none⟩))] := hm.keep [0, 1, 2, 3, 4]
  refine x_then_n ?_
  refine wp_seq ?_
  refine wp_region_lit ?_
  refine s_move hm rfl rfl ?_
  clear hm a; intro a hm
  obtain ⟨t_71, et_71, H⟩ := Option.bind_eq_some_iff.1 H
  refine s_make (kd := Kd.u8) (I := Mem.no) 140737488355328 hm rfl rfl Try.underlying25 ti5 rfl rfl rfl rfl hS (show Kd.u8.K _ _ [.int .u8 ((0 : UInt8).toNat : Int)] from rfl) et_71 ?_
  intro w_72 v_73 M_74 hS' ho_75
  clear hm a; intro a hm
  replace hS : Sep w0 w_72 [N_59, Mem.no, Mem.no, M_27, M_31, Mem.one g_34 (.cells [.int .i64 t_21.2.Err, v_29, .int .i64 t_21.2.N].toArray 27 (0, 0)), Mem.no, Mem.no, M_62, M_66, Mem.one g_69 (.cells [.int .i64 t_56.2.Err, v_64, .int .i64 t_56.2.N].toArray 27 (0, 0)), M_74] Z := hS'
  clear hS'
  obtain ⟨t_77, et_77, H⟩ := Option.bind_eq_some_iff.1 H
  refine s_call hm rfl Try.call15 rfl (regs_Write.calls t_21.1 _ t_71 _ t_77 w0 _ _ _ (Mem.le.refl _) (hS.enter [] (by decide)) (hr_26.rd (hS.own_zed [] 2 (by decide)) (Mem.no_le _)) (ho_75.rd (hS.own_zed [] 10 (by decide)) (Mem.no_le _)) et_77) ?_
  rintro _ w_78 ⟨v_81, v_85, N_79, M_83, M_87, rfl, hS', hr_82, hr_86⟩
  clear hm a; intro a hm
  obtain ⟨N_80, hS'', le_80, ln_80⟩ := hS.call [] (by decide) rfl (l' := []) (ow := [M_83, M_87]) rfl hS'
  replace hS : Sep w0 w_78 [N_80, Mem.no, Mem.no, M_27, M_31, Mem.one g_34 (.cells [.int .i64 t_21.2.Err, v_29, .int .i64 t_21.2.N].toArray 27 (0, 0)), Mem.no, Mem.no, M_62, M_66, Mem.one g_69 (.cells [.int .i64 t_56.2.Err, v_64, .int .i64 t_56.2.N].toArray 27 (0, 0)), M_74, M_83, M_87] Z := hS''
  clear hS' hS''
  refine s_move hm rfl rfl ?_
  clear hm a; intro a hm
  refine s_extract hm rfl rfl rfl ?_
  clear hm a; intro a hm
  refine s_extract hm rfl rfl rfl ?_
  clear hm a; intro a hm
  refine v_alloc hm rfl ti27 hS ?_
  intro w_89 g_90 hS'
  clear hm a; intro a hm
  replace hS : Sep w0 w_89 [N_80, Mem.no, Mem.no, M_27, M_31, Mem.one g_34 (.cells [.int .i64 t_21.2.Err, v_29, .int .i64 t_21.2.N].toArray 27 (0, 0)), Mem.no, Mem.no, M_62, M_66, Mem.one g_69 (.cells [.int .i64 t_56.2.Err, v_64, .int .i64 t_56.2.N].toArray 27 (0, 0)), M_74, M_83, M_87, Mem.one g_90 (.cells [.int .i64 0, .slice none 0 0, .int .i64 0].toArray 27 (0, 0))] Z := hS'
  clear hS'
  refine s_assign hm rfl rfl ?_
  clear hm a; intro a hm
  obtain ⟨w_91, hs', hS'⟩ := hS.store (P := Try.prog) (p := 14) (o := 0) (t := 27) (v := .agg [.int .i64 t_77.2.Err, v_85, .int .i64 t_77.2.N].toArray) (vs := [.int .i64 t_77.2.Err, v_85, .int .i64 t_77.2.N]) rfl ti27 rfl rfl rfl (by intro u hu; simp only [List.mem_cons, List.not_mem_nil, or_false] at hu; rcases hu with rfl | rfl | rfl <;> first | rfl | exact hr_86.one)
  refine s_store hm rfl rfl hs' ?_
  replace hS : Sep w0 w_91 [N_80, Mem.no, Mem.no, M_27, M_31, Mem.one g_34 (.cells [.int .i64 t_21.2.Err, v_29, .int .i64 t_21.2.N].toArray 27 (0, 0)), Mem.no, Mem.no, M_62, M_66, Mem.one g_69 (.cells [.int .i64 t_56.2.Err, v_64, .int .i64 t_56.2.N].toArray 27 (0, 0)), M_74, M_83, M_87, Mem.one g_90 (.cells [.int .i64 t_77.2.Err, v_85, .int .i64 t_77.2.N].toArray 27 (0, 0))] Z := hS'
  clear hs' hS'
  refine wpList_nil ?_
  replace hm : Fr 66 a [(0, .bool false), (1, v_25), (2, .pointer (some ⟨g_34, 0, none⟩)), (3, v_60), (4, .pointer (some ⟨g_69, 0, none⟩)), (6, .pointer (some ⟨g_90, 0, none⟩))] := hm.keep [0, 1, 2, 3, 4, 6]
  refine x_then_n ?_
  refine c_seq fun KJ_92 hKJ_92 => ?_
  refine wp_region_lit ?_
  refine s_move hm rfl rfl ?_
  clear hm a; intro a hm
  refine s_b2s hm rfl Try.underlying25 Try.underlying5 Try.underlying9 rfl (hr_26.rd (J := hp w_91) (hS.own 3) (Mem.no_le _)) (Mem.le.refl _) ?_
  clear hm a; intro a hm
  refine s_strEq (b := (t_21.1 == ([98] : List UInt8))) hm rfl rfl rfl (.inl ⟨rfl, rfl⟩) ?_
  clear hm a; intro a hm
  refine s_move hm rfl rfl ?_
  clear hm a; intro a hm
  by_cases hc_93 : t_21.1 = ([98] : List UInt8)
  · rw [if_pos hc_93] at H
    refine s_on hm rfl rfl (beq_iff_eq.2 hc_93) ?_
    refine s_fieldAddr hm rfl Try.underlying27 rfl ti22 rfl rfl ?_
    clear hm a; intro a hm
    refine s_on hm rfl rfl (beq_iff_eq.2 hc_93) ?_
    refine s_load hm rfl rfl (hS.load_one (p := 5) rfl Try.underlying22 rfl rfl) ?_
    clear hm a; intro a hm
    refine s_on hm rfl rfl (beq_iff_eq.2 hc_93) ?_
    refine s_cmp (b := (t_21.2.Err == 0)) hm rfl rfl rfl (.inl ⟨rfl, rfl⟩) ?_
    clear hm a; intro a hm
    refine s_pick_t hm rfl rfl (beq_iff_eq.2 hc_93) rfl ?_
    clear hm a; intro a hm
    refine s_move hm rfl rfl ?_
    clear hm a; intro a hm
    by_cases hc_94 : t_21.2.Err = 0
    · rw [if_pos hc_94] at H
      refine s_on hm rfl rfl (beq_iff_eq.2 hc_94) ?_
      refine s_move hm rfl rfl ?_
      clear hm a; intro a hm
      refine s_on hm rfl rfl (beq_iff_eq.2 hc_94) ?_
      refine s_b2s hm rfl Try.underlying25 Try.underlying5 Try.underlying9 rfl (hr_61.rd (J := hp w_91) (hS.own 8) (Mem.no_le _)) (Mem.le.refl _) ?_
      clear hm a; intro a hm
      refine s_on hm rfl rfl (beq_iff_eq.2 hc_94) ?_
      refine s_strEq (b := (t_56.1 == ([98] : List UInt8))) hm rfl rfl rfl (.inl ⟨rfl, rfl⟩) ?_
      clear hm a; intro a hm
      refine s_pick_t hm rfl rfl (beq_iff_eq.2 hc_94) rfl ?_
      clear hm a; intro a hm
      refine s_move hm rfl rfl ?_
      clear hm a; intro a hm
      by_cases hc_95 : t_56.1 = ([98] : List UInt8)
      · rw [if_pos hc_95] at H
        refine s_on hm rfl rfl (beq_iff_eq.2 hc_95) ?_
        refine s_fieldAddr hm rfl Try.underlying27 rfl ti22 rfl rfl ?_
        clear hm a; intro a hm
        refine s_on hm rfl rfl (beq_iff_eq.2 hc_95) ?_
        refine s_load hm rfl rfl (hS.load_one (p := 10) rfl Try.underlying22 rfl rfl) ?_
        clear hm a; intro a hm
        refine s_on hm rfl rfl (beq_iff_eq.2 hc_95) ?_
        refine s_cmp (b := (t_56.2.Err == 2)) hm rfl rfl rfl (.inl ⟨rfl, rfl⟩) ?_
        clear hm a; intro a hm
        refine s_pick_t hm rfl rfl (beq_iff_eq.2 hc_95) rfl ?_
        clear hm a; intro a hm
        refine s_move hm rfl rfl ?_
        clear hm a; intro a hm
        by_cases hc_96 : t_56.2.Err = 2
        · rw [if_pos hc_96] at H
          refine s_on hm rfl rfl (beq_iff_eq.2 hc_96) ?_
          refine s_fieldAddr hm rfl Try.underlying27 rfl ti25 rfl rfl ?_
          clear hm a; intro a hm
          refine s_on hm rfl rfl (beq_iff_eq.2 hc_96) ?_
          refine s_load hm rfl rfl (hS.load_one (p := 10) rfl Try.underlying25 rfl rfl) ?_
          clear hm a; intro a hm
          refine s_on hm rfl rfl (beq_iff_eq.2 hc_96) ?_
          refine s_b2s hm rfl Try.underlying25 Try.underlying5 Try.underlying9 rfl (hr_65.rd (J := hp w_91) (hS.own 9) (Mem.no_le _)) (Mem.le.refl _) ?_
          clear hm a; intro a hm
          refine s_on hm rfl rfl (beq_iff_eq.2 hc_96) ?_
          refine s_strEq (b := (t_56.2.Val == ([98] : List UInt8))) hm rfl rfl rfl (.inl ⟨rfl, rfl⟩) ?_
          clear hm a; intro a hm
          refine s_pick_t hm rfl rfl (beq_iff_eq.2 hc_96) rfl ?_
          clear hm a; intro a hm
          refine s_move hm rfl rfl ?_
          clear hm a; intro a hm
          by_cases hc_97 : t_56.2.Val = ([98] : List UInt8)
          · rw [if_pos hc_97] at H
            refine s_on hm rfl rfl (beq_iff_eq.2 hc_97) ?_
            refine s_fieldAddr hm rfl Try.underlying27 rfl ti22 rfl rfl ?_
            clear hm a; intro a hm
            refine s_on hm rfl rfl (beq_iff_eq.2 hc_97) ?_
            refine s_load hm rfl rfl (hS.load_one (p := 14) rfl Try.underlying22 rfl rfl) ?_
            clear hm a; intro a hm
            refine s_on hm rfl rfl (beq_iff_eq.2 hc_97) ?_
            refine s_cmp (b := (t_77.2.Err == 1)) hm rfl rfl rfl (.inl ⟨rfl, rfl⟩) ?_
            clear hm a; intro a hm
            refine s_pick_t hm rfl rfl (beq_iff_eq.2 hc_97) rfl ?_
            clear hm a; intro a hm
            refine s_move hm rfl rfl ?_
            clear hm a; intro a hm
            by_cases hc_98 : t_77.2.Err = 1
            · rw [if_pos hc_98] at H
              refine s_on hm rfl rfl (beq_iff_eq.2 hc_98) ?_
              refine s_move hm rfl rfl ?_
              clear hm a; intro a hm
              refine s_on hm rfl rfl (beq_iff_eq.2 hc_98) ?_
              obtain ⟨t_99, et_99, H⟩ := Option.bind_eq_some_iff.1 H
              refine s_call hm rfl Try.call20 rfl (regs_Read.calls t_21.1 _ t_99 w0 _ _ _ (Mem.le.refl _) (hS.enter [] (by decide)) (hr_26.rd (hS.own_zed [] 2 (by decide)) (Mem.no_le _)) et_99) ?_
              rintro _ w_100 ⟨v_103, N_101, M_105, rfl, hS', hr_104⟩
              clear hm a; intro a hm
              obtain ⟨N_102, hS'', le_102, ln_102⟩ := hS.call [] (by decide) rfl (l' := []) (ow := [M_105]) rfl hS'
              replace hS : Sep w0 w_100 [N_102, Mem.no, Mem.no, M_27, M_31, Mem.one g_34 (.cells [.int .i64 t_21.2.Err, v_29, .int .i64 t_21.2.N].toArray 27 (0, 0)), Mem.no, Mem.no, M_62, M_66, Mem.one g_69 (.cells [.int .i64 t_56.2.Err, v_64, .int .i64 t_56.2.N].toArray 27 (0, 0)), M_74, M_83, M_87, Mem.one g_90 (.cells [.int .i64 t_77.2.Err, v_85, .int .i64 t_77.2.N].toArray 27 (0, 0)), M_105] Z := hS''
              clear hS' hS''
              refine s_on hm rfl rfl (beq_iff_eq.2 hc_98) ?_
              refine s_field_one hm rfl Try.underlying27 rfl Try.underlying25 rfl rfl rfl ?_
              clear hm a; intro a hm
              refine s_on hm rfl rfl (beq_iff_eq.2 hc_98) ?_
              refine s_b2s hm rfl Try.underlying25 Try.underlying5 Try.underlying9 rfl (hr_104.rd (J := hp w_100) (hS.own 15) (Mem.no_le _)) (Mem.le.refl _) ?_
              clear hm a; intro a hm
              refine s_on hm rfl rfl (beq_iff_eq.2 hc_98) ?_
              refine s_strEq (b := (t_99.Val == ([98] : List UInt8))) hm rfl rfl rfl (.inl ⟨rfl, rfl⟩) ?_
              clear hm a; intro a hm
              refine s_pick_t hm rfl rfl (beq_iff_eq.2 hc_98) rfl ?_
              clear hm a; intro a hm
              refine s_assign hm rfl rfl ?_
              clear hm a; intro a hm
              refine wpList_nil ?_
              replace hm : Fr 66 a [(0, .bool (t_99.Val == ([98] : List UInt8)))] := hm.keep [0]
              refine x_then_n (hKJ_92 _ _ ?_)
              refine wp_ret ?_
              by_cases hc_107 : t_99.Val = ([98] : List UInt8)
              · rw [if_pos hc_107] at H
                exact f_ret hm (rs := [.tmp 0]) rfl (.tmp rfl .nil) ⟨_, rfl, N_102, (by rw [(beq_iff_eq.2 hc_107)]; rfl), (Sep.sel hS [0] (by decide))⟩
              · rw [if_neg hc_107] at H
                cases H
            · rw [if_neg hc_98] at H
              cases H
          · rw [if_neg hc_97] at H
            cases H
        · rw [if_neg hc_96] at H
          cases H
      · rw [if_neg hc_95] at H
        cases H
    · rw [if_neg hc_94] at H
      cases H
  · rw [if_neg hc_93] at H
    cases H

set_option maxHeartbeats 4000000 in
set_option maxRecDepth 20000 in
theorem hocketref4_own.calls (x0 : List UInt8) (p0_0 : Value) (r : (List UInt8)) (w0 w : World) (Z A : Mem) (hA : A.le Z) (hS : Sep w0 w [] Z) (hp0_0 : Rd Kd.u8 A p0_0 x0)
    (H : hocketref4_own.f x0 = some r) :
    Calls Try.prog 43 [p0_0].toArray w (Ret fun v w' => ∃ (u0 : Value) (N : Mem) (M0 : Mem), v = u0 ∧ Sep w0 w' [N, M0] Z ∧ Own Kd.u8 5 M0 Mem.no u0 r) := by
  unfold hocketref4_own.f at H
  refine f_enter _ Try.func43 rfl Try.ntmps43 rfl fun a hm => ?_
  replace hm : Fr 6 a [(0, p0_0)] := hm
  replace hS := hS.start
  replace hS : Sep w0 w [Mem.no] Z := hS
  refine wp_seq ?_
  refine wp_region_lit ?_
  refine s_assign hm rfl rfl ?_
  clear hm a; intro a hm
  refine wpList_nil ?_
  replace hm : Fr 6 a [(0, p0_0), (2, .slice none 0 0)] := hm.keep [0, 2]
  refine x_then_n ?_
  refine wp_seq ?_
  refine wp_region_lit ?_
  have hq_5 : Reps Kd.u8 Mem.no ([] : List UInt8) _ := (Reps.nil Kd.u8 _)
  refine s_buildSlice hm rfl Try.underlying25 ti5 rfl rfl rfl .nil rfl rfl rfl hS hq_5 rfl ?_
  intro w_1 v_2 M_3 hS' ho_4
  clear hm a; intro a hm
  replace hS : Sep w0 w_1 [Mem.no, M_3] Z := hS'
  clear hS' hq_5
  refine s_move hm rfl rfl ?_
  clear hm a; intro a hm
  obtain ⟨t_7, et_7, H⟩ := Option.bind_eq_some_iff.1 H
  refine s_append (J := Mem.no) (I' := Mem.no) (p := 1) 140737488355328 hm rfl rfl rfl Try.underlying25 ti5 rfl rfl rfl rfl hS rfl ho_4 (Src.flat flat_u8 (hp0_0.src (hA.trans hS.old))) (Mem.le.refl _) (Mem.le.refl _) et_7 ?_
  intro w_8 v_9 M_10 hS' ho_11
  clear hm a; intro a hm
  replace hS : Sep w0 w_8 [Mem.no, M_10] Z := hS'
  clear hS'
  refine s_assign hm rfl rfl ?_
  clear hm a; intro a hm
  refine wpList_nil ?_
  replace hm : Fr 6 a [(2, v_9)] := hm.keep [2]
  refine x_then_n ?_
  refine wp_ret ?_
  obtain rfl := Option.some.inj H
  exact f_ret hm (rs := [.tmp 2]) rfl (.tmp rfl .nil) ⟨_, rfl, v_9, Mem.no, M_10, rfl, (Sep.sel hS [0, 1] (by decide)), ho_11⟩

set_option maxHeartbeats 4000000 in
set_option maxRecDepth 20000 in
theorem hocketref4_bad.calls (x0 : Int) (r : api_Result) (w0 w : World) (Z A : Mem) (hA : A.le Z) (hS : Sep w0 w [] Z)
    (H : hocketref4_bad.f x0 = some r) :
    Calls Try.prog 44 [.int .i64 x0].toArray w (Ret fun v w' => ∃ (u0 : Value) (N : Mem) (M0 : Mem), v = .agg [.int .i64 r.Err, u0, .int .i64 r.N].toArray ∧ Sep w0 w' [N, M0] Z ∧ Own Kd.u8 5 M0 Mem.no u0 r.Val) := by
  unfold hocketref4_bad.f at H
  refine f_enter _ Try.func44 rfl Try.ntmps44 rfl fun a hm => ?_
  replace hm : Fr 5 a [(0, .int .i64 x0)] := hm
  replace hS := hS.start
  replace hS : Sep w0 w [Mem.no] Z := hS
  refine wp_seq ?_
  refine wp_region_lit ?_
  refine v_alloc hm rfl ti27 hS ?_
  intro w_1 g_2 hS'
  clear hm a; intro a hm
  replace hS : Sep w0 w_1 [Mem.no, Mem.one g_2 (.cells [.int .i64 0, .slice none 0 0, .int .i64 0].toArray 27 (0, 0))] Z := hS'
  clear hS'
  refine wpList_nil ?_
  replace hm : Fr 5 a [(0, .int .i64 x0), (2, .pointer (some ⟨g_2, 0, none⟩))] := hm.keep [0, 2]
  refine x_then_n ?_
  refine wp_seq ?_
  refine wp_region_lit ?_
  refine s_move hm rfl rfl ?_
  clear hm a; intro a hm
  refine s_build hm rfl ti27 pl27 rfl (.cons rfl .nil) (cs := [.int .i64 x0, .slice none 0 0, .int .i64 0]) rfl ?_
  clear hm a; intro a hm
  obtain ⟨w_3, hs', hS'⟩ := hS.store (P := Try.prog) (p := 1) (o := 0) (t := 27) (v := .agg [.int .i64 x0, .slice none 0 0, .int .i64 0].toArray) (vs := [.int .i64 x0, .slice none 0 0, .int .i64 0]) rfl ti27 rfl rfl rfl (by intro u hu; simp only [List.mem_cons, List.not_mem_nil, or_false] at hu; rcases hu with rfl | rfl | rfl <;> rfl)
  refine s_store hm rfl rfl hs' ?_
  replace hS : Sep w0 w_3 [Mem.no, Mem.one g_2 (.cells [.int .i64 x0, .slice none 0 0, .int .i64 0].toArray 27 (0, 0))] Z := hS'
  clear hs' hS'
  refine wpList_nil ?_
  replace hm : Fr 5 a [(2, .pointer (some ⟨g_2, 0, none⟩))] := hm.keep [2]
  refine x_then_n ?_
  refine wp_ret ?_
  have hS' := hS.room
  replace hS : Sep w0 w_3 [Mem.no, Mem.one g_2 (.cells [.int .i64 x0, .slice none 0 0, .int .i64 0].toArray 27 (0, 0)), Mem.no] Z := hS'
  clear hS'
  replace hS : Sep w0 w_3 [Mem.no, Mem.one g_2 (.cells [.int .i64 x0, .slice none 0 0, .int .i64 0].toArray 27 (0, 0)), Mem.no] Z := hS
  obtain rfl := Option.some.inj H
  exact f_ret hm (rs := [.cell 2 27]) rfl (.cell rfl (hS.load_agg (p := 1) (us := [.int .i64 x0, .slice none 0 0, .int .i64 0]) rfl Try.underlying27 rfl ti27 rfl rfl) .nil) ⟨_, rfl, .slice none 0 0, Mem.no, Mem.no, rfl, (Sep.sel hS [0, 2] (by decide)), (Own.nil Kd.u8 5 Mem.no)⟩

set_option maxHeartbeats 4000000 in
set_option maxRecDepth 20000 in
theorem hocketref4_Write.calls (x0 : List UInt8) (p0_0 : Value) (x1 : List UInt8) (p1_1 : Value) (r : (List UInt8) × api_Result) (w0 w : World) (Z A : Mem) (hA : A.le Z) (hS : Sep w0 w [] Z) (hp0_0 : Rd Kd.u8 A p0_0 x0) (hp1_1 : Rd Kd.u8 A p1_1 x1)
    (H : hocketref4_Write.f x0 x1 = some r) :
    Calls Try.prog 17 [p0_0, p1_1].toArray w (Ret fun v w' => ∃ (u0 : Value) (u1 : Value) (N : Mem) (M0 : Mem) (M1 : Mem), v = .tuple [u0, .agg [.int .i64 r.2.Err, u1, .int .i64 r.2.N].toArray].toArray ∧ Sep w0 w' [N, M0, M1] Z ∧ Own Kd.u8 5 M0 Mem.no u0 r.1 ∧ Own Kd.u8 5 M1 Mem.no u1 r.2.Val) := by
  unfold hocketref4_Write.f at H
  refine f_enter _ Try.func17 rfl Try.ntmps17 rfl fun a hm => ?_
  replace hm : Fr 15 a [(0, p0_0), (1, p1_1)] := hm
  replace hS := hS.start
  replace hS : Sep w0 w [Mem.no] Z := hS
  refine wp_seq ?_
  refine wp_region_lit ?_
  refine s_assign hm rfl rfl ?_
  clear hm a; intro a hm
  refine v_alloc hm rfl ti27 hS ?_
  intro w_1 g_2 hS'
  clear hm a; intro a hm
  replace hS : Sep w0 w_1 [Mem.no, Mem.one g_2 (.cells [.int .i64 0, .slice none 0 0, .int .i64 0].toArray 27 (0, 0))] Z := hS'
  clear hS'
  refine wpList_nil ?_
  replace hm : Fr 15 a [(0, p0_0), (1, p1_1), (4, .slice none 0 0), (5, .pointer (some ⟨g_2, 0, none⟩))] := hm.keep [0, 1, 4, 5]
  refine x_then_n ?_
  refine c_seq fun KJ_3 hKJ_3 => ?_
  refine wp_seq ?_
  refine wp_region_lit ?_
  refine s_move hm rfl rfl ?_
  clear hm a; intro a hm
  refine s_len hm rfl Try.underlying25 rfl hp1_1 ?_
  clear hm a; intro a hm
  refine s_cmp (b := decide ((x1.length : Int) > 16)) hm rfl rfl rfl (.inr (.inr (.inr (.inr (.inl ⟨rfl, rfl⟩))))) ?_
  clear hm a; intro a hm
  refine wpList_nil ?_
  replace hm : Fr 15 a [(0, p0_0), (1, p1_1), (4, .slice none 0 0), (5, .pointer (some ⟨g_2, 0, none⟩)), (8, .bool (decide ((x1.length : Int) > 16)))] := hm.keep [0, 1, 4, 5, 8]
  refine x_then_n ?_
  by_cases hc_4 : (x1.length : Int) > 16
  · rw [if_pos hc_4] at H
    refine c_cond_t hm rfl (decide_eq_true hc_4) ?_
    refine wp_seq ?_
    refine wp_region_lit ?_
    refine s_move hm rfl rfl ?_
    clear hm a; intro a hm
    obtain ⟨t_5, et_5, H⟩ := Option.bind_eq_some_iff.1 H
    refine s_call hm rfl Try.call43 rfl (hocketref4_own.calls x0 _ t_5 w0 _ _ _ (Mem.le.refl _) (hS.enter [] (by decide)) (hp0_0.mono (hA.trans (hS.le_zed []))) et_5) ?_
    rintro v_9 w_6 ⟨_, N_7, M_11, rfl, hS', hr_10⟩
    clear hm a; intro a hm
    obtain ⟨N_8, hS'', le_8, ln_8⟩ := hS.call [] (by decide) rfl (l' := []) (ow := [M_11]) rfl hS'
    replace hS : Sep w0 w_6 [N_8, Mem.one g_2 (.cells [.int .i64 0, .slice none 0 0, .int .i64 0].toArray 27 (0, 0)), M_11] Z := hS''
    clear hS' hS''
    obtain ⟨t_13, et_13, H⟩ := Option.bind_eq_some_iff.1 H
    refine s_call hm rfl Try.call44 rfl (hocketref4_bad.calls 1 t_13 w0 _ _ _ (Mem.le.refl _) (hS.enter [] (by decide))  et_13) ?_
    rintro _ w_14 ⟨v_17, N_15, M_19, rfl, hS', hr_18⟩
    clear hm a; intro a hm
    obtain ⟨N_16, hS'', le_16, ln_16⟩ := hS.call [] (by decide) rfl (l' := []) (ow := [M_19]) rfl hS'
    replace hS : Sep w0 w_14 [N_16, Mem.one g_2 (.cells [.int .i64 0, .slice none 0 0, .int .i64 0].toArray 27 (0, 0)), M_11, M_19] Z := hS''
    clear hS' hS''
    refine s_assign hm rfl rfl ?_
    clear hm a; intro a hm
    obtain ⟨w_21, hs', hS'⟩ := hS.store (P := Try.prog) (p := 1) (o := 0) (t := 27) (v := .agg [.int .i64 t_13.Err, v_17, .int .i64 t_13.N].toArray) (vs := [.int .i64 t_13.Err, v_17, .int .i64 t_13.N]) rfl ti27 rfl rfl rfl (by intro u hu; simp only [List.mem_cons, List.not_mem_nil, or_false] at hu; rcases hu with rfl | rfl | rfl <;> first | rfl | exact hr_18.one)
    refine s_store hm rfl rfl hs' ?_
    replace hS : Sep w0 w_21 [N_16, Mem.one g_2 (.cells [.int .i64 t_13.Err, v_17, .int .i64 t_13.N].toArray 27 (0, 0)), M_11, M_19] Z := hS'
    clear hs' hS'
    refine wpList_nil ?_
    replace hm : Fr 15 a [(1, p1_1), (4, v_9), (5, .pointer (some ⟨g_2, 0, none⟩))] := hm.keep [1, 4, 5]
    refine x_then_n ?_
    refine wp_ret (x_then_r ?_)
    obtain rfl := Option.some.inj H
    exact f_ret hm (rs := [.tmp 4, .cell 5 27]) rfl (.tmp rfl (.cell rfl (hS.load_agg (p := 1) (us := [.int .i64 t_13.Err, v_17, .int .i64 t_13.N]) rfl Try.underlying27 rfl ti27 rfl rfl) .nil)) ⟨_, rfl, v_9, v_17, N_16, M_11, M_19, rfl, (Sep.sel hS [0, 2, 3] (by decide)), hr_10, hr_18⟩
  · rw [if_neg hc_4] at H
    refine c_cond_f hm rfl (decide_eq_false hc_4) ?_
    refine wp_skip ?_
    refine x_then_n (hKJ_3 _ _ ?_)
    refine wp_seq ?_
    refine wp_region_lit ?_
    refine s_move hm rfl rfl ?_
    clear hm a; intro a hm
    obtain ⟨t_22, et_22, H⟩ := Option.bind_eq_some_iff.1 H
    refine s_call hm rfl Try.call43 rfl (hocketref4_own.calls x1 _ t_22 w0 _ _ _ (Mem.le.refl _) (hS.enter [] (by decide)) (hp1_1.mono (hA.trans (hS.le_zed []))) et_22) ?_
    rintro v_26 w_23 ⟨_, N_24, M_28, rfl, hS', hr_27⟩
    clear hm a; intro a hm
    obtain ⟨N_25, hS'', le_25, ln_25⟩ := hS.call [] (by decide) rfl (l' := []) (ow := [M_28]) rfl hS'
    replace hS : Sep w0 w_23 [N_25, Mem.one g_2 (.cells [.int .i64 0, .slice none 0 0, .int .i64 0].toArray 27 (0, 0)), M_28] Z := hS''
    clear hS' hS''
    refine s_build hm rfl ti27 pl27 rfl .nil (cs := [.int .i64 0, .slice none 0 0, .int .i64 0]) rfl ?_
    clear hm a; intro a hm
    refine s_assign hm rfl rfl ?_
    clear hm a; intro a hm
    obtain ⟨w_30, hs', hS'⟩ := hS.store (P := Try.prog) (p := 1) (o := 0) (t := 27) (v := .agg [.int .i64 0, .slice none 0 0, .int .i64 0].toArray) (vs := [.int .i64 0, .slice none 0 0, .int .i64 0]) rfl ti27 rfl rfl rfl (by intro u hu; simp only [List.mem_cons, List.not_mem_nil, or_false] at hu; rcases hu with rfl | rfl | rfl <;> rfl)
    refine s_store hm rfl rfl hs' ?_
    replace hS : Sep w0 w_30 [N_25, Mem.one g_2 (.cells [.int .i64 0, .slice none 0 0, .int .i64 0].toArray 27 (0, 0)), M_28] Z := hS'
    clear hs' hS'
    refine wpList_nil ?_
    replace hm : Fr 15 a [(4, v_26), (5, .pointer (some ⟨g_2, 0, none⟩))] := hm.keep [4, 5]
    refine x_then_n ?_
    refine wp_ret ?_
    have hS' := hS.room
    replace hS : Sep w0 w_30 [N_25, Mem.one g_2 (.cells [.int .i64 0, .slice none 0 0, .int .i64 0].toArray 27 (0, 0)), M_28, Mem.no] Z := hS'
    clear hS'
    replace hS : Sep w0 w_30 [N_25, Mem.one g_2 (.cells [.int .i64 0, .slice none 0 0, .int .i64 0].toArray 27 (0, 0)), M_28, Mem.no] Z := hS
    obtain rfl := Option.some.inj H
    exact f_ret hm (rs := [.tmp 4, .cell 5 27]) rfl (.tmp rfl (.cell rfl (hS.load_agg (p := 1) (us := [.int .i64 0, .slice none 0 0, .int .i64 0]) rfl Try.underlying27 rfl ti27 rfl rfl) .nil)) ⟨_, rfl, v_26, .slice none 0 0, N_25, M_28, Mem.no, rfl, (Sep.sel hS [0, 2, 3] (by decide)), hr_27, (Own.nil Kd.u8 5 Mem.no)⟩

set_option maxHeartbeats 4000000 in
set_option maxRecDepth 20000 in
theorem hocketref4_Cas.calls (x0 : List UInt8) (p0_0 : Value) (x1 : List UInt8) (p1_1 : Value) (x2 : List UInt8) (p2_2 : Value) (r : (List UInt8) × api_Result) (w0 w : World) (Z A : Mem) (hA : A.le Z) (hS : Sep w0 w [] Z) (hp0_0 : Rd Kd.u8 A p0_0 x0) (hp1_1 : Rd Kd.u8 A p1_1 x1) (hp2_2 : Rd Kd.u8 A p2_2 x2)
    (H : hocketref4_Cas.f x0 x1 x2 = some r) :
    Calls Try.prog 18 [p0_0, p1_1, p2_2].toArray w (Ret fun v w' => ∃ (u0 : Value) (u1 : Value) (N : Mem) (M0 : Mem) (M1 : Mem), v = .tuple [u0, .agg [.int .i64 r.2.Err, u1, .int .i64 r.2.N].toArray].toArray ∧ Sep w0 w' [N, M0, M1] Z ∧ Own Kd.u8 5 M0 Mem.no u0 r.1 ∧ Own Kd.u8 5 M1 Mem.no u1 r.2.Val) := by
  unfold hocketref4_Cas.f at H
  refine f_enter _ Try.func18 rfl Try.ntmps18 rfl fun a hm => ?_
  replace hm : Fr 27 a [(0, p0_0), (1, p1_1), (2, p2_2)] := hm
  replace hS := hS.start
  replace hS : Sep w0 w [Mem.no] Z := hS
  refine wp_seq ?_
  refine wp_region_lit ?_
  refine s_assign hm rfl rfl ?_
  clear hm a; intro a hm
  refine v_alloc hm rfl ti27 hS ?_
  intro w_1 g_2 hS'
  clear hm a; intro a hm
  replace hS : Sep w0 w_1 [Mem.no, Mem.one g_2 (.cells [.int .i64 0, .slice none 0 0, .int .i64 0].toArray 27 (0, 0))] Z := hS'
  clear hS'
  refine wpList_nil ?_
  replace hm : Fr 27 a [(0, p0_0), (1, p1_1), (2, p2_2), (6, .slice none 0 0), (7, .pointer (some ⟨g_2, 0, none⟩))] := hm.keep [0, 1, 2, 6, 7]
  refine x_then_n ?_
  refine c_seq fun KJ_3 hKJ_3 => ?_
  refine wp_seq ?_
  refine wp_region_lit ?_
  refine s_move hm rfl rfl ?_
  clear hm a; intro a hm
  refine s_len hm rfl Try.underlying25 rfl hp2_2 ?_
  clear hm a; intro a hm
  refine s_cmp (b := decide ((x2.length : Int) > 16)) hm rfl rfl rfl (.inr (.inr (.inr (.inr (.inl ⟨rfl, rfl⟩))))) ?_
  clear hm a; intro a hm
  refine wpList_nil ?_
  replace hm : Fr 27 a [(0, p0_0), (1, p1_1), (2, p2_2), (6, .slice none 0 0), (7, .pointer (some ⟨g_2, 0, none⟩)), (10, .bool (decide ((x2.length : Int) > 16)))] := hm.keep [0, 1, 2, 6, 7, 10]
  refine x_then_n ?_
  by_cases hc_4 : (x2.length : Int) > 16
  · rw [if_pos hc_4] at H
    refine c_cond_t hm rfl (decide_eq_true hc_4) ?_
    refine wp_seq ?_
    refine wp_region_lit ?_
    refine s_move hm rfl rfl ?_
    clear hm a; intro a hm
    obtain ⟨t_5, et_5, H⟩ := Option.bind_eq_some_iff.1 H
    refine s_call hm rfl Try.call43 rfl (hocketref4_own.calls x0 _ t_5 w0 _ _ _ (Mem.le.refl _) (hS.enter [] (by decide)) (hp0_0.mono (hA.trans (hS.le_zed []))) et_5) ?_
    rintro v_9 w_6 ⟨_, N_7, M_11, rfl, hS', hr_10⟩
    clear hm a; intro a hm
    obtain ⟨N_8, hS'', le_8, ln_8⟩ := hS.call [] (by decide) rfl (l' := []) (ow := [M_11]) rfl hS'
    replace hS : Sep w0 w_6 [N_8, Mem.one g_2 (.cells [.int .i64 0, .slice none 0 0, .int .i64 0].toArray 27 (0, 0)), M_11] Z := hS''
    clear hS' hS''
    obtain ⟨t_13, et_13, H⟩ := Option.bind_eq_some_iff.1 H
    refine s_call hm rfl Try.call44 rfl (hocketref4_bad.calls 1 t_13 w0 _ _ _ (Mem.le.refl _) (hS.enter [] (by decide))  et_13) ?_
    rintro _ w_14 ⟨v_17, N_15, M_19, rfl, hS', hr_18⟩
    clear hm a; intro a hm
    obtain ⟨N_16, hS'', le_16, ln_16⟩ := hS.call [] (by decide) rfl (l' := []) (ow := [M_19]) rfl hS'
    replace hS : Sep w0 w_14 [N_16, Mem.one g_2 (.cells [.int .i64 0, .slice none 0 0, .int .i64 0].toArray 27 (0, 0)), M_11, M_19] Z := hS''
    clear hS' hS''
    refine s_assign hm rfl rfl ?_
    clear hm a; intro a hm
    obtain ⟨w_21, hs', hS'⟩ := hS.store (P := Try.prog) (p := 1) (o := 0) (t := 27) (v := .agg [.int .i64 t_13.Err, v_17, .int .i64 t_13.N].toArray) (vs := [.int .i64 t_13.Err, v_17, .int .i64 t_13.N]) rfl ti27 rfl rfl rfl (by intro u hu; simp only [List.mem_cons, List.not_mem_nil, or_false] at hu; rcases hu with rfl | rfl | rfl <;> first | rfl | exact hr_18.one)
    refine s_store hm rfl rfl hs' ?_
    replace hS : Sep w0 w_21 [N_16, Mem.one g_2 (.cells [.int .i64 t_13.Err, v_17, .int .i64 t_13.N].toArray 27 (0, 0)), M_11, M_19] Z := hS'
    clear hs' hS'
    refine wpList_nil ?_
    replace hm : Fr 27 a [(0, p0_0), (1, p1_1), (2, p2_2), (6, v_9), (7, .pointer (some ⟨g_2, 0, none⟩))] := hm.keep [0, 1, 2, 6, 7]
    refine x_then_n ?_
    refine wp_ret (x_then_r ?_)
    obtain rfl := Option.some.inj H
    exact f_ret hm (rs := [.tmp 6, .cell 7 27]) rfl (.tmp rfl (.cell rfl (hS.load_agg (p := 1) (us := [.int .i64 t_13.Err, v_17, .int .i64 t_13.N]) rfl Try.underlying27 rfl ti27 rfl rfl) .nil)) ⟨_, rfl, v_9, v_17, N_16, M_11, M_19, rfl, (Sep.sel hS [0, 2, 3] (by decide)), hr_10, hr_18⟩
  · rw [if_neg hc_4] at H
    refine c_cond_f hm rfl (decide_eq_false hc_4) ?_
    refine wp_skip ?_
    refine x_then_n (hKJ_3 _ _ ?_)
    refine c_seq fun KJ_22 hKJ_22 => ?_
    refine wp_seq ?_
    refine wp_region_lit ?_
    refine s_move hm rfl rfl ?_
    clear hm a; intro a hm
    refine s_b2s hm rfl Try.underlying25 Try.underlying5 Try.underlying9 rfl hp0_0 (hA.trans hS.old) ?_
    clear hm a; intro a hm
    refine s_move hm rfl rfl ?_
    clear hm a; intro a hm
    refine s_b2s hm rfl Try.underlying25 Try.underlying5 Try.underlying9 rfl hp1_1 (hA.trans hS.old) ?_
    clear hm a; intro a hm
    refine s_strEq (b := !(x0 == x1)) hm rfl rfl rfl (.inr ⟨rfl, rfl⟩) ?_
    clear hm a; intro a hm
    refine wpList_nil ?_
    replace hm : Fr 27 a [(0, p0_0), (2, p2_2), (6, .slice none 0 0), (7, .pointer (some ⟨g_2, 0, none⟩)), (18, .bool (!(x0 == x1)))] := hm.keep [0, 2, 6, 7, 18]
    refine x_then_n ?_
    by_cases hc_23 : x0 = x1
    · rw [if_pos hc_23] at H
      refine c_cond_f hm rfl (nf (beq_iff_eq.2 hc_23)) ?_
      refine wp_skip ?_
      refine x_then_n (hKJ_22 _ _ ?_)
      refine wp_seq ?_
      refine wp_region_lit ?_
      refine s_move hm rfl rfl ?_
      clear hm a; intro a hm
      obtain ⟨t_24, et_24, H⟩ := Option.bind_eq_some_iff.1 H
      refine s_call hm rfl Try.call43 rfl (hocketref4_own.calls x2 _ t_24 w0 _ _ _ (Mem.le.refl _) (hS.enter [] (by decide)) (hp2_2.mono (hA.trans (hS.le_zed []))) et_24) ?_
      rintro v_28 w_25 ⟨_, N_26, M_30, rfl, hS', hr_29⟩
      clear hm a; intro a hm
      obtain ⟨N_27, hS'', le_27, ln_27⟩ := hS.call [] (by decide) rfl (l' := []) (ow := [M_30]) rfl hS'
      replace hS : Sep w0 w_25 [N_27, Mem.one g_2 (.cells [.int .i64 0, .slice none 0 0, .int .i64 0].toArray 27 (0, 0)), M_30] Z := hS''
      clear hS' hS''
      refine s_build hm rfl ti27 pl27 rfl .nil (cs := [.int .i64 0, .slice none 0 0, .int .i64 0]) rfl ?_
      clear hm a; intro a hm
      refine s_assign hm rfl rfl ?_
      clear hm a; intro a hm
      obtain ⟨w_32, hs', hS'⟩ := hS.store (P := Try.prog) (p := 1) (o := 0) (t := 27) (v := .agg [.int .i64 0, .slice none 0 0, .int .i64 0].toArray) (vs := [.int .i64 0, .slice none 0 0, .int .i64 0]) rfl ti27 rfl rfl rfl (by intro u hu; simp only [List.mem_cons, List.not_mem_nil, or_false] at hu; rcases hu with rfl | rfl | rfl <;> rfl)
      refine s_store hm rfl rfl hs' ?_
      replace hS : Sep w0 w_32 [N_27, Mem.one g_2 (.cells [.int .i64 0, .slice none 0 0, .int .i64 0].toArray 27 (0, 0)), M_30] Z := hS'
      clear hs' hS'
      refine wpList_nil ?_
      replace hm : Fr 27 a [(6, v_28), (7, .pointer (some ⟨g_2, 0, none⟩))] := hm.keep [6, 7]
      refine x_then_n ?_
      refine wp_ret ?_
      have hS' := hS.room
      replace hS : Sep w0 w_32 [N_27, Mem.one g_2 (.cells [.int .i64 0, .slice none 0 0, .int .i64 0].toArray 27 (0, 0)), M_30, Mem.no] Z := hS'
      clear hS'
      replace hS : Sep w0 w_32 [N_27, Mem.one g_2 (.cells [.int .i64 0, .slice none 0 0, .int .i64 0].toArray 27 (0, 0)), M_30, Mem.no] Z := hS
      obtain rfl := Option.some.inj H
      exact f_ret hm (rs := [.tmp 6, .cell 7 27]) rfl (.tmp rfl (.cell rfl (hS.load_agg (p := 1) (us := [.int .i64 0, .slice none 0 0, .int .i64 0]) rfl Try.underlying27 rfl ti27 rfl rfl) .nil)) ⟨_, rfl, v_28, .slice none 0 0, N_27, M_30, Mem.no, rfl, (Sep.sel hS [0, 2, 3] (by decide)), hr_29, (Own.nil Kd.u8 5 Mem.no)⟩
    · rw [if_neg hc_23] at H
      refine c_cond_t hm rfl (nt (beq_eq_false_iff_ne.2 hc_23)) ?_
      refine wp_seq ?_
      refine wp_region_lit ?_
      refine s_move hm rfl rfl ?_
      clear hm a; intro a hm
      obtain ⟨t_34, et_34, H⟩ := Option.bind_eq_some_iff.1 H
      refine s_call hm rfl Try.call43 rfl (hocketref4_own.calls x0 _ t_34 w0 _ _ _ (Mem.le.refl _) (hS.enter [] (by decide)) (hp0_0.mono (hA.trans (hS.le_zed []))) et_34) ?_
      rintro v_38 w_35 ⟨_, N_36, M_40, rfl, hS', hr_39⟩
      clear hm a; intro a hm
      obtain ⟨N_37, hS'', le_37, ln_37⟩ := hS.call [] (by decide) rfl (l' := []) (ow := [M_40]) rfl hS'
      replace hS : Sep w0 w_35 [N_37, Mem.one g_2 (.cells [.int .i64 0, .slice none 0 0, .int .i64 0].toArray 27 (0, 0)), M_40] Z := hS''
      clear hS' hS''
      refine s_move hm rfl rfl ?_
      clear hm a; intro a hm
      obtain ⟨t_42, et_42, H⟩ := Option.bind_eq_some_iff.1 H
      refine s_call hm rfl Try.call43 rfl (hocketref4_own.calls x0 _ t_42 w0 _ _ _ (Mem.le.refl _) (hS.enter [] (by decide)) (hp0_0.mono (hA.trans (hS.le_zed []))) et_42) ?_
      rintro v_46 w_43 ⟨_, N_44, M_48, rfl, hS', hr_47⟩
      clear hm a; intro a hm
      obtain ⟨N_45, hS'', le_45, ln_45⟩ := hS.call [] (by decide) rfl (l' := []) (ow := [M_48]) rfl hS'
      replace hS : Sep w0 w_43 [N_45, Mem.one g_2 (.cells [.int .i64 0, .slice none 0 0, .int .i64 0].toArray 27 (0, 0)), M_40, M_48] Z := hS''
      clear hS' hS''
      refine s_build hm rfl ti27 pl27 rfl (.cons rfl (.cons hr_47.cells .nil)) (cs := [.int .i64 2, v_46, .int .i64 0]) rfl ?_
      clear hm a; intro a hm
      refine s_assign hm rfl rfl ?_
      clear hm a; intro a hm
      obtain ⟨w_50, hs', hS'⟩ := hS.store (P := Try.prog) (p := 1) (o := 0) (t := 27) (v := .agg [.int .i64 2, v_46, .int .i64 0].toArray) (vs := [.int .i64 2, v_46, .int .i64 0]) rfl ti27 rfl rfl rfl (by intro u hu; simp only [List.mem_cons, List.not_mem_nil, or_false] at hu; rcases hu with rfl | rfl | rfl <;> first | rfl | exact hr_47.one)
      refine s_store hm rfl rfl hs' ?_
      replace hS : Sep w0 w_50 [N_45, Mem.one g_2 (.cells [.int .i64 2, v_46, .int .i64 0].toArray 27 (0, 0)), M_40, M_48] Z := hS'
      clear hs' hS'
      refine wpList_nil ?_
      replace hm : Fr 27 a [(2, p2_2), (6, v_38), (7, .pointer (some ⟨g_2, 0, none⟩))] := hm.keep [2, 6, 7]
      refine x_then_n ?_
      refine wp_ret (x_then_r ?_)
      obtain rfl := Option.some.inj H
      exact f_ret hm (rs := [.tmp 6, .cell 7 27]) rfl (.tmp rfl (.cell rfl (hS.load_agg (p := 1) (us := [.int .i64 2, v_46, .int .i64 0]) rfl Try.underlying27 rfl ti27 rfl rfl) .nil)) ⟨_, rfl, v_38, v_46, N_45, M_40, M_48, rfl, (Sep.sel hS [0, 2, 3] (by decide)), hr_39, hr_47⟩

set_option maxHeartbeats 4000000 in
set_option maxRecDepth 20000 in
theorem hocketref4_SameResult.calls (x0 : api_Result) (p0_0 : Value) (x1 : api_Result) (p1_1 : Value) (r : Bool) (w0 w : World) (Z A : Mem) (hA : A.le Z) (hS : Sep w0 w [] Z) (hp0_0 : Rd Kd.u8 A p0_0 x0.Val) (hp1_1 : Rd Kd.u8 A p1_1 x1.Val)
    (H : hocketref4_SameResult.f x0 x1 = some r) :
    Calls Try.prog 19 [.agg [.int .i64 x0.Err, p0_0, .int .i64 x0.N].toArray, .agg [.int .i64 x1.Err, p1_1, .int .i64 x1.N].toArray].toArray w (Ret fun v w' => ∃ (N : Mem), v = .bool r ∧ Sep w0 w' [N] Z) := by
  unfold hocketref4_SameResult.f at H
  refine f_enter _ Try.func19 rfl Try.ntmps19 rfl fun a hm => ?_
  replace hm : Fr 26 a [(0, .agg [.int .i64 x0.Err, p0_0, .int .i64 x0.N].toArray), (1, .agg [.int .i64 x1.Err, p1_1, .int .i64 x1.N].toArray)] := hm
  replace hS := hS.start
  replace hS : Sep w0 w [Mem.no] Z := hS
  refine wp_seq ?_
  refine wp_region_lit ?_
  refine v_box (vs := [.int .i64 x0.Err, p0_0, .int .i64 x0.N]) hm rfl rfl rfl hS ?_
  intro w_1 g_2 hS'
  clear hm a; intro a hm
  replace hS : Sep w0 w_1 [Mem.no, Mem.one g_2 (.cells [.int .i64 x0.Err, p0_0, .int .i64 x0.N].toArray 27 (0, 0))] Z := hS'
  clear hS'
  refine v_box (vs := [.int .i64 x1.Err, p1_1, .int .i64 x1.N]) hm rfl rfl rfl hS ?_
  intro w_3 g_4 hS'
  clear hm a; intro a hm
  replace hS : Sep w0 w_3 [Mem.no, Mem.one g_2 (.cells [.int .i64 x0.Err, p0_0, .int .i64 x0.N].toArray 27 (0, 0)), Mem.one g_4 (.cells [.int .i64 x1.Err, p1_1, .int .i64 x1.N].toArray 27 (0, 0))] Z := hS'
  clear hS'
  refine s_assign hm rfl rfl ?_
  clear hm a; intro a hm
  refine wpList_nil ?_
  replace hm : Fr 26 a [(2, .pointer (some ⟨g_2, 0, none⟩)), (3, .pointer (some ⟨g_4, 0, none⟩)), (4, .bool false)] := hm.keep [2, 3, 4]
  refine x_then_n ?_
  refine c_seq fun KJ_5 hKJ_5 => ?_
  refine wp_region_lit ?_
  refine s_fieldAddr hm rfl Try.underlying27 rfl ti22 rfl rfl ?_
  clear hm a; intro a hm
  refine s_load hm rfl rfl (hS.load_one (p := 1) rfl Try.underlying22 rfl rfl) ?_
  clear hm a; intro a hm
  refine s_fieldAddr hm rfl Try.underlying27 rfl ti22 rfl rfl ?_
  clear hm a; intro a hm
  refine s_load hm rfl rfl (hS.load_one (p := 2) rfl Try.underlying22 rfl rfl) ?_
  clear hm a; intro a hm
  refine s_cmp (b := (x0.Err == x1.Err)) hm rfl rfl rfl (.inl ⟨rfl, rfl⟩) ?_
  clear hm a; intro a hm
  refine s_move hm rfl rfl ?_
  clear hm a; intro a hm
  by_cases hc_6 : x0.Err = x1.Err
  · rw [if_pos hc_6] at H
    refine s_on hm rfl rfl (beq_iff_eq.2 hc_6) ?_
    refine s_fieldAddr hm rfl Try.underlying27 rfl ti25 rfl rfl ?_
    clear hm a; intro a hm
    refine s_on hm rfl rfl (beq_iff_eq.2 hc_6) ?_
    refine s_load hm rfl rfl (hS.load_one (p := 1) rfl Try.underlying25 rfl rfl) ?_
    clear hm a; intro a hm
    refine s_on hm rfl rfl (beq_iff_eq.2 hc_6) ?_
    refine s_b2s hm rfl Try.underlying25 Try.underlying5 Try.underlying9 rfl hp0_0 (hA.trans hS.old) ?_
    clear hm a; intro a hm
    refine s_on hm rfl rfl (beq_iff_eq.2 hc_6) ?_
    refine s_fieldAddr hm rfl Try.underlying27 rfl ti25 rfl rfl ?_
    clear hm a; intro a hm
    refine s_on hm rfl rfl (beq_iff_eq.2 hc_6) ?_
    refine s_load hm rfl rfl (hS.load_one (p := 2) rfl Try.underlying25 rfl rfl) ?_
    clear hm a; intro a hm
    refine s_on hm rfl rfl (beq_iff_eq.2 hc_6) ?_
    refine s_b2s hm rfl Try.underlying25 Try.underlying5 Try.underlying9 rfl hp1_1 (hA.trans hS.old) ?_
    clear hm a; intro a hm
    refine s_on hm rfl rfl (beq_iff_eq.2 hc_6) ?_
    refine s_strEq (b := (x0.Val == x1.Val)) hm rfl rfl rfl (.inl ⟨rfl, rfl⟩) ?_
    clear hm a; intro a hm
    refine s_pick_t hm rfl rfl (beq_iff_eq.2 hc_6) rfl ?_
    clear hm a; intro a hm
    refine s_move hm rfl rfl ?_
    clear hm a; intro a hm
    by_cases hc_7 : x0.Val = x1.Val
    · rw [if_pos hc_7] at H
      refine s_on hm rfl rfl (beq_iff_eq.2 hc_7) ?_
      refine s_fieldAddr hm rfl Try.underlying27 rfl ti3 rfl rfl ?_
      clear hm a; intro a hm
      refine s_on hm rfl rfl (beq_iff_eq.2 hc_7) ?_
      refine s_load hm rfl rfl (hS.load_one (p := 1) rfl Try.underlying3 rfl rfl) ?_
      clear hm a; intro a hm
      refine s_on hm rfl rfl (beq_iff_eq.2 hc_7) ?_
      refine s_fieldAddr hm rfl Try.underlying27 rfl ti3 rfl rfl ?_
      clear hm a; intro a hm
      refine s_on hm rfl rfl (beq_iff_eq.2 hc_7) ?_
      refine s_load hm rfl rfl (hS.load_one (p := 2) rfl Try.underlying3 rfl rfl) ?_
      clear hm a; intro a hm
      refine s_on hm rfl rfl (beq_iff_eq.2 hc_7) ?_
      refine s_cmp (b := (x0.N == x1.N)) hm rfl rfl rfl (.inl ⟨rfl, rfl⟩) ?_
      clear hm a; intro a hm
      refine s_pick_t hm rfl rfl (beq_iff_eq.2 hc_7) rfl ?_
      clear hm a; intro a hm
      refine s_assign hm rfl rfl ?_
      clear hm a; intro a hm
      refine wpList_nil ?_
      replace hm : Fr 26 a [(4, .bool (x0.N == x1.N))] := hm.keep [4]
      refine x_then_n (hKJ_5 _ _ ?_)
      refine wp_ret ?_
      obtain rfl := Option.some.inj H
      exact f_ret hm (rs := [.tmp 4]) rfl (.tmp rfl .nil) ⟨_, rfl, Mem.no, rfl, (Sep.sel hS [0] (by decide))⟩
    · rw [if_neg hc_7] at H
      refine s_off hm rfl rfl rfl (beq_eq_false_iff_ne.2 hc_7) ?_
      clear hm a; intro a hm
      refine s_off hm rfl rfl rfl (beq_eq_false_iff_ne.2 hc_7) ?_
      clear hm a; intro a hm
      refine s_off hm rfl rfl rfl (beq_eq_false_iff_ne.2 hc_7) ?_
      clear hm a; intro a hm
      refine s_off hm rfl rfl rfl (beq_eq_false_iff_ne.2 hc_7) ?_
      clear hm a; intro a hm
      refine s_off hm rfl rfl rfl (beq_eq_false_iff_ne.2 hc_7) ?_
      clear hm a; intro a hm
      refine s_pick_f hm rfl rfl (beq_eq_false_iff_ne.2 hc_7) rfl ?_
      clear hm a; intro a hm
      refine s_assign hm rfl rfl ?_
      clear hm a; intro a hm
      refine wpList_nil ?_
      replace hm : Fr 26 a [(4, .bool false)] := hm.keep [4]
      refine x_then_n (hKJ_5 _ _ ?_)
      refine wp_ret ?_
      obtain rfl := Option.some.inj H
      exact f_ret hm (rs := [.tmp 4]) rfl (.tmp rfl .nil) ⟨_, rfl, Mem.no, rfl, (Sep.sel hS [0] (by decide))⟩
  · rw [if_neg hc_6] at H
    refine s_off hm rfl rfl rfl (beq_eq_false_iff_ne.2 hc_6) ?_
    clear hm a; intro a hm
    refine s_off hm rfl rfl rfl (beq_eq_false_iff_ne.2 hc_6) ?_
    clear hm a; intro a hm
    refine s_off hm rfl rfl rfl (beq_eq_false_iff_ne.2 hc_6) ?_
    clear hm a; intro a hm
    refine s_off hm rfl rfl rfl (beq_eq_false_iff_ne.2 hc_6) ?_
    clear hm a; intro a hm
    refine s_off hm rfl rfl rfl (beq_eq_false_iff_ne.2 hc_6) ?_
    clear hm a; intro a hm
    refine s_off hm rfl rfl rfl (beq_eq_false_iff_ne.2 hc_6) ?_
    clear hm a; intro a hm
    refine s_off hm rfl rfl rfl (beq_eq_false_iff_ne.2 hc_6) ?_
    clear hm a; intro a hm
    refine s_pick_f hm rfl rfl (beq_eq_false_iff_ne.2 hc_6) rfl ?_
    clear hm a; intro a hm
    refine s_move hm rfl rfl ?_
    clear hm a; intro a hm
    refine s_off hm rfl rfl rfl rfl ?_
    clear hm a; intro a hm
    refine s_off hm rfl rfl rfl rfl ?_
    clear hm a; intro a hm
    refine s_off hm rfl rfl rfl rfl ?_
    clear hm a; intro a hm
    refine s_off hm rfl rfl rfl rfl ?_
    clear hm a; intro a hm
    refine s_off hm rfl rfl rfl rfl ?_
    clear hm a; intro a hm
    refine s_pick_f hm rfl rfl rfl rfl ?_
    clear hm a; intro a hm
    refine s_assign hm rfl rfl ?_
    clear hm a; intro a hm
    refine wpList_nil ?_
    replace hm : Fr 26 a [(4, .bool false)] := hm.keep [4]
    refine x_then_n (hKJ_5 _ _ ?_)
    refine wp_ret ?_
    obtain rfl := Option.some.inj H
    exact f_ret hm (rs := [.tmp 4]) rfl (.tmp rfl .nil) ⟨_, rfl, Mem.no, rfl, (Sep.sel hS [0] (by decide))⟩

set_option maxHeartbeats 4000000 in
set_option maxRecDepth 20000 in
theorem hocketref4_Read.calls (x0 : List UInt8) (p0_0 : Value) (r : api_Result) (w0 w : World) (Z A : Mem) (hA : A.le Z) (hS : Sep w0 w [] Z) (hp0_0 : Rd Kd.u8 A p0_0 x0)
    (H : hocketref4_Read.f x0 = some r) :
    Calls Try.prog 21 [p0_0].toArray w (Ret fun v w' => ∃ (u0 : Value) (N : Mem) (M0 : Mem), v = .agg [.int .i64 r.Err, u0, .int .i64 r.N].toArray ∧ Sep w0 w' [N, M0] Z ∧ Own Kd.u8 5 M0 Mem.no u0 r.Val) := by
  unfold hocketref4_Read.f at H
  refine f_enter _ Try.func21 rfl Try.ntmps21 rfl fun a hm => ?_
  replace hm : Fr 6 a [(0, p0_0)] := hm
  replace hS := hS.start
  replace hS : Sep w0 w [Mem.no] Z := hS
  refine wp_seq ?_
  refine wp_region_lit ?_
  refine v_alloc hm rfl ti27 hS ?_
  intro w_1 g_2 hS'
  clear hm a; intro a hm
  replace hS : Sep w0 w_1 [Mem.no, Mem.one g_2 (.cells [.int .i64 0, .slice none 0 0, .int .i64 0].toArray 27 (0, 0))] Z := hS'
  clear hS'
  refine wpList_nil ?_
  replace hm : Fr 6 a [(0, p0_0), (2, .pointer (some ⟨g_2, 0, none⟩))] := hm.keep [0, 2]
  refine x_then_n ?_
  refine wp_seq ?_
  refine wp_region_lit ?_
  refine s_move hm rfl rfl ?_
  clear hm a; intro a hm
  obtain ⟨t_3, et_3, H⟩ := Option.bind_eq_some_iff.1 H
  refine s_call hm rfl Try.call43 rfl (hocketref4_own.calls x0 _ t_3 w0 _ _ _ (Mem.le.refl _) (hS.enter [] (by decide)) (hp0_0.mono (hA.trans (hS.le_zed []))) et_3) ?_
  rintro v_7 w_4 ⟨_, N_5, M_9, rfl, hS', hr_8⟩
  clear hm a; intro a hm
  obtain ⟨N_6, hS'', le_6, ln_6⟩ := hS.call [] (by decide) rfl (l' := []) (ow := [M_9]) rfl hS'
  replace hS : Sep w0 w_4 [N_6, Mem.one g_2 (.cells [.int .i64 0, .slice none 0 0, .int .i64 0].toArray 27 (0, 0)), M_9] Z := hS''
  clear hS' hS''
  refine s_build hm rfl ti27 pl27 rfl (.cons hr_8.cells .nil) (cs := [.int .i64 0, v_7, .int .i64 0]) rfl ?_
  clear hm a; intro a hm
  obtain ⟨w_11, hs', hS'⟩ := hS.store (P := Try.prog) (p := 1) (o := 0) (t := 27) (v := .agg [.int .i64 0, v_7, .int .i64 0].toArray) (vs := [.int .i64 0, v_7, .int .i64 0]) rfl ti27 rfl rfl rfl (by intro u hu; simp only [List.mem_cons, List.not_mem_nil, or_false] at hu; rcases hu with rfl | rfl | rfl <;> first | rfl | exact hr_8.one)
  refine s_store hm rfl rfl hs' ?_
  replace hS : Sep w0 w_11 [N_6, Mem.one g_2 (.cells [.int .i64 0, v_7, .int .i64 0].toArray 27 (0, 0)), M_9] Z := hS'
  clear hs' hS'
  refine wpList_nil ?_
  replace hm : Fr 6 a [(2, .pointer (some ⟨g_2, 0, none⟩))] := hm.keep [2]
  refine x_then_n ?_
  refine wp_ret ?_
  obtain rfl := Option.some.inj H
  exact f_ret hm (rs := [.cell 2 27]) rfl (.cell rfl (hS.load_agg (p := 1) (us := [.int .i64 0, v_7, .int .i64 0]) rfl Try.underlying27 rfl ti27 rfl rfl) .nil) ⟨_, rfl, v_7, N_6, M_9, rfl, (Sep.sel hS [0, 2] (by decide)), hr_8⟩

set_option maxHeartbeats 4000000 in
set_option maxRecDepth 20000 in
theorem hocketlaw4_RegsTells.calls (x0 : List UInt8) (p0_0 : Value) (x1 : List UInt8) (p1_1 : Value) (x2 : List UInt8) (p2_2 : Value) (x3 : Bool) (r : Unit) (w0 w : World) (Z A : Mem) (hA : A.le Z) (hS : Sep w0 w [] Z) (hp0_0 : Rd Kd.u8 A p0_0 x0) (hp1_1 : Rd Kd.u8 A p1_1 x1) (hp2_2 : Rd Kd.u8 A p2_2 x2)
    (H : hocketlaw4_RegsTells.f x0 x1 x2 x3 = some r) :
    Calls Try.prog 4 [p0_0, p1_1, p2_2, .bool x3].toArray w (Ret fun v w' => ∃ (N : Mem), v = .bool true ∧ Sep w0 w' [N] Z) := by
  unfold hocketlaw4_RegsTells.f at H
  refine f_enter _ Try.func4 rfl Try.ntmps4 rfl fun a hm => ?_
  replace hm : Fr 93 a [(0, p0_0), (1, p1_1), (2, p2_2), (3, .bool x3)] := hm
  replace hS := hS.start
  replace hS : Sep w0 w [Mem.no] Z := hS
  refine wp_seq ?_
  refine wp_region_lit ?_
  refine s_assign hm rfl rfl ?_
  clear hm a; intro a hm
  refine wpList_nil ?_
  replace hm : Fr 93 a [(0, p0_0), (1, p1_1), (2, p2_2), (3, .bool x3), (8, .bool false)] := hm.keep [0, 1, 2, 3, 8]
  refine x_then_n ?_
  refine c_seq fun KJ_1 hKJ_1 => ?_
  refine c_seq fun KJ_2 hKJ_2 => ?_
  have hJ_j_6 : ∀ (x_4 : Bool), hocketlaw4_RegsTells.j_6 x3 x0 x2 x1 x_4 = some r → ∀ (a : Act) (w_5 : World), (∃ (N_3 : Mem), Fr 93 a [(0, p0_0), (1, p1_1), (2, p2_2), (3, .bool x3), (8, .bool false), (29, .bool x_4)] ∧ Sep w0 w_5 [N_3] Z ∧ Mem.no.le N_3) → KJ_2 a w_5 := by
    clear H hm hS a
    rintro x_4 H a w_5 ⟨N_3, hm, hS, le_3⟩
    unfold hocketlaw4_RegsTells.j_6 at H
    refine hKJ_2 _ _ ?_
    by_cases hc_7 : x_4 = true
    · rw [if_pos hc_7] at H
      refine c_cond_t hm rfl hc_7 ?_
      refine wp_seq ?_
      refine wp_region_lit ?_
      obtain ⟨t_8, et_8, H⟩ := Option.bind_eq_some_iff.1 H
      refine s_call hm rfl Try.call16 rfl (hocketlaw4_awake.calls  t_8 w0 _ _ _ (Mem.le.refl _) (hS.enter [] (by decide))  et_8) ?_
      rintro _ w_9 ⟨N_10, rfl, hS'⟩
      clear hm a; intro a hm
      obtain ⟨N_11, hS'', le_11, ln_11⟩ := hS.call [] (by decide) rfl (l' := []) (ow := []) rfl hS'
      replace hS : Sep w0 w_9 [N_11] Z := hS''
      clear hS' hS''
      refine s_assign hm rfl rfl ?_
      clear hm a; intro a hm
      refine wpList_nil ?_
      replace hm : Fr 93 a [(0, p0_0), (1, p1_1), (2, p2_2), (3, .bool x3), (8, .bool true)] := hm.keep [0, 1, 2, 3, 8]
      refine x_then_n ?_
      refine wp_ret (x_then_r ?_)
      exact f_ret hm (rs := [.tmp 8]) rfl (.tmp rfl .nil) ⟨_, rfl, N_11, rfl, (Sep.sel hS [0] (by decide))⟩
    · rw [if_neg hc_7] at H
      refine c_cond_f hm rfl (Bool.eq_false_iff.2 hc_7) ?_
      refine wp_skip ?_
      refine x_then_n (hKJ_1 _ _ ?_)
      refine c_seq fun KJ_12 hKJ_12 => ?_
      refine wp_seq ?_
      refine wp_region_lit ?_
      refine s_move hm rfl rfl ?_
      clear hm a; intro a hm
      refine wpList_nil ?_
      replace hm : Fr 93 a [(0, p0_0), (1, p1_1), (2, p2_2), (8, .bool false), (31, .bool x3)] := hm.keep [0, 1, 2, 8, 31]
      refine x_then_n ?_
      have hJ_j_18 : ∀ (x_14 : List UInt8), hocketlaw4_RegsTells.j_18 x0 x2 x_14 = some r → ∀ (a : Act) (w_17 : World), (∃ (v_15 : Value) (N_13 : Mem), Fr 93 a [(0, p0_0), (1, v_15), (2, p2_2), (8, .bool false)] ∧ Sep w0 w_17 [N_13] Z ∧ N_3.le N_13 ∧ Rd Kd.u8 (A.un N_13) v_15 x_14) → KJ_12 a w_17 := by
        clear H hm hS a
        rintro x_14 H a w_17 ⟨v_15, N_13, hm, hS, le_13, hr_16⟩
        unfold hocketlaw4_RegsTells.j_18 at H
        refine hKJ_12 _ _ ?_
        refine wp_seq ?_
        refine wp_region_lit ?_
        refine s_move hm rfl rfl ?_
        clear hm a; intro a hm
        refine s_move hm rfl rfl ?_
        clear hm a; intro a hm
        obtain ⟨t_19, et_19, H⟩ := Option.bind_eq_some_iff.1 H
        refine s_call hm rfl Try.call15 rfl (regs_Write.calls x0 _ x2 _ t_19 w0 _ _ _ (Mem.le.refl _) (hS.enter [] (by decide)) (hp0_0.mono (hA.trans (hS.le_zed []))) (hp2_2.mono (hA.trans (hS.le_zed []))) et_19) ?_
        rintro _ w_20 ⟨v_23, v_27, N_21, M_25, M_29, rfl, hS', hr_24, hr_28⟩
        clear hm a; intro a hm
        obtain ⟨N_22, hS'', le_22, ln_22⟩ := hS.call [] (by decide) rfl (l' := []) (ow := [M_25, M_29]) rfl hS'
        replace hS : Sep w0 w_20 [N_22, M_25, M_29] Z := hS''
        clear hS' hS''
        refine s_move hm rfl rfl ?_
        clear hm a; intro a hm
        refine s_extract hm rfl rfl rfl ?_
        clear hm a; intro a hm
        refine s_extract hm rfl rfl rfl ?_
        clear hm a; intro a hm
        refine v_alloc hm rfl ti27 hS ?_
        intro w_31 g_32 hS'
        clear hm a; intro a hm
        replace hS : Sep w0 w_31 [N_22, M_25, M_29, Mem.one g_32 (.cells [.int .i64 0, .slice none 0 0, .int .i64 0].toArray 27 (0, 0))] Z := hS'
        clear hS'
        refine s_assign hm rfl rfl ?_
        clear hm a; intro a hm
        obtain ⟨w_33, hs', hS'⟩ := hS.store (P := Try.prog) (p := 3) (o := 0) (t := 27) (v := .agg [.int .i64 t_19.2.Err, v_27, .int .i64 t_19.2.N].toArray) (vs := [.int .i64 t_19.2.Err, v_27, .int .i64 t_19.2.N]) rfl ti27 rfl rfl rfl (by intro u hu; simp only [List.mem_cons, List.not_mem_nil, or_false] at hu; rcases hu with rfl | rfl | rfl <;> first | rfl | exact hr_28.one)
        refine s_store hm rfl rfl hs' ?_
        replace hS : Sep w0 w_33 [N_22, M_25, M_29, Mem.one g_32 (.cells [.int .i64 t_19.2.Err, v_27, .int .i64 t_19.2.N].toArray 27 (0, 0))] Z := hS'
        clear hs' hS'
        refine wpList_nil ?_
        replace hm : Fr 93 a [(0, p0_0), (1, v_15), (2, p2_2), (8, .bool false), (9, v_23), (10, .pointer (some ⟨g_32, 0, none⟩))] := hm.keep [0, 1, 2, 8, 9, 10]
        refine x_then_n ?_
        refine wp_seq ?_
        refine wp_region_lit ?_
        refine s_move hm rfl rfl ?_
        clear hm a; intro a hm
        refine s_move hm rfl rfl ?_
        clear hm a; intro a hm
        obtain ⟨t_34, et_34, H⟩ := Option.bind_eq_some_iff.1 H
        refine s_call hm rfl Try.call17 rfl (hocketref4_Write.calls x0 _ x2 _ t_34 w0 _ _ _ (Mem.le.refl _) (hS.enter [] (by decide)) (hp0_0.mono (hA.trans (hS.le_zed []))) (hp2_2.mono (hA.trans (hS.le_zed []))) et_34) ?_
        rintro _ w_35 ⟨v_38, v_42, N_36, M_40, M_44, rfl, hS', hr_39, hr_43⟩
        clear hm a; intro a hm
        obtain ⟨N_37, hS'', le_37, ln_37⟩ := hS.call [] (by decide) rfl (l' := []) (ow := [M_40, M_44]) rfl hS'
        replace hS : Sep w0 w_35 [N_37, M_25, M_29, Mem.one g_32 (.cells [.int .i64 t_19.2.Err, v_27, .int .i64 t_19.2.N].toArray 27 (0, 0)), M_40, M_44] Z := hS''
        clear hS' hS''
        refine s_move hm rfl rfl ?_
        clear hm a; intro a hm
        refine s_extract hm rfl rfl rfl ?_
        clear hm a; intro a hm
        refine s_extract hm rfl rfl rfl ?_
        clear hm a; intro a hm
        refine v_alloc hm rfl ti27 hS ?_
        intro w_46 g_47 hS'
        clear hm a; intro a hm
        replace hS : Sep w0 w_46 [N_37, M_25, M_29, Mem.one g_32 (.cells [.int .i64 t_19.2.Err, v_27, .int .i64 t_19.2.N].toArray 27 (0, 0)), M_40, M_44, Mem.one g_47 (.cells [.int .i64 0, .slice none 0 0, .int .i64 0].toArray 27 (0, 0))] Z := hS'
        clear hS'
        refine s_assign hm rfl rfl ?_
        clear hm a; intro a hm
        obtain ⟨w_48, hs', hS'⟩ := hS.store (P := Try.prog) (p := 6) (o := 0) (t := 27) (v := .agg [.int .i64 t_34.2.Err, v_42, .int .i64 t_34.2.N].toArray) (vs := [.int .i64 t_34.2.Err, v_42, .int .i64 t_34.2.N]) rfl ti27 rfl rfl rfl (by intro u hu; simp only [List.mem_cons, List.not_mem_nil, or_false] at hu; rcases hu with rfl | rfl | rfl <;> first | rfl | exact hr_43.one)
        refine s_store hm rfl rfl hs' ?_
        replace hS : Sep w0 w_48 [N_37, M_25, M_29, Mem.one g_32 (.cells [.int .i64 t_19.2.Err, v_27, .int .i64 t_19.2.N].toArray 27 (0, 0)), M_40, M_44, Mem.one g_47 (.cells [.int .i64 t_34.2.Err, v_42, .int .i64 t_34.2.N].toArray 27 (0, 0))] Z := hS'
        clear hs' hS'
        refine wpList_nil ?_
        replace hm : Fr 93 a [(0, p0_0), (1, v_15), (2, p2_2), (8, .bool false), (9, v_23), (10, .pointer (some ⟨g_32, 0, none⟩)), (11, v_38), (12, .pointer (some ⟨g_47, 0, none⟩))] := hm.keep [0, 1, 2, 8, 9, 10, 11, 12]
        refine x_then_n ?_
        refine wp_seq ?_
        refine wp_region_lit ?_
        refine s_move hm rfl rfl ?_
        clear hm a; intro a hm
        refine s_move hm rfl rfl ?_
        clear hm a; intro a hm
        refine s_move hm rfl rfl ?_
        clear hm a; intro a hm
        obtain ⟨t_49, et_49, H⟩ := Option.bind_eq_some_iff.1 H
        refine s_call hm rfl Try.call14 rfl (regs_Cas.calls x0 _ x_14 _ x2 _ t_49 w0 _ _ _ (Mem.le.refl _) (hS.enter [] (by decide)) (hp0_0.mono (hA.trans (hS.le_zed []))) (hr_16.mono (Mem.un_le (hA.trans (hS.le_zed [])) ((le_22.trans le_37).trans (hS.new_zed [])))) (hp2_2.mono (hA.trans (hS.le_zed []))) et_49) ?_
        rintro _ w_50 ⟨v_53, v_57, N_51, M_55, M_59, rfl, hS', hr_54, hr_58⟩
        clear hm a; intro a hm
        obtain ⟨N_52, hS'', le_52, ln_52⟩ := hS.call [] (by decide) rfl (l' := []) (ow := [M_55, M_59]) rfl hS'
        replace hS : Sep w0 w_50 [N_52, M_25, M_29, Mem.one g_32 (.cells [.int .i64 t_19.2.Err, v_27, .int .i64 t_19.2.N].toArray 27 (0, 0)), M_40, M_44, Mem.one g_47 (.cells [.int .i64 t_34.2.Err, v_42, .int .i64 t_34.2.N].toArray 27 (0, 0)), M_55, M_59] Z := hS''
        clear hS' hS''
        refine s_move hm rfl rfl ?_
        clear hm a; intro a hm
        refine s_extract hm rfl rfl rfl ?_
        clear hm a; intro a hm
        refine s_extract hm rfl rfl rfl ?_
        clear hm a; intro a hm
        refine v_alloc hm rfl ti27 hS ?_
        intro w_61 g_62 hS'
        clear hm a; intro a hm
        replace hS : Sep w0 w_61 [N_52, M_25, M_29, Mem.one g_32 (.cells [.int .i64 t_19.2.Err, v_27, .int .i64 t_19.2.N].toArray 27 (0, 0)), M_40, M_44, Mem.one g_47 (.cells [.int .i64 t_34.2.Err, v_42, .int .i64 t_34.2.N].toArray 27 (0, 0)), M_55, M_59, Mem.one g_62 (.cells [.int .i64 0, .slice none 0 0, .int .i64 0].toArray 27 (0, 0))] Z := hS'
        clear hS'
        refine s_assign hm rfl rfl ?_
        clear hm a; intro a hm
        obtain ⟨w_63, hs', hS'⟩ := hS.store (P := Try.prog) (p := 9) (o := 0) (t := 27) (v := .agg [.int .i64 t_49.2.Err, v_57, .int .i64 t_49.2.N].toArray) (vs := [.int .i64 t_49.2.Err, v_57, .int .i64 t_49.2.N]) rfl ti27 rfl rfl rfl (by intro u hu; simp only [List.mem_cons, List.not_mem_nil, or_false] at hu; rcases hu with rfl | rfl | rfl <;> first | rfl | exact hr_58.one)
        refine s_store hm rfl rfl hs' ?_
        replace hS : Sep w0 w_63 [N_52, M_25, M_29, Mem.one g_32 (.cells [.int .i64 t_19.2.Err, v_27, .int .i64 t_19.2.N].toArray 27 (0, 0)), M_40, M_44, Mem.one g_47 (.cells [.int .i64 t_34.2.Err, v_42, .int .i64 t_34.2.N].toArray 27 (0, 0)), M_55, M_59, Mem.one g_62 (.cells [.int .i64 t_49.2.Err, v_57, .int .i64 t_49.2.N].toArray 27 (0, 0))] Z := hS'
        clear hs' hS'
        refine wpList_nil ?_
        replace hm : Fr 93 a [(0, p0_0), (1, v_15), (2, p2_2), (8, .bool false), (9, v_23), (10, .pointer (some ⟨g_32, 0, none⟩)), (11, v_38), (12, .pointer (some ⟨g_47, 0, none⟩)), (13, v_53), (14, .pointer (some ⟨g_62, 0, none⟩))] := hm.keep [0, 1, 2, 8, 9, 10, 11, 12, 13, 14]
        refine x_then_n ?_
        refine wp_seq ?_
        refine wp_region_lit ?_
        refine s_move hm rfl rfl ?_
        clear hm a; intro a hm
        refine s_move hm rfl rfl ?_
        clear hm a; intro a hm
        refine s_move hm rfl rfl ?_
        clear hm a; intro a hm
        obtain ⟨t_64, et_64, H⟩ := Option.bind_eq_some_iff.1 H
        refine s_call hm rfl Try.call18 rfl (hocketref4_Cas.calls x0 _ x_14 _ x2 _ t_64 w0 _ _ _ (Mem.le.refl _) (hS.enter [] (by decide)) (hp0_0.mono (hA.trans (hS.le_zed []))) (hr_16.mono (Mem.un_le (hA.trans (hS.le_zed [])) ((le_22.trans (le_37.trans le_52)).trans (hS.new_zed [])))) (hp2_2.mono (hA.trans (hS.le_zed []))) et_64) ?_
        rintro _ w_65 ⟨v_68, v_72, N_66, M_70, M_74, rfl, hS', hr_69, hr_73⟩
        clear hm a; intro a hm
        obtain ⟨N_67, hS'', le_67, ln_67⟩ := hS.call [] (by decide) rfl (l' := []) (ow := [M_70, M_74]) rfl hS'
        replace hS : Sep w0 w_65 [N_67, M_25, M_29, Mem.one g_32 (.cells [.int .i64 t_19.2.Err, v_27, .int .i64 t_19.2.N].toArray 27 (0, 0)), M_40, M_44, Mem.one g_47 (.cells [.int .i64 t_34.2.Err, v_42, .int .i64 t_34.2.N].toArray 27 (0, 0)), M_55, M_59, Mem.one g_62 (.cells [.int .i64 t_49.2.Err, v_57, .int .i64 t_49.2.N].toArray 27 (0, 0)), M_70, M_74] Z := hS''
        clear hS' hS''
        refine s_move hm rfl rfl ?_
        clear hm a; intro a hm
        refine s_extract hm rfl rfl rfl ?_
        clear hm a; intro a hm
        refine s_extract hm rfl rfl rfl ?_
        clear hm a; intro a hm
        refine v_alloc hm rfl ti27 hS ?_
        intro w_76 g_77 hS'
        clear hm a; intro a hm
        replace hS : Sep w0 w_76 [N_67, M_25, M_29, Mem.one g_32 (.cells [.int .i64 t_19.2.Err, v_27, .int .i64 t_19.2.N].toArray 27 (0, 0)), M_40, M_44, Mem.one g_47 (.cells [.int .i64 t_34.2.Err, v_42, .int .i64 t_34.2.N].toArray 27 (0, 0)), M_55, M_59, Mem.one g_62 (.cells [.int .i64 t_49.2.Err, v_57, .int .i64 t_49.2.N].toArray 27 (0, 0)), M_70, M_74, Mem.one g_77 (.cells [.int .i64 0, .slice none 0 0, .int .i64 0].toArray 27 (0, 0))] Z := hS'
        clear hS'
        refine s_assign hm rfl rfl ?_
        clear hm a; intro a hm
        obtain ⟨w_78, hs', hS'⟩ := hS.store (P := Try.prog) (p := 12) (o := 0) (t := 27) (v := .agg [.int .i64 t_64.2.Err, v_72, .int .i64 t_64.2.N].toArray) (vs := [.int .i64 t_64.2.Err, v_72, .int .i64 t_64.2.N]) rfl ti27 rfl rfl rfl (by intro u hu; simp only [List.mem_cons, List.not_mem_nil, or_false] at hu; rcases hu with rfl | rfl | rfl <;> first | rfl | exact hr_73.one)
        refine s_store hm rfl rfl hs' ?_
        replace hS : Sep w0 w_78 [N_67, M_25, M_29, Mem.one g_32 (.cells [.int .i64 t_19.2.Err, v_27, .int .i64 t_19.2.N].toArray 27 (0, 0)), M_40, M_44, Mem.one g_47 (.cells [.int .i64 t_34.2.Err, v_42, .int .i64 t_34.2.N].toArray 27 (0, 0)), M_55, M_59, Mem.one g_62 (.cells [.int .i64 t_49.2.Err, v_57, .int .i64 t_49.2.N].toArray 27 (0, 0)), M_70, M_74, Mem.one g_77 (.cells [.int .i64 t_64.2.Err, v_72, .int .i64 t_64.2.N].toArray 27 (0, 0))] Z := hS'
        clear hs' hS'
        refine wpList_nil ?_
        replace hm : Fr 93 a [(0, p0_0), (8, .bool false), (9, v_23), (10, .pointer (some ⟨g_32, 0, none⟩)), (11, v_38), (12, .pointer (some ⟨g_47, 0, none⟩)), (13, v_53), (14, .pointer (some ⟨g_62, 0, none⟩)), (15, v_68), (16, .pointer (some ⟨g_77, 0, none⟩))] := hm.keep [0, 8, 9, 10, 11, 12, 13, 14, 15, 16]
        refine x_then_n ?_
        refine c_seq fun KJ_79 hKJ_79 => ?_
        refine wp_region_lit ?_
        refine s_move hm rfl rfl ?_
        clear hm a; intro a hm
        refine s_b2s hm rfl Try.underlying25 Try.underlying5 Try.underlying9 rfl (hr_24.rd (J := hp w_78) (hS.own 1) (Mem.no_le _)) (Mem.le.refl _) ?_
        clear hm a; intro a hm
        refine s_move hm rfl rfl ?_
        clear hm a; intro a hm
        refine s_b2s hm rfl Try.underlying25 Try.underlying5 Try.underlying9 rfl (hr_39.rd (J := hp w_78) (hS.own 4) (Mem.no_le _)) (Mem.le.refl _) ?_
        clear hm a; intro a hm
        refine s_strEq (b := (t_19.1 == t_34.1)) hm rfl rfl rfl (.inl ⟨rfl, rfl⟩) ?_
        clear hm a; intro a hm
        refine s_move hm rfl rfl ?_
        clear hm a; intro a hm
        by_cases hc_80 : t_19.1 = t_34.1
        · rw [if_pos hc_80] at H
          refine s_on hm rfl rfl (beq_iff_eq.2 hc_80) ?_
          refine s_load hm rfl rfl (hS.load_agg (p := 3) (us := [.int .i64 t_19.2.Err, v_27, .int .i64 t_19.2.N]) rfl Try.underlying27 rfl ti27 rfl rfl) ?_
          clear hm a; intro a hm
          refine s_on hm rfl rfl (beq_iff_eq.2 hc_80) ?_
          refine s_load hm rfl rfl (hS.load_agg (p := 6) (us := [.int .i64 t_34.2.Err, v_42, .int .i64 t_34.2.N]) rfl Try.underlying27 rfl ti27 rfl rfl) ?_
          clear hm a; intro a hm
          refine s_on hm rfl rfl (beq_iff_eq.2 hc_80) ?_
          obtain ⟨t_81, et_81, H⟩ := Option.bind_eq_some_iff.1 H
          refine s_call hm rfl Try.call19 rfl (hocketref4_SameResult.calls t_19.2 _ t_34.2 _ t_81 w0 _ _ _ (Mem.le.refl _) (hS.enter [] (by decide)) (hr_28.rd (hS.own_zed [] 1 (by decide)) (Mem.no_le _)) (hr_43.rd (hS.own_zed [] 4 (by decide)) (Mem.no_le _)) et_81) ?_
          rintro _ w_82 ⟨N_83, rfl, hS'⟩
          clear hm a; intro a hm
          obtain ⟨N_84, hS'', le_84, ln_84⟩ := hS.call [] (by decide) rfl (l' := []) (ow := []) rfl hS'
          replace hS : Sep w0 w_82 [N_84, M_25, M_29, Mem.one g_32 (.cells [.int .i64 t_19.2.Err, v_27, .int .i64 t_19.2.N].toArray 27 (0, 0)), M_40, M_44, Mem.one g_47 (.cells [.int .i64 t_34.2.Err, v_42, .int .i64 t_34.2.N].toArray 27 (0, 0)), M_55, M_59, Mem.one g_62 (.cells [.int .i64 t_49.2.Err, v_57, .int .i64 t_49.2.N].toArray 27 (0, 0)), M_70, M_74, Mem.one g_77 (.cells [.int .i64 t_64.2.Err, v_72, .int .i64 t_64.2.N].toArray 27 (0, 0))] Z := hS''
          clear hS' hS''
          refine s_pick_t hm rfl rfl (beq_iff_eq.2 hc_80) rfl ?_
          clear hm a; intro a hm
          refine s_move hm rfl rfl ?_
          clear hm a; intro a hm
          by_cases hc_85 : t_81 = true
          · rw [if_pos hc_85] at H
            refine s_on hm rfl rfl hc_85 ?_
            refine s_move hm rfl rfl ?_
            clear hm a; intro a hm
            refine s_on hm rfl rfl hc_85 ?_
            refine s_b2s hm rfl Try.underlying25 Try.underlying5 Try.underlying9 rfl (hr_54.rd (J := hp w_82) (hS.own 7) (Mem.no_le _)) (Mem.le.refl _) ?_
            clear hm a; intro a hm
            refine s_on hm rfl rfl hc_85 ?_
            refine s_move hm rfl rfl ?_
            clear hm a; intro a hm
            refine s_on hm rfl rfl hc_85 ?_
            refine s_b2s hm rfl Try.underlying25 Try.underlying5 Try.underlying9 rfl (hr_69.rd (J := hp w_82) (hS.own 10) (Mem.no_le _)) (Mem.le.refl _) ?_
            clear hm a; intro a hm
            refine s_on hm rfl rfl hc_85 ?_
            refine s_strEq (b := (t_49.1 == t_64.1)) hm rfl rfl rfl (.inl ⟨rfl, rfl⟩) ?_
            clear hm a; intro a hm
            refine s_pick_t hm rfl rfl hc_85 rfl ?_
            clear hm a; intro a hm
            refine s_move hm rfl rfl ?_
            clear hm a; intro a hm
            by_cases hc_86 : t_49.1 = t_64.1
            · rw [if_pos hc_86] at H
              refine s_on hm rfl rfl (beq_iff_eq.2 hc_86) ?_
              refine s_load hm rfl rfl (hS.load_agg (p := 9) (us := [.int .i64 t_49.2.Err, v_57, .int .i64 t_49.2.N]) rfl Try.underlying27 rfl ti27 rfl rfl) ?_
              clear hm a; intro a hm
              refine s_on hm rfl rfl (beq_iff_eq.2 hc_86) ?_
              refine s_load hm rfl rfl (hS.load_agg (p := 12) (us := [.int .i64 t_64.2.Err, v_72, .int .i64 t_64.2.N]) rfl Try.underlying27 rfl ti27 rfl rfl) ?_
              clear hm a; intro a hm
              refine s_on hm rfl rfl (beq_iff_eq.2 hc_86) ?_
              obtain ⟨t_87, et_87, H⟩ := Option.bind_eq_some_iff.1 H
              refine s_call hm rfl Try.call19 rfl (hocketref4_SameResult.calls t_49.2 _ t_64.2 _ t_87 w0 _ _ _ (Mem.le.refl _) (hS.enter [] (by decide)) (hr_58.rd (hS.own_zed [] 7 (by decide)) (Mem.no_le _)) (hr_73.rd (hS.own_zed [] 10 (by decide)) (Mem.no_le _)) et_87) ?_
              rintro _ w_88 ⟨N_89, rfl, hS'⟩
              clear hm a; intro a hm
              obtain ⟨N_90, hS'', le_90, ln_90⟩ := hS.call [] (by decide) rfl (l' := []) (ow := []) rfl hS'
              replace hS : Sep w0 w_88 [N_90, M_25, M_29, Mem.one g_32 (.cells [.int .i64 t_19.2.Err, v_27, .int .i64 t_19.2.N].toArray 27 (0, 0)), M_40, M_44, Mem.one g_47 (.cells [.int .i64 t_34.2.Err, v_42, .int .i64 t_34.2.N].toArray 27 (0, 0)), M_55, M_59, Mem.one g_62 (.cells [.int .i64 t_49.2.Err, v_57, .int .i64 t_49.2.N].toArray 27 (0, 0)), M_70, M_74, Mem.one g_77 (.cells [.int .i64 t_64.2.Err, v_72, .int .i64 t_64.2.N].toArray 27 (0, 0))] Z := hS''
              clear hS' hS''
              refine s_pick_t hm rfl rfl (beq_iff_eq.2 hc_86) rfl ?_
              clear hm a; intro a hm
              refine s_move hm rfl rfl ?_
              clear hm a; intro a hm
              by_cases hc_91 : t_87 = true
              · rw [if_pos hc_91] at H
                refine s_on hm rfl rfl hc_91 ?_
                refine s_move hm rfl rfl ?_
                clear hm a; intro a hm
                refine s_on hm rfl rfl hc_91 ?_
                obtain ⟨t_92, et_92, H⟩ := Option.bind_eq_some_iff.1 H
                refine s_call hm rfl Try.call20 rfl (regs_Read.calls x0 _ t_92 w0 _ _ _ (Mem.le.refl _) (hS.enter [] (by decide)) (hp0_0.mono (hA.trans (hS.le_zed []))) et_92) ?_
                rintro _ w_93 ⟨v_96, N_94, M_98, rfl, hS', hr_97⟩
                clear hm a; intro a hm
                obtain ⟨N_95, hS'', le_95, ln_95⟩ := hS.call [] (by decide) rfl (l' := []) (ow := [M_98]) rfl hS'
                replace hS : Sep w0 w_93 [N_95, M_25, M_29, Mem.one g_32 (.cells [.int .i64 t_19.2.Err, v_27, .int .i64 t_19.2.N].toArray 27 (0, 0)), M_40, M_44, Mem.one g_47 (.cells [.int .i64 t_34.2.Err, v_42, .int .i64 t_34.2.N].toArray 27 (0, 0)), M_55, M_59, Mem.one g_62 (.cells [.int .i64 t_49.2.Err, v_57, .int .i64 t_49.2.N].toArray 27 (0, 0)), M_70, M_74, Mem.one g_77 (.cells [.int .i64 t_64.2.Err, v_72, .int .i64 t_64.2.N].toArray 27 (0, 0)), M_98] Z := hS''
                clear hS' hS''
                refine s_on hm rfl rfl hc_91 ?_
                refine s_move hm rfl rfl ?_
                clear hm a; intro a hm
                refine s_on hm rfl rfl hc_91 ?_
                obtain ⟨t_100, et_100, H⟩ := Option.bind_eq_some_iff.1 H
                refine s_call hm rfl Try.call21 rfl (hocketref4_Read.calls x0 _ t_100 w0 _ _ _ (Mem.le.refl _) (hS.enter [] (by decide)) (hp0_0.mono (hA.trans (hS.le_zed []))) et_100) ?_
                rintro _ w_101 ⟨v_104, N_102, M_106, rfl, hS', hr_105⟩
                clear hm a; intro a hm
                obtain ⟨N_103, hS'', le_103, ln_103⟩ := hS.call [] (by decide) rfl (l' := []) (ow := [M_106]) rfl hS'
                replace hS : Sep w0 w_101 [N_103, M_25, M_29, Mem.one g_32 (.cells [.int .i64 t_19.2.Err, v_27, .int .i64 t_19.2.N].toArray 27 (0, 0)), M_40, M_44, Mem.one g_47 (.cells [.int .i64 t_34.2.Err, v_42, .int .i64 t_34.2.N].toArray 27 (0, 0)), M_55, M_59, Mem.one g_62 (.cells [.int .i64 t_49.2.Err, v_57, .int .i64 t_49.2.N].toArray 27 (0, 0)), M_70, M_74, Mem.one g_77 (.cells [.int .i64 t_64.2.Err, v_72, .int .i64 t_64.2.N].toArray 27 (0, 0)), M_98, M_106] Z := hS''
                clear hS' hS''
                refine s_on hm rfl rfl hc_91 ?_
                obtain ⟨t_108, et_108, H⟩ := Option.bind_eq_some_iff.1 H
                refine s_call hm rfl Try.call19 rfl (hocketref4_SameResult.calls t_92 _ t_100 _ t_108 w0 _ _ _ (Mem.le.refl _) (hS.enter [] (by decide)) (hr_97.rd (hS.own_zed [] 12 (by decide)) (Mem.no_le _)) (hr_105.rd (hS.own_zed [] 13 (by decide)) (Mem.no_le _)) et_108) ?_
                rintro _ w_109 ⟨N_110, rfl, hS'⟩
                clear hm a; intro a hm
                obtain ⟨N_111, hS'', le_111, ln_111⟩ := hS.call [] (by decide) rfl (l' := []) (ow := []) rfl hS'
                replace hS : Sep w0 w_109 [N_111, M_25, M_29, Mem.one g_32 (.cells [.int .i64 t_19.2.Err, v_27, .int .i64 t_19.2.N].toArray 27 (0, 0)), M_40, M_44, Mem.one g_47 (.cells [.int .i64 t_34.2.Err, v_42, .int .i64 t_34.2.N].toArray 27 (0, 0)), M_55, M_59, Mem.one g_62 (.cells [.int .i64 t_49.2.Err, v_57, .int .i64 t_49.2.N].toArray 27 (0, 0)), M_70, M_74, Mem.one g_77 (.cells [.int .i64 t_64.2.Err, v_72, .int .i64 t_64.2.N].toArray 27 (0, 0)), M_98, M_106] Z := hS''
                clear hS' hS''
                refine s_pick_t hm rfl rfl hc_91 rfl ?_
                clear hm a; intro a hm
                refine s_move hm rfl rfl ?_
                clear hm a; intro a hm
                by_cases hc_112 : t_108 = true
                · rw [if_pos hc_112] at H
                  refine s_on hm rfl rfl hc_112 ?_
                  obtain ⟨t_113, et_113, H⟩ := Option.bind_eq_some_iff.1 H
                  refine s_call hm rfl Try.call16 rfl (hocketlaw4_awake.calls  t_113 w0 _ _ _ (Mem.le.refl _) (hS.enter [] (by decide))  et_113) ?_
                  rintro _ w_114 ⟨N_115, rfl, hS'⟩
                  clear hm a; intro a hm
                  obtain ⟨N_116, hS'', le_116, ln_116⟩ := hS.call [] (by decide) rfl (l' := []) (ow := []) rfl hS'
                  replace hS : Sep w0 w_114 [N_116, M_25, M_29, Mem.one g_32 (.cells [.int .i64 t_19.2.Err, v_27, .int .i64 t_19.2.N].toArray 27 (0, 0)), M_40, M_44, Mem.one g_47 (.cells [.int .i64 t_34.2.Err, v_42, .int .i64 t_34.2.N].toArray 27 (0, 0)), M_55, M_59, Mem.one g_62 (.cells [.int .i64 t_49.2.Err, v_57, .int .i64 t_49.2.N].toArray 27 (0, 0)), M_70, M_74, Mem.one g_77 (.cells [.int .i64 t_64.2.Err, v_72, .int .i64 t_64.2.N].toArray 27 (0, 0)), M_98, M_106] Z := hS''
                  clear hS' hS''
                  refine s_pick_t hm rfl rfl hc_112 rfl ?_
                  clear hm a; intro a hm
                  refine s_assign hm rfl rfl ?_
                  clear hm a; intro a hm
                  refine wpList_nil ?_
                  replace hm : Fr 93 a [(8, .bool true)] := hm.keep [8]
                  refine x_then_n (hKJ_79 _ _ ?_)
                  refine wp_ret ?_
                  exact f_ret hm (rs := [.tmp 8]) rfl (.tmp rfl .nil) ⟨_, rfl, N_116, rfl, (Sep.sel hS [0] (by decide))⟩
                · rw [if_neg hc_112] at H
                  cases H
              · rw [if_neg hc_91] at H
                cases H
            · rw [if_neg hc_86] at H
              cases H
          · rw [if_neg hc_85] at H
            cases H
        · rw [if_neg hc_80] at H
          cases H
      clear hKJ_12
      by_cases hc_117 : x3 = true
      · rw [if_pos hc_117] at H
        refine c_cond_t hm rfl hc_117 ?_
        refine wp_region_lit ?_
        have hq_122 : Reps Kd.u8 Mem.no ([] : List UInt8) _ := (Reps.nil Kd.u8 _)
        refine s_buildSlice hm rfl Try.underlying25 ti5 rfl rfl rfl .nil rfl rfl rfl hS hq_122 rfl ?_
        intro w_118 v_119 M_120 hS' ho_121
        clear hm a; intro a hm
        replace hS : Sep w0 w_118 [N_3, M_120] Z := hS'
        clear hS' hq_122
        refine s_move hm rfl rfl ?_
        clear hm a; intro a hm
        obtain ⟨t_124, et_124, H⟩ := Option.bind_eq_some_iff.1 H
        refine s_append (J := Mem.no) (I' := Mem.no) (p := 1) 140737488355328 hm rfl rfl rfl Try.underlying25 ti5 rfl rfl rfl rfl hS rfl ho_121 (Src.flat flat_u8 (hp0_0.src (hA.trans hS.old))) (Mem.le.refl _) (Mem.le.refl _) et_124 ?_
        intro w_125 v_126 M_127 hS' ho_128
        clear hm a; intro a hm
        replace hS : Sep w0 w_125 [N_3, M_127] Z := hS'
        clear hS'
        refine s_assign hm rfl rfl ?_
        clear hm a; intro a hm
        refine wpList_nil ?_
        replace hm : Fr 93 a [(0, p0_0), (1, v_126), (2, p2_2), (8, .bool false)] := hm.keep [0, 1, 2, 8]
        obtain ⟨N_130, hS', le_130, lo_130⟩ := hS.freeze 0 rfl
        replace hS : Sep w0 w_125 [N_130, Mem.no] Z := hS'
        clear hS'
        replace hS : Sep w0 w_125 [N_130, Mem.no] Z := hS
        replace hm : Fr 93 a [(0, p0_0), (1, v_126), (2, p2_2), (8, .bool false)] := hm.keep [0, 1, 2, 8]
        exact x_then_n (hJ_j_18 t_124 H _ _ ⟨v_126, N_130, hm, (Sep.sel hS [0] (by decide)), le_130, ((ho_128.rd lo_130 (Mem.no_le _)).mono ((Mem.le.refl _).trans (hS.sndA hA)))⟩)
      · rw [if_neg hc_117] at H
        refine c_cond_f hm rfl (Bool.eq_false_iff.2 hc_117) ?_
        refine wp_skip ?_
        replace hS : Sep w0 w_5 [N_3] Z := hS
        replace hm : Fr 93 a [(0, p0_0), (1, p1_1), (2, p2_2), (8, .bool false)] := hm.keep [0, 1, 2, 8]
        exact x_then_n (hJ_j_18 x1 H _ _ ⟨p1_1, N_3, hm, (Sep.sel hS [0] (by decide)), (Mem.le.refl _), (hp1_1.mono (Mem.le_un _ _))⟩)
  clear hKJ_2
  refine wp_region_lit ?_
  refine s_move hm rfl rfl ?_
  clear hm a; intro a hm
  refine s_len hm rfl Try.underlying25 rfl hp0_0 ?_
  clear hm a; intro a hm
  refine s_cmp (b := decide ((x0.length : Int) > 60)) hm rfl rfl rfl (.inr (.inr (.inr (.inr (.inl ⟨rfl, rfl⟩))))) ?_
  clear hm a; intro a hm
  refine s_move hm rfl rfl ?_
  clear hm a; intro a hm
  by_cases hc_131 : (x0.length : Int) > 60
  · rw [if_pos hc_131] at H
    refine s_off hm rfl rfl rfl (decide_eq_true hc_131) ?_
    clear hm a; intro a hm
    refine s_off hm rfl rfl rfl (decide_eq_true hc_131) ?_
    clear hm a; intro a hm
    refine s_off hm rfl rfl rfl (decide_eq_true hc_131) ?_
    clear hm a; intro a hm
    refine s_pick_t hm rfl rfl (decide_eq_true hc_131) rfl ?_
    clear hm a; intro a hm
    refine s_move hm rfl rfl ?_
    clear hm a; intro a hm
    refine s_off hm rfl rfl rfl rfl ?_
    clear hm a; intro a hm
    refine s_off hm rfl rfl rfl rfl ?_
    clear hm a; intro a hm
    refine s_off hm rfl rfl rfl rfl ?_
    clear hm a; intro a hm
    refine s_pick_t hm rfl rfl rfl rfl ?_
    clear hm a; intro a hm
    refine wpList_nil ?_
    replace hm : Fr 93 a [(0, p0_0), (1, p1_1), (2, p2_2), (3, .bool x3), (8, .bool false), (29, .bool true)] := hm.keep [0, 1, 2, 3, 8, 29]
    replace hS : Sep w0 w [Mem.no] Z := hS
    replace hm : Fr 93 a [(0, p0_0), (1, p1_1), (2, p2_2), (3, .bool x3), (8, .bool false), (29, .bool true)] := hm.keep [0, 1, 2, 3, 8, 29]
    exact x_then_n (hJ_j_6 true H _ _ ⟨Mem.no, hm, (Sep.sel hS [0] (by decide)), (Mem.le.refl _)⟩)
  · rw [if_neg hc_131] at H
    refine s_on hm rfl rfl (decide_eq_false hc_131) ?_
    refine s_move hm rfl rfl ?_
    clear hm a; intro a hm
    refine s_on hm rfl rfl (decide_eq_false hc_131) ?_
    refine s_len hm rfl Try.underlying25 rfl hp1_1 ?_
    clear hm a; intro a hm
    refine s_on hm rfl rfl (decide_eq_false hc_131) ?_
    refine s_cmp (b := decide ((x1.length : Int) > 60)) hm rfl rfl rfl (.inr (.inr (.inr (.inr (.inl ⟨rfl, rfl⟩))))) ?_
    clear hm a; intro a hm
    refine s_pick_f hm rfl rfl (decide_eq_false hc_131) rfl ?_
    clear hm a; intro a hm
    refine s_move hm rfl rfl ?_
    clear hm a; intro a hm
    by_cases hc_132 : (x1.length : Int) > 60
    · rw [if_pos hc_132] at H
      refine s_off hm rfl rfl rfl (decide_eq_true hc_132) ?_
      clear hm a; intro a hm
      refine s_off hm rfl rfl rfl (decide_eq_true hc_132) ?_
      clear hm a; intro a hm
      refine s_off hm rfl rfl rfl (decide_eq_true hc_132) ?_
      clear hm a; intro a hm
      refine s_pick_t hm rfl rfl (decide_eq_true hc_132) rfl ?_
      clear hm a; intro a hm
      refine wpList_nil ?_
      replace hm : Fr 93 a [(0, p0_0), (1, p1_1), (2, p2_2), (3, .bool x3), (8, .bool false), (29, .bool true)] := hm.keep [0, 1, 2, 3, 8, 29]
      replace hS : Sep w0 w [Mem.no] Z := hS
      replace hm : Fr 93 a [(0, p0_0), (1, p1_1), (2, p2_2), (3, .bool x3), (8, .bool false), (29, .bool true)] := hm.keep [0, 1, 2, 3, 8, 29]
      exact x_then_n (hJ_j_6 true H _ _ ⟨Mem.no, hm, (Sep.sel hS [0] (by decide)), (Mem.le.refl _)⟩)
    · rw [if_neg hc_132] at H
      refine s_on hm rfl rfl (decide_eq_false hc_132) ?_
      refine s_move hm rfl rfl ?_
      clear hm a; intro a hm
      refine s_on hm rfl rfl (decide_eq_false hc_132) ?_
      refine s_len hm rfl Try.underlying25 rfl hp2_2 ?_
      clear hm a; intro a hm
      refine s_on hm rfl rfl (decide_eq_false hc_132) ?_
      refine s_cmp (b := decide ((x2.length : Int) > 60)) hm rfl rfl rfl (.inr (.inr (.inr (.inr (.inl ⟨rfl, rfl⟩))))) ?_
      clear hm a; intro a hm
      refine s_pick_f hm rfl rfl (decide_eq_false hc_132) rfl ?_
      clear hm a; intro a hm
      refine wpList_nil ?_
      replace hm : Fr 93 a [(0, p0_0), (1, p1_1), (2, p2_2), (3, .bool x3), (8, .bool false), (29, .bool (decide ((x2.length : Int) > 60)))] := hm.keep [0, 1, 2, 3, 8, 29]
      replace hS : Sep w0 w [Mem.no] Z := hS
      replace hm : Fr 93 a [(0, p0_0), (1, p1_1), (2, p2_2), (3, .bool x3), (8, .bool false), (29, .bool (decide ((x2.length : Int) > 60)))] := hm.keep [0, 1, 2, 3, 8, 29]
      exact x_then_n (hJ_j_6 (decide ((x2.length : Int) > 60)) H _ _ ⟨Mem.no, hm, (Sep.sel hS [0] (by decide)), (Mem.le.refl _)⟩)


end Go.Proofs
