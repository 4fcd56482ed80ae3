/- What the calls do: each function once. -/
import Derived.Test.YtbjefkmbpbdhbaaFacts
namespace Go.Proofs
open Go.Gp
set_option linter.unusedVariables false
set_option maxHeartbeats 4000000 in
theorem slices_Clone_sbyte_byte.calls (x0 : List UInt8) (p0_0 : Value) (r : List UInt8) (w0 w : World) (Z A : Mem) (hA : A.le Z) (hS : Sep w0 w [] Z) (hp0_0 : Rd Kd.u8 A p0_0 x0)
    (H : slices_Clone_sbyte_byte.f x0 = some r) :
    Calls Try.prog 42 [p0_0].toArray w (Ret fun v w' => ∃ (u0 : Value) (N : Mem) (M0 : Mem), v = u0 ∧ Sep w0 w' [N, M0] Z ∧ Own Kd.u8 5 M0 Mem.no u0 r) := by
  unfold slices_Clone_sbyte_byte.f at H
  refine f_enter _ Try.func42 rfl Try.ntmps42 rfl fun a hm => ?_
  replace hm : Fr 8 a [(0, p0_0)] := hm
  replace hS := hS.start
  replace hS : Sep w0 w [Mem.no] Z := hS
  refine wp_seq ?_
  refine wp_region_lit ?_
  refine s_assign hm rfl rfl ?_
  clear hm a; intro a hm
  refine wpList_nil ?_
  replace hm : Fr 8 a [(0, p0_0)] := hm.keep [0]
  refine x_then_n ?_
  refine c_seq fun KJ hKJ => ?_
  refine wp_seq ?_
  refine wp_region_lit ?_
  refine s_move hm rfl rfl ?_
  clear hm a; intro a hm
  refine s_slNil hm rfl Try.underlying25 rfl hp0_0 fun b hb => ?_
  clear hm a; intro a hm
  refine wpList_nil ?_
  refine x_then_n ?_
  cases b with
  | true =>
    have hx := hb rfl
    subst hx
    refine c_cond_t hm rfl rfl ?_
    refine wp_seq ?_
    refine wp_region_lit ?_
    refine s_assign hm rfl rfl ?_
    clear hm a; intro a hm
    refine wpList_nil ?_
    replace hm : Fr 8 a [(2, .slice none 0 0)] := hm.keep [2]
    refine x_then_n ?_
    refine wp_ret (x_then_r ?_)
    obtain rfl := (app_some H).2
    replace hS := hS.room
    exact f_ret hm (rs := [.tmp 2]) rfl (.tmp rfl .nil) ⟨_, rfl, _, Mem.no, Mem.no, rfl, hS, Own.nil _ _ _⟩
  | false =>
    refine c_cond_f hm rfl rfl ?_
    refine wp_skip ?_
    refine x_then_n (hKJ _ _ ?_)
    refine wp_seq ?_
    refine wp_region_lit ?_
    have hq5 : Reps Kd.u8 Mem.no ([] : List UInt8) _ := (Reps.nil Kd.u8 _)
    refine s_buildSlice hm rfl Try.underlying25 ti5 rfl rfl rfl .nil rfl rfl rfl hS hq5 rfl ?_
    intro w1 v2 M3 hS' ho4
    clear hm a; intro a hm
    replace hS : Sep w0 w1 [Mem.no, M3] Z := hS'
    clear hS' hq5
    refine s_move hm rfl rfl ?_
    clear hm a; intro a hm
    refine s_append (J := Mem.no) (I' := Mem.no) (p := 1) 140737488355328 hm rfl rfl rfl Try.underlying25 ti5 rfl rfl rfl rfl hS rfl ho4 (Src.flat flat_u8 (hp0_0.src (hA.trans hS.old))) (Mem.le.refl _) (Mem.le.refl _) H ?_
    intro w8 v9 M10 hS' ho11
    clear hm a; intro a hm
    refine s_assign hm rfl rfl ?_
    clear hm a; intro a hm
    refine wpList_nil ?_
    replace hm : Fr 8 a [(2, v9)] := hm.keep [2]
    refine x_then_n ?_
    refine wp_ret ?_
    exact f_ret hm (rs := [.tmp 2]) rfl (.tmp rfl .nil) ⟨_, rfl, _, Mem.no, M10, rfl, hS', ho11⟩

set_option maxHeartbeats 4000000 in
theorem slices_Clip_ssbyte_sbyte.calls (v : Value) (w : World) (hf : ∃ A l c, v = .slice A l c ∧ l ≤ c) : Calls Try.prog 50 [v].toArray w (Ret fun u w' => w = w' ∧ Clipped v u) := by
  obtain ⟨A, l, c, rfl, hlc⟩ := hf
  refine f_enter _ Try.func50 rfl Try.ntmps50 rfl fun a hm => ?_
  replace hm : Fr 9 a [(0, .slice A l c)] := hm
  refine wp_seq ?_
  refine wp_region_lit ?_
  refine s_assign hm rfl rfl ?_
  clear hm a; intro a hm
  refine wpList_nil ?_
  refine x_then_n ?_
  refine wp_seq ?_
  refine wp_region_lit ?_
  refine s_move hm rfl rfl ?_
  clear hm a; intro a hm
  refine s_move hm rfl rfl ?_
  clear hm a; intro a hm
  refine s_lenV hm rfl Try.underlying37 rfl ?_
  clear hm a; intro a hm
  refine s_move hm rfl rfl ?_
  clear hm a; intro a hm
  refine s_lenV hm rfl Try.underlying37 rfl ?_
  clear hm a; intro a hm
  refine s_clip hm rfl Try.underlying37 ti25 rfl rfl rfl hlc ?_
  clear hm a; intro a hm
  refine s_assign hm rfl rfl ?_
  clear hm a; intro a hm
  refine wpList_nil ?_
  refine x_then_n ?_
  refine wp_ret ?_
  exact f_ret hm (rs := [.tmp 2]) rfl (.tmp rfl .nil) ⟨_, rfl, rfl, A, l, c, rfl, rfl⟩

set_option maxHeartbeats 4000000 in
set_option maxRecDepth 20000 in
theorem fifo_Still.calls (K : Nat) (x0 : List (List UInt8)) (p0_0 : Value) (r : (List (List UInt8))) (w0 w : World) (Z A : Mem) (hA : A.le Z) (hS : Sep w0 w [] Z) (hp0_0 : Rd (Kd.slice Kd.u8) A p0_0 x0)
    (H : fifo_Still.f K x0 = some r) :
    Calls Try.prog 45 [p0_0].toArray w (Ret fun v w' => ∃ (u0 : Value) (N : Mem) (M0 : Mem), v = u0 ∧ Sep w0 w' [N, M0] Z ∧ Own (Kd.slice Kd.u8) 25 M0 N u0 r) := by
  unfold fifo_Still.f at H
  refine f_enter _ Try.func45 rfl Try.ntmps45 rfl fun a hm => ?_
  replace hm : Fr 20 a [(0, p0_0)] := hm
  replace hS := hS.start
  replace hS : Sep w0 w [Mem.no] Z := hS
  refine wp_seq ?_
  refine wp_region_lit ?_
  refine s_assign hm rfl rfl ?_
  clear hm a; intro a hm
  refine wpList_nil ?_
  replace hm : Fr 20 a [(0, p0_0), (2, .slice none 0 0)] := hm.keep [0, 2]
  refine x_then_n ?_
  refine wp_seq ?_
  refine wp_region_lit ?_
  refine s_assign hm rfl rfl ?_
  clear hm a; intro a hm
  refine wpList_nil ?_
  replace hm : Fr 20 a [(0, p0_0), (2, .slice none 0 0), (3, .slice none 0 0)] := hm.keep [0, 2, 3]
  refine x_then_n ?_
  refine c_seq fun KJ_1 hKJ_1 => ?_
  refine wp_seq ?_
  refine wp_region_lit ?_
  refine s_move hm rfl rfl ?_
  clear hm a; intro a hm
  refine s_len hm rfl Try.underlying37 rfl hp0_0 ?_
  clear hm a; intro a hm
  refine s_move hm rfl rfl ?_
  clear hm a; intro a hm
  refine wpList_nil ?_
  replace hm : Fr 20 a [(2, .slice none 0 0), (3, .slice none 0 0), (6, p0_0), (7, .int .i64 (x0.length : Int)), (8, .int .i64 0)] := hm.keep [2, 3, 6, 7, 8]
  refine x_then_n ?_
  have hJ_j_9 : ∀ (x_3 : List (List UInt8)), fifo_Still.j_9 K x_3 = some r → ∀ (a : Act) (w_8 : World), (∃ (v_6 : Value) (N_2 : Mem) (M_4 : Mem), Fr 20 a [(2, .slice none 0 0), (3, v_6)] ∧ Sep w0 w_8 [N_2, M_4] Z ∧ Mem.no.le N_2 ∧ Own (Kd.slice Kd.u8) 25 M_4 N_2 v_6 x_3) → KJ_1 a w_8 := by
    clear H hm hS a
    rintro x_3 H a w_8 ⟨v_6, N_2, M_4, hm, hS, le_2, ho_7⟩
    unfold fifo_Still.j_9 at H
    refine hKJ_1 _ _ ?_
    refine wp_seq ?_
    refine wp_region_lit ?_
    refine s_move hm rfl rfl ?_
    clear hm a; intro a hm
    refine s_call hm rfl Try.call50 rfl (slices_Clip_ssbyte_sbyte.calls _ _ ho_7.slform) ?_
    rintro v_10 _ ⟨rfl, hk_11⟩
    clear hm a; intro a hm
    refine s_assign hm rfl rfl ?_
    clear hm a; intro a hm
    refine wpList_nil ?_
    replace hm : Fr 20 a [(2, v_10)] := hm.keep [2]
    refine x_then_n ?_
    refine wp_ret ?_
    obtain rfl := Option.some.inj H
    exact f_ret hm (rs := [.tmp 2]) rfl (.tmp rfl .nil) ⟨_, rfl, v_10, N_2, M_4, rfl, (Sep.sel hS [0, 1] (by decide)), ((ho_7.clip hk_11).mono (Mem.le.refl _))⟩
  clear hKJ_1
  have hS' := hS.room
  replace hS : Sep w0 w [Mem.no, Mem.no] Z := hS'
  clear hS'
  replace hS : Sep w0 w [Mem.no, Mem.no] Z := hS
  replace hm : Fr 20 a [(2, .slice none 0 0), (3, .slice none 0 0), (6, p0_0), (7, .int .i64 (x0.length : Int)), (8, .int .i64 0)] := hm.keep [2, 3, 6, 7, 8]
  refine c_block ?_
  refine c_loop (fun k_20 a w_20 => ∃ (x_14 : List (List UInt8)) (x_19 : Int) (v_17 : Value) (N_13 : Mem) (M_15 : Mem), fifo_Still.l_20 K x0 (fun v => fifo_Still.j_9 K v) k_20 (x_14, x_19) = some r ∧ Fr 20 a [(2, .slice none 0 0), (3, v_17), (6, p0_0), (7, .int .i64 (x0.length : Int)), (8, .int .i64 x_19)] ∧ Sep w0 w_20 [N_13, M_15] Z ∧ Mem.no.le N_13 ∧ Own (Kd.slice Kd.u8) 25 M_15 N_13 v_17 x_14) K ⟨([] : List (List UInt8)), 0, .slice none 0 0, Mem.no, Mem.no, H, hm, (Sep.sel hS [0, 1] (by decide)), (Mem.le.refl _), ((Own.nil (Kd.slice Kd.u8) 25 Mem.no).mono (Mem.le.refl _))⟩ (fun a w h => by obtain ⟨_, _, _, _, _, H, _⟩ := h; cases (show (none : Option ((List (List UInt8)))) = some r from H)) ?_
  clear hm hS a H
  rintro k_20 a w_20 KL_20 hKL_20 ⟨x_14, x_19, v_17, N_13, M_15, H, hm, hS, le_13, ho_18⟩
  replace H : fifo_Still.b_20 K x0 (fun v => fifo_Still.j_9 K v) (fifo_Still.l_20 K x0 (fun v => fifo_Still.j_9 K v) k_20) x_14 x_19 = some r := H
  unfold fifo_Still.b_20 at H
  refine wp_seq ?_
  refine wp_region_lit ?_
  refine s_cmp (b := decide (x_19 < (x0.length : Int))) hm rfl rfl rfl (.inr (.inr (.inl ⟨rfl, rfl⟩))) ?_
  clear hm a; intro a hm
  refine wpList_nil ?_
  replace hm : Fr 20 a [(2, .slice none 0 0), (3, v_17), (6, p0_0), (7, .int .i64 (x0.length : Int)), (8, .int .i64 x_19), (9, .bool (decide (x_19 < (x0.length : Int))))] := hm.keep [2, 3, 6, 7, 8, 9]
  refine x_then_n ?_
  refine c_seq fun KJ_23 hKJ_23 => ?_
  by_cases hc_24 : x_19 < (x0.length : Int)
  · rw [if_pos hc_24] at H
    refine c_cond_t hm rfl (decide_eq_true hc_24) ?_
    refine wp_skip ?_
    refine x_then_n (hKJ_23 _ _ ?_)
    refine wp_seq ?_
    refine c_block ?_
    refine wp_seq ?_
    refine wp_region_lit ?_
    obtain ⟨t_25, et_25, H⟩ := Option.bind_eq_some_iff.1 H
    refine v_index hm rfl Try.underlying37 ti25 rfl rfl rfl hp0_0 (hA.trans hS.old) et_25 ?_
    intro ad_26 cs_27 hk_28 hc_29
    obtain ⟨v_30, rfl, hr_31⟩ := hk_28
    clear hm a; intro a hm
    refine s_load hm rfl rfl (el_one (o := 0) hc_29 Try.underlying25 rfl rfl) ?_
    clear hm a; intro a hm
    refine s_assign hm rfl rfl ?_
    clear hm a; intro a hm
    refine wpList_nil ?_
    replace hm : Fr 20 a [(2, .slice none 0 0), (3, v_17), (5, v_30), (6, p0_0), (7, .int .i64 (x0.length : Int)), (8, .int .i64 x_19)] := hm.keep [2, 3, 5, 6, 7, 8]
    refine x_then_n ?_
    refine wp_region_lit ?_
    refine s_move hm rfl rfl ?_
    clear hm a; intro a hm
    refine s_move hm rfl rfl ?_
    clear hm a; intro a hm
    obtain ⟨t_32, et_32, H⟩ := Option.bind_eq_some_iff.1 H
    refine s_call hm rfl Try.call42 rfl (slices_Clone_sbyte_byte.calls t_25 _ t_32 w0 _ _ _ (Mem.le.refl _) (hS.enter [] (by decide)) (hr_31.mono (hA.trans (hS.le_zed []))) et_32) ?_
    rintro v_36 w_33 ⟨_, N_34, M_38, rfl, hS', hr_37⟩
    clear hm a; intro a hm
    obtain ⟨N_35, hS'', le_35, ln_35⟩ := hS.call [] (by decide) rfl (l' := []) (ow := [M_38]) rfl hS'
    replace hS : Sep w0 w_33 [N_35, M_15, M_38] Z := hS''
    clear hS' hS''
    obtain ⟨N_40, hS', le_40, lo_40⟩ := hS.freeze 1 rfl
    replace hS : Sep w0 w_33 [N_40, M_15, Mem.no] Z := hS'
    clear hS'
    have hq_45 : Reps (Kd.slice Kd.u8) N_40 ([t_32] : List (List UInt8)) _ := ((Reps.one (d := (Kd.slice Kd.u8)) (x := t_32) ⟨_, rfl, (hr_37.rd lo_40 (Mem.no_le _))⟩).append (Reps.nil (Kd.slice Kd.u8) _))
    refine s_buildSlice hm rfl Try.underlying37 ti25 rfl rfl rfl (.cons (hr_37.rd lo_40 (Mem.no_le _)).cells .nil) rfl rfl rfl hS hq_45 rfl ?_
    intro w_41 v_42 M_43 hS' ho_44
    clear hm a; intro a hm
    replace hS : Sep w0 w_41 [N_40, M_15, Mem.no, M_43] Z := hS'
    clear hS' hq_45
    obtain ⟨t_47, et_47, H⟩ := Option.bind_eq_some_iff.1 H
    refine s_append (J := N_40) (I' := N_40) (p := 1) 5864062014805 hm rfl rfl rfl Try.underlying37 ti25 rfl rfl rfl rfl hS rfl ho_18 (ho_44.src (hS.own 3)) (le_35.trans le_40) (Mem.le.refl _) et_47 ?_
    intro w_48 v_49 M_50 hS' ho_51
    clear hm a; intro a hm
    replace hS : Sep w0 w_48 [N_40, M_50, Mem.no, M_43] Z := hS'
    clear hS'
    refine s_assign hm rfl rfl ?_
    clear hm a; intro a hm
    refine wpList_nil ?_
    replace hm : Fr 20 a [(2, .slice none 0 0), (3, v_49), (6, p0_0), (7, .int .i64 (x0.length : Int)), (8, .int .i64 x_19)] := hm.keep [2, 3, 6, 7, 8]
    refine x_block_n ?_
    refine x_then_n ?_
    refine wp_region_lit ?_
    refine s_arith (r := w64 (x_19 + 1)) hm rfl rfl rfl (.inl ⟨rfl, rfl⟩) ?_
    clear hm a; intro a hm
    refine s_move hm rfl rfl ?_
    clear hm a; intro a hm
    refine wpList_nil ?_
    replace hm : Fr 20 a [(2, .slice none 0 0), (3, v_49), (6, p0_0), (7, .int .i64 (x0.length : Int)), (8, .int .i64 (w64 (x_19 + 1)))] := hm.keep [2, 3, 6, 7, 8]
    refine x_then_n (hKL_20 _ _ ?_)
    replace hS : Sep w0 w_48 [N_40, M_50, Mem.no, M_43] Z := hS
    replace hm : Fr 20 a [(2, .slice none 0 0), (3, v_49), (6, p0_0), (7, .int .i64 (x0.length : Int)), (8, .int .i64 (w64 (x_19 + 1)))] := hm.keep [2, 3, 6, 7, 8]
    exact ⟨t_47, w64 (x_19 + 1), v_49, N_40, M_50, H, hm, (Sep.sel hS [0, 1] (by decide)), (le_13.trans (le_35.trans le_40)), (ho_51.mono (Mem.le.refl _))⟩
  · rw [if_neg hc_24] at H
    refine c_cond_f hm rfl (decide_eq_false hc_24) ?_
    refine wp_exit (x_then_x (x_then_x (x_block_t ?_)))
    replace hS : Sep w0 w_20 [N_13, M_15] Z := hS
    replace hm : Fr 20 a [(2, .slice none 0 0), (3, v_17)] := hm.keep [2, 3]
    exact x_then_n (hJ_j_9 x_14 H _ _ ⟨v_17, N_13, M_15, hm, (Sep.sel hS [0, 1] (by decide)), le_13, (ho_18.mono (Mem.le.refl _))⟩)

set_option maxHeartbeats 4000000 in
set_option maxRecDepth 20000 in
theorem fifo_Push.calls (K : Nat) (x0 : List (List UInt8)) (p0_0 : Value) (x1 : List UInt8) (p1_1 : Value) (r : (List (List UInt8)) × api_Result) (w0 w : World) (Z A : Mem) (hA : A.le Z) (hS : Sep w0 w [] Z) (hp0_0 : Rd (Kd.slice Kd.u8) A p0_0 x0) (hp1_1 : Rd Kd.u8 A p1_1 x1)
    (H : fifo_Push.f K x0 x1 = some r) :
    Calls Try.prog 22 [p0_0, p1_1].toArray w (Ret fun v w' => ∃ (u0 : Value) (u1 : Value) (N : Mem) (M0 : Mem) (M1 : Mem), v = .tuple [u0, .agg [.int .i64 r.2.Err, u1, .int .i64 r.2.N].toArray].toArray ∧ Sep w0 w' [N, M0, M1] Z ∧ Own (Kd.slice Kd.u8) 25 M0 N u0 r.1 ∧ Own Kd.u8 5 M1 Mem.no u1 r.2.Val) := by
  unfold fifo_Push.f at H
  refine f_enter _ Try.func22 rfl Try.ntmps22 rfl fun a hm => ?_
  replace hm : Fr 29 a [(0, p0_0), (1, p1_1)] := hm
  replace hS := hS.start
  replace hS : Sep w0 w [Mem.no] Z := hS
  refine wp_seq ?_
  refine wp_region_lit ?_
  refine s_assign hm rfl rfl ?_
  clear hm a; intro a hm
  refine v_alloc hm rfl ti27 hS ?_
  intro w_1 g_2 hS'
  clear hm a; intro a hm
  replace hS : Sep w0 w_1 [Mem.no, Mem.one g_2 (.cells ([.int .i64 0, .slice none 0 0, .int .i64 0] : List Value).toArray 27 (0, 0))] Z := hS'
  clear hS'
  refine wpList_nil ?_
  replace hm : Fr 29 a [(0, p0_0), (1, p1_1), (4, .slice none 0 0), (5, .pointer (some ⟨g_2, 0, none⟩))] := hm.keep [0, 1, 4, 5]
  refine x_then_n ?_
  refine wp_seq ?_
  refine wp_region_lit ?_
  refine s_move hm rfl rfl ?_
  clear hm a; intro a hm
  obtain ⟨t_3, et_3, H⟩ := Option.bind_eq_some_iff.1 H
  refine s_call hm rfl Try.call45 rfl (fifo_Still.calls K x0 _ t_3 w0 _ _ _ (Mem.le.refl _) (hS.enter [] (by decide)) (hp0_0.mono (hA.trans (hS.le_zed []))) et_3) ?_
  rintro v_7 w_4 ⟨_, N_5, M_9, rfl, hS', hr_8⟩
  clear hm a; intro a hm
  obtain ⟨N_6, hS'', le_6, ln_6⟩ := hS.call [] (by decide) rfl (l' := []) (ow := [M_9]) rfl hS'
  replace hS : Sep w0 w_4 [N_6, Mem.one g_2 (.cells ([.int .i64 0, .slice none 0 0, .int .i64 0] : List Value).toArray 27 (0, 0)), M_9] Z := hS''
  clear hS' hS''
  refine s_assign hm rfl rfl ?_
  clear hm a; intro a hm
  refine wpList_nil ?_
  replace hm : Fr 29 a [(0, v_7), (1, p1_1), (4, .slice none 0 0), (5, .pointer (some ⟨g_2, 0, none⟩))] := hm.keep [0, 1, 4, 5]
  refine x_then_n ?_
  refine c_seq fun KJ_11 hKJ_11 => ?_
  refine c_block ?_
  refine wp_seq ?_
  refine wp_region_lit ?_
  refine s_move hm rfl rfl ?_
  clear hm a; intro a hm
  refine s_len hm rfl Try.underlying25 rfl hp1_1 ?_
  clear hm a; intro a hm
  refine s_cmp (b := decide ((x1.length : Int) > 16)) hm rfl rfl rfl (.inr (.inr (.inr (.inr (.inl ⟨rfl, rfl⟩))))) ?_
  clear hm a; intro a hm
  refine s_assign hm rfl rfl ?_
  clear hm a; intro a hm
  refine wpList_nil ?_
  replace hm : Fr 29 a [(0, v_7), (1, p1_1), (4, .slice none 0 0), (5, .pointer (some ⟨g_2, 0, none⟩)), (8, .bool (decide ((x1.length : Int) > 16)))] := hm.keep [0, 1, 4, 5, 8]
  refine x_then_n ?_
  by_cases hc_12 : (x1.length : Int) > 16
  · rw [if_pos hc_12] at H
    refine c_cond_t hm rfl (decide_eq_true hc_12) ?_
    refine wp_seq ?_
    refine wp_region_lit ?_
    refine s_move hm rfl rfl ?_
    clear hm a; intro a hm
    refine s_build hm rfl ti27 pl27 rfl (.cons rfl .nil) (cs := [.int .i64 1, .slice none 0 0, .int .i64 0]) rfl ?_
    clear hm a; intro a hm
    refine s_assign hm rfl rfl ?_
    clear hm a; intro a hm
    obtain ⟨w_13, hs', hS'⟩ := hS.store (P := Try.prog) (p := 1) (o := 0) (t := 27) (v := .agg [.int .i64 1, .slice none 0 0, .int .i64 0].toArray) (vs := [.int .i64 1, .slice none 0 0, .int .i64 0]) rfl ti27 rfl rfl rfl (by intro u hu; simp only [List.mem_cons, List.not_mem_nil, or_false] at hu; rcases hu with rfl | rfl | rfl <;> rfl)
    refine s_store hm rfl rfl hs' ?_
    replace hS : Sep w0 w_13 [N_6, Mem.one g_2 (.cells ([.int .i64 1, .slice none 0 0, .int .i64 0] : List Value).toArray 27 (0, 0)), M_9] Z := hS'
    clear hs' hS'
    refine wpList_nil ?_
    replace hm : Fr 29 a [(0, v_7), (1, p1_1), (4, v_7), (5, .pointer (some ⟨g_2, 0, none⟩))] := hm.keep [0, 1, 4, 5]
    refine x_then_n ?_
    refine wp_ret (x_block_r (x_then_r ?_))
    have hS' := hS.room
    replace hS : Sep w0 w_13 [N_6, Mem.one g_2 (.cells ([.int .i64 1, .slice none 0 0, .int .i64 0] : List Value).toArray 27 (0, 0)), M_9, Mem.no] Z := hS'
    clear hS'
    replace hS : Sep w0 w_13 [N_6, Mem.one g_2 (.cells ([.int .i64 1, .slice none 0 0, .int .i64 0] : List Value).toArray 27 (0, 0)), M_9, Mem.no] Z := hS
    obtain rfl := Option.some.inj H
    exact f_ret hm (rs := [.tmp 4, .cell 5 27]) rfl (.tmp rfl (.cell rfl (hS.load_agg (p := 1) (us := [.int .i64 1, .slice none 0 0, .int .i64 0]) rfl Try.underlying27 rfl ti27 rfl rfl) .nil)) ⟨_, rfl, v_7, .slice none 0 0, N_6, M_9, Mem.no, rfl, (Sep.sel hS [0, 2, 3] (by decide)), ((hr_8.mono ln_6).mono (Mem.le.refl _)), (Own.nil Kd.u8 5 Mem.no)⟩
  · rw [if_neg hc_12] at H
    refine c_cond_f hm rfl (decide_eq_false hc_12) ?_
    refine wp_seq ?_
    refine wp_region_lit ?_
    refine s_move hm rfl rfl ?_
    clear hm a; intro a hm
    refine s_lenO hm rfl Try.underlying37 rfl (hr_8.mono ln_6) ?_
    clear hm a; intro a hm
    refine s_cmp (b := decide ((t_3.length : Int) ≥ 8)) hm rfl rfl rfl (.inr (.inr (.inr (.inr (.inr ⟨rfl, rfl⟩))))) ?_
    clear hm a; intro a hm
    refine s_assign hm rfl rfl ?_
    clear hm a; intro a hm
    refine wpList_nil ?_
    replace hm : Fr 29 a [(0, v_7), (1, p1_1), (4, .slice none 0 0), (5, .pointer (some ⟨g_2, 0, none⟩)), (14, .bool (decide ((t_3.length : Int) ≥ 8)))] := hm.keep [0, 1, 4, 5, 14]
    refine x_then_n ?_
    by_cases hc_15 : (t_3.length : Int) ≥ 8
    · rw [if_pos hc_15] at H
      refine c_cond_t hm rfl (decide_eq_true hc_15) ?_
      refine wp_seq ?_
      refine wp_region_lit ?_
      refine s_move hm rfl rfl ?_
      clear hm a; intro a hm
      refine s_build hm rfl ti27 pl27 rfl (.cons rfl .nil) (cs := [.int .i64 3, .slice none 0 0, .int .i64 0]) rfl ?_
      clear hm a; intro a hm
      refine s_assign hm rfl rfl ?_
      clear hm a; intro a hm
      obtain ⟨w_16, hs', hS'⟩ := hS.store (P := Try.prog) (p := 1) (o := 0) (t := 27) (v := .agg [.int .i64 3, .slice none 0 0, .int .i64 0].toArray) (vs := [.int .i64 3, .slice none 0 0, .int .i64 0]) rfl ti27 rfl rfl rfl (by intro u hu; simp only [List.mem_cons, List.not_mem_nil, or_false] at hu; rcases hu with rfl | rfl | rfl <;> rfl)
      refine s_store hm rfl rfl hs' ?_
      replace hS : Sep w0 w_16 [N_6, Mem.one g_2 (.cells ([.int .i64 3, .slice none 0 0, .int .i64 0] : List Value).toArray 27 (0, 0)), M_9] Z := hS'
      clear hs' hS'
      refine wpList_nil ?_
      replace hm : Fr 29 a [(0, v_7), (1, p1_1), (4, v_7), (5, .pointer (some ⟨g_2, 0, none⟩))] := hm.keep [0, 1, 4, 5]
      refine x_then_n ?_
      refine wp_ret (x_block_r (x_then_r ?_))
      have hS' := hS.room
      replace hS : Sep w0 w_16 [N_6, Mem.one g_2 (.cells ([.int .i64 3, .slice none 0 0, .int .i64 0] : List Value).toArray 27 (0, 0)), M_9, Mem.no] Z := hS'
      clear hS'
      replace hS : Sep w0 w_16 [N_6, Mem.one g_2 (.cells ([.int .i64 3, .slice none 0 0, .int .i64 0] : List Value).toArray 27 (0, 0)), M_9, Mem.no] Z := hS
      obtain rfl := Option.some.inj H
      exact f_ret hm (rs := [.tmp 4, .cell 5 27]) rfl (.tmp rfl (.cell rfl (hS.load_agg (p := 1) (us := [.int .i64 3, .slice none 0 0, .int .i64 0]) rfl Try.underlying27 rfl ti27 rfl rfl) .nil)) ⟨_, rfl, v_7, .slice none 0 0, N_6, M_9, Mem.no, rfl, (Sep.sel hS [0, 2, 3] (by decide)), ((hr_8.mono ln_6).mono (Mem.le.refl _)), (Own.nil Kd.u8 5 Mem.no)⟩
    · rw [if_neg hc_15] at H
      refine c_cond_f hm rfl (decide_eq_false hc_15) ?_
      refine wp_skip ?_
      refine x_block_n ?_
      refine x_then_n (hKJ_11 _ _ ?_)
      refine wp_seq ?_
      refine wp_region_lit ?_
      refine s_move hm rfl rfl ?_
      clear hm a; intro a hm
      refine s_move hm rfl rfl ?_
      clear hm a; intro a hm
      obtain ⟨t_18, et_18, H⟩ := Option.bind_eq_some_iff.1 H
      refine s_call hm rfl Try.call42 rfl (slices_Clone_sbyte_byte.calls x1 _ t_18 w0 _ _ _ (Mem.le.refl _) (hS.enter [] (by decide)) (hp1_1.mono (hA.trans (hS.le_zed []))) et_18) ?_
      rintro v_22 w_19 ⟨_, N_20, M_24, rfl, hS', hr_23⟩
      clear hm a; intro a hm
      obtain ⟨N_21, hS'', le_21, ln_21⟩ := hS.call [] (by decide) rfl (l' := []) (ow := [M_24]) rfl hS'
      replace hS : Sep w0 w_19 [N_21, Mem.one g_2 (.cells ([.int .i64 0, .slice none 0 0, .int .i64 0] : List Value).toArray 27 (0, 0)), M_9, M_24] Z := hS''
      clear hS' hS''
      obtain ⟨N_26, hS', le_26, lo_26⟩ := hS.freeze 2 rfl
      replace hS : Sep w0 w_19 [N_26, Mem.one g_2 (.cells ([.int .i64 0, .slice none 0 0, .int .i64 0] : List Value).toArray 27 (0, 0)), M_9, Mem.no] Z := hS'
      clear hS'
      have hq_31 : Reps (Kd.slice Kd.u8) N_26 ([t_18] : List (List UInt8)) _ := ((Reps.one (d := (Kd.slice Kd.u8)) (x := t_18) ⟨_, rfl, (hr_23.rd lo_26 (Mem.no_le _))⟩).append (Reps.nil (Kd.slice Kd.u8) _))
      refine s_buildSlice hm rfl Try.underlying37 ti25 rfl rfl rfl (.cons (hr_23.rd lo_26 (Mem.no_le _)).cells .nil) rfl rfl rfl hS hq_31 rfl ?_
      intro w_27 v_28 M_29 hS' ho_30
      clear hm a; intro a hm
      replace hS : Sep w0 w_27 [N_26, Mem.one g_2 (.cells ([.int .i64 0, .slice none 0 0, .int .i64 0] : List Value).toArray 27 (0, 0)), M_9, Mem.no, M_29] Z := hS'
      clear hS' hq_31
      obtain ⟨t_33, et_33, H⟩ := Option.bind_eq_some_iff.1 H
      refine s_append (J := N_26) (I' := N_26) (p := 2) 5864062014805 hm rfl rfl rfl Try.underlying37 ti25 rfl rfl rfl rfl hS rfl (hr_8.mono ln_6) (ho_30.src (hS.own 4)) (le_21.trans le_26) (Mem.le.refl _) et_33 ?_
      intro w_34 v_35 M_36 hS' ho_37
      clear hm a; intro a hm
      replace hS : Sep w0 w_34 [N_26, Mem.one g_2 (.cells ([.int .i64 0, .slice none 0 0, .int .i64 0] : List Value).toArray 27 (0, 0)), M_36, Mem.no, M_29] Z := hS'
      clear hS'
      refine s_move hm rfl rfl ?_
      clear hm a; intro a hm
      refine s_lenO hm rfl Try.underlying37 rfl (hr_8.mono ln_6) ?_
      clear hm a; intro a hm
      refine s_arith (r := w64 ((t_3.length : Int) + 1)) hm rfl rfl rfl (.inl ⟨rfl, rfl⟩) ?_
      clear hm a; intro a hm
      refine s_build hm rfl ti27 pl27 rfl (.cons rfl .nil) (cs := [.int .i64 0, .slice none 0 0, .int .i64 (w64 ((t_3.length : Int) + 1))]) rfl ?_
      clear hm a; intro a hm
      refine s_assign hm rfl rfl ?_
      clear hm a; intro a hm
      obtain ⟨w_39, hs', hS'⟩ := hS.store (P := Try.prog) (p := 1) (o := 0) (t := 27) (v := .agg [.int .i64 0, .slice none 0 0, .int .i64 (w64 ((t_3.length : Int) + 1))].toArray) (vs := [.int .i64 0, .slice none 0 0, .int .i64 (w64 ((t_3.length : Int) + 1))]) rfl ti27 rfl rfl rfl (by intro u hu; simp only [List.mem_cons, List.not_mem_nil, or_false] at hu; rcases hu with rfl | rfl | rfl <;> rfl)
      refine s_store hm rfl rfl hs' ?_
      replace hS : Sep w0 w_39 [N_26, Mem.one g_2 (.cells ([.int .i64 0, .slice none 0 0, .int .i64 (w64 ((t_3.length : Int) + 1))] : List Value).toArray 27 (0, 0)), M_36, Mem.no, M_29] Z := hS'
      clear hs' hS'
      refine wpList_nil ?_
      replace hm : Fr 29 a [(4, v_35), (5, .pointer (some ⟨g_2, 0, none⟩))] := hm.keep [4, 5]
      refine x_then_n ?_
      refine wp_ret ?_
      have hS' := hS.room
      replace hS : Sep w0 w_39 [N_26, Mem.one g_2 (.cells ([.int .i64 0, .slice none 0 0, .int .i64 (w64 ((t_3.length : Int) + 1))] : List Value).toArray 27 (0, 0)), M_36, Mem.no, M_29, Mem.no] Z := hS'
      clear hS'
      replace hS : Sep w0 w_39 [N_26, Mem.one g_2 (.cells ([.int .i64 0, .slice none 0 0, .int .i64 (w64 ((t_3.length : Int) + 1))] : List Value).toArray 27 (0, 0)), M_36, Mem.no, M_29, Mem.no] Z := hS
      obtain rfl := Option.some.inj H
      exact f_ret hm (rs := [.tmp 4, .cell 5 27]) rfl (.tmp rfl (.cell rfl (hS.load_agg (p := 1) (us := [.int .i64 0, .slice none 0 0, .int .i64 (w64 ((t_3.length : Int) + 1))]) rfl Try.underlying27 rfl ti27 rfl rfl) .nil)) ⟨_, rfl, v_35, .slice none 0 0, N_26, M_36, Mem.no, rfl, (Sep.sel hS [0, 2, 5] (by decide)), (ho_37.mono (Mem.le.refl _)), (Own.nil Kd.u8 5 Mem.no)⟩

set_option maxHeartbeats 4000000 in
set_option maxRecDepth 20000 in
theorem hocketref4_SameRows.calls (K : Nat) (x0 : List (List UInt8)) (p0_0 : Value) (x1 : List (List UInt8)) (p1_1 : Value) (r : Bool) (w0 w : World) (Z A : Mem) (hA : A.le Z) (hS : Sep w0 w [] Z) (hp0_0 : Rd (Kd.slice Kd.u8) A p0_0 x0) (hp1_1 : Rd (Kd.slice Kd.u8) A p1_1 x1)
    (H : hocketref4_SameRows.f K x0 x1 = some r) :
    Calls Try.prog 23 [p0_0, p1_1].toArray w (Ret fun v w' => ∃ (N : Mem), v = .bool r ∧ Sep w0 w' [N] Z) := by
  unfold hocketref4_SameRows.f at H
  refine f_enter _ Try.func23 rfl Try.ntmps23 rfl fun a hm => ?_
  replace hm : Fr 28 a [(0, p0_0), (1, p1_1)] := hm
  replace hS := hS.start
  replace hS : Sep w0 w [Mem.no] Z := hS
  refine wp_seq ?_
  refine wp_region_lit ?_
  refine s_assign hm rfl rfl ?_
  clear hm a; intro a hm
  refine wpList_nil ?_
  replace hm : Fr 28 a [(0, p0_0), (1, p1_1), (4, .bool false)] := hm.keep [0, 1, 4]
  refine x_then_n ?_
  refine c_seq fun KJ_1 hKJ_1 => ?_
  refine wp_seq ?_
  refine wp_region_lit ?_
  refine s_move hm rfl rfl ?_
  clear hm a; intro a hm
  refine s_len hm rfl Try.underlying37 rfl hp0_0 ?_
  clear hm a; intro a hm
  refine s_move hm rfl rfl ?_
  clear hm a; intro a hm
  refine s_len hm rfl Try.underlying37 rfl hp1_1 ?_
  clear hm a; intro a hm
  refine s_cmp (b := ((x0.length : Int) != (x1.length : Int))) hm rfl rfl rfl (.inr (.inl ⟨rfl, rfl⟩)) ?_
  clear hm a; intro a hm
  refine wpList_nil ?_
  replace hm : Fr 28 a [(0, p0_0), (1, p1_1), (4, .bool false), (10, .bool ((x0.length : Int) != (x1.length : Int)))] := hm.keep [0, 1, 4, 10]
  refine x_then_n ?_
  by_cases hc_2 : (x0.length : Int) = (x1.length : Int)
  · rw [if_pos hc_2] at H
    refine c_cond_f hm rfl (bne_eq_false_iff_eq.2 hc_2) ?_
    refine wp_skip ?_
    refine x_then_n (hKJ_1 _ _ ?_)
    refine c_seq fun KJ_3 hKJ_3 => ?_
    refine wp_seq ?_
    refine wp_region_lit ?_
    refine s_assign hm rfl rfl ?_
    clear hm a; intro a hm
    refine wpList_nil ?_
    replace hm : Fr 28 a [(0, p0_0), (1, p1_1), (4, .bool false), (5, .int .i64 0)] := hm.keep [0, 1, 4, 5]
    refine x_then_n ?_
    have hJ_j_6 : hocketref4_SameRows.j_6 K = some r → ∀ (a : Act) (w_5 : World), (∃ (N_4 : Mem), Fr 28 a [(4, .bool false)] ∧ Sep w0 w_5 [N_4] Z ∧ Mem.no.le N_4) → KJ_3 a w_5 := by
      clear H hm hS a
      rintro H a w_5 ⟨N_4, hm, hS, le_4⟩
      unfold hocketref4_SameRows.j_6 at H
      refine hKJ_3 _ _ ?_
      refine wp_seq ?_
      refine wp_region_lit ?_
      refine s_assign hm rfl rfl ?_
      clear hm a; intro a hm
      refine wpList_nil ?_
      replace hm : Fr 28 a [(4, .bool true)] := hm.keep [4]
      refine x_then_n ?_
      refine wp_ret ?_
      obtain rfl := Option.some.inj H
      exact f_ret hm (rs := [.tmp 4]) rfl (.tmp rfl .nil) ⟨_, rfl, N_4, rfl, (Sep.sel hS [0] (by decide))⟩
    clear hKJ_3
    replace hS : Sep w0 w [Mem.no] Z := hS
    replace hm : Fr 28 a [(0, p0_0), (1, p1_1), (4, .bool false), (5, .int .i64 0)] := hm.keep [0, 1, 4, 5]
    refine c_block ?_
    refine c_loop (fun k_9 a w_9 => ∃ (x_8 : Int) (N_7 : Mem), hocketref4_SameRows.l_9 K x0 x1 (fun v => hocketref4_SameRows.j_6 K) k_9 x_8 = some r ∧ Fr 28 a [(0, p0_0), (1, p1_1), (4, .bool false), (5, .int .i64 x_8)] ∧ Sep w0 w_9 [N_7] Z ∧ Mem.no.le N_7) K ⟨0, Mem.no, H, hm, (Sep.sel hS [0] (by decide)), (Mem.le.refl _)⟩ (fun a w h => by obtain ⟨_, _, H, _⟩ := h; cases (show (none : Option (Bool)) = some r from H)) ?_
    clear hm hS a H
    rintro k_9 a w_9 KL_9 hKL_9 ⟨x_8, N_7, H, hm, hS, le_7⟩
    replace H : hocketref4_SameRows.b_9 K x0 x1 (fun v => hocketref4_SameRows.j_6 K) (hocketref4_SameRows.l_9 K x0 x1 (fun v => hocketref4_SameRows.j_6 K) k_9) x_8 = some r := H
    unfold hocketref4_SameRows.b_9 at H
    refine c_seq fun KJ_11 hKJ_11 => ?_
    refine wp_seq ?_
    refine wp_region_lit ?_
    refine s_move hm rfl rfl ?_
    clear hm a; intro a hm
    refine s_move hm rfl rfl ?_
    clear hm a; intro a hm
    refine s_len hm rfl Try.underlying37 rfl hp0_0 ?_
    clear hm a; intro a hm
    refine s_cmp (b := decide (x_8 < (x0.length : Int))) hm rfl rfl rfl (.inr (.inr (.inl ⟨rfl, rfl⟩))) ?_
    clear hm a; intro a hm
    refine wpList_nil ?_
    replace hm : Fr 28 a [(0, p0_0), (1, p1_1), (4, .bool false), (5, .int .i64 x_8), (14, .bool (decide (x_8 < (x0.length : Int))))] := hm.keep [0, 1, 4, 5, 14]
    refine x_then_n ?_
    by_cases hc_12 : x_8 < (x0.length : Int)
    · rw [if_pos hc_12] at H
      refine c_cond_t hm rfl (decide_eq_true hc_12) ?_
      refine wp_skip ?_
      refine x_then_n (hKJ_11 _ _ ?_)
      refine c_seq fun KJ_13 hKJ_13 => ?_
      refine c_block ?_
      refine wp_seq ?_
      refine h_begin (S := fun w => Sep w0 w [N_7] Z) 11 (by kernel_rfl) rfl [false, false, false, false, false, false, false, false, false, false, false].toArray rfl hS fun w_14 hS => ?_
      replace hS : Sep w0 w_14 [N_7] Z := hS
      refine h_take 0 [true, false, false, false, false, false, false, false, false, false, false].toArray rfl (by kernel_rfl) (by kernel_rfl) (by kernel_rfl) (fun _ _ _ _ h => h) rfl rfl rfl rfl hm (hS.sub (.cons (Mem.le.refl _) (Sub.nil _))) (v := p0_0) (fun w hS => r_move hm rfl) ?_
      clear hm a; intro a hm
      refine h_take 1 [true, true, false, false, false, false, false, false, false, false, false].toArray rfl (by kernel_rfl) (by kernel_rfl) (by kernel_rfl) (fun _ _ _ _ h => h) rfl rfl rfl rfl hm (hS.sub (.cons (Mem.le.refl _) (Sub.nil _))) (v := .int .i64 x_8) (fun w hS => r_move hm rfl) ?_
      clear hm a; intro a hm
      obtain ⟨t_15, et_15, H⟩ := Option.bind_eq_some_iff.1 H
      refine h_takeE 2 [true, true, true, false, false, false, false, false, false, false, false].toArray rfl (by kernel_rfl) (by kernel_rfl) (by kernel_rfl) (fun _ _ _ _ h => h) rfl rfl rfl rfl hm (hS.sub (.cons (Mem.le.refl _) (Sub.nil _))) (f := fun ad => .pointer (some ad)) (r_index hm Try.underlying37 ti25 rfl rfl rfl hp0_0 et_15) ?_
      rintro ad_16 ⟨cs_17, hk_18, hc_19⟩
      obtain ⟨v_20, rfl, hr_21⟩ := hk_18
      clear hm a; intro a hm
      refine h_take 3 [true, true, true, true, false, false, false, false, false, false, false].toArray rfl (by kernel_rfl) (by kernel_rfl) (by kernel_rfl) (fun _ _ _ _ h => h) rfl rfl rfl rfl hm (hS.sub (.cons (Mem.le.refl _) (Sub.nil _))) (v := v_20) (fun w hS => r_load hm rfl (el_one (o := 0) (fun j c h => Mem.cell_le (hA.trans hS.old) (hc_19 j c h)) Try.underlying25 rfl rfl)) ?_
      clear hm a; intro a hm
      refine h_take 4 [true, true, true, true, true, false, false, false, false, false, false].toArray rfl (by kernel_rfl) (by kernel_rfl) (by kernel_rfl) (fun _ _ _ _ h => h) rfl rfl rfl rfl hm (hS.sub (.cons (Mem.le.refl _) (Sub.nil _))) (v := .string ⟨t_15.toArray⟩) (fun w hS => r_b2s hm Try.underlying25 Try.underlying5 Try.underlying9 rfl hr_21 (hA.trans hS.old)) ?_
      clear hm a; intro a hm
      refine h_take 5 [true, true, true, true, true, true, false, false, false, false, false].toArray rfl (by kernel_rfl) (by kernel_rfl) (by kernel_rfl) (fun _ _ _ _ h => h) rfl rfl rfl rfl hm (hS.sub (.cons (Mem.le.refl _) (Sub.nil _))) (v := p1_1) (fun w hS => r_move hm rfl) ?_
      clear hm a; intro a hm
      refine h_take 6 [true, true, true, true, true, true, true, false, false, false, false].toArray rfl (by kernel_rfl) (by kernel_rfl) (by kernel_rfl) (fun _ _ _ _ h => h) rfl rfl rfl rfl hm (hS.sub (.cons (Mem.le.refl _) (Sub.nil _))) (v := .int .i64 x_8) (fun w hS => r_move hm rfl) ?_
      clear hm a; intro a hm
      obtain ⟨t_22, et_22, H⟩ := Option.bind_eq_some_iff.1 H
      refine h_takeE 7 [true, true, true, true, true, true, true, true, false, false, false].toArray rfl (by kernel_rfl) (by kernel_rfl) (by kernel_rfl) (fun _ _ _ _ h => h) rfl rfl rfl rfl hm (hS.sub (.cons (Mem.le.refl _) (Sub.nil _))) (f := fun ad => .pointer (some ad)) (r_index hm Try.underlying37 ti25 rfl rfl rfl hp1_1 et_22) ?_
      rintro ad_23 ⟨cs_24, hk_25, hc_26⟩
      obtain ⟨v_27, rfl, hr_28⟩ := hk_25
      clear hm a; intro a hm
      refine h_take 8 [true, true, true, true, true, true, true, true, true, false, false].toArray rfl (by kernel_rfl) (by kernel_rfl) (by kernel_rfl) (fun _ _ _ _ h => h) rfl rfl rfl rfl hm (hS.sub (.cons (Mem.le.refl _) (Sub.nil _))) (v := v_27) (fun w hS => r_load hm rfl (el_one (o := 0) (fun j c h => Mem.cell_le (hA.trans hS.old) (hc_26 j c h)) Try.underlying25 rfl rfl)) ?_
      clear hm a; intro a hm
      refine h_take 9 [true, true, true, true, true, true, true, true, true, true, false].toArray rfl (by kernel_rfl) (by kernel_rfl) (by kernel_rfl) (fun _ _ _ _ h => h) rfl rfl rfl rfl hm (hS.sub (.cons (Mem.le.refl _) (Sub.nil _))) (v := .string ⟨t_22.toArray⟩) (fun w hS => r_b2s hm Try.underlying25 Try.underlying5 Try.underlying9 rfl hr_28 (hA.trans hS.old)) ?_
      clear hm a; intro a hm
      refine h_take 10 [true, true, true, true, true, true, true, true, true, true, true].toArray rfl (by kernel_rfl) (by kernel_rfl) (by kernel_rfl) (fun _ _ _ _ h => h) rfl rfl rfl rfl hm (hS.sub (.cons (Mem.le.refl _) (Sub.nil _))) (v := .bool (!(t_15 == t_22))) (fun w hS => r_strEq (b := !(t_15 == t_22)) hm rfl rfl (.inr ⟨rfl, rfl⟩)) ?_
      clear hm a; intro a hm
      refine h_done (by kernel_rfl) ?_
      replace hm : Fr 28 a [(0, p0_0), (1, p1_1), (4, .bool false), (5, .int .i64 x_8), (27, .bool (!(t_15 == t_22)))] := hm.keep [0, 1, 4, 5, 27]
      refine x_then_n ?_
      by_cases hc_29 : t_15 = t_22
      · rw [if_pos hc_29] at H
        refine c_cond_f hm rfl (nf (beq_iff_eq.2 hc_29)) ?_
        refine wp_skip ?_
        refine x_block_n ?_
        refine x_then_n (hKJ_13 _ _ ?_)
        refine wp_region_lit ?_
        refine s_move hm rfl rfl ?_
        clear hm a; intro a hm
        refine s_arith (r := w64 (x_8 + 1)) hm rfl rfl rfl (.inl ⟨rfl, rfl⟩) ?_
        clear hm a; intro a hm
        refine s_assign hm rfl rfl ?_
        clear hm a; intro a hm
        refine wpList_nil ?_
        replace hm : Fr 28 a [(0, p0_0), (1, p1_1), (4, .bool false), (5, .int .i64 (w64 (x_8 + 1)))] := hm.keep [0, 1, 4, 5]
        refine x_then_n (hKL_9 _ _ ?_)
        replace hS : Sep w0 w_14 [N_7] Z := hS
        replace hm : Fr 28 a [(0, p0_0), (1, p1_1), (4, .bool false), (5, .int .i64 (w64 (x_8 + 1)))] := hm.keep [0, 1, 4, 5]
        exact ⟨w64 (x_8 + 1), N_7, H, hm, (Sep.sel hS [0] (by decide)), le_7⟩
      · rw [if_neg hc_29] at H
        refine c_cond_t hm rfl (nt (beq_eq_false_iff_ne.2 hc_29)) ?_
        refine wp_seq ?_
        refine wp_region_lit ?_
        refine s_assign hm rfl rfl ?_
        clear hm a; intro a hm
        refine wpList_nil ?_
        replace hm : Fr 28 a [(0, p0_0), (1, p1_1), (4, .bool false), (5, .int .i64 x_8)] := hm.keep [0, 1, 4, 5]
        refine x_then_n ?_
        refine wp_ret (x_block_r (x_then_r (x_then_r (x_block_r (x_then_r ?_)))))
        obtain rfl := Option.some.inj H
        exact f_ret hm (rs := [.tmp 4]) rfl (.tmp rfl .nil) ⟨_, rfl, N_7, rfl, (Sep.sel hS [0] (by decide))⟩
    · rw [if_neg hc_12] at H
      refine c_cond_f hm rfl (decide_eq_false hc_12) ?_
      refine wp_exit (x_then_x (x_then_x (x_block_t ?_)))
      replace hS : Sep w0 w_9 [N_7] Z := hS
      replace hm : Fr 28 a [(4, .bool false)] := hm.keep [4]
      exact x_then_n (hJ_j_6  H _ _ ⟨N_7, hm, (Sep.sel hS [0] (by decide)), le_7⟩)
  · rw [if_neg hc_2] at H
    refine c_cond_t hm rfl (bne_iff_ne.2 hc_2) ?_
    refine wp_seq ?_
    refine wp_region_lit ?_
    refine s_assign hm rfl rfl ?_
    clear hm a; intro a hm
    refine wpList_nil ?_
    replace hm : Fr 28 a [(0, p0_0), (1, p1_1), (4, .bool false)] := hm.keep [0, 1, 4]
    refine x_then_n ?_
    refine wp_ret (x_then_r ?_)
    obtain rfl := Option.some.inj H
    exact f_ret hm (rs := [.tmp 4]) rfl (.tmp rfl .nil) ⟨_, rfl, Mem.no, rfl, (Sep.sel hS [0] (by decide))⟩

set_option maxHeartbeats 4000000 in
set_option maxRecDepth 20000 in
theorem fifo_Pop.calls (K : Nat) (x0 : List (List UInt8)) (p0_0 : Value) (r : (List (List UInt8)) × api_Result) (w0 w : World) (Z A : Mem) (hA : A.le Z) (hS : Sep w0 w [] Z) (hp0_0 : Rd (Kd.slice Kd.u8) A p0_0 x0)
    (H : fifo_Pop.f K x0 = some r) :
    Calls Try.prog 24 [p0_0].toArray w (Ret fun v w' => ∃ (u0 : Value) (u1 : Value) (N : Mem), v = .tuple [u0, .agg [.int .i64 r.2.Err, u1, .int .i64 r.2.N].toArray].toArray ∧ Sep w0 w' [N] Z ∧ Rd (Kd.slice Kd.u8) N u0 r.1 ∧ Rd Kd.u8 N u1 r.2.Val) := by
  unfold fifo_Pop.f at H
  refine f_enter _ Try.func24 rfl Try.ntmps24 rfl fun a hm => ?_
  replace hm : Fr 17 a [(0, p0_0)] := hm
  replace hS := hS.start
  replace hS : Sep w0 w [Mem.no] Z := hS
  refine wp_seq ?_
  refine wp_region_lit ?_
  refine s_assign hm rfl rfl ?_
  clear hm a; intro a hm
  refine v_alloc hm rfl ti27 hS ?_
  intro w_1 g_2 hS'
  clear hm a; intro a hm
  replace hS : Sep w0 w_1 [Mem.no, Mem.one g_2 (.cells ([.int .i64 0, .slice none 0 0, .int .i64 0] : List Value).toArray 27 (0, 0))] Z := hS'
  clear hS'
  refine wpList_nil ?_
  replace hm : Fr 17 a [(0, p0_0), (2, .slice none 0 0), (3, .pointer (some ⟨g_2, 0, none⟩))] := hm.keep [0, 2, 3]
  refine x_then_n ?_
  refine wp_seq ?_
  refine wp_region_lit ?_
  refine s_move hm rfl rfl ?_
  clear hm a; intro a hm
  obtain ⟨t_3, et_3, H⟩ := Option.bind_eq_some_iff.1 H
  refine s_call hm rfl Try.call45 rfl (fifo_Still.calls K x0 _ t_3 w0 _ _ _ (Mem.le.refl _) (hS.enter [] (by decide)) (hp0_0.mono (hA.trans (hS.le_zed []))) et_3) ?_
  rintro v_7 w_4 ⟨_, N_5, M_9, rfl, hS', hr_8⟩
  clear hm a; intro a hm
  obtain ⟨N_6, hS'', le_6, ln_6⟩ := hS.call [] (by decide) rfl (l' := []) (ow := [M_9]) rfl hS'
  replace hS : Sep w0 w_4 [N_6, Mem.one g_2 (.cells ([.int .i64 0, .slice none 0 0, .int .i64 0] : List Value).toArray 27 (0, 0)), M_9] Z := hS''
  clear hS' hS''
  refine s_assign hm rfl rfl ?_
  clear hm a; intro a hm
  refine wpList_nil ?_
  replace hm : Fr 17 a [(0, v_7), (2, .slice none 0 0), (3, .pointer (some ⟨g_2, 0, none⟩))] := hm.keep [0, 2, 3]
  refine x_then_n ?_
  refine c_seq fun KJ_11 hKJ_11 => ?_
  refine wp_seq ?_
  refine wp_region_lit ?_
  refine s_move hm rfl rfl ?_
  clear hm a; intro a hm
  refine s_lenO hm rfl Try.underlying37 rfl (hr_8.mono ln_6) ?_
  clear hm a; intro a hm
  refine s_cmp (b := ((t_3.length : Int) == 0)) hm rfl rfl rfl (.inl ⟨rfl, rfl⟩) ?_
  clear hm a; intro a hm
  refine wpList_nil ?_
  replace hm : Fr 17 a [(0, v_7), (2, .slice none 0 0), (3, .pointer (some ⟨g_2, 0, none⟩)), (8, .bool ((t_3.length : Int) == 0))] := hm.keep [0, 2, 3, 8]
  refine x_then_n ?_
  by_cases hc_12 : (t_3.length : Int) = 0
  · rw [if_pos hc_12] at H
    refine c_cond_t hm rfl (beq_iff_eq.2 hc_12) ?_
    refine wp_seq ?_
    refine wp_region_lit ?_
    refine s_move hm rfl rfl ?_
    clear hm a; intro a hm
    refine s_build hm rfl ti27 pl27 rfl (.cons rfl .nil) (cs := [.int .i64 4, .slice none 0 0, .int .i64 0]) rfl ?_
    clear hm a; intro a hm
    refine s_assign hm rfl rfl ?_
    clear hm a; intro a hm
    obtain ⟨w_13, hs', hS'⟩ := hS.store (P := Try.prog) (p := 1) (o := 0) (t := 27) (v := .agg [.int .i64 4, .slice none 0 0, .int .i64 0].toArray) (vs := [.int .i64 4, .slice none 0 0, .int .i64 0]) rfl ti27 rfl rfl rfl (by intro u hu; simp only [List.mem_cons, List.not_mem_nil, or_false] at hu; rcases hu with rfl | rfl | rfl <;> rfl)
    refine s_store hm rfl rfl hs' ?_
    replace hS : Sep w0 w_13 [N_6, Mem.one g_2 (.cells ([.int .i64 4, .slice none 0 0, .int .i64 0] : List Value).toArray 27 (0, 0)), M_9] Z := hS'
    clear hs' hS'
    refine wpList_nil ?_
    replace hm : Fr 17 a [(0, v_7), (2, v_7), (3, .pointer (some ⟨g_2, 0, none⟩))] := hm.keep [0, 2, 3]
    refine x_then_n ?_
    refine wp_ret (x_then_r ?_)
    obtain ⟨N_14, hS', le_14, lo_14⟩ := hS.freeze 1 rfl
    replace hS : Sep w0 w_13 [N_14, Mem.one g_2 (.cells ([.int .i64 4, .slice none 0 0, .int .i64 0] : List Value).toArray 27 (0, 0)), Mem.no] Z := hS'
    clear hS'
    obtain rfl := Option.some.inj H
    exact f_ret hm (rs := [.tmp 2, .cell 3 27]) rfl (.tmp rfl (.cell rfl (hS.load_agg (p := 1) (us := [.int .i64 4, .slice none 0 0, .int .i64 0]) rfl Try.underlying27 rfl ti27 rfl rfl) .nil)) ⟨_, rfl, v_7, .slice none 0 0, N_14, rfl, (Sep.sel hS [0] (by decide)), ((hr_8.mono ln_6).rd lo_14 le_14), (Rd.nil _ _)⟩
  · rw [if_neg hc_12] at H
    refine c_cond_f hm rfl (beq_eq_false_iff_ne.2 hc_12) ?_
    refine wp_skip ?_
    refine x_then_n (hKJ_11 _ _ ?_)
    refine wp_seq ?_
    obtain ⟨N_15, hS', le_15, lo_15⟩ := hS.freeze 1 rfl
    replace hS : Sep w0 w_4 [N_15, Mem.one g_2 (.cells ([.int .i64 0, .slice none 0 0, .int .i64 0] : List Value).toArray 27 (0, 0)), Mem.no] Z := hS'
    clear hS'
    refine h_begin (S := fun w => Sep w0 w [N_15, Mem.no, Mem.no] Z) 8 (by kernel_rfl) rfl [false, false, false, false, false, false, false, false].toArray rfl hS fun w_16 hS => ?_
    replace hS : Sep w0 w_16 [N_15, Mem.one g_2 (.cells ([.int .i64 0, .slice none 0 0, .int .i64 0] : List Value).toArray 27 (0, 0)), Mem.no] Z := hS
    refine h_take 0 [true, false, false, false, false, false, false, false].toArray rfl (by kernel_rfl) (by kernel_rfl) (by kernel_rfl) (fun _ _ _ _ h => h) rfl rfl rfl rfl hm (hS.sub (.cons (Mem.le.refl _) (.cons (Mem.no_le _) (.cons (Mem.no_le _) (Sub.nil _))))) (v := v_7) (fun w hS => r_move hm rfl) ?_
    clear hm a; intro a hm
    obtain ⟨t_17, et_17, H⟩ := Option.bind_eq_some_iff.1 H
    refine h_takeE 1 [true, true, false, false, false, false, false, false].toArray rfl (by kernel_rfl) (by kernel_rfl) (by kernel_rfl) (fun _ _ _ _ h => h) rfl rfl rfl rfl hm (hS.sub (.cons (Mem.le.refl _) (.cons (Mem.no_le _) (.cons (Mem.no_le _) (Sub.nil _))))) (f := fun v => v) (r_slice hm Try.underlying37 ti25 rfl rfl ((hr_8.mono ln_6).rd lo_15 le_15) rfl rfl et_17) ?_
    intro v_18 hr_19
    clear hm a; intro a hm
    refine h_take 2 [true, true, true, false, false, false, false, false].toArray rfl (by kernel_rfl) (by kernel_rfl) (by kernel_rfl) (fun _ _ _ _ h => h) rfl rfl rfl rfl hm (hS.sub (.cons (Mem.le.refl _) (.cons (Mem.no_le _) (.cons (Mem.no_le _) (Sub.nil _))))) (v := v_7) (fun w hS => r_move hm rfl) ?_
    clear hm a; intro a hm
    obtain ⟨t_20, et_20, H⟩ := Option.bind_eq_some_iff.1 H
    refine h_takeE 3 [true, true, true, true, false, false, false, false].toArray rfl (by kernel_rfl) (by kernel_rfl) (by kernel_rfl) (fun _ _ _ _ h => h) rfl rfl rfl rfl hm (hS.sub (.cons (Mem.le.refl _) (.cons (Mem.no_le _) (.cons (Mem.no_le _) (Sub.nil _))))) (f := fun ad => .pointer (some ad)) (r_index hm Try.underlying37 ti25 rfl rfl rfl ((hr_8.mono ln_6).rd lo_15 le_15) et_20) ?_
    rintro ad_21 ⟨cs_22, hk_23, hc_24⟩
    obtain ⟨v_25, rfl, hr_26⟩ := hk_23
    clear hm a; intro a hm
    refine h_take 4 [true, true, true, true, true, false, false, false].toArray rfl (by kernel_rfl) (by kernel_rfl) (by kernel_rfl) (fun _ _ _ _ h => h) rfl rfl rfl rfl hm (hS.sub (.cons (Mem.le.refl _) (.cons (Mem.no_le _) (.cons (Mem.no_le _) (Sub.nil _))))) (v := v_25) (fun w hS => r_load hm rfl (el_one (o := 0) (fun j c h => Mem.cell_le ((Mem.le.refl _).trans (hS.own 0)) (hc_24 j c h)) Try.underlying25 rfl rfl)) ?_
    clear hm a; intro a hm
    refine h_take 5 [true, true, true, true, true, true, false, false].toArray rfl (by kernel_rfl) (by kernel_rfl) (by kernel_rfl) (fun _ _ _ _ h => h) rfl rfl rfl rfl hm (hS.sub (.cons (Mem.le.refl _) (.cons (Mem.no_le _) (.cons (Mem.no_le _) (Sub.nil _))))) (v := .agg [.int .i64 0, v_25, .int .i64 0].toArray) (fun w hS => r_build hm ti27 pl27 rfl (.cons hr_26.cells .nil) (cs := [.int .i64 0, v_25, .int .i64 0]) rfl) ?_
    clear hm a; intro a hm
    refine h_take 6 [true, true, true, true, true, true, true, false].toArray rfl (by kernel_rfl) (by kernel_rfl) (by kernel_rfl) (fun _ _ _ _ h => h) rfl rfl rfl rfl hm (hS.sub (.cons (Mem.le.refl _) (.cons (Mem.no_le _) (.cons (Mem.no_le _) (Sub.nil _))))) (v := v_18) (fun w hS => r_assign hm rfl) ?_
    clear hm a; intro a hm
    refine h_event 7 [true, true, true, true, true, true, true, true].toArray rfl (by kernel_rfl) rfl ?_
    obtain ⟨w_27, hs', hS'⟩ := hS.store (P := Try.prog) (p := 1) (o := 0) (t := 27) (v := .agg [.int .i64 0, v_25, .int .i64 0].toArray) (vs := [.int .i64 0, v_25, .int .i64 0]) rfl ti27 rfl rfl rfl (by intro u hu; simp only [List.mem_cons, List.not_mem_nil, or_false] at hu; rcases hu with rfl | rfl | rfl <;> first | rfl | exact hr_26.one)
    refine s_store hm rfl rfl hs' ?_
    replace hS : Sep w0 w_27 [N_15, Mem.one g_2 (.cells ([.int .i64 0, v_25, .int .i64 0] : List Value).toArray 27 (0, 0)), Mem.no] Z := hS'
    clear hs' hS'
    refine wpList_nil ?_
    refine x_then_n ⟨(hS.sub (.cons (Mem.le.refl _) (.cons (Mem.no_le _) (.cons (Mem.no_le _) (Sub.nil _))))), ?_⟩
    refine h_done (by kernel_rfl) ?_
    replace hm : Fr 17 a [(2, v_18), (3, .pointer (some ⟨g_2, 0, none⟩))] := hm.keep [2, 3]
    refine x_then_n ?_
    refine wp_ret ?_
    obtain rfl := Option.some.inj H
    exact f_ret hm (rs := [.tmp 2, .cell 3 27]) rfl (.tmp rfl (.cell rfl (hS.load_agg (p := 1) (us := [.int .i64 0, v_25, .int .i64 0]) rfl Try.underlying27 rfl ti27 rfl rfl) .nil)) ⟨_, rfl, v_18, v_25, N_15, rfl, (Sep.sel hS [0] (by decide)), hr_19, hr_26⟩

set_option maxHeartbeats 4000000 in
set_option maxRecDepth 20000 in
theorem hocketlaw5_awake.calls (K : Nat) (r : Unit) (w0 w : World) (Z A : Mem) (hA : A.le Z) (hS : Sep w0 w [] Z)
    (H : hocketlaw5_awake.f K = some r) :
    Calls Try.prog 25 [].toArray w (Ret fun v w' => ∃ (N : Mem), v = .bool true ∧ Sep w0 w' [N] Z) := by
  unfold hocketlaw5_awake.f at H
  refine f_enter _ Try.func25 rfl Try.ntmps25 rfl fun a hm => ?_
  replace hm : Fr 59 a [] := hm
  replace hS := hS.start
  replace hS : Sep w0 w [Mem.no] Z := hS
  refine wp_seq ?_
  refine wp_region_lit ?_
  refine s_assign hm rfl rfl ?_
  clear hm a; intro a hm
  refine wpList_nil ?_
  replace hm : Fr 59 a [(0, .bool false)] := hm.keep [0]
  refine x_then_n ?_
  refine wp_seq ?_
  refine wp_region_lit ?_
  have hq_5 : Reps Kd.u8 Mem.no ([(97 : UInt8)] : List UInt8) _ := ((Reps.one (d := Kd.u8) (x := (97 : UInt8)) (show Kd.u8.K _ _ [.int .u8 ((97 : UInt8).toNat : Int)] from rfl)).append (Reps.nil Kd.u8 _))
  refine s_buildSlice hm rfl Try.underlying25 ti5 rfl rfl rfl (.cons rfl .nil) rfl rfl rfl hS hq_5 rfl ?_
  intro w_1 v_2 M_3 hS' ho_4
  clear hm a; intro a hm
  replace hS : Sep w0 w_1 [Mem.no, M_3] Z := hS'
  clear hS' hq_5
  refine s_conv_sl (p := 1) hm rfl Try.underlying25 Try.underlying5 rfl ho_4 (by simp) hS rfl ?_
  intro w_7 M_8 hS' hr_9
  clear hm a; intro a hm
  obtain ⟨N_10, hS'', le_10, lo_10⟩ := Sep.freeze (N0 := Mem.no) (l := [M_8]) hS' 0 rfl
  replace hS : Sep w0 w_7 [N_10, Mem.no] Z := hS''
  clear hS' hS''
  obtain ⟨t_11, et_11, H⟩ := Option.bind_eq_some_iff.1 H
  refine s_call hm rfl Try.call22 rfl (fifo_Push.calls K ([] : List (List UInt8)) _ ([(97 : UInt8)] : List UInt8) _ t_11 w0 _ _ _ (Mem.le.refl _) (hS.enter [] (by decide)) (Rd.nil _ _) ((hr_9.mono lo_10).mono ((Mem.le.refl _).trans (hS.new_zed []))) et_11) ?_
  rintro _ w_12 ⟨v_15, v_19, N_13, M_17, M_21, rfl, hS', hr_16, hr_20⟩
  clear hm a; intro a hm
  obtain ⟨N_14, hS'', le_14, ln_14⟩ := hS.call [] (by decide) rfl (l' := []) (ow := [M_17, M_21]) rfl hS'
  replace hS : Sep w0 w_12 [N_14, Mem.no, M_17, M_21] Z := hS''
  clear hS' hS''
  refine s_move hm rfl rfl ?_
  clear hm a; intro a hm
  refine s_extract hm rfl rfl rfl ?_
  clear hm a; intro a hm
  refine s_extract hm rfl rfl rfl ?_
  clear hm a; intro a hm
  refine v_alloc hm rfl ti27 hS ?_
  intro w_23 g_24 hS'
  clear hm a; intro a hm
  replace hS : Sep w0 w_23 [N_14, Mem.no, M_17, M_21, Mem.one g_24 (.cells ([.int .i64 0, .slice none 0 0, .int .i64 0] : List Value).toArray 27 (0, 0))] Z := hS'
  clear hS'
  refine s_assign hm rfl rfl ?_
  clear hm a; intro a hm
  obtain ⟨w_25, hs', hS'⟩ := hS.store (P := Try.prog) (p := 4) (o := 0) (t := 27) (v := .agg [.int .i64 t_11.2.Err, v_19, .int .i64 t_11.2.N].toArray) (vs := [.int .i64 t_11.2.Err, v_19, .int .i64 t_11.2.N]) rfl ti27 rfl rfl rfl (by intro u hu; simp only [List.mem_cons, List.not_mem_nil, or_false] at hu; rcases hu with rfl | rfl | rfl <;> first | rfl | exact hr_20.one)
  refine s_store hm rfl rfl hs' ?_
  replace hS : Sep w0 w_25 [N_14, Mem.no, M_17, M_21, Mem.one g_24 (.cells ([.int .i64 t_11.2.Err, v_19, .int .i64 t_11.2.N] : List Value).toArray 27 (0, 0))] Z := hS'
  clear hs' hS'
  refine wpList_nil ?_
  replace hm : Fr 59 a [(0, .bool false), (1, v_15), (2, .pointer (some ⟨g_24, 0, none⟩))] := hm.keep [0, 1, 2]
  refine x_then_n ?_
  refine wp_seq ?_
  refine wp_region_lit ?_
  refine s_move hm rfl rfl ?_
  clear hm a; intro a hm
  have hq_30 : Reps Kd.u8 Mem.no ([(98 : UInt8)] : List UInt8) _ := ((Reps.one (d := Kd.u8) (x := (98 : UInt8)) (show Kd.u8.K _ _ [.int .u8 ((98 : UInt8).toNat : Int)] from rfl)).append (Reps.nil Kd.u8 _))
  refine s_buildSlice hm rfl Try.underlying25 ti5 rfl rfl rfl (.cons rfl .nil) rfl rfl rfl hS hq_30 rfl ?_
  intro w_26 v_27 M_28 hS' ho_29
  clear hm a; intro a hm
  replace hS : Sep w0 w_26 [N_14, Mem.no, M_17, M_21, Mem.one g_24 (.cells ([.int .i64 t_11.2.Err, v_19, .int .i64 t_11.2.N] : List Value).toArray 27 (0, 0)), M_28] Z := hS'
  clear hS' hq_30
  refine s_conv_sl (p := 5) hm rfl Try.underlying25 Try.underlying5 rfl ho_29 (by simp) hS rfl ?_
  intro w_32 M_33 hS' hr_34
  clear hm a; intro a hm
  obtain ⟨N_35, hS'', le_35, lo_35⟩ := Sep.freeze (N0 := N_14) (l := [Mem.no, M_17, M_21, Mem.one g_24 (.cells ([.int .i64 t_11.2.Err, v_19, .int .i64 t_11.2.N] : List Value).toArray 27 (0, 0)), M_33]) hS' 4 rfl
  replace hS : Sep w0 w_32 [N_35, Mem.no, M_17, M_21, Mem.one g_24 (.cells ([.int .i64 t_11.2.Err, v_19, .int .i64 t_11.2.N] : List Value).toArray 27 (0, 0)), Mem.no] Z := hS''
  clear hS' hS''
  obtain ⟨t_36, et_36, H⟩ := Option.bind_eq_some_iff.1 H
  refine s_call hm rfl Try.call22 rfl (fifo_Push.calls K t_11.1 _ ([(98 : UInt8)] : List UInt8) _ t_36 w0 _ _ _ (Mem.le.refl _) (hS.enter [] (by decide)) ((hr_16.mono ln_14).rd (hS.own_zed [] 1 (by decide)) (le_35.trans (hS.new_zed []))) ((hr_34.mono lo_35).mono ((Mem.le.refl _).trans (hS.new_zed []))) et_36) ?_
  rintro _ w_37 ⟨v_40, v_44, N_38, M_42, M_46, rfl, hS', hr_41, hr_45⟩
  clear hm a; intro a hm
  obtain ⟨N_39, hS'', le_39, ln_39⟩ := hS.call [] (by decide) rfl (l' := []) (ow := [M_42, M_46]) rfl hS'
  replace hS : Sep w0 w_37 [N_39, Mem.no, M_17, M_21, Mem.one g_24 (.cells ([.int .i64 t_11.2.Err, v_19, .int .i64 t_11.2.N] : List Value).toArray 27 (0, 0)), Mem.no, M_42, M_46] Z := hS''
  clear hS' hS''
  refine s_move hm rfl rfl ?_
  clear hm a; intro a hm
  refine s_extract hm rfl rfl rfl ?_
  clear hm a; intro a hm
  refine s_extract hm rfl rfl rfl ?_
  clear hm a; intro a hm
  refine v_alloc hm rfl ti27 hS ?_
  intro w_48 g_49 hS'
  clear hm a; intro a hm
  replace hS : Sep w0 w_48 [N_39, Mem.no, M_17, M_21, Mem.one g_24 (.cells ([.int .i64 t_11.2.Err, v_19, .int .i64 t_11.2.N] : List Value).toArray 27 (0, 0)), Mem.no, M_42, M_46, Mem.one g_49 (.cells ([.int .i64 0, .slice none 0 0, .int .i64 0] : List Value).toArray 27 (0, 0))] Z := hS'
  clear hS'
  refine s_assign hm rfl rfl ?_
  clear hm a; intro a hm
  obtain ⟨w_50, hs', hS'⟩ := hS.store (P := Try.prog) (p := 8) (o := 0) (t := 27) (v := .agg [.int .i64 t_36.2.Err, v_44, .int .i64 t_36.2.N].toArray) (vs := [.int .i64 t_36.2.Err, v_44, .int .i64 t_36.2.N]) rfl ti27 rfl rfl rfl (by intro u hu; simp only [List.mem_cons, List.not_mem_nil, or_false] at hu; rcases hu with rfl | rfl | rfl <;> first | rfl | exact hr_45.one)
  refine s_store hm rfl rfl hs' ?_
  replace hS : Sep w0 w_50 [N_39, Mem.no, M_17, M_21, Mem.one g_24 (.cells ([.int .i64 t_11.2.Err, v_19, .int .i64 t_11.2.N] : List Value).toArray 27 (0, 0)), Mem.no, M_42, M_46, Mem.one g_49 (.cells ([.int .i64 t_36.2.Err, v_44, .int .i64 t_36.2.N] : List Value).toArray 27 (0, 0))] Z := hS'
  clear hs' hS'
  refine wpList_nil ?_
  replace hm : Fr 59 a [(0, .bool false), (1, v_40), (2, .pointer (some ⟨g_24, 0, none⟩)), (3, .pointer (some ⟨g_49, 0, none⟩))] := hm.keep [0, 1, 2, 3]
  refine x_then_n ?_
  refine wp_seq ?_
  refine wp_region_lit ?_
  refine s_move hm rfl rfl ?_
  clear hm a; intro a hm
  obtain ⟨t_51, et_51, H⟩ := Option.bind_eq_some_iff.1 H
  refine s_call hm rfl Try.call24 rfl (fifo_Pop.calls K t_36.1 _ t_51 w0 _ _ _ (Mem.le.refl _) (hS.enter [] (by decide)) ((hr_41.mono ln_39).rd (hS.own_zed [] 5 (by decide)) ((Mem.le.refl _).trans (hS.new_zed []))) et_51) ?_
  rintro _ w_52 ⟨v_55, v_57, N_53, rfl, hS', hr_56, hr_58⟩
  clear hm a; intro a hm
  obtain ⟨N_54, hS'', le_54, ln_54⟩ := hS.call [] (by decide) rfl (l' := []) (ow := []) rfl hS'
  replace hS : Sep w0 w_52 [N_54, Mem.no, M_17, M_21, Mem.one g_24 (.cells ([.int .i64 t_11.2.Err, v_19, .int .i64 t_11.2.N] : List Value).toArray 27 (0, 0)), Mem.no, M_42, M_46, Mem.one g_49 (.cells ([.int .i64 t_36.2.Err, v_44, .int .i64 t_36.2.N] : List Value).toArray 27 (0, 0))] Z := hS''
  clear hS' hS''
  refine s_move hm rfl rfl ?_
  clear hm a; intro a hm
  refine s_extract hm rfl rfl rfl ?_
  clear hm a; intro a hm
  refine s_extract hm rfl rfl rfl ?_
  clear hm a; intro a hm
  refine v_alloc hm rfl ti27 hS ?_
  intro w_59 g_60 hS'
  clear hm a; intro a hm
  replace hS : Sep w0 w_59 [N_54, Mem.no, M_17, M_21, Mem.one g_24 (.cells ([.int .i64 t_11.2.Err, v_19, .int .i64 t_11.2.N] : List Value).toArray 27 (0, 0)), Mem.no, M_42, M_46, Mem.one g_49 (.cells ([.int .i64 t_36.2.Err, v_44, .int .i64 t_36.2.N] : List Value).toArray 27 (0, 0)), Mem.one g_60 (.cells ([.int .i64 0, .slice none 0 0, .int .i64 0] : List Value).toArray 27 (0, 0))] Z := hS'
  clear hS'
  refine s_assign hm rfl rfl ?_
  clear hm a; intro a hm
  obtain ⟨w_61, hs', hS'⟩ := hS.store (P := Try.prog) (p := 9) (o := 0) (t := 27) (v := .agg [.int .i64 t_51.2.Err, v_57, .int .i64 t_51.2.N].toArray) (vs := [.int .i64 t_51.2.Err, v_57, .int .i64 t_51.2.N]) rfl ti27 rfl rfl rfl (by intro u hu; simp only [List.mem_cons, List.not_mem_nil, or_false] at hu; rcases hu with rfl | rfl | rfl <;> first | rfl | exact (hr_58.mono ln_54).one)
  refine s_store hm rfl rfl hs' ?_
  replace hS : Sep w0 w_61 [N_54, Mem.no, M_17, M_21, Mem.one g_24 (.cells ([.int .i64 t_11.2.Err, v_19, .int .i64 t_11.2.N] : List Value).toArray 27 (0, 0)), Mem.no, M_42, M_46, Mem.one g_49 (.cells ([.int .i64 t_36.2.Err, v_44, .int .i64 t_36.2.N] : List Value).toArray 27 (0, 0)), Mem.one g_60 (.cells ([.int .i64 t_51.2.Err, v_57, .int .i64 t_51.2.N] : List Value).toArray 27 (0, 0))] Z := hS'
  clear hs' hS'
  refine wpList_nil ?_
  replace hm : Fr 59 a [(0, .bool false), (1, v_40), (2, .pointer (some ⟨g_24, 0, none⟩)), (3, .pointer (some ⟨g_49, 0, none⟩)), (4, v_55), (5, .pointer (some ⟨g_60, 0, none⟩))] := hm.keep [0, 1, 2, 3, 4, 5]
  refine x_then_n ?_
  refine wp_seq ?_
  refine wp_region_lit ?_
  obtain ⟨t_62, et_62, H⟩ := Option.bind_eq_some_iff.1 H
  refine s_call hm rfl Try.call24 rfl (fifo_Pop.calls K ([] : List (List UInt8)) _ t_62 w0 _ _ _ (Mem.le.refl _) (hS.enter [] (by decide)) (Rd.nil _ _) et_62) ?_
  rintro _ w_63 ⟨v_66, v_68, N_64, rfl, hS', hr_67, hr_69⟩
  clear hm a; intro a hm
  obtain ⟨N_65, hS'', le_65, ln_65⟩ := hS.call [] (by decide) rfl (l' := []) (ow := []) rfl hS'
  replace hS : Sep w0 w_63 [N_65, Mem.no, M_17, M_21, Mem.one g_24 (.cells ([.int .i64 t_11.2.Err, v_19, .int .i64 t_11.2.N] : List Value).toArray 27 (0, 0)), Mem.no, M_42, M_46, Mem.one g_49 (.cells ([.int .i64 t_36.2.Err, v_44, .int .i64 t_36.2.N] : List Value).toArray 27 (0, 0)), Mem.one g_60 (.cells ([.int .i64 t_51.2.Err, v_57, .int .i64 t_51.2.N] : List Value).toArray 27 (0, 0))] Z := hS''
  clear hS' hS''
  refine s_move hm rfl rfl ?_
  clear hm a; intro a hm
  refine s_extract hm rfl rfl rfl ?_
  clear hm a; intro a hm
  refine s_extract hm rfl rfl rfl ?_
  clear hm a; intro a hm
  refine v_alloc hm rfl ti27 hS ?_
  intro w_70 g_71 hS'
  clear hm a; intro a hm
  replace hS : Sep w0 w_70 [N_65, Mem.no, M_17, M_21, Mem.one g_24 (.cells ([.int .i64 t_11.2.Err, v_19, .int .i64 t_11.2.N] : List Value).toArray 27 (0, 0)), Mem.no, M_42, M_46, Mem.one g_49 (.cells ([.int .i64 t_36.2.Err, v_44, .int .i64 t_36.2.N] : List Value).toArray 27 (0, 0)), Mem.one g_60 (.cells ([.int .i64 t_51.2.Err, v_57, .int .i64 t_51.2.N] : List Value).toArray 27 (0, 0)), Mem.one g_71 (.cells ([.int .i64 0, .slice none 0 0, .int .i64 0] : List Value).toArray 27 (0, 0))] Z := hS'
  clear hS'
  refine s_assign hm rfl rfl ?_
  clear hm a; intro a hm
  obtain ⟨w_72, hs', hS'⟩ := hS.store (P := Try.prog) (p := 10) (o := 0) (t := 27) (v := .agg [.int .i64 t_62.2.Err, v_68, .int .i64 t_62.2.N].toArray) (vs := [.int .i64 t_62.2.Err, v_68, .int .i64 t_62.2.N]) rfl ti27 rfl rfl rfl (by intro u hu; simp only [List.mem_cons, List.not_mem_nil, or_false] at hu; rcases hu with rfl | rfl | rfl <;> first | rfl | exact (hr_69.mono ln_65).one)
  refine s_store hm rfl rfl hs' ?_
  replace hS : Sep w0 w_72 [N_65, Mem.no, M_17, M_21, Mem.one g_24 (.cells ([.int .i64 t_11.2.Err, v_19, .int .i64 t_11.2.N] : List Value).toArray 27 (0, 0)), Mem.no, M_42, M_46, Mem.one g_49 (.cells ([.int .i64 t_36.2.Err, v_44, .int .i64 t_36.2.N] : List Value).toArray 27 (0, 0)), Mem.one g_60 (.cells ([.int .i64 t_51.2.Err, v_57, .int .i64 t_51.2.N] : List Value).toArray 27 (0, 0)), Mem.one g_71 (.cells ([.int .i64 t_62.2.Err, v_68, .int .i64 t_62.2.N] : List Value).toArray 27 (0, 0))] Z := hS'
  clear hs' hS'
  refine wpList_nil ?_
  replace hm : Fr 59 a [(0, .bool false), (1, v_40), (2, .pointer (some ⟨g_24, 0, none⟩)), (3, .pointer (some ⟨g_49, 0, none⟩)), (4, v_55), (5, .pointer (some ⟨g_60, 0, none⟩)), (7, .pointer (some ⟨g_71, 0, none⟩))] := hm.keep [0, 1, 2, 3, 4, 5, 7]
  refine x_then_n ?_
  refine c_seq fun KJ_73 hKJ_73 => ?_
  refine wp_region_lit ?_
  refine s_fieldAddr hm rfl Try.underlying27 rfl ti3 rfl rfl ?_
  clear hm a; intro a hm
  refine s_load hm rfl rfl (hS.load_one (p := 4) rfl Try.underlying3 rfl rfl) ?_
  clear hm a; intro a hm
  refine s_cmp (b := (t_11.2.N == 1)) hm rfl rfl rfl (.inl ⟨rfl, rfl⟩) ?_
  clear hm a; intro a hm
  refine s_move hm rfl rfl ?_
  clear hm a; intro a hm
  by_cases hc_74 : t_11.2.N = 1
  · rw [if_pos hc_74] at H
    refine s_on hm rfl rfl (beq_iff_eq.2 hc_74) ?_
    refine s_fieldAddr hm rfl Try.underlying27 rfl ti3 rfl rfl ?_
    clear hm a; intro a hm
    refine s_on hm rfl rfl (beq_iff_eq.2 hc_74) ?_
    refine s_load hm rfl rfl (hS.load_one (p := 8) rfl Try.underlying3 rfl rfl) ?_
    clear hm a; intro a hm
    refine s_on hm rfl rfl (beq_iff_eq.2 hc_74) ?_
    refine s_cmp (b := (t_36.2.N == 2)) hm rfl rfl rfl (.inl ⟨rfl, rfl⟩) ?_
    clear hm a; intro a hm
    refine s_pick_t hm rfl rfl (beq_iff_eq.2 hc_74) rfl ?_
    clear hm a; intro a hm
    refine s_move hm rfl rfl ?_
    clear hm a; intro a hm
    by_cases hc_75 : t_36.2.N = 2
    · rw [if_pos hc_75] at H
      refine s_on hm rfl rfl (beq_iff_eq.2 hc_75) ?_
      refine s_move hm rfl rfl ?_
      clear hm a; intro a hm
      refine s_on hm rfl rfl (beq_iff_eq.2 hc_75) ?_
      refine s_lenO hm rfl Try.underlying37 rfl (hr_41.mono ln_39) ?_
      clear hm a; intro a hm
      refine s_on hm rfl rfl (beq_iff_eq.2 hc_75) ?_
      refine s_cmp (b := ((t_36.1.length : Int) == 2)) hm rfl rfl rfl (.inl ⟨rfl, rfl⟩) ?_
      clear hm a; intro a hm
      refine s_pick_t hm rfl rfl (beq_iff_eq.2 hc_75) rfl ?_
      clear hm a; intro a hm
      refine s_move hm rfl rfl ?_
      clear hm a; intro a hm
      by_cases hc_76 : (t_36.1.length : Int) = 2
      · rw [if_pos hc_76] at H
        refine s_on hm rfl rfl (beq_iff_eq.2 hc_76) ?_
        refine s_move hm rfl rfl ?_
        clear hm a; intro a hm
        refine s_on hm rfl rfl (beq_iff_eq.2 hc_76) ?_
        refine s_len hm rfl Try.underlying37 rfl (hr_56.mono ln_54) ?_
        clear hm a; intro a hm
        refine s_on hm rfl rfl (beq_iff_eq.2 hc_76) ?_
        refine s_cmp (b := ((t_51.1.length : Int) == 1)) hm rfl rfl rfl (.inl ⟨rfl, rfl⟩) ?_
        clear hm a; intro a hm
        refine s_pick_t hm rfl rfl (beq_iff_eq.2 hc_76) rfl ?_
        clear hm a; intro a hm
        refine s_move hm rfl rfl ?_
        clear hm a; intro a hm
        by_cases hc_77 : (t_51.1.length : Int) = 1
        · rw [if_pos hc_77] at H
          refine s_on hm rfl rfl (beq_iff_eq.2 hc_77) ?_
          refine s_fieldAddr hm rfl Try.underlying27 rfl ti25 rfl rfl ?_
          clear hm a; intro a hm
          refine s_on hm rfl rfl (beq_iff_eq.2 hc_77) ?_
          refine s_load hm rfl rfl (hS.load_one (p := 9) rfl Try.underlying25 rfl rfl) ?_
          clear hm a; intro a hm
          refine s_on hm rfl rfl (beq_iff_eq.2 hc_77) ?_
          refine s_b2s hm rfl Try.underlying25 Try.underlying5 Try.underlying9 rfl (hr_58.mono ln_54) (le_65.trans (hS.own 0)) ?_
          clear hm a; intro a hm
          refine s_on hm rfl rfl (beq_iff_eq.2 hc_77) ?_
          refine s_strEq (b := (t_51.2.Val == ([97] : List UInt8))) hm rfl rfl rfl (.inl ⟨rfl, rfl⟩) ?_
          clear hm a; intro a hm
          refine s_pick_t hm rfl rfl (beq_iff_eq.2 hc_77) rfl ?_
          clear hm a; intro a hm
          refine s_move hm rfl rfl ?_
          clear hm a; intro a hm
          by_cases hc_78 : t_51.2.Val = ([97] : List UInt8)
          · rw [if_pos hc_78] at H
            refine s_on hm rfl rfl (beq_iff_eq.2 hc_78) ?_
            refine s_fieldAddr hm rfl Try.underlying27 rfl ti22 rfl rfl ?_
            clear hm a; intro a hm
            refine s_on hm rfl rfl (beq_iff_eq.2 hc_78) ?_
            refine s_load hm rfl rfl (hS.load_one (p := 10) rfl Try.underlying22 rfl rfl) ?_
            clear hm a; intro a hm
            refine s_on hm rfl rfl (beq_iff_eq.2 hc_78) ?_
            refine s_cmp (b := (t_62.2.Err == 4)) hm rfl rfl rfl (.inl ⟨rfl, rfl⟩) ?_
            clear hm a; intro a hm
            refine s_pick_t hm rfl rfl (beq_iff_eq.2 hc_78) rfl ?_
            clear hm a; intro a hm
            refine s_assign hm rfl rfl ?_
            clear hm a; intro a hm
            refine wpList_nil ?_
            replace hm : Fr 59 a [(0, .bool (t_62.2.Err == 4))] := hm.keep [0]
            refine x_then_n (hKJ_73 _ _ ?_)
            refine wp_ret ?_
            by_cases hc_79 : t_62.2.Err = 4
            · rw [if_pos hc_79] at H
              exact f_ret hm (rs := [.tmp 0]) rfl (.tmp rfl .nil) ⟨_, rfl, N_65, (by rw [(beq_iff_eq.2 hc_79)]; rfl), (Sep.sel hS [0] (by decide))⟩
            · rw [if_neg hc_79] at H
              cases H
          · rw [if_neg hc_78] at H
            cases H
        · rw [if_neg hc_77] at H
          cases H
      · rw [if_neg hc_76] at H
        cases H
    · rw [if_neg hc_75] at H
      cases H
  · rw [if_neg hc_74] at H
    cases H

set_option maxHeartbeats 4000000 in
set_option maxRecDepth 20000 in
theorem hocketlaw5_FifoForms.calls (K : Nat) (x0 : Int) (x1 : Int) (r : Unit) (w0 w : World) (Z A : Mem) (hA : A.le Z) (hS : Sep w0 w [] Z)
    (H : hocketlaw5_FifoForms.f K x0 x1 = some r) :
    Calls Try.prog 6 [.int .i64 x0, .int .i64 x1].toArray w (Ret fun v w' => ∃ (N : Mem), v = .bool true ∧ Sep w0 w' [N] Z) := by
  unfold hocketlaw5_FifoForms.f at H
  refine f_enter _ Try.func6 rfl Try.ntmps6 rfl fun a hm => ?_
  replace hm : Fr 138 a [(0, .int .i64 x0), (1, .int .i64 x1)] := hm
  replace hS := hS.start
  replace hS : Sep w0 w [Mem.no] Z := hS
  refine wp_seq ?_
  refine wp_region_lit ?_
  refine s_assign hm rfl rfl ?_
  clear hm a; intro a hm
  refine wpList_nil ?_
  replace hm : Fr 138 a [(0, .int .i64 x0), (1, .int .i64 x1), (4, .bool false)] := hm.keep [0, 1, 4]
  refine x_then_n ?_
  refine wp_seq ?_
  refine wp_region_lit ?_
  refine s_move hm rfl rfl ?_
  clear hm a; intro a hm
  refine s_bits (i := x0) (j := 15) (r := band .i64 x0 15) hm rfl rfl rfl (.inl ⟨rfl, rfl⟩) ?_
  clear hm a; intro a hm
  refine s_move hm rfl rfl ?_
  clear hm a; intro a hm
  refine s_bits (i := x1) (j := 31) (r := band .i64 x1 31) hm rfl rfl rfl (.inl ⟨rfl, rfl⟩) ?_
  clear hm a; intro a hm
  refine s_assign hm rfl rfl ?_
  clear hm a; intro a hm
  refine s_assign hm rfl rfl ?_
  clear hm a; intro a hm
  refine wpList_nil ?_
  replace hm : Fr 138 a [(0, .int .i64 (band .i64 x0 15)), (1, .int .i64 (band .i64 x1 31)), (4, .bool false)] := hm.keep [0, 1, 4]
  refine x_then_n ?_
  refine wp_seq ?_
  refine wp_region_lit ?_
  refine s_assign hm rfl rfl ?_
  clear hm a; intro a hm
  refine wpList_nil ?_
  replace hm : Fr 138 a [(0, .int .i64 (band .i64 x0 15)), (1, .int .i64 (band .i64 x1 31)), (4, .bool false), (5, .slice none 0 0)] := hm.keep [0, 1, 4, 5]
  refine x_then_n ?_
  refine c_seq fun KJ_1 hKJ_1 => ?_
  refine wp_seq ?_
  refine wp_region_lit ?_
  refine s_assign hm rfl rfl ?_
  clear hm a; intro a hm
  refine wpList_nil ?_
  replace hm : Fr 138 a [(0, .int .i64 (band .i64 x0 15)), (1, .int .i64 (band .i64 x1 31)), (4, .bool false), (5, .slice none 0 0), (6, .int .i64 0)] := hm.keep [0, 1, 4, 5, 6]
  refine x_then_n ?_
  have hJ_j_9 : ∀ (x_3 : List (List UInt8)), hocketlaw5_FifoForms.j_9 K x1 x0 x_3 = some r → ∀ (a : Act) (w_8 : World), (∃ (v_6 : Value) (N_2 : Mem) (M_4 : Mem), Fr 138 a [(0, .int .i64 (band .i64 x0 15)), (1, .int .i64 (band .i64 x1 31)), (4, .bool false), (5, v_6)] ∧ Sep w0 w_8 [N_2, M_4] Z ∧ Mem.no.le N_2 ∧ Own (Kd.slice Kd.u8) 25 M_4 N_2 v_6 x_3) → KJ_1 a w_8 := by
    clear H hm hS a
    rintro x_3 H a w_8 ⟨v_6, N_2, M_4, hm, hS, le_2, ho_7⟩
    unfold hocketlaw5_FifoForms.j_9 at H
    refine hKJ_1 _ _ ?_
    refine wp_seq ?_
    refine wp_region_lit ?_
    refine s_move hm rfl rfl ?_
    clear hm a; intro a hm
    refine s_move hm rfl rfl ?_
    clear hm a; intro a hm
    obtain ⟨t_10, et_10, H⟩ := Option.bind_eq_some_iff.1 H
    refine s_make (kd := Kd.u8) (I := Mem.no) 140737488355328 hm rfl rfl Try.underlying25 ti5 rfl rfl rfl rfl hS (show Kd.u8.K _ _ [.int .u8 ((0 : UInt8).toNat : Int)] from rfl) et_10 ?_
    intro w_11 v_12 M_13 hS' ho_14
    clear hm a; intro a hm
    replace hS : Sep w0 w_11 [N_2, M_4, M_13] Z := hS'
    clear hS'
    obtain ⟨t_16, et_16, H⟩ := Option.bind_eq_some_iff.1 H
    refine s_call hm rfl Try.call22 rfl (fifo_Push.calls K x_3 _ t_10 _ t_16 w0 _ _ _ (Mem.le.refl _) (hS.enter [] (by decide)) (ho_7.rd (hS.own_zed [] 0 (by decide)) ((Mem.le.refl _).trans (hS.new_zed []))) (ho_14.rd (hS.own_zed [] 1 (by decide)) (Mem.no_le _)) et_16) ?_
    rintro _ w_17 ⟨v_20, v_24, N_18, M_22, M_26, rfl, hS', hr_21, hr_25⟩
    clear hm a; intro a hm
    obtain ⟨N_19, hS'', le_19, ln_19⟩ := hS.call [] (by decide) rfl (l' := []) (ow := [M_22, M_26]) rfl hS'
    replace hS : Sep w0 w_17 [N_19, M_4, M_13, M_22, M_26] Z := hS''
    clear hS' hS''
    refine s_move hm rfl rfl ?_
    clear hm a; intro a hm
    refine s_extract hm rfl rfl rfl ?_
    clear hm a; intro a hm
    refine s_extract hm rfl rfl rfl ?_
    clear hm a; intro a hm
    refine v_alloc hm rfl ti27 hS ?_
    intro w_28 g_29 hS'
    clear hm a; intro a hm
    replace hS : Sep w0 w_28 [N_19, M_4, M_13, M_22, M_26, Mem.one g_29 (.cells ([.int .i64 0, .slice none 0 0, .int .i64 0] : List Value).toArray 27 (0, 0))] Z := hS'
    clear hS'
    refine s_assign hm rfl rfl ?_
    clear hm a; intro a hm
    obtain ⟨w_30, hs', hS'⟩ := hS.store (P := Try.prog) (p := 5) (o := 0) (t := 27) (v := .agg [.int .i64 t_16.2.Err, v_24, .int .i64 t_16.2.N].toArray) (vs := [.int .i64 t_16.2.Err, v_24, .int .i64 t_16.2.N]) rfl ti27 rfl rfl rfl (by intro u hu; simp only [List.mem_cons, List.not_mem_nil, or_false] at hu; rcases hu with rfl | rfl | rfl <;> first | rfl | exact hr_25.one)
    refine s_store hm rfl rfl hs' ?_
    replace hS : Sep w0 w_30 [N_19, M_4, M_13, M_22, M_26, Mem.one g_29 (.cells ([.int .i64 t_16.2.Err, v_24, .int .i64 t_16.2.N] : List Value).toArray 27 (0, 0))] Z := hS'
    clear hs' hS'
    refine wpList_nil ?_
    replace hm : Fr 138 a [(0, .int .i64 (band .i64 x0 15)), (1, .int .i64 (band .i64 x1 31)), (4, .bool false), (5, v_6), (9, v_20), (10, .pointer (some ⟨g_29, 0, none⟩))] := hm.keep [0, 1, 4, 5, 9, 10]
    refine x_then_n ?_
    refine wp_seq ?_
    refine wp_region_lit ?_
    refine s_assign hm rfl rfl ?_
    clear hm a; intro a hm
    refine wpList_nil ?_
    replace hm : Fr 138 a [(0, .int .i64 (band .i64 x0 15)), (1, .int .i64 (band .i64 x1 31)), (4, .bool false), (5, v_6), (9, v_20), (10, .pointer (some ⟨g_29, 0, none⟩)), (11, .int .i64 0)] := hm.keep [0, 1, 4, 5, 9, 10, 11]
    refine x_then_n ?_
    refine c_seq fun KJ_31 hKJ_31 => ?_
    refine wp_seq ?_
    refine wp_region_lit ?_
    refine s_move hm rfl rfl ?_
    clear hm a; intro a hm
    refine s_cmp (b := decide ((band .i64 x0 15) ≥ 8)) hm rfl rfl rfl (.inr (.inr (.inr (.inr (.inr ⟨rfl, rfl⟩))))) ?_
    clear hm a; intro a hm
    refine wpList_nil ?_
    replace hm : Fr 138 a [(0, .int .i64 (band .i64 x0 15)), (1, .int .i64 (band .i64 x1 31)), (4, .bool false), (5, v_6), (9, v_20), (10, .pointer (some ⟨g_29, 0, none⟩)), (11, .int .i64 0), (74, .bool (decide ((band .i64 x0 15) ≥ 8)))] := hm.keep [0, 1, 4, 5, 9, 10, 11, 74]
    refine x_then_n ?_
    have hJ_j_35 : ∀ (x_33 : Int), hocketlaw5_FifoForms.j_35 K x1 t_16 x0 x_3 x_33 = some r → ∀ (a : Act) (w_34 : World), (∃ (N_32 : Mem), Fr 138 a [(0, .int .i64 (band .i64 x0 15)), (1, .int .i64 (band .i64 x1 31)), (4, .bool false), (5, v_6), (9, v_20), (10, .pointer (some ⟨g_29, 0, none⟩)), (11, .int .i64 x_33)] ∧ Sep w0 w_34 [N_32, M_4, Mem.no, M_22, M_26, Mem.one g_29 (.cells ([.int .i64 t_16.2.Err, v_24, .int .i64 t_16.2.N] : List Value).toArray 27 (0, 0))] Z ∧ N_19.le N_32) → KJ_31 a w_34 := by
      clear H hm hS a
      rintro x_33 H a w_34 ⟨N_32, hm, hS, le_32⟩
      unfold hocketlaw5_FifoForms.j_35 at H
      refine hKJ_31 _ _ ?_
      refine c_seq fun KJ_36 hKJ_36 => ?_
      refine wp_seq ?_
      refine wp_region_lit ?_
      refine s_move hm rfl rfl ?_
      clear hm a; intro a hm
      refine s_cmp (b := decide ((band .i64 x1 31) > 16)) hm rfl rfl rfl (.inr (.inr (.inr (.inr (.inl ⟨rfl, rfl⟩))))) ?_
      clear hm a; intro a hm
      refine wpList_nil ?_
      replace hm : Fr 138 a [(0, .int .i64 (band .i64 x0 15)), (4, .bool false), (5, v_6), (9, v_20), (10, .pointer (some ⟨g_29, 0, none⟩)), (11, .int .i64 x_33), (76, .bool (decide ((band .i64 x1 31) > 16)))] := hm.keep [0, 4, 5, 9, 10, 11, 76]
      refine x_then_n ?_
      have hJ_j_40 : ∀ (x_38 : Int), hocketlaw5_FifoForms.j_40 K t_16 x0 x_3 x_38 = some r → ∀ (a : Act) (w_39 : World), (∃ (N_37 : Mem), Fr 138 a [(0, .int .i64 (band .i64 x0 15)), (4, .bool false), (5, v_6), (9, v_20), (10, .pointer (some ⟨g_29, 0, none⟩)), (11, .int .i64 x_38)] ∧ Sep w0 w_39 [N_37, M_4, Mem.no, M_22, M_26, Mem.one g_29 (.cells ([.int .i64 t_16.2.Err, v_24, .int .i64 t_16.2.N] : List Value).toArray 27 (0, 0))] Z ∧ N_32.le N_37) → KJ_36 a w_39 := by
        clear H hm hS a
        rintro x_38 H a w_39 ⟨N_37, hm, hS, le_37⟩
        unfold hocketlaw5_FifoForms.j_40 at H
        refine hKJ_36 _ _ ?_
        refine c_seq fun KJ_41 hKJ_41 => ?_
        refine c_seq fun KJ_42 hKJ_42 => ?_
        have hJ_j_46 : ∀ (x_44 : Bool), hocketlaw5_FifoForms.j_46 K x0 x_3 x_44 = some r → ∀ (a : Act) (w_45 : World), (∃ (N_43 : Mem), Fr 138 a [(0, .int .i64 (band .i64 x0 15)), (4, .bool false), (5, v_6), (101, .bool x_44)] ∧ Sep w0 w_45 [N_43, M_4, Mem.no, Mem.no, Mem.no, Mem.no] Z ∧ N_37.le N_43) → KJ_42 a w_45 := by
          clear H hm hS a
          rintro x_44 H a w_45 ⟨N_43, hm, hS, le_43⟩
          unfold hocketlaw5_FifoForms.j_46 at H
          refine hKJ_42 _ _ ?_
          by_cases hc_47 : x_44 = true
          · rw [if_pos hc_47] at H
            cases H
          · rw [if_neg hc_47] at H
            refine c_cond_f hm rfl (Bool.eq_false_iff.2 hc_47) ?_
            refine wp_skip ?_
            refine x_then_n (hKJ_41 _ _ ?_)
            refine c_seq fun KJ_48 hKJ_48 => ?_
            refine wp_seq ?_
            refine wp_region_lit ?_
            refine s_assign hm rfl rfl ?_
            clear hm a; intro a hm
            refine wpList_nil ?_
            replace hm : Fr 138 a [(0, .int .i64 (band .i64 x0 15)), (4, .bool false), (5, v_6), (12, .int .i64 0)] := hm.keep [0, 4, 5, 12]
            refine x_then_n ?_
            have hJ_j_54 : ∀ (x_50 : List (List UInt8)), hocketlaw5_FifoForms.j_54 K x_50 = some r → ∀ (a : Act) (w_53 : World), (∃ (v_51 : Value) (N_49 : Mem), Fr 138 a [(4, .bool false), (5, v_51)] ∧ Sep w0 w_53 [N_49, Mem.no, Mem.no, Mem.no, Mem.no, Mem.no] Z ∧ N_43.le N_49 ∧ Rd (Kd.slice Kd.u8) N_49 v_51 x_50) → KJ_48 a w_53 := by
              clear H hm hS a
              rintro x_50 H a w_53 ⟨v_51, N_49, hm, hS, le_49, hr_52⟩
              unfold hocketlaw5_FifoForms.j_54 at H
              refine hKJ_48 _ _ ?_
              refine c_seq fun KJ_55 hKJ_55 => ?_
              refine wp_region_lit ?_
              refine s_move hm rfl rfl ?_
              clear hm a; intro a hm
              refine s_len hm rfl Try.underlying37 rfl hr_52 ?_
              clear hm a; intro a hm
              refine s_cmp (b := ((x_50.length : Int) == 0)) hm rfl rfl rfl (.inl ⟨rfl, rfl⟩) ?_
              clear hm a; intro a hm
              refine s_move hm rfl rfl ?_
              clear hm a; intro a hm
              by_cases hc_56 : (x_50.length : Int) = 0
              · rw [if_pos hc_56] at H
                refine s_on hm rfl rfl (beq_iff_eq.2 hc_56) ?_
                obtain ⟨t_57, et_57, H⟩ := Option.bind_eq_some_iff.1 H
                refine s_call hm rfl Try.call25 rfl (hocketlaw5_awake.calls K  t_57 w0 _ _ _ (Mem.le.refl _) (hS.enter [] (by decide))  et_57) ?_
                rintro _ w_58 ⟨N_59, rfl, hS'⟩
                clear hm a; intro a hm
                obtain ⟨N_60, hS'', le_60, ln_60⟩ := hS.call [] (by decide) rfl (l' := []) (ow := []) rfl hS'
                replace hS : Sep w0 w_58 [N_60, Mem.no, Mem.no, Mem.no, Mem.no, Mem.no] Z := hS''
                clear hS' hS''
                refine s_pick_t hm rfl rfl (beq_iff_eq.2 hc_56) rfl ?_
                clear hm a; intro a hm
                refine s_assign hm rfl rfl ?_
                clear hm a; intro a hm
                refine wpList_nil ?_
                replace hm : Fr 138 a [(4, .bool true)] := hm.keep [4]
                refine x_then_n (hKJ_55 _ _ ?_)
                refine wp_ret ?_
                exact f_ret hm (rs := [.tmp 4]) rfl (.tmp rfl .nil) ⟨_, rfl, N_60, rfl, (Sep.sel hS [0] (by decide))⟩
              · rw [if_neg hc_56] at H
                cases H
            clear hKJ_48
            obtain ⟨N_68, hS', le_68, lo_68⟩ := hS.freeze 0 rfl
            replace hS : Sep w0 w_45 [N_68, Mem.no, Mem.no, Mem.no, Mem.no, Mem.no] Z := hS'
            clear hS'
            replace hS : Sep w0 w_45 [N_68, Mem.no, Mem.no, Mem.no, Mem.no, Mem.no] Z := hS
            replace hm : Fr 138 a [(0, .int .i64 (band .i64 x0 15)), (4, .bool false), (5, v_6), (12, .int .i64 0)] := hm.keep [0, 4, 5, 12]
            refine c_block ?_
            refine c_loop (fun k_66 a w_66 => ∃ (x_62 : List (List UInt8)) (x_65 : Int) (v_63 : Value) (N_61 : Mem), hocketlaw5_FifoForms.l_66 K x0 (fun v => hocketlaw5_FifoForms.j_54 K v) k_66 (x_62, x_65) = some r ∧ Fr 138 a [(0, .int .i64 (band .i64 x0 15)), (4, .bool false), (5, v_63), (12, .int .i64 x_65)] ∧ Sep w0 w_66 [N_61, Mem.no, Mem.no, Mem.no, Mem.no, Mem.no] Z ∧ N_43.le N_61 ∧ Rd (Kd.slice Kd.u8) N_61 v_63 x_62) K ⟨x_3, 0, v_6, N_68, H, hm, (Sep.sel hS [0, 1000, 1001, 1002, 1003, 1004] (by decide)), le_68, (ho_7.rd lo_68 (le_19.trans (le_32.trans (le_37.trans (le_43.trans le_68)))))⟩ (fun a w h => by obtain ⟨_, _, _, _, H, _⟩ := h; cases (show (none : Option (Unit)) = some r from H)) ?_
            clear hm hS a H
            rintro k_66 a w_66 KL_66 hKL_66 ⟨x_62, x_65, v_63, N_61, H, hm, hS, le_61, hr_64⟩
            replace H : hocketlaw5_FifoForms.b_66 K x0 (fun v => hocketlaw5_FifoForms.j_54 K v) (hocketlaw5_FifoForms.l_66 K x0 (fun v => hocketlaw5_FifoForms.j_54 K v) k_66) x_62 x_65 = some r := H
            unfold hocketlaw5_FifoForms.b_66 at H
            refine c_seq fun KJ_69 hKJ_69 => ?_
            refine wp_seq ?_
            refine wp_region_lit ?_
            refine s_move hm rfl rfl ?_
            clear hm a; intro a hm
            refine s_move hm rfl rfl ?_
            clear hm a; intro a hm
            refine s_min hm rfl rfl rfl ?_
            clear hm a; intro a hm
            refine s_cmp (b := decide (x_65 < (mn (band .i64 x0 15) 8))) hm rfl rfl rfl (.inr (.inr (.inl ⟨rfl, rfl⟩))) ?_
            clear hm a; intro a hm
            refine wpList_nil ?_
            replace hm : Fr 138 a [(0, .int .i64 (band .i64 x0 15)), (4, .bool false), (5, v_63), (12, .int .i64 x_65), (105, .bool (decide (x_65 < (mn (band .i64 x0 15) 8))))] := hm.keep [0, 4, 5, 12, 105]
            refine x_then_n ?_
            by_cases hc_70 : x_65 < (mn (band .i64 x0 15) 8)
            · rw [if_pos hc_70] at H
              refine c_cond_t hm rfl (decide_eq_true hc_70) ?_
              refine wp_skip ?_
              refine x_then_n (hKJ_69 _ _ ?_)
              refine wp_seq ?_
              refine c_block ?_
              refine wp_seq ?_
              refine wp_region_lit ?_
              refine s_move hm rfl rfl ?_
              clear hm a; intro a hm
              obtain ⟨t_71, et_71, H⟩ := Option.bind_eq_some_iff.1 H
              refine s_call hm rfl Try.call24 rfl (fifo_Pop.calls K x_62 _ t_71 w0 _ _ _ (Mem.le.refl _) (hS.enter [] (by decide)) (hr_64.mono ((Mem.le.refl _).trans (hS.new_zed []))) et_71) ?_
              rintro _ w_72 ⟨v_75, v_77, N_73, rfl, hS', hr_76, hr_78⟩
              clear hm a; intro a hm
              obtain ⟨N_74, hS'', le_74, ln_74⟩ := hS.call [] (by decide) rfl (l' := []) (ow := []) rfl hS'
              replace hS : Sep w0 w_72 [N_74, Mem.no, Mem.no, Mem.no, Mem.no, Mem.no] Z := hS''
              clear hS' hS''
              refine s_move hm rfl rfl ?_
              clear hm a; intro a hm
              refine s_extract hm rfl rfl rfl ?_
              clear hm a; intro a hm
              refine s_extract hm rfl rfl rfl ?_
              clear hm a; intro a hm
              refine v_alloc hm rfl ti27 hS ?_
              intro w_79 g_80 hS'
              clear hm a; intro a hm
              replace hS : Sep w0 w_79 [N_74, Mem.no, Mem.no, Mem.no, Mem.no, Mem.no, Mem.one g_80 (.cells ([.int .i64 0, .slice none 0 0, .int .i64 0] : List Value).toArray 27 (0, 0))] Z := hS'
              clear hS'
              refine s_assign hm rfl rfl ?_
              clear hm a; intro a hm
              obtain ⟨w_81, hs', hS'⟩ := hS.store (P := Try.prog) (p := 6) (o := 0) (t := 27) (v := .agg [.int .i64 t_71.2.Err, v_77, .int .i64 t_71.2.N].toArray) (vs := [.int .i64 t_71.2.Err, v_77, .int .i64 t_71.2.N]) rfl ti27 rfl rfl rfl (by intro u hu; simp only [List.mem_cons, List.not_mem_nil, or_false] at hu; rcases hu with rfl | rfl | rfl <;> first | rfl | exact (hr_78.mono ln_74).one)
              refine s_store hm rfl rfl hs' ?_
              replace hS : Sep w0 w_81 [N_74, Mem.no, Mem.no, Mem.no, Mem.no, Mem.no, Mem.one g_80 (.cells ([.int .i64 t_71.2.Err, v_77, .int .i64 t_71.2.N] : List Value).toArray 27 (0, 0))] Z := hS'
              clear hs' hS'
              refine wpList_nil ?_
              replace hm : Fr 138 a [(0, .int .i64 (band .i64 x0 15)), (4, .bool false), (5, v_63), (12, .int .i64 x_65), (13, v_75), (14, .pointer (some ⟨g_80, 0, none⟩))] := hm.keep [0, 4, 5, 12, 13, 14]
              refine x_then_n ?_
              refine c_seq fun KJ_82 hKJ_82 => ?_
              refine c_seq fun KJ_83 hKJ_83 => ?_
              have hJ_j_87 : ∀ (x_85 : Bool), hocketlaw5_FifoForms.j_87 K (hocketlaw5_FifoForms.l_66 K x0 (fun v => hocketlaw5_FifoForms.j_54 K v) k_66) t_71 x_65 x_85 = some r → ∀ (a : Act) (w_86 : World), (∃ (N_84 : Mem), Fr 138 a [(0, .int .i64 (band .i64 x0 15)), (4, .bool false), (5, v_63), (12, .int .i64 x_65), (13, v_75), (130, .bool x_85)] ∧ Sep w0 w_86 [N_84, Mem.no, Mem.no, Mem.no, Mem.no, Mem.no, Mem.no] Z ∧ N_74.le N_84) → KJ_83 a w_86 := by
                clear H hm hS a
                rintro x_85 H a w_86 ⟨N_84, hm, hS, le_84⟩
                unfold hocketlaw5_FifoForms.j_87 at H
                refine hKJ_83 _ _ ?_
                by_cases hc_88 : x_85 = true
                · rw [if_pos hc_88] at H
                  cases H
                · rw [if_neg hc_88] at H
                  refine c_cond_f hm rfl (Bool.eq_false_iff.2 hc_88) ?_
                  refine wp_skip ?_
                  refine x_then_n (hKJ_82 _ _ ?_)
                  refine wp_region_lit ?_
                  refine s_move hm rfl rfl ?_
                  clear hm a; intro a hm
                  refine s_assign hm rfl rfl ?_
                  clear hm a; intro a hm
                  refine wpList_nil ?_
                  replace hm : Fr 138 a [(0, .int .i64 (band .i64 x0 15)), (4, .bool false), (5, v_75), (12, .int .i64 x_65)] := hm.keep [0, 4, 5, 12]
                  refine x_block_n ?_
                  refine x_then_n ?_
                  refine wp_region_lit ?_
                  refine s_move hm rfl rfl ?_
                  clear hm a; intro a hm
                  refine s_arith (r := w64 (x_65 + 1)) hm rfl rfl rfl (.inl ⟨rfl, rfl⟩) ?_
                  clear hm a; intro a hm
                  refine s_assign hm rfl rfl ?_
                  clear hm a; intro a hm
                  refine wpList_nil ?_
                  replace hm : Fr 138 a [(0, .int .i64 (band .i64 x0 15)), (4, .bool false), (5, v_75), (12, .int .i64 (w64 (x_65 + 1)))] := hm.keep [0, 4, 5, 12]
                  refine x_then_n (hKL_66 _ _ ?_)
                  replace hS : Sep w0 w_86 [N_84, Mem.no, Mem.no, Mem.no, Mem.no, Mem.no, Mem.no] Z := hS
                  replace hm : Fr 138 a [(0, .int .i64 (band .i64 x0 15)), (4, .bool false), (5, v_75), (12, .int .i64 (w64 (x_65 + 1)))] := hm.keep [0, 4, 5, 12]
                  exact ⟨t_71.1, w64 (x_65 + 1), v_75, N_84, H, hm, (Sep.sel hS [0, 1000, 1001, 1002, 1003, 1004] (by decide)), (le_61.trans (le_74.trans le_84)), ((hr_76.mono ln_74).mono le_84)⟩
              clear hKJ_83
              refine wp_region_lit ?_
              refine s_fieldAddr hm rfl Try.underlying27 rfl ti25 rfl rfl ?_
              clear hm a; intro a hm
              refine s_load hm rfl rfl (hS.load_one (p := 6) rfl Try.underlying25 rfl rfl) ?_
              clear hm a; intro a hm
              refine s_len hm rfl Try.underlying25 rfl (hr_78.mono ln_74) ?_
              clear hm a; intro a hm
              refine s_cmp (b := ((t_71.2.Val.length : Int) != 1)) hm rfl rfl rfl (.inr (.inl ⟨rfl, rfl⟩)) ?_
              clear hm a; intro a hm
              refine s_move hm rfl rfl ?_
              clear hm a; intro a hm
              by_cases hc_89 : (t_71.2.Val.length : Int) = 1
              · rw [if_pos hc_89] at H
                refine s_on hm rfl rfl (bne_eq_false_iff_eq.2 hc_89) ?_
                refine s_fieldAddr hm rfl Try.underlying27 rfl ti25 rfl rfl ?_
                clear hm a; intro a hm
                refine s_on hm rfl rfl (bne_eq_false_iff_eq.2 hc_89) ?_
                refine s_load hm rfl rfl (hS.load_one (p := 6) rfl Try.underlying25 rfl rfl) ?_
                clear hm a; intro a hm
                refine s_on hm rfl rfl (bne_eq_false_iff_eq.2 hc_89) ?_
                obtain ⟨t_90, et_90, H⟩ := Option.bind_eq_some_iff.1 H
                refine v_index hm rfl Try.underlying25 ti5 rfl rfl rfl (hr_78.mono ln_74) ((Mem.le.refl _).trans (hS.own 0)) et_90 ?_
                intro ad_91 cs_92 hk_93 hc_94
                obtain rfl := (show cs_92 = [.int .u8 (t_90.toNat : Int)] from hk_93)
                clear hm a; intro a hm
                refine s_on hm rfl rfl (bne_eq_false_iff_eq.2 hc_89) ?_
                refine s_load hm rfl rfl (el_one (o := 0) hc_94 Try.underlying5 rfl rfl) ?_
                clear hm a; intro a hm
                refine s_on hm rfl rfl (bne_eq_false_iff_eq.2 hc_89) ?_
                refine s_conv ((t_90.toNat : Int)) hm rfl Try.underlying5 Try.underlying3 rfl (w64_nat8 _).symm ?_
                clear hm a; intro a hm
                refine s_on hm rfl rfl (bne_eq_false_iff_eq.2 hc_89) ?_
                refine s_move hm rfl rfl ?_
                clear hm a; intro a hm
                refine s_on hm rfl rfl (bne_eq_false_iff_eq.2 hc_89) ?_
                refine s_cmp (b := ((t_90.toNat : Int) != x_65)) hm rfl rfl rfl (.inr (.inl ⟨rfl, rfl⟩)) ?_
                clear hm a; intro a hm
                refine s_pick_f hm rfl rfl (bne_eq_false_iff_eq.2 hc_89) rfl ?_
                clear hm a; intro a hm
                refine s_move hm rfl rfl ?_
                clear hm a; intro a hm
                by_cases hc_95 : (t_90.toNat : Int) = x_65
                · rw [if_pos hc_95] at H
                  refine s_on hm rfl rfl (bne_eq_false_iff_eq.2 hc_95) ?_
                  refine s_fieldAddr hm rfl Try.underlying27 rfl ti3 rfl rfl ?_
                  clear hm a; intro a hm
                  refine s_on hm rfl rfl (bne_eq_false_iff_eq.2 hc_95) ?_
                  refine s_load hm rfl rfl (hS.load_one (p := 6) rfl Try.underlying3 rfl rfl) ?_
                  clear hm a; intro a hm
                  refine s_on hm rfl rfl (bne_eq_false_iff_eq.2 hc_95) ?_
                  refine s_cmp (b := (t_71.2.N != 0)) hm rfl rfl rfl (.inr (.inl ⟨rfl, rfl⟩)) ?_
                  clear hm a; intro a hm
                  refine s_pick_f hm rfl rfl (bne_eq_false_iff_eq.2 hc_95) rfl ?_
                  clear hm a; intro a hm
                  refine wpList_nil ?_
                  replace hm : Fr 138 a [(0, .int .i64 (band .i64 x0 15)), (4, .bool false), (5, v_63), (12, .int .i64 x_65), (13, v_75), (130, .bool (t_71.2.N != 0))] := hm.keep [0, 4, 5, 12, 13, 130]
                  replace hS : Sep w0 w_81 [N_74, Mem.no, Mem.no, Mem.no, Mem.no, Mem.no, Mem.one g_80 (.cells ([.int .i64 t_71.2.Err, v_77, .int .i64 t_71.2.N] : List Value).toArray 27 (0, 0))] Z := hS
                  replace hm : Fr 138 a [(0, .int .i64 (band .i64 x0 15)), (4, .bool false), (5, v_63), (12, .int .i64 x_65), (13, v_75), (130, .bool (t_71.2.N != 0))] := hm.keep [0, 4, 5, 12, 13, 130]
                  exact x_then_n (hJ_j_87 (t_71.2.N != 0) H _ _ ⟨N_74, hm, (Sep.sel hS [0, 1000, 1001, 1002, 1003, 1004, 1005] (by decide)), (Mem.le.refl _)⟩)
                · rw [if_neg hc_95] at H
                  refine s_off hm rfl rfl rfl (bne_iff_ne.2 hc_95) ?_
                  clear hm a; intro a hm
                  refine s_off hm rfl rfl rfl (bne_iff_ne.2 hc_95) ?_
                  clear hm a; intro a hm
                  refine s_off hm rfl rfl rfl (bne_iff_ne.2 hc_95) ?_
                  clear hm a; intro a hm
                  refine s_pick_t hm rfl rfl (bne_iff_ne.2 hc_95) rfl ?_
                  clear hm a; intro a hm
                  refine wpList_nil ?_
                  replace hm : Fr 138 a [(0, .int .i64 (band .i64 x0 15)), (4, .bool false), (5, v_63), (12, .int .i64 x_65), (13, v_75), (130, .bool true)] := hm.keep [0, 4, 5, 12, 13, 130]
                  replace hS : Sep w0 w_81 [N_74, Mem.no, Mem.no, Mem.no, Mem.no, Mem.no, Mem.one g_80 (.cells ([.int .i64 t_71.2.Err, v_77, .int .i64 t_71.2.N] : List Value).toArray 27 (0, 0))] Z := hS
                  replace hm : Fr 138 a [(0, .int .i64 (band .i64 x0 15)), (4, .bool false), (5, v_63), (12, .int .i64 x_65), (13, v_75), (130, .bool true)] := hm.keep [0, 4, 5, 12, 13, 130]
                  exact x_then_n (hJ_j_87 true H _ _ ⟨N_74, hm, (Sep.sel hS [0, 1000, 1001, 1002, 1003, 1004, 1005] (by decide)), (Mem.le.refl _)⟩)
              · rw [if_neg hc_89] at H
                refine s_off hm rfl rfl rfl (bne_iff_ne.2 hc_89) ?_
                clear hm a; intro a hm
                refine s_off hm rfl rfl rfl (bne_iff_ne.2 hc_89) ?_
                clear hm a; intro a hm
                refine s_off hm rfl rfl rfl (bne_iff_ne.2 hc_89) ?_
                clear hm a; intro a hm
                refine s_off hm rfl rfl rfl (bne_iff_ne.2 hc_89) ?_
                clear hm a; intro a hm
                refine s_off hm rfl rfl rfl (bne_iff_ne.2 hc_89) ?_
                clear hm a; intro a hm
                refine s_off hm rfl rfl rfl (bne_iff_ne.2 hc_89) ?_
                clear hm a; intro a hm
                refine s_off hm rfl rfl rfl (bne_iff_ne.2 hc_89) ?_
                clear hm a; intro a hm
                refine s_pick_t hm rfl rfl (bne_iff_ne.2 hc_89) rfl ?_
                clear hm a; intro a hm
                refine s_move hm rfl rfl ?_
                clear hm a; intro a hm
                refine s_off hm rfl rfl rfl rfl ?_
                clear hm a; intro a hm
                refine s_off hm rfl rfl rfl rfl ?_
                clear hm a; intro a hm
                refine s_off hm rfl rfl rfl rfl ?_
                clear hm a; intro a hm
                refine s_pick_t hm rfl rfl rfl rfl ?_
                clear hm a; intro a hm
                refine wpList_nil ?_
                replace hm : Fr 138 a [(0, .int .i64 (band .i64 x0 15)), (4, .bool false), (5, v_63), (12, .int .i64 x_65), (13, v_75), (130, .bool true)] := hm.keep [0, 4, 5, 12, 13, 130]
                replace hS : Sep w0 w_81 [N_74, Mem.no, Mem.no, Mem.no, Mem.no, Mem.no, Mem.one g_80 (.cells ([.int .i64 t_71.2.Err, v_77, .int .i64 t_71.2.N] : List Value).toArray 27 (0, 0))] Z := hS
                replace hm : Fr 138 a [(0, .int .i64 (band .i64 x0 15)), (4, .bool false), (5, v_63), (12, .int .i64 x_65), (13, v_75), (130, .bool true)] := hm.keep [0, 4, 5, 12, 13, 130]
                exact x_then_n (hJ_j_87 true H _ _ ⟨N_74, hm, (Sep.sel hS [0, 1000, 1001, 1002, 1003, 1004, 1005] (by decide)), (Mem.le.refl _)⟩)
            · rw [if_neg hc_70] at H
              refine c_cond_f hm rfl (decide_eq_false hc_70) ?_
              refine wp_exit (x_then_x (x_then_x (x_block_t ?_)))
              replace hS : Sep w0 w_66 [N_61, Mem.no, Mem.no, Mem.no, Mem.no, Mem.no] Z := hS
              replace hm : Fr 138 a [(4, .bool false), (5, v_63)] := hm.keep [4, 5]
              exact x_then_n (hJ_j_54 x_62 H _ _ ⟨v_63, N_61, hm, (Sep.sel hS [0, 1000, 1001, 1002, 1003, 1004] (by decide)), le_61, hr_64⟩)
        clear hKJ_42
        refine wp_region_lit ?_
        refine s_fieldAddr hm rfl Try.underlying27 rfl ti22 rfl rfl ?_
        clear hm a; intro a hm
        refine s_load hm rfl rfl (hS.load_one (p := 5) rfl Try.underlying22 rfl rfl) ?_
        clear hm a; intro a hm
        refine s_move hm rfl rfl ?_
        clear hm a; intro a hm
        refine s_cmp (b := (t_16.2.Err != x_38)) hm rfl rfl rfl (.inr (.inl ⟨rfl, rfl⟩)) ?_
        clear hm a; intro a hm
        refine s_move hm rfl rfl ?_
        clear hm a; intro a hm
        by_cases hc_96 : t_16.2.Err = x_38
        · rw [if_pos hc_96] at H
          refine s_on hm rfl rfl (bne_eq_false_iff_eq.2 hc_96) ?_
          refine s_move hm rfl rfl ?_
          clear hm a; intro a hm
          refine s_on hm rfl rfl (bne_eq_false_iff_eq.2 hc_96) ?_
          refine s_cmp (b := (x_38 != 0)) hm rfl rfl rfl (.inr (.inl ⟨rfl, rfl⟩)) ?_
          clear hm a; intro a hm
          refine s_on hm rfl rfl (bne_eq_false_iff_eq.2 hc_96) ?_
          refine s_move hm rfl rfl ?_
          clear hm a; intro a hm
          by_cases hc_97 : x_38 = 0
          · rw [if_pos hc_97] at H
            refine s_off hm rfl rfl rfl (bne_eq_false_iff_eq.2 hc_97) ?_
            clear hm a; intro a hm
            refine s_off hm rfl rfl rfl (bne_eq_false_iff_eq.2 hc_97) ?_
            clear hm a; intro a hm
            refine s_off hm rfl rfl rfl (bne_eq_false_iff_eq.2 hc_97) ?_
            clear hm a; intro a hm
            refine s_off hm rfl rfl rfl (bne_eq_false_iff_eq.2 hc_97) ?_
            clear hm a; intro a hm
            refine s_on hm rfl rfl (bne_eq_false_iff_eq.2 hc_96) ?_
            refine s_pick_f hm rfl rfl (bne_eq_false_iff_eq.2 hc_97) rfl ?_
            clear hm a; intro a hm
            refine s_pick_f hm rfl rfl (bne_eq_false_iff_eq.2 hc_96) rfl ?_
            clear hm a; intro a hm
            refine s_move hm rfl rfl ?_
            clear hm a; intro a hm
            refine s_on hm rfl rfl rfl ?_
            refine s_move hm rfl rfl ?_
            clear hm a; intro a hm
            refine s_on hm rfl rfl rfl ?_
            refine s_cmp (b := (x_38 == 0)) hm rfl rfl rfl (.inl ⟨rfl, rfl⟩) ?_
            clear hm a; intro a hm
            refine s_on hm rfl rfl rfl ?_
            refine s_move hm rfl rfl ?_
            clear hm a; intro a hm
            refine s_on hm rfl rfl (beq_iff_eq.2 hc_97) ?_
            refine s_move hm rfl rfl ?_
            clear hm a; intro a hm
            refine s_on hm rfl rfl (beq_iff_eq.2 hc_97) ?_
            refine s_lenO hm rfl Try.underlying37 rfl (hr_21.mono ln_19) ?_
            clear hm a; intro a hm
            refine s_on hm rfl rfl (beq_iff_eq.2 hc_97) ?_
            refine s_move hm rfl rfl ?_
            clear hm a; intro a hm
            refine s_on hm rfl rfl (beq_iff_eq.2 hc_97) ?_
            refine s_arith (r := w64 ((band .i64 x0 15) + 1)) hm rfl rfl rfl (.inl ⟨rfl, rfl⟩) ?_
            clear hm a; intro a hm
            refine s_on hm rfl rfl (beq_iff_eq.2 hc_97) ?_
            refine s_cmp (b := ((t_16.1.length : Int) != (w64 ((band .i64 x0 15) + 1)))) hm rfl rfl rfl (.inr (.inl ⟨rfl, rfl⟩)) ?_
            clear hm a; intro a hm
            refine s_on hm rfl rfl rfl ?_
            refine s_pick_t hm rfl rfl (beq_iff_eq.2 hc_97) rfl ?_
            clear hm a; intro a hm
            refine s_pick_f hm rfl rfl rfl rfl ?_
            clear hm a; intro a hm
            refine wpList_nil ?_
            replace hm : Fr 138 a [(0, .int .i64 (band .i64 x0 15)), (4, .bool false), (5, v_6), (101, .bool ((t_16.1.length : Int) != (w64 ((band .i64 x0 15) + 1))))] := hm.keep [0, 4, 5, 101]
            replace hS : Sep w0 w_39 [N_37, M_4, Mem.no, M_22, M_26, Mem.one g_29 (.cells ([.int .i64 t_16.2.Err, v_24, .int .i64 t_16.2.N] : List Value).toArray 27 (0, 0))] Z := hS
            replace hm : Fr 138 a [(0, .int .i64 (band .i64 x0 15)), (4, .bool false), (5, v_6), (101, .bool ((t_16.1.length : Int) != (w64 ((band .i64 x0 15) + 1))))] := hm.keep [0, 4, 5, 101]
            exact x_then_n (hJ_j_46 ((t_16.1.length : Int) != (w64 ((band .i64 x0 15) + 1))) H _ _ ⟨N_37, hm, (Sep.sel hS [0, 1, 1001, 1002, 1003, 1004] (by decide)), (Mem.le.refl _)⟩)
          · rw [if_neg hc_97] at H
            refine s_on hm rfl rfl (bne_iff_ne.2 hc_97) ?_
            refine s_move hm rfl rfl ?_
            clear hm a; intro a hm
            refine s_on hm rfl rfl (bne_iff_ne.2 hc_97) ?_
            refine s_move hm rfl rfl ?_
            clear hm a; intro a hm
            refine s_on hm rfl rfl (bne_iff_ne.2 hc_97) ?_
            obtain ⟨t_98, et_98, H⟩ := Option.bind_eq_some_iff.1 H
            refine s_call hm rfl Try.call23 rfl (hocketref4_SameRows.calls K x_3 _ t_16.1 _ t_98 w0 _ _ _ (Mem.le.refl _) (hS.enter [] (by decide)) (ho_7.rd (hS.own_zed [] 0 (by decide)) ((le_19.trans (le_32.trans le_37)).trans (hS.new_zed []))) ((hr_21.mono ln_19).rd (hS.own_zed [] 2 (by decide)) ((le_32.trans le_37).trans (hS.new_zed []))) et_98) ?_
            rintro _ w_99 ⟨N_100, rfl, hS'⟩
            clear hm a; intro a hm
            obtain ⟨N_101, hS'', le_101, ln_101⟩ := hS.call [] (by decide) rfl (l' := []) (ow := []) rfl hS'
            replace hS : Sep w0 w_99 [N_101, M_4, Mem.no, M_22, M_26, Mem.one g_29 (.cells ([.int .i64 t_16.2.Err, v_24, .int .i64 t_16.2.N] : List Value).toArray 27 (0, 0))] Z := hS''
            clear hS' hS''
            refine s_on hm rfl rfl (bne_iff_ne.2 hc_97) ?_
            refine s_not hm rfl rfl ?_
            clear hm a; intro a hm
            refine s_on hm rfl rfl (bne_eq_false_iff_eq.2 hc_96) ?_
            refine s_pick_t hm rfl rfl (bne_iff_ne.2 hc_97) rfl ?_
            clear hm a; intro a hm
            refine s_pick_f hm rfl rfl (bne_eq_false_iff_eq.2 hc_96) rfl ?_
            clear hm a; intro a hm
            refine s_move hm rfl rfl ?_
            clear hm a; intro a hm
            by_cases hc_102 : t_98 = true
            · rw [if_pos hc_102] at H
              refine s_on hm rfl rfl (nf hc_102) ?_
              refine s_move hm rfl rfl ?_
              clear hm a; intro a hm
              refine s_on hm rfl rfl (nf hc_102) ?_
              refine s_cmp (b := (x_38 == 0)) hm rfl rfl rfl (.inl ⟨rfl, rfl⟩) ?_
              clear hm a; intro a hm
              refine s_on hm rfl rfl (nf hc_102) ?_
              refine s_move hm rfl rfl ?_
              clear hm a; intro a hm
              refine s_off hm rfl rfl rfl (beq_eq_false_iff_ne.2 hc_97) ?_
              clear hm a; intro a hm
              refine s_off hm rfl rfl rfl (beq_eq_false_iff_ne.2 hc_97) ?_
              clear hm a; intro a hm
              refine s_off hm rfl rfl rfl (beq_eq_false_iff_ne.2 hc_97) ?_
              clear hm a; intro a hm
              refine s_off hm rfl rfl rfl (beq_eq_false_iff_ne.2 hc_97) ?_
              clear hm a; intro a hm
              refine s_off hm rfl rfl rfl (beq_eq_false_iff_ne.2 hc_97) ?_
              clear hm a; intro a hm
              refine s_on hm rfl rfl (nf hc_102) ?_
              refine s_pick_f hm rfl rfl (beq_eq_false_iff_ne.2 hc_97) rfl ?_
              clear hm a; intro a hm
              refine s_pick_f hm rfl rfl (nf hc_102) rfl ?_
              clear hm a; intro a hm
              refine wpList_nil ?_
              replace hm : Fr 138 a [(0, .int .i64 (band .i64 x0 15)), (4, .bool false), (5, v_6), (101, .bool false)] := hm.keep [0, 4, 5, 101]
              replace hS : Sep w0 w_99 [N_101, M_4, Mem.no, M_22, M_26, Mem.one g_29 (.cells ([.int .i64 t_16.2.Err, v_24, .int .i64 t_16.2.N] : List Value).toArray 27 (0, 0))] Z := hS
              replace hm : Fr 138 a [(0, .int .i64 (band .i64 x0 15)), (4, .bool false), (5, v_6), (101, .bool false)] := hm.keep [0, 4, 5, 101]
              exact x_then_n (hJ_j_46 false H _ _ ⟨N_101, hm, (Sep.sel hS [0, 1, 1001, 1002, 1003, 1004] (by decide)), le_101⟩)
            · rw [if_neg hc_102] at H
              refine s_off hm rfl rfl rfl (nt (Bool.eq_false_iff.2 hc_102)) ?_
              clear hm a; intro a hm
              refine s_off hm rfl rfl rfl (nt (Bool.eq_false_iff.2 hc_102)) ?_
              clear hm a; intro a hm
              refine s_off hm rfl rfl rfl (nt (Bool.eq_false_iff.2 hc_102)) ?_
              clear hm a; intro a hm
              refine s_offu hm rfl rfl rfl ?_
              clear hm a; intro a hm
              refine s_offu hm rfl rfl rfl ?_
              clear hm a; intro a hm
              refine s_offu hm rfl rfl rfl ?_
              clear hm a; intro a hm
              refine s_offu hm rfl rfl rfl ?_
              clear hm a; intro a hm
              refine s_offu hm rfl rfl rfl ?_
              clear hm a; intro a hm
              refine s_off hm rfl rfl rfl (nt (Bool.eq_false_iff.2 hc_102)) ?_
              clear hm a; intro a hm
              refine s_pick_t hm rfl rfl (nt (Bool.eq_false_iff.2 hc_102)) rfl ?_
              clear hm a; intro a hm
              refine wpList_nil ?_
              replace hm : Fr 138 a [(0, .int .i64 (band .i64 x0 15)), (4, .bool false), (5, v_6), (101, .bool true)] := hm.keep [0, 4, 5, 101]
              replace hS : Sep w0 w_99 [N_101, M_4, Mem.no, M_22, M_26, Mem.one g_29 (.cells ([.int .i64 t_16.2.Err, v_24, .int .i64 t_16.2.N] : List Value).toArray 27 (0, 0))] Z := hS
              replace hm : Fr 138 a [(0, .int .i64 (band .i64 x0 15)), (4, .bool false), (5, v_6), (101, .bool true)] := hm.keep [0, 4, 5, 101]
              exact x_then_n (hJ_j_46 true H _ _ ⟨N_101, hm, (Sep.sel hS [0, 1, 1001, 1002, 1003, 1004] (by decide)), le_101⟩)
        · rw [if_neg hc_96] at H
          refine s_off hm rfl rfl rfl (bne_iff_ne.2 hc_96) ?_
          clear hm a; intro a hm
          refine s_off hm rfl rfl rfl (bne_iff_ne.2 hc_96) ?_
          clear hm a; intro a hm
          refine s_off hm rfl rfl rfl (bne_iff_ne.2 hc_96) ?_
          clear hm a; intro a hm
          refine s_offu hm rfl rfl rfl ?_
          clear hm a; intro a hm
          refine s_offu hm rfl rfl rfl ?_
          clear hm a; intro a hm
          refine s_offu hm rfl rfl rfl ?_
          clear hm a; intro a hm
          refine s_offu hm rfl rfl rfl ?_
          clear hm a; intro a hm
          refine s_off hm rfl rfl rfl (bne_iff_ne.2 hc_96) ?_
          clear hm a; intro a hm
          refine s_pick_t hm rfl rfl (bne_iff_ne.2 hc_96) rfl ?_
          clear hm a; intro a hm
          refine s_move hm rfl rfl ?_
          clear hm a; intro a hm
          refine s_off hm rfl rfl rfl rfl ?_
          clear hm a; intro a hm
          refine s_off hm rfl rfl rfl rfl ?_
          clear hm a; intro a hm
          refine s_off hm rfl rfl rfl rfl ?_
          clear hm a; intro a hm
          refine s_offu hm rfl rfl rfl ?_
          clear hm a; intro a hm
          refine s_offu hm rfl rfl rfl ?_
          clear hm a; intro a hm
          refine s_offu hm rfl rfl rfl ?_
          clear hm a; intro a hm
          refine s_offu hm rfl rfl rfl ?_
          clear hm a; intro a hm
          refine s_offu hm rfl rfl rfl ?_
          clear hm a; intro a hm
          refine s_off hm rfl rfl rfl rfl ?_
          clear hm a; intro a hm
          refine s_pick_t hm rfl rfl rfl rfl ?_
          clear hm a; intro a hm
          refine wpList_nil ?_
          replace hm : Fr 138 a [(0, .int .i64 (band .i64 x0 15)), (4, .bool false), (5, v_6), (101, .bool true)] := hm.keep [0, 4, 5, 101]
          replace hS : Sep w0 w_39 [N_37, M_4, Mem.no, M_22, M_26, Mem.one g_29 (.cells ([.int .i64 t_16.2.Err, v_24, .int .i64 t_16.2.N] : List Value).toArray 27 (0, 0))] Z := hS
          replace hm : Fr 138 a [(0, .int .i64 (band .i64 x0 15)), (4, .bool false), (5, v_6), (101, .bool true)] := hm.keep [0, 4, 5, 101]
          exact x_then_n (hJ_j_46 true H _ _ ⟨N_37, hm, (Sep.sel hS [0, 1, 1001, 1002, 1003, 1004] (by decide)), (Mem.le.refl _)⟩)
      clear hKJ_36
      by_cases hc_103 : (band .i64 x1 31) > 16
      · rw [if_pos hc_103] at H
        refine c_cond_t hm rfl (decide_eq_true hc_103) ?_
        refine wp_region_lit ?_
        refine s_assign hm rfl rfl ?_
        clear hm a; intro a hm
        refine wpList_nil ?_
        replace hm : Fr 138 a [(0, .int .i64 (band .i64 x0 15)), (4, .bool false), (5, v_6), (9, v_20), (10, .pointer (some ⟨g_29, 0, none⟩)), (11, .int .i64 1)] := hm.keep [0, 4, 5, 9, 10, 11]
        replace hS : Sep w0 w_34 [N_32, M_4, Mem.no, M_22, M_26, Mem.one g_29 (.cells ([.int .i64 t_16.2.Err, v_24, .int .i64 t_16.2.N] : List Value).toArray 27 (0, 0))] Z := hS
        replace hm : Fr 138 a [(0, .int .i64 (band .i64 x0 15)), (4, .bool false), (5, v_6), (9, v_20), (10, .pointer (some ⟨g_29, 0, none⟩)), (11, .int .i64 1)] := hm.keep [0, 4, 5, 9, 10, 11]
        exact x_then_n (hJ_j_40 1 H _ _ ⟨N_32, hm, (Sep.sel hS [0, 1, 1001, 3, 4, 5] (by decide)), (Mem.le.refl _)⟩)
      · rw [if_neg hc_103] at H
        refine c_cond_f hm rfl (decide_eq_false hc_103) ?_
        refine wp_skip ?_
        replace hS : Sep w0 w_34 [N_32, M_4, Mem.no, M_22, M_26, Mem.one g_29 (.cells ([.int .i64 t_16.2.Err, v_24, .int .i64 t_16.2.N] : List Value).toArray 27 (0, 0))] Z := hS
        replace hm : Fr 138 a [(0, .int .i64 (band .i64 x0 15)), (4, .bool false), (5, v_6), (9, v_20), (10, .pointer (some ⟨g_29, 0, none⟩)), (11, .int .i64 x_33)] := hm.keep [0, 4, 5, 9, 10, 11]
        exact x_then_n (hJ_j_40 x_33 H _ _ ⟨N_32, hm, (Sep.sel hS [0, 1, 1001, 3, 4, 5] (by decide)), (Mem.le.refl _)⟩)
    clear hKJ_31
    by_cases hc_104 : (band .i64 x0 15) ≥ 8
    · rw [if_pos hc_104] at H
      refine c_cond_t hm rfl (decide_eq_true hc_104) ?_
      refine wp_region_lit ?_
      refine s_assign hm rfl rfl ?_
      clear hm a; intro a hm
      refine wpList_nil ?_
      replace hm : Fr 138 a [(0, .int .i64 (band .i64 x0 15)), (1, .int .i64 (band .i64 x1 31)), (4, .bool false), (5, v_6), (9, v_20), (10, .pointer (some ⟨g_29, 0, none⟩)), (11, .int .i64 3)] := hm.keep [0, 1, 4, 5, 9, 10, 11]
      replace hS : Sep w0 w_30 [N_19, M_4, M_13, M_22, M_26, Mem.one g_29 (.cells ([.int .i64 t_16.2.Err, v_24, .int .i64 t_16.2.N] : List Value).toArray 27 (0, 0))] Z := hS
      replace hm : Fr 138 a [(0, .int .i64 (band .i64 x0 15)), (1, .int .i64 (band .i64 x1 31)), (4, .bool false), (5, v_6), (9, v_20), (10, .pointer (some ⟨g_29, 0, none⟩)), (11, .int .i64 3)] := hm.keep [0, 1, 4, 5, 9, 10, 11]
      exact x_then_n (hJ_j_35 3 H _ _ ⟨N_19, hm, (Sep.sel hS [0, 1, 1001, 3, 4, 5] (by decide)), (Mem.le.refl _)⟩)
    · rw [if_neg hc_104] at H
      refine c_cond_f hm rfl (decide_eq_false hc_104) ?_
      refine wp_skip ?_
      replace hS : Sep w0 w_30 [N_19, M_4, M_13, M_22, M_26, Mem.one g_29 (.cells ([.int .i64 t_16.2.Err, v_24, .int .i64 t_16.2.N] : List Value).toArray 27 (0, 0))] Z := hS
      replace hm : Fr 138 a [(0, .int .i64 (band .i64 x0 15)), (1, .int .i64 (band .i64 x1 31)), (4, .bool false), (5, v_6), (9, v_20), (10, .pointer (some ⟨g_29, 0, none⟩)), (11, .int .i64 0)] := hm.keep [0, 1, 4, 5, 9, 10, 11]
      exact x_then_n (hJ_j_35 0 H _ _ ⟨N_19, hm, (Sep.sel hS [0, 1, 1001, 3, 4, 5] (by decide)), (Mem.le.refl _)⟩)
  clear hKJ_1
  have hS' := hS.room
  replace hS : Sep w0 w [Mem.no, Mem.no] Z := hS'
  clear hS'
  replace hS : Sep w0 w [Mem.no, Mem.no] Z := hS
  replace hm : Fr 138 a [(0, .int .i64 (band .i64 x0 15)), (1, .int .i64 (band .i64 x1 31)), (4, .bool false), (5, .slice none 0 0), (6, .int .i64 0)] := hm.keep [0, 1, 4, 5, 6]
  refine c_block ?_
  refine c_loop (fun k_112 a w_112 => ∃ (x_106 : List (List UInt8)) (x_111 : Int) (v_109 : Value) (N_105 : Mem) (M_107 : Mem), hocketlaw5_FifoForms.l_112 K x0 (fun v => hocketlaw5_FifoForms.j_9 K x1 x0 v) k_112 (x_106, x_111) = some r ∧ Fr 138 a [(0, .int .i64 (band .i64 x0 15)), (1, .int .i64 (band .i64 x1 31)), (4, .bool false), (5, v_109), (6, .int .i64 x_111)] ∧ Sep w0 w_112 [N_105, M_107] Z ∧ Mem.no.le N_105 ∧ Own (Kd.slice Kd.u8) 25 M_107 N_105 v_109 x_106) K ⟨([] : List (List UInt8)), 0, .slice none 0 0, Mem.no, Mem.no, H, hm, (Sep.sel hS [0, 1] (by decide)), (Mem.le.refl _), ((Own.nil (Kd.slice Kd.u8) 25 Mem.no).mono (Mem.le.refl _))⟩ (fun a w h => by obtain ⟨_, _, _, _, _, H, _⟩ := h; cases (show (none : Option (Unit)) = some r from H)) ?_
  clear hm hS a H
  rintro k_112 a w_112 KL_112 hKL_112 ⟨x_106, x_111, v_109, N_105, M_107, H, hm, hS, le_105, ho_110⟩
  replace H : hocketlaw5_FifoForms.b_112 K x0 (fun v => hocketlaw5_FifoForms.j_9 K x1 x0 v) (hocketlaw5_FifoForms.l_112 K x0 (fun v => hocketlaw5_FifoForms.j_9 K x1 x0 v) k_112) x_106 x_111 = some r := H
  unfold hocketlaw5_FifoForms.b_112 at H
  refine c_seq fun KJ_115 hKJ_115 => ?_
  refine wp_seq ?_
  refine wp_region_lit ?_
  refine s_move hm rfl rfl ?_
  clear hm a; intro a hm
  refine s_move hm rfl rfl ?_
  clear hm a; intro a hm
  refine s_cmp (b := decide (x_111 < (band .i64 x0 15))) hm rfl rfl rfl (.inr (.inr (.inl ⟨rfl, rfl⟩))) ?_
  clear hm a; intro a hm
  refine wpList_nil ?_
  replace hm : Fr 138 a [(0, .int .i64 (band .i64 x0 15)), (1, .int .i64 (band .i64 x1 31)), (4, .bool false), (5, v_109), (6, .int .i64 x_111), (21, .bool (decide (x_111 < (band .i64 x0 15))))] := hm.keep [0, 1, 4, 5, 6, 21]
  refine x_then_n ?_
  by_cases hc_116 : x_111 < (band .i64 x0 15)
  · rw [if_pos hc_116] at H
    refine c_cond_t hm rfl (decide_eq_true hc_116) ?_
    refine wp_skip ?_
    refine x_then_n (hKJ_115 _ _ ?_)
    refine wp_seq ?_
    refine c_block ?_
    refine wp_seq ?_
    refine wp_region_lit ?_
    refine s_move hm rfl rfl ?_
    clear hm a; intro a hm
    refine s_move hm rfl rfl ?_
    clear hm a; intro a hm
    refine s_conv (((toU8 x_111).toNat : Int)) hm rfl Try.underlying3 Try.underlying5 rfl (wrap_u8 _).symm ?_
    clear hm a; intro a hm
    have hq_121 : Reps Kd.u8 Mem.no ([toU8 x_111] : List UInt8) _ := ((Reps.one (d := Kd.u8) (x := toU8 x_111) (show Kd.u8.K _ _ [.int .u8 ((toU8 x_111).toNat : Int)] from rfl)).append (Reps.nil Kd.u8 _))
    refine s_buildSlice hm rfl Try.underlying25 ti5 rfl rfl rfl (.cons rfl .nil) rfl rfl rfl hS hq_121 rfl ?_
    intro w_117 v_118 M_119 hS' ho_120
    clear hm a; intro a hm
    replace hS : Sep w0 w_117 [N_105, M_107, M_119] Z := hS'
    clear hS' hq_121
    obtain ⟨t_123, et_123, H⟩ := Option.bind_eq_some_iff.1 H
    refine s_call hm rfl Try.call22 rfl (fifo_Push.calls K x_106 _ ([toU8 x_111] : List UInt8) _ t_123 w0 _ _ _ (Mem.le.refl _) (hS.enter [] (by decide)) (ho_110.rd (hS.own_zed [] 0 (by decide)) ((Mem.le.refl _).trans (hS.new_zed []))) (ho_120.rd (hS.own_zed [] 1 (by decide)) (Mem.no_le _)) et_123) ?_
    rintro _ w_124 ⟨v_127, v_131, N_125, M_129, M_133, rfl, hS', hr_128, hr_132⟩
    clear hm a; intro a hm
    obtain ⟨N_126, hS'', le_126, ln_126⟩ := hS.call [] (by decide) rfl (l' := []) (ow := [M_129, M_133]) rfl hS'
    replace hS : Sep w0 w_124 [N_126, M_107, M_119, M_129, M_133] Z := hS''
    clear hS' hS''
    refine s_move hm rfl rfl ?_
    clear hm a; intro a hm
    refine s_extract hm rfl rfl rfl ?_
    clear hm a; intro a hm
    refine s_extract hm rfl rfl rfl ?_
    clear hm a; intro a hm
    refine v_alloc hm rfl ti27 hS ?_
    intro w_135 g_136 hS'
    clear hm a; intro a hm
    replace hS : Sep w0 w_135 [N_126, M_107, M_119, M_129, M_133, Mem.one g_136 (.cells ([.int .i64 0, .slice none 0 0, .int .i64 0] : List Value).toArray 27 (0, 0))] Z := hS'
    clear hS'
    refine s_assign hm rfl rfl ?_
    clear hm a; intro a hm
    obtain ⟨w_137, hs', hS'⟩ := hS.store (P := Try.prog) (p := 5) (o := 0) (t := 27) (v := .agg [.int .i64 t_123.2.Err, v_131, .int .i64 t_123.2.N].toArray) (vs := [.int .i64 t_123.2.Err, v_131, .int .i64 t_123.2.N]) rfl ti27 rfl rfl rfl (by intro u hu; simp only [List.mem_cons, List.not_mem_nil, or_false] at hu; rcases hu with rfl | rfl | rfl <;> first | rfl | exact hr_132.one)
    refine s_store hm rfl rfl hs' ?_
    replace hS : Sep w0 w_137 [N_126, M_107, M_119, M_129, M_133, Mem.one g_136 (.cells ([.int .i64 t_123.2.Err, v_131, .int .i64 t_123.2.N] : List Value).toArray 27 (0, 0))] Z := hS'
    clear hs' hS'
    refine wpList_nil ?_
    replace hm : Fr 138 a [(0, .int .i64 (band .i64 x0 15)), (1, .int .i64 (band .i64 x1 31)), (4, .bool false), (5, v_109), (6, .int .i64 x_111), (7, v_127), (8, .pointer (some ⟨g_136, 0, none⟩))] := hm.keep [0, 1, 4, 5, 6, 7, 8]
    refine x_then_n ?_
    refine c_seq fun KJ_138 hKJ_138 => ?_
    refine c_seq fun KJ_139 hKJ_139 => ?_
    have hJ_j_143 : ∀ (x_141 : Bool), hocketlaw5_FifoForms.j_143 K (hocketlaw5_FifoForms.l_112 K x0 (fun v => hocketlaw5_FifoForms.j_9 K x1 x0 v) k_112) t_123 x_111 x_141 = some r → ∀ (a : Act) (w_142 : World), (∃ (N_140 : Mem), Fr 138 a [(0, .int .i64 (band .i64 x0 15)), (1, .int .i64 (band .i64 x1 31)), (4, .bool false), (5, v_109), (6, .int .i64 x_111), (7, v_127), (64, .bool x_141)] ∧ Sep w0 w_142 [N_140, M_107, Mem.no, M_129, Mem.no, Mem.no] Z ∧ N_126.le N_140) → KJ_139 a w_142 := by
      clear H hm hS a
      rintro x_141 H a w_142 ⟨N_140, hm, hS, le_140⟩
      unfold hocketlaw5_FifoForms.j_143 at H
      refine hKJ_139 _ _ ?_
      by_cases hc_144 : x_141 = true
      · rw [if_pos hc_144] at H
        cases H
      · rw [if_neg hc_144] at H
        refine c_cond_f hm rfl (Bool.eq_false_iff.2 hc_144) ?_
        refine wp_skip ?_
        refine x_then_n (hKJ_138 _ _ ?_)
        refine wp_region_lit ?_
        refine s_move hm rfl rfl ?_
        clear hm a; intro a hm
        refine s_assign hm rfl rfl ?_
        clear hm a; intro a hm
        refine wpList_nil ?_
        replace hm : Fr 138 a [(0, .int .i64 (band .i64 x0 15)), (1, .int .i64 (band .i64 x1 31)), (4, .bool false), (5, v_127), (6, .int .i64 x_111)] := hm.keep [0, 1, 4, 5, 6]
        refine x_block_n ?_
        refine x_then_n ?_
        refine wp_region_lit ?_
        refine s_move hm rfl rfl ?_
        clear hm a; intro a hm
        refine s_arith (r := w64 (x_111 + 1)) hm rfl rfl rfl (.inl ⟨rfl, rfl⟩) ?_
        clear hm a; intro a hm
        refine s_assign hm rfl rfl ?_
        clear hm a; intro a hm
        refine wpList_nil ?_
        replace hm : Fr 138 a [(0, .int .i64 (band .i64 x0 15)), (1, .int .i64 (band .i64 x1 31)), (4, .bool false), (5, v_127), (6, .int .i64 (w64 (x_111 + 1)))] := hm.keep [0, 1, 4, 5, 6]
        refine x_then_n (hKL_112 _ _ ?_)
        replace hS : Sep w0 w_142 [N_140, M_107, Mem.no, M_129, Mem.no, Mem.no] Z := hS
        replace hm : Fr 138 a [(0, .int .i64 (band .i64 x0 15)), (1, .int .i64 (band .i64 x1 31)), (4, .bool false), (5, v_127), (6, .int .i64 (w64 (x_111 + 1)))] := hm.keep [0, 1, 4, 5, 6]
        exact ⟨t_123.1, w64 (x_111 + 1), v_127, N_140, M_129, H, hm, (Sep.sel hS [0, 3] (by decide)), (le_105.trans (le_126.trans le_140)), ((hr_128.mono ln_126).mono le_140)⟩
    clear hKJ_139
    refine wp_region_lit ?_
    refine s_fieldAddr hm rfl Try.underlying27 rfl ti22 rfl rfl ?_
    clear hm a; intro a hm
    refine s_load hm rfl rfl (hS.load_one (p := 5) rfl Try.underlying22 rfl rfl) ?_
    clear hm a; intro a hm
    refine s_cmp (b := (t_123.2.Err == 0)) hm rfl rfl rfl (.inl ⟨rfl, rfl⟩) ?_
    clear hm a; intro a hm
    refine s_move hm rfl rfl ?_
    clear hm a; intro a hm
    refine s_cmp (b := decide (x_111 < 8)) hm rfl rfl rfl (.inr (.inr (.inl ⟨rfl, rfl⟩))) ?_
    clear hm a; intro a hm
    refine s_beq (b := !((t_123.2.Err == 0) == (decide (x_111 < 8)))) hm rfl Try.underlying4 rfl rfl (.inr ⟨rfl, rfl⟩) ?_
    clear hm a; intro a hm
    refine s_move hm rfl rfl ?_
    clear hm a; intro a hm
    by_cases hc_145 : (t_123.2.Err == 0) = (decide (x_111 < 8))
    · rw [if_pos hc_145] at H
      refine s_on hm rfl rfl (nf (beq_iff_eq.2 hc_145)) ?_
      refine s_fieldAddr hm rfl Try.underlying27 rfl ti22 rfl rfl ?_
      clear hm a; intro a hm
      refine s_on hm rfl rfl (nf (beq_iff_eq.2 hc_145)) ?_
      refine s_load hm rfl rfl (hS.load_one (p := 5) rfl Try.underlying22 rfl rfl) ?_
      clear hm a; intro a hm
      refine s_on hm rfl rfl (nf (beq_iff_eq.2 hc_145)) ?_
      refine s_cmp (b := (t_123.2.Err == 0)) hm rfl rfl rfl (.inl ⟨rfl, rfl⟩) ?_
      clear hm a; intro a hm
      refine s_on hm rfl rfl (nf (beq_iff_eq.2 hc_145)) ?_
      refine s_move hm rfl rfl ?_
      clear hm a; intro a hm
      by_cases hc_146 : t_123.2.Err = 0
      · rw [if_pos hc_146] at H
        refine s_on hm rfl rfl (beq_iff_eq.2 hc_146) ?_
        refine s_fieldAddr hm rfl Try.underlying27 rfl ti3 rfl rfl ?_
        clear hm a; intro a hm
        refine s_on hm rfl rfl (beq_iff_eq.2 hc_146) ?_
        refine s_load hm rfl rfl (hS.load_one (p := 5) rfl Try.underlying3 rfl rfl) ?_
        clear hm a; intro a hm
        refine s_on hm rfl rfl (beq_iff_eq.2 hc_146) ?_
        refine s_move hm rfl rfl ?_
        clear hm a; intro a hm
        refine s_on hm rfl rfl (beq_iff_eq.2 hc_146) ?_
        refine s_arith (r := w64 (x_111 + 1)) hm rfl rfl rfl (.inl ⟨rfl, rfl⟩) ?_
        clear hm a; intro a hm
        refine s_on hm rfl rfl (beq_iff_eq.2 hc_146) ?_
        refine s_cmp (b := (t_123.2.N != (w64 (x_111 + 1)))) hm rfl rfl rfl (.inr (.inl ⟨rfl, rfl⟩)) ?_
        clear hm a; intro a hm
        refine s_on hm rfl rfl (nf (beq_iff_eq.2 hc_145)) ?_
        refine s_pick_t hm rfl rfl (beq_iff_eq.2 hc_146) rfl ?_
        clear hm a; intro a hm
        refine s_pick_f hm rfl rfl (nf (beq_iff_eq.2 hc_145)) rfl ?_
        clear hm a; intro a hm
        refine s_move hm rfl rfl ?_
        clear hm a; intro a hm
        by_cases hc_147 : t_123.2.N = (w64 (x_111 + 1))
        · rw [if_pos hc_147] at H
          refine s_on hm rfl rfl (bne_eq_false_iff_eq.2 hc_147) ?_
          refine s_fieldAddr hm rfl Try.underlying27 rfl ti22 rfl rfl ?_
          clear hm a; intro a hm
          refine s_on hm rfl rfl (bne_eq_false_iff_eq.2 hc_147) ?_
          refine s_load hm rfl rfl (hS.load_one (p := 5) rfl Try.underlying22 rfl rfl) ?_
          clear hm a; intro a hm
          refine s_on hm rfl rfl (bne_eq_false_iff_eq.2 hc_147) ?_
          refine s_cmp (b := (t_123.2.Err != 0)) hm rfl rfl rfl (.inr (.inl ⟨rfl, rfl⟩)) ?_
          clear hm a; intro a hm
          refine s_on hm rfl rfl (bne_eq_false_iff_eq.2 hc_147) ?_
          refine s_move hm rfl rfl ?_
          clear hm a; intro a hm
          refine s_off hm rfl rfl rfl (bne_eq_false_iff_eq.2 hc_146) ?_
          clear hm a; intro a hm
          refine s_off hm rfl rfl rfl (bne_eq_false_iff_eq.2 hc_146) ?_
          clear hm a; intro a hm
          refine s_off hm rfl rfl rfl (bne_eq_false_iff_eq.2 hc_146) ?_
          clear hm a; intro a hm
          refine s_off hm rfl rfl rfl (bne_eq_false_iff_eq.2 hc_146) ?_
          clear hm a; intro a hm
          refine s_offu hm rfl rfl rfl ?_
          clear hm a; intro a hm
          refine s_offu hm rfl rfl rfl ?_
          clear hm a; intro a hm
          refine s_offu hm rfl rfl rfl ?_
          clear hm a; intro a hm
          refine s_off hm rfl rfl rfl (bne_eq_false_iff_eq.2 hc_146) ?_
          clear hm a; intro a hm
          refine s_on hm rfl rfl (bne_eq_false_iff_eq.2 hc_147) ?_
          refine s_pick_f hm rfl rfl (bne_eq_false_iff_eq.2 hc_146) rfl ?_
          clear hm a; intro a hm
          refine s_pick_f hm rfl rfl (bne_eq_false_iff_eq.2 hc_147) rfl ?_
          clear hm a; intro a hm
          refine wpList_nil ?_
          replace hm : Fr 138 a [(0, .int .i64 (band .i64 x0 15)), (1, .int .i64 (band .i64 x1 31)), (4, .bool false), (5, v_109), (6, .int .i64 x_111), (7, v_127), (64, .bool false)] := hm.keep [0, 1, 4, 5, 6, 7, 64]
          replace hS : Sep w0 w_137 [N_126, M_107, M_119, M_129, M_133, Mem.one g_136 (.cells ([.int .i64 t_123.2.Err, v_131, .int .i64 t_123.2.N] : List Value).toArray 27 (0, 0))] Z := hS
          replace hm : Fr 138 a [(0, .int .i64 (band .i64 x0 15)), (1, .int .i64 (band .i64 x1 31)), (4, .bool false), (5, v_109), (6, .int .i64 x_111), (7, v_127), (64, .bool false)] := hm.keep [0, 1, 4, 5, 6, 7, 64]
          exact x_then_n (hJ_j_143 false H _ _ ⟨N_126, hm, (Sep.sel hS [0, 1, 1001, 3, 1003, 1004] (by decide)), (Mem.le.refl _)⟩)
        · rw [if_neg hc_147] at H
          refine s_off hm rfl rfl rfl (bne_iff_ne.2 hc_147) ?_
          clear hm a; intro a hm
          refine s_off hm rfl rfl rfl (bne_iff_ne.2 hc_147) ?_
          clear hm a; intro a hm
          refine s_off hm rfl rfl rfl (bne_iff_ne.2 hc_147) ?_
          clear hm a; intro a hm
          refine s_off hm rfl rfl rfl (bne_iff_ne.2 hc_147) ?_
          clear hm a; intro a hm
          refine s_offu hm rfl rfl rfl ?_
          clear hm a; intro a hm
          refine s_offu hm rfl rfl rfl ?_
          clear hm a; intro a hm
          refine s_offu hm rfl rfl rfl ?_
          clear hm a; intro a hm
          refine s_offu hm rfl rfl rfl ?_
          clear hm a; intro a hm
          refine s_offu hm rfl rfl rfl ?_
          clear hm a; intro a hm
          refine s_offu hm rfl rfl rfl ?_
          clear hm a; intro a hm
          refine s_offu hm rfl rfl rfl ?_
          clear hm a; intro a hm
          refine s_offu hm rfl rfl rfl ?_
          clear hm a; intro a hm
          refine s_off hm rfl rfl rfl (bne_iff_ne.2 hc_147) ?_
          clear hm a; intro a hm
          refine s_pick_t hm rfl rfl (bne_iff_ne.2 hc_147) rfl ?_
          clear hm a; intro a hm
          refine wpList_nil ?_
          replace hm : Fr 138 a [(0, .int .i64 (band .i64 x0 15)), (1, .int .i64 (band .i64 x1 31)), (4, .bool false), (5, v_109), (6, .int .i64 x_111), (7, v_127), (64, .bool true)] := hm.keep [0, 1, 4, 5, 6, 7, 64]
          replace hS : Sep w0 w_137 [N_126, M_107, M_119, M_129, M_133, Mem.one g_136 (.cells ([.int .i64 t_123.2.Err, v_131, .int .i64 t_123.2.N] : List Value).toArray 27 (0, 0))] Z := hS
          replace hm : Fr 138 a [(0, .int .i64 (band .i64 x0 15)), (1, .int .i64 (band .i64 x1 31)), (4, .bool false), (5, v_109), (6, .int .i64 x_111), (7, v_127), (64, .bool true)] := hm.keep [0, 1, 4, 5, 6, 7, 64]
          exact x_then_n (hJ_j_143 true H _ _ ⟨N_126, hm, (Sep.sel hS [0, 1, 1001, 3, 1003, 1004] (by decide)), (Mem.le.refl _)⟩)
      · rw [if_neg hc_146] at H
        refine s_off hm rfl rfl rfl (beq_eq_false_iff_ne.2 hc_146) ?_
        clear hm a; intro a hm
        refine s_off hm rfl rfl rfl (beq_eq_false_iff_ne.2 hc_146) ?_
        clear hm a; intro a hm
        refine s_off hm rfl rfl rfl (beq_eq_false_iff_ne.2 hc_146) ?_
        clear hm a; intro a hm
        refine s_off hm rfl rfl rfl (beq_eq_false_iff_ne.2 hc_146) ?_
        clear hm a; intro a hm
        refine s_off hm rfl rfl rfl (beq_eq_false_iff_ne.2 hc_146) ?_
        clear hm a; intro a hm
        refine s_on hm rfl rfl (nf (beq_iff_eq.2 hc_145)) ?_
        refine s_pick_f hm rfl rfl (beq_eq_false_iff_ne.2 hc_146) rfl ?_
        clear hm a; intro a hm
        refine s_pick_f hm rfl rfl (nf (beq_iff_eq.2 hc_145)) rfl ?_
        clear hm a; intro a hm
        refine s_move hm rfl rfl ?_
        clear hm a; intro a hm
        refine s_on hm rfl rfl rfl ?_
        refine s_fieldAddr hm rfl Try.underlying27 rfl ti22 rfl rfl ?_
        clear hm a; intro a hm
        refine s_on hm rfl rfl rfl ?_
        refine s_load hm rfl rfl (hS.load_one (p := 5) rfl Try.underlying22 rfl rfl) ?_
        clear hm a; intro a hm
        refine s_on hm rfl rfl rfl ?_
        refine s_cmp (b := (t_123.2.Err != 0)) hm rfl rfl rfl (.inr (.inl ⟨rfl, rfl⟩)) ?_
        clear hm a; intro a hm
        refine s_on hm rfl rfl rfl ?_
        refine s_move hm rfl rfl ?_
        clear hm a; intro a hm
        refine s_on hm rfl rfl (bne_iff_ne.2 hc_146) ?_
        refine s_fieldAddr hm rfl Try.underlying27 rfl ti22 rfl rfl ?_
        clear hm a; intro a hm
        refine s_on hm rfl rfl (bne_iff_ne.2 hc_146) ?_
        refine s_load hm rfl rfl (hS.load_one (p := 5) rfl Try.underlying22 rfl rfl) ?_
        clear hm a; intro a hm
        refine s_on hm rfl rfl (bne_iff_ne.2 hc_146) ?_
        refine s_cmp (b := (t_123.2.Err != 3)) hm rfl rfl rfl (.inr (.inl ⟨rfl, rfl⟩)) ?_
        clear hm a; intro a hm
        refine s_on hm rfl rfl (bne_iff_ne.2 hc_146) ?_
        refine s_move hm rfl rfl ?_
        clear hm a; intro a hm
        by_cases hc_148 : t_123.2.Err = 3
        · rw [if_pos hc_148] at H
          refine s_on hm rfl rfl (bne_eq_false_iff_eq.2 hc_148) ?_
          refine s_fieldAddr hm rfl Try.underlying27 rfl ti3 rfl rfl ?_
          clear hm a; intro a hm
          refine s_on hm rfl rfl (bne_eq_false_iff_eq.2 hc_148) ?_
          refine s_load hm rfl rfl (hS.load_one (p := 5) rfl Try.underlying3 rfl rfl) ?_
          clear hm a; intro a hm
          refine s_on hm rfl rfl (bne_eq_false_iff_eq.2 hc_148) ?_
          refine s_cmp (b := (t_123.2.N != 0)) hm rfl rfl rfl (.inr (.inl ⟨rfl, rfl⟩)) ?_
          clear hm a; intro a hm
          refine s_on hm rfl rfl (bne_iff_ne.2 hc_146) ?_
          refine s_pick_f hm rfl rfl (bne_eq_false_iff_eq.2 hc_148) rfl ?_
          clear hm a; intro a hm
          refine s_on hm rfl rfl rfl ?_
          refine s_pick_t hm rfl rfl (bne_iff_ne.2 hc_146) rfl ?_
          clear hm a; intro a hm
          refine s_pick_f hm rfl rfl rfl rfl ?_
          clear hm a; intro a hm
          refine wpList_nil ?_
          replace hm : Fr 138 a [(0, .int .i64 (band .i64 x0 15)), (1, .int .i64 (band .i64 x1 31)), (4, .bool false), (5, v_109), (6, .int .i64 x_111), (7, v_127), (64, .bool (t_123.2.N != 0))] := hm.keep [0, 1, 4, 5, 6, 7, 64]
          replace hS : Sep w0 w_137 [N_126, M_107, M_119, M_129, M_133, Mem.one g_136 (.cells ([.int .i64 t_123.2.Err, v_131, .int .i64 t_123.2.N] : List Value).toArray 27 (0, 0))] Z := hS
          replace hm : Fr 138 a [(0, .int .i64 (band .i64 x0 15)), (1, .int .i64 (band .i64 x1 31)), (4, .bool false), (5, v_109), (6, .int .i64 x_111), (7, v_127), (64, .bool (t_123.2.N != 0))] := hm.keep [0, 1, 4, 5, 6, 7, 64]
          exact x_then_n (hJ_j_143 (t_123.2.N != 0) H _ _ ⟨N_126, hm, (Sep.sel hS [0, 1, 1001, 3, 1003, 1004] (by decide)), (Mem.le.refl _)⟩)
        · rw [if_neg hc_148] at H
          refine s_off hm rfl rfl rfl (bne_iff_ne.2 hc_148) ?_
          clear hm a; intro a hm
          refine s_off hm rfl rfl rfl (bne_iff_ne.2 hc_148) ?_
          clear hm a; intro a hm
          refine s_off hm rfl rfl rfl (bne_iff_ne.2 hc_148) ?_
          clear hm a; intro a hm
          refine s_on hm rfl rfl (bne_iff_ne.2 hc_146) ?_
          refine s_pick_t hm rfl rfl (bne_iff_ne.2 hc_148) rfl ?_
          clear hm a; intro a hm
          refine s_on hm rfl rfl rfl ?_
          refine s_pick_t hm rfl rfl (bne_iff_ne.2 hc_146) rfl ?_
          clear hm a; intro a hm
          refine s_pick_f hm rfl rfl rfl rfl ?_
          clear hm a; intro a hm
          refine wpList_nil ?_
          replace hm : Fr 138 a [(0, .int .i64 (band .i64 x0 15)), (1, .int .i64 (band .i64 x1 31)), (4, .bool false), (5, v_109), (6, .int .i64 x_111), (7, v_127), (64, .bool true)] := hm.keep [0, 1, 4, 5, 6, 7, 64]
          replace hS : Sep w0 w_137 [N_126, M_107, M_119, M_129, M_133, Mem.one g_136 (.cells ([.int .i64 t_123.2.Err, v_131, .int .i64 t_123.2.N] : List Value).toArray 27 (0, 0))] Z := hS
          replace hm : Fr 138 a [(0, .int .i64 (band .i64 x0 15)), (1, .int .i64 (band .i64 x1 31)), (4, .bool false), (5, v_109), (6, .int .i64 x_111), (7, v_127), (64, .bool true)] := hm.keep [0, 1, 4, 5, 6, 7, 64]
          exact x_then_n (hJ_j_143 true H _ _ ⟨N_126, hm, (Sep.sel hS [0, 1, 1001, 3, 1003, 1004] (by decide)), (Mem.le.refl _)⟩)
    · rw [if_neg hc_145] at H
      refine s_off hm rfl rfl rfl (nt (beq_eq_false_iff_ne.2 hc_145)) ?_
      clear hm a; intro a hm
      refine s_off hm rfl rfl rfl (nt (beq_eq_false_iff_ne.2 hc_145)) ?_
      clear hm a; intro a hm
      refine s_off hm rfl rfl rfl (nt (beq_eq_false_iff_ne.2 hc_145)) ?_
      clear hm a; intro a hm
      refine s_off hm rfl rfl rfl (nt (beq_eq_false_iff_ne.2 hc_145)) ?_
      clear hm a; intro a hm
      refine s_offu hm rfl rfl rfl ?_
      clear hm a; intro a hm
      refine s_offu hm rfl rfl rfl ?_
      clear hm a; intro a hm
      refine s_offu hm rfl rfl rfl ?_
      clear hm a; intro a hm
      refine s_offu hm rfl rfl rfl ?_
      clear hm a; intro a hm
      refine s_offu hm rfl rfl rfl ?_
      clear hm a; intro a hm
      refine s_off hm rfl rfl rfl (nt (beq_eq_false_iff_ne.2 hc_145)) ?_
      clear hm a; intro a hm
      refine s_pick_t hm rfl rfl (nt (beq_eq_false_iff_ne.2 hc_145)) rfl ?_
      clear hm a; intro a hm
      refine s_move hm rfl rfl ?_
      clear hm a; intro a hm
      refine s_off hm rfl rfl rfl rfl ?_
      clear hm a; intro a hm
      refine s_off hm rfl rfl rfl rfl ?_
      clear hm a; intro a hm
      refine s_off hm rfl rfl rfl rfl ?_
      clear hm a; intro a hm
      refine s_off hm rfl rfl rfl rfl ?_
      clear hm a; intro a hm
      refine s_offu hm rfl rfl rfl ?_
      clear hm a; intro a hm
      refine s_offu hm rfl rfl rfl ?_
      clear hm a; intro a hm
      refine s_offu hm rfl rfl rfl ?_
      clear hm a; intro a hm
      refine s_offu hm rfl rfl rfl ?_
      clear hm a; intro a hm
      refine s_offu hm rfl rfl rfl ?_
      clear hm a; intro a hm
      refine s_offu hm rfl rfl rfl ?_
      clear hm a; intro a hm
      refine s_offu hm rfl rfl rfl ?_
      clear hm a; intro a hm
      refine s_offu hm rfl rfl rfl ?_
      clear hm a; intro a hm
      refine s_off hm rfl rfl rfl rfl ?_
      clear hm a; intro a hm
      refine s_pick_t hm rfl rfl rfl rfl ?_
      clear hm a; intro a hm
      refine wpList_nil ?_
      replace hm : Fr 138 a [(0, .int .i64 (band .i64 x0 15)), (1, .int .i64 (band .i64 x1 31)), (4, .bool false), (5, v_109), (6, .int .i64 x_111), (7, v_127), (64, .bool true)] := hm.keep [0, 1, 4, 5, 6, 7, 64]
      replace hS : Sep w0 w_137 [N_126, M_107, M_119, M_129, M_133, Mem.one g_136 (.cells ([.int .i64 t_123.2.Err, v_131, .int .i64 t_123.2.N] : List Value).toArray 27 (0, 0))] Z := hS
      replace hm : Fr 138 a [(0, .int .i64 (band .i64 x0 15)), (1, .int .i64 (band .i64 x1 31)), (4, .bool false), (5, v_109), (6, .int .i64 x_111), (7, v_127), (64, .bool true)] := hm.keep [0, 1, 4, 5, 6, 7, 64]
      exact x_then_n (hJ_j_143 true H _ _ ⟨N_126, hm, (Sep.sel hS [0, 1, 1001, 3, 1003, 1004] (by decide)), (Mem.le.refl _)⟩)
  · rw [if_neg hc_116] at H
    refine c_cond_f hm rfl (decide_eq_false hc_116) ?_
    refine wp_exit (x_then_x (x_then_x (x_block_t ?_)))
    replace hS : Sep w0 w_112 [N_105, M_107] Z := hS
    replace hm : Fr 138 a [(0, .int .i64 (band .i64 x0 15)), (1, .int .i64 (band .i64 x1 31)), (4, .bool false), (5, v_109)] := hm.keep [0, 1, 4, 5]
    exact x_then_n (hJ_j_9 x_106 H _ _ ⟨v_109, N_105, M_107, hm, (Sep.sel hS [0, 1] (by decide)), le_105, (ho_110.mono (Mem.le.refl _))⟩)


end Go.Proofs
