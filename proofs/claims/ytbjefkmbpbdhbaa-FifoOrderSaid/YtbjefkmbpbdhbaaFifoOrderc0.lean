/- What the calls do: each function once. -/
import Derived.Test.YtbjefkmbpbdhbaaFacts
namespace Go.Proofs
open Go.Gp
set_option linter.unusedVariables false
set_option maxHeartbeats 4000000 in
theorem slices_Clone_sbyte_byte.calls (x0 : List UInt8) (p0_0 : Value) (r : List UInt8) (w0 w : World) (Z A : Mem) (hA : A.le Z) (hS : Sep w0 w [] Z) (hp0_0 : Rd Kd.u8 A p0_0 x0)
    (H : slices_Clone_sbyte_byte.f x0 = some r) :
    Calls Try.prog 42 [p0_0].toArray w (Ret fun v w' => ∃ (u0 : Value) (N : Mem) (M0 : Mem), v = u0 ∧ Sep w0 w' [N, M0] Z ∧ Own Kd.u8 5 M0 Mem.no u0 r) := by
  unfold slices_Clone_sbyte_byte.f at H
  refine f_enter _ Try.func42 rfl Try.ntmps42 rfl fun a hm => ?_
  replace hm : Fr 8 a [(0, p0_0)] := hm
  replace hS := hS.start
  replace hS : Sep w0 w [Mem.no] Z := hS
  refine wp_seq ?_
  refine wp_region_lit ?_
  refine s_assign hm rfl rfl ?_
  clear hm a; intro a hm
  refine wpList_nil ?_
  replace hm : Fr 8 a [(0, p0_0)] := hm.keep [0]
  refine x_then_n ?_
  refine c_seq fun KJ hKJ => ?_
  refine wp_seq ?_
  refine wp_region_lit ?_
  refine s_move hm rfl rfl ?_
  clear hm a; intro a hm
  refine s_slNil hm rfl Try.underlying25 rfl hp0_0 fun b hb => ?_
  clear hm a; intro a hm
  refine wpList_nil ?_
  refine x_then_n ?_
  cases b with
  | true =>
    have hx := hb rfl
    subst hx
    refine c_cond_t hm rfl rfl ?_
    refine wp_seq ?_
    refine wp_region_lit ?_
    refine s_assign hm rfl rfl ?_
    clear hm a; intro a hm
    refine wpList_nil ?_
    replace hm : Fr 8 a [(2, .slice none 0 0)] := hm.keep [2]
    refine x_then_n ?_
    refine wp_ret (x_then_r ?_)
    obtain rfl := (app_some H).2
    replace hS := hS.room
    exact f_ret hm (rs := [.tmp 2]) rfl (.tmp rfl .nil) ⟨_, rfl, _, Mem.no, Mem.no, rfl, hS, Own.nil _ _ _⟩
  | false =>
    refine c_cond_f hm rfl rfl ?_
    refine wp_skip ?_
    refine x_then_n (hKJ _ _ ?_)
    refine wp_seq ?_
    refine wp_region_lit ?_
    have hq5 : Reps Kd.u8 Mem.no ([] : List UInt8) _ := (Reps.nil Kd.u8 _)
    refine s_buildSlice hm rfl Try.underlying25 ti5 rfl rfl rfl .nil rfl rfl rfl hS hq5 rfl ?_
    intro w1 v2 M3 hS' ho4
    clear hm a; intro a hm
    replace hS : Sep w0 w1 [Mem.no, M3] Z := hS'
    clear hS' hq5
    refine s_move hm rfl rfl ?_
    clear hm a; intro a hm
    refine s_append (J := Mem.no) (I' := Mem.no) (p := 1) 140737488355328 hm rfl rfl rfl Try.underlying25 ti5 rfl rfl rfl rfl hS rfl ho4 (Src.flat flat_u8 (hp0_0.src (hA.trans hS.old))) (Mem.le.refl _) (Mem.le.refl _) H ?_
    intro w8 v9 M10 hS' ho11
    clear hm a; intro a hm
    refine s_assign hm rfl rfl ?_
    clear hm a; intro a hm
    refine wpList_nil ?_
    replace hm : Fr 8 a [(2, v9)] := hm.keep [2]
    refine x_then_n ?_
    refine wp_ret ?_
    exact f_ret hm (rs := [.tmp 2]) rfl (.tmp rfl .nil) ⟨_, rfl, _, Mem.no, M10, rfl, hS', ho11⟩

set_option maxHeartbeats 4000000 in
theorem slices_Clip_ssbyte_sbyte.calls (v : Value) (w : World) (hf : ∃ A l c, v = .slice A l c ∧ l ≤ c) : Calls Try.prog 50 [v].toArray w (Ret fun u w' => w = w' ∧ Clipped v u) := by
  obtain ⟨A, l, c, rfl, hlc⟩ := hf
  refine f_enter _ Try.func50 rfl Try.ntmps50 rfl fun a hm => ?_
  replace hm : Fr 9 a [(0, .slice A l c)] := hm
  refine wp_seq ?_
  refine wp_region_lit ?_
  refine s_assign hm rfl rfl ?_
  clear hm a; intro a hm
  refine wpList_nil ?_
  refine x_then_n ?_
  refine wp_seq ?_
  refine wp_region_lit ?_
  refine s_move hm rfl rfl ?_
  clear hm a; intro a hm
  refine s_move hm rfl rfl ?_
  clear hm a; intro a hm
  refine s_lenV hm rfl Try.underlying37 rfl ?_
  clear hm a; intro a hm
  refine s_move hm rfl rfl ?_
  clear hm a; intro a hm
  refine s_lenV hm rfl Try.underlying37 rfl ?_
  clear hm a; intro a hm
  refine s_clip hm rfl Try.underlying37 ti25 rfl rfl rfl hlc ?_
  clear hm a; intro a hm
  refine s_assign hm rfl rfl ?_
  clear hm a; intro a hm
  refine wpList_nil ?_
  refine x_then_n ?_
  refine wp_ret ?_
  exact f_ret hm (rs := [.tmp 2]) rfl (.tmp rfl .nil) ⟨_, rfl, rfl, A, l, c, rfl, rfl⟩

set_option maxHeartbeats 4000000 in
set_option maxRecDepth 20000 in
theorem fifo_Still.calls (K : Nat) (x0 : List (List UInt8)) (p0_0 : Value) (r : (List (List UInt8))) (w0 w : World) (Z A : Mem) (hA : A.le Z) (hS : Sep w0 w [] Z) (hp0_0 : Rd (Kd.slice Kd.u8) A p0_0 x0)
    (H : fifo_Still.f K x0 = some r) :
    Calls Try.prog 45 [p0_0].toArray w (Ret fun v w' => ∃ (u0 : Value) (N : Mem) (M0 : Mem), v = u0 ∧ Sep w0 w' [N, M0] Z ∧ Own (Kd.slice Kd.u8) 25 M0 N u0 r) := by
  unfold fifo_Still.f at H
  refine f_enter _ Try.func45 rfl Try.ntmps45 rfl fun a hm => ?_
  replace hm : Fr 20 a [(0, p0_0)] := hm
  replace hS := hS.start
  replace hS : Sep w0 w [Mem.no] Z := hS
  refine wp_seq ?_
  refine wp_region_lit ?_
  refine s_assign hm rfl rfl ?_
  clear hm a; intro a hm
  refine wpList_nil ?_
  replace hm : Fr 20 a [(0, p0_0), (2, .slice none 0 0)] := hm.keep [0, 2]
  refine x_then_n ?_
  refine wp_seq ?_
  refine wp_region_lit ?_
  refine s_assign hm rfl rfl ?_
  clear hm a; intro a hm
  refine wpList_nil ?_
  replace hm : Fr 20 a [(0, p0_0), (2, .slice none 0 0), (3, .slice none 0 0)] := hm.keep [0, 2, 3]
  refine x_then_n ?_
  refine c_seq fun KJ_1 hKJ_1 => ?_
  refine wp_seq ?_
  refine wp_region_lit ?_
  refine s_move hm rfl rfl ?_
  clear hm a; intro a hm
  refine s_len hm rfl Try.underlying37 rfl hp0_0 ?_
  clear hm a; intro a hm
  refine s_move hm rfl rfl ?_
  clear hm a; intro a hm
  refine wpList_nil ?_
  replace hm : Fr 20 a [(2, .slice none 0 0), (3, .slice none 0 0), (6, p0_0), (7, .int .i64 (x0.length : Int)), (8, .int .i64 0)] := hm.keep [2, 3, 6, 7, 8]
  refine x_then_n ?_
  have hJ_j_9 : ∀ (x_3 : List (List UInt8)), fifo_Still.j_9 K x_3 = some r → ∀ (a : Act) (w_8 : World), (∃ (v_6 : Value) (N_2 : Mem) (M_4 : Mem), Fr 20 a [(2, .slice none 0 0), (3, v_6)] ∧ Sep w0 w_8 [N_2, M_4] Z ∧ Mem.no.le N_2 ∧ Own (Kd.slice Kd.u8) 25 M_4 N_2 v_6 x_3) → KJ_1 a w_8 := by
    clear H hm hS a
    rintro x_3 H a w_8 ⟨v_6, N_2, M_4, hm, hS, le_2, ho_7⟩
    unfold fifo_Still.j_9 at H
    refine hKJ_1 _ _ ?_
    refine wp_seq ?_
    refine wp_region_lit ?_
    refine s_move hm rfl rfl ?_
    clear hm a; intro a hm
    refine s_call hm rfl Try.call50 rfl (slices_Clip_ssbyte_sbyte.calls _ _ ho_7.slform) ?_
    rintro v_10 _ ⟨rfl, hk_11⟩
    clear hm a; intro a hm
    refine s_assign hm rfl rfl ?_
    clear hm a; intro a hm
    refine wpList_nil ?_
    replace hm : Fr 20 a [(2, v_10)] := hm.keep [2]
    refine x_then_n ?_
    refine wp_ret ?_
    obtain rfl := Option.some.inj H
    exact f_ret hm (rs := [.tmp 2]) rfl (.tmp rfl .nil) ⟨_, rfl, v_10, N_2, M_4, rfl, (Sep.sel hS [0, 1] (by decide)), ((ho_7.clip hk_11).mono (Mem.le.refl _))⟩
  clear hKJ_1
  have hS' := hS.room
  replace hS : Sep w0 w [Mem.no, Mem.no] Z := hS'
  clear hS'
  replace hS : Sep w0 w [Mem.no, Mem.no] Z := hS
  replace hm : Fr 20 a [(2, .slice none 0 0), (3, .slice none 0 0), (6, p0_0), (7, .int .i64 (x0.length : Int)), (8, .int .i64 0)] := hm.keep [2, 3, 6, 7, 8]
  refine c_block ?_
  refine c_loop (fun k_20 a w_20 => ∃ (x_14 : List (List UInt8)) (x_19 : Int) (v_17 : Value) (N_13 : Mem) (M_15 : Mem), fifo_Still.l_20 K x0 (fun v => fifo_Still.j_9 K v) k_20 (x_14, x_19) = some r ∧ Fr 20 a [(2, .slice none 0 0), (3, v_17), (6, p0_0), (7, .int .i64 (x0.length : Int)), (8, .int .i64 x_19)] ∧ Sep w0 w_20 [N_13, M_15] Z ∧ Mem.no.le N_13 ∧ Own (Kd.slice Kd.u8) 25 M_15 N_13 v_17 x_14) K ⟨([] : List (List UInt8)), 0, .slice none 0 0, Mem.no, Mem.no, H, hm, (Sep.sel hS [0, 1] (by decide)), (Mem.le.refl _), ((Own.nil (Kd.slice Kd.u8) 25 Mem.no).mono (Mem.le.refl _))⟩ (fun a w h => by obtain ⟨_, _, _, _, _, H, _⟩ := h; cases (show (none : Option ((List (List UInt8)))) = some r from H)) ?_
  clear hm hS a H
  rintro k_20 a w_20 KL_20 hKL_20 ⟨x_14, x_19, v_17, N_13, M_15, H, hm, hS, le_13, ho_18⟩
  replace H : fifo_Still.b_20 K x0 (fun v => fifo_Still.j_9 K v) (fifo_Still.l_20 K x0 (fun v => fifo_Still.j_9 K v) k_20) x_14 x_19 = some r := H
  unfold fifo_Still.b_20 at H
  refine wp_seq ?_
  refine wp_region_lit ?_
  refine s_cmp (b := decide (x_19 < (x0.length : Int))) hm rfl rfl rfl (.inr (.inr (.inl ⟨rfl, rfl⟩))) ?_
  clear hm a; intro a hm
  refine wpList_nil ?_
  replace hm : Fr 20 a [(2, .slice none 0 0), (3, v_17), (6, p0_0), (7, .int .i64 (x0.length : Int)), (8, .int .i64 x_19), (9, .bool (decide (x_19 < (x0.length : Int))))] := hm.keep [2, 3, 6, 7, 8, 9]
  refine x_then_n ?_
  refine c_seq fun KJ_23 hKJ_23 => ?_
  by_cases hc_24 : x_19 < (x0.length : Int)
  · rw [if_pos hc_24] at H
    refine c_cond_t hm rfl (decide_eq_true hc_24) ?_
    refine wp_skip ?_
    refine x_then_n (hKJ_23 _ _ ?_)
    refine wp_seq ?_
    refine c_block ?_
    refine wp_seq ?_
    refine wp_region_lit ?_
    obtain ⟨t_25, et_25, H⟩ := Option.bind_eq_some_iff.1 H
    refine v_index hm rfl Try.underlying37 ti25 rfl rfl rfl hp0_0 (hA.trans hS.old) et_25 ?_
    intro ad_26 cs_27 hk_28 hc_29
    obtain ⟨v_30, rfl, hr_31⟩ := hk_28
    clear hm a; intro a hm
    refine s_load hm rfl rfl (el_one (o := 0) hc_29 Try.underlying25 rfl rfl) ?_
    clear hm a; intro a hm
    refine s_assign hm rfl rfl ?_
    clear hm a; intro a hm
    refine wpList_nil ?_
    replace hm : Fr 20 a [(2, .slice none 0 0), (3, v_17), (5, v_30), (6, p0_0), (7, .int .i64 (x0.length : Int)), (8, .int .i64 x_19)] := hm.keep [2, 3, 5, 6, 7, 8]
    refine x_then_n ?_
    refine wp_region_lit ?_
    refine s_move hm rfl rfl ?_
    clear hm a; intro a hm
    refine s_move hm rfl rfl ?_
    clear hm a; intro a hm
    obtain ⟨t_32, et_32, H⟩ := Option.bind_eq_some_iff.1 H
    refine s_call hm rfl Try.call42 rfl (slices_Clone_sbyte_byte.calls t_25 _ t_32 w0 _ _ _ (Mem.le.refl _) (hS.enter [] (by decide)) (hr_31.mono (hA.trans (hS.le_zed []))) et_32) ?_
    rintro v_36 w_33 ⟨_, N_34, M_38, rfl, hS', hr_37⟩
    clear hm a; intro a hm
    obtain ⟨N_35, hS'', le_35, ln_35⟩ := hS.call [] (by decide) rfl (l' := []) (ow := [M_38]) rfl hS'
    replace hS : Sep w0 w_33 [N_35, M_15, M_38] Z := hS''
    clear hS' hS''
    obtain ⟨N_40, hS', le_40, lo_40⟩ := hS.freeze 1 rfl
    replace hS : Sep w0 w_33 [N_40, M_15, Mem.no] Z := hS'
    clear hS'
    have hq_45 : Reps (Kd.slice Kd.u8) N_40 ([t_32] : List (List UInt8)) _ := ((Reps.one (d := (Kd.slice Kd.u8)) (x := t_32) ⟨_, rfl, (hr_37.rd lo_40 (Mem.no_le _))⟩).append (Reps.nil (Kd.slice Kd.u8) _))
    refine s_buildSlice hm rfl Try.underlying37 ti25 rfl rfl rfl (.cons (hr_37.rd lo_40 (Mem.no_le _)).cells .nil) rfl rfl rfl hS hq_45 rfl ?_
    intro w_41 v_42 M_43 hS' ho_44
    clear hm a; intro a hm
    replace hS : Sep w0 w_41 [N_40, M_15, Mem.no, M_43] Z := hS'
    clear hS' hq_45
    obtain ⟨t_47, et_47, H⟩ := Option.bind_eq_some_iff.1 H
    refine s_append (J := N_40) (I' := N_40) (p := 1) 5864062014805 hm rfl rfl rfl Try.underlying37 ti25 rfl rfl rfl rfl hS rfl ho_18 (ho_44.src (hS.own 3)) (le_35.trans le_40) (Mem.le.refl _) et_47 ?_
    intro w_48 v_49 M_50 hS' ho_51
    clear hm a; intro a hm
    replace hS : Sep w0 w_48 [N_40, M_50, Mem.no, M_43] Z := hS'
    clear hS'
    refine s_assign hm rfl rfl ?_
    clear hm a; intro a hm
    refine wpList_nil ?_
    replace hm : Fr 20 a [(2, .slice none 0 0), (3, v_49), (6, p0_0), (7, .int .i64 (x0.length : Int)), (8, .int .i64 x_19)] := hm.keep [2, 3, 6, 7, 8]
    refine x_block_n ?_
    refine x_then_n ?_
    refine wp_region_lit ?_
    refine s_arith (r := w64 (x_19 + 1)) hm rfl rfl rfl (.inl ⟨rfl, rfl⟩) ?_
    clear hm a; intro a hm
    refine s_move hm rfl rfl ?_
    clear hm a; intro a hm
    refine wpList_nil ?_
    replace hm : Fr 20 a [(2, .slice none 0 0), (3, v_49), (6, p0_0), (7, .int .i64 (x0.length : Int)), (8, .int .i64 (w64 (x_19 + 1)))] := hm.keep [2, 3, 6, 7, 8]
    refine x_then_n (hKL_20 _ _ ?_)
    replace hS : Sep w0 w_48 [N_40, M_50, Mem.no, M_43] Z := hS
    replace hm : Fr 20 a [(2, .slice none 0 0), (3, v_49), (6, p0_0), (7, .int .i64 (x0.length : Int)), (8, .int .i64 (w64 (x_19 + 1)))] := hm.keep [2, 3, 6, 7, 8]
    exact ⟨t_47, w64 (x_19 + 1), v_49, N_40, M_50, H, hm, (Sep.sel hS [0, 1] (by decide)), (le_13.trans (le_35.trans le_40)), (ho_51.mono (Mem.le.refl _))⟩
  · rw [if_neg hc_24] at H
    refine c_cond_f hm rfl (decide_eq_false hc_24) ?_
    refine wp_exit (x_then_x (x_then_x (x_block_t ?_)))
    replace hS : Sep w0 w_20 [N_13, M_15] Z := hS
    replace hm : Fr 20 a [(2, .slice none 0 0), (3, v_17)] := hm.keep [2, 3]
    exact x_then_n (hJ_j_9 x_14 H _ _ ⟨v_17, N_13, M_15, hm, (Sep.sel hS [0, 1] (by decide)), le_13, (ho_18.mono (Mem.le.refl _))⟩)

set_option maxHeartbeats 4000000 in
set_option maxRecDepth 20000 in
theorem fifo_Push.calls (K : Nat) (x0 : List (List UInt8)) (p0_0 : Value) (x1 : List UInt8) (p1_1 : Value) (r : (List (List UInt8)) × api_Result) (w0 w : World) (Z A : Mem) (hA : A.le Z) (hS : Sep w0 w [] Z) (hp0_0 : Rd (Kd.slice Kd.u8) A p0_0 x0) (hp1_1 : Rd Kd.u8 A p1_1 x1)
    (H : fifo_Push.f K x0 x1 = some r) :
    Calls Try.prog 22 [p0_0, p1_1].toArray w (Ret fun v w' => ∃ (u0 : Value) (u1 : Value) (N : Mem) (M0 : Mem) (M1 : Mem), v = .tuple [u0, .agg [.int .i64 r.2.Err, u1, .int .i64 r.2.N].toArray].toArray ∧ Sep w0 w' [N, M0, M1] Z ∧ Own (Kd.slice Kd.u8) 25 M0 N u0 r.1 ∧ Own Kd.u8 5 M1 Mem.no u1 r.2.Val) := by
  unfold fifo_Push.f at H
  refine f_enter _ Try.func22 rfl Try.ntmps22 rfl fun a hm => ?_
  replace hm : Fr 29 a [(0, p0_0), (1, p1_1)] := hm
  replace hS := hS.start
  replace hS : Sep w0 w [Mem.no] Z := hS
  refine wp_seq ?_
  refine wp_region_lit ?_
  refine s_assign hm rfl rfl ?_
  clear hm a; intro a hm
  refine v_alloc hm rfl ti27 hS ?_
  intro w_1 g_2 hS'
  clear hm a; intro a hm
  replace hS : Sep w0 w_1 [Mem.no, Mem.one g_2 (.cells ([.int .i64 0, .slice none 0 0, .int .i64 0] : List Value).toArray 27 (0, 0))] Z := hS'
  clear hS'
  refine wpList_nil ?_
  replace hm : Fr 29 a [(0, p0_0), (1, p1_1), (4, .slice none 0 0), (5, .pointer (some ⟨g_2, 0, none⟩))] := hm.keep [0, 1, 4, 5]
  refine x_then_n ?_
  refine wp_seq ?_
  refine wp_region_lit ?_
  refine s_move hm rfl rfl ?_
  clear hm a; intro a hm
  obtain ⟨t_3, et_3, H⟩ := Option.bind_eq_some_iff.1 H
  refine s_call hm rfl Try.call45 rfl (fifo_Still.calls K x0 _ t_3 w0 _ _ _ (Mem.le.refl _) (hS.enter [] (by decide)) (hp0_0.mono (hA.trans (hS.le_zed []))) et_3) ?_
  rintro v_7 w_4 ⟨_, N_5, M_9, rfl, hS', hr_8⟩
  clear hm a; intro a hm
  obtain ⟨N_6, hS'', le_6, ln_6⟩ := hS.call [] (by decide) rfl (l' := []) (ow := [M_9]) rfl hS'
  replace hS : Sep w0 w_4 [N_6, Mem.one g_2 (.cells ([.int .i64 0, .slice none 0 0, .int .i64 0] : List Value).toArray 27 (0, 0)), M_9] Z := hS''
  clear hS' hS''
  refine s_assign hm rfl rfl ?_
  clear hm a; intro a hm
  refine wpList_nil ?_
  replace hm : Fr 29 a [(0, v_7), (1, p1_1), (4, .slice none 0 0), (5, .pointer (some ⟨g_2, 0, none⟩))] := hm.keep [0, 1, 4, 5]
  refine x_then_n ?_
  refine c_seq fun KJ_11 hKJ_11 => ?_
  refine c_block ?_
  refine wp_seq ?_
  refine wp_region_lit ?_
  refine s_move hm rfl rfl ?_
  clear hm a; intro a hm
  refine s_len hm rfl Try.underlying25 rfl hp1_1 ?_
  clear hm a; intro a hm
  refine s_cmp (b := decide ((x1.length : Int) > 16)) hm rfl rfl rfl (.inr (.inr (.inr (.inr (.inl ⟨rfl, rfl⟩))))) ?_
  clear hm a; intro a hm
  refine s_assign hm rfl rfl ?_
  clear hm a; intro a hm
  refine wpList_nil ?_
  replace hm : Fr 29 a [(0, v_7), (1, p1_1), (4, .slice none 0 0), (5, .pointer (some ⟨g_2, 0, none⟩)), (8, .bool (decide ((x1.length : Int) > 16)))] := hm.keep [0, 1, 4, 5, 8]
  refine x_then_n ?_
  by_cases hc_12 : (x1.length : Int) > 16
  · rw [if_pos hc_12] at H
    refine c_cond_t hm rfl (decide_eq_true hc_12) ?_
    refine wp_seq ?_
    refine wp_region_lit ?_
    refine s_move hm rfl rfl ?_
    clear hm a; intro a hm
    refine s_build hm rfl ti27 pl27 rfl (.cons rfl .nil) (cs := [.int .i64 1, .slice none 0 0, .int .i64 0]) rfl ?_
    clear hm a; intro a hm
    refine s_assign hm rfl rfl ?_
    clear hm a; intro a hm
    obtain ⟨w_13, hs', hS'⟩ := hS.store (P := Try.prog) (p := 1) (o := 0) (t := 27) (v := .agg [.int .i64 1, .slice none 0 0, .int .i64 0].toArray) (vs := [.int .i64 1, .slice none 0 0, .int .i64 0]) rfl ti27 rfl rfl rfl (by intro u hu; simp only [List.mem_cons, List.not_mem_nil, or_false] at hu; rcases hu with rfl | rfl | rfl <;> rfl)
    refine s_store hm rfl rfl hs' ?_
    replace hS : Sep w0 w_13 [N_6, Mem.one g_2 (.cells ([.int .i64 1, .slice none 0 0, .int .i64 0] : List Value).toArray 27 (0, 0)), M_9] Z := hS'
    clear hs' hS'
    refine wpList_nil ?_
    replace hm : Fr 29 a [(0, v_7), (1, p1_1), (4, v_7), (5, .pointer (some ⟨g_2, 0, none⟩))] := hm.keep [0, 1, 4, 5]
    refine x_then_n ?_
    refine wp_ret (x_block_r (x_then_r ?_))
    have hS' := hS.room
    replace hS : Sep w0 w_13 [N_6, Mem.one g_2 (.cells ([.int .i64 1, .slice none 0 0, .int .i64 0] : List Value).toArray 27 (0, 0)), M_9, Mem.no] Z := hS'
    clear hS'
    replace hS : Sep w0 w_13 [N_6, Mem.one g_2 (.cells ([.int .i64 1, .slice none 0 0, .int .i64 0] : List Value).toArray 27 (0, 0)), M_9, Mem.no] Z := hS
    obtain rfl := Option.some.inj H
    exact f_ret hm (rs := [.tmp 4, .cell 5 27]) rfl (.tmp rfl (.cell rfl (hS.load_agg (p := 1) (us := [.int .i64 1, .slice none 0 0, .int .i64 0]) rfl Try.underlying27 rfl ti27 rfl rfl) .nil)) ⟨_, rfl, v_7, .slice none 0 0, N_6, M_9, Mem.no, rfl, (Sep.sel hS [0, 2, 3] (by decide)), ((hr_8.mono ln_6).mono (Mem.le.refl _)), (Own.nil Kd.u8 5 Mem.no)⟩
  · rw [if_neg hc_12] at H
    refine c_cond_f hm rfl (decide_eq_false hc_12) ?_
    refine wp_seq ?_
    refine wp_region_lit ?_
    refine s_move hm rfl rfl ?_
    clear hm a; intro a hm
    refine s_lenO hm rfl Try.underlying37 rfl (hr_8.mono ln_6) ?_
    clear hm a; intro a hm
    refine s_cmp (b := decide ((t_3.length : Int) ≥ 8)) hm rfl rfl rfl (.inr (.inr (.inr (.inr (.inr ⟨rfl, rfl⟩))))) ?_
    clear hm a; intro a hm
    refine s_assign hm rfl rfl ?_
    clear hm a; intro a hm
    refine wpList_nil ?_
    replace hm : Fr 29 a [(0, v_7), (1, p1_1), (4, .slice none 0 0), (5, .pointer (some ⟨g_2, 0, none⟩)), (14, .bool (decide ((t_3.length : Int) ≥ 8)))] := hm.keep [0, 1, 4, 5, 14]
    refine x_then_n ?_
    by_cases hc_15 : (t_3.length : Int) ≥ 8
    · rw [if_pos hc_15] at H
      refine c_cond_t hm rfl (decide_eq_true hc_15) ?_
      refine wp_seq ?_
      refine wp_region_lit ?_
      refine s_move hm rfl rfl ?_
      clear hm a; intro a hm
      refine s_build hm rfl ti27 pl27 rfl (.cons rfl .nil) (cs := [.int .i64 3, .slice none 0 0, .int .i64 0]) rfl ?_
      clear hm a; intro a hm
      refine s_assign hm rfl rfl ?_
      clear hm a; intro a hm
      obtain ⟨w_16, hs', hS'⟩ := hS.store (P := Try.prog) (p := 1) (o := 0) (t := 27) (v := .agg [.int .i64 3, .slice none 0 0, .int .i64 0].toArray) (vs := [.int .i64 3, .slice none 0 0, .int .i64 0]) rfl ti27 rfl rfl rfl (by intro u hu; simp only [List.mem_cons, List.not_mem_nil, or_false] at hu; rcases hu with rfl | rfl | rfl <;> rfl)
      refine s_store hm rfl rfl hs' ?_
      replace hS : Sep w0 w_16 [N_6, Mem.one g_2 (.cells ([.int .i64 3, .slice none 0 0, .int .i64 0] : List Value).toArray 27 (0, 0)), M_9] Z := hS'
      clear hs' hS'
      refine wpList_nil ?_
      replace hm : Fr 29 a [(0, v_7), (1, p1_1), (4, v_7), (5, .pointer (some ⟨g_2, 0, none⟩))] := hm.keep [0, 1, 4, 5]
      refine x_then_n ?_
      refine wp_ret (x_block_r (x_then_r ?_))
      have hS' := hS.room
      replace hS : Sep w0 w_16 [N_6, Mem.one g_2 (.cells ([.int .i64 3, .slice none 0 0, .int .i64 0] : List Value).toArray 27 (0, 0)), M_9, Mem.no] Z := hS'
      clear hS'
      replace hS : Sep w0 w_16 [N_6, Mem.one g_2 (.cells ([.int .i64 3, .slice none 0 0, .int .i64 0] : List Value).toArray 27 (0, 0)), M_9, Mem.no] Z := hS
      obtain rfl := Option.some.inj H
      exact f_ret hm (rs := [.tmp 4, .cell 5 27]) rfl (.tmp rfl (.cell rfl (hS.load_agg (p := 1) (us := [.int .i64 3, .slice none 0 0, .int .i64 0]) rfl Try.underlying27 rfl ti27 rfl rfl) .nil)) ⟨_, rfl, v_7, .slice none 0 0, N_6, M_9, Mem.no, rfl, (Sep.sel hS [0, 2, 3] (by decide)), ((hr_8.mono ln_6).mono (Mem.le.refl _)), (Own.nil Kd.u8 5 Mem.no)⟩
    · rw [if_neg hc_15] at H
      refine c_cond_f hm rfl (decide_eq_false hc_15) ?_
      refine wp_skip ?_
      refine x_block_n ?_
      refine x_then_n (hKJ_11 _ _ ?_)
      refine wp_seq ?_
      refine wp_region_lit ?_
      refine s_move hm rfl rfl ?_
      clear hm a; intro a hm
      refine s_move hm rfl rfl ?_
      clear hm a; intro a hm
      obtain ⟨t_18, et_18, H⟩ := Option.bind_eq_some_iff.1 H
      refine s_call hm rfl Try.call42 rfl (slices_Clone_sbyte_byte.calls x1 _ t_18 w0 _ _ _ (Mem.le.refl _) (hS.enter [] (by decide)) (hp1_1.mono (hA.trans (hS.le_zed []))) et_18) ?_
      rintro v_22 w_19 ⟨_, N_20, M_24, rfl, hS', hr_23⟩
      clear hm a; intro a hm
      obtain ⟨N_21, hS'', le_21, ln_21⟩ := hS.call [] (by decide) rfl (l' := []) (ow := [M_24]) rfl hS'
      replace hS : Sep w0 w_19 [N_21, Mem.one g_2 (.cells ([.int .i64 0, .slice none 0 0, .int .i64 0] : List Value).toArray 27 (0, 0)), M_9, M_24] Z := hS''
      clear hS' hS''
      obtain ⟨N_26, hS', le_26, lo_26⟩ := hS.freeze 2 rfl
      replace hS : Sep w0 w_19 [N_26, Mem.one g_2 (.cells ([.int .i64 0, .slice none 0 0, .int .i64 0] : List Value).toArray 27 (0, 0)), M_9, Mem.no] Z := hS'
      clear hS'
      have hq_31 : Reps (Kd.slice Kd.u8) N_26 ([t_18] : List (List UInt8)) _ := ((Reps.one (d := (Kd.slice Kd.u8)) (x := t_18) ⟨_, rfl, (hr_23.rd lo_26 (Mem.no_le _))⟩).append (Reps.nil (Kd.slice Kd.u8) _))
      refine s_buildSlice hm rfl Try.underlying37 ti25 rfl rfl rfl (.cons (hr_23.rd lo_26 (Mem.no_le _)).cells .nil) rfl rfl rfl hS hq_31 rfl ?_
      intro w_27 v_28 M_29 hS' ho_30
      clear hm a; intro a hm
      replace hS : Sep w0 w_27 [N_26, Mem.one g_2 (.cells ([.int .i64 0, .slice none 0 0, .int .i64 0] : List Value).toArray 27 (0, 0)), M_9, Mem.no, M_29] Z := hS'
      clear hS' hq_31
      obtain ⟨t_33, et_33, H⟩ := Option.bind_eq_some_iff.1 H
      refine s_append (J := N_26) (I' := N_26) (p := 2) 5864062014805 hm rfl rfl rfl Try.underlying37 ti25 rfl rfl rfl rfl hS rfl (hr_8.mono ln_6) (ho_30.src (hS.own 4)) (le_21.trans le_26) (Mem.le.refl _) et_33 ?_
      intro w_34 v_35 M_36 hS' ho_37
      clear hm a; intro a hm
      replace hS : Sep w0 w_34 [N_26, Mem.one g_2 (.cells ([.int .i64 0, .slice none 0 0, .int .i64 0] : List Value).toArray 27 (0, 0)), M_36, Mem.no, M_29] Z := hS'
      clear hS'
      refine s_move hm rfl rfl ?_
      clear hm a; intro a hm
      refine s_lenO hm rfl Try.underlying37 rfl (hr_8.mono ln_6) ?_
      clear hm a; intro a hm
      refine s_arith (r := w64 ((t_3.length : Int) + 1)) hm rfl rfl rfl (.inl ⟨rfl, rfl⟩) ?_
      clear hm a; intro a hm
      refine s_build hm rfl ti27 pl27 rfl (.cons rfl .nil) (cs := [.int .i64 0, .slice none 0 0, .int .i64 (w64 ((t_3.length : Int) + 1))]) rfl ?_
      clear hm a; intro a hm
      refine s_assign hm rfl rfl ?_
      clear hm a; intro a hm
      obtain ⟨w_39, hs', hS'⟩ := hS.store (P := Try.prog) (p := 1) (o := 0) (t := 27) (v := .agg [.int .i64 0, .slice none 0 0, .int .i64 (w64 ((t_3.length : Int) + 1))].toArray) (vs := [.int .i64 0, .slice none 0 0, .int .i64 (w64 ((t_3.length : Int) + 1))]) rfl ti27 rfl rfl rfl (by intro u hu; simp only [List.mem_cons, List.not_mem_nil, or_false] at hu; rcases hu with rfl | rfl | rfl <;> rfl)
      refine s_store hm rfl rfl hs' ?_
      replace hS : Sep w0 w_39 [N_26, Mem.one g_2 (.cells ([.int .i64 0, .slice none 0 0, .int .i64 (w64 ((t_3.length : Int) + 1))] : List Value).toArray 27 (0, 0)), M_36, Mem.no, M_29] Z := hS'
      clear hs' hS'
      refine wpList_nil ?_
      replace hm : Fr 29 a [(4, v_35), (5, .pointer (some ⟨g_2, 0, none⟩))] := hm.keep [4, 5]
      refine x_then_n ?_
      refine wp_ret ?_
      have hS' := hS.room
      replace hS : Sep w0 w_39 [N_26, Mem.one g_2 (.cells ([.int .i64 0, .slice none 0 0, .int .i64 (w64 ((t_3.length : Int) + 1))] : List Value).toArray 27 (0, 0)), M_36, Mem.no, M_29, Mem.no] Z := hS'
      clear hS'
      replace hS : Sep w0 w_39 [N_26, Mem.one g_2 (.cells ([.int .i64 0, .slice none 0 0, .int .i64 (w64 ((t_3.length : Int) + 1))] : List Value).toArray 27 (0, 0)), M_36, Mem.no, M_29, Mem.no] Z := hS
      obtain rfl := Option.some.inj H
      exact f_ret hm (rs := [.tmp 4, .cell 5 27]) rfl (.tmp rfl (.cell rfl (hS.load_agg (p := 1) (us := [.int .i64 0, .slice none 0 0, .int .i64 (w64 ((t_3.length : Int) + 1))]) rfl Try.underlying27 rfl ti27 rfl rfl) .nil)) ⟨_, rfl, v_35, .slice none 0 0, N_26, M_36, Mem.no, rfl, (Sep.sel hS [0, 2, 5] (by decide)), (ho_37.mono (Mem.le.refl _)), (Own.nil Kd.u8 5 Mem.no)⟩

set_option maxHeartbeats 4000000 in
set_option maxRecDepth 20000 in
theorem fifo_Pop.calls (K : Nat) (x0 : List (List UInt8)) (p0_0 : Value) (r : (List (List UInt8)) × api_Result) (w0 w : World) (Z A : Mem) (hA : A.le Z) (hS : Sep w0 w [] Z) (hp0_0 : Rd (Kd.slice Kd.u8) A p0_0 x0)
    (H : fifo_Pop.f K x0 = some r) :
    Calls Try.prog 24 [p0_0].toArray w (Ret fun v w' => ∃ (u0 : Value) (u1 : Value) (N : Mem), v = .tuple [u0, .agg [.int .i64 r.2.Err, u1, .int .i64 r.2.N].toArray].toArray ∧ Sep w0 w' [N] Z ∧ Rd (Kd.slice Kd.u8) N u0 r.1 ∧ Rd Kd.u8 N u1 r.2.Val) := by
  unfold fifo_Pop.f at H
  refine f_enter _ Try.func24 rfl Try.ntmps24 rfl fun a hm => ?_
  replace hm : Fr 17 a [(0, p0_0)] := hm
  replace hS := hS.start
  replace hS : Sep w0 w [Mem.no] Z := hS
  refine wp_seq ?_
  refine wp_region_lit ?_
  refine s_assign hm rfl rfl ?_
  clear hm a; intro a hm
  refine v_alloc hm rfl ti27 hS ?_
  intro w_1 g_2 hS'
  clear hm a; intro a hm
  replace hS : Sep w0 w_1 [Mem.no, Mem.one g_2 (.cells ([.int .i64 0, .slice none 0 0, .int .i64 0] : List Value).toArray 27 (0, 0))] Z := hS'
  clear hS'
  refine wpList_nil ?_
  replace hm : Fr 17 a [(0, p0_0), (2, .slice none 0 0), (3, .pointer (some ⟨g_2, 0, none⟩))] := hm.keep [0, 2, 3]
  refine x_then_n ?_
  refine wp_seq ?_
  refine wp_region_lit ?_
  refine s_move hm rfl rfl ?_
  clear hm a; intro a hm
  obtain ⟨t_3, et_3, H⟩ := Option.bind_eq_some_iff.1 H
  refine s_call hm rfl Try.call45 rfl (fifo_Still.calls K x0 _ t_3 w0 _ _ _ (Mem.le.refl _) (hS.enter [] (by decide)) (hp0_0.mono (hA.trans (hS.le_zed []))) et_3) ?_
  rintro v_7 w_4 ⟨_, N_5, M_9, rfl, hS', hr_8⟩
  clear hm a; intro a hm
  obtain ⟨N_6, hS'', le_6, ln_6⟩ := hS.call [] (by decide) rfl (l' := []) (ow := [M_9]) rfl hS'
  replace hS : Sep w0 w_4 [N_6, Mem.one g_2 (.cells ([.int .i64 0, .slice none 0 0, .int .i64 0] : List Value).toArray 27 (0, 0)), M_9] Z := hS''
  clear hS' hS''
  refine s_assign hm rfl rfl ?_
  clear hm a; intro a hm
  refine wpList_nil ?_
  replace hm : Fr 17 a [(0, v_7), (2, .slice none 0 0), (3, .pointer (some ⟨g_2, 0, none⟩))] := hm.keep [0, 2, 3]
  refine x_then_n ?_
  refine c_seq fun KJ_11 hKJ_11 => ?_
  refine wp_seq ?_
  refine wp_region_lit ?_
  refine s_move hm rfl rfl ?_
  clear hm a; intro a hm
  refine s_lenO hm rfl Try.underlying37 rfl (hr_8.mono ln_6) ?_
  clear hm a; intro a hm
  refine s_cmp (b := ((t_3.length : Int) == 0)) hm rfl rfl rfl (.inl ⟨rfl, rfl⟩) ?_
  clear hm a; intro a hm
  refine wpList_nil ?_
  replace hm : Fr 17 a [(0, v_7), (2, .slice none 0 0), (3, .pointer (some ⟨g_2, 0, none⟩)), (8, .bool ((t_3.length : Int) == 0))] := hm.keep [0, 2, 3, 8]
  refine x_then_n ?_
  by_cases hc_12 : (t_3.length : Int) = 0
  · rw [if_pos hc_12] at H
    refine c_cond_t hm rfl (beq_iff_eq.2 hc_12) ?_
    refine wp_seq ?_
    refine wp_region_lit ?_
    refine s_move hm rfl rfl ?_
    clear hm a; intro a hm
    refine s_build hm rfl ti27 pl27 rfl (.cons rfl .nil) (cs := [.int .i64 4, .slice none 0 0, .int .i64 0]) rfl ?_
    clear hm a; intro a hm
    refine s_assign hm rfl rfl ?_
    clear hm a; intro a hm
    obtain ⟨w_13, hs', hS'⟩ := hS.store (P := Try.prog) (p := 1) (o := 0) (t := 27) (v := .agg [.int .i64 4, .slice none 0 0, .int .i64 0].toArray) (vs := [.int .i64 4, .slice none 0 0, .int .i64 0]) rfl ti27 rfl rfl rfl (by intro u hu; simp only [List.mem_cons, List.not_mem_nil, or_false] at hu; rcases hu with rfl | rfl | rfl <;> rfl)
    refine s_store hm rfl rfl hs' ?_
    replace hS : Sep w0 w_13 [N_6, Mem.one g_2 (.cells ([.int .i64 4, .slice none 0 0, .int .i64 0] : List Value).toArray 27 (0, 0)), M_9] Z := hS'
    clear hs' hS'
    refine wpList_nil ?_
    replace hm : Fr 17 a [(0, v_7), (2, v_7), (3, .pointer (some ⟨g_2, 0, none⟩))] := hm.keep [0, 2, 3]
    refine x_then_n ?_
    refine wp_ret (x_then_r ?_)
    obtain ⟨N_14, hS', le_14, lo_14⟩ := hS.freeze 1 rfl
    replace hS : Sep w0 w_13 [N_14, Mem.one g_2 (.cells ([.int .i64 4, .slice none 0 0, .int .i64 0] : List Value).toArray 27 (0, 0)), Mem.no] Z := hS'
    clear hS'
    obtain rfl := Option.some.inj H
    exact f_ret hm (rs := [.tmp 2, .cell 3 27]) rfl (.tmp rfl (.cell rfl (hS.load_agg (p := 1) (us := [.int .i64 4, .slice none 0 0, .int .i64 0]) rfl Try.underlying27 rfl ti27 rfl rfl) .nil)) ⟨_, rfl, v_7, .slice none 0 0, N_14, rfl, (Sep.sel hS [0] (by decide)), ((hr_8.mono ln_6).rd lo_14 le_14), (Rd.nil _ _)⟩
  · rw [if_neg hc_12] at H
    refine c_cond_f hm rfl (beq_eq_false_iff_ne.2 hc_12) ?_
    refine wp_skip ?_
    refine x_then_n (hKJ_11 _ _ ?_)
    refine wp_seq ?_
    obtain ⟨N_15, hS', le_15, lo_15⟩ := hS.freeze 1 rfl
    replace hS : Sep w0 w_4 [N_15, Mem.one g_2 (.cells ([.int .i64 0, .slice none 0 0, .int .i64 0] : List Value).toArray 27 (0, 0)), Mem.no] Z := hS'
    clear hS'
    refine h_begin (S := fun w => Sep w0 w [N_15, Mem.no, Mem.no] Z) 8 (by kernel_rfl) rfl [false, false, false, false, false, false, false, false].toArray rfl hS fun w_16 hS => ?_
    replace hS : Sep w0 w_16 [N_15, Mem.one g_2 (.cells ([.int .i64 0, .slice none 0 0, .int .i64 0] : List Value).toArray 27 (0, 0)), Mem.no] Z := hS
    refine h_take 0 [true, false, false, false, false, false, false, false].toArray rfl (by kernel_rfl) (by kernel_rfl) (by kernel_rfl) (fun _ _ _ _ h => h) rfl rfl rfl rfl hm (hS.sub (.cons (Mem.le.refl _) (.cons (Mem.no_le _) (.cons (Mem.no_le _) (Sub.nil _))))) (v := v_7) (fun w hS => r_move hm rfl) ?_
    clear hm a; intro a hm
    obtain ⟨t_17, et_17, H⟩ := Option.bind_eq_some_iff.1 H
    refine h_takeE 1 [true, true, false, false, false, false, false, false].toArray rfl (by kernel_rfl) (by kernel_rfl) (by kernel_rfl) (fun _ _ _ _ h => h) rfl rfl rfl rfl hm (hS.sub (.cons (Mem.le.refl _) (.cons (Mem.no_le _) (.cons (Mem.no_le _) (Sub.nil _))))) (f := fun v => v) (r_slice hm Try.underlying37 ti25 rfl rfl ((hr_8.mono ln_6).rd lo_15 le_15) rfl rfl et_17) ?_
    intro v_18 hr_19
    clear hm a; intro a hm
    refine h_take 2 [true, true, true, false, false, false, false, false].toArray rfl (by kernel_rfl) (by kernel_rfl) (by kernel_rfl) (fun _ _ _ _ h => h) rfl rfl rfl rfl hm (hS.sub (.cons (Mem.le.refl _) (.cons (Mem.no_le _) (.cons (Mem.no_le _) (Sub.nil _))))) (v := v_7) (fun w hS => r_move hm rfl) ?_
    clear hm a; intro a hm
    obtain ⟨t_20, et_20, H⟩ := Option.bind_eq_some_iff.1 H
    refine h_takeE 3 [true, true, true, true, false, false, false, false].toArray rfl (by kernel_rfl) (by kernel_rfl) (by kernel_rfl) (fun _ _ _ _ h => h) rfl rfl rfl rfl hm (hS.sub (.cons (Mem.le.refl _) (.cons (Mem.no_le _) (.cons (Mem.no_le _) (Sub.nil _))))) (f := fun ad => .pointer (some ad)) (r_index hm Try.underlying37 ti25 rfl rfl rfl ((hr_8.mono ln_6).rd lo_15 le_15) et_20) ?_
    rintro ad_21 ⟨cs_22, hk_23, hc_24⟩
    obtain ⟨v_25, rfl, hr_26⟩ := hk_23
    clear hm a; intro a hm
    refine h_take 4 [true, true, true, true, true, false, false, false].toArray rfl (by kernel_rfl) (by kernel_rfl) (by kernel_rfl) (fun _ _ _ _ h => h) rfl rfl rfl rfl hm (hS.sub (.cons (Mem.le.refl _) (.cons (Mem.no_le _) (.cons (Mem.no_le _) (Sub.nil _))))) (v := v_25) (fun w hS => r_load hm rfl (el_one (o := 0) (fun j c h => Mem.cell_le ((Mem.le.refl _).trans (hS.own 0)) (hc_24 j c h)) Try.underlying25 rfl rfl)) ?_
    clear hm a; intro a hm
    refine h_take 5 [true, true, true, true, true, true, false, false].toArray rfl (by kernel_rfl) (by kernel_rfl) (by kernel_rfl) (fun _ _ _ _ h => h) rfl rfl rfl rfl hm (hS.sub (.cons (Mem.le.refl _) (.cons (Mem.no_le _) (.cons (Mem.no_le _) (Sub.nil _))))) (v := .agg [.int .i64 0, v_25, .int .i64 0].toArray) (fun w hS => r_build hm ti27 pl27 rfl (.cons hr_26.cells .nil) (cs := [.int .i64 0, v_25, .int .i64 0]) rfl) ?_
    clear hm a; intro a hm
    refine h_take 6 [true, true, true, true, true, true, true, false].toArray rfl (by kernel_rfl) (by kernel_rfl) (by kernel_rfl) (fun _ _ _ _ h => h) rfl rfl rfl rfl hm (hS.sub (.cons (Mem.le.refl _) (.cons (Mem.no_le _) (.cons (Mem.no_le _) (Sub.nil _))))) (v := v_18) (fun w hS => r_assign hm rfl) ?_
    clear hm a; intro a hm
    refine h_event 7 [true, true, true, true, true, true, true, true].toArray rfl (by kernel_rfl) rfl ?_
    obtain ⟨w_27, hs', hS'⟩ := hS.store (P := Try.prog) (p := 1) (o := 0) (t := 27) (v := .agg [.int .i64 0, v_25, .int .i64 0].toArray) (vs := [.int .i64 0, v_25, .int .i64 0]) rfl ti27 rfl rfl rfl (by intro u hu; simp only [List.mem_cons, List.not_mem_nil, or_false] at hu; rcases hu with rfl | rfl | rfl <;> first | rfl | exact hr_26.one)
    refine s_store hm rfl rfl hs' ?_
    replace hS : Sep w0 w_27 [N_15, Mem.one g_2 (.cells ([.int .i64 0, v_25, .int .i64 0] : List Value).toArray 27 (0, 0)), Mem.no] Z := hS'
    clear hs' hS'
    refine wpList_nil ?_
    refine x_then_n ⟨(hS.sub (.cons (Mem.le.refl _) (.cons (Mem.no_le _) (.cons (Mem.no_le _) (Sub.nil _))))), ?_⟩
    refine h_done (by kernel_rfl) ?_
    replace hm : Fr 17 a [(2, v_18), (3, .pointer (some ⟨g_2, 0, none⟩))] := hm.keep [2, 3]
    refine x_then_n ?_
    refine wp_ret ?_
    obtain rfl := Option.some.inj H
    exact f_ret hm (rs := [.tmp 2, .cell 3 27]) rfl (.tmp rfl (.cell rfl (hS.load_agg (p := 1) (us := [.int .i64 0, v_25, .int .i64 0]) rfl Try.underlying27 rfl ti27 rfl rfl) .nil)) ⟨_, rfl, v_18, v_25, N_15, rfl, (Sep.sel hS [0] (by decide)), hr_19, hr_26⟩

set_option maxHeartbeats 4000000 in
set_option maxRecDepth 20000 in
theorem hocketlaw5_awake.calls (K : Nat) (r : Unit) (w0 w : World) (Z A : Mem) (hA : A.le Z) (hS : Sep w0 w [] Z)
    (H : hocketlaw5_awake.f K = some r) :
    Calls Try.prog 25 [].toArray w (Ret fun v w' => ∃ (N : Mem), v = .bool true ∧ Sep w0 w' [N] Z) := by
  unfold hocketlaw5_awake.f at H
  refine f_enter _ Try.func25 rfl Try.ntmps25 rfl fun a hm => ?_
  replace hm : Fr 59 a [] := hm
  replace hS := hS.start
  replace hS : Sep w0 w [Mem.no] Z := hS
  refine wp_seq ?_
  refine wp_region_lit ?_
  refine s_assign hm rfl rfl ?_
  clear hm a; intro a hm
  refine wpList_nil ?_
  replace hm : Fr 59 a [(0, .bool false)] := hm.keep [0]
  refine x_then_n ?_
  refine wp_seq ?_
  refine wp_region_lit ?_
  have hq_5 : Reps Kd.u8 Mem.no ([(97 : UInt8)] : List UInt8) _ := ((Reps.one (d := Kd.u8) (x := (97 : UInt8)) (show Kd.u8.K _ _ [.int .u8 ((97 : UInt8).toNat : Int)] from rfl)).append (Reps.nil Kd.u8 _))
  refine s_buildSlice hm rfl Try.underlying25 ti5 rfl rfl rfl (.cons rfl .nil) rfl rfl rfl hS hq_5 rfl ?_
  intro w_1 v_2 M_3 hS' ho_4
  clear hm a; intro a hm
  replace hS : Sep w0 w_1 [Mem.no, M_3] Z := hS'
  clear hS' hq_5
  refine s_conv_sl (p := 1) hm rfl Try.underlying25 Try.underlying5 rfl ho_4 (by simp) hS rfl ?_
  intro w_7 M_8 hS' hr_9
  clear hm a; intro a hm
  obtain ⟨N_10, hS'', le_10, lo_10⟩ := Sep.freeze (N0 := Mem.no) (l := [M_8]) hS' 0 rfl
  replace hS : Sep w0 w_7 [N_10, Mem.no] Z := hS''
  clear hS' hS''
  obtain ⟨t_11, et_11, H⟩ := Option.bind_eq_some_iff.1 H
  refine s_call hm rfl Try.call22 rfl (fifo_Push.calls K ([] : List (List UInt8)) _ ([(97 : UInt8)] : List UInt8) _ t_11 w0 _ _ _ (Mem.le.refl _) (hS.enter [] (by decide)) (Rd.nil _ _) ((hr_9.mono lo_10).mono ((Mem.le.refl _).trans (hS.new_zed []))) et_11) ?_
  rintro _ w_12 ⟨v_15, v_19, N_13, M_17, M_21, rfl, hS', hr_16, hr_20⟩
  clear hm a; intro a hm
  obtain ⟨N_14, hS'', le_14, ln_14⟩ := hS.call [] (by decide) rfl (l' := []) (ow := [M_17, M_21]) rfl hS'
  replace hS : Sep w0 w_12 [N_14, Mem.no, M_17, M_21] Z := hS''
  clear hS' hS''
  refine s_move hm rfl rfl ?_
  clear hm a; intro a hm
  refine s_extract hm rfl rfl rfl ?_
  clear hm a; intro a hm
  refine s_extract hm rfl rfl rfl ?_
  clear hm a; intro a hm
  refine v_alloc hm rfl ti27 hS ?_
  intro w_23 g_24 hS'
  clear hm a; intro a hm
  replace hS : Sep w0 w_23 [N_14, Mem.no, M_17, M_21, Mem.one g_24 (.cells ([.int .i64 0, .slice none 0 0, .int .i64 0] : List Value).toArray 27 (0, 0))] Z := hS'
  clear hS'
  refine s_assign hm rfl rfl ?_
  clear hm a; intro a hm
  obtain ⟨w_25, hs', hS'⟩ := hS.store (P := Try.prog) (p := 4) (o := 0) (t := 27) (v := .agg [.int .i64 t_11.2.Err, v_19, .int .i64 t_11.2.N].toArray) (vs := [.int .i64 t_11.2.Err, v_19, .int .i64 t_11.2.N]) rfl ti27 rfl rfl rfl (by intro u hu; simp only [List.mem_cons, List.not_mem_nil, or_false] at hu; rcases hu with rfl | rfl | rfl <;> first | rfl | exact hr_20.one)
  refine s_store hm rfl rfl hs' ?_
  replace hS : Sep w0 w_25 [N_14, Mem.no, M_17, M_21, Mem.one g_24 (.cells ([.int .i64 t_11.2.Err, v_19, .int .i64 t_11.2.N] : List Value).toArray 27 (0, 0))] Z := hS'
  clear hs' hS'
  refine wpList_nil ?_
  replace hm : Fr 59 a [(0, .bool false), (1, v_15), (2, .pointer (some ⟨g_24, 0, none⟩))] := hm.keep [0, 1, 2]
  refine x_then_n ?_
  refine wp_seq ?_
  refine wp_region_lit ?_
  refine s_move hm rfl rfl ?_
  clear hm a; intro a hm
  have hq_30 : Reps Kd.u8 Mem.no ([(98 : UInt8)] : List UInt8) _ := ((Reps.one (d := Kd.u8) (x := (98 : UInt8)) (show Kd.u8.K _ _ [.int .u8 ((98 : UInt8).toNat : Int)] from rfl)).append (Reps.nil Kd.u8 _))
  refine s_buildSlice hm rfl Try.underlying25 ti5 rfl rfl rfl (.cons rfl .nil) rfl rfl rfl hS hq_30 rfl ?_
  intro w_26 v_27 M_28 hS' ho_29
  clear hm a; intro a hm
  replace hS : Sep w0 w_26 [N_14, Mem.no, M_17, M_21, Mem.one g_24 (.cells ([.int .i64 t_11.2.Err, v_19, .int .i64 t_11.2.N] : List Value).toArray 27 (0, 0)), M_28] Z := hS'
  clear hS' hq_30
  refine s_conv_sl (p := 5) hm rfl Try.underlying25 Try.underlying5 rfl ho_29 (by simp) hS rfl ?_
  intro w_32 M_33 hS' hr_34
  clear hm a; intro a hm
  obtain ⟨N_35, hS'', le_35, lo_35⟩ := Sep.freeze (N0 := N_14) (l := [Mem.no, M_17, M_21, Mem.one g_24 (.cells ([.int .i64 t_11.2.Err, v_19, .int .i64 t_11.2.N] : List Value).toArray 27 (0, 0)), M_33]) hS' 4 rfl
  replace hS : Sep w0 w_32 [N_35, Mem.no, M_17, M_21, Mem.one g_24 (.cells ([.int .i64 t_11.2.Err, v_19, .int .i64 t_11.2.N] : List Value).toArray 27 (0, 0)), Mem.no] Z := hS''
  clear hS' hS''
  obtain ⟨t_36, et_36, H⟩ := Option.bind_eq_some_iff.1 H
  refine s_call hm rfl Try.call22 rfl (fifo_Push.calls K t_11.1 _ ([(98 : UInt8)] : List UInt8) _ t_36 w0 _ _ _ (Mem.le.refl _) (hS.enter [] (by decide)) ((hr_16.mono ln_14).rd (hS.own_zed [] 1 (by decide)) (le_35.trans (hS.new_zed []))) ((hr_34.mono lo_35).mono ((Mem.le.refl _).trans (hS.new_zed []))) et_36) ?_
  rintro _ w_37 ⟨v_40, v_44, N_38, M_42, M_46, rfl, hS', hr_41, hr_45⟩
  clear hm a; intro a hm
  obtain ⟨N_39, hS'', le_39, ln_39⟩ := hS.call [] (by decide) rfl (l' := []) (ow := [M_42, M_46]) rfl hS'
  replace hS : Sep w0 w_37 [N_39, Mem.no, M_17, M_21, Mem.one g_24 (.cells ([.int .i64 t_11.2.Err, v_19, .int .i64 t_11.2.N] : List Value).toArray 27 (0, 0)), Mem.no, M_42, M_46] Z := hS''
  clear hS' hS''
  refine s_move hm rfl rfl ?_
  clear hm a; intro a hm
  refine s_extract hm rfl rfl rfl ?_
  clear hm a; intro a hm
  refine s_extract hm rfl rfl rfl ?_
  clear hm a; intro a hm
  refine v_alloc hm rfl ti27 hS ?_
  intro w_48 g_49 hS'
  clear hm a; intro a hm
  replace hS : Sep w0 w_48 [N_39, Mem.no, M_17, M_21, Mem.one g_24 (.cells ([.int .i64 t_11.2.Err, v_19, .int .i64 t_11.2.N] : List Value).toArray 27 (0, 0)), Mem.no, M_42, M_46, Mem.one g_49 (.cells ([.int .i64 0, .slice none 0 0, .int .i64 0] : List Value).toArray 27 (0, 0))] Z := hS'
  clear hS'
  refine s_assign hm rfl rfl ?_
  clear hm a; intro a hm
  obtain ⟨w_50, hs', hS'⟩ := hS.store (P := Try.prog) (p := 8) (o := 0) (t := 27) (v := .agg [.int .i64 t_36.2.Err, v_44, .int .i64 t_36.2.N].toArray) (vs := [.int .i64 t_36.2.Err, v_44, .int .i64 t_36.2.N]) rfl ti27 rfl rfl rfl (by intro u hu; simp only [List.mem_cons, List.not_mem_nil, or_false] at hu; rcases hu with rfl | rfl | rfl <;> first | rfl | exact hr_45.one)
  refine s_store hm rfl rfl hs' ?_
  replace hS : Sep w0 w_50 [N_39, Mem.no, M_17, M_21, Mem.one g_24 (.cells ([.int .i64 t_11.2.Err, v_19, .int .i64 t_11.2.N] : List Value).toArray 27 (0, 0)), Mem.no, M_42, M_46, Mem.one g_49 (.cells ([.int .i64 t_36.2.Err, v_44, .int .i64 t_36.2.N] : List Value).toArray 27 (0, 0))] Z := hS'
  clear hs' hS'
  refine wpList_nil ?_
  replace hm : Fr 59 a [(0, .bool false), (1, v_40), (2, .pointer (some ⟨g_24, 0, none⟩)), (3, .pointer (some ⟨g_49, 0, none⟩))] := hm.keep [0, 1, 2, 3]
  refine x_then_n ?_
  refine wp_seq ?_
  refine wp_region_lit ?_
  refine s_move hm rfl rfl ?_
  clear hm a; intro a hm
  obtain ⟨t_51, et_51, H⟩ := Option.bind_eq_some_iff.1 H
  refine s_call hm rfl Try.call24 rfl (fifo_Pop.calls K t_36.1 _ t_51 w0 _ _ _ (Mem.le.refl _) (hS.enter [] (by decide)) ((hr_41.mono ln_39).rd (hS.own_zed [] 5 (by decide)) ((Mem.le.refl _).trans (hS.new_zed []))) et_51) ?_
  rintro _ w_52 ⟨v_55, v_57, N_53, rfl, hS', hr_56, hr_58⟩
  clear hm a; intro a hm
  obtain ⟨N_54, hS'', le_54, ln_54⟩ := hS.call [] (by decide) rfl (l' := []) (ow := []) rfl hS'
  replace hS : Sep w0 w_52 [N_54, Mem.no, M_17, M_21, Mem.one g_24 (.cells ([.int .i64 t_11.2.Err, v_19, .int .i64 t_11.2.N] : List Value).toArray 27 (0, 0)), Mem.no, M_42, M_46, Mem.one g_49 (.cells ([.int .i64 t_36.2.Err, v_44, .int .i64 t_36.2.N] : List Value).toArray 27 (0, 0))] Z := hS''
  clear hS' hS''
  refine s_move hm rfl rfl ?_
  clear hm a; intro a hm
  refine s_extract hm rfl rfl rfl ?_
  clear hm a; intro a hm
  refine s_extract hm rfl rfl rfl ?_
  clear hm a; intro a hm
  refine v_alloc hm rfl ti27 hS ?_
  intro w_59 g_60 hS'
  clear hm a; intro a hm
  replace hS : Sep w0 w_59 [N_54, Mem.no, M_17, M_21, Mem.one g_24 (.cells ([.int .i64 t_11.2.Err, v_19, .int .i64 t_11.2.N] : List Value).toArray 27 (0, 0)), Mem.no, M_42, M_46, Mem.one g_49 (.cells ([.int .i64 t_36.2.Err, v_44, .int .i64 t_36.2.N] : List Value).toArray 27 (0, 0)), Mem.one g_60 (.cells ([.int .i64 0, .slice none 0 0, .int .i64 0] : List Value).toArray 27 (0, 0))] Z := hS'
  clear hS'
  refine s_assign hm rfl rfl ?_
  clear hm a; intro a hm
  obtain ⟨w_61, hs', hS'⟩ := hS.store (P := Try.prog) (p := 9) (o := 0) (t := 27) (v := .agg [.int .i64 t_51.2.Err, v_57, .int .i64 t_51.2.N].toArray) (vs := [.int .i64 t_51.2.Err, v_57, .int .i64 t_51.2.N]) rfl ti27 rfl rfl rfl (by intro u hu; simp only [List.mem_cons, List.not_mem_nil, or_false] at hu; rcases hu with rfl | rfl | rfl <;> first | rfl | exact (hr_58.mono ln_54).one)
  refine s_store hm rfl rfl hs' ?_
  replace hS : Sep w0 w_61 [N_54, Mem.no, M_17, M_21, Mem.one g_24 (.cells ([.int .i64 t_11.2.Err, v_19, .int .i64 t_11.2.N] : List Value).toArray 27 (0, 0)), Mem.no, M_42, M_46, Mem.one g_49 (.cells ([.int .i64 t_36.2.Err, v_44, .int .i64 t_36.2.N] : List Value).toArray 27 (0, 0)), Mem.one g_60 (.cells ([.int .i64 t_51.2.Err, v_57, .int .i64 t_51.2.N] : List Value).toArray 27 (0, 0))] Z := hS'
  clear hs' hS'
  refine wpList_nil ?_
  replace hm : Fr 59 a [(0, .bool false), (1, v_40), (2, .pointer (some ⟨g_24, 0, none⟩)), (3, .pointer (some ⟨g_49, 0, none⟩)), (4, v_55), (5, .pointer (some ⟨g_60, 0, none⟩))] := hm.keep [0, 1, 2, 3, 4, 5]
  refine x_then_n ?_
  refine wp_seq ?_
  refine wp_region_lit ?_
  obtain ⟨t_62, et_62, H⟩ := Option.bind_eq_some_iff.1 H
  refine s_call hm rfl Try.call24 rfl (fifo_Pop.calls K ([] : List (List UInt8)) _ t_62 w0 _ _ _ (Mem.le.refl _) (hS.enter [] (by decide)) (Rd.nil _ _) et_62) ?_
  rintro _ w_63 ⟨v_66, v_68, N_64, rfl, hS', hr_67, hr_69⟩
  clear hm a; intro a hm
  obtain ⟨N_65, hS'', le_65, ln_65⟩ := hS.call [] (by decide) rfl (l' := []) (ow := []) rfl hS'
  replace hS : Sep w0 w_63 [N_65, Mem.no, M_17, M_21, Mem.one g_24 (.cells ([.int .i64 t_11.2.Err, v_19, .int .i64 t_11.2.N] : List Value).toArray 27 (0, 0)), Mem.no, M_42, M_46, Mem.one g_49 (.cells ([.int .i64 t_36.2.Err, v_44, .int .i64 t_36.2.N] : List Value).toArray 27 (0, 0)), Mem.one g_60 (.cells ([.int .i64 t_51.2.Err, v_57, .int .i64 t_51.2.N] : List Value).toArray 27 (0, 0))] Z := hS''
  clear hS' hS''
  refine s_move hm rfl rfl ?_
  clear hm a; intro a hm
  refine s_extract hm rfl rfl rfl ?_
  clear hm a; intro a hm
  refine s_extract hm rfl rfl rfl ?_
  clear hm a; intro a hm
  refine v_alloc hm rfl ti27 hS ?_
  intro w_70 g_71 hS'
  clear hm a; intro a hm
  replace hS : Sep w0 w_70 [N_65, Mem.no, M_17, M_21, Mem.one g_24 (.cells ([.int .i64 t_11.2.Err, v_19, .int .i64 t_11.2.N] : List Value).toArray 27 (0, 0)), Mem.no, M_42, M_46, Mem.one g_49 (.cells ([.int .i64 t_36.2.Err, v_44, .int .i64 t_36.2.N] : List Value).toArray 27 (0, 0)), Mem.one g_60 (.cells ([.int .i64 t_51.2.Err, v_57, .int .i64 t_51.2.N] : List Value).toArray 27 (0, 0)), Mem.one g_71 (.cells ([.int .i64 0, .slice none 0 0, .int .i64 0] : List Value).toArray 27 (0, 0))] Z := hS'
  clear hS'
  refine s_assign hm rfl rfl ?_
  clear hm a; intro a hm
  obtain ⟨w_72, hs', hS'⟩ := hS.store (P := Try.prog) (p := 10) (o := 0) (t := 27) (v := .agg [.int .i64 t_62.2.Err, v_68, .int .i64 t_62.2.N].toArray) (vs := [.int .i64 t_62.2.Err, v_68, .int .i64 t_62.2.N]) rfl ti27 rfl rfl rfl (by intro u hu; simp only [List.mem_cons, List.not_mem_nil, or_false] at hu; rcases hu with rfl | rfl | rfl <;> first | rfl | exact (hr_69.mono ln_65).one)
  refine s_store hm rfl rfl hs' ?_
  replace hS : Sep w0 w_72 [N_65, Mem.no, M_17, M_21, Mem.one g_24 (.cells ([.int .i64 t_11.2.Err, v_19, .int .i64 t_11.2.N] : List Value).toArray 27 (0, 0)), Mem.no, M_42, M_46, Mem.one g_49 (.cells ([.int .i64 t_36.2.Err, v_44, .int .i64 t_36.2.N] : List Value).toArray 27 (0, 0)), Mem.one g_60 (.cells ([.int .i64 t_51.2.Err, v_57, .int .i64 t_51.2.N] : List Value).toArray 27 (0, 0)), Mem.one g_71 (.cells ([.int .i64 t_62.2.Err, v_68, .int .i64 t_62.2.N] : List Value).toArray 27 (0, 0))] Z := hS'
  clear hs' hS'
  refine wpList_nil ?_
  replace hm : Fr 59 a [(0, .bool false), (1, v_40), (2, .pointer (some ⟨g_24, 0, none⟩)), (3, .pointer (some ⟨g_49, 0, none⟩)), (4, v_55), (5, .pointer (some ⟨g_60, 0, none⟩)), (7, .pointer (some ⟨g_71, 0, none⟩))] := hm.keep [0, 1, 2, 3, 4, 5, 7]
  refine x_then_n ?_
  refine c_seq fun KJ_73 hKJ_73 => ?_
  refine wp_region_lit ?_
  refine s_fieldAddr hm rfl Try.underlying27 rfl ti3 rfl rfl ?_
  clear hm a; intro a hm
  refine s_load hm rfl rfl (hS.load_one (p := 4) rfl Try.underlying3 rfl rfl) ?_
  clear hm a; intro a hm
  refine s_cmp (b := (t_11.2.N == 1)) hm rfl rfl rfl (.inl ⟨rfl, rfl⟩) ?_
  clear hm a; intro a hm
  refine s_move hm rfl rfl ?_
  clear hm a; intro a hm
  by_cases hc_74 : t_11.2.N = 1
  · rw [if_pos hc_74] at H
    refine s_on hm rfl rfl (beq_iff_eq.2 hc_74) ?_
    refine s_fieldAddr hm rfl Try.underlying27 rfl ti3 rfl rfl ?_
    clear hm a; intro a hm
    refine s_on hm rfl rfl (beq_iff_eq.2 hc_74) ?_
    refine s_load hm rfl rfl (hS.load_one (p := 8) rfl Try.underlying3 rfl rfl) ?_
    clear hm a; intro a hm
    refine s_on hm rfl rfl (beq_iff_eq.2 hc_74) ?_
    refine s_cmp (b := (t_36.2.N == 2)) hm rfl rfl rfl (.inl ⟨rfl, rfl⟩) ?_
    clear hm a; intro a hm
    refine s_pick_t hm rfl rfl (beq_iff_eq.2 hc_74) rfl ?_
    clear hm a; intro a hm
    refine s_move hm rfl rfl ?_
    clear hm a; intro a hm
    by_cases hc_75 : t_36.2.N = 2
    · rw [if_pos hc_75] at H
      refine s_on hm rfl rfl (beq_iff_eq.2 hc_75) ?_
      refine s_move hm rfl rfl ?_
      clear hm a; intro a hm
      refine s_on hm rfl rfl (beq_iff_eq.2 hc_75) ?_
      refine s_lenO hm rfl Try.underlying37 rfl (hr_41.mono ln_39) ?_
      clear hm a; intro a hm
      refine s_on hm rfl rfl (beq_iff_eq.2 hc_75) ?_
      refine s_cmp (b := ((t_36.1.length : Int) == 2)) hm rfl rfl rfl (.inl ⟨rfl, rfl⟩) ?_
      clear hm a; intro a hm
      refine s_pick_t hm rfl rfl (beq_iff_eq.2 hc_75) rfl ?_
      clear hm a; intro a hm
      refine s_move hm rfl rfl ?_
      clear hm a; intro a hm
      by_cases hc_76 : (t_36.1.length : Int) = 2
      · rw [if_pos hc_76] at H
        refine s_on hm rfl rfl (beq_iff_eq.2 hc_76) ?_
        refine s_move hm rfl rfl ?_
        clear hm a; intro a hm
        refine s_on hm rfl rfl (beq_iff_eq.2 hc_76) ?_
        refine s_len hm rfl Try.underlying37 rfl (hr_56.mono ln_54) ?_
        clear hm a; intro a hm
        refine s_on hm rfl rfl (beq_iff_eq.2 hc_76) ?_
        refine s_cmp (b := ((t_51.1.length : Int) == 1)) hm rfl rfl rfl (.inl ⟨rfl, rfl⟩) ?_
        clear hm a; intro a hm
        refine s_pick_t hm rfl rfl (beq_iff_eq.2 hc_76) rfl ?_
        clear hm a; intro a hm
        refine s_move hm rfl rfl ?_
        clear hm a; intro a hm
        by_cases hc_77 : (t_51.1.length : Int) = 1
        · rw [if_pos hc_77] at H
          refine s_on hm rfl rfl (beq_iff_eq.2 hc_77) ?_
          refine s_fieldAddr hm rfl Try.underlying27 rfl ti25 rfl rfl ?_
          clear hm a; intro a hm
          refine s_on hm rfl rfl (beq_iff_eq.2 hc_77) ?_
          refine s_load hm rfl rfl (hS.load_one (p := 9) rfl Try.underlying25 rfl rfl) ?_
          clear hm a; intro a hm
          refine s_on hm rfl rfl (beq_iff_eq.2 hc_77) ?_
          refine s_b2s hm rfl Try.underlying25 Try.underlying5 Try.underlying9 rfl (hr_58.mono ln_54) (le_65.trans (hS.own 0)) ?_
          clear hm a; intro a hm
          refine s_on hm rfl rfl (beq_iff_eq.2 hc_77) ?_
          refine s_strEq (b := (t_51.2.Val == ([97] : List UInt8))) hm rfl rfl rfl (.inl ⟨rfl, rfl⟩) ?_
          clear hm a; intro a hm
          refine s_pick_t hm rfl rfl (beq_iff_eq.2 hc_77) rfl ?_
          clear hm a; intro a hm
          refine s_move hm rfl rfl ?_
          clear hm a; intro a hm
          by_cases hc_78 : t_51.2.Val = ([97] : List UInt8)
          · rw [if_pos hc_78] at H
            refine s_on hm rfl rfl (beq_iff_eq.2 hc_78) ?_
            refine s_fieldAddr hm rfl Try.underlying27 rfl ti22 rfl rfl ?_
            clear hm a; intro a hm
            refine s_on hm rfl rfl (beq_iff_eq.2 hc_78) ?_
            refine s_load hm rfl rfl (hS.load_one (p := 10) rfl Try.underlying22 rfl rfl) ?_
            clear hm a; intro a hm
            refine s_on hm rfl rfl (beq_iff_eq.2 hc_78) ?_
            refine s_cmp (b := (t_62.2.Err == 4)) hm rfl rfl rfl (.inl ⟨rfl, rfl⟩) ?_
            clear hm a; intro a hm
            refine s_pick_t hm rfl rfl (beq_iff_eq.2 hc_78) rfl ?_
            clear hm a; intro a hm
            refine s_assign hm rfl rfl ?_
            clear hm a; intro a hm
            refine wpList_nil ?_
            replace hm : Fr 59 a [(0, .bool (t_62.2.Err == 4))] := hm.keep [0]
            refine x_then_n (hKJ_73 _ _ ?_)
            refine wp_ret ?_
            by_cases hc_79 : t_62.2.Err = 4
            · rw [if_pos hc_79] at H
              exact f_ret hm (rs := [.tmp 0]) rfl (.tmp rfl .nil) ⟨_, rfl, N_65, (by rw [(beq_iff_eq.2 hc_79)]; rfl), (Sep.sel hS [0] (by decide))⟩
            · rw [if_neg hc_79] at H
              cases H
          · rw [if_neg hc_78] at H
            cases H
        · rw [if_neg hc_77] at H
          cases H
      · rw [if_neg hc_76] at H
        cases H
    · rw [if_neg hc_75] at H
      cases H
  · rw [if_neg hc_74] at H
    cases H

set_option maxHeartbeats 4000000 in
set_option maxRecDepth 20000 in
theorem hocketlaw5_FifoOrder.calls (K : Nat) (x0 : List (List UInt8)) (p0_0 : Value) (r : Unit) (w0 w : World) (Z A : Mem) (hA : A.le Z) (hS : Sep w0 w [] Z) (hp0_0 : Rd (Kd.slice Kd.u8) A p0_0 x0)
    (H : hocketlaw5_FifoOrder.f K x0 = some r) :
    Calls Try.prog 9 [p0_0].toArray w (Ret fun v w' => ∃ (N : Mem), v = .bool true ∧ Sep w0 w' [N] Z) := by
  unfold hocketlaw5_FifoOrder.f at H
  refine f_enter _ Try.func9 rfl Try.ntmps9 rfl fun a hm => ?_
  replace hm : Fr 132 a [(0, p0_0)] := hm
  replace hS := hS.start
  replace hS : Sep w0 w [Mem.no] Z := hS
  refine wp_seq ?_
  refine wp_region_lit ?_
  refine s_assign hm rfl rfl ?_
  clear hm a; intro a hm
  refine wpList_nil ?_
  replace hm : Fr 132 a [(0, p0_0), (2, .bool false)] := hm.keep [0, 2]
  refine x_then_n ?_
  refine wp_seq ?_
  refine wp_region_lit ?_
  refine s_assign hm rfl rfl ?_
  clear hm a; intro a hm
  refine wpList_nil ?_
  replace hm : Fr 132 a [(0, p0_0), (2, .bool false), (3, .slice none 0 0)] := hm.keep [0, 2, 3]
  refine x_then_n ?_
  refine wp_seq ?_
  refine wp_region_lit ?_
  refine s_assign hm rfl rfl ?_
  clear hm a; intro a hm
  refine wpList_nil ?_
  replace hm : Fr 132 a [(0, p0_0), (2, .bool false), (3, .slice none 0 0), (4, .int .i64 0)] := hm.keep [0, 2, 3, 4]
  refine x_then_n ?_
  refine c_seq fun KJ_1 hKJ_1 => ?_
  refine wp_seq ?_
  refine wp_region_lit ?_
  refine s_assign hm rfl rfl ?_
  clear hm a; intro a hm
  refine wpList_nil ?_
  replace hm : Fr 132 a [(0, p0_0), (2, .bool false), (3, .slice none 0 0), (4, .int .i64 0), (5, .int .i64 0)] := hm.keep [0, 2, 3, 4, 5]
  refine x_then_n ?_
  have hJ_j_10 : ∀ (x_3 : List (List UInt8)), ∀ (x_8 : Int), hocketlaw5_FifoOrder.j_10 K x0 x_3 x_8 = some r → ∀ (a : Act) (w_9 : World), (∃ (v_6 : Value) (N_2 : Mem) (M_4 : Mem), Fr 132 a [(0, p0_0), (2, .bool false), (3, v_6), (4, .int .i64 x_8)] ∧ Sep w0 w_9 [N_2, M_4] Z ∧ Mem.no.le N_2 ∧ Own (Kd.slice Kd.u8) 25 M_4 N_2 v_6 x_3) → KJ_1 a w_9 := by
    clear H hm hS a
    rintro x_3 x_8 H a w_9 ⟨v_6, N_2, M_4, hm, hS, le_2, ho_7⟩
    unfold hocketlaw5_FifoOrder.j_10 at H
    refine hKJ_1 _ _ ?_
    refine c_seq fun KJ_11 hKJ_11 => ?_
    refine wp_seq ?_
    refine wp_region_lit ?_
    refine s_move hm rfl rfl ?_
    clear hm a; intro a hm
    have hq_16 : Reps Kd.u8 Mem.no ([(120 : UInt8)] : List UInt8) _ := ((Reps.one (d := Kd.u8) (x := (120 : UInt8)) (show Kd.u8.K _ _ [.int .u8 ((120 : UInt8).toNat : Int)] from rfl)).append (Reps.nil Kd.u8 _))
    refine s_buildSlice hm rfl Try.underlying25 ti5 rfl rfl rfl (.cons rfl .nil) rfl rfl rfl hS hq_16 rfl ?_
    intro w_12 v_13 M_14 hS' ho_15
    clear hm a; intro a hm
    replace hS : Sep w0 w_12 [N_2, M_4, M_14] Z := hS'
    clear hS' hq_16
    refine s_conv_sl (p := 2) hm rfl Try.underlying25 Try.underlying5 rfl ho_15 (by simp) hS rfl ?_
    intro w_18 M_19 hS' hr_20
    clear hm a; intro a hm
    obtain ⟨N_21, hS'', le_21, lo_21⟩ := Sep.freeze (N0 := N_2) (l := [M_4, M_19]) hS' 1 rfl
    replace hS : Sep w0 w_18 [N_21, M_4, Mem.no] Z := hS''
    clear hS' hS''
    obtain ⟨t_22, et_22, H⟩ := Option.bind_eq_some_iff.1 H
    refine s_call hm rfl Try.call22 rfl (fifo_Push.calls K x_3 _ ([(120 : UInt8)] : List UInt8) _ t_22 w0 _ _ _ (Mem.le.refl _) (hS.enter [] (by decide)) (ho_7.rd (hS.own_zed [] 0 (by decide)) (le_21.trans (hS.new_zed []))) ((hr_20.mono lo_21).mono ((Mem.le.refl _).trans (hS.new_zed []))) et_22) ?_
    rintro _ w_23 ⟨v_26, v_30, N_24, M_28, M_32, rfl, hS', hr_27, hr_31⟩
    clear hm a; intro a hm
    obtain ⟨N_25, hS'', le_25, ln_25⟩ := hS.call [] (by decide) rfl (l' := []) (ow := [M_28, M_32]) rfl hS'
    replace hS : Sep w0 w_23 [N_25, M_4, Mem.no, M_28, M_32] Z := hS''
    clear hS' hS''
    refine s_move hm rfl rfl ?_
    clear hm a; intro a hm
    refine s_extract hm rfl rfl rfl ?_
    clear hm a; intro a hm
    refine s_extract hm rfl rfl rfl ?_
    clear hm a; intro a hm
    refine v_alloc hm rfl ti27 hS ?_
    intro w_34 g_35 hS'
    clear hm a; intro a hm
    replace hS : Sep w0 w_34 [N_25, M_4, Mem.no, M_28, M_32, Mem.one g_35 (.cells ([.int .i64 0, .slice none 0 0, .int .i64 0] : List Value).toArray 27 (0, 0))] Z := hS'
    clear hS'
    refine s_assign hm rfl rfl ?_
    clear hm a; intro a hm
    obtain ⟨w_36, hs', hS'⟩ := hS.store (P := Try.prog) (p := 5) (o := 0) (t := 27) (v := .agg [.int .i64 t_22.2.Err, v_30, .int .i64 t_22.2.N].toArray) (vs := [.int .i64 t_22.2.Err, v_30, .int .i64 t_22.2.N]) rfl ti27 rfl rfl rfl (by intro u hu; simp only [List.mem_cons, List.not_mem_nil, or_false] at hu; rcases hu with rfl | rfl | rfl <;> first | rfl | exact hr_31.one)
    refine s_store hm rfl rfl hs' ?_
    replace hS : Sep w0 w_36 [N_25, M_4, Mem.no, M_28, M_32, Mem.one g_35 (.cells ([.int .i64 t_22.2.Err, v_30, .int .i64 t_22.2.N] : List Value).toArray 27 (0, 0))] Z := hS'
    clear hs' hS'
    refine wpList_nil ?_
    replace hm : Fr 132 a [(0, p0_0), (2, .bool false), (3, v_6), (4, .int .i64 x_8), (9, .pointer (some ⟨g_35, 0, none⟩))] := hm.keep [0, 2, 3, 4, 9]
    refine x_then_n ?_
    refine c_seq fun KJ_37 hKJ_37 => ?_
    have hJ_j_41 : ∀ (x_39 : Bool), hocketlaw5_FifoOrder.j_41 K x0 x_8 x_3 x_39 = some r → ∀ (a : Act) (w_40 : World), (∃ (N_38 : Mem), Fr 132 a [(0, p0_0), (2, .bool false), (3, v_6), (4, .int .i64 x_8), (78, .bool x_39)] ∧ Sep w0 w_40 [N_38, M_4, Mem.no, Mem.no, Mem.no, Mem.no] Z ∧ N_25.le N_38) → KJ_37 a w_40 := by
      clear H hm hS a
      rintro x_39 H a w_40 ⟨N_38, hm, hS, le_38⟩
      unfold hocketlaw5_FifoOrder.j_41 at H
      refine hKJ_37 _ _ ?_
      by_cases hc_42 : x_39 = true
      · rw [if_pos hc_42] at H
        cases H
      · rw [if_neg hc_42] at H
        refine c_cond_f hm rfl (Bool.eq_false_iff.2 hc_42) ?_
        refine wp_skip ?_
        refine x_then_n (hKJ_11 _ _ ?_)
        refine wp_seq ?_
        refine wp_region_lit ?_
        refine s_assign hm rfl rfl ?_
        clear hm a; intro a hm
        refine wpList_nil ?_
        replace hm : Fr 132 a [(0, p0_0), (2, .bool false), (3, v_6), (4, .int .i64 x_8), (10, .int .i64 0)] := hm.keep [0, 2, 3, 4, 10]
        refine x_then_n ?_
        refine c_seq fun KJ_43 hKJ_43 => ?_
        refine wp_seq ?_
        refine wp_region_lit ?_
        refine s_assign hm rfl rfl ?_
        clear hm a; intro a hm
        refine wpList_nil ?_
        replace hm : Fr 132 a [(0, p0_0), (2, .bool false), (3, v_6), (4, .int .i64 x_8), (10, .int .i64 0), (11, .int .i64 0)] := hm.keep [0, 2, 3, 4, 10, 11]
        refine x_then_n ?_
        have hJ_j_49 : ∀ (x_45 : List (List UInt8)), hocketlaw5_FifoOrder.j_49 K x_45 = some r → ∀ (a : Act) (w_48 : World), (∃ (v_46 : Value) (N_44 : Mem), Fr 132 a [(2, .bool false), (3, v_46)] ∧ Sep w0 w_48 [N_44, Mem.no, Mem.no, Mem.no, Mem.no, Mem.no] Z ∧ N_38.le N_44 ∧ Rd (Kd.slice Kd.u8) N_44 v_46 x_45) → KJ_43 a w_48 := by
          clear H hm hS a
          rintro x_45 H a w_48 ⟨v_46, N_44, hm, hS, le_44, hr_47⟩
          unfold hocketlaw5_FifoOrder.j_49 at H
          refine hKJ_43 _ _ ?_
          refine c_seq fun KJ_50 hKJ_50 => ?_
          refine wp_region_lit ?_
          refine s_move hm rfl rfl ?_
          clear hm a; intro a hm
          refine s_len hm rfl Try.underlying37 rfl hr_47 ?_
          clear hm a; intro a hm
          refine s_cmp (b := ((x_45.length : Int) == 0)) hm rfl rfl rfl (.inl ⟨rfl, rfl⟩) ?_
          clear hm a; intro a hm
          refine s_move hm rfl rfl ?_
          clear hm a; intro a hm
          by_cases hc_51 : (x_45.length : Int) = 0
          · rw [if_pos hc_51] at H
            refine s_on hm rfl rfl (beq_iff_eq.2 hc_51) ?_
            obtain ⟨t_52, et_52, H⟩ := Option.bind_eq_some_iff.1 H
            refine s_call hm rfl Try.call25 rfl (hocketlaw5_awake.calls K  t_52 w0 _ _ _ (Mem.le.refl _) (hS.enter [] (by decide))  et_52) ?_
            rintro _ w_53 ⟨N_54, rfl, hS'⟩
            clear hm a; intro a hm
            obtain ⟨N_55, hS'', le_55, ln_55⟩ := hS.call [] (by decide) rfl (l' := []) (ow := []) rfl hS'
            replace hS : Sep w0 w_53 [N_55, Mem.no, Mem.no, Mem.no, Mem.no, Mem.no] Z := hS''
            clear hS' hS''
            refine s_pick_t hm rfl rfl (beq_iff_eq.2 hc_51) rfl ?_
            clear hm a; intro a hm
            refine s_assign hm rfl rfl ?_
            clear hm a; intro a hm
            refine wpList_nil ?_
            replace hm : Fr 132 a [(2, .bool true)] := hm.keep [2]
            refine x_then_n (hKJ_50 _ _ ?_)
            refine wp_ret ?_
            exact f_ret hm (rs := [.tmp 2]) rfl (.tmp rfl .nil) ⟨_, rfl, N_55, rfl, (Sep.sel hS [0] (by decide))⟩
          · rw [if_neg hc_51] at H
            cases H
        clear hKJ_43
        obtain ⟨N_64, hS', le_64, lo_64⟩ := hS.freeze 0 rfl
        replace hS : Sep w0 w_40 [N_64, Mem.no, Mem.no, Mem.no, Mem.no, Mem.no] Z := hS'
        clear hS'
        replace hS : Sep w0 w_40 [N_64, Mem.no, Mem.no, Mem.no, Mem.no, Mem.no] Z := hS
        replace hm : Fr 132 a [(0, p0_0), (2, .bool false), (3, v_6), (4, .int .i64 x_8), (10, .int .i64 0), (11, .int .i64 0)] := hm.keep [0, 2, 3, 4, 10, 11]
        refine c_block ?_
        refine c_loop (fun k_62 a w_62 => ∃ (x_57 : List (List UInt8)) (x_60 : Int) (x_61 : Int) (v_58 : Value) (N_56 : Mem), hocketlaw5_FifoOrder.l_62 K x0 x_8 (fun v => hocketlaw5_FifoOrder.j_49 K v) k_62 (x_57, x_60, x_61) = some r ∧ Fr 132 a [(0, p0_0), (2, .bool false), (3, v_58), (4, .int .i64 x_8), (10, .int .i64 x_60), (11, .int .i64 x_61)] ∧ Sep w0 w_62 [N_56, Mem.no, Mem.no, Mem.no, Mem.no, Mem.no] Z ∧ N_38.le N_56 ∧ Rd (Kd.slice Kd.u8) N_56 v_58 x_57) K ⟨x_3, 0, 0, v_6, N_64, H, hm, (Sep.sel hS [0, 1000, 1001, 1002, 1003, 1004] (by decide)), le_64, (ho_7.rd lo_64 (le_21.trans (le_25.trans (le_38.trans le_64))))⟩ (fun a w h => by obtain ⟨_, _, _, _, _, H, _⟩ := h; cases (show (none : Option (Unit)) = some r from H)) ?_
        clear hm hS a H
        rintro k_62 a w_62 KL_62 hKL_62 ⟨x_57, x_60, x_61, v_58, N_56, H, hm, hS, le_56, hr_59⟩
        replace H : hocketlaw5_FifoOrder.b_62 K x0 x_8 (fun v => hocketlaw5_FifoOrder.j_49 K v) (hocketlaw5_FifoOrder.l_62 K x0 x_8 (fun v => hocketlaw5_FifoOrder.j_49 K v) k_62) x_57 x_60 x_61 = some r := H
        unfold hocketlaw5_FifoOrder.b_62 at H
        refine c_seq fun KJ_65 hKJ_65 => ?_
        refine c_seq fun KJ_66 hKJ_66 => ?_
        have hJ_j_70 : ∀ (x_68 : Bool), hocketlaw5_FifoOrder.j_70 K x0 x_61 (hocketlaw5_FifoOrder.l_62 K x0 x_8 (fun v => hocketlaw5_FifoOrder.j_49 K v) k_62) x_57 x_60 x_8 (fun v => hocketlaw5_FifoOrder.j_49 K v) x_68 = some r → ∀ (a : Act) (w_69 : World), (∃ (N_67 : Mem), Fr 132 a [(0, p0_0), (2, .bool false), (3, v_58), (4, .int .i64 x_8), (10, .int .i64 x_60), (11, .int .i64 x_61), (87, .bool x_68)] ∧ Sep w0 w_69 [N_67, Mem.no, Mem.no, Mem.no, Mem.no, Mem.no] Z ∧ N_56.le N_67) → KJ_66 a w_69 := by
          clear H hm hS a
          rintro x_68 H a w_69 ⟨N_67, hm, hS, le_67⟩
          unfold hocketlaw5_FifoOrder.j_70 at H
          refine hKJ_66 _ _ ?_
          by_cases hc_71 : x_68 = true
          · rw [if_pos hc_71] at H
            refine c_cond_t hm rfl hc_71 ?_
            refine wp_skip ?_
            refine x_then_n (hKJ_65 _ _ ?_)
            refine wp_seq ?_
            refine c_block ?_
            refine c_seq fun KJ_72 hKJ_72 => ?_
            refine wp_seq ?_
            refine wp_region_lit ?_
            refine s_move hm rfl rfl ?_
            clear hm a; intro a hm
            refine s_move hm rfl rfl ?_
            clear hm a; intro a hm
            obtain ⟨t_73, et_73, H⟩ := Option.bind_eq_some_iff.1 H
            refine v_index hm rfl Try.underlying37 ti25 rfl rfl rfl hp0_0 (hA.trans hS.old) et_73 ?_
            intro ad_74 cs_75 hk_76 hc_77
            obtain ⟨v_78, rfl, hr_79⟩ := hk_76
            clear hm a; intro a hm
            refine s_load hm rfl rfl (el_one (o := 0) hc_77 Try.underlying25 rfl rfl) ?_
            clear hm a; intro a hm
            refine s_len hm rfl Try.underlying25 rfl hr_79 ?_
            clear hm a; intro a hm
            refine s_cmp (b := decide ((t_73.length : Int) > 16)) hm rfl rfl rfl (.inr (.inr (.inr (.inr (.inl ⟨rfl, rfl⟩))))) ?_
            clear hm a; intro a hm
            refine wpList_nil ?_
            replace hm : Fr 132 a [(0, p0_0), (2, .bool false), (3, v_58), (4, .int .i64 x_8), (10, .int .i64 x_60), (11, .int .i64 x_61), (95, .bool (decide ((t_73.length : Int) > 16)))] := hm.keep [0, 2, 3, 4, 10, 11, 95]
            refine x_then_n ?_
            by_cases hc_80 : (t_73.length : Int) > 16
            · rw [if_pos hc_80] at H
              refine c_cond_t hm rfl (decide_eq_true hc_80) ?_
              refine wp_exit (x_then_x (x_block_t ?_))
              refine x_then_n ?_
              refine wp_region_lit ?_
              refine s_move hm rfl rfl ?_
              clear hm a; intro a hm
              refine s_arith (r := w64 (x_61 + 1)) hm rfl rfl rfl (.inl ⟨rfl, rfl⟩) ?_
              clear hm a; intro a hm
              refine s_assign hm rfl rfl ?_
              clear hm a; intro a hm
              refine wpList_nil ?_
              replace hm : Fr 132 a [(0, p0_0), (2, .bool false), (3, v_58), (4, .int .i64 x_8), (10, .int .i64 x_60), (11, .int .i64 (w64 (x_61 + 1)))] := hm.keep [0, 2, 3, 4, 10, 11]
              refine x_then_n (hKL_62 _ _ ?_)
              replace hS : Sep w0 w_69 [N_67, Mem.no, Mem.no, Mem.no, Mem.no, Mem.no] Z := hS
              replace hm : Fr 132 a [(0, p0_0), (2, .bool false), (3, v_58), (4, .int .i64 x_8), (10, .int .i64 x_60), (11, .int .i64 (w64 (x_61 + 1)))] := hm.keep [0, 2, 3, 4, 10, 11]
              exact ⟨x_57, x_60, w64 (x_61 + 1), v_58, N_67, H, hm, (Sep.sel hS [0, 1000, 1001, 1002, 1003, 1004] (by decide)), (le_56.trans le_67), (hr_59.mono le_67)⟩
            · rw [if_neg hc_80] at H
              refine c_cond_f hm rfl (decide_eq_false hc_80) ?_
              refine wp_skip ?_
              refine x_then_n (hKJ_72 _ _ ?_)
              refine wp_seq ?_
              refine wp_region_lit ?_
              refine s_move hm rfl rfl ?_
              clear hm a; intro a hm
              obtain ⟨t_81, et_81, H⟩ := Option.bind_eq_some_iff.1 H
              refine s_call hm rfl Try.call24 rfl (fifo_Pop.calls K x_57 _ t_81 w0 _ _ _ (Mem.le.refl _) (hS.enter [] (by decide)) (hr_59.mono (le_67.trans (hS.new_zed []))) et_81) ?_
              rintro _ w_82 ⟨v_85, v_87, N_83, rfl, hS', hr_86, hr_88⟩
              clear hm a; intro a hm
              obtain ⟨N_84, hS'', le_84, ln_84⟩ := hS.call [] (by decide) rfl (l' := []) (ow := []) rfl hS'
              replace hS : Sep w0 w_82 [N_84, Mem.no, Mem.no, Mem.no, Mem.no, Mem.no] Z := hS''
              clear hS' hS''
              refine s_move hm rfl rfl ?_
              clear hm a; intro a hm
              refine s_extract hm rfl rfl rfl ?_
              clear hm a; intro a hm
              refine s_extract hm rfl rfl rfl ?_
              clear hm a; intro a hm
              refine v_alloc hm rfl ti27 hS ?_
              intro w_89 g_90 hS'
              clear hm a; intro a hm
              replace hS : Sep w0 w_89 [N_84, Mem.no, Mem.no, Mem.no, Mem.no, Mem.no, Mem.one g_90 (.cells ([.int .i64 0, .slice none 0 0, .int .i64 0] : List Value).toArray 27 (0, 0))] Z := hS'
              clear hS'
              refine s_assign hm rfl rfl ?_
              clear hm a; intro a hm
              obtain ⟨w_91, hs', hS'⟩ := hS.store (P := Try.prog) (p := 6) (o := 0) (t := 27) (v := .agg [.int .i64 t_81.2.Err, v_87, .int .i64 t_81.2.N].toArray) (vs := [.int .i64 t_81.2.Err, v_87, .int .i64 t_81.2.N]) rfl ti27 rfl rfl rfl (by intro u hu; simp only [List.mem_cons, List.not_mem_nil, or_false] at hu; rcases hu with rfl | rfl | rfl <;> first | rfl | exact (hr_88.mono ln_84).one)
              refine s_store hm rfl rfl hs' ?_
              replace hS : Sep w0 w_91 [N_84, Mem.no, Mem.no, Mem.no, Mem.no, Mem.no, Mem.one g_90 (.cells ([.int .i64 t_81.2.Err, v_87, .int .i64 t_81.2.N] : List Value).toArray 27 (0, 0))] Z := hS'
              clear hs' hS'
              refine wpList_nil ?_
              replace hm : Fr 132 a [(0, p0_0), (2, .bool false), (3, v_58), (4, .int .i64 x_8), (10, .int .i64 x_60), (11, .int .i64 x_61), (12, v_85), (13, .pointer (some ⟨g_90, 0, none⟩))] := hm.keep [0, 2, 3, 4, 10, 11, 12, 13]
              refine x_then_n ?_
              refine c_seq fun KJ_92 hKJ_92 => ?_
              refine c_seq fun KJ_93 hKJ_93 => ?_
              have hJ_j_97 : ∀ (x_95 : Bool), hocketlaw5_FifoOrder.j_97 K (hocketlaw5_FifoOrder.l_62 K x0 x_8 (fun v => hocketlaw5_FifoOrder.j_49 K v) k_62) t_81 x_60 x_61 x_95 = some r → ∀ (a : Act) (w_96 : World), (∃ (N_94 : Mem), Fr 132 a [(0, p0_0), (2, .bool false), (3, v_58), (4, .int .i64 x_8), (10, .int .i64 x_60), (11, .int .i64 x_61), (12, v_85), (122, .bool x_95)] ∧ Sep w0 w_96 [N_94, Mem.no, Mem.no, Mem.no, Mem.no, Mem.no, Mem.no] Z ∧ N_84.le N_94) → KJ_93 a w_96 := by
                clear H hm hS a
                rintro x_95 H a w_96 ⟨N_94, hm, hS, le_94⟩
                unfold hocketlaw5_FifoOrder.j_97 at H
                refine hKJ_93 _ _ ?_
                by_cases hc_98 : x_95 = true
                · rw [if_pos hc_98] at H
                  cases H
                · rw [if_neg hc_98] at H
                  refine c_cond_f hm rfl (Bool.eq_false_iff.2 hc_98) ?_
                  refine wp_skip ?_
                  refine x_then_n (hKJ_92 _ _ ?_)
                  refine wp_region_lit ?_
                  refine s_move hm rfl rfl ?_
                  clear hm a; intro a hm
                  refine s_move hm rfl rfl ?_
                  clear hm a; intro a hm
                  refine s_arith (r := w64 (x_60 + 1)) hm rfl rfl rfl (.inl ⟨rfl, rfl⟩) ?_
                  clear hm a; intro a hm
                  refine s_assign hm rfl rfl ?_
                  clear hm a; intro a hm
                  refine s_assign hm rfl rfl ?_
                  clear hm a; intro a hm
                  refine wpList_nil ?_
                  replace hm : Fr 132 a [(0, p0_0), (2, .bool false), (3, v_85), (4, .int .i64 x_8), (10, .int .i64 (w64 (x_60 + 1))), (11, .int .i64 x_61)] := hm.keep [0, 2, 3, 4, 10, 11]
                  refine x_block_n ?_
                  refine x_then_n ?_
                  refine wp_region_lit ?_
                  refine s_move hm rfl rfl ?_
                  clear hm a; intro a hm
                  refine s_arith (r := w64 (x_61 + 1)) hm rfl rfl rfl (.inl ⟨rfl, rfl⟩) ?_
                  clear hm a; intro a hm
                  refine s_assign hm rfl rfl ?_
                  clear hm a; intro a hm
                  refine wpList_nil ?_
                  replace hm : Fr 132 a [(0, p0_0), (2, .bool false), (3, v_85), (4, .int .i64 x_8), (10, .int .i64 (w64 (x_60 + 1))), (11, .int .i64 (w64 (x_61 + 1)))] := hm.keep [0, 2, 3, 4, 10, 11]
                  refine x_then_n (hKL_62 _ _ ?_)
                  replace hS : Sep w0 w_96 [N_94, Mem.no, Mem.no, Mem.no, Mem.no, Mem.no, Mem.no] Z := hS
                  replace hm : Fr 132 a [(0, p0_0), (2, .bool false), (3, v_85), (4, .int .i64 x_8), (10, .int .i64 (w64 (x_60 + 1))), (11, .int .i64 (w64 (x_61 + 1)))] := hm.keep [0, 2, 3, 4, 10, 11]
                  exact ⟨t_81.1, w64 (x_60 + 1), w64 (x_61 + 1), v_85, N_94, H, hm, (Sep.sel hS [0, 1000, 1001, 1002, 1003, 1004] (by decide)), (le_56.trans (le_67.trans (le_84.trans le_94))), ((hr_86.mono ln_84).mono le_94)⟩
              clear hKJ_93
              refine h_begin (S := fun w => Sep w0 w [N_84, Mem.no, Mem.no, Mem.no, Mem.no, Mem.no, Mem.one g_90 (.cells ([.int .i64 t_81.2.Err, v_87, .int .i64 t_81.2.N] : List Value).toArray 27 (0, 0))] Z) 22 (by kernel_rfl) rfl [false, false, false, false, false, false, false, false, false, false, false, false, false, false, false, false, false, false, false, false, false, false].toArray rfl hS fun w_99 hS => ?_
              replace hS : Sep w0 w_99 [N_84, Mem.no, Mem.no, Mem.no, Mem.no, Mem.no, Mem.one g_90 (.cells ([.int .i64 t_81.2.Err, v_87, .int .i64 t_81.2.N] : List Value).toArray 27 (0, 0))] Z := hS
              refine h_take 0 [true, false, false, false, false, false, false, false, false, false, false, false, false, false, false, false, false, false, false, false, false, false].toArray rfl (by kernel_rfl) (by kernel_rfl) (by kernel_rfl) (fun _ _ _ _ h => h) rfl rfl rfl rfl hm (hS.sub (.cons (Mem.le.refl _) (.cons (Mem.no_le _) (.cons (Mem.no_le _) (.cons (Mem.no_le _) (.cons (Mem.no_le _) (.cons (Mem.no_le _) (.cons (Mem.le.refl _) (Sub.nil _))))))))) (v := .pointer (some ⟨g_90, 0, none⟩)) (fun w hS => r_fieldAddr hm Try.underlying27 rfl ti22 rfl rfl rfl) ?_
              clear hm a; intro a hm
              refine h_take 1 [true, true, false, false, false, false, false, false, false, false, false, false, false, false, false, false, false, false, false, false, false, false].toArray rfl (by kernel_rfl) (by kernel_rfl) (by kernel_rfl) (fun _ _ _ _ h => h) rfl rfl rfl rfl hm (hS.sub (.cons (Mem.le.refl _) (.cons (Mem.no_le _) (.cons (Mem.no_le _) (.cons (Mem.no_le _) (.cons (Mem.no_le _) (.cons (Mem.no_le _) (.cons (Mem.le.refl _) (Sub.nil _))))))))) (v := .int .i64 t_81.2.Err) (fun w hS => r_load hm rfl (hS.load_one (p := 6) rfl Try.underlying22 rfl rfl)) ?_
              clear hm a; intro a hm
              refine h_take 2 [true, true, true, false, false, false, false, false, false, false, false, false, false, false, false, false, false, false, false, false, false, false].toArray rfl (by kernel_rfl) (by kernel_rfl) (by kernel_rfl) (fun _ _ _ _ h => h) rfl rfl rfl rfl hm (hS.sub (.cons (Mem.le.refl _) (.cons (Mem.no_le _) (.cons (Mem.no_le _) (.cons (Mem.no_le _) (.cons (Mem.no_le _) (.cons (Mem.no_le _) (.cons (Mem.le.refl _) (Sub.nil _))))))))) (v := .bool (t_81.2.Err != 0)) (fun w hS => r_cmp (b := (t_81.2.Err != 0)) hm rfl rfl (.inr (.inl ⟨rfl, rfl⟩))) ?_
              clear hm a; intro a hm
              refine h_take 3 [true, true, true, true, false, false, false, false, false, false, false, false, false, false, false, false, false, false, false, false, false, false].toArray rfl (by kernel_rfl) (by kernel_rfl) (by kernel_rfl) (fun _ _ _ _ h => h) rfl rfl rfl rfl hm (hS.sub (.cons (Mem.le.refl _) (.cons (Mem.no_le _) (.cons (Mem.no_le _) (.cons (Mem.no_le _) (.cons (Mem.no_le _) (.cons (Mem.no_le _) (.cons (Mem.le.refl _) (Sub.nil _))))))))) (v := .bool (t_81.2.Err != 0)) (fun w hS => r_move hm rfl) ?_
              clear hm a; intro a hm
              by_cases hc_100 : t_81.2.Err = 0
              · rw [if_pos hc_100] at H
                refine h_take_on 4 [true, true, true, true, true, false, false, false, false, false, false, false, false, false, false, false, false, false, false, false, false, false].toArray rfl (by kernel_rfl) (by kernel_rfl) (by kernel_rfl) (fun _ _ _ _ h => h) rfl rfl rfl rfl (bne_eq_false_iff_eq.2 hc_100) rfl rfl hm (hS.sub (.cons (Mem.le.refl _) (.cons (Mem.no_le _) (.cons (Mem.no_le _) (.cons (Mem.no_le _) (.cons (Mem.no_le _) (.cons (Mem.no_le _) (.cons (Mem.le.refl _) (Sub.nil _))))))))) (v := .pointer (some ⟨g_90, 1, none⟩)) (fun w hS => r_fieldAddr hm Try.underlying27 rfl ti25 rfl rfl rfl) ?_
                clear hm a; intro a hm
                refine h_take_on 5 [true, true, true, true, true, true, false, false, false, false, false, false, false, false, false, false, false, false, false, false, false, false].toArray rfl (by kernel_rfl) (by kernel_rfl) (by kernel_rfl) (fun _ _ _ _ h => h) rfl rfl rfl rfl (bne_eq_false_iff_eq.2 hc_100) rfl rfl hm (hS.sub (.cons (Mem.le.refl _) (.cons (Mem.no_le _) (.cons (Mem.no_le _) (.cons (Mem.no_le _) (.cons (Mem.no_le _) (.cons (Mem.no_le _) (.cons (Mem.le.refl _) (Sub.nil _))))))))) (v := v_87) (fun w hS => r_load hm rfl (hS.load_one (p := 6) rfl Try.underlying25 rfl rfl)) ?_
                clear hm a; intro a hm
                refine h_take_on 6 [true, true, true, true, true, true, true, false, false, false, false, false, false, false, false, false, false, false, false, false, false, false].toArray rfl (by kernel_rfl) (by kernel_rfl) (by kernel_rfl) (fun _ _ _ _ h => h) rfl rfl rfl rfl (bne_eq_false_iff_eq.2 hc_100) rfl rfl hm (hS.sub (.cons (Mem.le.refl _) (.cons (Mem.no_le _) (.cons (Mem.no_le _) (.cons (Mem.no_le _) (.cons (Mem.no_le _) (.cons (Mem.no_le _) (.cons (Mem.le.refl _) (Sub.nil _))))))))) (v := .string ⟨t_81.2.Val.toArray⟩) (fun w hS => r_b2s hm Try.underlying25 Try.underlying5 Try.underlying9 rfl (hr_88.mono ln_84) ((Mem.le.refl _).trans (hS.own 0))) ?_
                clear hm a; intro a hm
                refine h_take_on 7 [true, true, true, true, true, true, true, true, false, false, false, false, false, false, false, false, false, false, false, false, false, false].toArray rfl (by kernel_rfl) (by kernel_rfl) (by kernel_rfl) (fun _ _ _ _ h => h) rfl rfl rfl rfl (bne_eq_false_iff_eq.2 hc_100) rfl rfl hm (hS.sub (.cons (Mem.le.refl _) (.cons (Mem.no_le _) (.cons (Mem.no_le _) (.cons (Mem.no_le _) (.cons (Mem.no_le _) (.cons (Mem.no_le _) (.cons (Mem.le.refl _) (Sub.nil _))))))))) (v := p0_0) (fun w hS => r_move hm rfl) ?_
                clear hm a; intro a hm
                refine h_take_on 8 [true, true, true, true, true, true, true, true, true, false, false, false, false, false, false, false, false, false, false, false, false, false].toArray rfl (by kernel_rfl) (by kernel_rfl) (by kernel_rfl) (fun _ _ _ _ h => h) rfl rfl rfl rfl (bne_eq_false_iff_eq.2 hc_100) rfl rfl hm (hS.sub (.cons (Mem.le.refl _) (.cons (Mem.no_le _) (.cons (Mem.no_le _) (.cons (Mem.no_le _) (.cons (Mem.no_le _) (.cons (Mem.no_le _) (.cons (Mem.le.refl _) (Sub.nil _))))))))) (v := .int .i64 x_61) (fun w hS => r_move hm rfl) ?_
                clear hm a; intro a hm
                obtain ⟨t_101, et_101, H⟩ := Option.bind_eq_some_iff.1 H
                refine h_takeE_on 9 [true, true, true, true, true, true, true, true, true, true, false, false, false, false, false, false, false, false, false, false, false, false].toArray rfl (by kernel_rfl) (by kernel_rfl) (by kernel_rfl) (fun _ _ _ _ h => h) rfl rfl rfl rfl (bne_eq_false_iff_eq.2 hc_100) rfl rfl hm (hS.sub (.cons (Mem.le.refl _) (.cons (Mem.no_le _) (.cons (Mem.no_le _) (.cons (Mem.no_le _) (.cons (Mem.no_le _) (.cons (Mem.no_le _) (.cons (Mem.le.refl _) (Sub.nil _))))))))) (f := fun ad => .pointer (some ad)) (r_index hm Try.underlying37 ti25 rfl rfl rfl hp0_0 et_101) ?_
                rintro ad_102 ⟨cs_103, hk_104, hc_105⟩
                obtain ⟨v_106, rfl, hr_107⟩ := hk_104
                clear hm a; intro a hm
                refine h_take_on 10 [true, true, true, true, true, true, true, true, true, true, true, false, false, false, false, false, false, false, false, false, false, false].toArray rfl (by kernel_rfl) (by kernel_rfl) (by kernel_rfl) (fun _ _ _ _ h => h) rfl rfl rfl rfl (bne_eq_false_iff_eq.2 hc_100) rfl rfl hm (hS.sub (.cons (Mem.le.refl _) (.cons (Mem.no_le _) (.cons (Mem.no_le _) (.cons (Mem.no_le _) (.cons (Mem.no_le _) (.cons (Mem.no_le _) (.cons (Mem.le.refl _) (Sub.nil _))))))))) (v := v_106) (fun w hS => r_load hm rfl (el_one (o := 0) (fun j c h => Mem.cell_le (hA.trans hS.old) (hc_105 j c h)) Try.underlying25 rfl rfl)) ?_
                clear hm a; intro a hm
                refine h_take_on 11 [true, true, true, true, true, true, true, true, true, true, true, true, false, false, false, false, false, false, false, false, false, false].toArray rfl (by kernel_rfl) (by kernel_rfl) (by kernel_rfl) (fun _ _ _ _ h => h) rfl rfl rfl rfl (bne_eq_false_iff_eq.2 hc_100) rfl rfl hm (hS.sub (.cons (Mem.le.refl _) (.cons (Mem.no_le _) (.cons (Mem.no_le _) (.cons (Mem.no_le _) (.cons (Mem.no_le _) (.cons (Mem.no_le _) (.cons (Mem.le.refl _) (Sub.nil _))))))))) (v := .string ⟨t_101.toArray⟩) (fun w hS => r_b2s hm Try.underlying25 Try.underlying5 Try.underlying9 rfl hr_107 (hA.trans hS.old)) ?_
                clear hm a; intro a hm
                refine h_take_on 12 [true, true, true, true, true, true, true, true, true, true, true, true, true, false, false, false, false, false, false, false, false, false].toArray rfl (by kernel_rfl) (by kernel_rfl) (by kernel_rfl) (fun _ _ _ _ h => h) rfl rfl rfl rfl (bne_eq_false_iff_eq.2 hc_100) rfl rfl hm (hS.sub (.cons (Mem.le.refl _) (.cons (Mem.no_le _) (.cons (Mem.no_le _) (.cons (Mem.no_le _) (.cons (Mem.no_le _) (.cons (Mem.no_le _) (.cons (Mem.le.refl _) (Sub.nil _))))))))) (v := .bool (!(t_81.2.Val == t_101))) (fun w hS => r_strEq (b := !(t_81.2.Val == t_101)) hm rfl rfl (.inr ⟨rfl, rfl⟩)) ?_
                clear hm a; intro a hm
                refine h_take 13 [true, true, true, true, true, true, true, true, true, true, true, true, true, true, false, false, false, false, false, false, false, false].toArray rfl (by kernel_rfl) (by kernel_rfl) (by kernel_rfl) (fun _ _ _ _ h => h) rfl rfl rfl rfl hm (hS.sub (.cons (Mem.le.refl _) (.cons (Mem.no_le _) (.cons (Mem.no_le _) (.cons (Mem.no_le _) (.cons (Mem.no_le _) (.cons (Mem.no_le _) (.cons (Mem.le.refl _) (Sub.nil _))))))))) (v := .bool (!(t_81.2.Val == t_101))) (fun w hS => r_pick_f hm rfl (bne_eq_false_iff_eq.2 hc_100) rfl) ?_
                clear hm a; intro a hm
                refine h_take 14 [true, true, true, true, true, true, true, true, true, true, true, true, true, true, true, false, false, false, false, false, false, false].toArray rfl (by kernel_rfl) (by kernel_rfl) (by kernel_rfl) (fun _ _ _ _ h => h) rfl rfl rfl rfl hm (hS.sub (.cons (Mem.le.refl _) (.cons (Mem.no_le _) (.cons (Mem.no_le _) (.cons (Mem.no_le _) (.cons (Mem.no_le _) (.cons (Mem.no_le _) (.cons (Mem.le.refl _) (Sub.nil _))))))))) (v := .bool (!(t_81.2.Val == t_101))) (fun w hS => r_move hm rfl) ?_
                clear hm a; intro a hm
                by_cases hc_108 : t_81.2.Val = t_101
                · rw [if_pos hc_108] at H
                  refine h_take_on 15 [true, true, true, true, true, true, true, true, true, true, true, true, true, true, true, true, false, false, false, false, false, false].toArray rfl (by kernel_rfl) (by kernel_rfl) (by kernel_rfl) (fun _ _ _ _ h => h) rfl rfl rfl rfl (nf (beq_iff_eq.2 hc_108)) rfl rfl hm (hS.sub (.cons (Mem.le.refl _) (.cons (Mem.no_le _) (.cons (Mem.no_le _) (.cons (Mem.no_le _) (.cons (Mem.no_le _) (.cons (Mem.no_le _) (.cons (Mem.le.refl _) (Sub.nil _))))))))) (v := v_58) (fun w hS => r_move hm rfl) ?_
                  clear hm a; intro a hm
                  refine h_take_on 16 [true, true, true, true, true, true, true, true, true, true, true, true, true, true, true, true, true, false, false, false, false, false].toArray rfl (by kernel_rfl) (by kernel_rfl) (by kernel_rfl) (fun _ _ _ _ h => h) rfl rfl rfl rfl (nf (beq_iff_eq.2 hc_108)) rfl rfl hm (hS.sub (.cons (Mem.le.refl _) (.cons (Mem.no_le _) (.cons (Mem.no_le _) (.cons (Mem.no_le _) (.cons (Mem.no_le _) (.cons (Mem.no_le _) (.cons (Mem.le.refl _) (Sub.nil _))))))))) (v := .int .i64 (x_57.length : Int)) (fun w hS => r_len hm Try.underlying37 rfl hr_59) ?_
                  clear hm a; intro a hm
                  refine h_take_on 17 [true, true, true, true, true, true, true, true, true, true, true, true, true, true, true, true, true, true, false, false, false, false].toArray rfl (by kernel_rfl) (by kernel_rfl) (by kernel_rfl) (fun _ _ _ _ h => h) rfl rfl rfl rfl (nf (beq_iff_eq.2 hc_108)) rfl rfl hm (hS.sub (.cons (Mem.le.refl _) (.cons (Mem.no_le _) (.cons (Mem.no_le _) (.cons (Mem.no_le _) (.cons (Mem.no_le _) (.cons (Mem.no_le _) (.cons (Mem.le.refl _) (Sub.nil _))))))))) (v := .int .i64 x_8) (fun w hS => r_move hm rfl) ?_
                  clear hm a; intro a hm
                  refine h_take_on 18 [true, true, true, true, true, true, true, true, true, true, true, true, true, true, true, true, true, true, true, false, false, false].toArray rfl (by kernel_rfl) (by kernel_rfl) (by kernel_rfl) (fun _ _ _ _ h => h) rfl rfl rfl rfl (nf (beq_iff_eq.2 hc_108)) rfl rfl hm (hS.sub (.cons (Mem.le.refl _) (.cons (Mem.no_le _) (.cons (Mem.no_le _) (.cons (Mem.no_le _) (.cons (Mem.no_le _) (.cons (Mem.no_le _) (.cons (Mem.le.refl _) (Sub.nil _))))))))) (v := .int .i64 x_60) (fun w hS => r_move hm rfl) ?_
                  clear hm a; intro a hm
                  refine h_take_on 19 [true, true, true, true, true, true, true, true, true, true, true, true, true, true, true, true, true, true, true, true, false, false].toArray rfl (by kernel_rfl) (by kernel_rfl) (by kernel_rfl) (fun _ _ _ _ h => h) rfl rfl rfl rfl (nf (beq_iff_eq.2 hc_108)) rfl rfl hm (hS.sub (.cons (Mem.le.refl _) (.cons (Mem.no_le _) (.cons (Mem.no_le _) (.cons (Mem.no_le _) (.cons (Mem.no_le _) (.cons (Mem.no_le _) (.cons (Mem.le.refl _) (Sub.nil _))))))))) (v := .int .i64 (w64 (x_8 - x_60))) (fun w hS => r_arith (r := w64 (x_8 - x_60)) hm rfl rfl (.inr (.inl ⟨rfl, rfl⟩))) ?_
                  clear hm a; intro a hm
                  refine h_take_on 20 [true, true, true, true, true, true, true, true, true, true, true, true, true, true, true, true, true, true, true, true, true, false].toArray rfl (by kernel_rfl) (by kernel_rfl) (by kernel_rfl) (fun _ _ _ _ h => h) rfl rfl rfl rfl (nf (beq_iff_eq.2 hc_108)) rfl rfl hm (hS.sub (.cons (Mem.le.refl _) (.cons (Mem.no_le _) (.cons (Mem.no_le _) (.cons (Mem.no_le _) (.cons (Mem.no_le _) (.cons (Mem.no_le _) (.cons (Mem.le.refl _) (Sub.nil _))))))))) (v := .bool ((x_57.length : Int) != (w64 (x_8 - x_60)))) (fun w hS => r_cmp (b := ((x_57.length : Int) != (w64 (x_8 - x_60)))) hm rfl rfl (.inr (.inl ⟨rfl, rfl⟩))) ?_
                  clear hm a; intro a hm
                  refine h_take 21 [true, true, true, true, true, true, true, true, true, true, true, true, true, true, true, true, true, true, true, true, true, true].toArray rfl (by kernel_rfl) (by kernel_rfl) (by kernel_rfl) (fun _ _ _ _ h => h) rfl rfl rfl rfl hm (hS.sub (.cons (Mem.le.refl _) (.cons (Mem.no_le _) (.cons (Mem.no_le _) (.cons (Mem.no_le _) (.cons (Mem.no_le _) (.cons (Mem.no_le _) (.cons (Mem.le.refl _) (Sub.nil _))))))))) (v := .bool ((x_57.length : Int) != (w64 (x_8 - x_60)))) (fun w hS => r_pick_f hm rfl (nf (beq_iff_eq.2 hc_108)) rfl) ?_
                  clear hm a; intro a hm
                  refine h_done (by kernel_rfl) ?_
                  replace hm : Fr 132 a [(0, p0_0), (2, .bool false), (3, v_58), (4, .int .i64 x_8), (10, .int .i64 x_60), (11, .int .i64 x_61), (12, v_85), (122, .bool ((x_57.length : Int) != (w64 (x_8 - x_60))))] := hm.keep [0, 2, 3, 4, 10, 11, 12, 122]
                  replace hS : Sep w0 w_99 [N_84, Mem.no, Mem.no, Mem.no, Mem.no, Mem.no, Mem.one g_90 (.cells ([.int .i64 t_81.2.Err, v_87, .int .i64 t_81.2.N] : List Value).toArray 27 (0, 0))] Z := hS
                  replace hm : Fr 132 a [(0, p0_0), (2, .bool false), (3, v_58), (4, .int .i64 x_8), (10, .int .i64 x_60), (11, .int .i64 x_61), (12, v_85), (122, .bool ((x_57.length : Int) != (w64 (x_8 - x_60))))] := hm.keep [0, 2, 3, 4, 10, 11, 12, 122]
                  exact x_then_n (hJ_j_97 ((x_57.length : Int) != (w64 (x_8 - x_60))) H _ _ ⟨N_84, hm, (Sep.sel hS [0, 1000, 1001, 1002, 1003, 1004, 1005] (by decide)), (Mem.le.refl _)⟩)
                · rw [if_neg hc_108] at H
                  refine h_take_off 15 [true, true, true, true, true, true, true, true, true, true, true, true, true, true, true, true, false, false, false, false, false, false].toArray rfl (by kernel_rfl) (by kernel_rfl) (by kernel_rfl) (fun _ _ _ _ h => h) rfl rfl rfl rfl (.inl (congrArg Value.bool (nt (beq_eq_false_iff_ne.2 hc_108)))) rfl rfl hm (hS.sub (.cons (Mem.le.refl _) (.cons (Mem.no_le _) (.cons (Mem.no_le _) (.cons (Mem.no_le _) (.cons (Mem.no_le _) (.cons (Mem.no_le _) (.cons (Mem.le.refl _) (Sub.nil _))))))))) ?_
                  clear hm a; intro a hm
                  refine h_take_off 16 [true, true, true, true, true, true, true, true, true, true, true, true, true, true, true, true, true, false, false, false, false, false].toArray rfl (by kernel_rfl) (by kernel_rfl) (by kernel_rfl) (fun _ _ _ _ h => h) rfl rfl rfl rfl (.inl (congrArg Value.bool (nt (beq_eq_false_iff_ne.2 hc_108)))) rfl rfl hm (hS.sub (.cons (Mem.le.refl _) (.cons (Mem.no_le _) (.cons (Mem.no_le _) (.cons (Mem.no_le _) (.cons (Mem.no_le _) (.cons (Mem.no_le _) (.cons (Mem.le.refl _) (Sub.nil _))))))))) ?_
                  clear hm a; intro a hm
                  refine h_take_off 17 [true, true, true, true, true, true, true, true, true, true, true, true, true, true, true, true, true, true, false, false, false, false].toArray rfl (by kernel_rfl) (by kernel_rfl) (by kernel_rfl) (fun _ _ _ _ h => h) rfl rfl rfl rfl (.inl (congrArg Value.bool (nt (beq_eq_false_iff_ne.2 hc_108)))) rfl rfl hm (hS.sub (.cons (Mem.le.refl _) (.cons (Mem.no_le _) (.cons (Mem.no_le _) (.cons (Mem.no_le _) (.cons (Mem.no_le _) (.cons (Mem.no_le _) (.cons (Mem.le.refl _) (Sub.nil _))))))))) ?_
                  clear hm a; intro a hm
                  refine h_take_off 18 [true, true, true, true, true, true, true, true, true, true, true, true, true, true, true, true, true, true, true, false, false, false].toArray rfl (by kernel_rfl) (by kernel_rfl) (by kernel_rfl) (fun _ _ _ _ h => h) rfl rfl rfl rfl (.inl (congrArg Value.bool (nt (beq_eq_false_iff_ne.2 hc_108)))) rfl rfl hm (hS.sub (.cons (Mem.le.refl _) (.cons (Mem.no_le _) (.cons (Mem.no_le _) (.cons (Mem.no_le _) (.cons (Mem.no_le _) (.cons (Mem.no_le _) (.cons (Mem.le.refl _) (Sub.nil _))))))))) ?_
                  clear hm a; intro a hm
                  refine h_take_off 19 [true, true, true, true, true, true, true, true, true, true, true, true, true, true, true, true, true, true, true, true, false, false].toArray rfl (by kernel_rfl) (by kernel_rfl) (by kernel_rfl) (fun _ _ _ _ h => h) rfl rfl rfl rfl (.inl (congrArg Value.bool (nt (beq_eq_false_iff_ne.2 hc_108)))) rfl rfl hm (hS.sub (.cons (Mem.le.refl _) (.cons (Mem.no_le _) (.cons (Mem.no_le _) (.cons (Mem.no_le _) (.cons (Mem.no_le _) (.cons (Mem.no_le _) (.cons (Mem.le.refl _) (Sub.nil _))))))))) ?_
                  clear hm a; intro a hm
                  refine h_take_off 20 [true, true, true, true, true, true, true, true, true, true, true, true, true, true, true, true, true, true, true, true, true, false].toArray rfl (by kernel_rfl) (by kernel_rfl) (by kernel_rfl) (fun _ _ _ _ h => h) rfl rfl rfl rfl (.inl (congrArg Value.bool (nt (beq_eq_false_iff_ne.2 hc_108)))) rfl rfl hm (hS.sub (.cons (Mem.le.refl _) (.cons (Mem.no_le _) (.cons (Mem.no_le _) (.cons (Mem.no_le _) (.cons (Mem.no_le _) (.cons (Mem.no_le _) (.cons (Mem.le.refl _) (Sub.nil _))))))))) ?_
                  clear hm a; intro a hm
                  refine h_take 21 [true, true, true, true, true, true, true, true, true, true, true, true, true, true, true, true, true, true, true, true, true, true].toArray rfl (by kernel_rfl) (by kernel_rfl) (by kernel_rfl) (fun _ _ _ _ h => h) rfl rfl rfl rfl hm (hS.sub (.cons (Mem.le.refl _) (.cons (Mem.no_le _) (.cons (Mem.no_le _) (.cons (Mem.no_le _) (.cons (Mem.no_le _) (.cons (Mem.no_le _) (.cons (Mem.le.refl _) (Sub.nil _))))))))) (v := .bool true) (fun w hS => r_pick_t hm rfl (nt (beq_eq_false_iff_ne.2 hc_108)) rfl) ?_
                  clear hm a; intro a hm
                  refine h_done (by kernel_rfl) ?_
                  replace hm : Fr 132 a [(0, p0_0), (2, .bool false), (3, v_58), (4, .int .i64 x_8), (10, .int .i64 x_60), (11, .int .i64 x_61), (12, v_85), (122, .bool true)] := hm.keep [0, 2, 3, 4, 10, 11, 12, 122]
                  replace hS : Sep w0 w_99 [N_84, Mem.no, Mem.no, Mem.no, Mem.no, Mem.no, Mem.one g_90 (.cells ([.int .i64 t_81.2.Err, v_87, .int .i64 t_81.2.N] : List Value).toArray 27 (0, 0))] Z := hS
                  replace hm : Fr 132 a [(0, p0_0), (2, .bool false), (3, v_58), (4, .int .i64 x_8), (10, .int .i64 x_60), (11, .int .i64 x_61), (12, v_85), (122, .bool true)] := hm.keep [0, 2, 3, 4, 10, 11, 12, 122]
                  exact x_then_n (hJ_j_97 true H _ _ ⟨N_84, hm, (Sep.sel hS [0, 1000, 1001, 1002, 1003, 1004, 1005] (by decide)), (Mem.le.refl _)⟩)
              · rw [if_neg hc_100] at H
                refine h_take_off 4 [true, true, true, true, true, false, false, false, false, false, false, false, false, false, false, false, false, false, false, false, false, false].toArray rfl (by kernel_rfl) (by kernel_rfl) (by kernel_rfl) (fun _ _ _ _ h => h) rfl rfl rfl rfl (.inl (congrArg Value.bool (bne_iff_ne.2 hc_100))) rfl rfl hm (hS.sub (.cons (Mem.le.refl _) (.cons (Mem.no_le _) (.cons (Mem.no_le _) (.cons (Mem.no_le _) (.cons (Mem.no_le _) (.cons (Mem.no_le _) (.cons (Mem.le.refl _) (Sub.nil _))))))))) ?_
                clear hm a; intro a hm
                refine h_take_off 5 [true, true, true, true, true, true, false, false, false, false, false, false, false, false, false, false, false, false, false, false, false, false].toArray rfl (by kernel_rfl) (by kernel_rfl) (by kernel_rfl) (fun _ _ _ _ h => h) rfl rfl rfl rfl (.inl (congrArg Value.bool (bne_iff_ne.2 hc_100))) rfl rfl hm (hS.sub (.cons (Mem.le.refl _) (.cons (Mem.no_le _) (.cons (Mem.no_le _) (.cons (Mem.no_le _) (.cons (Mem.no_le _) (.cons (Mem.no_le _) (.cons (Mem.le.refl _) (Sub.nil _))))))))) ?_
                clear hm a; intro a hm
                refine h_take_off 6 [true, true, true, true, true, true, true, false, false, false, false, false, false, false, false, false, false, false, false, false, false, false].toArray rfl (by kernel_rfl) (by kernel_rfl) (by kernel_rfl) (fun _ _ _ _ h => h) rfl rfl rfl rfl (.inl (congrArg Value.bool (bne_iff_ne.2 hc_100))) rfl rfl hm (hS.sub (.cons (Mem.le.refl _) (.cons (Mem.no_le _) (.cons (Mem.no_le _) (.cons (Mem.no_le _) (.cons (Mem.no_le _) (.cons (Mem.no_le _) (.cons (Mem.le.refl _) (Sub.nil _))))))))) ?_
                clear hm a; intro a hm
                refine h_take_off 7 [true, true, true, true, true, true, true, true, false, false, false, false, false, false, false, false, false, false, false, false, false, false].toArray rfl (by kernel_rfl) (by kernel_rfl) (by kernel_rfl) (fun _ _ _ _ h => h) rfl rfl rfl rfl (.inl (congrArg Value.bool (bne_iff_ne.2 hc_100))) rfl rfl hm (hS.sub (.cons (Mem.le.refl _) (.cons (Mem.no_le _) (.cons (Mem.no_le _) (.cons (Mem.no_le _) (.cons (Mem.no_le _) (.cons (Mem.no_le _) (.cons (Mem.le.refl _) (Sub.nil _))))))))) ?_
                clear hm a; intro a hm
                refine h_take_off 8 [true, true, true, true, true, true, true, true, true, false, false, false, false, false, false, false, false, false, false, false, false, false].toArray rfl (by kernel_rfl) (by kernel_rfl) (by kernel_rfl) (fun _ _ _ _ h => h) rfl rfl rfl rfl (.inl (congrArg Value.bool (bne_iff_ne.2 hc_100))) rfl rfl hm (hS.sub (.cons (Mem.le.refl _) (.cons (Mem.no_le _) (.cons (Mem.no_le _) (.cons (Mem.no_le _) (.cons (Mem.no_le _) (.cons (Mem.no_le _) (.cons (Mem.le.refl _) (Sub.nil _))))))))) ?_
                clear hm a; intro a hm
                refine h_take_off 9 [true, true, true, true, true, true, true, true, true, true, false, false, false, false, false, false, false, false, false, false, false, false].toArray rfl (by kernel_rfl) (by kernel_rfl) (by kernel_rfl) (fun _ _ _ _ h => h) rfl rfl rfl rfl (.inl (congrArg Value.bool (bne_iff_ne.2 hc_100))) rfl rfl hm (hS.sub (.cons (Mem.le.refl _) (.cons (Mem.no_le _) (.cons (Mem.no_le _) (.cons (Mem.no_le _) (.cons (Mem.no_le _) (.cons (Mem.no_le _) (.cons (Mem.le.refl _) (Sub.nil _))))))))) ?_
                clear hm a; intro a hm
                refine h_take_off 10 [true, true, true, true, true, true, true, true, true, true, true, false, false, false, false, false, false, false, false, false, false, false].toArray rfl (by kernel_rfl) (by kernel_rfl) (by kernel_rfl) (fun _ _ _ _ h => h) rfl rfl rfl rfl (.inl (congrArg Value.bool (bne_iff_ne.2 hc_100))) rfl rfl hm (hS.sub (.cons (Mem.le.refl _) (.cons (Mem.no_le _) (.cons (Mem.no_le _) (.cons (Mem.no_le _) (.cons (Mem.no_le _) (.cons (Mem.no_le _) (.cons (Mem.le.refl _) (Sub.nil _))))))))) ?_
                clear hm a; intro a hm
                refine h_take_off 11 [true, true, true, true, true, true, true, true, true, true, true, true, false, false, false, false, false, false, false, false, false, false].toArray rfl (by kernel_rfl) (by kernel_rfl) (by kernel_rfl) (fun _ _ _ _ h => h) rfl rfl rfl rfl (.inl (congrArg Value.bool (bne_iff_ne.2 hc_100))) rfl rfl hm (hS.sub (.cons (Mem.le.refl _) (.cons (Mem.no_le _) (.cons (Mem.no_le _) (.cons (Mem.no_le _) (.cons (Mem.no_le _) (.cons (Mem.no_le _) (.cons (Mem.le.refl _) (Sub.nil _))))))))) ?_
                clear hm a; intro a hm
                refine h_take_off 12 [true, true, true, true, true, true, true, true, true, true, true, true, true, false, false, false, false, false, false, false, false, false].toArray rfl (by kernel_rfl) (by kernel_rfl) (by kernel_rfl) (fun _ _ _ _ h => h) rfl rfl rfl rfl (.inl (congrArg Value.bool (bne_iff_ne.2 hc_100))) rfl rfl hm (hS.sub (.cons (Mem.le.refl _) (.cons (Mem.no_le _) (.cons (Mem.no_le _) (.cons (Mem.no_le _) (.cons (Mem.no_le _) (.cons (Mem.no_le _) (.cons (Mem.le.refl _) (Sub.nil _))))))))) ?_
                clear hm a; intro a hm
                refine h_take 13 [true, true, true, true, true, true, true, true, true, true, true, true, true, true, false, false, false, false, false, false, false, false].toArray rfl (by kernel_rfl) (by kernel_rfl) (by kernel_rfl) (fun _ _ _ _ h => h) rfl rfl rfl rfl hm (hS.sub (.cons (Mem.le.refl _) (.cons (Mem.no_le _) (.cons (Mem.no_le _) (.cons (Mem.no_le _) (.cons (Mem.no_le _) (.cons (Mem.no_le _) (.cons (Mem.le.refl _) (Sub.nil _))))))))) (v := .bool true) (fun w hS => r_pick_t hm rfl (bne_iff_ne.2 hc_100) rfl) ?_
                clear hm a; intro a hm
                refine h_take 14 [true, true, true, true, true, true, true, true, true, true, true, true, true, true, true, false, false, false, false, false, false, false].toArray rfl (by kernel_rfl) (by kernel_rfl) (by kernel_rfl) (fun _ _ _ _ h => h) rfl rfl rfl rfl hm (hS.sub (.cons (Mem.le.refl _) (.cons (Mem.no_le _) (.cons (Mem.no_le _) (.cons (Mem.no_le _) (.cons (Mem.no_le _) (.cons (Mem.no_le _) (.cons (Mem.le.refl _) (Sub.nil _))))))))) (v := .bool true) (fun w hS => r_move hm rfl) ?_
                clear hm a; intro a hm
                refine h_take_off 15 [true, true, true, true, true, true, true, true, true, true, true, true, true, true, true, true, false, false, false, false, false, false].toArray rfl (by kernel_rfl) (by kernel_rfl) (by kernel_rfl) (fun _ _ _ _ h => h) rfl rfl rfl rfl (.inl (congrArg Value.bool rfl)) rfl rfl hm (hS.sub (.cons (Mem.le.refl _) (.cons (Mem.no_le _) (.cons (Mem.no_le _) (.cons (Mem.no_le _) (.cons (Mem.no_le _) (.cons (Mem.no_le _) (.cons (Mem.le.refl _) (Sub.nil _))))))))) ?_
                clear hm a; intro a hm
                refine h_take_off 16 [true, true, true, true, true, true, true, true, true, true, true, true, true, true, true, true, true, false, false, false, false, false].toArray rfl (by kernel_rfl) (by kernel_rfl) (by kernel_rfl) (fun _ _ _ _ h => h) rfl rfl rfl rfl (.inl (congrArg Value.bool rfl)) rfl rfl hm (hS.sub (.cons (Mem.le.refl _) (.cons (Mem.no_le _) (.cons (Mem.no_le _) (.cons (Mem.no_le _) (.cons (Mem.no_le _) (.cons (Mem.no_le _) (.cons (Mem.le.refl _) (Sub.nil _))))))))) ?_
                clear hm a; intro a hm
                refine h_take_off 17 [true, true, true, true, true, true, true, true, true, true, true, true, true, true, true, true, true, true, false, false, false, false].toArray rfl (by kernel_rfl) (by kernel_rfl) (by kernel_rfl) (fun _ _ _ _ h => h) rfl rfl rfl rfl (.inl (congrArg Value.bool rfl)) rfl rfl hm (hS.sub (.cons (Mem.le.refl _) (.cons (Mem.no_le _) (.cons (Mem.no_le _) (.cons (Mem.no_le _) (.cons (Mem.no_le _) (.cons (Mem.no_le _) (.cons (Mem.le.refl _) (Sub.nil _))))))))) ?_
                clear hm a; intro a hm
                refine h_take_off 18 [true, true, true, true, true, true, true, true, true, true, true, true, true, true, true, true, true, true, true, false, false, false].toArray rfl (by kernel_rfl) (by kernel_rfl) (by kernel_rfl) (fun _ _ _ _ h => h) rfl rfl rfl rfl (.inl (congrArg Value.bool rfl)) rfl rfl hm (hS.sub (.cons (Mem.le.refl _) (.cons (Mem.no_le _) (.cons (Mem.no_le _) (.cons (Mem.no_le _) (.cons (Mem.no_le _) (.cons (Mem.no_le _) (.cons (Mem.le.refl _) (Sub.nil _))))))))) ?_
                clear hm a; intro a hm
                refine h_take_off 19 [true, true, true, true, true, true, true, true, true, true, true, true, true, true, true, true, true, true, true, true, false, false].toArray rfl (by kernel_rfl) (by kernel_rfl) (by kernel_rfl) (fun _ _ _ _ h => h) rfl rfl rfl rfl (.inl (congrArg Value.bool rfl)) rfl rfl hm (hS.sub (.cons (Mem.le.refl _) (.cons (Mem.no_le _) (.cons (Mem.no_le _) (.cons (Mem.no_le _) (.cons (Mem.no_le _) (.cons (Mem.no_le _) (.cons (Mem.le.refl _) (Sub.nil _))))))))) ?_
                clear hm a; intro a hm
                refine h_take_off 20 [true, true, true, true, true, true, true, true, true, true, true, true, true, true, true, true, true, true, true, true, true, false].toArray rfl (by kernel_rfl) (by kernel_rfl) (by kernel_rfl) (fun _ _ _ _ h => h) rfl rfl rfl rfl (.inl (congrArg Value.bool rfl)) rfl rfl hm (hS.sub (.cons (Mem.le.refl _) (.cons (Mem.no_le _) (.cons (Mem.no_le _) (.cons (Mem.no_le _) (.cons (Mem.no_le _) (.cons (Mem.no_le _) (.cons (Mem.le.refl _) (Sub.nil _))))))))) ?_
                clear hm a; intro a hm
                refine h_take 21 [true, true, true, true, true, true, true, true, true, true, true, true, true, true, true, true, true, true, true, true, true, true].toArray rfl (by kernel_rfl) (by kernel_rfl) (by kernel_rfl) (fun _ _ _ _ h => h) rfl rfl rfl rfl hm (hS.sub (.cons (Mem.le.refl _) (.cons (Mem.no_le _) (.cons (Mem.no_le _) (.cons (Mem.no_le _) (.cons (Mem.no_le _) (.cons (Mem.no_le _) (.cons (Mem.le.refl _) (Sub.nil _))))))))) (v := .bool true) (fun w hS => r_pick_t hm rfl rfl rfl) ?_
                clear hm a; intro a hm
                refine h_done (by kernel_rfl) ?_
                replace hm : Fr 132 a [(0, p0_0), (2, .bool false), (3, v_58), (4, .int .i64 x_8), (10, .int .i64 x_60), (11, .int .i64 x_61), (12, v_85), (122, .bool true)] := hm.keep [0, 2, 3, 4, 10, 11, 12, 122]
                replace hS : Sep w0 w_99 [N_84, Mem.no, Mem.no, Mem.no, Mem.no, Mem.no, Mem.one g_90 (.cells ([.int .i64 t_81.2.Err, v_87, .int .i64 t_81.2.N] : List Value).toArray 27 (0, 0))] Z := hS
                replace hm : Fr 132 a [(0, p0_0), (2, .bool false), (3, v_58), (4, .int .i64 x_8), (10, .int .i64 x_60), (11, .int .i64 x_61), (12, v_85), (122, .bool true)] := hm.keep [0, 2, 3, 4, 10, 11, 12, 122]
                exact x_then_n (hJ_j_97 true H _ _ ⟨N_84, hm, (Sep.sel hS [0, 1000, 1001, 1002, 1003, 1004, 1005] (by decide)), (Mem.le.refl _)⟩)
          · rw [if_neg hc_71] at H
            refine c_cond_f hm rfl (Bool.eq_false_iff.2 hc_71) ?_
            refine wp_exit (x_then_x (x_then_x (x_block_t ?_)))
            replace hS : Sep w0 w_69 [N_67, Mem.no, Mem.no, Mem.no, Mem.no, Mem.no] Z := hS
            replace hm : Fr 132 a [(2, .bool false), (3, v_58)] := hm.keep [2, 3]
            exact x_then_n (hJ_j_49 x_57 H _ _ ⟨v_58, N_67, hm, (Sep.sel hS [0, 1000, 1001, 1002, 1003, 1004] (by decide)), (le_56.trans le_67), (hr_59.mono le_67)⟩)
        clear hKJ_66
        refine wp_region_lit ?_
        refine s_move hm rfl rfl ?_
        clear hm a; intro a hm
        refine s_move hm rfl rfl ?_
        clear hm a; intro a hm
        refine s_len hm rfl Try.underlying37 rfl hp0_0 ?_
        clear hm a; intro a hm
        refine s_cmp (b := decide (x_61 < (x0.length : Int))) hm rfl rfl rfl (.inr (.inr (.inl ⟨rfl, rfl⟩))) ?_
        clear hm a; intro a hm
        refine s_move hm rfl rfl ?_
        clear hm a; intro a hm
        by_cases hc_109 : x_61 < (x0.length : Int)
        · rw [if_pos hc_109] at H
          refine s_on hm rfl rfl (decide_eq_true hc_109) ?_
          refine s_move hm rfl rfl ?_
          clear hm a; intro a hm
          refine s_on hm rfl rfl (decide_eq_true hc_109) ?_
          refine s_move hm rfl rfl ?_
          clear hm a; intro a hm
          refine s_on hm rfl rfl (decide_eq_true hc_109) ?_
          refine s_cmp (b := decide (x_60 < x_8)) hm rfl rfl rfl (.inr (.inr (.inl ⟨rfl, rfl⟩))) ?_
          clear hm a; intro a hm
          refine s_pick_t hm rfl rfl (decide_eq_true hc_109) rfl ?_
          clear hm a; intro a hm
          refine wpList_nil ?_
          replace hm : Fr 132 a [(0, p0_0), (2, .bool false), (3, v_58), (4, .int .i64 x_8), (10, .int .i64 x_60), (11, .int .i64 x_61), (87, .bool (decide (x_60 < x_8)))] := hm.keep [0, 2, 3, 4, 10, 11, 87]
          replace hS : Sep w0 w_62 [N_56, Mem.no, Mem.no, Mem.no, Mem.no, Mem.no] Z := hS
          replace hm : Fr 132 a [(0, p0_0), (2, .bool false), (3, v_58), (4, .int .i64 x_8), (10, .int .i64 x_60), (11, .int .i64 x_61), (87, .bool (decide (x_60 < x_8)))] := hm.keep [0, 2, 3, 4, 10, 11, 87]
          exact x_then_n (hJ_j_70 (decide (x_60 < x_8)) H _ _ ⟨N_56, hm, (Sep.sel hS [0, 1000, 1001, 1002, 1003, 1004] (by decide)), (Mem.le.refl _)⟩)
        · rw [if_neg hc_109] at H
          refine s_off hm rfl rfl rfl (decide_eq_false hc_109) ?_
          clear hm a; intro a hm
          refine s_off hm rfl rfl rfl (decide_eq_false hc_109) ?_
          clear hm a; intro a hm
          refine s_off hm rfl rfl rfl (decide_eq_false hc_109) ?_
          clear hm a; intro a hm
          refine s_pick_f hm rfl rfl (decide_eq_false hc_109) rfl ?_
          clear hm a; intro a hm
          refine wpList_nil ?_
          replace hm : Fr 132 a [(0, p0_0), (2, .bool false), (3, v_58), (4, .int .i64 x_8), (10, .int .i64 x_60), (11, .int .i64 x_61), (87, .bool false)] := hm.keep [0, 2, 3, 4, 10, 11, 87]
          replace hS : Sep w0 w_62 [N_56, Mem.no, Mem.no, Mem.no, Mem.no, Mem.no] Z := hS
          replace hm : Fr 132 a [(0, p0_0), (2, .bool false), (3, v_58), (4, .int .i64 x_8), (10, .int .i64 x_60), (11, .int .i64 x_61), (87, .bool false)] := hm.keep [0, 2, 3, 4, 10, 11, 87]
          exact x_then_n (hJ_j_70 false H _ _ ⟨N_56, hm, (Sep.sel hS [0, 1000, 1001, 1002, 1003, 1004] (by decide)), (Mem.le.refl _)⟩)
    clear hKJ_37
    refine wp_region_lit ?_
    refine s_move hm rfl rfl ?_
    clear hm a; intro a hm
    refine s_cmp (b := (x_8 == 8)) hm rfl rfl rfl (.inl ⟨rfl, rfl⟩) ?_
    clear hm a; intro a hm
    refine s_move hm rfl rfl ?_
    clear hm a; intro a hm
    by_cases hc_110 : x_8 = 8
    · rw [if_pos hc_110] at H
      refine s_on hm rfl rfl (beq_iff_eq.2 hc_110) ?_
      refine s_fieldAddr hm rfl Try.underlying27 rfl ti22 rfl rfl ?_
      clear hm a; intro a hm
      refine s_on hm rfl rfl (beq_iff_eq.2 hc_110) ?_
      refine s_load hm rfl rfl (hS.load_one (p := 5) rfl Try.underlying22 rfl rfl) ?_
      clear hm a; intro a hm
      refine s_on hm rfl rfl (beq_iff_eq.2 hc_110) ?_
      refine s_cmp (b := (t_22.2.Err != 3)) hm rfl rfl rfl (.inr (.inl ⟨rfl, rfl⟩)) ?_
      clear hm a; intro a hm
      refine s_pick_t hm rfl rfl (beq_iff_eq.2 hc_110) rfl ?_
      clear hm a; intro a hm
      refine wpList_nil ?_
      replace hm : Fr 132 a [(0, p0_0), (2, .bool false), (3, v_6), (4, .int .i64 x_8), (78, .bool (t_22.2.Err != 3))] := hm.keep [0, 2, 3, 4, 78]
      replace hS : Sep w0 w_36 [N_25, M_4, Mem.no, M_28, M_32, Mem.one g_35 (.cells ([.int .i64 t_22.2.Err, v_30, .int .i64 t_22.2.N] : List Value).toArray 27 (0, 0))] Z := hS
      replace hm : Fr 132 a [(0, p0_0), (2, .bool false), (3, v_6), (4, .int .i64 x_8), (78, .bool (t_22.2.Err != 3))] := hm.keep [0, 2, 3, 4, 78]
      exact x_then_n (hJ_j_41 (t_22.2.Err != 3) H _ _ ⟨N_25, hm, (Sep.sel hS [0, 1, 1001, 1002, 1003, 1004] (by decide)), (Mem.le.refl _)⟩)
    · rw [if_neg hc_110] at H
      refine s_off hm rfl rfl rfl (beq_eq_false_iff_ne.2 hc_110) ?_
      clear hm a; intro a hm
      refine s_off hm rfl rfl rfl (beq_eq_false_iff_ne.2 hc_110) ?_
      clear hm a; intro a hm
      refine s_off hm rfl rfl rfl (beq_eq_false_iff_ne.2 hc_110) ?_
      clear hm a; intro a hm
      refine s_pick_f hm rfl rfl (beq_eq_false_iff_ne.2 hc_110) rfl ?_
      clear hm a; intro a hm
      refine wpList_nil ?_
      replace hm : Fr 132 a [(0, p0_0), (2, .bool false), (3, v_6), (4, .int .i64 x_8), (78, .bool false)] := hm.keep [0, 2, 3, 4, 78]
      replace hS : Sep w0 w_36 [N_25, M_4, Mem.no, M_28, M_32, Mem.one g_35 (.cells ([.int .i64 t_22.2.Err, v_30, .int .i64 t_22.2.N] : List Value).toArray 27 (0, 0))] Z := hS
      replace hm : Fr 132 a [(0, p0_0), (2, .bool false), (3, v_6), (4, .int .i64 x_8), (78, .bool false)] := hm.keep [0, 2, 3, 4, 78]
      exact x_then_n (hJ_j_41 false H _ _ ⟨N_25, hm, (Sep.sel hS [0, 1, 1001, 1002, 1003, 1004] (by decide)), (Mem.le.refl _)⟩)
  clear hKJ_1
  have hS' := hS.room
  replace hS : Sep w0 w [Mem.no, Mem.no] Z := hS'
  clear hS'
  replace hS : Sep w0 w [Mem.no, Mem.no] Z := hS
  replace hm : Fr 132 a [(0, p0_0), (2, .bool false), (3, .slice none 0 0), (4, .int .i64 0), (5, .int .i64 0)] := hm.keep [0, 2, 3, 4, 5]
  refine c_block ?_
  refine c_loop (fun k_119 a w_119 => ∃ (x_112 : List (List UInt8)) (x_117 : Int) (x_118 : Int) (v_115 : Value) (N_111 : Mem) (M_113 : Mem), hocketlaw5_FifoOrder.l_119 K x0 (fun v => hocketlaw5_FifoOrder.j_10 K x0 v.1 v.2) k_119 (x_112, x_117, x_118) = some r ∧ Fr 132 a [(0, p0_0), (2, .bool false), (3, v_115), (4, .int .i64 x_117), (5, .int .i64 x_118)] ∧ Sep w0 w_119 [N_111, M_113] Z ∧ Mem.no.le N_111 ∧ Own (Kd.slice Kd.u8) 25 M_113 N_111 v_115 x_112) K ⟨([] : List (List UInt8)), 0, 0, .slice none 0 0, Mem.no, Mem.no, H, hm, (Sep.sel hS [0, 1] (by decide)), (Mem.le.refl _), ((Own.nil (Kd.slice Kd.u8) 25 Mem.no).mono (Mem.le.refl _))⟩ (fun a w h => by obtain ⟨_, _, _, _, _, _, H, _⟩ := h; cases (show (none : Option (Unit)) = some r from H)) ?_
  clear hm hS a H
  rintro k_119 a w_119 KL_119 hKL_119 ⟨x_112, x_117, x_118, v_115, N_111, M_113, H, hm, hS, le_111, ho_116⟩
  replace H : hocketlaw5_FifoOrder.b_119 K x0 (fun v => hocketlaw5_FifoOrder.j_10 K x0 v.1 v.2) (hocketlaw5_FifoOrder.l_119 K x0 (fun v => hocketlaw5_FifoOrder.j_10 K x0 v.1 v.2) k_119) x_112 x_117 x_118 = some r := H
  unfold hocketlaw5_FifoOrder.b_119 at H
  refine c_seq fun KJ_122 hKJ_122 => ?_
  refine c_seq fun KJ_123 hKJ_123 => ?_
  have hJ_j_127 : ∀ (x_125 : Bool), hocketlaw5_FifoOrder.j_127 K x0 x_118 (hocketlaw5_FifoOrder.l_119 K x0 (fun v => hocketlaw5_FifoOrder.j_10 K x0 v.1 v.2) k_119) x_112 x_117 (fun v => hocketlaw5_FifoOrder.j_10 K x0 v.1 v.2) x_125 = some r → ∀ (a : Act) (w_126 : World), (∃ (N_124 : Mem), Fr 132 a [(0, p0_0), (2, .bool false), (3, v_115), (4, .int .i64 x_117), (5, .int .i64 x_118), (21, .bool x_125)] ∧ Sep w0 w_126 [N_124, M_113] Z ∧ N_111.le N_124) → KJ_123 a w_126 := by
    clear H hm hS a
    rintro x_125 H a w_126 ⟨N_124, hm, hS, le_124⟩
    unfold hocketlaw5_FifoOrder.j_127 at H
    refine hKJ_123 _ _ ?_
    by_cases hc_128 : x_125 = true
    · rw [if_pos hc_128] at H
      refine c_cond_t hm rfl hc_128 ?_
      refine wp_skip ?_
      refine x_then_n (hKJ_122 _ _ ?_)
      refine wp_seq ?_
      refine c_block ?_
      refine c_seq fun KJ_129 hKJ_129 => ?_
      refine wp_seq ?_
      refine wp_region_lit ?_
      refine s_move hm rfl rfl ?_
      clear hm a; intro a hm
      refine s_move hm rfl rfl ?_
      clear hm a; intro a hm
      obtain ⟨t_130, et_130, H⟩ := Option.bind_eq_some_iff.1 H
      refine v_index hm rfl Try.underlying37 ti25 rfl rfl rfl hp0_0 (hA.trans hS.old) et_130 ?_
      intro ad_131 cs_132 hk_133 hc_134
      obtain ⟨v_135, rfl, hr_136⟩ := hk_133
      clear hm a; intro a hm
      refine s_load hm rfl rfl (el_one (o := 0) hc_134 Try.underlying25 rfl rfl) ?_
      clear hm a; intro a hm
      refine s_len hm rfl Try.underlying25 rfl hr_136 ?_
      clear hm a; intro a hm
      refine s_cmp (b := decide ((t_130.length : Int) > 16)) hm rfl rfl rfl (.inr (.inr (.inr (.inr (.inl ⟨rfl, rfl⟩))))) ?_
      clear hm a; intro a hm
      refine wpList_nil ?_
      replace hm : Fr 132 a [(0, p0_0), (2, .bool false), (3, v_115), (4, .int .i64 x_117), (5, .int .i64 x_118), (29, .bool (decide ((t_130.length : Int) > 16)))] := hm.keep [0, 2, 3, 4, 5, 29]
      refine x_then_n ?_
      by_cases hc_137 : (t_130.length : Int) > 16
      · rw [if_pos hc_137] at H
        refine c_cond_t hm rfl (decide_eq_true hc_137) ?_
        refine wp_exit (x_then_x (x_block_t ?_))
        refine x_then_n ?_
        refine wp_region_lit ?_
        refine s_move hm rfl rfl ?_
        clear hm a; intro a hm
        refine s_arith (r := w64 (x_118 + 1)) hm rfl rfl rfl (.inl ⟨rfl, rfl⟩) ?_
        clear hm a; intro a hm
        refine s_assign hm rfl rfl ?_
        clear hm a; intro a hm
        refine wpList_nil ?_
        replace hm : Fr 132 a [(0, p0_0), (2, .bool false), (3, v_115), (4, .int .i64 x_117), (5, .int .i64 (w64 (x_118 + 1)))] := hm.keep [0, 2, 3, 4, 5]
        refine x_then_n (hKL_119 _ _ ?_)
        replace hS : Sep w0 w_126 [N_124, M_113] Z := hS
        replace hm : Fr 132 a [(0, p0_0), (2, .bool false), (3, v_115), (4, .int .i64 x_117), (5, .int .i64 (w64 (x_118 + 1)))] := hm.keep [0, 2, 3, 4, 5]
        exact ⟨x_112, x_117, w64 (x_118 + 1), v_115, N_124, M_113, H, hm, (Sep.sel hS [0, 1] (by decide)), (le_111.trans le_124), (ho_116.mono le_124)⟩
      · rw [if_neg hc_137] at H
        refine c_cond_f hm rfl (decide_eq_false hc_137) ?_
        refine wp_skip ?_
        refine x_then_n (hKJ_129 _ _ ?_)
        refine wp_seq ?_
        refine wp_region_lit ?_
        refine s_move hm rfl rfl ?_
        clear hm a; intro a hm
        refine s_move hm rfl rfl ?_
        clear hm a; intro a hm
        refine s_move hm rfl rfl ?_
        clear hm a; intro a hm
        obtain ⟨t_138, et_138, H⟩ := Option.bind_eq_some_iff.1 H
        refine v_index hm rfl Try.underlying37 ti25 rfl rfl rfl hp0_0 (hA.trans hS.old) et_138 ?_
        intro ad_139 cs_140 hk_141 hc_142
        obtain ⟨v_143, rfl, hr_144⟩ := hk_141
        clear hm a; intro a hm
        refine s_load hm rfl rfl (el_one (o := 0) hc_142 Try.underlying25 rfl rfl) ?_
        clear hm a; intro a hm
        obtain ⟨t_145, et_145, H⟩ := Option.bind_eq_some_iff.1 H
        refine s_call hm rfl Try.call22 rfl (fifo_Push.calls K x_112 _ t_138 _ t_145 w0 _ _ _ (Mem.le.refl _) (hS.enter [] (by decide)) (ho_116.rd (hS.own_zed [] 0 (by decide)) (le_124.trans (hS.new_zed []))) (hr_144.mono (hA.trans (hS.le_zed []))) et_145) ?_
        rintro _ w_146 ⟨v_149, v_153, N_147, M_151, M_155, rfl, hS', hr_150, hr_154⟩
        clear hm a; intro a hm
        obtain ⟨N_148, hS'', le_148, ln_148⟩ := hS.call [] (by decide) rfl (l' := []) (ow := [M_151, M_155]) rfl hS'
        replace hS : Sep w0 w_146 [N_148, M_113, M_151, M_155] Z := hS''
        clear hS' hS''
        refine s_move hm rfl rfl ?_
        clear hm a; intro a hm
        refine s_extract hm rfl rfl rfl ?_
        clear hm a; intro a hm
        refine s_extract hm rfl rfl rfl ?_
        clear hm a; intro a hm
        refine v_alloc hm rfl ti27 hS ?_
        intro w_157 g_158 hS'
        clear hm a; intro a hm
        replace hS : Sep w0 w_157 [N_148, M_113, M_151, M_155, Mem.one g_158 (.cells ([.int .i64 0, .slice none 0 0, .int .i64 0] : List Value).toArray 27 (0, 0))] Z := hS'
        clear hS'
        refine s_assign hm rfl rfl ?_
        clear hm a; intro a hm
        obtain ⟨w_159, hs', hS'⟩ := hS.store (P := Try.prog) (p := 4) (o := 0) (t := 27) (v := .agg [.int .i64 t_145.2.Err, v_153, .int .i64 t_145.2.N].toArray) (vs := [.int .i64 t_145.2.Err, v_153, .int .i64 t_145.2.N]) rfl ti27 rfl rfl rfl (by intro u hu; simp only [List.mem_cons, List.not_mem_nil, or_false] at hu; rcases hu with rfl | rfl | rfl <;> first | rfl | exact hr_154.one)
        refine s_store hm rfl rfl hs' ?_
        replace hS : Sep w0 w_159 [N_148, M_113, M_151, M_155, Mem.one g_158 (.cells ([.int .i64 t_145.2.Err, v_153, .int .i64 t_145.2.N] : List Value).toArray 27 (0, 0))] Z := hS'
        clear hs' hS'
        refine wpList_nil ?_
        replace hm : Fr 132 a [(0, p0_0), (2, .bool false), (3, v_115), (4, .int .i64 x_117), (5, .int .i64 x_118), (6, v_149), (7, .pointer (some ⟨g_158, 0, none⟩))] := hm.keep [0, 2, 3, 4, 5, 6, 7]
        refine x_then_n ?_
        refine c_seq fun KJ_160 hKJ_160 => ?_
        refine c_seq fun KJ_161 hKJ_161 => ?_
        have hJ_j_165 : ∀ (x_163 : Bool), hocketlaw5_FifoOrder.j_165 K (hocketlaw5_FifoOrder.l_119 K x0 (fun v => hocketlaw5_FifoOrder.j_10 K x0 v.1 v.2) k_119) t_145 x_117 x_118 x_163 = some r → ∀ (a : Act) (w_164 : World), (∃ (N_162 : Mem), Fr 132 a [(0, p0_0), (2, .bool false), (3, v_115), (4, .int .i64 x_117), (5, .int .i64 x_118), (6, v_149), (61, .bool x_163)] ∧ Sep w0 w_164 [N_162, M_113, M_151, Mem.no, Mem.no] Z ∧ N_148.le N_162) → KJ_161 a w_164 := by
          clear H hm hS a
          rintro x_163 H a w_164 ⟨N_162, hm, hS, le_162⟩
          unfold hocketlaw5_FifoOrder.j_165 at H
          refine hKJ_161 _ _ ?_
          by_cases hc_166 : x_163 = true
          · rw [if_pos hc_166] at H
            cases H
          · rw [if_neg hc_166] at H
            refine c_cond_f hm rfl (Bool.eq_false_iff.2 hc_166) ?_
            refine wp_skip ?_
            refine x_then_n (hKJ_160 _ _ ?_)
            refine wp_region_lit ?_
            refine s_move hm rfl rfl ?_
            clear hm a; intro a hm
            refine s_move hm rfl rfl ?_
            clear hm a; intro a hm
            refine s_arith (r := w64 (x_117 + 1)) hm rfl rfl rfl (.inl ⟨rfl, rfl⟩) ?_
            clear hm a; intro a hm
            refine s_assign hm rfl rfl ?_
            clear hm a; intro a hm
            refine s_assign hm rfl rfl ?_
            clear hm a; intro a hm
            refine wpList_nil ?_
            replace hm : Fr 132 a [(0, p0_0), (2, .bool false), (3, v_149), (4, .int .i64 (w64 (x_117 + 1))), (5, .int .i64 x_118)] := hm.keep [0, 2, 3, 4, 5]
            refine x_block_n ?_
            refine x_then_n ?_
            refine wp_region_lit ?_
            refine s_move hm rfl rfl ?_
            clear hm a; intro a hm
            refine s_arith (r := w64 (x_118 + 1)) hm rfl rfl rfl (.inl ⟨rfl, rfl⟩) ?_
            clear hm a; intro a hm
            refine s_assign hm rfl rfl ?_
            clear hm a; intro a hm
            refine wpList_nil ?_
            replace hm : Fr 132 a [(0, p0_0), (2, .bool false), (3, v_149), (4, .int .i64 (w64 (x_117 + 1))), (5, .int .i64 (w64 (x_118 + 1)))] := hm.keep [0, 2, 3, 4, 5]
            refine x_then_n (hKL_119 _ _ ?_)
            replace hS : Sep w0 w_164 [N_162, M_113, M_151, Mem.no, Mem.no] Z := hS
            replace hm : Fr 132 a [(0, p0_0), (2, .bool false), (3, v_149), (4, .int .i64 (w64 (x_117 + 1))), (5, .int .i64 (w64 (x_118 + 1)))] := hm.keep [0, 2, 3, 4, 5]
            exact ⟨t_145.1, w64 (x_117 + 1), w64 (x_118 + 1), v_149, N_162, M_151, H, hm, (Sep.sel hS [0, 2] (by decide)), (le_111.trans (le_124.trans (le_148.trans le_162))), ((hr_150.mono ln_148).mono le_162)⟩
        clear hKJ_161
        refine wp_region_lit ?_
        refine s_fieldAddr hm rfl Try.underlying27 rfl ti22 rfl rfl ?_
        clear hm a; intro a hm
        refine s_load hm rfl rfl (hS.load_one (p := 4) rfl Try.underlying22 rfl rfl) ?_
        clear hm a; intro a hm
        refine s_cmp (b := (t_145.2.Err != 0)) hm rfl rfl rfl (.inr (.inl ⟨rfl, rfl⟩)) ?_
        clear hm a; intro a hm
        refine s_move hm rfl rfl ?_
        clear hm a; intro a hm
        by_cases hc_167 : t_145.2.Err = 0
        · rw [if_pos hc_167] at H
          refine s_on hm rfl rfl (bne_eq_false_iff_eq.2 hc_167) ?_
          refine s_fieldAddr hm rfl Try.underlying27 rfl ti3 rfl rfl ?_
          clear hm a; intro a hm
          refine s_on hm rfl rfl (bne_eq_false_iff_eq.2 hc_167) ?_
          refine s_load hm rfl rfl (hS.load_one (p := 4) rfl Try.underlying3 rfl rfl) ?_
          clear hm a; intro a hm
          refine s_on hm rfl rfl (bne_eq_false_iff_eq.2 hc_167) ?_
          refine s_move hm rfl rfl ?_
          clear hm a; intro a hm
          refine s_on hm rfl rfl (bne_eq_false_iff_eq.2 hc_167) ?_
          refine s_arith (r := w64 (x_117 + 1)) hm rfl rfl rfl (.inl ⟨rfl, rfl⟩) ?_
          clear hm a; intro a hm
          refine s_on hm rfl rfl (bne_eq_false_iff_eq.2 hc_167) ?_
          refine s_cmp (b := (t_145.2.N != (w64 (x_117 + 1)))) hm rfl rfl rfl (.inr (.inl ⟨rfl, rfl⟩)) ?_
          clear hm a; intro a hm
          refine s_pick_f hm rfl rfl (bne_eq_false_iff_eq.2 hc_167) rfl ?_
          clear hm a; intro a hm
          refine s_move hm rfl rfl ?_
          clear hm a; intro a hm
          by_cases hc_168 : t_145.2.N = (w64 (x_117 + 1))
          · rw [if_pos hc_168] at H
            refine s_on hm rfl rfl (bne_eq_false_iff_eq.2 hc_168) ?_
            refine s_move hm rfl rfl ?_
            clear hm a; intro a hm
            refine s_on hm rfl rfl (bne_eq_false_iff_eq.2 hc_168) ?_
            refine s_lenO hm rfl Try.underlying37 rfl (hr_150.mono ln_148) ?_
            clear hm a; intro a hm
            refine s_on hm rfl rfl (bne_eq_false_iff_eq.2 hc_168) ?_
            refine s_move hm rfl rfl ?_
            clear hm a; intro a hm
            refine s_on hm rfl rfl (bne_eq_false_iff_eq.2 hc_168) ?_
            refine s_arith (r := w64 (x_117 + 1)) hm rfl rfl rfl (.inl ⟨rfl, rfl⟩) ?_
            clear hm a; intro a hm
            refine s_on hm rfl rfl (bne_eq_false_iff_eq.2 hc_168) ?_
            refine s_cmp (b := ((t_145.1.length : Int) != (w64 (x_117 + 1)))) hm rfl rfl rfl (.inr (.inl ⟨rfl, rfl⟩)) ?_
            clear hm a; intro a hm
            refine s_pick_f hm rfl rfl (bne_eq_false_iff_eq.2 hc_168) rfl ?_
            clear hm a; intro a hm
            refine s_move hm rfl rfl ?_
            clear hm a; intro a hm
            by_cases hc_169 : (t_145.1.length : Int) = (w64 (x_117 + 1))
            · rw [if_pos hc_169] at H
              refine s_on hm rfl rfl (bne_eq_false_iff_eq.2 hc_169) ?_
              refine s_move hm rfl rfl ?_
              clear hm a; intro a hm
              refine s_on hm rfl rfl (bne_eq_false_iff_eq.2 hc_169) ?_
              refine s_lenO hm rfl Try.underlying37 rfl ho_116 ?_
              clear hm a; intro a hm
              refine s_on hm rfl rfl (bne_eq_false_iff_eq.2 hc_169) ?_
              refine s_move hm rfl rfl ?_
              clear hm a; intro a hm
              refine s_on hm rfl rfl (bne_eq_false_iff_eq.2 hc_169) ?_
              refine s_cmp (b := ((x_112.length : Int) != x_117)) hm rfl rfl rfl (.inr (.inl ⟨rfl, rfl⟩)) ?_
              clear hm a; intro a hm
              refine s_pick_f hm rfl rfl (bne_eq_false_iff_eq.2 hc_169) rfl ?_
              clear hm a; intro a hm
              refine wpList_nil ?_
              replace hm : Fr 132 a [(0, p0_0), (2, .bool false), (3, v_115), (4, .int .i64 x_117), (5, .int .i64 x_118), (6, v_149), (61, .bool ((x_112.length : Int) != x_117))] := hm.keep [0, 2, 3, 4, 5, 6, 61]
              replace hS : Sep w0 w_159 [N_148, M_113, M_151, M_155, Mem.one g_158 (.cells ([.int .i64 t_145.2.Err, v_153, .int .i64 t_145.2.N] : List Value).toArray 27 (0, 0))] Z := hS
              replace hm : Fr 132 a [(0, p0_0), (2, .bool false), (3, v_115), (4, .int .i64 x_117), (5, .int .i64 x_118), (6, v_149), (61, .bool ((x_112.length : Int) != x_117))] := hm.keep [0, 2, 3, 4, 5, 6, 61]
              exact x_then_n (hJ_j_165 ((x_112.length : Int) != x_117) H _ _ ⟨N_148, hm, (Sep.sel hS [0, 1, 2, 1002, 1003] (by decide)), (Mem.le.refl _)⟩)
            · rw [if_neg hc_169] at H
              refine s_off hm rfl rfl rfl (bne_iff_ne.2 hc_169) ?_
              clear hm a; intro a hm
              refine s_off hm rfl rfl rfl (bne_iff_ne.2 hc_169) ?_
              clear hm a; intro a hm
              refine s_off hm rfl rfl rfl (bne_iff_ne.2 hc_169) ?_
              clear hm a; intro a hm
              refine s_off hm rfl rfl rfl (bne_iff_ne.2 hc_169) ?_
              clear hm a; intro a hm
              refine s_pick_t hm rfl rfl (bne_iff_ne.2 hc_169) rfl ?_
              clear hm a; intro a hm
              refine wpList_nil ?_
              replace hm : Fr 132 a [(0, p0_0), (2, .bool false), (3, v_115), (4, .int .i64 x_117), (5, .int .i64 x_118), (6, v_149), (61, .bool true)] := hm.keep [0, 2, 3, 4, 5, 6, 61]
              replace hS : Sep w0 w_159 [N_148, M_113, M_151, M_155, Mem.one g_158 (.cells ([.int .i64 t_145.2.Err, v_153, .int .i64 t_145.2.N] : List Value).toArray 27 (0, 0))] Z := hS
              replace hm : Fr 132 a [(0, p0_0), (2, .bool false), (3, v_115), (4, .int .i64 x_117), (5, .int .i64 x_118), (6, v_149), (61, .bool true)] := hm.keep [0, 2, 3, 4, 5, 6, 61]
              exact x_then_n (hJ_j_165 true H _ _ ⟨N_148, hm, (Sep.sel hS [0, 1, 2, 1002, 1003] (by decide)), (Mem.le.refl _)⟩)
          · rw [if_neg hc_168] at H
            refine s_off hm rfl rfl rfl (bne_iff_ne.2 hc_168) ?_
            clear hm a; intro a hm
            refine s_off hm rfl rfl rfl (bne_iff_ne.2 hc_168) ?_
            clear hm a; intro a hm
            refine s_off hm rfl rfl rfl (bne_iff_ne.2 hc_168) ?_
            clear hm a; intro a hm
            refine s_off hm rfl rfl rfl (bne_iff_ne.2 hc_168) ?_
            clear hm a; intro a hm
            refine s_off hm rfl rfl rfl (bne_iff_ne.2 hc_168) ?_
            clear hm a; intro a hm
            refine s_pick_t hm rfl rfl (bne_iff_ne.2 hc_168) rfl ?_
            clear hm a; intro a hm
            refine s_move hm rfl rfl ?_
            clear hm a; intro a hm
            refine s_off hm rfl rfl rfl rfl ?_
            clear hm a; intro a hm
            refine s_off hm rfl rfl rfl rfl ?_
            clear hm a; intro a hm
            refine s_off hm rfl rfl rfl rfl ?_
            clear hm a; intro a hm
            refine s_off hm rfl rfl rfl rfl ?_
            clear hm a; intro a hm
            refine s_pick_t hm rfl rfl rfl rfl ?_
            clear hm a; intro a hm
            refine wpList_nil ?_
            replace hm : Fr 132 a [(0, p0_0), (2, .bool false), (3, v_115), (4, .int .i64 x_117), (5, .int .i64 x_118), (6, v_149), (61, .bool true)] := hm.keep [0, 2, 3, 4, 5, 6, 61]
            replace hS : Sep w0 w_159 [N_148, M_113, M_151, M_155, Mem.one g_158 (.cells ([.int .i64 t_145.2.Err, v_153, .int .i64 t_145.2.N] : List Value).toArray 27 (0, 0))] Z := hS
            replace hm : Fr 132 a [(0, p0_0), (2, .bool false), (3, v_115), (4, .int .i64 x_117), (5, .int .i64 x_118), (6, v_149), (61, .bool true)] := hm.keep [0, 2, 3, 4, 5, 6, 61]
            exact x_then_n (hJ_j_165 true H _ _ ⟨N_148, hm, (Sep.sel hS [0, 1, 2, 1002, 1003] (by decide)), (Mem.le.refl _)⟩)
        · rw [if_neg hc_167] at H
          refine s_off hm rfl rfl rfl (bne_iff_ne.2 hc_167) ?_
          clear hm a; intro a hm
          refine s_off hm rfl rfl rfl (bne_iff_ne.2 hc_167) ?_
          clear hm a; intro a hm
          refine s_off hm rfl rfl rfl (bne_iff_ne.2 hc_167) ?_
          clear hm a; intro a hm
          refine s_off hm rfl rfl rfl (bne_iff_ne.2 hc_167) ?_
          clear hm a; intro a hm
          refine s_off hm rfl rfl rfl (bne_iff_ne.2 hc_167) ?_
          clear hm a; intro a hm
          refine s_pick_t hm rfl rfl (bne_iff_ne.2 hc_167) rfl ?_
          clear hm a; intro a hm
          refine s_move hm rfl rfl ?_
          clear hm a; intro a hm
          refine s_off hm rfl rfl rfl rfl ?_
          clear hm a; intro a hm
          refine s_off hm rfl rfl rfl rfl ?_
          clear hm a; intro a hm
          refine s_off hm rfl rfl rfl rfl ?_
          clear hm a; intro a hm
          refine s_off hm rfl rfl rfl rfl ?_
          clear hm a; intro a hm
          refine s_off hm rfl rfl rfl rfl ?_
          clear hm a; intro a hm
          refine s_pick_t hm rfl rfl rfl rfl ?_
          clear hm a; intro a hm
          refine s_move hm rfl rfl ?_
          clear hm a; intro a hm
          refine s_off hm rfl rfl rfl rfl ?_
          clear hm a; intro a hm
          refine s_off hm rfl rfl rfl rfl ?_
          clear hm a; intro a hm
          refine s_off hm rfl rfl rfl rfl ?_
          clear hm a; intro a hm
          refine s_off hm rfl rfl rfl rfl ?_
          clear hm a; intro a hm
          refine s_pick_t hm rfl rfl rfl rfl ?_
          clear hm a; intro a hm
          refine wpList_nil ?_
          replace hm : Fr 132 a [(0, p0_0), (2, .bool false), (3, v_115), (4, .int .i64 x_117), (5, .int .i64 x_118), (6, v_149), (61, .bool true)] := hm.keep [0, 2, 3, 4, 5, 6, 61]
          replace hS : Sep w0 w_159 [N_148, M_113, M_151, M_155, Mem.one g_158 (.cells ([.int .i64 t_145.2.Err, v_153, .int .i64 t_145.2.N] : List Value).toArray 27 (0, 0))] Z := hS
          replace hm : Fr 132 a [(0, p0_0), (2, .bool false), (3, v_115), (4, .int .i64 x_117), (5, .int .i64 x_118), (6, v_149), (61, .bool true)] := hm.keep [0, 2, 3, 4, 5, 6, 61]
          exact x_then_n (hJ_j_165 true H _ _ ⟨N_148, hm, (Sep.sel hS [0, 1, 2, 1002, 1003] (by decide)), (Mem.le.refl _)⟩)
    · rw [if_neg hc_128] at H
      refine c_cond_f hm rfl (Bool.eq_false_iff.2 hc_128) ?_
      refine wp_exit (x_then_x (x_then_x (x_block_t ?_)))
      replace hS : Sep w0 w_126 [N_124, M_113] Z := hS
      replace hm : Fr 132 a [(0, p0_0), (2, .bool false), (3, v_115), (4, .int .i64 x_117)] := hm.keep [0, 2, 3, 4]
      exact x_then_n (hJ_j_10 x_112 x_117 H _ _ ⟨v_115, N_124, M_113, hm, (Sep.sel hS [0, 1] (by decide)), (le_111.trans le_124), (ho_116.mono le_124)⟩)
  clear hKJ_123
  refine wp_region_lit ?_
  refine s_move hm rfl rfl ?_
  clear hm a; intro a hm
  refine s_move hm rfl rfl ?_
  clear hm a; intro a hm
  refine s_len hm rfl Try.underlying37 rfl hp0_0 ?_
  clear hm a; intro a hm
  refine s_cmp (b := decide (x_118 < (x0.length : Int))) hm rfl rfl rfl (.inr (.inr (.inl ⟨rfl, rfl⟩))) ?_
  clear hm a; intro a hm
  refine s_move hm rfl rfl ?_
  clear hm a; intro a hm
  by_cases hc_170 : x_118 < (x0.length : Int)
  · rw [if_pos hc_170] at H
    refine s_on hm rfl rfl (decide_eq_true hc_170) ?_
    refine s_move hm rfl rfl ?_
    clear hm a; intro a hm
    refine s_on hm rfl rfl (decide_eq_true hc_170) ?_
    refine s_cmp (b := decide (x_117 < 8)) hm rfl rfl rfl (.inr (.inr (.inl ⟨rfl, rfl⟩))) ?_
    clear hm a; intro a hm
    refine s_pick_t hm rfl rfl (decide_eq_true hc_170) rfl ?_
    clear hm a; intro a hm
    refine wpList_nil ?_
    replace hm : Fr 132 a [(0, p0_0), (2, .bool false), (3, v_115), (4, .int .i64 x_117), (5, .int .i64 x_118), (21, .bool (decide (x_117 < 8)))] := hm.keep [0, 2, 3, 4, 5, 21]
    replace hS : Sep w0 w_119 [N_111, M_113] Z := hS
    replace hm : Fr 132 a [(0, p0_0), (2, .bool false), (3, v_115), (4, .int .i64 x_117), (5, .int .i64 x_118), (21, .bool (decide (x_117 < 8)))] := hm.keep [0, 2, 3, 4, 5, 21]
    exact x_then_n (hJ_j_127 (decide (x_117 < 8)) H _ _ ⟨N_111, hm, (Sep.sel hS [0, 1] (by decide)), (Mem.le.refl _)⟩)
  · rw [if_neg hc_170] at H
    refine s_off hm rfl rfl rfl (decide_eq_false hc_170) ?_
    clear hm a; intro a hm
    refine s_off hm rfl rfl rfl (decide_eq_false hc_170) ?_
    clear hm a; intro a hm
    refine s_pick_f hm rfl rfl (decide_eq_false hc_170) rfl ?_
    clear hm a; intro a hm
    refine wpList_nil ?_
    replace hm : Fr 132 a [(0, p0_0), (2, .bool false), (3, v_115), (4, .int .i64 x_117), (5, .int .i64 x_118), (21, .bool false)] := hm.keep [0, 2, 3, 4, 5, 21]
    replace hS : Sep w0 w_119 [N_111, M_113] Z := hS
    replace hm : Fr 132 a [(0, p0_0), (2, .bool false), (3, v_115), (4, .int .i64 x_117), (5, .int .i64 x_118), (21, .bool false)] := hm.keep [0, 2, 3, 4, 5, 21]
    exact x_then_n (hJ_j_127 false H _ _ ⟨N_111, hm, (Sep.sel hS [0, 1] (by decide)), (Mem.le.refl _)⟩)


end Go.Proofs
