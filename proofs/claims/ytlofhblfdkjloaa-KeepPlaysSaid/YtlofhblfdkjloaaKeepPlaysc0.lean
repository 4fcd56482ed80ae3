/- What the calls do: each function once. -/
import Derived.Test.YtlofhblfdkjloaaFacts
namespace Go.Proofs
open Go.Gp
set_option linter.unusedVariables false
set_option maxHeartbeats 4000000 in
theorem slices_Clone_sbyte_byte.calls (x0 : List UInt8) (p0_0 : Value) (r : List UInt8) (w0 w : World) (Z A : Mem) (hA : A.le Z) (hS : Sep w0 w [] Z) (hp0_0 : Rd Kd.u8 A p0_0 x0)
    (H : slices_Clone_sbyte_byte.f x0 = some r) :
    Calls Try.prog 27 [p0_0].toArray w (Ret fun v w' => ∃ (u0 : Value) (N : Mem) (M0 : Mem), v = u0 ∧ Sep w0 w' [N, M0] Z ∧ Own Kd.u8 5 M0 Mem.no u0 r) := by
  unfold slices_Clone_sbyte_byte.f at H
  refine f_enter _ Try.func27 rfl Try.ntmps27 rfl fun a hm => ?_
  replace hm : Fr 8 a [(0, p0_0)] := hm
  replace hS := hS.start
  replace hS : Sep w0 w [Mem.no] Z := hS
  refine wp_seq ?_
  refine wp_region_lit ?_
  refine s_assign hm rfl rfl ?_
  clear hm a; intro a hm
  refine wpList_nil ?_
  replace hm : Fr 8 a [(0, p0_0)] := hm.keep [0]
  refine x_then_n ?_
  refine c_seq fun KJ hKJ => ?_
  refine wp_seq ?_
  refine wp_region_lit ?_
  refine s_move hm rfl rfl ?_
  clear hm a; intro a hm
  refine s_slNil hm rfl Try.underlying23 rfl hp0_0 fun b hb => ?_
  clear hm a; intro a hm
  refine wpList_nil ?_
  refine x_then_n ?_
  cases b with
  | true =>
    have hx := hb rfl
    subst hx
    refine c_cond_t hm rfl rfl ?_
    refine wp_seq ?_
    refine wp_region_lit ?_
    refine s_assign hm rfl rfl ?_
    clear hm a; intro a hm
    refine wpList_nil ?_
    replace hm : Fr 8 a [(2, .slice none 0 0)] := hm.keep [2]
    refine x_then_n ?_
    refine wp_ret (x_then_r ?_)
    obtain rfl := (app_some H).2
    replace hS := hS.room
    exact f_ret hm (rs := [.tmp 2]) rfl (.tmp rfl .nil) ⟨_, rfl, _, Mem.no, Mem.no, rfl, hS, Own.nil _ _ _⟩
  | false =>
    refine c_cond_f hm rfl rfl ?_
    refine wp_skip ?_
    refine x_then_n (hKJ _ _ ?_)
    refine wp_seq ?_
    refine wp_region_lit ?_
    have hq5 : Reps Kd.u8 Mem.no ([] : List UInt8) _ := (Reps.nil Kd.u8 _)
    refine s_buildSlice hm rfl Try.underlying23 ti5 rfl rfl rfl .nil rfl rfl rfl hS hq5 rfl ?_
    intro w1 v2 M3 hS' ho4
    clear hm a; intro a hm
    replace hS : Sep w0 w1 [Mem.no, M3] Z := hS'
    clear hS' hq5
    refine s_move hm rfl rfl ?_
    clear hm a; intro a hm
    refine s_append (J := Mem.no) (I' := Mem.no) (p := 1) 140737488355328 hm rfl rfl rfl Try.underlying23 ti5 rfl rfl rfl rfl hS rfl ho4 (Src.flat flat_u8 (hp0_0.src (hA.trans hS.old))) (Mem.le.refl _) (Mem.le.refl _) H ?_
    intro w8 v9 M10 hS' ho11
    clear hm a; intro a hm
    refine s_assign hm rfl rfl ?_
    clear hm a; intro a hm
    refine wpList_nil ?_
    replace hm : Fr 8 a [(2, v9)] := hm.keep [2]
    refine x_then_n ?_
    refine wp_ret ?_
    exact f_ret hm (rs := [.tmp 2]) rfl (.tmp rfl .nil) ⟨_, rfl, _, Mem.no, M10, rfl, hS', ho11⟩

set_option maxHeartbeats 4000000 in
theorem slices_Clip_sbyte_byte.calls (v : Value) (w : World) (hf : ∃ A l c, v = .slice A l c ∧ l ≤ c) : Calls Try.prog 37 [v].toArray w (Ret fun u w' => w = w' ∧ Clipped v u) := by
  obtain ⟨A, l, c, rfl, hlc⟩ := hf
  refine f_enter _ Try.func37 rfl Try.ntmps37 rfl fun a hm => ?_
  replace hm : Fr 9 a [(0, .slice A l c)] := hm
  refine wp_seq ?_
  refine wp_region_lit ?_
  refine s_assign hm rfl rfl ?_
  clear hm a; intro a hm
  refine wpList_nil ?_
  refine x_then_n ?_
  refine wp_seq ?_
  refine wp_region_lit ?_
  refine s_move hm rfl rfl ?_
  clear hm a; intro a hm
  refine s_move hm rfl rfl ?_
  clear hm a; intro a hm
  refine s_lenV hm rfl Try.underlying23 rfl ?_
  clear hm a; intro a hm
  refine s_move hm rfl rfl ?_
  clear hm a; intro a hm
  refine s_lenV hm rfl Try.underlying23 rfl ?_
  clear hm a; intro a hm
  refine s_clip hm rfl Try.underlying23 ti5 rfl rfl rfl hlc ?_
  clear hm a; intro a hm
  refine s_assign hm rfl rfl ?_
  clear hm a; intro a hm
  refine wpList_nil ?_
  refine x_then_n ?_
  refine wp_ret ?_
  exact f_ret hm (rs := [.tmp 2]) rfl (.tmp rfl .nil) ⟨_, rfl, rfl, A, l, c, rfl, rfl⟩

set_option maxHeartbeats 4000000 in
set_option maxRecDepth 20000 in
theorem pack_held.calls (x0 : Int) (r : Int) (w0 w : World) (Z A : Mem) (hA : A.le Z) (hS : Sep w0 w [] Z)
    (H : pack_held.f x0 = some r) :
    Calls Try.prog 38 [.int .i64 x0].toArray w (Ret fun v w' => ∃ (N : Mem), v = .int .i64 r ∧ Sep w0 w' [N] Z) := by
  unfold pack_held.f at H
  refine f_enter _ Try.func38 rfl Try.ntmps38 rfl fun a hm => ?_
  replace hm : Fr 6 a [(0, .int .i64 x0)] := hm
  replace hS := hS.start
  replace hS : Sep w0 w [Mem.no] Z := hS
  refine wp_seq ?_
  refine wp_region_lit ?_
  refine s_assign hm rfl rfl ?_
  clear hm a; intro a hm
  refine wpList_nil ?_
  replace hm : Fr 6 a [(0, .int .i64 x0), (2, .int .i64 0)] := hm.keep [0, 2]
  refine x_then_n ?_
  refine wp_seq ?_
  refine wp_region_lit ?_
  refine s_move hm rfl rfl ?_
  clear hm a; intro a hm
  refine s_max hm rfl rfl rfl ?_
  clear hm a; intro a hm
  refine s_min hm rfl rfl rfl ?_
  clear hm a; intro a hm
  refine s_assign hm rfl rfl ?_
  clear hm a; intro a hm
  refine wpList_nil ?_
  replace hm : Fr 6 a [(2, .int .i64 (mn (mx x0 0) 4611686018427387904))] := hm.keep [2]
  refine x_then_n ?_
  refine wp_ret ?_
  obtain rfl := Option.some.inj H
  exact f_ret hm (rs := [.tmp 2]) rfl (.tmp rfl .nil) ⟨_, rfl, Mem.no, rfl, (Sep.sel hS [0] (by decide))⟩

set_option maxHeartbeats 4000000 in
set_option maxRecDepth 20000 in
theorem pack_Num.calls (K : Nat) (x0 : List UInt8) (p0_0 : Value) (x1 : Int) (r : (List UInt8)) (w0 w : World) (Z A : Mem) (hA : A.le Z) (hS : Sep w0 w [] Z) (hp0_0 : Rd Kd.u8 A p0_0 x0)
    (H : pack_Num.f K x0 x1 = some r) :
    Calls Try.prog 28 [p0_0, .int .i64 x1].toArray w (Ret fun v w' => ∃ (u0 : Value) (N : Mem) (M0 : Mem), v = u0 ∧ Sep w0 w' [N, M0] Z ∧ Own Kd.u8 5 M0 Mem.no u0 r) := by
  unfold pack_Num.f at H
  refine f_enter _ Try.func28 rfl Try.ntmps28 rfl fun a hm => ?_
  replace hm : Fr 27 a [(0, p0_0), (1, .int .i64 x1)] := hm
  replace hS := hS.start
  replace hS : Sep w0 w [Mem.no] Z := hS
  refine wp_seq ?_
  refine wp_region_lit ?_
  refine s_assign hm rfl rfl ?_
  clear hm a; intro a hm
  refine wpList_nil ?_
  replace hm : Fr 27 a [(0, p0_0), (1, .int .i64 x1), (4, .slice none 0 0)] := hm.keep [0, 1, 4]
  refine x_then_n ?_
  refine wp_seq ?_
  refine wp_region_lit ?_
  refine s_move hm rfl rfl ?_
  clear hm a; intro a hm
  obtain ⟨t_1, et_1, H⟩ := Option.bind_eq_some_iff.1 H
  refine s_call hm rfl Try.call27 rfl (slices_Clone_sbyte_byte.calls x0 _ t_1 w0 _ _ _ (Mem.le.refl _) (hS.enter [] (by decide)) (hp0_0.mono (hA.trans (hS.le_zed []))) et_1) ?_
  rintro v_5 w_2 ⟨_, N_3, M_7, rfl, hS', hr_6⟩
  clear hm a; intro a hm
  obtain ⟨N_4, hS'', le_4, ln_4⟩ := hS.call [] (by decide) rfl (l' := []) (ow := [M_7]) rfl hS'
  replace hS : Sep w0 w_2 [N_4, M_7] Z := hS''
  clear hS' hS''
  refine s_call hm rfl Try.call37 rfl (slices_Clip_sbyte_byte.calls _ _ hr_6.slform) ?_
  rintro v_9 _ ⟨rfl, hk_10⟩
  clear hm a; intro a hm
  refine s_assign hm rfl rfl ?_
  clear hm a; intro a hm
  refine wpList_nil ?_
  replace hm : Fr 27 a [(1, .int .i64 x1), (4, .slice none 0 0), (5, v_9)] := hm.keep [1, 4, 5]
  refine x_then_n ?_
  refine c_seq fun KJ_12 hKJ_12 => ?_
  refine wp_seq ?_
  refine wp_region_lit ?_
  refine s_move hm rfl rfl ?_
  clear hm a; intro a hm
  obtain ⟨t_13, et_13, H⟩ := Option.bind_eq_some_iff.1 H
  refine s_call hm rfl Try.call38 rfl (pack_held.calls x1 t_13 w0 _ _ _ (Mem.le.refl _) (hS.enter [] (by decide))  et_13) ?_
  rintro _ w_14 ⟨N_15, rfl, hS'⟩
  clear hm a; intro a hm
  obtain ⟨N_16, hS'', le_16, ln_16⟩ := hS.call [] (by decide) rfl (l' := []) (ow := []) rfl hS'
  replace hS : Sep w0 w_14 [N_16, M_7] Z := hS''
  clear hS' hS''
  refine s_assign hm rfl rfl ?_
  clear hm a; intro a hm
  refine wpList_nil ?_
  replace hm : Fr 27 a [(1, .int .i64 t_13), (4, .slice none 0 0), (5, v_9)] := hm.keep [1, 4, 5]
  refine x_then_n ?_
  have hJ_j_25 : ∀ (x_18 : Int), ∀ (x_19 : List UInt8), pack_Num.J1 K x_18 x_19 = some r → ∀ (a : Act) (w_24 : World), (∃ (v_22 : Value) (N_17 : Mem) (M_20 : Mem), Fr 27 a [(1, .int .i64 x_18), (4, .slice none 0 0), (5, v_22)] ∧ Sep w0 w_24 [N_17, M_20] Z ∧ N_16.le N_17 ∧ Own Kd.u8 5 M_20 Mem.no v_22 x_19) → KJ_12 a w_24 := by
    clear H hm hS a
    rintro x_18 x_19 H a w_24 ⟨v_22, N_17, M_20, hm, hS, le_17, ho_23⟩
    unfold pack_Num.J1 at H
    refine hKJ_12 _ _ ?_
    refine wp_seq ?_
    refine wp_region_lit ?_
    refine s_move hm rfl rfl ?_
    clear hm a; intro a hm
    refine s_move hm rfl rfl ?_
    clear hm a; intro a hm
    refine s_conv (((toU8 x_18).toNat : Int)) hm rfl Try.underlying3 Try.underlying5 rfl (wrap_u8 _).symm ?_
    clear hm a; intro a hm
    have hq_30 : Reps Kd.u8 Mem.no ([toU8 x_18] : List UInt8) _ := ((Reps.one (d := Kd.u8) (x := toU8 x_18) (show Kd.u8.K _ _ [.int .u8 ((toU8 x_18).toNat : Int)] from rfl)).append (Reps.nil Kd.u8 _))
    refine s_buildSlice hm rfl Try.underlying23 ti5 rfl rfl rfl (.cons rfl .nil) rfl rfl rfl hS hq_30 rfl ?_
    intro w_26 v_27 M_28 hS' ho_29
    clear hm a; intro a hm
    replace hS : Sep w0 w_26 [N_17, M_20, M_28] Z := hS'
    clear hS' hq_30
    obtain ⟨t_32, et_32, H⟩ := Option.bind_eq_some_iff.1 H
    refine s_append (J := Mem.no) (I' := Mem.no) (p := 1) 140737488355328 hm rfl rfl rfl Try.underlying23 ti5 rfl rfl rfl rfl hS rfl ho_23 (Src.flat flat_u8 (ho_29.src (hS.own 2))) (Mem.le.refl _) (Mem.le.refl _) et_32 ?_
    intro w_33 v_34 M_35 hS' ho_36
    clear hm a; intro a hm
    replace hS : Sep w0 w_33 [N_17, M_35, M_28] Z := hS'
    clear hS'
    refine s_assign hm rfl rfl ?_
    clear hm a; intro a hm
    refine wpList_nil ?_
    replace hm : Fr 27 a [(4, v_34)] := hm.keep [4]
    refine x_then_n ?_
    refine wp_ret ?_
    obtain rfl := Option.some.inj H
    exact f_ret hm (rs := [.tmp 4]) rfl (.tmp rfl .nil) ⟨_, rfl, v_34, N_17, M_35, rfl, (Sep.sel hS [0, 1] (by decide)), ho_36⟩
  clear hKJ_12
  replace hS : Sep w0 w_14 [N_16, M_7] Z := hS
  replace hm : Fr 27 a [(1, .int .i64 t_13), (4, .slice none 0 0), (5, v_9)] := hm.keep [1, 4, 5]
  refine c_block ?_
  refine c_loop (fun k_45 a w_45 => ∃ (x_39 : Int) (x_40 : List UInt8) (v_43 : Value) (N_38 : Mem) (M_41 : Mem), pack_Num.L1 K (fun v => pack_Num.J1 K v.1 v.2) k_45 (x_39, x_40) = some r ∧ Fr 27 a [(1, .int .i64 x_39), (4, .slice none 0 0), (5, v_43)] ∧ Sep w0 w_45 [N_38, M_41] Z ∧ N_16.le N_38 ∧ Own Kd.u8 5 M_41 Mem.no v_43 x_40) K ⟨t_13, t_1, v_9, N_16, M_7, H, hm, (Sep.sel hS [0, 1] (by decide)), (Mem.le.refl _), (hr_6.clip hk_10)⟩ (fun a w h => by obtain ⟨_, _, _, _, _, H, _⟩ := h; cases (show (none : Option ((List UInt8))) = some r from H)) ?_
  clear hm hS a H
  rintro k_45 a w_45 KL_45 hKL_45 ⟨x_39, x_40, v_43, N_38, M_41, H, hm, hS, le_38, ho_44⟩
  replace H : pack_Num.B1 K (fun v => pack_Num.J1 K v.1 v.2) (pack_Num.L1 K (fun v => pack_Num.J1 K v.1 v.2) k_45) x_39 x_40 = some r := H
  unfold pack_Num.B1 at H
  refine c_seq fun KJ_47 hKJ_47 => ?_
  refine wp_seq ?_
  refine wp_region_lit ?_
  refine s_move hm rfl rfl ?_
  clear hm a; intro a hm
  refine s_cmp (b := decide (x_39 ≥ 128)) hm rfl rfl rfl (.inr (.inr (.inr (.inr (.inr ⟨rfl, rfl⟩))))) ?_
  clear hm a; intro a hm
  refine wpList_nil ?_
  replace hm : Fr 27 a [(1, .int .i64 x_39), (4, .slice none 0 0), (5, v_43), (12, .bool (decide (x_39 ≥ 128)))] := hm.keep [1, 4, 5, 12]
  refine x_then_n ?_
  by_cases hc_48 : x_39 ≥ 128
  · rw [if_pos hc_48] at H
    refine c_cond_t hm rfl (decide_eq_true hc_48) ?_
    refine wp_skip ?_
    refine x_then_n (hKJ_47 _ _ ?_)
    refine wp_seq ?_
    refine c_block ?_
    refine wp_region_lit ?_
    refine s_move hm rfl rfl ?_
    clear hm a; intro a hm
    refine s_move hm rfl rfl ?_
    clear hm a; intro a hm
    refine s_bits (i := x_39) (j := 127) (r := band .i64 x_39 127) hm rfl rfl rfl (.inl ⟨rfl, rfl⟩) ?_
    clear hm a; intro a hm
    refine s_bits (i := band .i64 x_39 127) (j := 128) (r := bor .i64 (band .i64 x_39 127) 128) hm rfl rfl rfl (.inr (.inl ⟨rfl, rfl⟩)) ?_
    clear hm a; intro a hm
    refine s_conv (((toU8 (bor .i64 (band .i64 x_39 127) 128)).toNat : Int)) hm rfl Try.underlying3 Try.underlying5 rfl (wrap_u8 _).symm ?_
    clear hm a; intro a hm
    have hq_53 : Reps Kd.u8 Mem.no ([toU8 (bor .i64 (band .i64 x_39 127) 128)] : List UInt8) _ := ((Reps.one (d := Kd.u8) (x := toU8 (bor .i64 (band .i64 x_39 127) 128)) (show Kd.u8.K _ _ [.int .u8 ((toU8 (bor .i64 (band .i64 x_39 127) 128)).toNat : Int)] from rfl)).append (Reps.nil Kd.u8 _))
    refine s_buildSlice hm rfl Try.underlying23 ti5 rfl rfl rfl (.cons rfl .nil) rfl rfl rfl hS hq_53 rfl ?_
    intro w_49 v_50 M_51 hS' ho_52
    clear hm a; intro a hm
    replace hS : Sep w0 w_49 [N_38, M_41, M_51] Z := hS'
    clear hS' hq_53
    obtain ⟨t_55, et_55, H⟩ := Option.bind_eq_some_iff.1 H
    refine s_append (J := Mem.no) (I' := Mem.no) (p := 1) 140737488355328 hm rfl rfl rfl Try.underlying23 ti5 rfl rfl rfl rfl hS rfl ho_44 (Src.flat flat_u8 (ho_52.src (hS.own 2))) (Mem.le.refl _) (Mem.le.refl _) et_55 ?_
    intro w_56 v_57 M_58 hS' ho_59
    clear hm a; intro a hm
    replace hS : Sep w0 w_56 [N_38, M_58, M_51] Z := hS'
    clear hS'
    refine s_assign hm rfl rfl ?_
    clear hm a; intro a hm
    refine wpList_nil ?_
    replace hm : Fr 27 a [(1, .int .i64 x_39), (4, .slice none 0 0), (5, v_57)] := hm.keep [1, 4, 5]
    refine x_block_n ?_
    refine x_then_n ?_
    refine wp_region_lit ?_
    refine s_move hm rfl rfl ?_
    clear hm a; intro a hm
    refine s_shift (r := shr .i64 x_39 7) hm rfl rfl rfl (by decide) (.inr ⟨rfl, rfl⟩) ?_
    clear hm a; intro a hm
    refine s_assign hm rfl rfl ?_
    clear hm a; intro a hm
    refine wpList_nil ?_
    replace hm : Fr 27 a [(1, .int .i64 (shr .i64 x_39 7)), (4, .slice none 0 0), (5, v_57)] := hm.keep [1, 4, 5]
    refine x_then_n (hKL_45 _ _ ?_)
    replace hS : Sep w0 w_56 [N_38, M_58, M_51] Z := hS
    replace hm : Fr 27 a [(1, .int .i64 (shr .i64 x_39 7)), (4, .slice none 0 0), (5, v_57)] := hm.keep [1, 4, 5]
    exact ⟨shr .i64 x_39 7, t_55, v_57, N_38, M_58, H, hm, (Sep.sel hS [0, 1] (by decide)), le_38, ho_59⟩
  · rw [if_neg hc_48] at H
    refine c_cond_f hm rfl (decide_eq_false hc_48) ?_
    refine wp_exit (x_then_x (x_then_x (x_block_t ?_)))
    replace hS : Sep w0 w_45 [N_38, M_41] Z := hS
    replace hm : Fr 27 a [(1, .int .i64 x_39), (4, .slice none 0 0), (5, v_43)] := hm.keep [1, 4, 5]
    exact x_then_n (hJ_j_25 x_39 x_40 H _ _ ⟨v_43, N_38, M_41, hm, (Sep.sel hS [0, 1] (by decide)), le_38, ho_44⟩)

set_option maxHeartbeats 4000000 in
set_option maxRecDepth 20000 in
theorem disk_held.calls (x0 : Int) (r : Int) (w0 w : World) (Z A : Mem) (hA : A.le Z) (hS : Sep w0 w [] Z)
    (H : disk_held.f x0 = some r) :
    Calls Try.prog 29 [.int .i64 x0].toArray w (Ret fun v w' => ∃ (N : Mem), v = .int .i64 r ∧ Sep w0 w' [N] Z) := by
  unfold disk_held.f at H
  refine f_enter _ Try.func29 rfl Try.ntmps29 rfl fun a hm => ?_
  replace hm : Fr 6 a [(0, .int .i64 x0)] := hm
  replace hS := hS.start
  replace hS : Sep w0 w [Mem.no] Z := hS
  refine wp_seq ?_
  refine wp_region_lit ?_
  refine s_assign hm rfl rfl ?_
  clear hm a; intro a hm
  refine wpList_nil ?_
  replace hm : Fr 6 a [(0, .int .i64 x0), (2, .int .i64 0)] := hm.keep [0, 2]
  refine x_then_n ?_
  refine wp_seq ?_
  refine wp_region_lit ?_
  refine s_move hm rfl rfl ?_
  clear hm a; intro a hm
  refine s_max hm rfl rfl rfl ?_
  clear hm a; intro a hm
  refine s_min hm rfl rfl rfl ?_
  clear hm a; intro a hm
  refine s_assign hm rfl rfl ?_
  clear hm a; intro a hm
  refine wpList_nil ?_
  replace hm : Fr 6 a [(2, .int .i64 (mn (mx x0 0) 1099511627776))] := hm.keep [2]
  refine x_then_n ?_
  refine wp_ret ?_
  obtain rfl := Option.some.inj H
  exact f_ret hm (rs := [.tmp 2]) rfl (.tmp rfl .nil) ⟨_, rfl, Mem.no, rfl, (Sep.sel hS [0] (by decide))⟩

set_option maxHeartbeats 4000000 in
set_option maxRecDepth 20000 in
theorem crcs_Next.calls (K : Nat) (x0 : UInt32) (x1 : UInt8) (r : UInt32) (w0 w : World) (Z A : Mem) (hA : A.le Z) (hS : Sep w0 w [] Z)
    (H : crcs_Next.f K x0 x1 = some r) :
    Calls Try.prog 39 [.int .u32 (x0.toNat : Int), .int .u8 (x1.toNat : Int)].toArray w (Ret fun v w' => ∃ (N : Mem), v = .int .u32 (r.toNat : Int) ∧ Sep w0 w' [N] Z) := by
  unfold crcs_Next.f at H
  refine f_enter _ Try.func39 rfl Try.ntmps39 rfl fun a hm => ?_
  replace hm : Fr 22 a [(0, .int .u32 (x0.toNat : Int)), (1, .int .u8 (x1.toNat : Int))] := hm
  replace hS := hS.start
  replace hS : Sep w0 w [Mem.no] Z := hS
  refine wp_seq ?_
  refine wp_region_lit ?_
  refine s_assign hm rfl rfl ?_
  clear hm a; intro a hm
  refine wpList_nil ?_
  replace hm : Fr 22 a [(0, .int .u32 (x0.toNat : Int)), (1, .int .u8 (x1.toNat : Int)), (4, .int .u32 ((0 : UInt32).toNat : Int))] := hm.keep [0, 1, 4]
  refine x_then_n ?_
  refine wp_seq ?_
  refine wp_region_lit ?_
  refine s_move hm rfl rfl ?_
  clear hm a; intro a hm
  refine s_move hm rfl rfl ?_
  clear hm a; intro a hm
  refine s_conv (((toU32 (x1.toNat : Int)).toNat : Int)) hm rfl Try.underlying5 Try.underlying52 rfl (wrap_u32 _).symm ?_
  clear hm a; intro a hm
  refine s_bits (i := (x0.toNat : Int)) (j := ((toU32 (x1.toNat : Int)).toNat : Int)) (r := ((x0 ^^^ (toU32 (x1.toNat : Int))).toNat : Int)) hm rfl rfl rfl (.inr (.inr (.inl ⟨rfl, (bxor32 _ _).symm⟩))) ?_
  clear hm a; intro a hm
  refine s_assign hm rfl rfl ?_
  clear hm a; intro a hm
  refine wpList_nil ?_
  replace hm : Fr 22 a [(0, .int .u32 ((x0 ^^^ (toU32 (x1.toNat : Int))).toNat : Int)), (4, .int .u32 ((0 : UInt32).toNat : Int))] := hm.keep [0, 4]
  refine x_then_n ?_
  refine c_seq fun KJ_1 hKJ_1 => ?_
  refine wp_seq ?_
  refine wp_region_lit ?_
  refine s_move hm rfl rfl ?_
  clear hm a; intro a hm
  refine wpList_nil ?_
  replace hm : Fr 22 a [(0, .int .u32 ((x0 ^^^ (toU32 (x1.toNat : Int))).toNat : Int)), (4, .int .u32 ((0 : UInt32).toNat : Int)), (10, .int .i64 0)] := hm.keep [0, 4, 10]
  refine x_then_n ?_
  have hJ_j_5 : ∀ (x_3 : UInt32), crcs_Next.J1 K x_3 = some r → ∀ (a : Act) (w_4 : World), (∃ (N_2 : Mem), Fr 22 a [(0, .int .u32 (x_3.toNat : Int)), (4, .int .u32 ((0 : UInt32).toNat : Int))] ∧ Sep w0 w_4 [N_2] Z ∧ Mem.no.le N_2) → KJ_1 a w_4 := by
    clear H hm hS a
    rintro x_3 H a w_4 ⟨N_2, hm, hS, le_2⟩
    unfold crcs_Next.J1 at H
    refine hKJ_1 _ _ ?_
    refine wp_seq ?_
    refine wp_region_lit ?_
    refine s_move hm rfl rfl ?_
    clear hm a; intro a hm
    refine s_assign hm rfl rfl ?_
    clear hm a; intro a hm
    refine wpList_nil ?_
    replace hm : Fr 22 a [(4, .int .u32 (x_3.toNat : Int))] := hm.keep [4]
    refine x_then_n ?_
    refine wp_ret ?_
    obtain rfl := Option.some.inj H
    exact f_ret hm (rs := [.tmp 4]) rfl (.tmp rfl .nil) ⟨_, rfl, N_2, rfl, (Sep.sel hS [0] (by decide))⟩
  clear hKJ_1
  replace hS : Sep w0 w [Mem.no] Z := hS
  replace hm : Fr 22 a [(0, .int .u32 ((x0 ^^^ (toU32 (x1.toNat : Int))).toNat : Int)), (4, .int .u32 ((0 : UInt32).toNat : Int)), (10, .int .i64 0)] := hm.keep [0, 4, 10]
  refine c_block ?_
  refine c_loop (fun k_9 a w_9 => ∃ (x_7 : UInt32) (x_8 : Int) (N_6 : Mem), crcs_Next.L1 K (fun v => crcs_Next.J1 K v) k_9 (x_7, x_8) = some r ∧ Fr 22 a [(0, .int .u32 (x_7.toNat : Int)), (4, .int .u32 ((0 : UInt32).toNat : Int)), (10, .int .i64 x_8)] ∧ Sep w0 w_9 [N_6] Z ∧ Mem.no.le N_6) K ⟨x0 ^^^ (toU32 (x1.toNat : Int)), 0, Mem.no, H, hm, (Sep.sel hS [0] (by decide)), (Mem.le.refl _)⟩ (fun a w h => by obtain ⟨_, _, _, H, _⟩ := h; cases (show (none : Option (UInt32)) = some r from H)) ?_
  clear hm hS a H
  rintro k_9 a w_9 KL_9 hKL_9 ⟨x_7, x_8, N_6, H, hm, hS, le_6⟩
  replace H : crcs_Next.B1 K (fun v => crcs_Next.J1 K v) (crcs_Next.L1 K (fun v => crcs_Next.J1 K v) k_9) x_7 x_8 = some r := H
  unfold crcs_Next.B1 at H
  refine wp_seq ?_
  refine wp_region_lit ?_
  refine s_cmp (b := decide (x_8 < 8)) hm rfl rfl rfl (.inr (.inr (.inl ⟨rfl, rfl⟩))) ?_
  clear hm a; intro a hm
  refine wpList_nil ?_
  replace hm : Fr 22 a [(0, .int .u32 (x_7.toNat : Int)), (4, .int .u32 ((0 : UInt32).toNat : Int)), (10, .int .i64 x_8), (11, .bool (decide (x_8 < 8)))] := hm.keep [0, 4, 10, 11]
  refine x_then_n ?_
  refine c_seq fun KJ_11 hKJ_11 => ?_
  by_cases hc_12 : x_8 < 8
  · rw [if_pos hc_12] at H
    refine c_cond_t hm rfl (decide_eq_true hc_12) ?_
    refine wp_skip ?_
    refine x_then_n (hKJ_11 _ _ ?_)
    refine c_seq fun KJ_13 hKJ_13 => ?_
    refine c_block ?_
    refine wp_seq ?_
    refine wp_region_lit ?_
    refine s_move hm rfl rfl ?_
    clear hm a; intro a hm
    refine s_bits (i := (x_7.toNat : Int)) (j := ((1 : UInt32).toNat : Int)) (r := ((x_7 &&& (1 : UInt32)).toNat : Int)) hm rfl rfl rfl (.inl ⟨rfl, (band32 _ _).symm⟩) ?_
    clear hm a; intro a hm
    refine s_assign hm rfl rfl ?_
    clear hm a; intro a hm
    refine wpList_nil ?_
    replace hm : Fr 22 a [(0, .int .u32 (x_7.toNat : Int)), (4, .int .u32 ((0 : UInt32).toNat : Int)), (5, .int .u32 ((x_7 &&& (1 : UInt32)).toNat : Int)), (10, .int .i64 x_8)] := hm.keep [0, 4, 5, 10]
    refine x_then_n ?_
    refine wp_seq ?_
    refine wp_region_lit ?_
    refine s_move hm rfl rfl ?_
    clear hm a; intro a hm
    refine s_shift (r := ((toU32 (shr .u32 (x_7.toNat : Int) 1)).toNat : Int)) hm rfl rfl rfl (by decide) (.inr ⟨rfl, (shr32 _ _).symm⟩) ?_
    clear hm a; intro a hm
    refine s_assign hm rfl rfl ?_
    clear hm a; intro a hm
    refine wpList_nil ?_
    replace hm : Fr 22 a [(0, .int .u32 ((toU32 (shr .u32 (x_7.toNat : Int) 1)).toNat : Int)), (4, .int .u32 ((0 : UInt32).toNat : Int)), (5, .int .u32 ((x_7 &&& (1 : UInt32)).toNat : Int)), (10, .int .i64 x_8)] := hm.keep [0, 4, 5, 10]
    refine x_then_n ?_
    refine wp_seq ?_
    refine wp_region_lit ?_
    refine s_move hm rfl rfl ?_
    clear hm a; intro a hm
    refine s_cmp (b := (((x_7 &&& (1 : UInt32)).toNat : Int) == ((1 : UInt32).toNat : Int))) hm rfl rfl rfl (.inl ⟨rfl, rfl⟩) ?_
    clear hm a; intro a hm
    refine wpList_nil ?_
    replace hm : Fr 22 a [(0, .int .u32 ((toU32 (shr .u32 (x_7.toNat : Int) 1)).toNat : Int)), (4, .int .u32 ((0 : UInt32).toNat : Int)), (10, .int .i64 x_8), (17, .bool (((x_7 &&& (1 : UInt32)).toNat : Int) == ((1 : UInt32).toNat : Int)))] := hm.keep [0, 4, 10, 17]
    refine x_then_n ?_
    by_cases hc_14 : ((x_7 &&& (1 : UInt32)).toNat : Int) = ((1 : UInt32).toNat : Int)
    · rw [if_pos hc_14] at H
      refine c_cond_t hm rfl (beq_iff_eq.2 hc_14) ?_
      refine wp_region_lit ?_
      refine s_move hm rfl rfl ?_
      clear hm a; intro a hm
      refine s_bits (i := ((toU32 (shr .u32 (x_7.toNat : Int) 1)).toNat : Int)) (j := ((3988292384 : UInt32).toNat : Int)) (r := (((toU32 (shr .u32 (x_7.toNat : Int) 1)) ^^^ (3988292384 : UInt32)).toNat : Int)) hm rfl rfl rfl (.inr (.inr (.inl ⟨rfl, (bxor32 _ _).symm⟩))) ?_
      clear hm a; intro a hm
      refine s_assign hm rfl rfl ?_
      clear hm a; intro a hm
      refine wpList_nil ?_
      replace hm : Fr 22 a [(0, .int .u32 (((toU32 (shr .u32 (x_7.toNat : Int) 1)) ^^^ (3988292384 : UInt32)).toNat : Int)), (4, .int .u32 ((0 : UInt32).toNat : Int)), (10, .int .i64 x_8)] := hm.keep [0, 4, 10]
      refine x_block_n ?_
      refine x_then_n (hKJ_13 _ _ ?_)
      refine wp_region_lit ?_
      refine s_arith (r := w64 (x_8 + 1)) hm rfl rfl rfl (.inl ⟨rfl, rfl⟩) ?_
      clear hm a; intro a hm
      refine s_move hm rfl rfl ?_
      clear hm a; intro a hm
      refine wpList_nil ?_
      replace hm : Fr 22 a [(0, .int .u32 (((toU32 (shr .u32 (x_7.toNat : Int) 1)) ^^^ (3988292384 : UInt32)).toNat : Int)), (4, .int .u32 ((0 : UInt32).toNat : Int)), (10, .int .i64 (w64 (x_8 + 1)))] := hm.keep [0, 4, 10]
      refine x_then_n (hKL_9 _ _ ?_)
      replace hS : Sep w0 w_9 [N_6] Z := hS
      replace hm : Fr 22 a [(0, .int .u32 (((toU32 (shr .u32 (x_7.toNat : Int) 1)) ^^^ (3988292384 : UInt32)).toNat : Int)), (4, .int .u32 ((0 : UInt32).toNat : Int)), (10, .int .i64 (w64 (x_8 + 1)))] := hm.keep [0, 4, 10]
      exact ⟨(toU32 (shr .u32 (x_7.toNat : Int) 1)) ^^^ (3988292384 : UInt32), w64 (x_8 + 1), N_6, H, hm, (Sep.sel hS [0] (by decide)), le_6⟩
    · rw [if_neg hc_14] at H
      refine c_cond_f hm rfl (beq_eq_false_iff_ne.2 hc_14) ?_
      refine wp_skip ?_
      refine x_block_n ?_
      refine x_then_n (hKJ_13 _ _ ?_)
      refine wp_region_lit ?_
      refine s_arith (r := w64 (x_8 + 1)) hm rfl rfl rfl (.inl ⟨rfl, rfl⟩) ?_
      clear hm a; intro a hm
      refine s_move hm rfl rfl ?_
      clear hm a; intro a hm
      refine wpList_nil ?_
      replace hm : Fr 22 a [(0, .int .u32 ((toU32 (shr .u32 (x_7.toNat : Int) 1)).toNat : Int)), (4, .int .u32 ((0 : UInt32).toNat : Int)), (10, .int .i64 (w64 (x_8 + 1)))] := hm.keep [0, 4, 10]
      refine x_then_n (hKL_9 _ _ ?_)
      replace hS : Sep w0 w_9 [N_6] Z := hS
      replace hm : Fr 22 a [(0, .int .u32 ((toU32 (shr .u32 (x_7.toNat : Int) 1)).toNat : Int)), (4, .int .u32 ((0 : UInt32).toNat : Int)), (10, .int .i64 (w64 (x_8 + 1)))] := hm.keep [0, 4, 10]
      exact ⟨toU32 (shr .u32 (x_7.toNat : Int) 1), w64 (x_8 + 1), N_6, H, hm, (Sep.sel hS [0] (by decide)), le_6⟩
  · rw [if_neg hc_12] at H
    refine c_cond_f hm rfl (decide_eq_false hc_12) ?_
    refine wp_exit (x_then_x (x_then_x (x_block_t ?_)))
    replace hS : Sep w0 w_9 [N_6] Z := hS
    replace hm : Fr 22 a [(0, .int .u32 (x_7.toNat : Int)), (4, .int .u32 ((0 : UInt32).toNat : Int))] := hm.keep [0, 4]
    exact x_then_n (hJ_j_5 x_7 H _ _ ⟨N_6, hm, (Sep.sel hS [0] (by decide)), le_6⟩)

set_option maxHeartbeats 4000000 in
set_option maxRecDepth 20000 in
theorem crcs_Sum.calls (K : Nat) (x0 : List UInt8) (p0_0 : Value) (r : UInt32) (w0 w : World) (Z A : Mem) (hA : A.le Z) (hS : Sep w0 w [] Z) (hp0_0 : Rd Kd.u8 A p0_0 x0)
    (H : crcs_Sum.f K x0 = some r) :
    Calls Try.prog 30 [p0_0].toArray w (Ret fun v w' => ∃ (N : Mem), v = .int .u32 (r.toNat : Int) ∧ Sep w0 w' [N] Z) := by
  unfold crcs_Sum.f at H
  refine f_enter _ Try.func30 rfl Try.ntmps30 rfl fun a hm => ?_
  replace hm : Fr 18 a [(0, p0_0)] := hm
  replace hS := hS.start
  replace hS : Sep w0 w [Mem.no] Z := hS
  refine wp_seq ?_
  refine wp_region_lit ?_
  refine s_assign hm rfl rfl ?_
  clear hm a; intro a hm
  refine wpList_nil ?_
  replace hm : Fr 18 a [(0, p0_0), (2, .int .u32 ((0 : UInt32).toNat : Int))] := hm.keep [0, 2]
  refine x_then_n ?_
  refine wp_seq ?_
  refine wp_region_lit ?_
  refine s_assign hm rfl rfl ?_
  clear hm a; intro a hm
  refine wpList_nil ?_
  replace hm : Fr 18 a [(0, p0_0), (2, .int .u32 ((0 : UInt32).toNat : Int)), (3, .int .u32 ((4294967295 : UInt32).toNat : Int))] := hm.keep [0, 2, 3]
  refine x_then_n ?_
  refine c_seq fun KJ_1 hKJ_1 => ?_
  refine wp_seq ?_
  refine wp_region_lit ?_
  refine s_move hm rfl rfl ?_
  clear hm a; intro a hm
  refine s_len hm rfl Try.underlying23 rfl hp0_0 ?_
  clear hm a; intro a hm
  refine s_move hm rfl rfl ?_
  clear hm a; intro a hm
  refine wpList_nil ?_
  replace hm : Fr 18 a [(2, .int .u32 ((0 : UInt32).toNat : Int)), (3, .int .u32 ((4294967295 : UInt32).toNat : Int)), (6, p0_0), (7, .int .i64 (x0.length : Int)), (8, .int .i64 0)] := hm.keep [2, 3, 6, 7, 8]
  refine x_then_n ?_
  have hJ_j_5 : ∀ (x_3 : UInt32), crcs_Sum.J1 K x_3 = some r → ∀ (a : Act) (w_4 : World), (∃ (N_2 : Mem), Fr 18 a [(2, .int .u32 ((0 : UInt32).toNat : Int)), (3, .int .u32 (x_3.toNat : Int))] ∧ Sep w0 w_4 [N_2] Z ∧ Mem.no.le N_2) → KJ_1 a w_4 := by
    clear H hm hS a
    rintro x_3 H a w_4 ⟨N_2, hm, hS, le_2⟩
    unfold crcs_Sum.J1 at H
    refine hKJ_1 _ _ ?_
    refine wp_seq ?_
    refine wp_region_lit ?_
    refine s_move hm rfl rfl ?_
    clear hm a; intro a hm
    refine s_bits (i := (x_3.toNat : Int)) (j := ((4294967295 : UInt32).toNat : Int)) (r := ((x_3 ^^^ (4294967295 : UInt32)).toNat : Int)) hm rfl rfl rfl (.inr (.inr (.inl ⟨rfl, (bxor32 _ _).symm⟩))) ?_
    clear hm a; intro a hm
    refine s_assign hm rfl rfl ?_
    clear hm a; intro a hm
    refine wpList_nil ?_
    replace hm : Fr 18 a [(2, .int .u32 ((x_3 ^^^ (4294967295 : UInt32)).toNat : Int))] := hm.keep [2]
    refine x_then_n ?_
    refine wp_ret ?_
    obtain rfl := Option.some.inj H
    exact f_ret hm (rs := [.tmp 2]) rfl (.tmp rfl .nil) ⟨_, rfl, N_2, rfl, (Sep.sel hS [0] (by decide))⟩
  clear hKJ_1
  replace hS : Sep w0 w [Mem.no] Z := hS
  replace hm : Fr 18 a [(2, .int .u32 ((0 : UInt32).toNat : Int)), (3, .int .u32 ((4294967295 : UInt32).toNat : Int)), (6, p0_0), (7, .int .i64 (x0.length : Int)), (8, .int .i64 0)] := hm.keep [2, 3, 6, 7, 8]
  refine c_block ?_
  refine c_loop (fun k_9 a w_9 => ∃ (x_7 : UInt32) (x_8 : Int) (N_6 : Mem), crcs_Sum.L1 K x0 (fun v => crcs_Sum.J1 K v) k_9 (x_7, x_8) = some r ∧ Fr 18 a [(2, .int .u32 ((0 : UInt32).toNat : Int)), (3, .int .u32 (x_7.toNat : Int)), (6, p0_0), (7, .int .i64 (x0.length : Int)), (8, .int .i64 x_8)] ∧ Sep w0 w_9 [N_6] Z ∧ Mem.no.le N_6) K ⟨(4294967295 : UInt32), 0, Mem.no, H, hm, (Sep.sel hS [0] (by decide)), (Mem.le.refl _)⟩ (fun a w h => by obtain ⟨_, _, _, H, _⟩ := h; cases (show (none : Option (UInt32)) = some r from H)) ?_
  clear hm hS a H
  rintro k_9 a w_9 KL_9 hKL_9 ⟨x_7, x_8, N_6, H, hm, hS, le_6⟩
  replace H : crcs_Sum.B1 K x0 (fun v => crcs_Sum.J1 K v) (crcs_Sum.L1 K x0 (fun v => crcs_Sum.J1 K v) k_9) x_7 x_8 = some r := H
  unfold crcs_Sum.B1 at H
  refine wp_seq ?_
  refine wp_region_lit ?_
  refine s_cmp (b := decide (x_8 < (x0.length : Int))) hm rfl rfl rfl (.inr (.inr (.inl ⟨rfl, rfl⟩))) ?_
  clear hm a; intro a hm
  refine wpList_nil ?_
  replace hm : Fr 18 a [(2, .int .u32 ((0 : UInt32).toNat : Int)), (3, .int .u32 (x_7.toNat : Int)), (6, p0_0), (7, .int .i64 (x0.length : Int)), (8, .int .i64 x_8), (9, .bool (decide (x_8 < (x0.length : Int))))] := hm.keep [2, 3, 6, 7, 8, 9]
  refine x_then_n ?_
  refine c_seq fun KJ_11 hKJ_11 => ?_
  by_cases hc_12 : x_8 < (x0.length : Int)
  · rw [if_pos hc_12] at H
    refine c_cond_t hm rfl (decide_eq_true hc_12) ?_
    refine wp_skip ?_
    refine x_then_n (hKJ_11 _ _ ?_)
    refine wp_seq ?_
    refine c_block ?_
    refine wp_seq ?_
    refine wp_region_lit ?_
    obtain ⟨t_13, et_13, H⟩ := Option.bind_eq_some_iff.1 H
    refine v_index hm rfl Try.underlying23 ti5 rfl rfl rfl hp0_0 (hA.trans hS.old) et_13 ?_
    intro ad_14 cs_15 hk_16 hc_17
    obtain rfl := (show cs_15 = [.int .u8 (t_13.toNat : Int)] from hk_16)
    clear hm a; intro a hm
    refine s_load hm rfl rfl (el_one (o := 0) hc_17 Try.underlying5 rfl rfl) ?_
    clear hm a; intro a hm
    refine s_assign hm rfl rfl ?_
    clear hm a; intro a hm
    refine wpList_nil ?_
    replace hm : Fr 18 a [(2, .int .u32 ((0 : UInt32).toNat : Int)), (3, .int .u32 (x_7.toNat : Int)), (5, .int .u8 (t_13.toNat : Int)), (6, p0_0), (7, .int .i64 (x0.length : Int)), (8, .int .i64 x_8)] := hm.keep [2, 3, 5, 6, 7, 8]
    refine x_then_n ?_
    refine wp_region_lit ?_
    refine s_move hm rfl rfl ?_
    clear hm a; intro a hm
    refine s_move hm rfl rfl ?_
    clear hm a; intro a hm
    obtain ⟨t_18, et_18, H⟩ := Option.bind_eq_some_iff.1 H
    refine s_call hm rfl Try.call39 rfl (crcs_Next.calls K x_7 t_13 t_18 w0 _ _ _ (Mem.le.refl _) (hS.enter [] (by decide))  et_18) ?_
    rintro _ w_19 ⟨N_20, rfl, hS'⟩
    clear hm a; intro a hm
    obtain ⟨N_21, hS'', le_21, ln_21⟩ := hS.call [] (by decide) rfl (l' := []) (ow := []) rfl hS'
    replace hS : Sep w0 w_19 [N_21] Z := hS''
    clear hS' hS''
    refine s_assign hm rfl rfl ?_
    clear hm a; intro a hm
    refine wpList_nil ?_
    replace hm : Fr 18 a [(2, .int .u32 ((0 : UInt32).toNat : Int)), (3, .int .u32 (t_18.toNat : Int)), (6, p0_0), (7, .int .i64 (x0.length : Int)), (8, .int .i64 x_8)] := hm.keep [2, 3, 6, 7, 8]
    refine x_block_n ?_
    refine x_then_n ?_
    refine wp_region_lit ?_
    refine s_arith (r := w64 (x_8 + 1)) hm rfl rfl rfl (.inl ⟨rfl, rfl⟩) ?_
    clear hm a; intro a hm
    refine s_move hm rfl rfl ?_
    clear hm a; intro a hm
    refine wpList_nil ?_
    replace hm : Fr 18 a [(2, .int .u32 ((0 : UInt32).toNat : Int)), (3, .int .u32 (t_18.toNat : Int)), (6, p0_0), (7, .int .i64 (x0.length : Int)), (8, .int .i64 (w64 (x_8 + 1)))] := hm.keep [2, 3, 6, 7, 8]
    refine x_then_n (hKL_9 _ _ ?_)
    replace hS : Sep w0 w_19 [N_21] Z := hS
    replace hm : Fr 18 a [(2, .int .u32 ((0 : UInt32).toNat : Int)), (3, .int .u32 (t_18.toNat : Int)), (6, p0_0), (7, .int .i64 (x0.length : Int)), (8, .int .i64 (w64 (x_8 + 1)))] := hm.keep [2, 3, 6, 7, 8]
    exact ⟨t_18, w64 (x_8 + 1), N_21, H, hm, (Sep.sel hS [0] (by decide)), (le_6.trans le_21)⟩
  · rw [if_neg hc_12] at H
    refine c_cond_f hm rfl (decide_eq_false hc_12) ?_
    refine wp_exit (x_then_x (x_then_x (x_block_t ?_)))
    replace hS : Sep w0 w_9 [N_6] Z := hS
    replace hm : Fr 18 a [(2, .int .u32 ((0 : UInt32).toNat : Int)), (3, .int .u32 (x_7.toNat : Int))] := hm.keep [2, 3]
    exact x_then_n (hJ_j_5 x_7 H _ _ ⟨N_6, hm, (Sep.sel hS [0] (by decide)), le_6⟩)

set_option maxHeartbeats 4000000 in
set_option maxRecDepth 20000 in
theorem disk_Slot.calls (K : Nat) (x0 : Int) (x1 : api_Record) (r : (List UInt8)) (w0 w : World) (Z A : Mem) (hA : A.le Z) (hS : Sep w0 w [] Z)
    (H : disk_Slot.f K x0 x1 = some r) :
    Calls Try.prog 14 [.int .i64 x0, .agg [.int .i64 x1.Inc, .int .i64 x1.Prom, .int .i64 x1.Inst].toArray].toArray w (Ret fun v w' => ∃ (u0 : Value) (N : Mem) (M0 : Mem), v = u0 ∧ Sep w0 w' [N, M0] Z ∧ Own Kd.u8 5 M0 Mem.no u0 r) := by
  unfold disk_Slot.f at H
  refine f_enter _ Try.func14 rfl Try.ntmps14 rfl fun a hm => ?_
  replace hm : Fr 43 a [(0, .int .i64 x0), (1, .agg [.int .i64 x1.Inc, .int .i64 x1.Prom, .int .i64 x1.Inst].toArray)] := hm
  replace hS := hS.start
  replace hS : Sep w0 w [Mem.no] Z := hS
  refine wp_seq ?_
  refine wp_region_lit ?_
  refine v_box (vs := [.int .i64 x1.Inc, .int .i64 x1.Prom, .int .i64 x1.Inst]) hm rfl rfl rfl hS ?_
  intro w_1 g_2 hS'
  clear hm a; intro a hm
  replace hS : Sep w0 w_1 [Mem.no, Mem.one g_2 (.cells ([.int .i64 x1.Inc, .int .i64 x1.Prom, .int .i64 x1.Inst] : List Value).toArray 28 (0, 0))] Z := hS'
  clear hS'
  refine s_assign hm rfl rfl ?_
  clear hm a; intro a hm
  refine wpList_nil ?_
  replace hm : Fr 43 a [(0, .int .i64 x0), (3, .pointer (some ⟨g_2, 0, none⟩)), (4, .slice none 0 0)] := hm.keep [0, 3, 4]
  refine x_then_n ?_
  refine wp_seq ?_
  refine wp_region_lit ?_
  refine s_assign hm rfl rfl ?_
  clear hm a; intro a hm
  refine wpList_nil ?_
  replace hm : Fr 43 a [(0, .int .i64 x0), (3, .pointer (some ⟨g_2, 0, none⟩)), (4, .slice none 0 0), (5, .slice none 0 0)] := hm.keep [0, 3, 4, 5]
  refine x_then_n ?_
  refine c_seq fun KJ_3 hKJ_3 => ?_
  refine wp_seq ?_
  refine wp_region_lit ?_
  refine s_move hm rfl rfl ?_
  clear hm a; intro a hm
  refine s_fieldAddr hm rfl Try.underlying28 rfl ti3 rfl rfl ?_
  clear hm a; intro a hm
  refine s_load hm rfl rfl (hS.load_one (p := 1) rfl Try.underlying3 rfl rfl) ?_
  clear hm a; intro a hm
  refine s_fieldAddr hm rfl Try.underlying28 rfl ti3 rfl rfl ?_
  clear hm a; intro a hm
  refine s_load hm rfl rfl (hS.load_one (p := 1) rfl Try.underlying3 rfl rfl) ?_
  clear hm a; intro a hm
  refine s_fieldAddr hm rfl Try.underlying28 rfl ti3 rfl rfl ?_
  clear hm a; intro a hm
  refine s_load hm rfl rfl (hS.load_one (p := 1) rfl Try.underlying3 rfl rfl) ?_
  clear hm a; intro a hm
  have hq_8 : Reps (Kd.int .i64) Mem.no ([x0, x1.Inc, x1.Prom, x1.Inst] : List Int) _ := ((Reps.one (d := (Kd.int .i64)) (x := x0) (show (Kd.int .i64).K _ _ [.int .i64 x0] from rfl)).append ((Reps.one (d := (Kd.int .i64)) (x := x1.Inc) (show (Kd.int .i64).K _ _ [.int .i64 x1.Inc] from rfl)).append ((Reps.one (d := (Kd.int .i64)) (x := x1.Prom) (show (Kd.int .i64).K _ _ [.int .i64 x1.Prom] from rfl)).append ((Reps.one (d := (Kd.int .i64)) (x := x1.Inst) (show (Kd.int .i64).K _ _ [.int .i64 x1.Inst] from rfl)).append (Reps.nil (Kd.int .i64) _)))))
  refine s_buildSlice hm rfl Try.underlying22 ti3 rfl rfl rfl (.cons rfl (.cons rfl (.cons rfl (.cons rfl .nil)))) rfl rfl rfl hS hq_8 rfl ?_
  intro w_4 v_5 M_6 hS' ho_7
  clear hm a; intro a hm
  replace hS : Sep w0 w_4 [Mem.no, Mem.one g_2 (.cells ([.int .i64 x1.Inc, .int .i64 x1.Prom, .int .i64 x1.Inst] : List Value).toArray 28 (0, 0)), M_6] Z := hS'
  clear hS' hq_8
  refine s_lenO hm rfl Try.underlying22 rfl ho_7 ?_
  clear hm a; intro a hm
  refine s_move hm rfl rfl ?_
  clear hm a; intro a hm
  refine wpList_nil ?_
  replace hm : Fr 43 a [(4, .slice none 0 0), (5, .slice none 0 0), (16, v_5), (17, .int .i64 (([x0, x1.Inc, x1.Prom, x1.Inst] : List Int).length : Int)), (18, .int .i64 0)] := hm.keep [4, 5, 16, 17, 18]
  refine x_then_n ?_
  have hJ_j_17 : ∀ (x_11 : List UInt8), disk_Slot.J1 K x_11 = some r → ∀ (a : Act) (w_16 : World), (∃ (v_14 : Value) (N_10 : Mem) (M_12 : Mem), Fr 43 a [(4, .slice none 0 0), (5, v_14)] ∧ Sep w0 w_16 [N_10, Mem.no, Mem.no, M_12] Z ∧ Mem.no.le N_10 ∧ Own Kd.u8 5 M_12 Mem.no v_14 x_11) → KJ_3 a w_16 := by
    clear H hm hS a
    rintro x_11 H a w_16 ⟨v_14, N_10, M_12, hm, hS, le_10, ho_15⟩
    unfold disk_Slot.J1 at H
    refine hKJ_3 _ _ ?_
    refine wp_seq ?_
    refine wp_region_lit ?_
    refine s_move hm rfl rfl ?_
    clear hm a; intro a hm
    obtain ⟨t_18, et_18, H⟩ := Option.bind_eq_some_iff.1 H
    refine s_call hm rfl Try.call30 rfl (crcs_Sum.calls K x_11 _ t_18 w0 _ _ _ (Mem.le.refl _) (hS.enter [] (by decide)) (ho_15.rd (hS.own_zed [] 2 (by decide)) (Mem.no_le _)) et_18) ?_
    rintro _ w_19 ⟨N_20, rfl, hS'⟩
    clear hm a; intro a hm
    obtain ⟨N_21, hS'', le_21, ln_21⟩ := hS.call [] (by decide) rfl (l' := []) (ow := []) rfl hS'
    replace hS : Sep w0 w_19 [N_21, Mem.no, Mem.no, M_12] Z := hS''
    clear hS' hS''
    refine s_assign hm rfl rfl ?_
    clear hm a; intro a hm
    refine wpList_nil ?_
    replace hm : Fr 43 a [(4, .slice none 0 0), (5, v_14), (8, .int .u32 (t_18.toNat : Int))] := hm.keep [4, 5, 8]
    refine x_then_n ?_
    refine wp_seq ?_
    refine wp_region_lit ?_
    refine s_move hm rfl rfl ?_
    clear hm a; intro a hm
    refine s_conv (((toU8 (t_18.toNat : Int)).toNat : Int)) hm rfl Try.underlying52 Try.underlying5 rfl (wrap_u8 _).symm ?_
    clear hm a; intro a hm
    refine s_move hm rfl rfl ?_
    clear hm a; intro a hm
    refine s_shift (r := ((toU32 (shr .u32 (t_18.toNat : Int) 8)).toNat : Int)) hm rfl rfl rfl (by decide) (.inr ⟨rfl, (shr32 _ _).symm⟩) ?_
    clear hm a; intro a hm
    refine s_conv (((toU8 ((toU32 (shr .u32 (t_18.toNat : Int) 8)).toNat : Int)).toNat : Int)) hm rfl Try.underlying52 Try.underlying5 rfl (wrap_u8 _).symm ?_
    clear hm a; intro a hm
    refine s_move hm rfl rfl ?_
    clear hm a; intro a hm
    refine s_shift (r := ((toU32 (shr .u32 (t_18.toNat : Int) 16)).toNat : Int)) hm rfl rfl rfl (by decide) (.inr ⟨rfl, (shr32 _ _).symm⟩) ?_
    clear hm a; intro a hm
    refine s_conv (((toU8 ((toU32 (shr .u32 (t_18.toNat : Int) 16)).toNat : Int)).toNat : Int)) hm rfl Try.underlying52 Try.underlying5 rfl (wrap_u8 _).symm ?_
    clear hm a; intro a hm
    refine s_move hm rfl rfl ?_
    clear hm a; intro a hm
    refine s_shift (r := ((toU32 (shr .u32 (t_18.toNat : Int) 24)).toNat : Int)) hm rfl rfl rfl (by decide) (.inr ⟨rfl, (shr32 _ _).symm⟩) ?_
    clear hm a; intro a hm
    refine s_conv (((toU8 ((toU32 (shr .u32 (t_18.toNat : Int) 24)).toNat : Int)).toNat : Int)) hm rfl Try.underlying52 Try.underlying5 rfl (wrap_u8 _).symm ?_
    clear hm a; intro a hm
    have hq_26 : Reps Kd.u8 Mem.no ([toU8 (t_18.toNat : Int), toU8 ((toU32 (shr .u32 (t_18.toNat : Int) 8)).toNat : Int), toU8 ((toU32 (shr .u32 (t_18.toNat : Int) 16)).toNat : Int), toU8 ((toU32 (shr .u32 (t_18.toNat : Int) 24)).toNat : Int)] : List UInt8) _ := ((Reps.one (d := Kd.u8) (x := toU8 (t_18.toNat : Int)) (show Kd.u8.K _ _ [.int .u8 ((toU8 (t_18.toNat : Int)).toNat : Int)] from rfl)).append ((Reps.one (d := Kd.u8) (x := toU8 ((toU32 (shr .u32 (t_18.toNat : Int) 8)).toNat : Int)) (show Kd.u8.K _ _ [.int .u8 ((toU8 ((toU32 (shr .u32 (t_18.toNat : Int) 8)).toNat : Int)).toNat : Int)] from rfl)).append ((Reps.one (d := Kd.u8) (x := toU8 ((toU32 (shr .u32 (t_18.toNat : Int) 16)).toNat : Int)) (show Kd.u8.K _ _ [.int .u8 ((toU8 ((toU32 (shr .u32 (t_18.toNat : Int) 16)).toNat : Int)).toNat : Int)] from rfl)).append ((Reps.one (d := Kd.u8) (x := toU8 ((toU32 (shr .u32 (t_18.toNat : Int) 24)).toNat : Int)) (show Kd.u8.K _ _ [.int .u8 ((toU8 ((toU32 (shr .u32 (t_18.toNat : Int) 24)).toNat : Int)).toNat : Int)] from rfl)).append (Reps.nil Kd.u8 _)))))
    refine s_buildSlice hm rfl Try.underlying23 ti5 rfl rfl rfl (.cons rfl (.cons rfl (.cons rfl (.cons rfl .nil)))) rfl rfl rfl hS hq_26 rfl ?_
    intro w_22 v_23 M_24 hS' ho_25
    clear hm a; intro a hm
    replace hS : Sep w0 w_22 [N_21, Mem.no, Mem.no, M_12, M_24] Z := hS'
    clear hS' hq_26
    refine s_move hm rfl rfl ?_
    clear hm a; intro a hm
    obtain ⟨t_28, et_28, H⟩ := Option.bind_eq_some_iff.1 H
    refine s_append (J := Mem.no) (I' := Mem.no) (p := 4) 140737488355328 hm rfl rfl rfl Try.underlying23 ti5 rfl rfl rfl rfl hS rfl ho_25 (Src.flat flat_u8 (ho_15.src (hS.own 3))) (Mem.le.refl _) (Mem.le.refl _) et_28 ?_
    intro w_29 v_30 M_31 hS' ho_32
    clear hm a; intro a hm
    replace hS : Sep w0 w_29 [N_21, Mem.no, Mem.no, M_12, M_31] Z := hS'
    clear hS'
    refine s_assign hm rfl rfl ?_
    clear hm a; intro a hm
    refine wpList_nil ?_
    replace hm : Fr 43 a [(4, v_30)] := hm.keep [4]
    refine x_then_n ?_
    refine wp_ret ?_
    obtain rfl := Option.some.inj H
    exact f_ret hm (rs := [.tmp 4]) rfl (.tmp rfl .nil) ⟨_, rfl, v_30, N_21, M_31, rfl, (Sep.sel hS [0, 4] (by decide)), ho_32⟩
  clear hKJ_3
  have hS' := hS.room
  replace hS : Sep w0 w_4 [Mem.no, Mem.one g_2 (.cells ([.int .i64 x1.Inc, .int .i64 x1.Prom, .int .i64 x1.Inst] : List Value).toArray 28 (0, 0)), M_6, Mem.no] Z := hS'
  clear hS'
  replace hS : Sep w0 w_4 [Mem.no, Mem.one g_2 (.cells ([.int .i64 x1.Inc, .int .i64 x1.Prom, .int .i64 x1.Inst] : List Value).toArray 28 (0, 0)), M_6, Mem.no] Z := hS
  replace hm : Fr 43 a [(4, .slice none 0 0), (5, .slice none 0 0), (16, v_5), (17, .int .i64 (([x0, x1.Inc, x1.Prom, x1.Inst] : List Int).length : Int)), (18, .int .i64 0)] := hm.keep [4, 5, 16, 17, 18]
  refine c_block ?_
  refine c_loop (fun k_41 a w_41 => ∃ (x_35 : List UInt8) (x_40 : Int) (v_38 : Value) (N_34 : Mem) (M_36 : Mem), disk_Slot.L1 K x0 x1 (fun v => disk_Slot.J1 K v) k_41 (x_35, x_40) = some r ∧ Fr 43 a [(4, .slice none 0 0), (5, v_38), (16, v_5), (17, .int .i64 (([x0, x1.Inc, x1.Prom, x1.Inst] : List Int).length : Int)), (18, .int .i64 x_40)] ∧ Sep w0 w_41 [N_34, Mem.no, M_6, M_36] Z ∧ Mem.no.le N_34 ∧ Own Kd.u8 5 M_36 Mem.no v_38 x_35) K ⟨([] : List UInt8), 0, .slice none 0 0, Mem.no, Mem.no, H, hm, (Sep.sel hS [0, 1000, 2, 3] (by decide)), (Mem.le.refl _), (Own.nil Kd.u8 5 Mem.no)⟩ (fun a w h => by obtain ⟨_, _, _, _, _, H, _⟩ := h; cases (show (none : Option ((List UInt8))) = some r from H)) ?_
  clear hm hS a H
  rintro k_41 a w_41 KL_41 hKL_41 ⟨x_35, x_40, v_38, N_34, M_36, H, hm, hS, le_34, ho_39⟩
  replace H : disk_Slot.B1 K x0 x1 (fun v => disk_Slot.J1 K v) (disk_Slot.L1 K x0 x1 (fun v => disk_Slot.J1 K v) k_41) x_35 x_40 = some r := H
  unfold disk_Slot.B1 at H
  refine wp_seq ?_
  refine wp_region_lit ?_
  refine s_cmp (b := decide (x_40 < (([x0, x1.Inc, x1.Prom, x1.Inst] : List Int).length : Int))) hm rfl rfl rfl (.inr (.inr (.inl ⟨rfl, rfl⟩))) ?_
  clear hm a; intro a hm
  refine wpList_nil ?_
  replace hm : Fr 43 a [(4, .slice none 0 0), (5, v_38), (16, v_5), (17, .int .i64 (([x0, x1.Inc, x1.Prom, x1.Inst] : List Int).length : Int)), (18, .int .i64 x_40), (19, .bool (decide (x_40 < (([x0, x1.Inc, x1.Prom, x1.Inst] : List Int).length : Int))))] := hm.keep [4, 5, 16, 17, 18, 19]
  refine x_then_n ?_
  refine c_seq fun KJ_44 hKJ_44 => ?_
  by_cases hc_45 : x_40 < (([x0, x1.Inc, x1.Prom, x1.Inst] : List Int).length : Int)
  · rw [if_pos hc_45] at H
    refine c_cond_t hm rfl (decide_eq_true hc_45) ?_
    refine wp_skip ?_
    refine x_then_n (hKJ_44 _ _ ?_)
    refine wp_seq ?_
    refine c_block ?_
    refine wp_seq ?_
    refine wp_region_lit ?_
    obtain ⟨t_46, et_46, H⟩ := Option.bind_eq_some_iff.1 H
    refine v_indexO hm rfl Try.underlying22 ti3 rfl rfl rfl ho_7 (hS.own 2) et_46 ?_
    intro ad_47 cs_48 hk_49 hc_50
    obtain rfl := (show cs_48 = [.int .i64 t_46] from hk_49)
    clear hm a; intro a hm
    refine s_load hm rfl rfl (el_one (o := 0) hc_50 Try.underlying3 rfl rfl) ?_
    clear hm a; intro a hm
    refine s_assign hm rfl rfl ?_
    clear hm a; intro a hm
    refine wpList_nil ?_
    replace hm : Fr 43 a [(4, .slice none 0 0), (5, v_38), (7, .int .i64 t_46), (16, v_5), (17, .int .i64 (([x0, x1.Inc, x1.Prom, x1.Inst] : List Int).length : Int)), (18, .int .i64 x_40)] := hm.keep [4, 5, 7, 16, 17, 18]
    refine x_then_n ?_
    refine wp_region_lit ?_
    refine s_move hm rfl rfl ?_
    clear hm a; intro a hm
    refine s_move hm rfl rfl ?_
    clear hm a; intro a hm
    obtain ⟨t_51, et_51, H⟩ := Option.bind_eq_some_iff.1 H
    refine s_call hm rfl Try.call29 rfl (disk_held.calls t_46 t_51 w0 _ _ _ (Mem.le.refl _) (hS.enter [] (by decide))  et_51) ?_
    rintro _ w_52 ⟨N_53, rfl, hS'⟩
    clear hm a; intro a hm
    obtain ⟨N_54, hS'', le_54, ln_54⟩ := hS.call [] (by decide) rfl (l' := []) (ow := []) rfl hS'
    replace hS : Sep w0 w_52 [N_54, Mem.no, M_6, M_36] Z := hS''
    clear hS' hS''
    obtain ⟨t_55, et_55, H⟩ := Option.bind_eq_some_iff.1 H
    refine s_call hm rfl Try.call28 rfl (pack_Num.calls K x_35 _ t_51 t_55 w0 _ _ _ (Mem.le.refl _) (hS.enter [] (by decide)) (ho_39.rd (hS.own_zed [] 2 (by decide)) (Mem.no_le _)) et_55) ?_
    rintro v_59 w_56 ⟨_, N_57, M_61, rfl, hS', hr_60⟩
    clear hm a; intro a hm
    obtain ⟨N_58, hS'', le_58, ln_58⟩ := hS.call [] (by decide) rfl (l' := []) (ow := [M_61]) rfl hS'
    replace hS : Sep w0 w_56 [N_58, Mem.no, M_6, M_36, M_61] Z := hS''
    clear hS' hS''
    refine s_assign hm rfl rfl ?_
    clear hm a; intro a hm
    refine wpList_nil ?_
    replace hm : Fr 43 a [(4, .slice none 0 0), (5, v_59), (16, v_5), (17, .int .i64 (([x0, x1.Inc, x1.Prom, x1.Inst] : List Int).length : Int)), (18, .int .i64 x_40)] := hm.keep [4, 5, 16, 17, 18]
    refine x_block_n ?_
    refine x_then_n ?_
    refine wp_region_lit ?_
    refine s_arith (r := w64 (x_40 + 1)) hm rfl rfl rfl (.inl ⟨rfl, rfl⟩) ?_
    clear hm a; intro a hm
    refine s_move hm rfl rfl ?_
    clear hm a; intro a hm
    refine wpList_nil ?_
    replace hm : Fr 43 a [(4, .slice none 0 0), (5, v_59), (16, v_5), (17, .int .i64 (([x0, x1.Inc, x1.Prom, x1.Inst] : List Int).length : Int)), (18, .int .i64 (w64 (x_40 + 1)))] := hm.keep [4, 5, 16, 17, 18]
    refine x_then_n (hKL_41 _ _ ?_)
    replace hS : Sep w0 w_56 [N_58, Mem.no, M_6, M_36, M_61] Z := hS
    replace hm : Fr 43 a [(4, .slice none 0 0), (5, v_59), (16, v_5), (17, .int .i64 (([x0, x1.Inc, x1.Prom, x1.Inst] : List Int).length : Int)), (18, .int .i64 (w64 (x_40 + 1)))] := hm.keep [4, 5, 16, 17, 18]
    exact ⟨t_55, w64 (x_40 + 1), v_59, N_58, M_61, H, hm, (Sep.sel hS [0, 1000, 2, 4] (by decide)), (le_34.trans (le_54.trans le_58)), hr_60⟩
  · rw [if_neg hc_45] at H
    refine c_cond_f hm rfl (decide_eq_false hc_45) ?_
    refine wp_exit (x_then_x (x_then_x (x_block_t ?_)))
    replace hS : Sep w0 w_41 [N_34, Mem.no, M_6, M_36] Z := hS
    replace hm : Fr 43 a [(4, .slice none 0 0), (5, v_38)] := hm.keep [4, 5]
    exact x_then_n (hJ_j_17 x_35 H _ _ ⟨v_38, N_34, M_36, hm, (Sep.sel hS [0, 1000, 1001, 3] (by decide)), le_34, ho_39⟩)

set_option maxHeartbeats 4000000 in
set_option maxRecDepth 20000 in
theorem slices_Equal_sbyte_byte.calls (K : Nat) (x0 : List UInt8) (p0_0 : Value) (x1 : List UInt8) (p1_1 : Value) (r : Bool) (w0 w : World) (Z A : Mem) (hA : A.le Z) (hS : Sep w0 w [] Z) (hp0_0 : Rd Kd.u8 A p0_0 x0) (hp1_1 : Rd Kd.u8 A p1_1 x1)
    (H : slices_Equal_sbyte_byte.f K x0 x1 = some r) :
    Calls Try.prog 35 [p0_0, p1_1].toArray w (Ret fun v w' => ∃ (N : Mem), v = .bool r ∧ Sep w0 w' [N] Z) := by
  unfold slices_Equal_sbyte_byte.f at H
  refine f_enter _ Try.func35 rfl Try.ntmps35 rfl fun a hm => ?_
  replace hm : Fr 26 a [(0, p0_0), (1, p1_1)] := hm
  replace hS := hS.start
  replace hS : Sep w0 w [Mem.no] Z := hS
  refine wp_seq ?_
  refine wp_region_lit ?_
  refine s_assign hm rfl rfl ?_
  clear hm a; intro a hm
  refine wpList_nil ?_
  replace hm : Fr 26 a [(0, p0_0), (1, p1_1), (4, .bool false)] := hm.keep [0, 1, 4]
  refine x_then_n ?_
  refine c_seq fun KJ_1 hKJ_1 => ?_
  refine wp_seq ?_
  refine wp_region_lit ?_
  refine s_move hm rfl rfl ?_
  clear hm a; intro a hm
  refine s_len hm rfl Try.underlying23 rfl hp0_0 ?_
  clear hm a; intro a hm
  refine s_move hm rfl rfl ?_
  clear hm a; intro a hm
  refine s_len hm rfl Try.underlying23 rfl hp1_1 ?_
  clear hm a; intro a hm
  refine s_cmp (b := ((x0.length : Int) != (x1.length : Int))) hm rfl rfl rfl (.inr (.inl ⟨rfl, rfl⟩)) ?_
  clear hm a; intro a hm
  refine wpList_nil ?_
  replace hm : Fr 26 a [(0, p0_0), (1, p1_1), (4, .bool false), (10, .bool ((x0.length : Int) != (x1.length : Int)))] := hm.keep [0, 1, 4, 10]
  refine x_then_n ?_
  by_cases hc_2 : (x0.length : Int) = (x1.length : Int)
  · rw [if_pos hc_2] at H
    refine c_cond_f hm rfl (bne_eq_false_iff_eq.2 hc_2) ?_
    refine wp_skip ?_
    refine x_then_n (hKJ_1 _ _ ?_)
    refine c_seq fun KJ_3 hKJ_3 => ?_
    refine wp_seq ?_
    refine wp_region_lit ?_
    refine s_move hm rfl rfl ?_
    clear hm a; intro a hm
    refine s_len hm rfl Try.underlying23 rfl hp0_0 ?_
    clear hm a; intro a hm
    refine s_move hm rfl rfl ?_
    clear hm a; intro a hm
    refine wpList_nil ?_
    replace hm : Fr 26 a [(0, p0_0), (1, p1_1), (4, .bool false), (12, .int .i64 (x0.length : Int)), (13, .int .i64 0)] := hm.keep [0, 1, 4, 12, 13]
    refine x_then_n ?_
    have hJ_j_6 : slices_Equal_sbyte_byte.J1 K = some r → ∀ (a : Act) (w_5 : World), (∃ (N_4 : Mem), Fr 26 a [(4, .bool false)] ∧ Sep w0 w_5 [N_4] Z ∧ Mem.no.le N_4) → KJ_3 a w_5 := by
      clear H hm hS a
      rintro H a w_5 ⟨N_4, hm, hS, le_4⟩
      unfold slices_Equal_sbyte_byte.J1 at H
      refine hKJ_3 _ _ ?_
      refine wp_seq ?_
      refine wp_region_lit ?_
      refine s_assign hm rfl rfl ?_
      clear hm a; intro a hm
      refine wpList_nil ?_
      replace hm : Fr 26 a [(4, .bool true)] := hm.keep [4]
      refine x_then_n ?_
      refine wp_ret ?_
      obtain rfl := Option.some.inj H
      exact f_ret hm (rs := [.tmp 4]) rfl (.tmp rfl .nil) ⟨_, rfl, N_4, rfl, (Sep.sel hS [0] (by decide))⟩
    clear hKJ_3
    replace hS : Sep w0 w [Mem.no] Z := hS
    replace hm : Fr 26 a [(0, p0_0), (1, p1_1), (4, .bool false), (12, .int .i64 (x0.length : Int)), (13, .int .i64 0)] := hm.keep [0, 1, 4, 12, 13]
    refine c_block ?_
    refine c_loop (fun k_9 a w_9 => ∃ (x_8 : Int) (N_7 : Mem), slices_Equal_sbyte_byte.L1 K x0 x1 (fun v => slices_Equal_sbyte_byte.J1 K) k_9 x_8 = some r ∧ Fr 26 a [(0, p0_0), (1, p1_1), (4, .bool false), (12, .int .i64 (x0.length : Int)), (13, .int .i64 x_8)] ∧ Sep w0 w_9 [N_7] Z ∧ Mem.no.le N_7) K ⟨0, Mem.no, H, hm, (Sep.sel hS [0] (by decide)), (Mem.le.refl _)⟩ (fun a w h => by obtain ⟨_, _, H, _⟩ := h; cases (show (none : Option (Bool)) = some r from H)) ?_
    clear hm hS a H
    rintro k_9 a w_9 KL_9 hKL_9 ⟨x_8, N_7, H, hm, hS, le_7⟩
    replace H : slices_Equal_sbyte_byte.B1 K x0 x1 (fun v => slices_Equal_sbyte_byte.J1 K) (slices_Equal_sbyte_byte.L1 K x0 x1 (fun v => slices_Equal_sbyte_byte.J1 K) k_9) x_8 = some r := H
    unfold slices_Equal_sbyte_byte.B1 at H
    refine wp_seq ?_
    refine wp_region_lit ?_
    refine s_cmp (b := decide (x_8 < (x0.length : Int))) hm rfl rfl rfl (.inr (.inr (.inl ⟨rfl, rfl⟩))) ?_
    clear hm a; intro a hm
    refine wpList_nil ?_
    replace hm : Fr 26 a [(0, p0_0), (1, p1_1), (4, .bool false), (12, .int .i64 (x0.length : Int)), (13, .int .i64 x_8), (14, .bool (decide (x_8 < (x0.length : Int))))] := hm.keep [0, 1, 4, 12, 13, 14]
    refine x_then_n ?_
    refine c_seq fun KJ_11 hKJ_11 => ?_
    by_cases hc_12 : x_8 < (x0.length : Int)
    · rw [if_pos hc_12] at H
      refine c_cond_t hm rfl (decide_eq_true hc_12) ?_
      refine wp_skip ?_
      refine x_then_n (hKJ_11 _ _ ?_)
      refine c_seq fun KJ_13 hKJ_13 => ?_
      refine c_block ?_
      refine wp_seq ?_
      refine wp_region_lit ?_
      refine s_move hm rfl rfl ?_
      clear hm a; intro a hm
      refine s_assign hm rfl rfl ?_
      clear hm a; intro a hm
      refine wpList_nil ?_
      replace hm : Fr 26 a [(0, p0_0), (1, p1_1), (4, .bool false), (5, .int .i64 x_8), (12, .int .i64 (x0.length : Int)), (13, .int .i64 x_8)] := hm.keep [0, 1, 4, 5, 12, 13]
      refine x_then_n ?_
      refine c_seq fun KJ_14 hKJ_14 => ?_
      refine h_begin (S := fun w => Sep w0 w [N_7] Z) 9 (by kernel_rfl) rfl [false, false, false, false, false, false, false, false, false].toArray rfl hS fun w_15 hS => ?_
      replace hS : Sep w0 w_15 [N_7] Z := hS
      refine h_take 0 [true, false, false, false, false, false, false, false, false].toArray rfl (by kernel_rfl) (by kernel_rfl) (by kernel_rfl) (fun _ _ _ _ h => h) rfl rfl rfl rfl hm (hS.sub (.cons (Mem.le.refl _) (Sub.nil _))) (v := p0_0) (fun w hS => r_move hm rfl) ?_
      clear hm a; intro a hm
      refine h_take 1 [true, true, false, false, false, false, false, false, false].toArray rfl (by kernel_rfl) (by kernel_rfl) (by kernel_rfl) (fun _ _ _ _ h => h) rfl rfl rfl rfl hm (hS.sub (.cons (Mem.le.refl _) (Sub.nil _))) (v := .int .i64 x_8) (fun w hS => r_move hm rfl) ?_
      clear hm a; intro a hm
      obtain ⟨t_16, et_16, H⟩ := Option.bind_eq_some_iff.1 H
      refine h_takeE 2 [true, true, true, false, false, false, false, false, false].toArray rfl (by kernel_rfl) (by kernel_rfl) (by kernel_rfl) (fun _ _ _ _ h => h) rfl rfl rfl rfl hm (hS.sub (.cons (Mem.le.refl _) (Sub.nil _))) (f := fun ad => .pointer (some ad)) (r_index hm Try.underlying23 ti5 rfl rfl rfl hp0_0 et_16) ?_
      rintro ad_17 ⟨cs_18, hk_19, hc_20⟩
      obtain rfl := (show cs_18 = [.int .u8 (t_16.toNat : Int)] from hk_19)
      clear hm a; intro a hm
      refine h_take 3 [true, true, true, true, false, false, false, false, false].toArray rfl (by kernel_rfl) (by kernel_rfl) (by kernel_rfl) (fun _ _ _ _ h => h) rfl rfl rfl rfl hm (hS.sub (.cons (Mem.le.refl _) (Sub.nil _))) (v := .int .u8 (t_16.toNat : Int)) (fun w hS => r_load hm rfl (el_one (o := 0) (fun j c h => Mem.cell_le (hA.trans hS.old) (hc_20 j c h)) Try.underlying5 rfl rfl)) ?_
      clear hm a; intro a hm
      refine h_take 4 [true, true, true, true, true, false, false, false, false].toArray rfl (by kernel_rfl) (by kernel_rfl) (by kernel_rfl) (fun _ _ _ _ h => h) rfl rfl rfl rfl hm (hS.sub (.cons (Mem.le.refl _) (Sub.nil _))) (v := p1_1) (fun w hS => r_move hm rfl) ?_
      clear hm a; intro a hm
      refine h_take 5 [true, true, true, true, true, true, false, false, false].toArray rfl (by kernel_rfl) (by kernel_rfl) (by kernel_rfl) (fun _ _ _ _ h => h) rfl rfl rfl rfl hm (hS.sub (.cons (Mem.le.refl _) (Sub.nil _))) (v := .int .i64 x_8) (fun w hS => r_move hm rfl) ?_
      clear hm a; intro a hm
      obtain ⟨t_21, et_21, H⟩ := Option.bind_eq_some_iff.1 H
      refine h_takeE 6 [true, true, true, true, true, true, true, false, false].toArray rfl (by kernel_rfl) (by kernel_rfl) (by kernel_rfl) (fun _ _ _ _ h => h) rfl rfl rfl rfl hm (hS.sub (.cons (Mem.le.refl _) (Sub.nil _))) (f := fun ad => .pointer (some ad)) (r_index hm Try.underlying23 ti5 rfl rfl rfl hp1_1 et_21) ?_
      rintro ad_22 ⟨cs_23, hk_24, hc_25⟩
      obtain rfl := (show cs_23 = [.int .u8 (t_21.toNat : Int)] from hk_24)
      clear hm a; intro a hm
      refine h_take 7 [true, true, true, true, true, true, true, true, false].toArray rfl (by kernel_rfl) (by kernel_rfl) (by kernel_rfl) (fun _ _ _ _ h => h) rfl rfl rfl rfl hm (hS.sub (.cons (Mem.le.refl _) (Sub.nil _))) (v := .int .u8 (t_21.toNat : Int)) (fun w hS => r_load hm rfl (el_one (o := 0) (fun j c h => Mem.cell_le (hA.trans hS.old) (hc_25 j c h)) Try.underlying5 rfl rfl)) ?_
      clear hm a; intro a hm
      refine h_take 8 [true, true, true, true, true, true, true, true, true].toArray rfl (by kernel_rfl) (by kernel_rfl) (by kernel_rfl) (fun _ _ _ _ h => h) rfl rfl rfl rfl hm (hS.sub (.cons (Mem.le.refl _) (Sub.nil _))) (v := .bool ((t_16.toNat : Int) != (t_21.toNat : Int))) (fun w hS => r_cmp (b := ((t_16.toNat : Int) != (t_21.toNat : Int))) hm rfl rfl (.inr (.inl ⟨rfl, rfl⟩))) ?_
      clear hm a; intro a hm
      refine h_done (by kernel_rfl) ?_
      replace hm : Fr 26 a [(0, p0_0), (1, p1_1), (4, .bool false), (12, .int .i64 (x0.length : Int)), (13, .int .i64 x_8), (24, .bool ((t_16.toNat : Int) != (t_21.toNat : Int)))] := hm.keep [0, 1, 4, 12, 13, 24]
      refine x_then_n (hKJ_14 _ _ ?_)
      by_cases hc_26 : (t_16.toNat : Int) = (t_21.toNat : Int)
      · rw [if_pos hc_26] at H
        refine c_cond_f hm rfl (bne_eq_false_iff_eq.2 hc_26) ?_
        refine wp_skip ?_
        refine x_block_n ?_
        refine x_then_n (hKJ_13 _ _ ?_)
        refine wp_region_lit ?_
        refine s_arith (r := w64 (x_8 + 1)) hm rfl rfl rfl (.inl ⟨rfl, rfl⟩) ?_
        clear hm a; intro a hm
        refine s_move hm rfl rfl ?_
        clear hm a; intro a hm
        refine wpList_nil ?_
        replace hm : Fr 26 a [(0, p0_0), (1, p1_1), (4, .bool false), (12, .int .i64 (x0.length : Int)), (13, .int .i64 (w64 (x_8 + 1)))] := hm.keep [0, 1, 4, 12, 13]
        refine x_then_n (hKL_9 _ _ ?_)
        replace hS : Sep w0 w_15 [N_7] Z := hS
        replace hm : Fr 26 a [(0, p0_0), (1, p1_1), (4, .bool false), (12, .int .i64 (x0.length : Int)), (13, .int .i64 (w64 (x_8 + 1)))] := hm.keep [0, 1, 4, 12, 13]
        exact ⟨w64 (x_8 + 1), N_7, H, hm, (Sep.sel hS [0] (by decide)), le_7⟩
      · rw [if_neg hc_26] at H
        refine c_cond_t hm rfl (bne_iff_ne.2 hc_26) ?_
        refine wp_seq ?_
        refine wp_region_lit ?_
        refine s_assign hm rfl rfl ?_
        clear hm a; intro a hm
        refine wpList_nil ?_
        replace hm : Fr 26 a [(0, p0_0), (1, p1_1), (4, .bool false), (12, .int .i64 (x0.length : Int)), (13, .int .i64 x_8)] := hm.keep [0, 1, 4, 12, 13]
        refine x_then_n ?_
        refine wp_ret (x_block_r (x_then_r (x_then_r (x_block_r (x_then_r ?_)))))
        obtain rfl := Option.some.inj H
        exact f_ret hm (rs := [.tmp 4]) rfl (.tmp rfl .nil) ⟨_, rfl, N_7, rfl, (Sep.sel hS [0] (by decide))⟩
    · rw [if_neg hc_12] at H
      refine c_cond_f hm rfl (decide_eq_false hc_12) ?_
      refine wp_exit (x_then_x (x_then_x (x_block_t ?_)))
      replace hS : Sep w0 w_9 [N_7] Z := hS
      replace hm : Fr 26 a [(4, .bool false)] := hm.keep [4]
      exact x_then_n (hJ_j_6  H _ _ ⟨N_7, hm, (Sep.sel hS [0] (by decide)), le_7⟩)
  · rw [if_neg hc_2] at H
    refine c_cond_t hm rfl (bne_iff_ne.2 hc_2) ?_
    refine wp_seq ?_
    refine wp_region_lit ?_
    refine s_assign hm rfl rfl ?_
    clear hm a; intro a hm
    refine wpList_nil ?_
    replace hm : Fr 26 a [(0, p0_0), (1, p1_1), (4, .bool false)] := hm.keep [0, 1, 4]
    refine x_then_n ?_
    refine wp_ret (x_then_r ?_)
    obtain rfl := Option.some.inj H
    exact f_ret hm (rs := [.tmp 4]) rfl (.tmp rfl .nil) ⟨_, rfl, Mem.no, rfl, (Sep.sel hS [0] (by decide))⟩

set_option maxHeartbeats 4000000 in
set_option maxRecDepth 20000 in
theorem pack_Read.calls (x0 : List UInt8) (p0_0 : Value) (r : (List UInt8) × Bool) (w0 w : World) (Z A : Mem) (hA : A.le Z) (hS : Sep w0 w [] Z) (hp0_0 : Rd Kd.u8 A p0_0 x0)
    (H : pack_Read.f x0 = some r) :
    Calls Try.prog 45 [p0_0].toArray w (Ret fun v w' => ∃ (u0 : Nat) (u1 : Value) (N : Mem), v = .pointer (some ⟨u0, 0, none⟩) ∧ Sep w0 w' [N, Mem.one u0 (.cells ([u1, .bool r.2] : List Value).toArray 72 (0, 0))] Z ∧ Rd Kd.u8 N u1 r.1) := by
  unfold pack_Read.f at H
  refine f_enter _ Try.func45 rfl Try.ntmps45 rfl fun a hm => ?_
  replace hm : Fr 7 a [(0, p0_0)] := hm
  replace hS := hS.start
  replace hS : Sep w0 w [Mem.no] Z := hS
  refine wp_seq ?_
  refine wp_region_lit ?_
  refine s_assign hm rfl rfl ?_
  clear hm a; intro a hm
  refine wpList_nil ?_
  replace hm : Fr 7 a [(0, p0_0), (2, .pointer none)] := hm.keep [0, 2]
  refine x_then_n ?_
  refine wp_seq ?_
  refine wp_region_lit ?_
  refine s_move hm rfl rfl ?_
  clear hm a; intro a hm
  obtain ⟨t_1, et_1, H⟩ := Option.bind_eq_some_iff.1 H
  refine s_call hm rfl Try.call27 rfl (slices_Clone_sbyte_byte.calls x0 _ t_1 w0 _ _ _ (Mem.le.refl _) (hS.enter [] (by decide)) (hp0_0.mono (hA.trans (hS.le_zed []))) et_1) ?_
  rintro v_5 w_2 ⟨_, N_3, M_7, rfl, hS', hr_6⟩
  clear hm a; intro a hm
  obtain ⟨N_4, hS'', le_4, ln_4⟩ := hS.call [] (by decide) rfl (l' := []) (ow := [M_7]) rfl hS'
  replace hS : Sep w0 w_2 [N_4, M_7] Z := hS''
  clear hS' hS''
  refine s_build hm rfl ti72 pl72 rfl (.cons hr_6.cells .nil) (cs := [v_5, .bool false]) rfl ?_
  clear hm a; intro a hm
  refine v_box (vs := [v_5, .bool false]) hm rfl rfl rfl hS ?_
  intro w_9 g_10 hS'
  clear hm a; intro a hm
  replace hS : Sep w0 w_9 [N_4, M_7, Mem.one g_10 (.cells ([v_5, .bool false] : List Value).toArray 72 (0, 0))] Z := hS'
  clear hS'
  refine s_assign hm rfl rfl ?_
  clear hm a; intro a hm
  refine wpList_nil ?_
  replace hm : Fr 7 a [(2, .pointer (some ⟨g_10, 0, none⟩))] := hm.keep [2]
  refine x_then_n ?_
  refine wp_ret ?_
  obtain ⟨N_11, hS', le_11, lo_11⟩ := hS.freeze 0 rfl
  replace hS : Sep w0 w_9 [N_11, Mem.no, Mem.one g_10 (.cells ([v_5, .bool false] : List Value).toArray 72 (0, 0))] Z := hS'
  clear hS'
  obtain rfl := Option.some.inj H
  exact f_ret hm (rs := [.tmp 2]) rfl (.tmp rfl .nil) ⟨_, rfl, g_10, v_5, N_11, rfl, (Sep.sel hS [0, 2] (by decide)), (hr_6.rd lo_11 (Mem.no_le _))⟩

set_option maxHeartbeats 4000000 in
set_option maxRecDepth 20000 in
theorem pack_Reader_fail.calls (g0 : Nat) (x0_b : List UInt8) (p0_0 : Value) (x0_bad : Bool) (r : Int × (List UInt8) × Bool) (w0 w : World) (Z A : Mem) (hA : A.le Z) (hS : Sep w0 w [Mem.one g0 (.cells ([p0_0, .bool x0_bad] : List Value).toArray 72 (0, 0))] Z) (hp0_0 : Rd Kd.u8 A p0_0 x0_b)
    (H : pack_Reader_fail.f x0_b x0_bad = some r) :
    Calls Try.prog 49 [.pointer (some ⟨g0, 0, none⟩)].toArray w (Ret fun v w' => ∃ (u0 : Value) (N : Mem), v = .int .i64 r.1 ∧ Sep w0 w' [N, Mem.one g0 (.cells ([u0, .bool r.2.2] : List Value).toArray 72 (0, 0))] Z ∧ Rd Kd.u8 (A.un N) u0 r.2.1) := by
  unfold pack_Reader_fail.f at H
  refine f_enter _ Try.func49 rfl Try.ntmps49 rfl fun a hm => ?_
  replace hm : Fr 9 a [(0, .pointer (some ⟨g0, 0, none⟩))] := hm
  replace hS := hS.start
  replace hS : Sep w0 w [Mem.no, Mem.one g0 (.cells ([p0_0, .bool x0_bad] : List Value).toArray 72 (0, 0))] Z := hS
  refine wp_seq ?_
  refine wp_region_lit ?_
  refine s_assign hm rfl rfl ?_
  clear hm a; intro a hm
  refine wpList_nil ?_
  replace hm : Fr 9 a [(0, .pointer (some ⟨g0, 0, none⟩)), (2, .int .i64 0)] := hm.keep [0, 2]
  refine x_then_n ?_
  refine wp_seq ?_
  refine wp_region_lit ?_
  refine s_move hm rfl rfl ?_
  clear hm a; intro a hm
  refine s_move hm rfl rfl ?_
  clear hm a; intro a hm
  refine s_nilCheck hm rfl rfl ?_
  clear hm a; intro a hm
  refine s_fieldAddr hm rfl Try.underlying72 rfl ti23 rfl rfl ?_
  clear hm a; intro a hm
  obtain ⟨w_1, hs', hS'⟩ := hS.store (P := Try.prog) (p := 1) (o := 0) (t := 23) (v := .slice none 0 0) (vs := [.slice none 0 0]) rfl ti23 rfl rfl rfl (by intro u hu; simp only [List.mem_cons, List.not_mem_nil, or_false] at hu; rcases hu with rfl <;> rfl)
  refine s_store hm rfl rfl hs' ?_
  replace hS : Sep w0 w_1 [Mem.no, Mem.one g0 (.cells ([.slice none 0 0, .bool x0_bad] : List Value).toArray 72 (0, 0))] Z := hS'
  clear hs' hS'
  refine s_nilCheck hm rfl rfl ?_
  clear hm a; intro a hm
  refine s_fieldAddr hm rfl Try.underlying72 rfl ti4 rfl rfl ?_
  clear hm a; intro a hm
  obtain ⟨w_2, hs', hS'⟩ := hS.store (P := Try.prog) (p := 1) (o := 1) (t := 4) (v := .bool true) (vs := [.bool true]) rfl ti4 rfl rfl rfl (by intro u hu; simp only [List.mem_cons, List.not_mem_nil, or_false] at hu; rcases hu with rfl <;> rfl)
  refine s_store hm rfl rfl hs' ?_
  replace hS : Sep w0 w_2 [Mem.no, Mem.one g0 (.cells ([.slice none 0 0, .bool true] : List Value).toArray 72 (0, 0))] Z := hS'
  clear hs' hS'
  refine wpList_nil ?_
  replace hm : Fr 9 a [(2, .int .i64 0)] := hm.keep [2]
  refine x_then_n ?_
  refine wp_seq ?_
  refine wp_region_lit ?_
  refine s_assign hm rfl rfl ?_
  clear hm a; intro a hm
  refine wpList_nil ?_
  replace hm : Fr 9 a [(2, .int .i64 0)] := hm.keep [2]
  refine x_then_n ?_
  refine wp_ret ?_
  obtain rfl := Option.some.inj H
  exact f_ret hm (rs := [.tmp 2]) rfl (.tmp rfl .nil) ⟨_, rfl, .slice none 0 0, Mem.no, rfl, (Sep.sel hS [0, 1] (by decide)), (Rd.nil _ _)⟩

set_option maxHeartbeats 4000000 in
set_option maxRecDepth 20000 in
theorem pack_Reader_Num.calls (K : Nat) (g0 : Nat) (x0_b : List UInt8) (p0_0 : Value) (x0_bad : Bool) (x1 : Int) (r : Int × (List UInt8) × Bool) (w0 w : World) (Z A : Mem) (hA : A.le Z) (hS : Sep w0 w [Mem.one g0 (.cells ([p0_0, .bool x0_bad] : List Value).toArray 72 (0, 0))] Z) (hp0_0 : Rd Kd.u8 A p0_0 x0_b)
    (H : pack_Reader_Num.f K x0_b x0_bad x1 = some r) :
    Calls Try.prog 46 [.pointer (some ⟨g0, 0, none⟩), .int .i64 x1].toArray w (Ret fun v w' => ∃ (u0 : Value) (N : Mem), v = .int .i64 r.1 ∧ Sep w0 w' [N, Mem.one g0 (.cells ([u0, .bool r.2.2] : List Value).toArray 72 (0, 0))] Z ∧ Rd Kd.u8 (A.un N) u0 r.2.1) := by
  unfold pack_Reader_Num.f at H
  refine f_enter _ Try.func46 rfl Try.ntmps46 rfl fun a hm => ?_
  replace hm : Fr 56 a [(0, .pointer (some ⟨g0, 0, none⟩)), (1, .int .i64 x1)] := hm
  replace hS := hS.start
  replace hS : Sep w0 w [Mem.no, Mem.one g0 (.cells ([p0_0, .bool x0_bad] : List Value).toArray 72 (0, 0))] Z := hS
  refine wp_seq ?_
  refine wp_region_lit ?_
  refine s_assign hm rfl rfl ?_
  clear hm a; intro a hm
  refine wpList_nil ?_
  replace hm : Fr 56 a [(0, .pointer (some ⟨g0, 0, none⟩)), (1, .int .i64 x1), (4, .int .i64 0)] := hm.keep [0, 1, 4]
  refine x_then_n ?_
  refine wp_seq ?_
  refine wp_region_lit ?_
  refine s_assign hm rfl rfl ?_
  clear hm a; intro a hm
  refine wpList_nil ?_
  replace hm : Fr 56 a [(0, .pointer (some ⟨g0, 0, none⟩)), (1, .int .i64 x1), (4, .int .i64 0), (5, .int .i64 0)] := hm.keep [0, 1, 4, 5]
  refine x_then_n ?_
  refine c_seq fun KJ_1 hKJ_1 => ?_
  refine wp_seq ?_
  refine wp_region_lit ?_
  refine s_move hm rfl rfl ?_
  clear hm a; intro a hm
  refine s_nilCheck hm rfl rfl ?_
  clear hm a; intro a hm
  refine s_fieldAddr hm rfl Try.underlying72 rfl ti23 rfl rfl ?_
  clear hm a; intro a hm
  refine s_load hm rfl rfl (hS.load_one (p := 1) rfl Try.underlying23 rfl rfl) ?_
  clear hm a; intro a hm
  refine s_len hm rfl Try.underlying23 rfl hp0_0 ?_
  clear hm a; intro a hm
  refine s_move hm rfl rfl ?_
  clear hm a; intro a hm
  refine wpList_nil ?_
  replace hm : Fr 56 a [(0, .pointer (some ⟨g0, 0, none⟩)), (1, .int .i64 x1), (4, .int .i64 0), (5, .int .i64 0), (11, p0_0), (12, .int .i64 (x0_b.length : Int)), (13, .int .i64 0)] := hm.keep [0, 1, 4, 5, 11, 12, 13]
  refine x_then_n ?_
  have hJ_j_4 : pack_Reader_Num.J1 K x0_b x0_bad = some r → ∀ (a : Act) (w_3 : World), (∃ (N_2 : Mem), Fr 56 a [(0, .pointer (some ⟨g0, 0, none⟩)), (4, .int .i64 0)] ∧ Sep w0 w_3 [N_2, Mem.one g0 (.cells ([p0_0, .bool x0_bad] : List Value).toArray 72 (0, 0))] Z ∧ Mem.no.le N_2) → KJ_1 a w_3 := by
    clear H hm hS a
    rintro H a w_3 ⟨N_2, hm, hS, le_2⟩
    unfold pack_Reader_Num.J1 at H
    refine hKJ_1 _ _ ?_
    refine wp_seq ?_
    refine wp_region_lit ?_
    refine s_move hm rfl rfl ?_
    clear hm a; intro a hm
    obtain ⟨t_5, et_5, H⟩ := Option.bind_eq_some_iff.1 H
    refine s_call hm rfl Try.call49 rfl (pack_Reader_fail.calls _ x0_b _ x0_bad t_5 w0 _ _ A (hA.trans (hS.le_zed [0])) (hS.enter [0] (by decide)) hp0_0 et_5) ?_
    rintro _ w_6 ⟨v_9, N_7, rfl, hS', hr_10⟩
    clear hm a; intro a hm
    obtain ⟨N_8, hS'', le_8, ln_8⟩ := hS.call [0] (by decide) rfl (l' := [Mem.one g0 (.cells ([v_9, .bool t_5.2.2] : List Value).toArray 72 (0, 0))]) (ow := []) rfl hS'
    replace hS : Sep w0 w_6 [N_8, Mem.one g0 (.cells ([v_9, .bool t_5.2.2] : List Value).toArray 72 (0, 0))] Z := hS''
    clear hS' hS''
    have hr_11 : Rd Kd.u8 (A.un N_8) v_9 t_5.2.1 := hr_10.mono (Mem.un_left ln_8)
    refine s_assign hm rfl rfl ?_
    clear hm a; intro a hm
    refine wpList_nil ?_
    replace hm : Fr 56 a [(4, .int .i64 t_5.1)] := hm.keep [4]
    refine x_then_n ?_
    refine wp_ret ?_
    obtain rfl := Option.some.inj H
    exact f_ret hm (rs := [.tmp 4]) rfl (.tmp rfl .nil) ⟨_, rfl, v_9, N_8, rfl, (Sep.sel hS [0, 1] (by decide)), hr_11⟩
  clear hKJ_1
  replace hS : Sep w0 w [Mem.no, Mem.one g0 (.cells ([p0_0, .bool x0_bad] : List Value).toArray 72 (0, 0))] Z := hS
  replace hm : Fr 56 a [(0, .pointer (some ⟨g0, 0, none⟩)), (1, .int .i64 x1), (4, .int .i64 0), (5, .int .i64 0), (11, p0_0), (12, .int .i64 (x0_b.length : Int)), (13, .int .i64 0)] := hm.keep [0, 1, 4, 5, 11, 12, 13]
  refine c_block ?_
  refine c_loop (fun k_15 a w_15 => ∃ (x_13 : Int) (x_14 : Int) (N_12 : Mem), pack_Reader_Num.L1 K x0_b x1 x0_bad (fun v => pack_Reader_Num.J1 K x0_b x0_bad) k_15 (x_13, x_14) = some r ∧ Fr 56 a [(0, .pointer (some ⟨g0, 0, none⟩)), (1, .int .i64 x1), (4, .int .i64 0), (5, .int .i64 x_13), (11, p0_0), (12, .int .i64 (x0_b.length : Int)), (13, .int .i64 x_14)] ∧ Sep w0 w_15 [N_12, Mem.one g0 (.cells ([p0_0, .bool x0_bad] : List Value).toArray 72 (0, 0))] Z ∧ Mem.no.le N_12) K ⟨0, 0, Mem.no, H, hm, (Sep.sel hS [0, 1] (by decide)), (Mem.le.refl _)⟩ (fun a w h => by obtain ⟨_, _, _, H, _⟩ := h; cases (show (none : Option (Int × (List UInt8) × Bool)) = some r from H)) ?_
  clear hm hS a H
  rintro k_15 a w_15 KL_15 hKL_15 ⟨x_13, x_14, N_12, H, hm, hS, le_12⟩
  replace H : pack_Reader_Num.B1 K x0_b x1 x0_bad (fun v => pack_Reader_Num.J1 K x0_b x0_bad) (pack_Reader_Num.L1 K x0_b x1 x0_bad (fun v => pack_Reader_Num.J1 K x0_b x0_bad) k_15) x_13 x_14 = some r := H
  unfold pack_Reader_Num.B1 at H
  refine wp_seq ?_
  refine wp_region_lit ?_
  refine s_cmp (b := decide (x_14 < (x0_b.length : Int))) hm rfl rfl rfl (.inr (.inr (.inl ⟨rfl, rfl⟩))) ?_
  clear hm a; intro a hm
  refine wpList_nil ?_
  replace hm : Fr 56 a [(0, .pointer (some ⟨g0, 0, none⟩)), (1, .int .i64 x1), (4, .int .i64 0), (5, .int .i64 x_13), (11, p0_0), (12, .int .i64 (x0_b.length : Int)), (13, .int .i64 x_14), (14, .bool (decide (x_14 < (x0_b.length : Int))))] := hm.keep [0, 1, 4, 5, 11, 12, 13, 14]
  refine x_then_n ?_
  refine c_seq fun KJ_17 hKJ_17 => ?_
  by_cases hc_18 : x_14 < (x0_b.length : Int)
  · rw [if_pos hc_18] at H
    refine c_cond_t hm rfl (decide_eq_true hc_18) ?_
    refine wp_skip ?_
    refine x_then_n (hKJ_17 _ _ ?_)
    refine wp_seq ?_
    refine c_block ?_
    refine wp_seq ?_
    refine wp_region_lit ?_
    refine s_move hm rfl rfl ?_
    clear hm a; intro a hm
    obtain ⟨t_19, et_19, H⟩ := Option.bind_eq_some_iff.1 H
    refine v_index hm rfl Try.underlying23 ti5 rfl rfl rfl hp0_0 (hA.trans hS.old) et_19 ?_
    intro ad_20 cs_21 hk_22 hc_23
    obtain rfl := (show cs_21 = [.int .u8 (t_19.toNat : Int)] from hk_22)
    clear hm a; intro a hm
    refine s_load hm rfl rfl (el_one (o := 0) hc_23 Try.underlying5 rfl rfl) ?_
    clear hm a; intro a hm
    refine s_assign hm rfl rfl ?_
    clear hm a; intro a hm
    refine s_assign hm rfl rfl ?_
    clear hm a; intro a hm
    refine wpList_nil ?_
    replace hm : Fr 56 a [(0, .pointer (some ⟨g0, 0, none⟩)), (1, .int .i64 x1), (4, .int .i64 0), (5, .int .i64 x_13), (6, .int .i64 x_14), (7, .int .u8 (t_19.toNat : Int)), (11, p0_0), (12, .int .i64 (x0_b.length : Int)), (13, .int .i64 x_14)] := hm.keep [0, 1, 4, 5, 6, 7, 11, 12, 13]
    refine x_then_n ?_
    refine c_seq fun KJ_24 hKJ_24 => ?_
    refine c_seq fun KJ_25 hKJ_25 => ?_
    have hJ_j_29 : ∀ (x_27 : Bool), pack_Reader_Num.J2 K (fun v => pack_Reader_Num.J1 K x0_b x0_bad) x_14 t_19 (pack_Reader_Num.L1 K x0_b x1 x0_bad (fun v => pack_Reader_Num.J1 K x0_b x0_bad) k_15) x_13 x1 x0_b x0_bad x_27 = some r → ∀ (a : Act) (w_28 : World), (∃ (N_26 : Mem), Fr 56 a [(0, .pointer (some ⟨g0, 0, none⟩)), (1, .int .i64 x1), (4, .int .i64 0), (5, .int .i64 x_13), (6, .int .i64 x_14), (7, .int .u8 (t_19.toNat : Int)), (11, p0_0), (12, .int .i64 (x0_b.length : Int)), (13, .int .i64 x_14), (27, .bool x_27)] ∧ Sep w0 w_28 [N_26, Mem.one g0 (.cells ([p0_0, .bool x0_bad] : List Value).toArray 72 (0, 0))] Z ∧ N_12.le N_26) → KJ_25 a w_28 := by
      clear H hm hS a
      rintro x_27 H a w_28 ⟨N_26, hm, hS, le_26⟩
      unfold pack_Reader_Num.J2 at H
      refine hKJ_25 _ _ ?_
      by_cases hc_30 : x_27 = true
      · rw [if_pos hc_30] at H
        refine c_cond_t hm rfl hc_30 ?_
        refine wp_exit (x_then_x (x_block_x rfl (x_then_x (x_then_x (x_block_t ?_)))))
        replace hS : Sep w0 w_28 [N_26, Mem.one g0 (.cells ([p0_0, .bool x0_bad] : List Value).toArray 72 (0, 0))] Z := hS
        replace hm : Fr 56 a [(0, .pointer (some ⟨g0, 0, none⟩)), (4, .int .i64 0)] := hm.keep [0, 4]
        exact x_then_n (hJ_j_4  H _ _ ⟨N_26, hm, (Sep.sel hS [0, 1] (by decide)), (le_12.trans le_26)⟩)
      · rw [if_neg hc_30] at H
        refine c_cond_f hm rfl (Bool.eq_false_iff.2 hc_30) ?_
        refine wp_skip ?_
        refine x_then_n (hKJ_24 _ _ ?_)
        refine wp_seq ?_
        refine wp_region_lit ?_
        refine s_move hm rfl rfl ?_
        clear hm a; intro a hm
        refine s_move hm rfl rfl ?_
        clear hm a; intro a hm
        refine s_bits (i := (t_19.toNat : Int)) (j := ((127 : UInt8).toNat : Int)) (r := ((t_19 &&& (127 : UInt8)).toNat : Int)) hm rfl rfl rfl (.inl ⟨rfl, (band8 _ _).symm⟩) ?_
        clear hm a; intro a hm
        refine s_conv (((t_19 &&& (127 : UInt8)).toNat : Int)) hm rfl Try.underlying5 Try.underlying3 rfl (w64_nat8 _).symm ?_
        clear hm a; intro a hm
        refine s_move hm rfl rfl ?_
        clear hm a; intro a hm
        refine s_arith (r := w64 (7 * x_14)) hm rfl rfl rfl (.inr (.inr ⟨rfl, rfl⟩)) ?_
        clear hm a; intro a hm
        obtain ⟨u_31, eu_31, H⟩ := Option.bind_eq_some_iff.1 H
        refine s_shift (r := shl .i64 ((t_19 &&& (127 : UInt8)).toNat : Int) (w64 (7 * x_14))) hm rfl rfl rfl (must_some eu_31) (.inl ⟨rfl, rfl⟩) ?_
        clear hm a; intro a hm
        refine s_bits (i := x_13) (j := shl .i64 ((t_19 &&& (127 : UInt8)).toNat : Int) (w64 (7 * x_14))) (r := bor .i64 x_13 (shl .i64 ((t_19 &&& (127 : UInt8)).toNat : Int) (w64 (7 * x_14)))) hm rfl rfl rfl (.inr (.inl ⟨rfl, rfl⟩)) ?_
        clear hm a; intro a hm
        refine s_assign hm rfl rfl ?_
        clear hm a; intro a hm
        refine wpList_nil ?_
        replace hm : Fr 56 a [(0, .pointer (some ⟨g0, 0, none⟩)), (1, .int .i64 x1), (4, .int .i64 0), (5, .int .i64 (bor .i64 x_13 (shl .i64 ((t_19 &&& (127 : UInt8)).toNat : Int) (w64 (7 * x_14))))), (6, .int .i64 x_14), (7, .int .u8 (t_19.toNat : Int)), (11, p0_0), (12, .int .i64 (x0_b.length : Int)), (13, .int .i64 x_14)] := hm.keep [0, 1, 4, 5, 6, 7, 11, 12, 13]
        refine x_then_n ?_
        refine c_seq fun KJ_32 hKJ_32 => ?_
        refine wp_seq ?_
        refine wp_region_lit ?_
        refine s_move hm rfl rfl ?_
        clear hm a; intro a hm
        refine s_cmp (b := decide ((t_19.toNat : Int) ≥ ((128 : UInt8).toNat : Int))) hm rfl rfl rfl (.inr (.inr (.inr (.inr (.inr ⟨rfl, rfl⟩))))) ?_
        clear hm a; intro a hm
        refine wpList_nil ?_
        replace hm : Fr 56 a [(0, .pointer (some ⟨g0, 0, none⟩)), (1, .int .i64 x1), (4, .int .i64 0), (5, .int .i64 (bor .i64 x_13 (shl .i64 ((t_19 &&& (127 : UInt8)).toNat : Int) (w64 (7 * x_14))))), (6, .int .i64 x_14), (11, p0_0), (12, .int .i64 (x0_b.length : Int)), (13, .int .i64 x_14), (37, .bool (decide ((t_19.toNat : Int) ≥ ((128 : UInt8).toNat : Int))))] := hm.keep [0, 1, 4, 5, 6, 11, 12, 13, 37]
        refine x_then_n ?_
        by_cases hc_33 : (t_19.toNat : Int) ≥ ((128 : UInt8).toNat : Int)
        · rw [if_pos hc_33] at H
          refine c_cond_t hm rfl (decide_eq_true hc_33) ?_
          refine wp_exit (x_then_x (x_block_t ?_))
          refine x_then_n ?_
          refine wp_region_lit ?_
          refine s_arith (r := w64 (x_14 + 1)) hm rfl rfl rfl (.inl ⟨rfl, rfl⟩) ?_
          clear hm a; intro a hm
          refine s_move hm rfl rfl ?_
          clear hm a; intro a hm
          refine wpList_nil ?_
          replace hm : Fr 56 a [(0, .pointer (some ⟨g0, 0, none⟩)), (1, .int .i64 x1), (4, .int .i64 0), (5, .int .i64 (bor .i64 x_13 (shl .i64 ((t_19 &&& (127 : UInt8)).toNat : Int) (w64 (7 * x_14))))), (11, p0_0), (12, .int .i64 (x0_b.length : Int)), (13, .int .i64 (w64 (x_14 + 1)))] := hm.keep [0, 1, 4, 5, 11, 12, 13]
          refine x_then_n (hKL_15 _ _ ?_)
          replace hS : Sep w0 w_28 [N_26, Mem.one g0 (.cells ([p0_0, .bool x0_bad] : List Value).toArray 72 (0, 0))] Z := hS
          replace hm : Fr 56 a [(0, .pointer (some ⟨g0, 0, none⟩)), (1, .int .i64 x1), (4, .int .i64 0), (5, .int .i64 (bor .i64 x_13 (shl .i64 ((t_19 &&& (127 : UInt8)).toNat : Int) (w64 (7 * x_14))))), (11, p0_0), (12, .int .i64 (x0_b.length : Int)), (13, .int .i64 (w64 (x_14 + 1)))] := hm.keep [0, 1, 4, 5, 11, 12, 13]
          exact ⟨bor .i64 x_13 (shl .i64 ((t_19 &&& (127 : UInt8)).toNat : Int) (w64 (7 * x_14))), w64 (x_14 + 1), N_26, H, hm, (Sep.sel hS [0, 1] (by decide)), (le_12.trans le_26)⟩
        · rw [if_neg hc_33] at H
          refine c_cond_f hm rfl (decide_eq_false hc_33) ?_
          refine wp_skip ?_
          refine x_then_n (hKJ_32 _ _ ?_)
          refine c_seq fun KJ_34 hKJ_34 => ?_
          refine wp_seq ?_
          refine wp_region_lit ?_
          refine s_move hm rfl rfl ?_
          clear hm a; intro a hm
          refine s_move hm rfl rfl ?_
          clear hm a; intro a hm
          obtain ⟨t_35, et_35, H⟩ := Option.bind_eq_some_iff.1 H
          refine s_call hm rfl Try.call38 rfl (pack_held.calls x1 t_35 w0 _ _ _ (Mem.le.refl _) (hS.enter [] (by decide))  et_35) ?_
          rintro _ w_36 ⟨N_37, rfl, hS'⟩
          clear hm a; intro a hm
          obtain ⟨N_38, hS'', le_38, ln_38⟩ := hS.call [] (by decide) rfl (l' := []) (ow := []) rfl hS'
          replace hS : Sep w0 w_36 [N_38, Mem.one g0 (.cells ([p0_0, .bool x0_bad] : List Value).toArray 72 (0, 0))] Z := hS''
          clear hS' hS''
          refine s_cmp (b := decide ((bor .i64 x_13 (shl .i64 ((t_19 &&& (127 : UInt8)).toNat : Int) (w64 (7 * x_14)))) > t_35)) hm rfl rfl rfl (.inr (.inr (.inr (.inr (.inl ⟨rfl, rfl⟩))))) ?_
          clear hm a; intro a hm
          refine wpList_nil ?_
          replace hm : Fr 56 a [(0, .pointer (some ⟨g0, 0, none⟩)), (1, .int .i64 x1), (4, .int .i64 0), (5, .int .i64 (bor .i64 x_13 (shl .i64 ((t_19 &&& (127 : UInt8)).toNat : Int) (w64 (7 * x_14))))), (6, .int .i64 x_14), (11, p0_0), (12, .int .i64 (x0_b.length : Int)), (13, .int .i64 x_14), (41, .bool (decide ((bor .i64 x_13 (shl .i64 ((t_19 &&& (127 : UInt8)).toNat : Int) (w64 (7 * x_14)))) > t_35)))] := hm.keep [0, 1, 4, 5, 6, 11, 12, 13, 41]
          refine x_then_n ?_
          by_cases hc_39 : (bor .i64 x_13 (shl .i64 ((t_19 &&& (127 : UInt8)).toNat : Int) (w64 (7 * x_14)))) > t_35
          · rw [if_pos hc_39] at H
            refine c_cond_t hm rfl (decide_eq_true hc_39) ?_
            refine wp_exit (x_then_x (x_block_x rfl (x_then_x (x_then_x (x_block_t ?_)))))
            replace hS : Sep w0 w_36 [N_38, Mem.one g0 (.cells ([p0_0, .bool x0_bad] : List Value).toArray 72 (0, 0))] Z := hS
            replace hm : Fr 56 a [(0, .pointer (some ⟨g0, 0, none⟩)), (4, .int .i64 0)] := hm.keep [0, 4]
            exact x_then_n (hJ_j_4  H _ _ ⟨N_38, hm, (Sep.sel hS [0, 1] (by decide)), (le_12.trans (le_26.trans le_38))⟩)
          · rw [if_neg hc_39] at H
            refine c_cond_f hm rfl (decide_eq_false hc_39) ?_
            refine wp_skip ?_
            refine x_then_n (hKJ_34 _ _ ?_)
            refine wp_seq ?_
            refine wp_region_lit ?_
            refine s_move hm rfl rfl ?_
            clear hm a; intro a hm
            refine s_move hm rfl rfl ?_
            clear hm a; intro a hm
            refine s_nilCheck hm rfl rfl ?_
            clear hm a; intro a hm
            refine s_fieldAddr hm rfl Try.underlying72 rfl ti23 rfl rfl ?_
            clear hm a; intro a hm
            refine s_load hm rfl rfl (hS.load_one (p := 1) rfl Try.underlying23 rfl rfl) ?_
            clear hm a; intro a hm
            refine s_move hm rfl rfl ?_
            clear hm a; intro a hm
            refine s_arith (r := w64 (x_14 + 1)) hm rfl rfl rfl (.inl ⟨rfl, rfl⟩) ?_
            clear hm a; intro a hm
            obtain ⟨t_40, et_40, H⟩ := Option.bind_eq_some_iff.1 H
            refine s_slice hm rfl Try.underlying23 ti5 rfl rfl hp0_0 rfl rfl et_40 ?_
            intro v_41 hr_42
            clear hm a; intro a hm
            refine s_nilCheck hm rfl rfl ?_
            clear hm a; intro a hm
            refine s_fieldAddr hm rfl Try.underlying72 rfl ti23 rfl rfl ?_
            clear hm a; intro a hm
            obtain ⟨w_43, hs', hS'⟩ := hS.store (P := Try.prog) (p := 1) (o := 0) (t := 23) (v := v_41) (vs := [v_41]) rfl ti23 hr_42.cellsA rfl rfl (by intro u hu; simp only [List.mem_cons, List.not_mem_nil, or_false] at hu; rcases hu with rfl <;> first | rfl | exact hr_42.one)
            refine s_store hm rfl rfl hs' ?_
            replace hS : Sep w0 w_43 [N_38, Mem.one g0 (.cells ([v_41, .bool x0_bad] : List Value).toArray 72 (0, 0))] Z := hS'
            clear hs' hS'
            refine wpList_nil ?_
            replace hm : Fr 56 a [(0, .pointer (some ⟨g0, 0, none⟩)), (1, .int .i64 x1), (4, .int .i64 0), (5, .int .i64 (bor .i64 x_13 (shl .i64 ((t_19 &&& (127 : UInt8)).toNat : Int) (w64 (7 * x_14))))), (11, p0_0), (12, .int .i64 (x0_b.length : Int)), (13, .int .i64 x_14)] := hm.keep [0, 1, 4, 5, 11, 12, 13]
            refine x_then_n ?_
            refine wp_seq ?_
            refine wp_region_lit ?_
            refine s_move hm rfl rfl ?_
            clear hm a; intro a hm
            refine s_assign hm rfl rfl ?_
            clear hm a; intro a hm
            refine wpList_nil ?_
            replace hm : Fr 56 a [(0, .pointer (some ⟨g0, 0, none⟩)), (1, .int .i64 x1), (4, .int .i64 (bor .i64 x_13 (shl .i64 ((t_19 &&& (127 : UInt8)).toNat : Int) (w64 (7 * x_14))))), (5, .int .i64 (bor .i64 x_13 (shl .i64 ((t_19 &&& (127 : UInt8)).toNat : Int) (w64 (7 * x_14))))), (11, p0_0), (12, .int .i64 (x0_b.length : Int)), (13, .int .i64 x_14)] := hm.keep [0, 1, 4, 5, 11, 12, 13]
            refine x_then_n ?_
            refine wp_ret (x_block_r (x_then_r (x_then_r (x_block_r (x_then_r ?_)))))
            obtain rfl := Option.some.inj H
            exact f_ret hm (rs := [.tmp 4]) rfl (.tmp rfl .nil) ⟨_, rfl, v_41, N_38, rfl, (Sep.sel hS [0, 1] (by decide)), (hr_42.mono (Mem.le_un _ _))⟩
    clear hKJ_25
    refine wp_region_lit ?_
    refine s_move hm rfl rfl ?_
    clear hm a; intro a hm
    refine s_cmp (b := decide (x_14 > 8)) hm rfl rfl rfl (.inr (.inr (.inr (.inr (.inl ⟨rfl, rfl⟩))))) ?_
    clear hm a; intro a hm
    refine s_move hm rfl rfl ?_
    clear hm a; intro a hm
    by_cases hc_44 : x_14 > 8
    · rw [if_pos hc_44] at H
      refine s_off hm rfl rfl rfl (decide_eq_true hc_44) ?_
      clear hm a; intro a hm
      refine s_off hm rfl rfl rfl (decide_eq_true hc_44) ?_
      clear hm a; intro a hm
      refine s_off hm rfl rfl rfl (decide_eq_true hc_44) ?_
      clear hm a; intro a hm
      refine s_offu hm rfl rfl rfl ?_
      clear hm a; intro a hm
      refine s_offu hm rfl rfl rfl ?_
      clear hm a; intro a hm
      refine s_off hm rfl rfl rfl (decide_eq_true hc_44) ?_
      clear hm a; intro a hm
      refine s_pick_t hm rfl rfl (decide_eq_true hc_44) rfl ?_
      clear hm a; intro a hm
      refine wpList_nil ?_
      replace hm : Fr 56 a [(0, .pointer (some ⟨g0, 0, none⟩)), (1, .int .i64 x1), (4, .int .i64 0), (5, .int .i64 x_13), (6, .int .i64 x_14), (7, .int .u8 (t_19.toNat : Int)), (11, p0_0), (12, .int .i64 (x0_b.length : Int)), (13, .int .i64 x_14), (27, .bool true)] := hm.keep [0, 1, 4, 5, 6, 7, 11, 12, 13, 27]
      replace hS : Sep w0 w_15 [N_12, Mem.one g0 (.cells ([p0_0, .bool x0_bad] : List Value).toArray 72 (0, 0))] Z := hS
      replace hm : Fr 56 a [(0, .pointer (some ⟨g0, 0, none⟩)), (1, .int .i64 x1), (4, .int .i64 0), (5, .int .i64 x_13), (6, .int .i64 x_14), (7, .int .u8 (t_19.toNat : Int)), (11, p0_0), (12, .int .i64 (x0_b.length : Int)), (13, .int .i64 x_14), (27, .bool true)] := hm.keep [0, 1, 4, 5, 6, 7, 11, 12, 13, 27]
      exact x_then_n (hJ_j_29 true H _ _ ⟨N_12, hm, (Sep.sel hS [0, 1] (by decide)), (Mem.le.refl _)⟩)
    · rw [if_neg hc_44] at H
      refine s_on hm rfl rfl (decide_eq_false hc_44) ?_
      refine s_move hm rfl rfl ?_
      clear hm a; intro a hm
      refine s_on hm rfl rfl (decide_eq_false hc_44) ?_
      refine s_cmp (b := ((t_19.toNat : Int) == ((0 : UInt8).toNat : Int))) hm rfl rfl rfl (.inl ⟨rfl, rfl⟩) ?_
      clear hm a; intro a hm
      refine s_on hm rfl rfl (decide_eq_false hc_44) ?_
      refine s_move hm rfl rfl ?_
      clear hm a; intro a hm
      by_cases hc_45 : (t_19.toNat : Int) = ((0 : UInt8).toNat : Int)
      · rw [if_pos hc_45] at H
        refine s_on hm rfl rfl (beq_iff_eq.2 hc_45) ?_
        refine s_move hm rfl rfl ?_
        clear hm a; intro a hm
        refine s_on hm rfl rfl (beq_iff_eq.2 hc_45) ?_
        refine s_cmp (b := decide (x_14 > 0)) hm rfl rfl rfl (.inr (.inr (.inr (.inr (.inl ⟨rfl, rfl⟩))))) ?_
        clear hm a; intro a hm
        refine s_on hm rfl rfl (decide_eq_false hc_44) ?_
        refine s_pick_t hm rfl rfl (beq_iff_eq.2 hc_45) rfl ?_
        clear hm a; intro a hm
        refine s_pick_f hm rfl rfl (decide_eq_false hc_44) rfl ?_
        clear hm a; intro a hm
        refine wpList_nil ?_
        replace hm : Fr 56 a [(0, .pointer (some ⟨g0, 0, none⟩)), (1, .int .i64 x1), (4, .int .i64 0), (5, .int .i64 x_13), (6, .int .i64 x_14), (7, .int .u8 (t_19.toNat : Int)), (11, p0_0), (12, .int .i64 (x0_b.length : Int)), (13, .int .i64 x_14), (27, .bool (decide (x_14 > 0)))] := hm.keep [0, 1, 4, 5, 6, 7, 11, 12, 13, 27]
        replace hS : Sep w0 w_15 [N_12, Mem.one g0 (.cells ([p0_0, .bool x0_bad] : List Value).toArray 72 (0, 0))] Z := hS
        replace hm : Fr 56 a [(0, .pointer (some ⟨g0, 0, none⟩)), (1, .int .i64 x1), (4, .int .i64 0), (5, .int .i64 x_13), (6, .int .i64 x_14), (7, .int .u8 (t_19.toNat : Int)), (11, p0_0), (12, .int .i64 (x0_b.length : Int)), (13, .int .i64 x_14), (27, .bool (decide (x_14 > 0)))] := hm.keep [0, 1, 4, 5, 6, 7, 11, 12, 13, 27]
        exact x_then_n (hJ_j_29 (decide (x_14 > 0)) H _ _ ⟨N_12, hm, (Sep.sel hS [0, 1] (by decide)), (Mem.le.refl _)⟩)
      · rw [if_neg hc_45] at H
        refine s_off hm rfl rfl rfl (beq_eq_false_iff_ne.2 hc_45) ?_
        clear hm a; intro a hm
        refine s_off hm rfl rfl rfl (beq_eq_false_iff_ne.2 hc_45) ?_
        clear hm a; intro a hm
        refine s_on hm rfl rfl (decide_eq_false hc_44) ?_
        refine s_pick_f hm rfl rfl (beq_eq_false_iff_ne.2 hc_45) rfl ?_
        clear hm a; intro a hm
        refine s_pick_f hm rfl rfl (decide_eq_false hc_44) rfl ?_
        clear hm a; intro a hm
        refine wpList_nil ?_
        replace hm : Fr 56 a [(0, .pointer (some ⟨g0, 0, none⟩)), (1, .int .i64 x1), (4, .int .i64 0), (5, .int .i64 x_13), (6, .int .i64 x_14), (7, .int .u8 (t_19.toNat : Int)), (11, p0_0), (12, .int .i64 (x0_b.length : Int)), (13, .int .i64 x_14), (27, .bool false)] := hm.keep [0, 1, 4, 5, 6, 7, 11, 12, 13, 27]
        replace hS : Sep w0 w_15 [N_12, Mem.one g0 (.cells ([p0_0, .bool x0_bad] : List Value).toArray 72 (0, 0))] Z := hS
        replace hm : Fr 56 a [(0, .pointer (some ⟨g0, 0, none⟩)), (1, .int .i64 x1), (4, .int .i64 0), (5, .int .i64 x_13), (6, .int .i64 x_14), (7, .int .u8 (t_19.toNat : Int)), (11, p0_0), (12, .int .i64 (x0_b.length : Int)), (13, .int .i64 x_14), (27, .bool false)] := hm.keep [0, 1, 4, 5, 6, 7, 11, 12, 13, 27]
        exact x_then_n (hJ_j_29 false H _ _ ⟨N_12, hm, (Sep.sel hS [0, 1] (by decide)), (Mem.le.refl _)⟩)
  · rw [if_neg hc_18] at H
    refine c_cond_f hm rfl (decide_eq_false hc_18) ?_
    refine wp_exit (x_then_x (x_then_x (x_block_t ?_)))
    replace hS : Sep w0 w_15 [N_12, Mem.one g0 (.cells ([p0_0, .bool x0_bad] : List Value).toArray 72 (0, 0))] Z := hS
    replace hm : Fr 56 a [(0, .pointer (some ⟨g0, 0, none⟩)), (4, .int .i64 0)] := hm.keep [0, 4]
    exact x_then_n (hJ_j_4  H _ _ ⟨N_12, hm, (Sep.sel hS [0, 1] (by decide)), le_12⟩)

set_option maxHeartbeats 4000000 in
set_option maxRecDepth 20000 in
theorem pack_Reader_End.calls (g0 : Nat) (x0_b : List UInt8) (p0_0 : Value) (x0_bad : Bool) (r : Bool × (List UInt8) × Bool) (w0 w : World) (Z A : Mem) (hA : A.le Z) (hS : Sep w0 w [Mem.one g0 (.cells ([p0_0, .bool x0_bad] : List Value).toArray 72 (0, 0))] Z) (hp0_0 : Rd Kd.u8 A p0_0 x0_b)
    (H : pack_Reader_End.f x0_b x0_bad = some r) :
    Calls Try.prog 47 [.pointer (some ⟨g0, 0, none⟩)].toArray w (Ret fun v w' => ∃ (u0 : Value) (N : Mem), v = .bool r.1 ∧ Sep w0 w' [N, Mem.one g0 (.cells ([u0, .bool r.2.2] : List Value).toArray 72 (0, 0))] Z ∧ Rd Kd.u8 (A.un N) u0 r.2.1) := by
  unfold pack_Reader_End.f at H
  refine f_enter _ Try.func47 rfl Try.ntmps47 rfl fun a hm => ?_
  replace hm : Fr 16 a [(0, .pointer (some ⟨g0, 0, none⟩))] := hm
  replace hS := hS.start
  replace hS : Sep w0 w [Mem.no, Mem.one g0 (.cells ([p0_0, .bool x0_bad] : List Value).toArray 72 (0, 0))] Z := hS
  refine wp_seq ?_
  refine wp_region_lit ?_
  refine s_assign hm rfl rfl ?_
  clear hm a; intro a hm
  refine wpList_nil ?_
  replace hm : Fr 16 a [(0, .pointer (some ⟨g0, 0, none⟩)), (2, .bool false)] := hm.keep [0, 2]
  refine x_then_n ?_
  refine c_seq fun KJ_1 hKJ_1 => ?_
  refine wp_region_lit ?_
  refine s_move hm rfl rfl ?_
  clear hm a; intro a hm
  refine s_nilCheck hm rfl rfl ?_
  clear hm a; intro a hm
  refine s_fieldAddr hm rfl Try.underlying72 rfl ti4 rfl rfl ?_
  clear hm a; intro a hm
  refine s_load hm rfl rfl (hS.load_one (p := 1) rfl Try.underlying4 rfl rfl) ?_
  clear hm a; intro a hm
  refine s_not hm rfl rfl ?_
  clear hm a; intro a hm
  refine s_move hm rfl rfl ?_
  clear hm a; intro a hm
  by_cases hc_2 : x0_bad = true
  · rw [if_pos hc_2] at H
    refine s_off hm rfl rfl rfl (nf hc_2) ?_
    clear hm a; intro a hm
    refine s_off hm rfl rfl rfl (nf hc_2) ?_
    clear hm a; intro a hm
    refine s_off hm rfl rfl rfl (nf hc_2) ?_
    clear hm a; intro a hm
    refine s_off hm rfl rfl rfl (nf hc_2) ?_
    clear hm a; intro a hm
    refine s_off hm rfl rfl rfl (nf hc_2) ?_
    clear hm a; intro a hm
    refine s_off hm rfl rfl rfl (nf hc_2) ?_
    clear hm a; intro a hm
    refine s_pick_f hm rfl rfl (nf hc_2) rfl ?_
    clear hm a; intro a hm
    refine s_assign hm rfl rfl ?_
    clear hm a; intro a hm
    refine wpList_nil ?_
    replace hm : Fr 16 a [(2, .bool false)] := hm.keep [2]
    refine x_then_n (hKJ_1 _ _ ?_)
    refine wp_ret ?_
    obtain rfl := Option.some.inj H
    exact f_ret hm (rs := [.tmp 2]) rfl (.tmp rfl .nil) ⟨_, rfl, p0_0, Mem.no, rfl, (Sep.sel hS [0, 1] (by decide)), (hp0_0.mono (Mem.le_un _ _))⟩
  · rw [if_neg hc_2] at H
    refine s_on hm rfl rfl (nt (Bool.eq_false_iff.2 hc_2)) ?_
    refine s_move hm rfl rfl ?_
    clear hm a; intro a hm
    refine s_on hm rfl rfl (nt (Bool.eq_false_iff.2 hc_2)) ?_
    refine s_nilCheck hm rfl rfl ?_
    clear hm a; intro a hm
    refine s_on hm rfl rfl (nt (Bool.eq_false_iff.2 hc_2)) ?_
    refine s_fieldAddr hm rfl Try.underlying72 rfl ti23 rfl rfl ?_
    clear hm a; intro a hm
    refine s_on hm rfl rfl (nt (Bool.eq_false_iff.2 hc_2)) ?_
    refine s_load hm rfl rfl (hS.load_one (p := 1) rfl Try.underlying23 rfl rfl) ?_
    clear hm a; intro a hm
    refine s_on hm rfl rfl (nt (Bool.eq_false_iff.2 hc_2)) ?_
    refine s_len hm rfl Try.underlying23 rfl hp0_0 ?_
    clear hm a; intro a hm
    refine s_on hm rfl rfl (nt (Bool.eq_false_iff.2 hc_2)) ?_
    refine s_cmp (b := ((x0_b.length : Int) == 0)) hm rfl rfl rfl (.inl ⟨rfl, rfl⟩) ?_
    clear hm a; intro a hm
    refine s_pick_t hm rfl rfl (nt (Bool.eq_false_iff.2 hc_2)) rfl ?_
    clear hm a; intro a hm
    refine s_assign hm rfl rfl ?_
    clear hm a; intro a hm
    refine wpList_nil ?_
    replace hm : Fr 16 a [(2, .bool ((x0_b.length : Int) == 0))] := hm.keep [2]
    refine x_then_n (hKJ_1 _ _ ?_)
    refine wp_ret ?_
    obtain rfl := Option.some.inj H
    exact f_ret hm (rs := [.tmp 2]) rfl (.tmp rfl .nil) ⟨_, rfl, p0_0, Mem.no, rfl, (Sep.sel hS [0, 1] (by decide)), (hp0_0.mono (Mem.le_un _ _))⟩

set_option maxHeartbeats 4000000 in
set_option maxRecDepth 20000 in
theorem disk_open.calls (K : Nat) (x0 : List UInt8) (p0_0 : Value) (r : Int × api_Record × Bool) (w0 w : World) (Z A : Mem) (hA : A.le Z) (hS : Sep w0 w [] Z) (hp0_0 : Rd Kd.u8 A p0_0 x0)
    (H : disk_open.f K x0 = some r) :
    Calls Try.prog 36 [p0_0].toArray w (Ret fun v w' => ∃ (N : Mem), v = .tuple [.int .i64 r.1, .agg [.int .i64 r.2.1.Inc, .int .i64 r.2.1.Prom, .int .i64 r.2.1.Inst].toArray, .bool r.2.2].toArray ∧ Sep w0 w' [N] Z) := by
  unfold disk_open.f at H
  refine f_enter _ Try.func36 rfl Try.ntmps36 rfl fun a hm => ?_
  replace hm : Fr 38 a [(0, p0_0)] := hm
  replace hS := hS.start
  replace hS : Sep w0 w [Mem.no] Z := hS
  refine wp_seq ?_
  refine wp_region_lit ?_
  refine s_assign hm rfl rfl ?_
  clear hm a; intro a hm
  refine v_alloc hm rfl ti28 hS ?_
  intro w_1 g_2 hS'
  clear hm a; intro a hm
  replace hS : Sep w0 w_1 [Mem.no, Mem.one g_2 (.cells ([.int .i64 0, .int .i64 0, .int .i64 0] : List Value).toArray 28 (0, 0))] Z := hS'
  clear hS'
  refine s_assign hm rfl rfl ?_
  clear hm a; intro a hm
  refine wpList_nil ?_
  replace hm : Fr 38 a [(0, p0_0), (2, .int .i64 0), (3, .pointer (some ⟨g_2, 0, none⟩)), (4, .bool false)] := hm.keep [0, 2, 3, 4]
  refine x_then_n ?_
  refine c_seq fun KJ_3 hKJ_3 => ?_
  refine wp_seq ?_
  refine wp_region_lit ?_
  refine s_move hm rfl rfl ?_
  clear hm a; intro a hm
  refine s_len hm rfl Try.underlying23 rfl hp0_0 ?_
  clear hm a; intro a hm
  refine s_cmp (b := decide ((x0.length : Int) < 4)) hm rfl rfl rfl (.inr (.inr (.inl ⟨rfl, rfl⟩))) ?_
  clear hm a; intro a hm
  refine wpList_nil ?_
  replace hm : Fr 38 a [(0, p0_0), (2, .int .i64 0), (3, .pointer (some ⟨g_2, 0, none⟩)), (4, .bool false), (10, .bool (decide ((x0.length : Int) < 4)))] := hm.keep [0, 2, 3, 4, 10]
  refine x_then_n ?_
  by_cases hc_4 : (x0.length : Int) < 4
  · rw [if_pos hc_4] at H
    refine c_cond_t hm rfl (decide_eq_true hc_4) ?_
    refine wp_seq ?_
    refine wp_region_lit ?_
    refine s_build hm rfl ti28 pl28 rfl .nil (cs := [.int .i64 0, .int .i64 0, .int .i64 0]) rfl ?_
    clear hm a; intro a hm
    refine s_assign hm rfl rfl ?_
    clear hm a; intro a hm
    obtain ⟨w_5, hs', hS'⟩ := hS.store (P := Try.prog) (p := 1) (o := 0) (t := 28) (v := .agg [.int .i64 0, .int .i64 0, .int .i64 0].toArray) (vs := [.int .i64 0, .int .i64 0, .int .i64 0]) rfl ti28 rfl rfl rfl (by intro u hu; simp only [List.mem_cons, List.not_mem_nil, or_false] at hu; rcases hu with rfl | rfl | rfl <;> rfl)
    refine s_store hm rfl rfl hs' ?_
    replace hS : Sep w0 w_5 [Mem.no, Mem.one g_2 (.cells ([.int .i64 0, .int .i64 0, .int .i64 0] : List Value).toArray 28 (0, 0))] Z := hS'
    clear hs' hS'
    refine s_assign hm rfl rfl ?_
    clear hm a; intro a hm
    refine wpList_nil ?_
    replace hm : Fr 38 a [(0, p0_0), (2, .int .i64 0), (3, .pointer (some ⟨g_2, 0, none⟩)), (4, .bool false)] := hm.keep [0, 2, 3, 4]
    refine x_then_n ?_
    refine wp_ret (x_then_r ?_)
    obtain rfl := Option.some.inj H
    exact f_ret hm (rs := [.tmp 2, .cell 3 28, .tmp 4]) rfl (.tmp rfl (.cell rfl (hS.load_agg (p := 1) (us := [.int .i64 0, .int .i64 0, .int .i64 0]) rfl Try.underlying28 rfl ti28 rfl rfl) (.tmp rfl .nil))) ⟨_, rfl, Mem.no, rfl, (Sep.sel hS [0] (by decide))⟩
  · rw [if_neg hc_4] at H
    refine c_cond_f hm rfl (decide_eq_false hc_4) ?_
    refine wp_skip ?_
    refine x_then_n (hKJ_3 _ _ ?_)
    refine wp_seq ?_
    refine wp_region_lit ?_
    refine s_move hm rfl rfl ?_
    clear hm a; intro a hm
    obtain ⟨t_6, et_6, H⟩ := Option.bind_eq_some_iff.1 H
    refine s_slice hm rfl Try.underlying23 ti5 rfl rfl hp0_0 rfl rfl et_6 ?_
    intro v_7 hr_8
    clear hm a; intro a hm
    obtain ⟨t_9, et_9, H⟩ := Option.bind_eq_some_iff.1 H
    refine s_call hm rfl Try.call45 rfl (pack_Read.calls t_6 _ t_9 w0 _ _ _ (Mem.le.refl _) (hS.enter [] (by decide)) (hr_8.mono (hA.trans (hS.le_zed []))) et_9) ?_
    rintro _ w_10 ⟨g_13, v_14, N_11, rfl, hS', hr_15⟩
    clear hm a; intro a hm
    obtain ⟨N_12, hS'', le_12, ln_12⟩ := hS.call [] (by decide) rfl (l' := []) (ow := [Mem.one g_13 (.cells ([v_14, .bool t_9.2] : List Value).toArray 72 (0, 0))]) rfl hS'
    replace hS : Sep w0 w_10 [N_12, Mem.one g_2 (.cells ([.int .i64 0, .int .i64 0, .int .i64 0] : List Value).toArray 28 (0, 0)), Mem.one g_13 (.cells ([v_14, .bool t_9.2] : List Value).toArray 72 (0, 0))] Z := hS''
    clear hS' hS''
    refine s_assign hm rfl rfl ?_
    clear hm a; intro a hm
    refine wpList_nil ?_
    replace hm : Fr 38 a [(0, p0_0), (2, .int .i64 0), (3, .pointer (some ⟨g_2, 0, none⟩)), (4, .bool false), (5, .pointer (some ⟨g_13, 0, none⟩))] := hm.keep [0, 2, 3, 4, 5]
    refine x_then_n ?_
    refine wp_seq ?_
    refine wp_region_lit ?_
    refine s_move hm rfl rfl ?_
    clear hm a; intro a hm
    obtain ⟨t_16, et_16, H⟩ := Option.bind_eq_some_iff.1 H
    refine s_call hm rfl Try.call46 rfl (pack_Reader_Num.calls K _ t_9.1 _ t_9.2 1099511627776 t_16 w0 _ _ N_12 (hS.new_zed [1]) (hS.enter [1] (by decide)) (hr_15.mono ln_12) et_16) ?_
    rintro _ w_17 ⟨v_20, N_18, rfl, hS', hr_21⟩
    clear hm a; intro a hm
    obtain ⟨N_19, hS'', le_19, ln_19⟩ := hS.call [1] (by decide) rfl (l' := [Mem.one g_13 (.cells ([v_20, .bool t_16.2.2] : List Value).toArray 72 (0, 0))]) (ow := []) rfl hS'
    replace hS : Sep w0 w_17 [N_19, Mem.one g_2 (.cells ([.int .i64 0, .int .i64 0, .int .i64 0] : List Value).toArray 28 (0, 0)), Mem.one g_13 (.cells ([v_20, .bool t_16.2.2] : List Value).toArray 72 (0, 0))] Z := hS''
    clear hS' hS''
    refine s_assign hm rfl rfl ?_
    clear hm a; intro a hm
    refine wpList_nil ?_
    replace hm : Fr 38 a [(0, p0_0), (2, .int .i64 0), (3, .pointer (some ⟨g_2, 0, none⟩)), (4, .bool false), (5, .pointer (some ⟨g_13, 0, none⟩)), (6, .int .i64 t_16.1)] := hm.keep [0, 2, 3, 4, 5, 6]
    refine x_then_n ?_
    refine wp_seq ?_
    refine wp_region_lit ?_
    refine s_move hm rfl rfl ?_
    clear hm a; intro a hm
    obtain ⟨t_22, et_22, H⟩ := Option.bind_eq_some_iff.1 H
    refine s_call hm rfl Try.call46 rfl (pack_Reader_Num.calls K _ t_16.2.1 _ t_16.2.2 1099511627776 t_22 w0 _ _ N_19 (hS.new_zed [1]) (hS.enter [1] (by decide)) (hr_21.mono (Mem.un_le le_19 ln_19)) et_22) ?_
    rintro _ w_23 ⟨v_26, N_24, rfl, hS', hr_27⟩
    clear hm a; intro a hm
    obtain ⟨N_25, hS'', le_25, ln_25⟩ := hS.call [1] (by decide) rfl (l' := [Mem.one g_13 (.cells ([v_26, .bool t_22.2.2] : List Value).toArray 72 (0, 0))]) (ow := []) rfl hS'
    replace hS : Sep w0 w_23 [N_25, Mem.one g_2 (.cells ([.int .i64 0, .int .i64 0, .int .i64 0] : List Value).toArray 28 (0, 0)), Mem.one g_13 (.cells ([v_26, .bool t_22.2.2] : List Value).toArray 72 (0, 0))] Z := hS''
    clear hS' hS''
    refine s_move hm rfl rfl ?_
    clear hm a; intro a hm
    obtain ⟨t_28, et_28, H⟩ := Option.bind_eq_some_iff.1 H
    refine s_call hm rfl Try.call46 rfl (pack_Reader_Num.calls K _ t_22.2.1 _ t_22.2.2 1099511627776 t_28 w0 _ _ N_25 (hS.new_zed [1]) (hS.enter [1] (by decide)) (hr_27.mono (Mem.un_le le_25 ln_25)) et_28) ?_
    rintro _ w_29 ⟨v_32, N_30, rfl, hS', hr_33⟩
    clear hm a; intro a hm
    obtain ⟨N_31, hS'', le_31, ln_31⟩ := hS.call [1] (by decide) rfl (l' := [Mem.one g_13 (.cells ([v_32, .bool t_28.2.2] : List Value).toArray 72 (0, 0))]) (ow := []) rfl hS'
    replace hS : Sep w0 w_29 [N_31, Mem.one g_2 (.cells ([.int .i64 0, .int .i64 0, .int .i64 0] : List Value).toArray 28 (0, 0)), Mem.one g_13 (.cells ([v_32, .bool t_28.2.2] : List Value).toArray 72 (0, 0))] Z := hS''
    clear hS' hS''
    refine s_move hm rfl rfl ?_
    clear hm a; intro a hm
    obtain ⟨t_34, et_34, H⟩ := Option.bind_eq_some_iff.1 H
    refine s_call hm rfl Try.call46 rfl (pack_Reader_Num.calls K _ t_28.2.1 _ t_28.2.2 1099511627776 t_34 w0 _ _ N_31 (hS.new_zed [1]) (hS.enter [1] (by decide)) (hr_33.mono (Mem.un_le le_31 ln_31)) et_34) ?_
    rintro _ w_35 ⟨v_38, N_36, rfl, hS', hr_39⟩
    clear hm a; intro a hm
    obtain ⟨N_37, hS'', le_37, ln_37⟩ := hS.call [1] (by decide) rfl (l' := [Mem.one g_13 (.cells ([v_38, .bool t_34.2.2] : List Value).toArray 72 (0, 0))]) (ow := []) rfl hS'
    replace hS : Sep w0 w_35 [N_37, Mem.one g_2 (.cells ([.int .i64 0, .int .i64 0, .int .i64 0] : List Value).toArray 28 (0, 0)), Mem.one g_13 (.cells ([v_38, .bool t_34.2.2] : List Value).toArray 72 (0, 0))] Z := hS''
    clear hS' hS''
    refine s_build hm rfl ti28 pl28 rfl (.cons rfl (.cons rfl (.cons rfl .nil))) (cs := [.int .i64 t_22.1, .int .i64 t_28.1, .int .i64 t_34.1]) rfl ?_
    clear hm a; intro a hm
    refine v_alloc hm rfl ti28 hS ?_
    intro w_40 g_41 hS'
    clear hm a; intro a hm
    replace hS : Sep w0 w_40 [N_37, Mem.one g_2 (.cells ([.int .i64 0, .int .i64 0, .int .i64 0] : List Value).toArray 28 (0, 0)), Mem.one g_13 (.cells ([v_38, .bool t_34.2.2] : List Value).toArray 72 (0, 0)), Mem.one g_41 (.cells ([.int .i64 0, .int .i64 0, .int .i64 0] : List Value).toArray 28 (0, 0))] Z := hS'
    clear hS'
    obtain ⟨w_42, hs', hS'⟩ := hS.store (P := Try.prog) (p := 3) (o := 0) (t := 28) (v := .agg [.int .i64 t_22.1, .int .i64 t_28.1, .int .i64 t_34.1].toArray) (vs := [.int .i64 t_22.1, .int .i64 t_28.1, .int .i64 t_34.1]) rfl ti28 rfl rfl rfl (by intro u hu; simp only [List.mem_cons, List.not_mem_nil, or_false] at hu; rcases hu with rfl | rfl | rfl <;> rfl)
    refine s_store hm rfl rfl hs' ?_
    replace hS : Sep w0 w_42 [N_37, Mem.one g_2 (.cells ([.int .i64 0, .int .i64 0, .int .i64 0] : List Value).toArray 28 (0, 0)), Mem.one g_13 (.cells ([v_38, .bool t_34.2.2] : List Value).toArray 72 (0, 0)), Mem.one g_41 (.cells ([.int .i64 t_22.1, .int .i64 t_28.1, .int .i64 t_34.1] : List Value).toArray 28 (0, 0))] Z := hS'
    clear hs' hS'
    refine wpList_nil ?_
    replace hm : Fr 38 a [(0, p0_0), (2, .int .i64 0), (3, .pointer (some ⟨g_2, 0, none⟩)), (4, .bool false), (5, .pointer (some ⟨g_13, 0, none⟩)), (6, .int .i64 t_16.1), (7, .pointer (some ⟨g_41, 0, none⟩))] := hm.keep [0, 2, 3, 4, 5, 6, 7]
    refine x_then_n ?_
    refine c_seq fun KJ_43 hKJ_43 => ?_
    refine c_seq fun KJ_44 hKJ_44 => ?_
    have hJ_j_48 : ∀ (x_46 : Bool), disk_open.J1 K t_16 t_22 t_28 t_34 x_46 = some r → ∀ (a : Act) (w_47 : World), (∃ (N_45 : Mem), Fr 38 a [(2, .int .i64 0), (3, .pointer (some ⟨g_2, 0, none⟩)), (4, .bool false), (6, .int .i64 t_16.1), (7, .pointer (some ⟨g_41, 0, none⟩)), (34, .bool x_46)] ∧ Sep w0 w_47 [N_45, Mem.one g_2 (.cells ([.int .i64 0, .int .i64 0, .int .i64 0] : List Value).toArray 28 (0, 0)), Mem.no, Mem.one g_41 (.cells ([.int .i64 t_22.1, .int .i64 t_28.1, .int .i64 t_34.1] : List Value).toArray 28 (0, 0))] Z ∧ N_37.le N_45) → KJ_44 a w_47 := by
      clear H hm hS a
      rintro x_46 H a w_47 ⟨N_45, hm, hS, le_45⟩
      unfold disk_open.J1 at H
      refine hKJ_44 _ _ ?_
      by_cases hc_49 : x_46 = true
      · rw [if_pos hc_49] at H
        refine c_cond_t hm rfl hc_49 ?_
        refine wp_seq ?_
        refine wp_region_lit ?_
        refine s_build hm rfl ti28 pl28 rfl .nil (cs := [.int .i64 0, .int .i64 0, .int .i64 0]) rfl ?_
        clear hm a; intro a hm
        refine s_assign hm rfl rfl ?_
        clear hm a; intro a hm
        obtain ⟨w_50, hs', hS'⟩ := hS.store (P := Try.prog) (p := 1) (o := 0) (t := 28) (v := .agg [.int .i64 0, .int .i64 0, .int .i64 0].toArray) (vs := [.int .i64 0, .int .i64 0, .int .i64 0]) rfl ti28 rfl rfl rfl (by intro u hu; simp only [List.mem_cons, List.not_mem_nil, or_false] at hu; rcases hu with rfl | rfl | rfl <;> rfl)
        refine s_store hm rfl rfl hs' ?_
        replace hS : Sep w0 w_50 [N_45, Mem.one g_2 (.cells ([.int .i64 0, .int .i64 0, .int .i64 0] : List Value).toArray 28 (0, 0)), Mem.no, Mem.one g_41 (.cells ([.int .i64 t_22.1, .int .i64 t_28.1, .int .i64 t_34.1] : List Value).toArray 28 (0, 0))] Z := hS'
        clear hs' hS'
        refine s_assign hm rfl rfl ?_
        clear hm a; intro a hm
        refine wpList_nil ?_
        replace hm : Fr 38 a [(2, .int .i64 0), (3, .pointer (some ⟨g_2, 0, none⟩)), (4, .bool false), (6, .int .i64 t_16.1), (7, .pointer (some ⟨g_41, 0, none⟩))] := hm.keep [2, 3, 4, 6, 7]
        refine x_then_n ?_
        refine wp_ret (x_then_r ?_)
        obtain rfl := Option.some.inj H
        exact f_ret hm (rs := [.tmp 2, .cell 3 28, .tmp 4]) rfl (.tmp rfl (.cell rfl (hS.load_agg (p := 1) (us := [.int .i64 0, .int .i64 0, .int .i64 0]) rfl Try.underlying28 rfl ti28 rfl rfl) (.tmp rfl .nil))) ⟨_, rfl, N_45, rfl, (Sep.sel hS [0] (by decide))⟩
      · rw [if_neg hc_49] at H
        refine c_cond_f hm rfl (Bool.eq_false_iff.2 hc_49) ?_
        refine wp_skip ?_
        refine x_then_n (hKJ_43 _ _ ?_)
        refine c_seq fun KJ_51 hKJ_51 => ?_
        refine h_begin (S := fun w => Sep w0 w [N_45, Mem.no, Mem.no, Mem.one g_41 (.cells ([.int .i64 t_22.1, .int .i64 t_28.1, .int .i64 t_34.1] : List Value).toArray 28 (0, 0))] Z) 5 (by kernel_rfl) rfl [false, false, false, false, false].toArray rfl hS fun w_52 hS => ?_
        replace hS : Sep w0 w_52 [N_45, Mem.one g_2 (.cells ([.int .i64 0, .int .i64 0, .int .i64 0] : List Value).toArray 28 (0, 0)), Mem.no, Mem.one g_41 (.cells ([.int .i64 t_22.1, .int .i64 t_28.1, .int .i64 t_34.1] : List Value).toArray 28 (0, 0))] Z := hS
        refine h_take 0 [true, false, false, false, false].toArray rfl (by kernel_rfl) (by kernel_rfl) (by kernel_rfl) (fun _ _ _ _ h => h) rfl rfl rfl rfl hm (hS.sub (.cons (Mem.le.refl _) (.cons (Mem.no_le _) (.cons (Mem.no_le _) (.cons (Mem.le.refl _) (Sub.nil _)))))) (v := .int .i64 t_16.1) (fun w hS => r_move hm rfl) ?_
        clear hm a; intro a hm
        refine h_take 1 [true, true, false, false, false].toArray rfl (by kernel_rfl) (by kernel_rfl) (by kernel_rfl) (fun _ _ _ _ h => h) rfl rfl rfl rfl hm (hS.sub (.cons (Mem.le.refl _) (.cons (Mem.no_le _) (.cons (Mem.no_le _) (.cons (Mem.le.refl _) (Sub.nil _)))))) (v := .agg [.int .i64 t_22.1, .int .i64 t_28.1, .int .i64 t_34.1].toArray) (fun w hS => r_load hm rfl (hS.load_agg (p := 3) (us := [.int .i64 t_22.1, .int .i64 t_28.1, .int .i64 t_34.1]) rfl Try.underlying28 rfl ti28 rfl rfl)) ?_
        clear hm a; intro a hm
        refine h_take 2 [true, true, true, false, false].toArray rfl (by kernel_rfl) (by kernel_rfl) (by kernel_rfl) (fun _ _ _ _ h => h) rfl rfl rfl rfl hm (hS.sub (.cons (Mem.le.refl _) (.cons (Mem.no_le _) (.cons (Mem.no_le _) (.cons (Mem.le.refl _) (Sub.nil _)))))) (v := .int .i64 t_16.1) (fun w hS => r_assign hm rfl) ?_
        clear hm a; intro a hm
        refine h_event 3 [true, true, true, true, false].toArray rfl (by kernel_rfl) rfl ?_
        obtain ⟨w_53, hs', hS'⟩ := hS.store (P := Try.prog) (p := 1) (o := 0) (t := 28) (v := .agg [.int .i64 t_22.1, .int .i64 t_28.1, .int .i64 t_34.1].toArray) (vs := [.int .i64 t_22.1, .int .i64 t_28.1, .int .i64 t_34.1]) rfl ti28 rfl rfl rfl (by intro u hu; simp only [List.mem_cons, List.not_mem_nil, or_false] at hu; rcases hu with rfl | rfl | rfl <;> rfl)
        refine s_store hm rfl rfl hs' ?_
        replace hS : Sep w0 w_53 [N_45, Mem.one g_2 (.cells ([.int .i64 t_22.1, .int .i64 t_28.1, .int .i64 t_34.1] : List Value).toArray 28 (0, 0)), Mem.no, Mem.one g_41 (.cells ([.int .i64 t_22.1, .int .i64 t_28.1, .int .i64 t_34.1] : List Value).toArray 28 (0, 0))] Z := hS'
        clear hs' hS'
        refine wpList_nil ?_
        refine x_then_n ⟨(hS.sub (.cons (Mem.le.refl _) (.cons (Mem.no_le _) (.cons (Mem.no_le _) (.cons (Mem.le.refl _) (Sub.nil _)))))), ?_⟩
        refine h_take 4 [true, true, true, true, true].toArray rfl (by kernel_rfl) (by kernel_rfl) (by kernel_rfl) (fun _ _ _ _ h => h) rfl rfl rfl rfl hm (hS.sub (.cons (Mem.le.refl _) (.cons (Mem.no_le _) (.cons (Mem.no_le _) (.cons (Mem.le.refl _) (Sub.nil _)))))) (v := .bool true) (fun w hS => r_assign hm rfl) ?_
        clear hm a; intro a hm
        refine h_done (by kernel_rfl) ?_
        replace hm : Fr 38 a [(2, .int .i64 t_16.1), (3, .pointer (some ⟨g_2, 0, none⟩)), (4, .bool true)] := hm.keep [2, 3, 4]
        refine x_then_n (hKJ_51 _ _ ?_)
        refine wp_ret ?_
        obtain rfl := Option.some.inj H
        exact f_ret hm (rs := [.tmp 2, .cell 3 28, .tmp 4]) rfl (.tmp rfl (.cell rfl (hS.load_agg (p := 1) (us := [.int .i64 t_22.1, .int .i64 t_28.1, .int .i64 t_34.1]) rfl Try.underlying28 rfl ti28 rfl rfl) (.tmp rfl .nil))) ⟨_, rfl, N_45, rfl, (Sep.sel hS [0] (by decide))⟩
    clear hKJ_44
    refine wp_region_lit ?_
    refine s_move hm rfl rfl ?_
    clear hm a; intro a hm
    obtain ⟨t_54, et_54, H⟩ := Option.bind_eq_some_iff.1 H
    refine s_call hm rfl Try.call47 rfl (pack_Reader_End.calls _ t_34.2.1 _ t_34.2.2 t_54 w0 _ _ N_37 (hS.new_zed [1]) (hS.enter [1] (by decide)) (hr_39.mono (Mem.un_le le_37 ln_37)) et_54) ?_
    rintro _ w_55 ⟨v_58, N_56, rfl, hS', hr_59⟩
    clear hm a; intro a hm
    obtain ⟨N_57, hS'', le_57, ln_57⟩ := hS.call [1] (by decide) rfl (l' := [Mem.one g_13 (.cells ([v_58, .bool t_54.2.2] : List Value).toArray 72 (0, 0))]) (ow := []) rfl hS'
    replace hS : Sep w0 w_55 [N_57, Mem.one g_2 (.cells ([.int .i64 0, .int .i64 0, .int .i64 0] : List Value).toArray 28 (0, 0)), Mem.one g_13 (.cells ([v_58, .bool t_54.2.2] : List Value).toArray 72 (0, 0)), Mem.one g_41 (.cells ([.int .i64 t_22.1, .int .i64 t_28.1, .int .i64 t_34.1] : List Value).toArray 28 (0, 0))] Z := hS''
    clear hS' hS''
    refine s_not hm rfl rfl ?_
    clear hm a; intro a hm
    refine s_move hm rfl rfl ?_
    clear hm a; intro a hm
    by_cases hc_60 : t_54.1 = true
    · rw [if_pos hc_60] at H
      refine s_on hm rfl rfl (nf hc_60) ?_
      refine s_move hm rfl rfl ?_
      clear hm a; intro a hm
      refine s_on hm rfl rfl (nf hc_60) ?_
      refine s_load hm rfl rfl (hS.load_agg (p := 3) (us := [.int .i64 t_22.1, .int .i64 t_28.1, .int .i64 t_34.1]) rfl Try.underlying28 rfl ti28 rfl rfl) ?_
      clear hm a; intro a hm
      refine s_on hm rfl rfl (nf hc_60) ?_
      obtain ⟨t_61, et_61, H⟩ := Option.bind_eq_some_iff.1 H
      refine s_call hm rfl Try.call14 rfl (disk_Slot.calls K t_16.1 (⟨t_22.1, t_28.1, t_34.1⟩ : api_Record) t_61 w0 _ _ _ (Mem.le.refl _) (hS.enter [] (by decide))  et_61) ?_
      rintro v_65 w_62 ⟨_, N_63, M_67, rfl, hS', hr_66⟩
      clear hm a; intro a hm
      obtain ⟨N_64, hS'', le_64, ln_64⟩ := hS.call [] (by decide) rfl (l' := []) (ow := [M_67]) rfl hS'
      replace hS : Sep w0 w_62 [N_64, Mem.one g_2 (.cells ([.int .i64 0, .int .i64 0, .int .i64 0] : List Value).toArray 28 (0, 0)), Mem.one g_13 (.cells ([v_58, .bool t_54.2.2] : List Value).toArray 72 (0, 0)), Mem.one g_41 (.cells ([.int .i64 t_22.1, .int .i64 t_28.1, .int .i64 t_34.1] : List Value).toArray 28 (0, 0)), M_67] Z := hS''
      clear hS' hS''
      refine s_on hm rfl rfl (nf hc_60) ?_
      refine s_move hm rfl rfl ?_
      clear hm a; intro a hm
      refine s_on hm rfl rfl (nf hc_60) ?_
      obtain ⟨t_69, et_69, H⟩ := Option.bind_eq_some_iff.1 H
      refine s_call hm rfl Try.call35 rfl (slices_Equal_sbyte_byte.calls K t_61 _ x0 _ t_69 w0 _ _ _ (Mem.le.refl _) (hS.enter [] (by decide)) (hr_66.rd (hS.own_zed [] 3 (by decide)) (Mem.no_le _)) (hp0_0.mono (hA.trans (hS.le_zed []))) et_69) ?_
      rintro _ w_70 ⟨N_71, rfl, hS'⟩
      clear hm a; intro a hm
      obtain ⟨N_72, hS'', le_72, ln_72⟩ := hS.call [] (by decide) rfl (l' := []) (ow := []) rfl hS'
      replace hS : Sep w0 w_70 [N_72, Mem.one g_2 (.cells ([.int .i64 0, .int .i64 0, .int .i64 0] : List Value).toArray 28 (0, 0)), Mem.one g_13 (.cells ([v_58, .bool t_54.2.2] : List Value).toArray 72 (0, 0)), Mem.one g_41 (.cells ([.int .i64 t_22.1, .int .i64 t_28.1, .int .i64 t_34.1] : List Value).toArray 28 (0, 0)), M_67] Z := hS''
      clear hS' hS''
      refine s_on hm rfl rfl (nf hc_60) ?_
      refine s_not hm rfl rfl ?_
      clear hm a; intro a hm
      refine s_pick_f hm rfl rfl (nf hc_60) rfl ?_
      clear hm a; intro a hm
      refine wpList_nil ?_
      replace hm : Fr 38 a [(2, .int .i64 0), (3, .pointer (some ⟨g_2, 0, none⟩)), (4, .bool false), (6, .int .i64 t_16.1), (7, .pointer (some ⟨g_41, 0, none⟩)), (34, .bool (!t_69))] := hm.keep [2, 3, 4, 6, 7, 34]
      replace hS : Sep w0 w_70 [N_72, Mem.one g_2 (.cells ([.int .i64 0, .int .i64 0, .int .i64 0] : List Value).toArray 28 (0, 0)), Mem.one g_13 (.cells ([v_58, .bool t_54.2.2] : List Value).toArray 72 (0, 0)), Mem.one g_41 (.cells ([.int .i64 t_22.1, .int .i64 t_28.1, .int .i64 t_34.1] : List Value).toArray 28 (0, 0)), M_67] Z := hS
      replace hm : Fr 38 a [(2, .int .i64 0), (3, .pointer (some ⟨g_2, 0, none⟩)), (4, .bool false), (6, .int .i64 t_16.1), (7, .pointer (some ⟨g_41, 0, none⟩)), (34, .bool (!t_69))] := hm.keep [2, 3, 4, 6, 7, 34]
      exact x_then_n (hJ_j_48 (!t_69) H _ _ ⟨N_72, hm, (Sep.sel hS [0, 1, 1001, 3] (by decide)), (le_57.trans (le_64.trans le_72))⟩)
    · rw [if_neg hc_60] at H
      refine s_off hm rfl rfl rfl (nt (Bool.eq_false_iff.2 hc_60)) ?_
      clear hm a; intro a hm
      refine s_off hm rfl rfl rfl (nt (Bool.eq_false_iff.2 hc_60)) ?_
      clear hm a; intro a hm
      refine s_off hm rfl rfl rfl (nt (Bool.eq_false_iff.2 hc_60)) ?_
      clear hm a; intro a hm
      refine s_off hm rfl rfl rfl (nt (Bool.eq_false_iff.2 hc_60)) ?_
      clear hm a; intro a hm
      refine s_off hm rfl rfl rfl (nt (Bool.eq_false_iff.2 hc_60)) ?_
      clear hm a; intro a hm
      refine s_off hm rfl rfl rfl (nt (Bool.eq_false_iff.2 hc_60)) ?_
      clear hm a; intro a hm
      refine s_pick_t hm rfl rfl (nt (Bool.eq_false_iff.2 hc_60)) rfl ?_
      clear hm a; intro a hm
      refine wpList_nil ?_
      replace hm : Fr 38 a [(2, .int .i64 0), (3, .pointer (some ⟨g_2, 0, none⟩)), (4, .bool false), (6, .int .i64 t_16.1), (7, .pointer (some ⟨g_41, 0, none⟩)), (34, .bool true)] := hm.keep [2, 3, 4, 6, 7, 34]
      replace hS : Sep w0 w_55 [N_57, Mem.one g_2 (.cells ([.int .i64 0, .int .i64 0, .int .i64 0] : List Value).toArray 28 (0, 0)), Mem.one g_13 (.cells ([v_58, .bool t_54.2.2] : List Value).toArray 72 (0, 0)), Mem.one g_41 (.cells ([.int .i64 t_22.1, .int .i64 t_28.1, .int .i64 t_34.1] : List Value).toArray 28 (0, 0))] Z := hS
      replace hm : Fr 38 a [(2, .int .i64 0), (3, .pointer (some ⟨g_2, 0, none⟩)), (4, .bool false), (6, .int .i64 t_16.1), (7, .pointer (some ⟨g_41, 0, none⟩)), (34, .bool true)] := hm.keep [2, 3, 4, 6, 7, 34]
      exact x_then_n (hJ_j_48 true H _ _ ⟨N_57, hm, (Sep.sel hS [0, 1, 1001, 3] (by decide)), le_57⟩)

set_option maxHeartbeats 4000000 in
set_option maxRecDepth 20000 in
theorem disk_which.calls (K : Nat) (x0 : api_Disk) (p0_0 : Value) (p0_1 : Value) (r : Int × api_Record × Bool × Bool) (w0 w : World) (Z A : Mem) (hA : A.le Z) (hS : Sep w0 w [] Z) (hp0_0 : Rd Kd.u8 A p0_0 x0.A) (hp0_1 : Rd Kd.u8 A p0_1 x0.B)
    (H : disk_which.f K x0 = some r) :
    Calls Try.prog 26 [.agg [p0_0, p0_1].toArray].toArray w (Ret fun v w' => ∃ (N : Mem), v = .tuple [.int .i64 r.1, .agg [.int .i64 r.2.1.Inc, .int .i64 r.2.1.Prom, .int .i64 r.2.1.Inst].toArray, .bool r.2.2.1, .bool r.2.2.2].toArray ∧ Sep w0 w' [N] Z) := by
  unfold disk_which.f at H
  refine f_enter _ Try.func26 rfl Try.ntmps26 rfl fun a hm => ?_
  replace hm : Fr 41 a [(0, .agg [p0_0, p0_1].toArray)] := hm
  replace hS := hS.start
  replace hS : Sep w0 w [Mem.no] Z := hS
  refine wp_seq ?_
  refine wp_region_lit ?_
  refine v_box (vs := [p0_0, p0_1]) hm rfl rfl rfl hS ?_
  intro w_1 g_2 hS'
  clear hm a; intro a hm
  replace hS : Sep w0 w_1 [Mem.no, Mem.one g_2 (.cells ([p0_0, p0_1] : List Value).toArray 25 (0, 0))] Z := hS'
  clear hS'
  refine s_assign hm rfl rfl ?_
  clear hm a; intro a hm
  refine v_alloc hm rfl ti28 hS ?_
  intro w_3 g_4 hS'
  clear hm a; intro a hm
  replace hS : Sep w0 w_3 [Mem.no, Mem.one g_2 (.cells ([p0_0, p0_1] : List Value).toArray 25 (0, 0)), Mem.one g_4 (.cells ([.int .i64 0, .int .i64 0, .int .i64 0] : List Value).toArray 28 (0, 0))] Z := hS'
  clear hS'
  refine s_assign hm rfl rfl ?_
  clear hm a; intro a hm
  refine s_assign hm rfl rfl ?_
  clear hm a; intro a hm
  refine wpList_nil ?_
  replace hm : Fr 41 a [(1, .pointer (some ⟨g_2, 0, none⟩)), (2, .int .i64 0), (3, .pointer (some ⟨g_4, 0, none⟩)), (4, .bool false), (5, .bool false)] := hm.keep [1, 2, 3, 4, 5]
  refine x_then_n ?_
  refine wp_seq ?_
  refine wp_region_lit ?_
  refine s_fieldAddr hm rfl Try.underlying25 rfl ti23 rfl rfl ?_
  clear hm a; intro a hm
  refine s_load hm rfl rfl (hS.load_one (p := 1) rfl Try.underlying23 rfl rfl) ?_
  clear hm a; intro a hm
  obtain ⟨t_5, et_5, H⟩ := Option.bind_eq_some_iff.1 H
  refine s_call hm rfl Try.call36 rfl (disk_open.calls K x0.A _ t_5 w0 _ _ _ (Mem.le.refl _) (hS.enter [] (by decide)) (hp0_0.mono (hA.trans (hS.le_zed []))) et_5) ?_
  rintro _ w_6 ⟨N_7, rfl, hS'⟩
  clear hm a; intro a hm
  obtain ⟨N_8, hS'', le_8, ln_8⟩ := hS.call [] (by decide) rfl (l' := []) (ow := []) rfl hS'
  replace hS : Sep w0 w_6 [N_8, Mem.one g_2 (.cells ([p0_0, p0_1] : List Value).toArray 25 (0, 0)), Mem.one g_4 (.cells ([.int .i64 0, .int .i64 0, .int .i64 0] : List Value).toArray 28 (0, 0))] Z := hS''
  clear hS' hS''
  refine s_move hm rfl rfl ?_
  clear hm a; intro a hm
  refine s_extract hm rfl rfl rfl ?_
  clear hm a; intro a hm
  refine s_extract hm rfl rfl rfl ?_
  clear hm a; intro a hm
  refine s_extract hm rfl rfl rfl ?_
  clear hm a; intro a hm
  refine v_alloc hm rfl ti28 hS ?_
  intro w_9 g_10 hS'
  clear hm a; intro a hm
  replace hS : Sep w0 w_9 [N_8, Mem.one g_2 (.cells ([p0_0, p0_1] : List Value).toArray 25 (0, 0)), Mem.one g_4 (.cells ([.int .i64 0, .int .i64 0, .int .i64 0] : List Value).toArray 28 (0, 0)), Mem.one g_10 (.cells ([.int .i64 0, .int .i64 0, .int .i64 0] : List Value).toArray 28 (0, 0))] Z := hS'
  clear hS'
  refine s_assign hm rfl rfl ?_
  clear hm a; intro a hm
  obtain ⟨w_11, hs', hS'⟩ := hS.store (P := Try.prog) (p := 3) (o := 0) (t := 28) (v := .agg [.int .i64 t_5.2.1.Inc, .int .i64 t_5.2.1.Prom, .int .i64 t_5.2.1.Inst].toArray) (vs := [.int .i64 t_5.2.1.Inc, .int .i64 t_5.2.1.Prom, .int .i64 t_5.2.1.Inst]) rfl ti28 rfl rfl rfl (by intro u hu; simp only [List.mem_cons, List.not_mem_nil, or_false] at hu; rcases hu with rfl | rfl | rfl <;> rfl)
  refine s_store hm rfl rfl hs' ?_
  replace hS : Sep w0 w_11 [N_8, Mem.one g_2 (.cells ([p0_0, p0_1] : List Value).toArray 25 (0, 0)), Mem.one g_4 (.cells ([.int .i64 0, .int .i64 0, .int .i64 0] : List Value).toArray 28 (0, 0)), Mem.one g_10 (.cells ([.int .i64 t_5.2.1.Inc, .int .i64 t_5.2.1.Prom, .int .i64 t_5.2.1.Inst] : List Value).toArray 28 (0, 0))] Z := hS'
  clear hs' hS'
  refine s_assign hm rfl rfl ?_
  clear hm a; intro a hm
  refine wpList_nil ?_
  replace hm : Fr 41 a [(1, .pointer (some ⟨g_2, 0, none⟩)), (2, .int .i64 0), (3, .pointer (some ⟨g_4, 0, none⟩)), (4, .bool false), (5, .bool false), (6, .int .i64 t_5.1), (7, .pointer (some ⟨g_10, 0, none⟩)), (8, .bool t_5.2.2)] := hm.keep [1, 2, 3, 4, 5, 6, 7, 8]
  refine x_then_n ?_
  refine wp_seq ?_
  refine wp_region_lit ?_
  refine s_fieldAddr hm rfl Try.underlying25 rfl ti23 rfl rfl ?_
  clear hm a; intro a hm
  refine s_load hm rfl rfl (hS.load_one (p := 1) rfl Try.underlying23 rfl rfl) ?_
  clear hm a; intro a hm
  obtain ⟨t_12, et_12, H⟩ := Option.bind_eq_some_iff.1 H
  refine s_call hm rfl Try.call36 rfl (disk_open.calls K x0.B _ t_12 w0 _ _ _ (Mem.le.refl _) (hS.enter [] (by decide)) (hp0_1.mono (hA.trans (hS.le_zed []))) et_12) ?_
  rintro _ w_13 ⟨N_14, rfl, hS'⟩
  clear hm a; intro a hm
  obtain ⟨N_15, hS'', le_15, ln_15⟩ := hS.call [] (by decide) rfl (l' := []) (ow := []) rfl hS'
  replace hS : Sep w0 w_13 [N_15, Mem.one g_2 (.cells ([p0_0, p0_1] : List Value).toArray 25 (0, 0)), Mem.one g_4 (.cells ([.int .i64 0, .int .i64 0, .int .i64 0] : List Value).toArray 28 (0, 0)), Mem.one g_10 (.cells ([.int .i64 t_5.2.1.Inc, .int .i64 t_5.2.1.Prom, .int .i64 t_5.2.1.Inst] : List Value).toArray 28 (0, 0))] Z := hS''
  clear hS' hS''
  refine s_move hm rfl rfl ?_
  clear hm a; intro a hm
  refine s_extract hm rfl rfl rfl ?_
  clear hm a; intro a hm
  refine s_extract hm rfl rfl rfl ?_
  clear hm a; intro a hm
  refine s_extract hm rfl rfl rfl ?_
  clear hm a; intro a hm
  refine v_alloc hm rfl ti28 hS ?_
  intro w_16 g_17 hS'
  clear hm a; intro a hm
  replace hS : Sep w0 w_16 [N_15, Mem.one g_2 (.cells ([p0_0, p0_1] : List Value).toArray 25 (0, 0)), Mem.one g_4 (.cells ([.int .i64 0, .int .i64 0, .int .i64 0] : List Value).toArray 28 (0, 0)), Mem.one g_10 (.cells ([.int .i64 t_5.2.1.Inc, .int .i64 t_5.2.1.Prom, .int .i64 t_5.2.1.Inst] : List Value).toArray 28 (0, 0)), Mem.one g_17 (.cells ([.int .i64 0, .int .i64 0, .int .i64 0] : List Value).toArray 28 (0, 0))] Z := hS'
  clear hS'
  refine s_assign hm rfl rfl ?_
  clear hm a; intro a hm
  obtain ⟨w_18, hs', hS'⟩ := hS.store (P := Try.prog) (p := 4) (o := 0) (t := 28) (v := .agg [.int .i64 t_12.2.1.Inc, .int .i64 t_12.2.1.Prom, .int .i64 t_12.2.1.Inst].toArray) (vs := [.int .i64 t_12.2.1.Inc, .int .i64 t_12.2.1.Prom, .int .i64 t_12.2.1.Inst]) rfl ti28 rfl rfl rfl (by intro u hu; simp only [List.mem_cons, List.not_mem_nil, or_false] at hu; rcases hu with rfl | rfl | rfl <;> rfl)
  refine s_store hm rfl rfl hs' ?_
  replace hS : Sep w0 w_18 [N_15, Mem.one g_2 (.cells ([p0_0, p0_1] : List Value).toArray 25 (0, 0)), Mem.one g_4 (.cells ([.int .i64 0, .int .i64 0, .int .i64 0] : List Value).toArray 28 (0, 0)), Mem.one g_10 (.cells ([.int .i64 t_5.2.1.Inc, .int .i64 t_5.2.1.Prom, .int .i64 t_5.2.1.Inst] : List Value).toArray 28 (0, 0)), Mem.one g_17 (.cells ([.int .i64 t_12.2.1.Inc, .int .i64 t_12.2.1.Prom, .int .i64 t_12.2.1.Inst] : List Value).toArray 28 (0, 0))] Z := hS'
  clear hs' hS'
  refine s_assign hm rfl rfl ?_
  clear hm a; intro a hm
  refine wpList_nil ?_
  replace hm : Fr 41 a [(2, .int .i64 0), (3, .pointer (some ⟨g_4, 0, none⟩)), (4, .bool false), (5, .bool false), (6, .int .i64 t_5.1), (7, .pointer (some ⟨g_10, 0, none⟩)), (8, .bool t_5.2.2), (9, .int .i64 t_12.1), (10, .pointer (some ⟨g_17, 0, none⟩)), (11, .bool t_12.2.2)] := hm.keep [2, 3, 4, 5, 6, 7, 8, 9, 10, 11]
  refine x_then_n ?_
  refine c_seq fun KJ_19 hKJ_19 => ?_
  refine c_seq fun KJ_20 hKJ_20 => ?_
  have hJ_j_24 : ∀ (x_22 : Bool), disk_which.J1 K t_12 t_5 x_22 = some r → ∀ (a : Act) (w_23 : World), (∃ (N_21 : Mem), Fr 41 a [(2, .int .i64 0), (3, .pointer (some ⟨g_4, 0, none⟩)), (4, .bool false), (5, .bool false), (6, .int .i64 t_5.1), (7, .pointer (some ⟨g_10, 0, none⟩)), (8, .bool t_5.2.2), (9, .int .i64 t_12.1), (10, .pointer (some ⟨g_17, 0, none⟩)), (35, .bool x_22)] ∧ Sep w0 w_23 [N_21, Mem.no, Mem.one g_4 (.cells ([.int .i64 0, .int .i64 0, .int .i64 0] : List Value).toArray 28 (0, 0)), Mem.one g_10 (.cells ([.int .i64 t_5.2.1.Inc, .int .i64 t_5.2.1.Prom, .int .i64 t_5.2.1.Inst] : List Value).toArray 28 (0, 0)), Mem.one g_17 (.cells ([.int .i64 t_12.2.1.Inc, .int .i64 t_12.2.1.Prom, .int .i64 t_12.2.1.Inst] : List Value).toArray 28 (0, 0))] Z ∧ N_15.le N_21) → KJ_20 a w_23 := by
    clear H hm hS a
    rintro x_22 H a w_23 ⟨N_21, hm, hS, le_21⟩
    unfold disk_which.J1 at H
    refine hKJ_20 _ _ ?_
    by_cases hc_25 : x_22 = true
    · rw [if_pos hc_25] at H
      refine c_cond_t hm rfl hc_25 ?_
      refine c_seq fun KJ_26 hKJ_26 => ?_
      refine h_begin (S := fun w => Sep w0 w [N_21, Mem.no, Mem.no, Mem.one g_10 (.cells ([.int .i64 t_5.2.1.Inc, .int .i64 t_5.2.1.Prom, .int .i64 t_5.2.1.Inst] : List Value).toArray 28 (0, 0)), Mem.one g_17 (.cells ([.int .i64 t_12.2.1.Inc, .int .i64 t_12.2.1.Prom, .int .i64 t_12.2.1.Inst] : List Value).toArray 28 (0, 0))] Z) 6 (by kernel_rfl) rfl [false, false, false, false, false, false].toArray rfl hS fun w_27 hS => ?_
      replace hS : Sep w0 w_27 [N_21, Mem.no, Mem.one g_4 (.cells ([.int .i64 0, .int .i64 0, .int .i64 0] : List Value).toArray 28 (0, 0)), Mem.one g_10 (.cells ([.int .i64 t_5.2.1.Inc, .int .i64 t_5.2.1.Prom, .int .i64 t_5.2.1.Inst] : List Value).toArray 28 (0, 0)), Mem.one g_17 (.cells ([.int .i64 t_12.2.1.Inc, .int .i64 t_12.2.1.Prom, .int .i64 t_12.2.1.Inst] : List Value).toArray 28 (0, 0))] Z := hS
      refine h_take 0 [true, false, false, false, false, false].toArray rfl (by kernel_rfl) (by kernel_rfl) (by kernel_rfl) (fun _ _ _ _ h => h) rfl rfl rfl rfl hm (hS.sub (.cons (Mem.le.refl _) (.cons (Mem.no_le _) (.cons (Mem.no_le _) (.cons (Mem.le.refl _) (.cons (Mem.le.refl _) (Sub.nil _))))))) (v := .int .i64 t_12.1) (fun w hS => r_move hm rfl) ?_
      clear hm a; intro a hm
      refine h_take 1 [true, true, false, false, false, false].toArray rfl (by kernel_rfl) (by kernel_rfl) (by kernel_rfl) (fun _ _ _ _ h => h) rfl rfl rfl rfl hm (hS.sub (.cons (Mem.le.refl _) (.cons (Mem.no_le _) (.cons (Mem.no_le _) (.cons (Mem.le.refl _) (.cons (Mem.le.refl _) (Sub.nil _))))))) (v := .agg [.int .i64 t_12.2.1.Inc, .int .i64 t_12.2.1.Prom, .int .i64 t_12.2.1.Inst].toArray) (fun w hS => r_load hm rfl (hS.load_agg (p := 4) (us := [.int .i64 t_12.2.1.Inc, .int .i64 t_12.2.1.Prom, .int .i64 t_12.2.1.Inst]) rfl Try.underlying28 rfl ti28 rfl rfl)) ?_
      clear hm a; intro a hm
      refine h_take 2 [true, true, true, false, false, false].toArray rfl (by kernel_rfl) (by kernel_rfl) (by kernel_rfl) (fun _ _ _ _ h => h) rfl rfl rfl rfl hm (hS.sub (.cons (Mem.le.refl _) (.cons (Mem.no_le _) (.cons (Mem.no_le _) (.cons (Mem.le.refl _) (.cons (Mem.le.refl _) (Sub.nil _))))))) (v := .int .i64 t_12.1) (fun w hS => r_assign hm rfl) ?_
      clear hm a; intro a hm
      refine h_event 3 [true, true, true, true, false, false].toArray rfl (by kernel_rfl) rfl ?_
      obtain ⟨w_28, hs', hS'⟩ := hS.store (P := Try.prog) (p := 2) (o := 0) (t := 28) (v := .agg [.int .i64 t_12.2.1.Inc, .int .i64 t_12.2.1.Prom, .int .i64 t_12.2.1.Inst].toArray) (vs := [.int .i64 t_12.2.1.Inc, .int .i64 t_12.2.1.Prom, .int .i64 t_12.2.1.Inst]) rfl ti28 rfl rfl rfl (by intro u hu; simp only [List.mem_cons, List.not_mem_nil, or_false] at hu; rcases hu with rfl | rfl | rfl <;> rfl)
      refine s_store hm rfl rfl hs' ?_
      replace hS : Sep w0 w_28 [N_21, Mem.no, Mem.one g_4 (.cells ([.int .i64 t_12.2.1.Inc, .int .i64 t_12.2.1.Prom, .int .i64 t_12.2.1.Inst] : List Value).toArray 28 (0, 0)), Mem.one g_10 (.cells ([.int .i64 t_5.2.1.Inc, .int .i64 t_5.2.1.Prom, .int .i64 t_5.2.1.Inst] : List Value).toArray 28 (0, 0)), Mem.one g_17 (.cells ([.int .i64 t_12.2.1.Inc, .int .i64 t_12.2.1.Prom, .int .i64 t_12.2.1.Inst] : List Value).toArray 28 (0, 0))] Z := hS'
      clear hs' hS'
      refine wpList_nil ?_
      refine x_then_n ⟨(hS.sub (.cons (Mem.le.refl _) (.cons (Mem.no_le _) (.cons (Mem.no_le _) (.cons (Mem.le.refl _) (.cons (Mem.le.refl _) (Sub.nil _))))))), ?_⟩
      refine h_take 4 [true, true, true, true, true, false].toArray rfl (by kernel_rfl) (by kernel_rfl) (by kernel_rfl) (fun _ _ _ _ h => h) rfl rfl rfl rfl hm (hS.sub (.cons (Mem.le.refl _) (.cons (Mem.no_le _) (.cons (Mem.no_le _) (.cons (Mem.le.refl _) (.cons (Mem.le.refl _) (Sub.nil _))))))) (v := .bool true) (fun w hS => r_assign hm rfl) ?_
      clear hm a; intro a hm
      refine h_take 5 [true, true, true, true, true, true].toArray rfl (by kernel_rfl) (by kernel_rfl) (by kernel_rfl) (fun _ _ _ _ h => h) rfl rfl rfl rfl hm (hS.sub (.cons (Mem.le.refl _) (.cons (Mem.no_le _) (.cons (Mem.no_le _) (.cons (Mem.le.refl _) (.cons (Mem.le.refl _) (Sub.nil _))))))) (v := .bool true) (fun w hS => r_assign hm rfl) ?_
      clear hm a; intro a hm
      refine h_done (by kernel_rfl) ?_
      replace hm : Fr 41 a [(2, .int .i64 t_12.1), (3, .pointer (some ⟨g_4, 0, none⟩)), (4, .bool true), (5, .bool true), (6, .int .i64 t_5.1), (7, .pointer (some ⟨g_10, 0, none⟩)), (8, .bool t_5.2.2)] := hm.keep [2, 3, 4, 5, 6, 7, 8]
      refine x_then_n (hKJ_26 _ _ ?_)
      refine wp_ret (x_then_r ?_)
      obtain rfl := Option.some.inj H
      exact f_ret hm (rs := [.tmp 2, .cell 3 28, .tmp 4, .tmp 5]) rfl (.tmp rfl (.cell rfl (hS.load_agg (p := 2) (us := [.int .i64 t_12.2.1.Inc, .int .i64 t_12.2.1.Prom, .int .i64 t_12.2.1.Inst]) rfl Try.underlying28 rfl ti28 rfl rfl) (.tmp rfl (.tmp rfl .nil)))) ⟨_, rfl, N_21, rfl, (Sep.sel hS [0] (by decide))⟩
    · rw [if_neg hc_25] at H
      refine c_cond_f hm rfl (Bool.eq_false_iff.2 hc_25) ?_
      refine wp_skip ?_
      refine x_then_n (hKJ_19 _ _ ?_)
      refine c_seq fun KJ_29 hKJ_29 => ?_
      refine h_begin (S := fun w => Sep w0 w [N_21, Mem.no, Mem.no, Mem.one g_10 (.cells ([.int .i64 t_5.2.1.Inc, .int .i64 t_5.2.1.Prom, .int .i64 t_5.2.1.Inst] : List Value).toArray 28 (0, 0)), Mem.one g_17 (.cells ([.int .i64 t_12.2.1.Inc, .int .i64 t_12.2.1.Prom, .int .i64 t_12.2.1.Inst] : List Value).toArray 28 (0, 0))] Z) 7 (by kernel_rfl) rfl [false, false, false, false, false, false, false].toArray rfl hS fun w_30 hS => ?_
      replace hS : Sep w0 w_30 [N_21, Mem.no, Mem.one g_4 (.cells ([.int .i64 0, .int .i64 0, .int .i64 0] : List Value).toArray 28 (0, 0)), Mem.one g_10 (.cells ([.int .i64 t_5.2.1.Inc, .int .i64 t_5.2.1.Prom, .int .i64 t_5.2.1.Inst] : List Value).toArray 28 (0, 0)), Mem.one g_17 (.cells ([.int .i64 t_12.2.1.Inc, .int .i64 t_12.2.1.Prom, .int .i64 t_12.2.1.Inst] : List Value).toArray 28 (0, 0))] Z := hS
      refine h_take 0 [true, false, false, false, false, false, false].toArray rfl (by kernel_rfl) (by kernel_rfl) (by kernel_rfl) (fun _ _ _ _ h => h) rfl rfl rfl rfl hm (hS.sub (.cons (Mem.le.refl _) (.cons (Mem.no_le _) (.cons (Mem.no_le _) (.cons (Mem.le.refl _) (.cons (Mem.le.refl _) (Sub.nil _))))))) (v := .int .i64 t_5.1) (fun w hS => r_move hm rfl) ?_
      clear hm a; intro a hm
      refine h_take 1 [true, true, false, false, false, false, false].toArray rfl (by kernel_rfl) (by kernel_rfl) (by kernel_rfl) (fun _ _ _ _ h => h) rfl rfl rfl rfl hm (hS.sub (.cons (Mem.le.refl _) (.cons (Mem.no_le _) (.cons (Mem.no_le _) (.cons (Mem.le.refl _) (.cons (Mem.le.refl _) (Sub.nil _))))))) (v := .agg [.int .i64 t_5.2.1.Inc, .int .i64 t_5.2.1.Prom, .int .i64 t_5.2.1.Inst].toArray) (fun w hS => r_load hm rfl (hS.load_agg (p := 3) (us := [.int .i64 t_5.2.1.Inc, .int .i64 t_5.2.1.Prom, .int .i64 t_5.2.1.Inst]) rfl Try.underlying28 rfl ti28 rfl rfl)) ?_
      clear hm a; intro a hm
      refine h_take 2 [true, true, true, false, false, false, false].toArray rfl (by kernel_rfl) (by kernel_rfl) (by kernel_rfl) (fun _ _ _ _ h => h) rfl rfl rfl rfl hm (hS.sub (.cons (Mem.le.refl _) (.cons (Mem.no_le _) (.cons (Mem.no_le _) (.cons (Mem.le.refl _) (.cons (Mem.le.refl _) (Sub.nil _))))))) (v := .bool t_5.2.2) (fun w hS => r_move hm rfl) ?_
      clear hm a; intro a hm
      refine h_take 3 [true, true, true, true, false, false, false].toArray rfl (by kernel_rfl) (by kernel_rfl) (by kernel_rfl) (fun _ _ _ _ h => h) rfl rfl rfl rfl hm (hS.sub (.cons (Mem.le.refl _) (.cons (Mem.no_le _) (.cons (Mem.no_le _) (.cons (Mem.le.refl _) (.cons (Mem.le.refl _) (Sub.nil _))))))) (v := .int .i64 t_5.1) (fun w hS => r_assign hm rfl) ?_
      clear hm a; intro a hm
      refine h_event 4 [true, true, true, true, true, false, false].toArray rfl (by kernel_rfl) rfl ?_
      obtain ⟨w_31, hs', hS'⟩ := hS.store (P := Try.prog) (p := 2) (o := 0) (t := 28) (v := .agg [.int .i64 t_5.2.1.Inc, .int .i64 t_5.2.1.Prom, .int .i64 t_5.2.1.Inst].toArray) (vs := [.int .i64 t_5.2.1.Inc, .int .i64 t_5.2.1.Prom, .int .i64 t_5.2.1.Inst]) rfl ti28 rfl rfl rfl (by intro u hu; simp only [List.mem_cons, List.not_mem_nil, or_false] at hu; rcases hu with rfl | rfl | rfl <;> rfl)
      refine s_store hm rfl rfl hs' ?_
      replace hS : Sep w0 w_31 [N_21, Mem.no, Mem.one g_4 (.cells ([.int .i64 t_5.2.1.Inc, .int .i64 t_5.2.1.Prom, .int .i64 t_5.2.1.Inst] : List Value).toArray 28 (0, 0)), Mem.one g_10 (.cells ([.int .i64 t_5.2.1.Inc, .int .i64 t_5.2.1.Prom, .int .i64 t_5.2.1.Inst] : List Value).toArray 28 (0, 0)), Mem.one g_17 (.cells ([.int .i64 t_12.2.1.Inc, .int .i64 t_12.2.1.Prom, .int .i64 t_12.2.1.Inst] : List Value).toArray 28 (0, 0))] Z := hS'
      clear hs' hS'
      refine wpList_nil ?_
      refine x_then_n ⟨(hS.sub (.cons (Mem.le.refl _) (.cons (Mem.no_le _) (.cons (Mem.no_le _) (.cons (Mem.le.refl _) (.cons (Mem.le.refl _) (Sub.nil _))))))), ?_⟩
      refine h_take 5 [true, true, true, true, true, true, false].toArray rfl (by kernel_rfl) (by kernel_rfl) (by kernel_rfl) (fun _ _ _ _ h => h) rfl rfl rfl rfl hm (hS.sub (.cons (Mem.le.refl _) (.cons (Mem.no_le _) (.cons (Mem.no_le _) (.cons (Mem.le.refl _) (.cons (Mem.le.refl _) (Sub.nil _))))))) (v := .bool false) (fun w hS => r_assign hm rfl) ?_
      clear hm a; intro a hm
      refine h_take 6 [true, true, true, true, true, true, true].toArray rfl (by kernel_rfl) (by kernel_rfl) (by kernel_rfl) (fun _ _ _ _ h => h) rfl rfl rfl rfl hm (hS.sub (.cons (Mem.le.refl _) (.cons (Mem.no_le _) (.cons (Mem.no_le _) (.cons (Mem.le.refl _) (.cons (Mem.le.refl _) (Sub.nil _))))))) (v := .bool t_5.2.2) (fun w hS => r_assign hm rfl) ?_
      clear hm a; intro a hm
      refine h_done (by kernel_rfl) ?_
      replace hm : Fr 41 a [(2, .int .i64 t_5.1), (3, .pointer (some ⟨g_4, 0, none⟩)), (4, .bool false), (5, .bool t_5.2.2)] := hm.keep [2, 3, 4, 5]
      refine x_then_n (hKJ_29 _ _ ?_)
      refine wp_ret ?_
      obtain rfl := Option.some.inj H
      exact f_ret hm (rs := [.tmp 2, .cell 3 28, .tmp 4, .tmp 5]) rfl (.tmp rfl (.cell rfl (hS.load_agg (p := 2) (us := [.int .i64 t_5.2.1.Inc, .int .i64 t_5.2.1.Prom, .int .i64 t_5.2.1.Inst]) rfl Try.underlying28 rfl ti28 rfl rfl) (.tmp rfl (.tmp rfl .nil)))) ⟨_, rfl, N_21, rfl, (Sep.sel hS [0] (by decide))⟩
  clear hKJ_20
  refine wp_region_lit ?_
  refine s_move hm rfl rfl ?_
  clear hm a; intro a hm
  refine s_move hm rfl rfl ?_
  clear hm a; intro a hm
  by_cases hc_32 : t_12.2.2 = true
  · rw [if_pos hc_32] at H
    refine s_on hm rfl rfl hc_32 ?_
    refine s_move hm rfl rfl ?_
    clear hm a; intro a hm
    refine s_on hm rfl rfl hc_32 ?_
    refine s_not hm rfl rfl ?_
    clear hm a; intro a hm
    refine s_on hm rfl rfl hc_32 ?_
    refine s_move hm rfl rfl ?_
    clear hm a; intro a hm
    by_cases hc_33 : t_5.2.2 = true
    · rw [if_pos hc_33] at H
      refine s_on hm rfl rfl (nf hc_33) ?_
      refine s_move hm rfl rfl ?_
      clear hm a; intro a hm
      refine s_on hm rfl rfl (nf hc_33) ?_
      refine s_move hm rfl rfl ?_
      clear hm a; intro a hm
      refine s_on hm rfl rfl (nf hc_33) ?_
      refine s_cmp (b := decide (t_12.1 > t_5.1)) hm rfl rfl rfl (.inr (.inr (.inr (.inr (.inl ⟨rfl, rfl⟩))))) ?_
      clear hm a; intro a hm
      refine s_on hm rfl rfl hc_32 ?_
      refine s_pick_f hm rfl rfl (nf hc_33) rfl ?_
      clear hm a; intro a hm
      refine s_pick_t hm rfl rfl hc_32 rfl ?_
      clear hm a; intro a hm
      refine wpList_nil ?_
      replace hm : Fr 41 a [(2, .int .i64 0), (3, .pointer (some ⟨g_4, 0, none⟩)), (4, .bool false), (5, .bool false), (6, .int .i64 t_5.1), (7, .pointer (some ⟨g_10, 0, none⟩)), (8, .bool t_5.2.2), (9, .int .i64 t_12.1), (10, .pointer (some ⟨g_17, 0, none⟩)), (35, .bool (decide (t_12.1 > t_5.1)))] := hm.keep [2, 3, 4, 5, 6, 7, 8, 9, 10, 35]
      replace hS : Sep w0 w_18 [N_15, Mem.one g_2 (.cells ([p0_0, p0_1] : List Value).toArray 25 (0, 0)), Mem.one g_4 (.cells ([.int .i64 0, .int .i64 0, .int .i64 0] : List Value).toArray 28 (0, 0)), Mem.one g_10 (.cells ([.int .i64 t_5.2.1.Inc, .int .i64 t_5.2.1.Prom, .int .i64 t_5.2.1.Inst] : List Value).toArray 28 (0, 0)), Mem.one g_17 (.cells ([.int .i64 t_12.2.1.Inc, .int .i64 t_12.2.1.Prom, .int .i64 t_12.2.1.Inst] : List Value).toArray 28 (0, 0))] Z := hS
      replace hm : Fr 41 a [(2, .int .i64 0), (3, .pointer (some ⟨g_4, 0, none⟩)), (4, .bool false), (5, .bool false), (6, .int .i64 t_5.1), (7, .pointer (some ⟨g_10, 0, none⟩)), (8, .bool t_5.2.2), (9, .int .i64 t_12.1), (10, .pointer (some ⟨g_17, 0, none⟩)), (35, .bool (decide (t_12.1 > t_5.1)))] := hm.keep [2, 3, 4, 5, 6, 7, 8, 9, 10, 35]
      exact x_then_n (hJ_j_24 (decide (t_12.1 > t_5.1)) H _ _ ⟨N_15, hm, (Sep.sel hS [0, 1000, 2, 3, 4] (by decide)), (Mem.le.refl _)⟩)
    · rw [if_neg hc_33] at H
      refine s_off hm rfl rfl rfl (nt (Bool.eq_false_iff.2 hc_33)) ?_
      clear hm a; intro a hm
      refine s_off hm rfl rfl rfl (nt (Bool.eq_false_iff.2 hc_33)) ?_
      clear hm a; intro a hm
      refine s_off hm rfl rfl rfl (nt (Bool.eq_false_iff.2 hc_33)) ?_
      clear hm a; intro a hm
      refine s_on hm rfl rfl hc_32 ?_
      refine s_pick_t hm rfl rfl (nt (Bool.eq_false_iff.2 hc_33)) rfl ?_
      clear hm a; intro a hm
      refine s_pick_t hm rfl rfl hc_32 rfl ?_
      clear hm a; intro a hm
      refine wpList_nil ?_
      replace hm : Fr 41 a [(2, .int .i64 0), (3, .pointer (some ⟨g_4, 0, none⟩)), (4, .bool false), (5, .bool false), (6, .int .i64 t_5.1), (7, .pointer (some ⟨g_10, 0, none⟩)), (8, .bool t_5.2.2), (9, .int .i64 t_12.1), (10, .pointer (some ⟨g_17, 0, none⟩)), (35, .bool true)] := hm.keep [2, 3, 4, 5, 6, 7, 8, 9, 10, 35]
      replace hS : Sep w0 w_18 [N_15, Mem.one g_2 (.cells ([p0_0, p0_1] : List Value).toArray 25 (0, 0)), Mem.one g_4 (.cells ([.int .i64 0, .int .i64 0, .int .i64 0] : List Value).toArray 28 (0, 0)), Mem.one g_10 (.cells ([.int .i64 t_5.2.1.Inc, .int .i64 t_5.2.1.Prom, .int .i64 t_5.2.1.Inst] : List Value).toArray 28 (0, 0)), Mem.one g_17 (.cells ([.int .i64 t_12.2.1.Inc, .int .i64 t_12.2.1.Prom, .int .i64 t_12.2.1.Inst] : List Value).toArray 28 (0, 0))] Z := hS
      replace hm : Fr 41 a [(2, .int .i64 0), (3, .pointer (some ⟨g_4, 0, none⟩)), (4, .bool false), (5, .bool false), (6, .int .i64 t_5.1), (7, .pointer (some ⟨g_10, 0, none⟩)), (8, .bool t_5.2.2), (9, .int .i64 t_12.1), (10, .pointer (some ⟨g_17, 0, none⟩)), (35, .bool true)] := hm.keep [2, 3, 4, 5, 6, 7, 8, 9, 10, 35]
      exact x_then_n (hJ_j_24 true H _ _ ⟨N_15, hm, (Sep.sel hS [0, 1000, 2, 3, 4] (by decide)), (Mem.le.refl _)⟩)
  · rw [if_neg hc_32] at H
    refine s_off hm rfl rfl rfl (Bool.eq_false_iff.2 hc_32) ?_
    clear hm a; intro a hm
    refine s_off hm rfl rfl rfl (Bool.eq_false_iff.2 hc_32) ?_
    clear hm a; intro a hm
    refine s_off hm rfl rfl rfl (Bool.eq_false_iff.2 hc_32) ?_
    clear hm a; intro a hm
    refine s_offu hm rfl rfl rfl ?_
    clear hm a; intro a hm
    refine s_offu hm rfl rfl rfl ?_
    clear hm a; intro a hm
    refine s_offu hm rfl rfl rfl ?_
    clear hm a; intro a hm
    refine s_off hm rfl rfl rfl (Bool.eq_false_iff.2 hc_32) ?_
    clear hm a; intro a hm
    refine s_pick_f hm rfl rfl (Bool.eq_false_iff.2 hc_32) rfl ?_
    clear hm a; intro a hm
    refine wpList_nil ?_
    replace hm : Fr 41 a [(2, .int .i64 0), (3, .pointer (some ⟨g_4, 0, none⟩)), (4, .bool false), (5, .bool false), (6, .int .i64 t_5.1), (7, .pointer (some ⟨g_10, 0, none⟩)), (8, .bool t_5.2.2), (9, .int .i64 t_12.1), (10, .pointer (some ⟨g_17, 0, none⟩)), (35, .bool false)] := hm.keep [2, 3, 4, 5, 6, 7, 8, 9, 10, 35]
    replace hS : Sep w0 w_18 [N_15, Mem.one g_2 (.cells ([p0_0, p0_1] : List Value).toArray 25 (0, 0)), Mem.one g_4 (.cells ([.int .i64 0, .int .i64 0, .int .i64 0] : List Value).toArray 28 (0, 0)), Mem.one g_10 (.cells ([.int .i64 t_5.2.1.Inc, .int .i64 t_5.2.1.Prom, .int .i64 t_5.2.1.Inst] : List Value).toArray 28 (0, 0)), Mem.one g_17 (.cells ([.int .i64 t_12.2.1.Inc, .int .i64 t_12.2.1.Prom, .int .i64 t_12.2.1.Inst] : List Value).toArray 28 (0, 0))] Z := hS
    replace hm : Fr 41 a [(2, .int .i64 0), (3, .pointer (some ⟨g_4, 0, none⟩)), (4, .bool false), (5, .bool false), (6, .int .i64 t_5.1), (7, .pointer (some ⟨g_10, 0, none⟩)), (8, .bool t_5.2.2), (9, .int .i64 t_12.1), (10, .pointer (some ⟨g_17, 0, none⟩)), (35, .bool false)] := hm.keep [2, 3, 4, 5, 6, 7, 8, 9, 10, 35]
    exact x_then_n (hJ_j_24 false H _ _ ⟨N_15, hm, (Sep.sel hS [0, 1000, 2, 3, 4] (by decide)), (Mem.le.refl _)⟩)

set_option maxHeartbeats 4000000 in
set_option maxRecDepth 20000 in
theorem disk_Write.calls (K : Nat) (x0 : api_Disk) (p0_0 : Value) (p0_1 : Value) (x1 : api_Record) (x2 : Int) (r : api_Disk) (w0 w : World) (Z A : Mem) (hA : A.le Z) (hS : Sep w0 w [] Z) (hp0_0 : Rd Kd.u8 A p0_0 x0.A) (hp0_1 : Rd Kd.u8 A p0_1 x0.B)
    (H : disk_Write.f K x0 x1 x2 = some r) :
    Calls Try.prog 11 [.agg [p0_0, p0_1].toArray, .agg [.int .i64 x1.Inc, .int .i64 x1.Prom, .int .i64 x1.Inst].toArray, .int .i64 x2].toArray w (Ret fun v w' => ∃ (u0 : Value) (u1 : Value) (N : Mem) (M0 : Mem) (M1 : Mem), v = .agg [u0, u1].toArray ∧ Sep w0 w' [N, M0, M1] Z ∧ Own Kd.u8 5 M0 Mem.no u0 r.A ∧ Own Kd.u8 5 M1 Mem.no u1 r.B) := by
  unfold disk_Write.f at H
  refine f_enter _ Try.func11 rfl Try.ntmps11 rfl fun a hm => ?_
  replace hm : Fr 53 a [(0, .agg [p0_0, p0_1].toArray), (1, .agg [.int .i64 x1.Inc, .int .i64 x1.Prom, .int .i64 x1.Inst].toArray), (2, .int .i64 x2)] := hm
  replace hS := hS.start
  replace hS : Sep w0 w [Mem.no] Z := hS
  refine wp_seq ?_
  refine wp_region_lit ?_
  refine v_box (vs := [p0_0, p0_1]) hm rfl rfl rfl hS ?_
  intro w_1 g_2 hS'
  clear hm a; intro a hm
  replace hS : Sep w0 w_1 [Mem.no, Mem.one g_2 (.cells ([p0_0, p0_1] : List Value).toArray 25 (0, 0))] Z := hS'
  clear hS'
  refine v_box (vs := [.int .i64 x1.Inc, .int .i64 x1.Prom, .int .i64 x1.Inst]) hm rfl rfl rfl hS ?_
  intro w_3 g_4 hS'
  clear hm a; intro a hm
  replace hS : Sep w0 w_3 [Mem.no, Mem.one g_2 (.cells ([p0_0, p0_1] : List Value).toArray 25 (0, 0)), Mem.one g_4 (.cells ([.int .i64 x1.Inc, .int .i64 x1.Prom, .int .i64 x1.Inst] : List Value).toArray 28 (0, 0))] Z := hS'
  clear hS'
  refine v_alloc hm rfl ti25 hS ?_
  intro w_5 g_6 hS'
  clear hm a; intro a hm
  replace hS : Sep w0 w_5 [Mem.no, Mem.one g_2 (.cells ([p0_0, p0_1] : List Value).toArray 25 (0, 0)), Mem.one g_4 (.cells ([.int .i64 x1.Inc, .int .i64 x1.Prom, .int .i64 x1.Inst] : List Value).toArray 28 (0, 0)), Mem.one g_6 (.cells ([.slice none 0 0, .slice none 0 0] : List Value).toArray 25 (0, 0))] Z := hS'
  clear hS'
  refine wpList_nil ?_
  replace hm : Fr 53 a [(2, .int .i64 x2), (3, .pointer (some ⟨g_2, 0, none⟩)), (4, .pointer (some ⟨g_4, 0, none⟩)), (6, .pointer (some ⟨g_6, 0, none⟩))] := hm.keep [2, 3, 4, 6]
  refine x_then_n ?_
  refine wp_seq ?_
  refine wp_region_lit ?_
  refine s_load hm rfl rfl (hS.load_agg (p := 1) (us := [p0_0, p0_1]) rfl Try.underlying25 rfl ti25 rfl rfl) ?_
  clear hm a; intro a hm
  obtain ⟨t_7, et_7, H⟩ := Option.bind_eq_some_iff.1 H
  refine s_call hm rfl Try.call26 rfl (disk_which.calls K x0 _ _ t_7 w0 _ _ _ (Mem.le.refl _) (hS.enter [] (by decide)) (hp0_0.mono (hA.trans (hS.le_zed []))) (hp0_1.mono (hA.trans (hS.le_zed []))) et_7) ?_
  rintro _ w_8 ⟨N_9, rfl, hS'⟩
  clear hm a; intro a hm
  obtain ⟨N_10, hS'', le_10, ln_10⟩ := hS.call [] (by decide) rfl (l' := []) (ow := []) rfl hS'
  replace hS : Sep w0 w_8 [N_10, Mem.one g_2 (.cells ([p0_0, p0_1] : List Value).toArray 25 (0, 0)), Mem.one g_4 (.cells ([.int .i64 x1.Inc, .int .i64 x1.Prom, .int .i64 x1.Inst] : List Value).toArray 28 (0, 0)), Mem.one g_6 (.cells ([.slice none 0 0, .slice none 0 0] : List Value).toArray 25 (0, 0))] Z := hS''
  clear hS' hS''
  refine s_move hm rfl rfl ?_
  clear hm a; intro a hm
  refine s_extract hm rfl rfl rfl ?_
  clear hm a; intro a hm
  refine s_extract hm rfl rfl rfl ?_
  clear hm a; intro a hm
  refine s_extract hm rfl rfl rfl ?_
  clear hm a; intro a hm
  refine s_extract hm rfl rfl rfl ?_
  clear hm a; intro a hm
  refine v_alloc hm rfl ti28 hS ?_
  intro w_11 g_12 hS'
  clear hm a; intro a hm
  replace hS : Sep w0 w_11 [N_10, Mem.one g_2 (.cells ([p0_0, p0_1] : List Value).toArray 25 (0, 0)), Mem.one g_4 (.cells ([.int .i64 x1.Inc, .int .i64 x1.Prom, .int .i64 x1.Inst] : List Value).toArray 28 (0, 0)), Mem.one g_6 (.cells ([.slice none 0 0, .slice none 0 0] : List Value).toArray 25 (0, 0)), Mem.one g_12 (.cells ([.int .i64 0, .int .i64 0, .int .i64 0] : List Value).toArray 28 (0, 0))] Z := hS'
  clear hS'
  refine s_assign hm rfl rfl ?_
  clear hm a; intro a hm
  obtain ⟨w_13, hs', hS'⟩ := hS.store (P := Try.prog) (p := 4) (o := 0) (t := 28) (v := .agg [.int .i64 t_7.2.1.Inc, .int .i64 t_7.2.1.Prom, .int .i64 t_7.2.1.Inst].toArray) (vs := [.int .i64 t_7.2.1.Inc, .int .i64 t_7.2.1.Prom, .int .i64 t_7.2.1.Inst]) rfl ti28 rfl rfl rfl (by intro u hu; simp only [List.mem_cons, List.not_mem_nil, or_false] at hu; rcases hu with rfl | rfl | rfl <;> rfl)
  refine s_store hm rfl rfl hs' ?_
  replace hS : Sep w0 w_13 [N_10, Mem.one g_2 (.cells ([p0_0, p0_1] : List Value).toArray 25 (0, 0)), Mem.one g_4 (.cells ([.int .i64 x1.Inc, .int .i64 x1.Prom, .int .i64 x1.Inst] : List Value).toArray 28 (0, 0)), Mem.one g_6 (.cells ([.slice none 0 0, .slice none 0 0] : List Value).toArray 25 (0, 0)), Mem.one g_12 (.cells ([.int .i64 t_7.2.1.Inc, .int .i64 t_7.2.1.Prom, .int .i64 t_7.2.1.Inst] : List Value).toArray 28 (0, 0))] Z := hS'
  clear hs' hS'
  refine s_assign hm rfl rfl ?_
  clear hm a; intro a hm
  refine s_assign hm rfl rfl ?_
  clear hm a; intro a hm
  refine wpList_nil ?_
  replace hm : Fr 53 a [(2, .int .i64 x2), (3, .pointer (some ⟨g_2, 0, none⟩)), (4, .pointer (some ⟨g_4, 0, none⟩)), (6, .pointer (some ⟨g_6, 0, none⟩)), (7, .int .i64 t_7.1), (9, .bool t_7.2.2.1), (10, .bool t_7.2.2.2)] := hm.keep [2, 3, 4, 6, 7, 9, 10]
  refine x_then_n ?_
  refine wp_seq ?_
  refine wp_region_lit ?_
  refine s_move hm rfl rfl ?_
  clear hm a; intro a hm
  refine s_arith (r := w64 (t_7.1 + 1)) hm rfl rfl rfl (.inl ⟨rfl, rfl⟩) ?_
  clear hm a; intro a hm
  refine s_load hm rfl rfl (hS.load_agg (p := 2) (us := [.int .i64 x1.Inc, .int .i64 x1.Prom, .int .i64 x1.Inst]) rfl Try.underlying28 rfl ti28 rfl rfl) ?_
  clear hm a; intro a hm
  obtain ⟨t_14, et_14, H⟩ := Option.bind_eq_some_iff.1 H
  refine s_call hm rfl Try.call14 rfl (disk_Slot.calls K (w64 (t_7.1 + 1)) x1 t_14 w0 _ _ _ (Mem.le.refl _) (hS.enter [] (by decide))  et_14) ?_
  rintro v_18 w_15 ⟨_, N_16, M_20, rfl, hS', hr_19⟩
  clear hm a; intro a hm
  obtain ⟨N_17, hS'', le_17, ln_17⟩ := hS.call [] (by decide) rfl (l' := []) (ow := [M_20]) rfl hS'
  replace hS : Sep w0 w_15 [N_17, Mem.one g_2 (.cells ([p0_0, p0_1] : List Value).toArray 25 (0, 0)), Mem.one g_4 (.cells ([.int .i64 x1.Inc, .int .i64 x1.Prom, .int .i64 x1.Inst] : List Value).toArray 28 (0, 0)), Mem.one g_6 (.cells ([.slice none 0 0, .slice none 0 0] : List Value).toArray 25 (0, 0)), Mem.one g_12 (.cells ([.int .i64 t_7.2.1.Inc, .int .i64 t_7.2.1.Prom, .int .i64 t_7.2.1.Inst] : List Value).toArray 28 (0, 0)), M_20] Z := hS''
  clear hS' hS''
  refine s_assign hm rfl rfl ?_
  clear hm a; intro a hm
  refine wpList_nil ?_
  replace hm : Fr 53 a [(2, .int .i64 x2), (3, .pointer (some ⟨g_2, 0, none⟩)), (6, .pointer (some ⟨g_6, 0, none⟩)), (9, .bool t_7.2.2.1), (10, .bool t_7.2.2.2), (11, v_18)] := hm.keep [2, 3, 6, 9, 10, 11]
  refine x_then_n ?_
  refine c_seq fun KJ_22 hKJ_22 => ?_
  refine c_seq fun KJ_23 hKJ_23 => ?_
  have hJ_j_27 : ∀ (x_25 : Bool), disk_Write.J1 K t_14 x2 x0 t_7 x_25 = some r → ∀ (a : Act) (w_26 : World), (∃ (N_24 : Mem), Fr 53 a [(2, .int .i64 x2), (3, .pointer (some ⟨g_2, 0, none⟩)), (6, .pointer (some ⟨g_6, 0, none⟩)), (9, .bool t_7.2.2.1), (10, .bool t_7.2.2.2), (11, v_18), (31, .bool x_25)] ∧ Sep w0 w_26 [N_24, Mem.one g_2 (.cells ([p0_0, p0_1] : List Value).toArray 25 (0, 0)), Mem.no, Mem.one g_6 (.cells ([.slice none 0 0, .slice none 0 0] : List Value).toArray 25 (0, 0)), Mem.no, M_20] Z ∧ N_17.le N_24) → KJ_23 a w_26 := by
    clear H hm hS a
    rintro x_25 H a w_26 ⟨N_24, hm, hS, le_24⟩
    unfold disk_Write.J1 at H
    refine hKJ_23 _ _ ?_
    have hJ_j_35 : ∀ (x_29 : List UInt8), disk_Write.J2 K x0 t_7 x_29 = some r → ∀ (a : Act) (w_34 : World), (∃ (v_32 : Value) (N_28 : Mem) (M_30 : Mem), Fr 53 a [(3, .pointer (some ⟨g_2, 0, none⟩)), (6, .pointer (some ⟨g_6, 0, none⟩)), (9, .bool t_7.2.2.1), (10, .bool t_7.2.2.2), (11, v_32)] ∧ Sep w0 w_34 [N_28, Mem.one g_2 (.cells ([p0_0, p0_1] : List Value).toArray 25 (0, 0)), Mem.no, Mem.one g_6 (.cells ([.slice none 0 0, .slice none 0 0] : List Value).toArray 25 (0, 0)), Mem.no, Mem.no, M_30] Z ∧ N_24.le N_28 ∧ Own Kd.u8 5 M_30 Mem.no v_32 x_29) → KJ_22 a w_34 := by
      clear H hm hS a
      rintro x_29 H a w_34 ⟨v_32, N_28, M_30, hm, hS, le_28, ho_33⟩
      unfold disk_Write.J2 at H
      refine hKJ_22 _ _ ?_
      refine c_seq fun KJ_36 hKJ_36 => ?_
      have hJ_j_49 : ∀ (x_39 : api_Disk), disk_Write.J3 K t_7 x_29 x_39 = some r → ∀ (a : Act) (w_48 : World), (∃ (v_42 : Value) (v_46 : Value) (g_38 : Nat) (N_37 : Mem) (M_40 : Mem) (M_44 : Mem), Fr 53 a [(6, .pointer (some ⟨g_6, 0, none⟩)), (9, .bool t_7.2.2.1), (10, .bool t_7.2.2.2), (11, v_32), (12, .pointer (some ⟨g_38, 0, none⟩))] ∧ Sep w0 w_48 [N_37, Mem.no, Mem.no, Mem.one g_6 (.cells ([.slice none 0 0, .slice none 0 0] : List Value).toArray 25 (0, 0)), Mem.no, Mem.no, M_30, Mem.one g_38 (.cells ([v_42, v_46] : List Value).toArray 25 (0, 0)), M_40, M_44] Z ∧ N_28.le N_37 ∧ Own Kd.u8 5 M_40 Mem.no v_42 x_39.A ∧ Own Kd.u8 5 M_44 Mem.no v_46 x_39.B) → KJ_36 a w_48 := by
        clear H hm hS a
        rintro x_39 H a w_48 ⟨v_42, v_46, g_38, N_37, M_40, M_44, hm, hS, le_37, ho_43, ho_47⟩
        unfold disk_Write.J3 at H
        refine hKJ_36 _ _ ?_
        refine c_seq fun KJ_50 hKJ_50 => ?_
        refine c_seq fun KJ_51 hKJ_51 => ?_
        have hJ_j_55 : ∀ (x_53 : Bool), disk_Write.J4 K x_39 x_29 x_53 = some r → ∀ (a : Act) (w_54 : World), (∃ (N_52 : Mem), Fr 53 a [(6, .pointer (some ⟨g_6, 0, none⟩)), (11, v_32), (12, .pointer (some ⟨g_38, 0, none⟩)), (47, .bool x_53)] ∧ Sep w0 w_54 [N_52, Mem.no, Mem.no, Mem.one g_6 (.cells ([.slice none 0 0, .slice none 0 0] : List Value).toArray 25 (0, 0)), Mem.no, Mem.no, M_30, Mem.one g_38 (.cells ([v_42, v_46] : List Value).toArray 25 (0, 0)), M_40, M_44] Z ∧ N_37.le N_52) → KJ_51 a w_54 := by
          clear H hm hS a
          rintro x_53 H a w_54 ⟨N_52, hm, hS, le_52⟩
          unfold disk_Write.J4 at H
          refine hKJ_51 _ _ ?_
          by_cases hc_56 : x_53 = true
          · rw [if_pos hc_56] at H
            refine c_cond_t hm rfl hc_56 ?_
            refine wp_region_lit ?_
            refine s_move hm rfl rfl ?_
            clear hm a; intro a hm
            refine s_fieldAddr hm rfl Try.underlying25 rfl ti23 rfl rfl ?_
            clear hm a; intro a hm
            obtain ⟨w_57, hs', hS'⟩ := hS.store (P := Try.prog) (p := 7) (o := 1) (t := 23) (v := v_32) (vs := [v_32]) rfl ti23 ho_33.cellsA rfl rfl (by intro u hu; simp only [List.mem_cons, List.not_mem_nil, or_false] at hu; rcases hu with rfl <;> first | rfl | exact ho_33.one)
            refine s_store hm rfl rfl hs' ?_
            replace hS : Sep w0 w_57 [N_52, Mem.no, Mem.no, Mem.one g_6 (.cells ([.slice none 0 0, .slice none 0 0] : List Value).toArray 25 (0, 0)), Mem.no, Mem.no, M_30, Mem.one g_38 (.cells ([v_42, v_32] : List Value).toArray 25 (0, 0)), M_40, M_44] Z := hS'
            clear hs' hS'
            refine wpList_nil ?_
            replace hm : Fr 53 a [(6, .pointer (some ⟨g_6, 0, none⟩)), (12, .pointer (some ⟨g_38, 0, none⟩))] := hm.keep [6, 12]
            refine x_then_n (hKJ_50 _ _ ?_)
            refine wp_seq ?_
            refine wp_region_lit ?_
            refine s_load hm rfl rfl (hS.load_agg (p := 7) (us := [v_42, v_32]) rfl Try.underlying25 rfl ti25 rfl rfl) ?_
            clear hm a; intro a hm
            obtain ⟨w_58, hs', hS'⟩ := hS.store (P := Try.prog) (p := 3) (o := 0) (t := 25) (v := .agg [v_42, v_32].toArray) (vs := [v_42, v_32]) rfl ti25 rfl rfl rfl (by intro u hu; simp only [List.mem_cons, List.not_mem_nil, or_false] at hu; rcases hu with rfl | rfl <;> first | rfl | exact ho_43.one | exact ho_33.one)
            refine s_store hm rfl rfl hs' ?_
            replace hS : Sep w0 w_58 [N_52, Mem.no, Mem.no, Mem.one g_6 (.cells ([v_42, v_32] : List Value).toArray 25 (0, 0)), Mem.no, Mem.no, M_30, Mem.one g_38 (.cells ([v_42, v_32] : List Value).toArray 25 (0, 0)), M_40, M_44] Z := hS'
            clear hs' hS'
            refine wpList_nil ?_
            replace hm : Fr 53 a [(6, .pointer (some ⟨g_6, 0, none⟩))] := hm.keep [6]
            refine x_then_n ?_
            refine wp_ret ?_
            obtain rfl := Option.some.inj H
            exact f_ret hm (rs := [.cell 6 25]) rfl (.cell rfl (hS.load_agg (p := 3) (us := [v_42, v_32]) rfl Try.underlying25 rfl ti25 rfl rfl) .nil) ⟨_, rfl, v_42, v_32, N_52, M_40, M_30, rfl, (Sep.sel hS [0, 8, 6] (by decide)), ho_43, ho_33⟩
          · rw [if_neg hc_56] at H
            refine c_cond_f hm rfl (Bool.eq_false_iff.2 hc_56) ?_
            refine wp_region_lit ?_
            refine s_move hm rfl rfl ?_
            clear hm a; intro a hm
            refine s_fieldAddr hm rfl Try.underlying25 rfl ti23 rfl rfl ?_
            clear hm a; intro a hm
            obtain ⟨w_59, hs', hS'⟩ := hS.store (P := Try.prog) (p := 7) (o := 0) (t := 23) (v := v_32) (vs := [v_32]) rfl ti23 ho_33.cellsA rfl rfl (by intro u hu; simp only [List.mem_cons, List.not_mem_nil, or_false] at hu; rcases hu with rfl <;> first | rfl | exact ho_33.one)
            refine s_store hm rfl rfl hs' ?_
            replace hS : Sep w0 w_59 [N_52, Mem.no, Mem.no, Mem.one g_6 (.cells ([.slice none 0 0, .slice none 0 0] : List Value).toArray 25 (0, 0)), Mem.no, Mem.no, M_30, Mem.one g_38 (.cells ([v_32, v_46] : List Value).toArray 25 (0, 0)), M_40, M_44] Z := hS'
            clear hs' hS'
            refine wpList_nil ?_
            replace hm : Fr 53 a [(6, .pointer (some ⟨g_6, 0, none⟩)), (12, .pointer (some ⟨g_38, 0, none⟩))] := hm.keep [6, 12]
            refine x_then_n (hKJ_50 _ _ ?_)
            refine wp_seq ?_
            refine wp_region_lit ?_
            refine s_load hm rfl rfl (hS.load_agg (p := 7) (us := [v_32, v_46]) rfl Try.underlying25 rfl ti25 rfl rfl) ?_
            clear hm a; intro a hm
            obtain ⟨w_60, hs', hS'⟩ := hS.store (P := Try.prog) (p := 3) (o := 0) (t := 25) (v := .agg [v_32, v_46].toArray) (vs := [v_32, v_46]) rfl ti25 rfl rfl rfl (by intro u hu; simp only [List.mem_cons, List.not_mem_nil, or_false] at hu; rcases hu with rfl | rfl <;> first | rfl | exact ho_33.one | exact ho_47.one)
            refine s_store hm rfl rfl hs' ?_
            replace hS : Sep w0 w_60 [N_52, Mem.no, Mem.no, Mem.one g_6 (.cells ([v_32, v_46] : List Value).toArray 25 (0, 0)), Mem.no, Mem.no, M_30, Mem.one g_38 (.cells ([v_32, v_46] : List Value).toArray 25 (0, 0)), M_40, M_44] Z := hS'
            clear hs' hS'
            refine wpList_nil ?_
            replace hm : Fr 53 a [(6, .pointer (some ⟨g_6, 0, none⟩))] := hm.keep [6]
            refine x_then_n ?_
            refine wp_ret ?_
            obtain rfl := Option.some.inj H
            exact f_ret hm (rs := [.cell 6 25]) rfl (.cell rfl (hS.load_agg (p := 3) (us := [v_32, v_46]) rfl Try.underlying25 rfl ti25 rfl rfl) .nil) ⟨_, rfl, v_32, v_46, N_52, M_30, M_44, rfl, (Sep.sel hS [0, 6, 9] (by decide)), ho_33, ho_47⟩
        clear hKJ_51
        refine wp_region_lit ?_
        refine s_move hm rfl rfl ?_
        clear hm a; intro a hm
        refine s_move hm rfl rfl ?_
        clear hm a; intro a hm
        by_cases hc_61 : t_7.2.2.2 = true
        · rw [if_pos hc_61] at H
          refine s_on hm rfl rfl hc_61 ?_
          refine s_move hm rfl rfl ?_
          clear hm a; intro a hm
          refine s_on hm rfl rfl hc_61 ?_
          refine s_not hm rfl rfl ?_
          clear hm a; intro a hm
          refine s_pick_t hm rfl rfl hc_61 rfl ?_
          clear hm a; intro a hm
          refine wpList_nil ?_
          replace hm : Fr 53 a [(6, .pointer (some ⟨g_6, 0, none⟩)), (11, v_32), (12, .pointer (some ⟨g_38, 0, none⟩)), (47, .bool (!t_7.2.2.1))] := hm.keep [6, 11, 12, 47]
          replace hS : Sep w0 w_48 [N_37, Mem.no, Mem.no, Mem.one g_6 (.cells ([.slice none 0 0, .slice none 0 0] : List Value).toArray 25 (0, 0)), Mem.no, Mem.no, M_30, Mem.one g_38 (.cells ([v_42, v_46] : List Value).toArray 25 (0, 0)), M_40, M_44] Z := hS
          replace hm : Fr 53 a [(6, .pointer (some ⟨g_6, 0, none⟩)), (11, v_32), (12, .pointer (some ⟨g_38, 0, none⟩)), (47, .bool (!t_7.2.2.1))] := hm.keep [6, 11, 12, 47]
          exact x_then_n (hJ_j_55 (!t_7.2.2.1) H _ _ ⟨N_37, hm, (Sep.sel hS [0, 1000, 1001, 3, 1003, 1004, 6, 7, 8, 9] (by decide)), (Mem.le.refl _)⟩)
        · rw [if_neg hc_61] at H
          refine s_off hm rfl rfl rfl (Bool.eq_false_iff.2 hc_61) ?_
          clear hm a; intro a hm
          refine s_off hm rfl rfl rfl (Bool.eq_false_iff.2 hc_61) ?_
          clear hm a; intro a hm
          refine s_pick_f hm rfl rfl (Bool.eq_false_iff.2 hc_61) rfl ?_
          clear hm a; intro a hm
          refine wpList_nil ?_
          replace hm : Fr 53 a [(6, .pointer (some ⟨g_6, 0, none⟩)), (11, v_32), (12, .pointer (some ⟨g_38, 0, none⟩)), (47, .bool false)] := hm.keep [6, 11, 12, 47]
          replace hS : Sep w0 w_48 [N_37, Mem.no, Mem.no, Mem.one g_6 (.cells ([.slice none 0 0, .slice none 0 0] : List Value).toArray 25 (0, 0)), Mem.no, Mem.no, M_30, Mem.one g_38 (.cells ([v_42, v_46] : List Value).toArray 25 (0, 0)), M_40, M_44] Z := hS
          replace hm : Fr 53 a [(6, .pointer (some ⟨g_6, 0, none⟩)), (11, v_32), (12, .pointer (some ⟨g_38, 0, none⟩)), (47, .bool false)] := hm.keep [6, 11, 12, 47]
          exact x_then_n (hJ_j_55 false H _ _ ⟨N_37, hm, (Sep.sel hS [0, 1000, 1001, 3, 1003, 1004, 6, 7, 8, 9] (by decide)), (Mem.le.refl _)⟩)
      clear hKJ_36
      refine h_begin (S := fun w => Sep w0 w [N_28, Mem.one g_2 (.cells ([p0_0, p0_1] : List Value).toArray 25 (0, 0)), Mem.no, Mem.one g_6 (.cells ([.slice none 0 0, .slice none 0 0] : List Value).toArray 25 (0, 0)), Mem.no, Mem.no, M_30] Z) 9 (by kernel_rfl) rfl [false, false, false, false, false, false, false, false, false].toArray rfl hS fun w_62 hS => ?_
      replace hS : Sep w0 w_62 [N_28, Mem.one g_2 (.cells ([p0_0, p0_1] : List Value).toArray 25 (0, 0)), Mem.no, Mem.one g_6 (.cells ([.slice none 0 0, .slice none 0 0] : List Value).toArray 25 (0, 0)), Mem.no, Mem.no, M_30] Z := hS
      refine h_take 0 [true, false, false, false, false, false, false, false, false].toArray rfl (by kernel_rfl) (by kernel_rfl) (by kernel_rfl) (fun _ _ _ _ h => h) rfl rfl rfl rfl hm (hS.sub (.cons (Mem.le.refl _) (.cons (Mem.le.refl _) (.cons (Mem.no_le _) (.cons (Mem.le.refl _) (.cons (Mem.no_le _) (.cons (Mem.no_le _) (.cons (Mem.le.refl _) (Sub.nil _))))))))) (v := .pointer (some ⟨g_2, 0, none⟩)) (fun w hS => r_fieldAddr hm Try.underlying25 rfl ti23 rfl rfl rfl) ?_
      clear hm a; intro a hm
      refine h_take 1 [true, true, false, false, false, false, false, false, false].toArray rfl (by kernel_rfl) (by kernel_rfl) (by kernel_rfl) (fun _ _ _ _ h => h) rfl rfl rfl rfl hm (hS.sub (.cons (Mem.le.refl _) (.cons (Mem.le.refl _) (.cons (Mem.no_le _) (.cons (Mem.le.refl _) (.cons (Mem.no_le _) (.cons (Mem.no_le _) (.cons (Mem.le.refl _) (Sub.nil _))))))))) (v := p0_0) (fun w hS => r_load hm rfl (hS.load_one (p := 1) rfl Try.underlying23 rfl rfl)) ?_
      clear hm a; intro a hm
      refine h_take 3 [true, true, false, true, false, false, false, false, false].toArray rfl (by kernel_rfl) (by kernel_rfl) (by kernel_rfl) (fun _ _ _ _ h => h) rfl rfl rfl rfl hm (hS.sub (.cons (Mem.le.refl _) (.cons (Mem.le.refl _) (.cons (Mem.no_le _) (.cons (Mem.le.refl _) (.cons (Mem.no_le _) (.cons (Mem.no_le _) (.cons (Mem.le.refl _) (Sub.nil _))))))))) (v := .pointer (some ⟨g_2, 1, none⟩)) (fun w hS => r_fieldAddr hm Try.underlying25 rfl ti23 rfl rfl rfl) ?_
      clear hm a; intro a hm
      refine h_take 4 [true, true, false, true, true, false, false, false, false].toArray rfl (by kernel_rfl) (by kernel_rfl) (by kernel_rfl) (fun _ _ _ _ h => h) rfl rfl rfl rfl hm (hS.sub (.cons (Mem.le.refl _) (.cons (Mem.le.refl _) (.cons (Mem.no_le _) (.cons (Mem.le.refl _) (.cons (Mem.no_le _) (.cons (Mem.no_le _) (.cons (Mem.le.refl _) (Sub.nil _))))))))) (v := p0_1) (fun w hS => r_load hm rfl (hS.load_one (p := 1) rfl Try.underlying23 rfl rfl)) ?_
      clear hm a; intro a hm
      obtain ⟨t_63, et_63, H⟩ := Option.bind_eq_some_iff.1 H
      obtain ⟨t_71, et_71, H⟩ := Option.bind_eq_some_iff.1 H
      refine h_events [2, 7] (by kernel_rfl) (by simp) ?_
      intro i hi; simp only [List.mem_cons, List.not_mem_nil, or_false] at hi; rcases hi with rfl | rfl
      · refine ⟨_, [true, true, true, true, true, false, false, false, false].toArray, rfl, rfl, ?_⟩
        refine s_call hm rfl Try.call27 rfl (slices_Clone_sbyte_byte.calls x0.A _ t_63 w0 _ _ _ (Mem.le.refl _) (hS.enter [] (by decide)) (hp0_0.mono (hA.trans (hS.le_zed []))) et_63) ?_
        rintro v_67 w_64 ⟨_, N_65, M_69, rfl, hS', hr_68⟩
        clear hm a; intro a hm
        obtain ⟨N_66, hS'', le_66, ln_66⟩ := hS.call [] (by decide) rfl (l' := []) (ow := [M_69]) rfl hS'
        replace hS : Sep w0 w_64 [N_66, Mem.one g_2 (.cells ([p0_0, p0_1] : List Value).toArray 25 (0, 0)), Mem.no, Mem.one g_6 (.cells ([.slice none 0 0, .slice none 0 0] : List Value).toArray 25 (0, 0)), Mem.no, Mem.no, M_30, M_69] Z := hS''
        clear hS' hS''
        refine wpList_nil ?_
        refine x_then_n ⟨(hS.sub (.cons le_66 (.cons (Mem.le.refl _) (.cons (Mem.no_le _) (.cons (Mem.le.refl _) (.cons (Mem.no_le _) (.cons (Mem.no_le _) (.cons (Mem.le.refl _) (Sub.nil _))))))))), ?_⟩
        refine h_events [5, 7] (by kernel_rfl) (by simp) ?_
        intro i hi; simp only [List.mem_cons, List.not_mem_nil, or_false] at hi; rcases hi with rfl | rfl
        · refine ⟨_, [true, true, true, true, true, true, false, false, false].toArray, rfl, rfl, ?_⟩
          refine s_call hm rfl Try.call27 rfl (slices_Clone_sbyte_byte.calls x0.B _ t_71 w0 _ _ _ (Mem.le.refl _) (hS.enter [] (by decide)) (hp0_1.mono (hA.trans (hS.le_zed []))) et_71) ?_
          rintro v_75 w_72 ⟨_, N_73, M_77, rfl, hS', hr_76⟩
          clear hm a; intro a hm
          obtain ⟨N_74, hS'', le_74, ln_74⟩ := hS.call [] (by decide) rfl (l' := []) (ow := [M_77]) rfl hS'
          replace hS : Sep w0 w_72 [N_74, Mem.one g_2 (.cells ([p0_0, p0_1] : List Value).toArray 25 (0, 0)), Mem.no, Mem.one g_6 (.cells ([.slice none 0 0, .slice none 0 0] : List Value).toArray 25 (0, 0)), Mem.no, Mem.no, M_30, M_69, M_77] Z := hS''
          clear hS' hS''
          refine wpList_nil ?_
          refine x_then_n ⟨(hS.sub (.cons (le_66.trans le_74) (.cons (Mem.le.refl _) (.cons (Mem.no_le _) (.cons (Mem.le.refl _) (.cons (Mem.no_le _) (.cons (Mem.no_le _) (.cons (Mem.le.refl _) (Sub.nil _))))))))), ?_⟩
          refine h_take 6 [true, true, true, true, true, true, true, false, false].toArray rfl (by kernel_rfl) (by kernel_rfl) (by kernel_rfl) (fun _ _ _ _ h => h) rfl rfl rfl rfl hm (hS.sub (.cons (le_66.trans le_74) (.cons (Mem.le.refl _) (.cons (Mem.no_le _) (.cons (Mem.le.refl _) (.cons (Mem.no_le _) (.cons (Mem.no_le _) (.cons (Mem.le.refl _) (Sub.nil _))))))))) (v := .agg [v_67, v_75].toArray) (fun w hS => r_build hm ti25 pl25 rfl (.cons hr_68.cells (.cons hr_76.cells .nil)) (cs := [v_67, v_75]) rfl) ?_
          clear hm a; intro a hm
          refine h_event 7 [true, true, true, true, true, true, true, true, false].toArray rfl (by kernel_rfl) rfl ?_
          refine v_alloc hm rfl ti25 hS ?_
          intro w_79 g_80 hS'
          clear hm a; intro a hm
          replace hS : Sep w0 w_79 [N_74, Mem.one g_2 (.cells ([p0_0, p0_1] : List Value).toArray 25 (0, 0)), Mem.no, Mem.one g_6 (.cells ([.slice none 0 0, .slice none 0 0] : List Value).toArray 25 (0, 0)), Mem.no, Mem.no, M_30, M_69, M_77, Mem.one g_80 (.cells ([.slice none 0 0, .slice none 0 0] : List Value).toArray 25 (0, 0))] Z := hS'
          clear hS'
          refine wpList_nil ?_
          refine x_then_n ⟨(hS.sub (.cons (le_66.trans le_74) (.cons (Mem.le.refl _) (.cons (Mem.no_le _) (.cons (Mem.le.refl _) (.cons (Mem.no_le _) (.cons (Mem.no_le _) (.cons (Mem.le.refl _) (Sub.nil _))))))))), ?_⟩
          refine h_event 8 [true, true, true, true, true, true, true, true, true].toArray rfl (by kernel_rfl) rfl ?_
          obtain ⟨w_81, hs', hS'⟩ := hS.store (P := Try.prog) (p := 9) (o := 0) (t := 25) (v := .agg [v_67, v_75].toArray) (vs := [v_67, v_75]) rfl ti25 rfl rfl rfl (by intro u hu; simp only [List.mem_cons, List.not_mem_nil, or_false] at hu; rcases hu with rfl | rfl <;> first | rfl | exact hr_68.one | exact hr_76.one)
          refine s_store hm rfl rfl hs' ?_
          replace hS : Sep w0 w_81 [N_74, Mem.one g_2 (.cells ([p0_0, p0_1] : List Value).toArray 25 (0, 0)), Mem.no, Mem.one g_6 (.cells ([.slice none 0 0, .slice none 0 0] : List Value).toArray 25 (0, 0)), Mem.no, Mem.no, M_30, M_69, M_77, Mem.one g_80 (.cells ([v_67, v_75] : List Value).toArray 25 (0, 0))] Z := hS'
          clear hs' hS'
          refine wpList_nil ?_
          refine x_then_n ⟨(hS.sub (.cons (le_66.trans le_74) (.cons (Mem.le.refl _) (.cons (Mem.no_le _) (.cons (Mem.le.refl _) (.cons (Mem.no_le _) (.cons (Mem.no_le _) (.cons (Mem.le.refl _) (Sub.nil _))))))))), ?_⟩
          refine h_done (by kernel_rfl) ?_
          replace hm : Fr 53 a [(6, .pointer (some ⟨g_6, 0, none⟩)), (9, .bool t_7.2.2.1), (10, .bool t_7.2.2.2), (11, v_32), (12, .pointer (some ⟨g_80, 0, none⟩))] := hm.keep [6, 9, 10, 11, 12]
          replace hS : Sep w0 w_81 [N_74, Mem.one g_2 (.cells ([p0_0, p0_1] : List Value).toArray 25 (0, 0)), Mem.no, Mem.one g_6 (.cells ([.slice none 0 0, .slice none 0 0] : List Value).toArray 25 (0, 0)), Mem.no, Mem.no, M_30, M_69, M_77, Mem.one g_80 (.cells ([v_67, v_75] : List Value).toArray 25 (0, 0))] Z := hS
          replace hm : Fr 53 a [(6, .pointer (some ⟨g_6, 0, none⟩)), (9, .bool t_7.2.2.1), (10, .bool t_7.2.2.2), (11, v_32), (12, .pointer (some ⟨g_80, 0, none⟩))] := hm.keep [6, 9, 10, 11, 12]
          exact x_then_n (hJ_j_49 (⟨t_63, t_71⟩ : api_Disk) H _ _ ⟨v_67, v_75, g_80, N_74, M_69, M_77, hm, (Sep.sel hS [0, 1000, 1001, 3, 1003, 1004, 6, 9, 7, 8] (by decide)), (le_66.trans le_74), hr_68, hr_76⟩)
        · refine ⟨_, [true, true, true, true, true, false, false, true, false].toArray, rfl, rfl, ?_⟩
          refine v_alloc hm rfl ti25 hS ?_
          intro w_82 g_83 hS'
          clear hm a; intro a hm
          replace hS : Sep w0 w_82 [N_66, Mem.one g_2 (.cells ([p0_0, p0_1] : List Value).toArray 25 (0, 0)), Mem.no, Mem.one g_6 (.cells ([.slice none 0 0, .slice none 0 0] : List Value).toArray 25 (0, 0)), Mem.no, Mem.no, M_30, M_69, Mem.one g_83 (.cells ([.slice none 0 0, .slice none 0 0] : List Value).toArray 25 (0, 0))] Z := hS'
          clear hS'
          refine wpList_nil ?_
          refine x_then_n ⟨(hS.sub (.cons le_66 (.cons (Mem.le.refl _) (.cons (Mem.no_le _) (.cons (Mem.le.refl _) (.cons (Mem.no_le _) (.cons (Mem.no_le _) (.cons (Mem.le.refl _) (Sub.nil _))))))))), ?_⟩
          refine h_event 5 [true, true, true, true, true, true, false, true, false].toArray rfl (by kernel_rfl) rfl ?_
          refine s_call hm rfl Try.call27 rfl (slices_Clone_sbyte_byte.calls x0.B _ t_71 w0 _ _ _ (Mem.le.refl _) (hS.enter [] (by decide)) (hp0_1.mono (hA.trans (hS.le_zed []))) et_71) ?_
          rintro v_88 w_85 ⟨_, N_86, M_90, rfl, hS', hr_89⟩
          clear hm a; intro a hm
          obtain ⟨N_87, hS'', le_87, ln_87⟩ := hS.call [] (by decide) rfl (l' := []) (ow := [M_90]) rfl hS'
          replace hS : Sep w0 w_85 [N_87, Mem.one g_2 (.cells ([p0_0, p0_1] : List Value).toArray 25 (0, 0)), Mem.no, Mem.one g_6 (.cells ([.slice none 0 0, .slice none 0 0] : List Value).toArray 25 (0, 0)), Mem.no, Mem.no, M_30, M_69, Mem.one g_83 (.cells ([.slice none 0 0, .slice none 0 0] : List Value).toArray 25 (0, 0)), M_90] Z := hS''
          clear hS' hS''
          refine wpList_nil ?_
          refine x_then_n ⟨(hS.sub (.cons (le_66.trans le_87) (.cons (Mem.le.refl _) (.cons (Mem.no_le _) (.cons (Mem.le.refl _) (.cons (Mem.no_le _) (.cons (Mem.no_le _) (.cons (Mem.le.refl _) (Sub.nil _))))))))), ?_⟩
          refine h_take 6 [true, true, true, true, true, true, true, true, false].toArray rfl (by kernel_rfl) (by kernel_rfl) (by kernel_rfl) (fun _ _ _ _ h => h) rfl rfl rfl rfl hm (hS.sub (.cons (le_66.trans le_87) (.cons (Mem.le.refl _) (.cons (Mem.no_le _) (.cons (Mem.le.refl _) (.cons (Mem.no_le _) (.cons (Mem.no_le _) (.cons (Mem.le.refl _) (Sub.nil _))))))))) (v := .agg [v_67, v_88].toArray) (fun w hS => r_build hm ti25 pl25 rfl (.cons hr_68.cells (.cons hr_89.cells .nil)) (cs := [v_67, v_88]) rfl) ?_
          clear hm a; intro a hm
          refine h_event 8 [true, true, true, true, true, true, true, true, true].toArray rfl (by kernel_rfl) rfl ?_
          obtain ⟨w_92, hs', hS'⟩ := hS.store (P := Try.prog) (p := 8) (o := 0) (t := 25) (v := .agg [v_67, v_88].toArray) (vs := [v_67, v_88]) rfl ti25 rfl rfl rfl (by intro u hu; simp only [List.mem_cons, List.not_mem_nil, or_false] at hu; rcases hu with rfl | rfl <;> first | rfl | exact hr_68.one | exact hr_89.one)
          refine s_store hm rfl rfl hs' ?_
          replace hS : Sep w0 w_92 [N_87, Mem.one g_2 (.cells ([p0_0, p0_1] : List Value).toArray 25 (0, 0)), Mem.no, Mem.one g_6 (.cells ([.slice none 0 0, .slice none 0 0] : List Value).toArray 25 (0, 0)), Mem.no, Mem.no, M_30, M_69, Mem.one g_83 (.cells ([v_67, v_88] : List Value).toArray 25 (0, 0)), M_90] Z := hS'
          clear hs' hS'
          refine wpList_nil ?_
          refine x_then_n ⟨(hS.sub (.cons (le_66.trans le_87) (.cons (Mem.le.refl _) (.cons (Mem.no_le _) (.cons (Mem.le.refl _) (.cons (Mem.no_le _) (.cons (Mem.no_le _) (.cons (Mem.le.refl _) (Sub.nil _))))))))), ?_⟩
          refine h_done (by kernel_rfl) ?_
          replace hm : Fr 53 a [(6, .pointer (some ⟨g_6, 0, none⟩)), (9, .bool t_7.2.2.1), (10, .bool t_7.2.2.2), (11, v_32), (12, .pointer (some ⟨g_83, 0, none⟩))] := hm.keep [6, 9, 10, 11, 12]
          replace hS : Sep w0 w_92 [N_87, Mem.one g_2 (.cells ([p0_0, p0_1] : List Value).toArray 25 (0, 0)), Mem.no, Mem.one g_6 (.cells ([.slice none 0 0, .slice none 0 0] : List Value).toArray 25 (0, 0)), Mem.no, Mem.no, M_30, M_69, Mem.one g_83 (.cells ([v_67, v_88] : List Value).toArray 25 (0, 0)), M_90] Z := hS
          replace hm : Fr 53 a [(6, .pointer (some ⟨g_6, 0, none⟩)), (9, .bool t_7.2.2.1), (10, .bool t_7.2.2.2), (11, v_32), (12, .pointer (some ⟨g_83, 0, none⟩))] := hm.keep [6, 9, 10, 11, 12]
          exact x_then_n (hJ_j_49 (⟨t_63, t_71⟩ : api_Disk) H _ _ ⟨v_67, v_88, g_83, N_87, M_69, M_90, hm, (Sep.sel hS [0, 1000, 1001, 3, 1003, 1004, 6, 8, 7, 9] (by decide)), (le_66.trans le_87), hr_68, hr_89⟩)
      · refine ⟨_, [true, true, false, true, true, false, false, true, false].toArray, rfl, rfl, ?_⟩
        refine v_alloc hm rfl ti25 hS ?_
        intro w_93 g_94 hS'
        clear hm a; intro a hm
        replace hS : Sep w0 w_93 [N_28, Mem.one g_2 (.cells ([p0_0, p0_1] : List Value).toArray 25 (0, 0)), Mem.no, Mem.one g_6 (.cells ([.slice none 0 0, .slice none 0 0] : List Value).toArray 25 (0, 0)), Mem.no, Mem.no, M_30, Mem.one g_94 (.cells ([.slice none 0 0, .slice none 0 0] : List Value).toArray 25 (0, 0))] Z := hS'
        clear hS'
        refine wpList_nil ?_
        refine x_then_n ⟨(hS.sub (.cons (Mem.le.refl _) (.cons (Mem.le.refl _) (.cons (Mem.no_le _) (.cons (Mem.le.refl _) (.cons (Mem.no_le _) (.cons (Mem.no_le _) (.cons (Mem.le.refl _) (Sub.nil _))))))))), ?_⟩
        refine h_event 2 [true, true, true, true, true, false, false, true, false].toArray rfl (by kernel_rfl) rfl ?_
        refine s_call hm rfl Try.call27 rfl (slices_Clone_sbyte_byte.calls x0.A _ t_63 w0 _ _ _ (Mem.le.refl _) (hS.enter [] (by decide)) (hp0_0.mono (hA.trans (hS.le_zed []))) et_63) ?_
        rintro v_99 w_96 ⟨_, N_97, M_101, rfl, hS', hr_100⟩
        clear hm a; intro a hm
        obtain ⟨N_98, hS'', le_98, ln_98⟩ := hS.call [] (by decide) rfl (l' := []) (ow := [M_101]) rfl hS'
        replace hS : Sep w0 w_96 [N_98, Mem.one g_2 (.cells ([p0_0, p0_1] : List Value).toArray 25 (0, 0)), Mem.no, Mem.one g_6 (.cells ([.slice none 0 0, .slice none 0 0] : List Value).toArray 25 (0, 0)), Mem.no, Mem.no, M_30, Mem.one g_94 (.cells ([.slice none 0 0, .slice none 0 0] : List Value).toArray 25 (0, 0)), M_101] Z := hS''
        clear hS' hS''
        refine wpList_nil ?_
        refine x_then_n ⟨(hS.sub (.cons le_98 (.cons (Mem.le.refl _) (.cons (Mem.no_le _) (.cons (Mem.le.refl _) (.cons (Mem.no_le _) (.cons (Mem.no_le _) (.cons (Mem.le.refl _) (Sub.nil _))))))))), ?_⟩
        refine h_event 5 [true, true, true, true, true, true, false, true, false].toArray rfl (by kernel_rfl) rfl ?_
        refine s_call hm rfl Try.call27 rfl (slices_Clone_sbyte_byte.calls x0.B _ t_71 w0 _ _ _ (Mem.le.refl _) (hS.enter [] (by decide)) (hp0_1.mono (hA.trans (hS.le_zed []))) et_71) ?_
        rintro v_107 w_104 ⟨_, N_105, M_109, rfl, hS', hr_108⟩
        clear hm a; intro a hm
        obtain ⟨N_106, hS'', le_106, ln_106⟩ := hS.call [] (by decide) rfl (l' := []) (ow := [M_109]) rfl hS'
        replace hS : Sep w0 w_104 [N_106, Mem.one g_2 (.cells ([p0_0, p0_1] : List Value).toArray 25 (0, 0)), Mem.no, Mem.one g_6 (.cells ([.slice none 0 0, .slice none 0 0] : List Value).toArray 25 (0, 0)), Mem.no, Mem.no, M_30, Mem.one g_94 (.cells ([.slice none 0 0, .slice none 0 0] : List Value).toArray 25 (0, 0)), M_101, M_109] Z := hS''
        clear hS' hS''
        refine wpList_nil ?_
        refine x_then_n ⟨(hS.sub (.cons (le_98.trans le_106) (.cons (Mem.le.refl _) (.cons (Mem.no_le _) (.cons (Mem.le.refl _) (.cons (Mem.no_le _) (.cons (Mem.no_le _) (.cons (Mem.le.refl _) (Sub.nil _))))))))), ?_⟩
        refine h_take 6 [true, true, true, true, true, true, true, true, false].toArray rfl (by kernel_rfl) (by kernel_rfl) (by kernel_rfl) (fun _ _ _ _ h => h) rfl rfl rfl rfl hm (hS.sub (.cons (le_98.trans le_106) (.cons (Mem.le.refl _) (.cons (Mem.no_le _) (.cons (Mem.le.refl _) (.cons (Mem.no_le _) (.cons (Mem.no_le _) (.cons (Mem.le.refl _) (Sub.nil _))))))))) (v := .agg [v_99, v_107].toArray) (fun w hS => r_build hm ti25 pl25 rfl (.cons hr_100.cells (.cons hr_108.cells .nil)) (cs := [v_99, v_107]) rfl) ?_
        clear hm a; intro a hm
        refine h_event 8 [true, true, true, true, true, true, true, true, true].toArray rfl (by kernel_rfl) rfl ?_
        obtain ⟨w_111, hs', hS'⟩ := hS.store (P := Try.prog) (p := 7) (o := 0) (t := 25) (v := .agg [v_99, v_107].toArray) (vs := [v_99, v_107]) rfl ti25 rfl rfl rfl (by intro u hu; simp only [List.mem_cons, List.not_mem_nil, or_false] at hu; rcases hu with rfl | rfl <;> first | rfl | exact hr_100.one | exact hr_108.one)
        refine s_store hm rfl rfl hs' ?_
        replace hS : Sep w0 w_111 [N_106, Mem.one g_2 (.cells ([p0_0, p0_1] : List Value).toArray 25 (0, 0)), Mem.no, Mem.one g_6 (.cells ([.slice none 0 0, .slice none 0 0] : List Value).toArray 25 (0, 0)), Mem.no, Mem.no, M_30, Mem.one g_94 (.cells ([v_99, v_107] : List Value).toArray 25 (0, 0)), M_101, M_109] Z := hS'
        clear hs' hS'
        refine wpList_nil ?_
        refine x_then_n ⟨(hS.sub (.cons (le_98.trans le_106) (.cons (Mem.le.refl _) (.cons (Mem.no_le _) (.cons (Mem.le.refl _) (.cons (Mem.no_le _) (.cons (Mem.no_le _) (.cons (Mem.le.refl _) (Sub.nil _))))))))), ?_⟩
        refine h_done (by kernel_rfl) ?_
        replace hm : Fr 53 a [(6, .pointer (some ⟨g_6, 0, none⟩)), (9, .bool t_7.2.2.1), (10, .bool t_7.2.2.2), (11, v_32), (12, .pointer (some ⟨g_94, 0, none⟩))] := hm.keep [6, 9, 10, 11, 12]
        replace hS : Sep w0 w_111 [N_106, Mem.one g_2 (.cells ([p0_0, p0_1] : List Value).toArray 25 (0, 0)), Mem.no, Mem.one g_6 (.cells ([.slice none 0 0, .slice none 0 0] : List Value).toArray 25 (0, 0)), Mem.no, Mem.no, M_30, Mem.one g_94 (.cells ([v_99, v_107] : List Value).toArray 25 (0, 0)), M_101, M_109] Z := hS
        replace hm : Fr 53 a [(6, .pointer (some ⟨g_6, 0, none⟩)), (9, .bool t_7.2.2.1), (10, .bool t_7.2.2.2), (11, v_32), (12, .pointer (some ⟨g_94, 0, none⟩))] := hm.keep [6, 9, 10, 11, 12]
        exact x_then_n (hJ_j_49 (⟨t_63, t_71⟩ : api_Disk) H _ _ ⟨v_99, v_107, g_94, N_106, M_101, M_109, hm, (Sep.sel hS [0, 1000, 1001, 3, 1003, 1004, 6, 7, 8, 9] (by decide)), (le_98.trans le_106), hr_100, hr_108⟩)
    clear hKJ_22
    by_cases hc_112 : x_25 = true
    · rw [if_pos hc_112] at H
      refine c_cond_t hm rfl hc_112 ?_
      refine wp_region_lit ?_
      refine s_move hm rfl rfl ?_
      clear hm a; intro a hm
      refine s_move hm rfl rfl ?_
      clear hm a; intro a hm
      obtain ⟨N_113, hS', le_113, lo_113⟩ := hS.freeze 4 rfl
      replace hS : Sep w0 w_26 [N_113, Mem.one g_2 (.cells ([p0_0, p0_1] : List Value).toArray 25 (0, 0)), Mem.no, Mem.one g_6 (.cells ([.slice none 0 0, .slice none 0 0] : List Value).toArray 25 (0, 0)), Mem.no, Mem.no] Z := hS'
      clear hS'
      obtain ⟨t_114, et_114, H⟩ := Option.bind_eq_some_iff.1 H
      refine s_slice hm rfl Try.underlying23 ti5 rfl rfl (hr_19.rd lo_113 (Mem.no_le _)) rfl rfl et_114 ?_
      intro v_115 hr_116
      clear hm a; intro a hm
      obtain ⟨t_117, et_117, H⟩ := Option.bind_eq_some_iff.1 H
      refine s_call hm rfl Try.call27 rfl (slices_Clone_sbyte_byte.calls t_114 _ t_117 w0 _ _ _ (Mem.le.refl _) (hS.enter [] (by decide)) (hr_116.mono ((Mem.le.refl _).trans (hS.new_zed []))) et_117) ?_
      rintro v_121 w_118 ⟨_, N_119, M_123, rfl, hS', hr_122⟩
      clear hm a; intro a hm
      obtain ⟨N_120, hS'', le_120, ln_120⟩ := hS.call [] (by decide) rfl (l' := []) (ow := [M_123]) rfl hS'
      replace hS : Sep w0 w_118 [N_120, Mem.one g_2 (.cells ([p0_0, p0_1] : List Value).toArray 25 (0, 0)), Mem.no, Mem.one g_6 (.cells ([.slice none 0 0, .slice none 0 0] : List Value).toArray 25 (0, 0)), Mem.no, Mem.no, M_123] Z := hS''
      clear hS' hS''
      refine s_assign hm rfl rfl ?_
      clear hm a; intro a hm
      refine wpList_nil ?_
      replace hm : Fr 53 a [(3, .pointer (some ⟨g_2, 0, none⟩)), (6, .pointer (some ⟨g_6, 0, none⟩)), (9, .bool t_7.2.2.1), (10, .bool t_7.2.2.2), (11, v_121)] := hm.keep [3, 6, 9, 10, 11]
      replace hS : Sep w0 w_118 [N_120, Mem.one g_2 (.cells ([p0_0, p0_1] : List Value).toArray 25 (0, 0)), Mem.no, Mem.one g_6 (.cells ([.slice none 0 0, .slice none 0 0] : List Value).toArray 25 (0, 0)), Mem.no, Mem.no, M_123] Z := hS
      replace hm : Fr 53 a [(3, .pointer (some ⟨g_2, 0, none⟩)), (6, .pointer (some ⟨g_6, 0, none⟩)), (9, .bool t_7.2.2.1), (10, .bool t_7.2.2.2), (11, v_121)] := hm.keep [3, 6, 9, 10, 11]
      exact x_then_n (hJ_j_35 t_117 H _ _ ⟨v_121, N_120, M_123, hm, (Sep.sel hS [0, 1, 1001, 3, 1003, 1004, 6] (by decide)), (le_113.trans le_120), hr_122⟩)
    · rw [if_neg hc_112] at H
      refine c_cond_f hm rfl (Bool.eq_false_iff.2 hc_112) ?_
      refine wp_skip ?_
      replace hS : Sep w0 w_26 [N_24, Mem.one g_2 (.cells ([p0_0, p0_1] : List Value).toArray 25 (0, 0)), Mem.no, Mem.one g_6 (.cells ([.slice none 0 0, .slice none 0 0] : List Value).toArray 25 (0, 0)), Mem.no, M_20] Z := hS
      replace hm : Fr 53 a [(3, .pointer (some ⟨g_2, 0, none⟩)), (6, .pointer (some ⟨g_6, 0, none⟩)), (9, .bool t_7.2.2.1), (10, .bool t_7.2.2.2), (11, v_18)] := hm.keep [3, 6, 9, 10, 11]
      exact x_then_n (hJ_j_35 t_14 H _ _ ⟨v_18, N_24, M_20, hm, (Sep.sel hS [0, 1, 1001, 3, 1003, 1004, 5] (by decide)), (Mem.le.refl _), hr_19⟩)
  clear hKJ_23
  refine wp_region_lit ?_
  refine s_move hm rfl rfl ?_
  clear hm a; intro a hm
  refine s_cmp (b := decide (x2 ≥ 0)) hm rfl rfl rfl (.inr (.inr (.inr (.inr (.inr ⟨rfl, rfl⟩))))) ?_
  clear hm a; intro a hm
  refine s_move hm rfl rfl ?_
  clear hm a; intro a hm
  by_cases hc_125 : x2 ≥ 0
  · rw [if_pos hc_125] at H
    refine s_on hm rfl rfl (decide_eq_true hc_125) ?_
    refine s_move hm rfl rfl ?_
    clear hm a; intro a hm
    refine s_on hm rfl rfl (decide_eq_true hc_125) ?_
    refine s_move hm rfl rfl ?_
    clear hm a; intro a hm
    refine s_on hm rfl rfl (decide_eq_true hc_125) ?_
    refine s_lenO hm rfl Try.underlying23 rfl hr_19 ?_
    clear hm a; intro a hm
    refine s_on hm rfl rfl (decide_eq_true hc_125) ?_
    refine s_cmp (b := decide (x2 < (t_14.length : Int))) hm rfl rfl rfl (.inr (.inr (.inl ⟨rfl, rfl⟩))) ?_
    clear hm a; intro a hm
    refine s_pick_t hm rfl rfl (decide_eq_true hc_125) rfl ?_
    clear hm a; intro a hm
    refine wpList_nil ?_
    replace hm : Fr 53 a [(2, .int .i64 x2), (3, .pointer (some ⟨g_2, 0, none⟩)), (6, .pointer (some ⟨g_6, 0, none⟩)), (9, .bool t_7.2.2.1), (10, .bool t_7.2.2.2), (11, v_18), (31, .bool (decide (x2 < (t_14.length : Int))))] := hm.keep [2, 3, 6, 9, 10, 11, 31]
    replace hS : Sep w0 w_15 [N_17, Mem.one g_2 (.cells ([p0_0, p0_1] : List Value).toArray 25 (0, 0)), Mem.one g_4 (.cells ([.int .i64 x1.Inc, .int .i64 x1.Prom, .int .i64 x1.Inst] : List Value).toArray 28 (0, 0)), Mem.one g_6 (.cells ([.slice none 0 0, .slice none 0 0] : List Value).toArray 25 (0, 0)), Mem.one g_12 (.cells ([.int .i64 t_7.2.1.Inc, .int .i64 t_7.2.1.Prom, .int .i64 t_7.2.1.Inst] : List Value).toArray 28 (0, 0)), M_20] Z := hS
    replace hm : Fr 53 a [(2, .int .i64 x2), (3, .pointer (some ⟨g_2, 0, none⟩)), (6, .pointer (some ⟨g_6, 0, none⟩)), (9, .bool t_7.2.2.1), (10, .bool t_7.2.2.2), (11, v_18), (31, .bool (decide (x2 < (t_14.length : Int))))] := hm.keep [2, 3, 6, 9, 10, 11, 31]
    exact x_then_n (hJ_j_27 (decide (x2 < (t_14.length : Int))) H _ _ ⟨N_17, hm, (Sep.sel hS [0, 1, 1001, 3, 1003, 5] (by decide)), (Mem.le.refl _)⟩)
  · rw [if_neg hc_125] at H
    refine s_off hm rfl rfl rfl (decide_eq_false hc_125) ?_
    clear hm a; intro a hm
    refine s_off hm rfl rfl rfl (decide_eq_false hc_125) ?_
    clear hm a; intro a hm
    refine s_off hm rfl rfl rfl (decide_eq_false hc_125) ?_
    clear hm a; intro a hm
    refine s_off hm rfl rfl rfl (decide_eq_false hc_125) ?_
    clear hm a; intro a hm
    refine s_pick_f hm rfl rfl (decide_eq_false hc_125) rfl ?_
    clear hm a; intro a hm
    refine wpList_nil ?_
    replace hm : Fr 53 a [(2, .int .i64 x2), (3, .pointer (some ⟨g_2, 0, none⟩)), (6, .pointer (some ⟨g_6, 0, none⟩)), (9, .bool t_7.2.2.1), (10, .bool t_7.2.2.2), (11, v_18), (31, .bool false)] := hm.keep [2, 3, 6, 9, 10, 11, 31]
    replace hS : Sep w0 w_15 [N_17, Mem.one g_2 (.cells ([p0_0, p0_1] : List Value).toArray 25 (0, 0)), Mem.one g_4 (.cells ([.int .i64 x1.Inc, .int .i64 x1.Prom, .int .i64 x1.Inst] : List Value).toArray 28 (0, 0)), Mem.one g_6 (.cells ([.slice none 0 0, .slice none 0 0] : List Value).toArray 25 (0, 0)), Mem.one g_12 (.cells ([.int .i64 t_7.2.1.Inc, .int .i64 t_7.2.1.Prom, .int .i64 t_7.2.1.Inst] : List Value).toArray 28 (0, 0)), M_20] Z := hS
    replace hm : Fr 53 a [(2, .int .i64 x2), (3, .pointer (some ⟨g_2, 0, none⟩)), (6, .pointer (some ⟨g_6, 0, none⟩)), (9, .bool t_7.2.2.1), (10, .bool t_7.2.2.2), (11, v_18), (31, .bool false)] := hm.keep [2, 3, 6, 9, 10, 11, 31]
    exact x_then_n (hJ_j_27 false H _ _ ⟨N_17, hm, (Sep.sel hS [0, 1, 1001, 3, 1003, 5] (by decide)), (Mem.le.refl _)⟩)

set_option maxHeartbeats 4000000 in
set_option maxRecDepth 20000 in
theorem disk_Read.calls (K : Nat) (x0 : api_Disk) (p0_0 : Value) (p0_1 : Value) (r : api_Record × Bool) (w0 w : World) (Z A : Mem) (hA : A.le Z) (hS : Sep w0 w [] Z) (hp0_0 : Rd Kd.u8 A p0_0 x0.A) (hp0_1 : Rd Kd.u8 A p0_1 x0.B)
    (H : disk_Read.f K x0 = some r) :
    Calls Try.prog 12 [.agg [p0_0, p0_1].toArray].toArray w (Ret fun v w' => ∃ (N : Mem), v = .tuple [.agg [.int .i64 r.1.Inc, .int .i64 r.1.Prom, .int .i64 r.1.Inst].toArray, .bool r.2].toArray ∧ Sep w0 w' [N] Z) := by
  unfold disk_Read.f at H
  refine f_enter _ Try.func12 rfl Try.ntmps12 rfl fun a hm => ?_
  replace hm : Fr 17 a [(0, .agg [p0_0, p0_1].toArray)] := hm
  replace hS := hS.start
  replace hS : Sep w0 w [Mem.no] Z := hS
  refine wp_seq ?_
  refine wp_region_lit ?_
  refine v_box (vs := [p0_0, p0_1]) hm rfl rfl rfl hS ?_
  intro w_1 g_2 hS'
  clear hm a; intro a hm
  replace hS : Sep w0 w_1 [Mem.no, Mem.one g_2 (.cells ([p0_0, p0_1] : List Value).toArray 25 (0, 0))] Z := hS'
  clear hS'
  refine v_alloc hm rfl ti28 hS ?_
  intro w_3 g_4 hS'
  clear hm a; intro a hm
  replace hS : Sep w0 w_3 [Mem.no, Mem.one g_2 (.cells ([p0_0, p0_1] : List Value).toArray 25 (0, 0)), Mem.one g_4 (.cells ([.int .i64 0, .int .i64 0, .int .i64 0] : List Value).toArray 28 (0, 0))] Z := hS'
  clear hS'
  refine s_assign hm rfl rfl ?_
  clear hm a; intro a hm
  refine wpList_nil ?_
  replace hm : Fr 17 a [(1, .pointer (some ⟨g_2, 0, none⟩)), (2, .pointer (some ⟨g_4, 0, none⟩)), (3, .bool false)] := hm.keep [1, 2, 3]
  refine x_then_n ?_
  refine wp_seq ?_
  refine wp_region_lit ?_
  refine s_load hm rfl rfl (hS.load_agg (p := 1) (us := [p0_0, p0_1]) rfl Try.underlying25 rfl ti25 rfl rfl) ?_
  clear hm a; intro a hm
  obtain ⟨t_5, et_5, H⟩ := Option.bind_eq_some_iff.1 H
  refine s_call hm rfl Try.call26 rfl (disk_which.calls K x0 _ _ t_5 w0 _ _ _ (Mem.le.refl _) (hS.enter [] (by decide)) (hp0_0.mono (hA.trans (hS.le_zed []))) (hp0_1.mono (hA.trans (hS.le_zed []))) et_5) ?_
  rintro _ w_6 ⟨N_7, rfl, hS'⟩
  clear hm a; intro a hm
  obtain ⟨N_8, hS'', le_8, ln_8⟩ := hS.call [] (by decide) rfl (l' := []) (ow := []) rfl hS'
  replace hS : Sep w0 w_6 [N_8, Mem.one g_2 (.cells ([p0_0, p0_1] : List Value).toArray 25 (0, 0)), Mem.one g_4 (.cells ([.int .i64 0, .int .i64 0, .int .i64 0] : List Value).toArray 28 (0, 0))] Z := hS''
  clear hS' hS''
  refine s_move hm rfl rfl ?_
  clear hm a; intro a hm
  refine s_extract hm rfl rfl rfl ?_
  clear hm a; intro a hm
  refine s_extract hm rfl rfl rfl ?_
  clear hm a; intro a hm
  refine s_extract hm rfl rfl rfl ?_
  clear hm a; intro a hm
  refine s_extract hm rfl rfl rfl ?_
  clear hm a; intro a hm
  refine v_alloc hm rfl ti28 hS ?_
  intro w_9 g_10 hS'
  clear hm a; intro a hm
  replace hS : Sep w0 w_9 [N_8, Mem.one g_2 (.cells ([p0_0, p0_1] : List Value).toArray 25 (0, 0)), Mem.one g_4 (.cells ([.int .i64 0, .int .i64 0, .int .i64 0] : List Value).toArray 28 (0, 0)), Mem.one g_10 (.cells ([.int .i64 0, .int .i64 0, .int .i64 0] : List Value).toArray 28 (0, 0))] Z := hS'
  clear hS'
  refine s_assign hm rfl rfl ?_
  clear hm a; intro a hm
  obtain ⟨w_11, hs', hS'⟩ := hS.store (P := Try.prog) (p := 3) (o := 0) (t := 28) (v := .agg [.int .i64 t_5.2.1.Inc, .int .i64 t_5.2.1.Prom, .int .i64 t_5.2.1.Inst].toArray) (vs := [.int .i64 t_5.2.1.Inc, .int .i64 t_5.2.1.Prom, .int .i64 t_5.2.1.Inst]) rfl ti28 rfl rfl rfl (by intro u hu; simp only [List.mem_cons, List.not_mem_nil, or_false] at hu; rcases hu with rfl | rfl | rfl <;> rfl)
  refine s_store hm rfl rfl hs' ?_
  replace hS : Sep w0 w_11 [N_8, Mem.one g_2 (.cells ([p0_0, p0_1] : List Value).toArray 25 (0, 0)), Mem.one g_4 (.cells ([.int .i64 0, .int .i64 0, .int .i64 0] : List Value).toArray 28 (0, 0)), Mem.one g_10 (.cells ([.int .i64 t_5.2.1.Inc, .int .i64 t_5.2.1.Prom, .int .i64 t_5.2.1.Inst] : List Value).toArray 28 (0, 0))] Z := hS'
  clear hs' hS'
  refine s_assign hm rfl rfl ?_
  clear hm a; intro a hm
  refine s_assign hm rfl rfl ?_
  clear hm a; intro a hm
  refine wpList_nil ?_
  replace hm : Fr 17 a [(2, .pointer (some ⟨g_4, 0, none⟩)), (3, .bool false), (5, .pointer (some ⟨g_10, 0, none⟩)), (7, .bool t_5.2.2.2)] := hm.keep [2, 3, 5, 7]
  refine x_then_n ?_
  refine wp_seq ?_
  refine wp_region_lit ?_
  refine s_load hm rfl rfl (hS.load_agg (p := 3) (us := [.int .i64 t_5.2.1.Inc, .int .i64 t_5.2.1.Prom, .int .i64 t_5.2.1.Inst]) rfl Try.underlying28 rfl ti28 rfl rfl) ?_
  clear hm a; intro a hm
  refine s_move hm rfl rfl ?_
  clear hm a; intro a hm
  obtain ⟨w_12, hs', hS'⟩ := hS.store (P := Try.prog) (p := 2) (o := 0) (t := 28) (v := .agg [.int .i64 t_5.2.1.Inc, .int .i64 t_5.2.1.Prom, .int .i64 t_5.2.1.Inst].toArray) (vs := [.int .i64 t_5.2.1.Inc, .int .i64 t_5.2.1.Prom, .int .i64 t_5.2.1.Inst]) rfl ti28 rfl rfl rfl (by intro u hu; simp only [List.mem_cons, List.not_mem_nil, or_false] at hu; rcases hu with rfl | rfl | rfl <;> rfl)
  refine s_store hm rfl rfl hs' ?_
  replace hS : Sep w0 w_12 [N_8, Mem.one g_2 (.cells ([p0_0, p0_1] : List Value).toArray 25 (0, 0)), Mem.one g_4 (.cells ([.int .i64 t_5.2.1.Inc, .int .i64 t_5.2.1.Prom, .int .i64 t_5.2.1.Inst] : List Value).toArray 28 (0, 0)), Mem.one g_10 (.cells ([.int .i64 t_5.2.1.Inc, .int .i64 t_5.2.1.Prom, .int .i64 t_5.2.1.Inst] : List Value).toArray 28 (0, 0))] Z := hS'
  clear hs' hS'
  refine s_assign hm rfl rfl ?_
  clear hm a; intro a hm
  refine wpList_nil ?_
  replace hm : Fr 17 a [(2, .pointer (some ⟨g_4, 0, none⟩)), (3, .bool t_5.2.2.2)] := hm.keep [2, 3]
  refine x_then_n ?_
  refine wp_ret ?_
  obtain rfl := Option.some.inj H
  exact f_ret hm (rs := [.cell 2 28, .tmp 3]) rfl (.cell rfl (hS.load_agg (p := 2) (us := [.int .i64 t_5.2.1.Inc, .int .i64 t_5.2.1.Prom, .int .i64 t_5.2.1.Inst]) rfl Try.underlying28 rfl ti28 rfl rfl) (.tmp rfl .nil)) ⟨_, rfl, N_8, rfl, (Sep.sel hS [0] (by decide))⟩


end Go.Proofs
