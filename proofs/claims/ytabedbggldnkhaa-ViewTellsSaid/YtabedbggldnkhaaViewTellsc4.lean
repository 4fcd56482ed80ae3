/- What the calls do: each function once. -/
import Derived.Test.YtabedbggldnkhaaViewTellsc3
namespace Go.Proofs
open Go.Gp
set_option linter.unusedVariables false
set_option maxHeartbeats 4000000 in
set_option maxRecDepth 20000 in
theorem hocketref11_Choose.calls (K : Nat) (x0 : List api_Msg) (p0_0 : Value) (x1 : Int) (r : Int × Int × Int × Bool) (w0 w : World) (Z A : Mem) (hA : A.le Z) (hS : Sep w0 w [] Z) (hp0_0 : Rd k_api_Msg A p0_0 x0)
    (H : hocketref11_Choose.f K x0 x1 = some r) :
    Calls Try.prog 32 [p0_0, .int .i64 x1].toArray w (Ret fun v w' => ∃ (N : Mem), v = .tuple [.int .i64 r.1, .int .i64 r.2.1, .int .i64 r.2.2.1, .bool r.2.2.2].toArray ∧ Sep w0 w' [N] Z) := by
  unfold hocketref11_Choose.f at H
  refine f_enter _ Try.func32 rfl Try.ntmps32 rfl fun a hm => ?_
  replace hm : Fr 130 a [(0, p0_0), (1, .int .i64 x1)] := hm
  replace hS := hS.start
  replace hS : Sep w0 w [Mem.no] Z := hS
  refine wp_seq ?_
  refine wp_region_lit ?_
  refine s_assign hm rfl rfl ?_
  clear hm a; intro a hm
  refine s_assign hm rfl rfl ?_
  clear hm a; intro a hm
  refine s_assign hm rfl rfl ?_
  clear hm a; intro a hm
  refine s_assign hm rfl rfl ?_
  clear hm a; intro a hm
  refine wpList_nil ?_
  replace hm : Fr 130 a [(0, p0_0), (1, .int .i64 x1), (4, .int .i64 0), (5, .int .i64 0), (6, .int .i64 0), (7, .bool false)] := hm.keep [0, 1, 4, 5, 6, 7]
  refine x_then_n ?_
  refine wp_seq ?_
  refine wp_region_lit ?_
  refine s_move hm rfl rfl ?_
  clear hm a; intro a hm
  refine s_max hm rfl rfl rfl ?_
  clear hm a; intro a hm
  refine s_min hm rfl rfl rfl ?_
  clear hm a; intro a hm
  refine s_assign hm rfl rfl ?_
  clear hm a; intro a hm
  refine wpList_nil ?_
  replace hm : Fr 130 a [(0, p0_0), (1, .int .i64 (mn (mx x1 1) 7)), (4, .int .i64 0), (5, .int .i64 0), (6, .int .i64 0), (7, .bool false)] := hm.keep [0, 1, 4, 5, 6, 7]
  refine x_then_n ?_
  refine wp_seq ?_
  refine wp_region_lit ?_
  refine s_assign hm rfl rfl ?_
  clear hm a; intro a hm
  refine s_assign hm rfl rfl ?_
  clear hm a; intro a hm
  refine wpList_nil ?_
  replace hm : Fr 130 a [(0, p0_0), (1, .int .i64 (mn (mx x1 1) 7)), (4, .int .i64 0), (5, .int .i64 0), (6, .int .i64 0), (7, .bool false), (8, .int .i64 0), (9, .int .i64 0)] := hm.keep [0, 1, 4, 5, 6, 7, 8, 9]
  refine x_then_n ?_
  refine wp_seq ?_
  refine wp_region_lit ?_
  refine v_allocArr (nn := 7) (kd := k_api_Msg) (I := Mem.no) (zc := [(.int .i64 0), (.int .i64 0), (.int .i64 0), (.int .i64 0), (.int .i64 0), (.int .i64 0), (.bool false), (.int .i64 0), (.int .i64 0), (.int .i64 0), (.int .i64 0), (.slice none 0 0), (.int .i64 0), (.int .i64 0), (.slice none 0 0), (.slice none 0 0), (.int .i64 0), (.int .i64 0), (.int .i64 0), (.int .i64 0), (.int .i64 0), (.slice none 0 0), (.slice none 0 0), (.slice none 0 0)]) (u := (⟨0, 0, 0, 0, 0, 0, false, 0, 0, 0, 0, ([] : List UInt8), 0, 0, ([] : List Int), ([] : List Int), 0, (⟨0, 0, (⟨0, 0, ([] : List UInt8), ([] : List UInt8), ([] : List UInt8)⟩ : api_Cmd)⟩ : api_Entry)⟩ : api_Msg)) hm rfl ti74 rfl rfl (k_api_Msg.mk' (Rd.nil _ _) (Rd.nil _ _) (Rd.nil _ _) (Rd.nil _ _) (Rd.nil _ _) (Rd.nil _ _)) hS ?_
  intro w_1 g_2 M_3 hS' ho_4
  clear hm a; intro a hm
  replace hS : Sep w0 w_1 [Mem.no, M_3] Z := hS'
  clear hS'
  refine wpList_nil ?_
  replace hm : Fr 130 a [(0, p0_0), (1, .int .i64 (mn (mx x1 1) 7)), (4, .int .i64 0), (5, .int .i64 0), (6, .int .i64 0), (7, .bool false), (8, .int .i64 0), (9, .int .i64 0), (10, .pointer (some ⟨g_2, 0, none⟩))] := hm.keep [0, 1, 4, 5, 6, 7, 8, 9, 10]
  refine x_then_n ?_
  refine c_seq fun KJ_6 hKJ_6 => ?_
  refine wp_seq ?_
  refine wp_region_lit ?_
  refine s_assign hm rfl rfl ?_
  clear hm a; intro a hm
  refine wpList_nil ?_
  replace hm : Fr 130 a [(0, p0_0), (1, .int .i64 (mn (mx x1 1) 7)), (4, .int .i64 0), (5, .int .i64 0), (6, .int .i64 0), (7, .bool false), (8, .int .i64 0), (9, .int .i64 0), (10, .pointer (some ⟨g_2, 0, none⟩)), (11, .int .i64 0)] := hm.keep [0, 1, 4, 5, 6, 7, 8, 9, 10, 11]
  refine x_then_n ?_
  have hJ_j_16 : ∀ (x_8 : Int), ∀ (x_9 : Int), ∀ (x_10 : List api_Msg), hocketref11_Choose.J1 K x1 x_8 x_9 x_10 = some r → ∀ (a : Act) (w_15 : World), (∃ (N_7 : Mem) (M_11 : Mem), Fr 130 a [(1, .int .i64 (mn (mx x1 1) 7)), (4, .int .i64 0), (5, .int .i64 0), (6, .int .i64 0), (7, .bool false), (8, .int .i64 x_8), (9, .int .i64 x_9), (10, .pointer (some ⟨g_2, 0, none⟩))] ∧ Sep w0 w_15 [N_7, M_11] Z ∧ Mem.no.le N_7 ∧ Own k_api_Msg 74 M_11 (A.un N_7) (.slice (some ⟨g_2, 0, none⟩) 7 7) x_10) → KJ_6 a w_15 := by
    clear H hm hS a
    rintro x_8 x_9 x_10 H a w_15 ⟨N_7, M_11, hm, hS, le_7, ho_14⟩
    unfold hocketref11_Choose.J1 at H
    refine hKJ_6 _ _ ?_
    refine wp_seq ?_
    refine wp_region_lit ?_
    refine s_assign hm rfl rfl ?_
    clear hm a; intro a hm
    refine wpList_nil ?_
    replace hm : Fr 130 a [(1, .int .i64 (mn (mx x1 1) 7)), (4, .int .i64 0), (5, .int .i64 0), (6, .int .i64 0), (7, .bool false), (8, .int .i64 x_8), (9, .int .i64 x_9), (10, .pointer (some ⟨g_2, 0, none⟩)), (13, .int .i64 (-1))] := hm.keep [1, 4, 5, 6, 7, 8, 9, 10, 13]
    refine x_then_n ?_
    refine c_seq fun KJ_17 hKJ_17 => ?_
    refine wp_seq ?_
    refine wp_region_lit ?_
    refine s_assign hm rfl rfl ?_
    clear hm a; intro a hm
    refine wpList_nil ?_
    replace hm : Fr 130 a [(1, .int .i64 (mn (mx x1 1) 7)), (4, .int .i64 0), (5, .int .i64 0), (6, .int .i64 0), (7, .bool false), (8, .int .i64 x_8), (9, .int .i64 x_9), (10, .pointer (some ⟨g_2, 0, none⟩)), (13, .int .i64 (-1)), (14, .int .i64 0)] := hm.keep [1, 4, 5, 6, 7, 8, 9, 10, 13, 14]
    refine x_then_n ?_
    have hJ_j_21 : ∀ (x_19 : Int), hocketref11_Choose.J2 K x_10 x_8 x1 x_19 = some r → ∀ (a : Act) (w_20 : World), (∃ (N_18 : Mem), Fr 130 a [(1, .int .i64 (mn (mx x1 1) 7)), (4, .int .i64 0), (5, .int .i64 0), (6, .int .i64 0), (7, .bool false), (8, .int .i64 x_8), (10, .pointer (some ⟨g_2, 0, none⟩)), (13, .int .i64 x_19)] ∧ Sep w0 w_20 [N_18, M_11] Z ∧ N_7.le N_18) → KJ_17 a w_20 := by
      clear H hm hS a
      rintro x_19 H a w_20 ⟨N_18, hm, hS, le_18⟩
      unfold hocketref11_Choose.J2 at H
      refine hKJ_17 _ _ ?_
      refine c_seq fun KJ_22 hKJ_22 => ?_
      refine c_seq fun KJ_23 hKJ_23 => ?_
      have hJ_j_27 : ∀ (x_25 : Bool), hocketref11_Choose.J3 K x_10 x_19 x_8 x_25 = some r → ∀ (a : Act) (w_26 : World), (∃ (N_24 : Mem), Fr 130 a [(4, .int .i64 0), (5, .int .i64 0), (6, .int .i64 0), (7, .bool false), (8, .int .i64 x_8), (10, .pointer (some ⟨g_2, 0, none⟩)), (13, .int .i64 x_19), (123, .bool x_25)] ∧ Sep w0 w_26 [N_24, M_11] Z ∧ N_18.le N_24) → KJ_23 a w_26 := by
        clear H hm hS a
        rintro x_25 H a w_26 ⟨N_24, hm, hS, le_24⟩
        unfold hocketref11_Choose.J3 at H
        refine hKJ_23 _ _ ?_
        by_cases hc_28 : x_25 = true
        · rw [if_pos hc_28] at H
          refine c_cond_t hm rfl hc_28 ?_
          refine wp_seq ?_
          refine wp_region_lit ?_
          refine s_assign hm rfl rfl ?_
          clear hm a; intro a hm
          refine s_assign hm rfl rfl ?_
          clear hm a; intro a hm
          refine s_assign hm rfl rfl ?_
          clear hm a; intro a hm
          refine s_assign hm rfl rfl ?_
          clear hm a; intro a hm
          refine wpList_nil ?_
          replace hm : Fr 130 a [(4, .int .i64 0), (5, .int .i64 0), (6, .int .i64 0), (7, .bool false), (8, .int .i64 x_8), (10, .pointer (some ⟨g_2, 0, none⟩)), (13, .int .i64 x_19)] := hm.keep [4, 5, 6, 7, 8, 10, 13]
          refine x_then_n ?_
          refine wp_ret (x_then_r ?_)
          obtain rfl := Option.some.inj H
          exact f_ret hm (rs := [.tmp 4, .tmp 5, .tmp 6, .tmp 7]) rfl (.tmp rfl (.tmp rfl (.tmp rfl (.tmp rfl .nil)))) ⟨_, rfl, N_24, rfl, (Sep.sel hS [0] (by decide))⟩
        · rw [if_neg hc_28] at H
          refine c_cond_f hm rfl (Bool.eq_false_iff.2 hc_28) ?_
          refine wp_skip ?_
          refine x_then_n (hKJ_22 _ _ ?_)
          refine c_seq fun KJ_29 hKJ_29 => ?_
          refine h_begin (S := fun w => Sep w0 w [N_24, M_11] Z) 10 (by kernel_rfl) rfl [false, false, false, false, false, false, false, false, false, false].toArray rfl hS fun w_30 hS => ?_
          replace hS : Sep w0 w_30 [N_24, M_11] Z := hS
          refine h_take 0 [true, false, false, false, false, false, false, false, false, false].toArray rfl (by kernel_rfl) (by kernel_rfl) (by kernel_rfl) (fun _ _ _ _ h => h) rfl rfl rfl rfl hm (hS.sub (.cons (Mem.le.refl _) (.cons (Mem.le.refl _) (Sub.nil _)))) (v := .int .i64 x_8) (fun w hS => r_move hm rfl) ?_
          clear hm a; intro a hm
          refine h_take 1 [true, true, false, false, false, false, false, false, false, false].toArray rfl (by kernel_rfl) (by kernel_rfl) (by kernel_rfl) (fun _ _ _ _ h => h) rfl rfl rfl rfl hm (hS.sub (.cons (Mem.le.refl _) (.cons (Mem.le.refl _) (Sub.nil _)))) (v := .int .i64 x_19) (fun w hS => r_move hm rfl) ?_
          clear hm a; intro a hm
          refine h_take 2 [true, true, true, false, false, false, false, false, false, false].toArray rfl (by kernel_rfl) (by kernel_rfl) (by kernel_rfl) (fun _ _ _ _ h => h) rfl rfl rfl rfl hm (hS.sub (.cons (Mem.le.refl _) (.cons (Mem.le.refl _) (Sub.nil _)))) (v := .int .i64 x_19) (fun w hS => r_move hm rfl) ?_
          clear hm a; intro a hm
          obtain ⟨t_31, et_31, H⟩ := Option.bind_eq_some_iff.1 H
          refine h_takeE 3 [true, true, true, true, false, false, false, false, false, false].toArray rfl (by kernel_rfl) (by kernel_rfl) (by kernel_rfl) (fun _ _ _ _ h => h) rfl rfl rfl rfl hm (hS.sub (.cons (Mem.le.refl _) (.cons (Mem.le.refl _) (Sub.nil _)))) (f := fun ad => .pointer (some ad)) (r_indexArr hm Try.underlying74 ti29 rfl rfl rfl ho_14 et_31) ?_
          rintro ad_32 ⟨cs_33, hk_34, hc_35⟩
          obtain ⟨v_36, v_38, v_40, v_42, v_44, v_46, rfl, hr_37, hr_39, hr_41, hr_43, hr_45, hr_47⟩ := k_api_Msg.open' hk_34
          clear hm a; intro a hm
          refine h_take 4 [true, true, true, true, true, false, false, false, false, false].toArray rfl (by kernel_rfl) (by kernel_rfl) (by kernel_rfl) (fun _ _ _ _ h => h) rfl rfl rfl rfl hm (hS.sub (.cons (Mem.le.refl _) (.cons (Mem.le.refl _) (Sub.nil _)))) (v := .pointer (some (ad_32.add 5))) (fun w hS => r_fieldAddr hm Try.underlying29 rfl ti3 rfl rfl rfl) ?_
          clear hm a; intro a hm
          refine h_take 5 [true, true, true, true, true, true, false, false, false, false].toArray rfl (by kernel_rfl) (by kernel_rfl) (by kernel_rfl) (fun _ _ _ _ h => h) rfl rfl rfl rfl hm (hS.sub (.cons (Mem.le.refl _) (.cons (Mem.le.refl _) (Sub.nil _)))) (v := .int .i64 t_31.Len) (fun w hS => r_load hm rfl (el_one (o := 5) (fun j c h => Mem.cell_le (hS.own 1) (hc_35 j c h)) Try.underlying3 rfl rfl)) ?_
          clear hm a; intro a hm
          refine h_take 6 [true, true, true, true, true, true, true, false, false, false].toArray rfl (by kernel_rfl) (by kernel_rfl) (by kernel_rfl) (fun _ _ _ _ h => h) rfl rfl rfl rfl hm (hS.sub (.cons (Mem.le.refl _) (.cons (Mem.le.refl _) (Sub.nil _)))) (v := .int .i64 x_8) (fun w hS => r_assign hm rfl) ?_
          clear hm a; intro a hm
          refine h_take 7 [true, true, true, true, true, true, true, true, false, false].toArray rfl (by kernel_rfl) (by kernel_rfl) (by kernel_rfl) (fun _ _ _ _ h => h) rfl rfl rfl rfl hm (hS.sub (.cons (Mem.le.refl _) (.cons (Mem.le.refl _) (Sub.nil _)))) (v := .int .i64 x_19) (fun w hS => r_assign hm rfl) ?_
          clear hm a; intro a hm
          refine h_take 8 [true, true, true, true, true, true, true, true, true, false].toArray rfl (by kernel_rfl) (by kernel_rfl) (by kernel_rfl) (fun _ _ _ _ h => h) rfl rfl rfl rfl hm (hS.sub (.cons (Mem.le.refl _) (.cons (Mem.le.refl _) (Sub.nil _)))) (v := .int .i64 t_31.Len) (fun w hS => r_assign hm rfl) ?_
          clear hm a; intro a hm
          refine h_take 9 [true, true, true, true, true, true, true, true, true, true].toArray rfl (by kernel_rfl) (by kernel_rfl) (by kernel_rfl) (fun _ _ _ _ h => h) rfl rfl rfl rfl hm (hS.sub (.cons (Mem.le.refl _) (.cons (Mem.le.refl _) (Sub.nil _)))) (v := .bool true) (fun w hS => r_assign hm rfl) ?_
          clear hm a; intro a hm
          refine h_done (by kernel_rfl) ?_
          replace hm : Fr 130 a [(4, .int .i64 x_8), (5, .int .i64 x_19), (6, .int .i64 t_31.Len), (7, .bool true)] := hm.keep [4, 5, 6, 7]
          refine x_then_n (hKJ_29 _ _ ?_)
          refine wp_ret ?_
          obtain rfl := Option.some.inj H
          exact f_ret hm (rs := [.tmp 4, .tmp 5, .tmp 6, .tmp 7]) rfl (.tmp rfl (.tmp rfl (.tmp rfl (.tmp rfl .nil)))) ⟨_, rfl, N_24, rfl, (Sep.sel hS [0] (by decide))⟩
      clear hKJ_23
      refine wp_region_lit ?_
      refine s_move hm rfl rfl ?_
      clear hm a; intro a hm
      refine s_cmp (b := decide (x_19 < 0)) hm rfl rfl rfl (.inr (.inr (.inl ⟨rfl, rfl⟩))) ?_
      clear hm a; intro a hm
      refine s_move hm rfl rfl ?_
      clear hm a; intro a hm
      by_cases hc_48 : x_19 < 0
      · rw [if_pos hc_48] at H
        refine s_off hm rfl rfl rfl (decide_eq_true hc_48) ?_
        clear hm a; intro a hm
        refine s_off hm rfl rfl rfl (decide_eq_true hc_48) ?_
        clear hm a; intro a hm
        refine s_off hm rfl rfl rfl (decide_eq_true hc_48) ?_
        clear hm a; intro a hm
        refine s_off hm rfl rfl rfl (decide_eq_true hc_48) ?_
        clear hm a; intro a hm
        refine s_pick_t hm rfl rfl (decide_eq_true hc_48) rfl ?_
        clear hm a; intro a hm
        refine wpList_nil ?_
        replace hm : Fr 130 a [(4, .int .i64 0), (5, .int .i64 0), (6, .int .i64 0), (7, .bool false), (8, .int .i64 x_8), (10, .pointer (some ⟨g_2, 0, none⟩)), (13, .int .i64 x_19), (123, .bool true)] := hm.keep [4, 5, 6, 7, 8, 10, 13, 123]
        replace hS : Sep w0 w_20 [N_18, M_11] Z := hS
        replace hm : Fr 130 a [(4, .int .i64 0), (5, .int .i64 0), (6, .int .i64 0), (7, .bool false), (8, .int .i64 x_8), (10, .pointer (some ⟨g_2, 0, none⟩)), (13, .int .i64 x_19), (123, .bool true)] := hm.keep [4, 5, 6, 7, 8, 10, 13, 123]
        exact x_then_n (hJ_j_27 true H _ _ ⟨N_18, hm, (Sep.sel hS [0, 1] (by decide)), (Mem.le.refl _)⟩)
      · rw [if_neg hc_48] at H
        refine s_on hm rfl rfl (decide_eq_false hc_48) ?_
        refine s_move hm rfl rfl ?_
        clear hm a; intro a hm
        refine s_on hm rfl rfl (decide_eq_false hc_48) ?_
        refine s_move hm rfl rfl ?_
        clear hm a; intro a hm
        refine s_on hm rfl rfl (decide_eq_false hc_48) ?_
        obtain ⟨t_49, et_49, H⟩ := Option.bind_eq_some_iff.1 H
        refine s_call hm rfl Try.call27 rfl (hocketref11_Most.calls K x_8 (mn (mx x1 1) 7) t_49 w0 _ _ _ (Mem.le.refl _) (hS.enter [] (by decide))  et_49) ?_
        rintro _ w_50 ⟨N_51, rfl, hS'⟩
        clear hm a; intro a hm
        obtain ⟨N_52, hS'', le_52, ln_52⟩ := hS.call [] (by decide) rfl (l' := []) (ow := []) rfl hS'
        replace hS : Sep w0 w_50 [N_52, M_11] Z := hS''
        clear hS' hS''
        refine s_on hm rfl rfl (decide_eq_false hc_48) ?_
        refine s_not hm rfl rfl ?_
        clear hm a; intro a hm
        refine s_pick_f hm rfl rfl (decide_eq_false hc_48) rfl ?_
        clear hm a; intro a hm
        refine wpList_nil ?_
        replace hm : Fr 130 a [(4, .int .i64 0), (5, .int .i64 0), (6, .int .i64 0), (7, .bool false), (8, .int .i64 x_8), (10, .pointer (some ⟨g_2, 0, none⟩)), (13, .int .i64 x_19), (123, .bool (!t_49))] := hm.keep [4, 5, 6, 7, 8, 10, 13, 123]
        replace hS : Sep w0 w_50 [N_52, M_11] Z := hS
        replace hm : Fr 130 a [(4, .int .i64 0), (5, .int .i64 0), (6, .int .i64 0), (7, .bool false), (8, .int .i64 x_8), (10, .pointer (some ⟨g_2, 0, none⟩)), (13, .int .i64 x_19), (123, .bool (!t_49))] := hm.keep [4, 5, 6, 7, 8, 10, 13, 123]
        exact x_then_n (hJ_j_27 (!t_49) H _ _ ⟨N_52, hm, (Sep.sel hS [0, 1] (by decide)), le_52⟩)
    clear hKJ_17
    replace hS : Sep w0 w_15 [N_7, M_11] Z := hS
    replace hm : Fr 130 a [(1, .int .i64 (mn (mx x1 1) 7)), (4, .int .i64 0), (5, .int .i64 0), (6, .int .i64 0), (7, .bool false), (8, .int .i64 x_8), (9, .int .i64 x_9), (10, .pointer (some ⟨g_2, 0, none⟩)), (13, .int .i64 (-1)), (14, .int .i64 0)] := hm.keep [1, 4, 5, 6, 7, 8, 9, 10, 13, 14]
    refine c_block ?_
    refine c_loop (fun k_56 a w_56 => ∃ (x_54 : Int) (x_55 : Int) (N_53 : Mem), hocketref11_Choose.L1 K x1 x_8 x_10 x_9 (fun v => hocketref11_Choose.J2 K x_10 x_8 x1 v) k_56 (x_54, x_55) = some r ∧ Fr 130 a [(1, .int .i64 (mn (mx x1 1) 7)), (4, .int .i64 0), (5, .int .i64 0), (6, .int .i64 0), (7, .bool false), (8, .int .i64 x_8), (9, .int .i64 x_9), (10, .pointer (some ⟨g_2, 0, none⟩)), (13, .int .i64 x_54), (14, .int .i64 x_55)] ∧ Sep w0 w_56 [N_53, M_11] Z ∧ N_7.le N_53) K ⟨(-1), 0, N_7, H, hm, (Sep.sel hS [0, 1] (by decide)), (Mem.le.refl _)⟩ (fun a w h => by obtain ⟨_, _, _, H, _⟩ := h; cases (show (none : Option (Int × Int × Int × Bool)) = some r from H)) ?_
    clear hm hS a H
    rintro k_56 a w_56 KL_56 hKL_56 ⟨x_54, x_55, N_53, H, hm, hS, le_53⟩
    replace H : hocketref11_Choose.B1 K x1 x_8 x_10 x_9 (fun v => hocketref11_Choose.J2 K x_10 x_8 x1 v) (hocketref11_Choose.L1 K x1 x_8 x_10 x_9 (fun v => hocketref11_Choose.J2 K x_10 x_8 x1 v) k_56) x_54 x_55 = some r := H
    unfold hocketref11_Choose.B1 at H
    refine c_seq fun KJ_58 hKJ_58 => ?_
    refine wp_seq ?_
    refine wp_region_lit ?_
    refine s_move hm rfl rfl ?_
    clear hm a; intro a hm
    refine s_move hm rfl rfl ?_
    clear hm a; intro a hm
    refine s_cmp (b := decide (x_55 < (mn (mx x1 1) 7))) hm rfl rfl rfl (.inr (.inr (.inl ⟨rfl, rfl⟩))) ?_
    clear hm a; intro a hm
    refine wpList_nil ?_
    replace hm : Fr 130 a [(1, .int .i64 (mn (mx x1 1) 7)), (4, .int .i64 0), (5, .int .i64 0), (6, .int .i64 0), (7, .bool false), (8, .int .i64 x_8), (9, .int .i64 x_9), (10, .pointer (some ⟨g_2, 0, none⟩)), (13, .int .i64 x_54), (14, .int .i64 x_55), (77, .bool (decide (x_55 < (mn (mx x1 1) 7))))] := hm.keep [1, 4, 5, 6, 7, 8, 9, 10, 13, 14, 77]
    refine x_then_n ?_
    by_cases hc_59 : x_55 < (mn (mx x1 1) 7)
    · rw [if_pos hc_59] at H
      refine c_cond_t hm rfl (decide_eq_true hc_59) ?_
      refine wp_skip ?_
      refine x_then_n (hKJ_58 _ _ ?_)
      refine c_seq fun KJ_60 hKJ_60 => ?_
      refine c_block ?_
      refine c_seq fun KJ_61 hKJ_61 => ?_
      have hJ_j_65 : ∀ (x_63 : Bool), hocketref11_Choose.J4 K (hocketref11_Choose.L1 K x1 x_8 x_10 x_9 (fun v => hocketref11_Choose.J2 K x_10 x_8 x1 v) k_56) x_55 x_54 x_63 = some r → ∀ (a : Act) (w_64 : World), (∃ (N_62 : Mem), Fr 130 a [(1, .int .i64 (mn (mx x1 1) 7)), (4, .int .i64 0), (5, .int .i64 0), (6, .int .i64 0), (7, .bool false), (8, .int .i64 x_8), (9, .int .i64 x_9), (10, .pointer (some ⟨g_2, 0, none⟩)), (13, .int .i64 x_54), (14, .int .i64 x_55), (114, .bool x_63)] ∧ Sep w0 w_64 [N_62, M_11] Z ∧ N_53.le N_62) → KJ_61 a w_64 := by
        clear H hm hS a
        rintro x_63 H a w_64 ⟨N_62, hm, hS, le_62⟩
        unfold hocketref11_Choose.J4 at H
        refine hKJ_61 _ _ ?_
        by_cases hc_66 : x_63 = true
        · rw [if_pos hc_66] at H
          refine c_cond_t hm rfl hc_66 ?_
          refine wp_region_lit ?_
          refine s_move hm rfl rfl ?_
          clear hm a; intro a hm
          refine s_assign hm rfl rfl ?_
          clear hm a; intro a hm
          refine wpList_nil ?_
          replace hm : Fr 130 a [(1, .int .i64 (mn (mx x1 1) 7)), (4, .int .i64 0), (5, .int .i64 0), (6, .int .i64 0), (7, .bool false), (8, .int .i64 x_8), (9, .int .i64 x_9), (10, .pointer (some ⟨g_2, 0, none⟩)), (13, .int .i64 x_55), (14, .int .i64 x_55)] := hm.keep [1, 4, 5, 6, 7, 8, 9, 10, 13, 14]
          refine x_block_n ?_
          refine x_then_n (hKJ_60 _ _ ?_)
          refine wp_region_lit ?_
          refine s_move hm rfl rfl ?_
          clear hm a; intro a hm
          refine s_arith (r := w64 (x_55 + 1)) hm rfl rfl rfl (.inl ⟨rfl, rfl⟩) ?_
          clear hm a; intro a hm
          refine s_assign hm rfl rfl ?_
          clear hm a; intro a hm
          refine wpList_nil ?_
          replace hm : Fr 130 a [(1, .int .i64 (mn (mx x1 1) 7)), (4, .int .i64 0), (5, .int .i64 0), (6, .int .i64 0), (7, .bool false), (8, .int .i64 x_8), (9, .int .i64 x_9), (10, .pointer (some ⟨g_2, 0, none⟩)), (13, .int .i64 x_55), (14, .int .i64 (w64 (x_55 + 1)))] := hm.keep [1, 4, 5, 6, 7, 8, 9, 10, 13, 14]
          refine x_then_n (hKL_56 _ _ ?_)
          replace hS : Sep w0 w_64 [N_62, M_11] Z := hS
          replace hm : Fr 130 a [(1, .int .i64 (mn (mx x1 1) 7)), (4, .int .i64 0), (5, .int .i64 0), (6, .int .i64 0), (7, .bool false), (8, .int .i64 x_8), (9, .int .i64 x_9), (10, .pointer (some ⟨g_2, 0, none⟩)), (13, .int .i64 x_55), (14, .int .i64 (w64 (x_55 + 1)))] := hm.keep [1, 4, 5, 6, 7, 8, 9, 10, 13, 14]
          exact ⟨x_55, w64 (x_55 + 1), N_62, H, hm, (Sep.sel hS [0, 1] (by decide)), (le_53.trans le_62)⟩
        · rw [if_neg hc_66] at H
          refine c_cond_f hm rfl (Bool.eq_false_iff.2 hc_66) ?_
          refine wp_skip ?_
          refine x_block_n ?_
          refine x_then_n (hKJ_60 _ _ ?_)
          refine wp_region_lit ?_
          refine s_move hm rfl rfl ?_
          clear hm a; intro a hm
          refine s_arith (r := w64 (x_55 + 1)) hm rfl rfl rfl (.inl ⟨rfl, rfl⟩) ?_
          clear hm a; intro a hm
          refine s_assign hm rfl rfl ?_
          clear hm a; intro a hm
          refine wpList_nil ?_
          replace hm : Fr 130 a [(1, .int .i64 (mn (mx x1 1) 7)), (4, .int .i64 0), (5, .int .i64 0), (6, .int .i64 0), (7, .bool false), (8, .int .i64 x_8), (9, .int .i64 x_9), (10, .pointer (some ⟨g_2, 0, none⟩)), (13, .int .i64 x_54), (14, .int .i64 (w64 (x_55 + 1)))] := hm.keep [1, 4, 5, 6, 7, 8, 9, 10, 13, 14]
          refine x_then_n (hKL_56 _ _ ?_)
          replace hS : Sep w0 w_64 [N_62, M_11] Z := hS
          replace hm : Fr 130 a [(1, .int .i64 (mn (mx x1 1) 7)), (4, .int .i64 0), (5, .int .i64 0), (6, .int .i64 0), (7, .bool false), (8, .int .i64 x_8), (9, .int .i64 x_9), (10, .pointer (some ⟨g_2, 0, none⟩)), (13, .int .i64 x_54), (14, .int .i64 (w64 (x_55 + 1)))] := hm.keep [1, 4, 5, 6, 7, 8, 9, 10, 13, 14]
          exact ⟨x_54, w64 (x_55 + 1), N_62, H, hm, (Sep.sel hS [0, 1] (by decide)), (le_53.trans le_62)⟩
      clear hKJ_61
      refine h_begin (S := fun w => Sep w0 w [N_53, M_11] Z) 35 (by kernel_rfl) rfl [false, false, false, false, false, false, false, false, false, false, false, false, false, false, false, false, false, false, false, false, false, false, false, false, false, false, false, false, false, false, false, false, false, false, false].toArray rfl hS fun w_67 hS => ?_
      replace hS : Sep w0 w_67 [N_53, M_11] Z := hS
      refine h_take 0 [true, false, false, false, false, false, false, false, false, false, false, false, false, false, false, false, false, false, false, false, false, false, false, false, false, false, false, false, false, false, false, false, false, false, false].toArray rfl (by kernel_rfl) (by kernel_rfl) (by kernel_rfl) (fun _ _ _ _ h => h) rfl rfl rfl rfl hm (hS.sub (.cons (Mem.le.refl _) (.cons (Mem.le.refl _) (Sub.nil _)))) (v := .int .i64 x_8) (fun w hS => r_move hm rfl) ?_
      clear hm a; intro a hm
      refine h_take 1 [true, true, false, false, false, false, false, false, false, false, false, false, false, false, false, false, false, false, false, false, false, false, false, false, false, false, false, false, false, false, false, false, false, false, false].toArray rfl (by kernel_rfl) (by kernel_rfl) (by kernel_rfl) (fun _ _ _ _ h => h) rfl rfl rfl rfl hm (hS.sub (.cons (Mem.le.refl _) (.cons (Mem.le.refl _) (Sub.nil _)))) (v := .int .i64 x_55) (fun w hS => r_move hm rfl) ?_
      clear hm a; intro a hm
      refine h_take 2 [true, true, true, false, false, false, false, false, false, false, false, false, false, false, false, false, false, false, false, false, false, false, false, false, false, false, false, false, false, false, false, false, false, false, false].toArray rfl (by kernel_rfl) (by kernel_rfl) (by kernel_rfl) (fun _ _ _ _ h => h) rfl rfl rfl rfl hm (hS.sub (.cons (Mem.le.refl _) (.cons (Mem.le.refl _) (Sub.nil _)))) (v := .int .u64 (wu64 x_55)) (fun w hS => r_conv (wu64 x_55) hm Try.underlying3 Try.underlying38 rfl rfl) ?_
      clear hm a; intro a hm
      refine h_take 3 [true, true, true, true, false, false, false, false, false, false, false, false, false, false, false, false, false, false, false, false, false, false, false, false, false, false, false, false, false, false, false, false, false, false, false].toArray rfl (by kernel_rfl) (by kernel_rfl) (by kernel_rfl) (fun _ _ _ _ h => h) rfl rfl rfl rfl hm (hS.sub (.cons (Mem.le.refl _) (.cons (Mem.le.refl _) (Sub.nil _)))) (v := .int .i64 (shr .i64 x_8 (wu64 x_55))) (fun w hS => r_shift (r := shr .i64 x_8 (wu64 x_55)) hm rfl rfl (wu64_nn _) (.inr ⟨rfl, rfl⟩)) ?_
      clear hm a; intro a hm
      refine h_take 4 [true, true, true, true, true, false, false, false, false, false, false, false, false, false, false, false, false, false, false, false, false, false, false, false, false, false, false, false, false, false, false, false, false, false, false].toArray rfl (by kernel_rfl) (by kernel_rfl) (by kernel_rfl) (fun _ _ _ _ h => h) rfl rfl rfl rfl hm (hS.sub (.cons (Mem.le.refl _) (.cons (Mem.le.refl _) (Sub.nil _)))) (v := .int .i64 (band .i64 (shr .i64 x_8 (wu64 x_55)) 1)) (fun w hS => r_bits (i := shr .i64 x_8 (wu64 x_55)) (j := 1) (r := band .i64 (shr .i64 x_8 (wu64 x_55)) 1) hm rfl rfl (.inl ⟨rfl, rfl⟩)) ?_
      clear hm a; intro a hm
      refine h_take 5 [true, true, true, true, true, true, false, false, false, false, false, false, false, false, false, false, false, false, false, false, false, false, false, false, false, false, false, false, false, false, false, false, false, false, false].toArray rfl (by kernel_rfl) (by kernel_rfl) (by kernel_rfl) (fun _ _ _ _ h => h) rfl rfl rfl rfl hm (hS.sub (.cons (Mem.le.refl _) (.cons (Mem.le.refl _) (Sub.nil _)))) (v := .bool ((band .i64 (shr .i64 x_8 (wu64 x_55)) 1) == 1)) (fun w hS => r_cmp (b := ((band .i64 (shr .i64 x_8 (wu64 x_55)) 1) == 1)) hm rfl rfl (.inl ⟨rfl, rfl⟩)) ?_
      clear hm a; intro a hm
      refine h_take 6 [true, true, true, true, true, true, true, false, false, false, false, false, false, false, false, false, false, false, false, false, false, false, false, false, false, false, false, false, false, false, false, false, false, false, false].toArray rfl (by kernel_rfl) (by kernel_rfl) (by kernel_rfl) (fun _ _ _ _ h => h) rfl rfl rfl rfl hm (hS.sub (.cons (Mem.le.refl _) (.cons (Mem.le.refl _) (Sub.nil _)))) (v := .bool ((band .i64 (shr .i64 x_8 (wu64 x_55)) 1) == 1)) (fun w hS => r_move hm rfl) ?_
      clear hm a; intro a hm
      by_cases hc_68 : (band .i64 (shr .i64 x_8 (wu64 x_55)) 1) = 1
      · rw [if_pos hc_68] at H
        refine h_take_on 7 [true, true, true, true, true, true, true, true, false, false, false, false, false, false, false, false, false, false, false, false, false, false, false, false, false, false, false, false, false, false, false, false, false, false, false].toArray rfl (by kernel_rfl) (by kernel_rfl) (by kernel_rfl) (fun _ _ _ _ h => h) rfl rfl rfl rfl (beq_iff_eq.2 hc_68) rfl rfl hm (hS.sub (.cons (Mem.le.refl _) (.cons (Mem.le.refl _) (Sub.nil _)))) (v := .int .i64 x_55) (fun w hS => r_move hm rfl) ?_
        clear hm a; intro a hm
        obtain ⟨t_69, et_69, H⟩ := Option.bind_eq_some_iff.1 H
        refine h_takeE_on 8 [true, true, true, true, true, true, true, true, true, false, false, false, false, false, false, false, false, false, false, false, false, false, false, false, false, false, false, false, false, false, false, false, false, false, false].toArray rfl (by kernel_rfl) (by kernel_rfl) (by kernel_rfl) (fun _ _ _ _ h => h) rfl rfl rfl rfl (beq_iff_eq.2 hc_68) rfl rfl hm (hS.sub (.cons (Mem.le.refl _) (.cons (Mem.le.refl _) (Sub.nil _)))) (f := fun ad => .pointer (some ad)) (r_indexArr hm Try.underlying74 ti29 rfl rfl rfl ho_14 et_69) ?_
        rintro ad_70 ⟨cs_71, hk_72, hc_73⟩
        obtain ⟨v_74, v_76, v_78, v_80, v_82, v_84, rfl, hr_75, hr_77, hr_79, hr_81, hr_83, hr_85⟩ := k_api_Msg.open' hk_72
        clear hm a; intro a hm
        refine h_take_on 9 [true, true, true, true, true, true, true, true, true, true, false, false, false, false, false, false, false, false, false, false, false, false, false, false, false, false, false, false, false, false, false, false, false, false, false].toArray rfl (by kernel_rfl) (by kernel_rfl) (by kernel_rfl) (fun _ _ _ _ h => h) rfl rfl rfl rfl (beq_iff_eq.2 hc_68) rfl rfl hm (hS.sub (.cons (Mem.le.refl _) (.cons (Mem.le.refl _) (Sub.nil _)))) (v := .pointer (some (ad_70.add 6))) (fun w hS => r_fieldAddr hm Try.underlying29 rfl ti4 rfl rfl rfl) ?_
        clear hm a; intro a hm
        refine h_take_on 10 [true, true, true, true, true, true, true, true, true, true, true, false, false, false, false, false, false, false, false, false, false, false, false, false, false, false, false, false, false, false, false, false, false, false, false].toArray rfl (by kernel_rfl) (by kernel_rfl) (by kernel_rfl) (fun _ _ _ _ h => h) rfl rfl rfl rfl (beq_iff_eq.2 hc_68) rfl rfl hm (hS.sub (.cons (Mem.le.refl _) (.cons (Mem.le.refl _) (Sub.nil _)))) (v := .bool t_69.Has) (fun w hS => r_load hm rfl (el_one (o := 6) (fun j c h => Mem.cell_le (hS.own 1) (hc_73 j c h)) Try.underlying4 rfl rfl)) ?_
        clear hm a; intro a hm
        refine h_take 11 [true, true, true, true, true, true, true, true, true, true, true, true, false, false, false, false, false, false, false, false, false, false, false, false, false, false, false, false, false, false, false, false, false, false, false].toArray rfl (by kernel_rfl) (by kernel_rfl) (by kernel_rfl) (fun _ _ _ _ h => h) rfl rfl rfl rfl hm (hS.sub (.cons (Mem.le.refl _) (.cons (Mem.le.refl _) (Sub.nil _)))) (v := .bool t_69.Has) (fun w hS => r_pick_t hm rfl (beq_iff_eq.2 hc_68) rfl) ?_
        clear hm a; intro a hm
        refine h_take 12 [true, true, true, true, true, true, true, true, true, true, true, true, true, false, false, false, false, false, false, false, false, false, false, false, false, false, false, false, false, false, false, false, false, false, false].toArray rfl (by kernel_rfl) (by kernel_rfl) (by kernel_rfl) (fun _ _ _ _ h => h) rfl rfl rfl rfl hm (hS.sub (.cons (Mem.le.refl _) (.cons (Mem.le.refl _) (Sub.nil _)))) (v := .bool t_69.Has) (fun w hS => r_move hm rfl) ?_
        clear hm a; intro a hm
        by_cases hc_86 : t_69.Has = true
        · rw [if_pos hc_86] at H
          refine h_take_on 13 [true, true, true, true, true, true, true, true, true, true, true, true, true, true, false, false, false, false, false, false, false, false, false, false, false, false, false, false, false, false, false, false, false, false, false].toArray rfl (by kernel_rfl) (by kernel_rfl) (by kernel_rfl) (fun _ _ _ _ h => h) rfl rfl rfl rfl hc_86 rfl rfl hm (hS.sub (.cons (Mem.le.refl _) (.cons (Mem.le.refl _) (Sub.nil _)))) (v := .int .i64 x_55) (fun w hS => r_move hm rfl) ?_
          clear hm a; intro a hm
          obtain ⟨t_87, et_87, H⟩ := Option.bind_eq_some_iff.1 H
          refine h_takeE_on 14 [true, true, true, true, true, true, true, true, true, true, true, true, true, true, true, false, false, false, false, false, false, false, false, false, false, false, false, false, false, false, false, false, false, false, false].toArray rfl (by kernel_rfl) (by kernel_rfl) (by kernel_rfl) (fun _ _ _ _ h => h) rfl rfl rfl rfl hc_86 rfl rfl hm (hS.sub (.cons (Mem.le.refl _) (.cons (Mem.le.refl _) (Sub.nil _)))) (f := fun ad => .pointer (some ad)) (r_indexArr hm Try.underlying74 ti29 rfl rfl rfl ho_14 et_87) ?_
          rintro ad_88 ⟨cs_89, hk_90, hc_91⟩
          obtain ⟨v_92, v_94, v_96, v_98, v_100, v_102, rfl, hr_93, hr_95, hr_97, hr_99, hr_101, hr_103⟩ := k_api_Msg.open' hk_90
          clear hm a; intro a hm
          refine h_take_on 15 [true, true, true, true, true, true, true, true, true, true, true, true, true, true, true, true, false, false, false, false, false, false, false, false, false, false, false, false, false, false, false, false, false, false, false].toArray rfl (by kernel_rfl) (by kernel_rfl) (by kernel_rfl) (fun _ _ _ _ h => h) rfl rfl rfl rfl hc_86 rfl rfl hm (hS.sub (.cons (Mem.le.refl _) (.cons (Mem.le.refl _) (Sub.nil _)))) (v := .pointer (some (ad_88.add 4))) (fun w hS => r_fieldAddr hm Try.underlying29 rfl ti3 rfl rfl rfl) ?_
          clear hm a; intro a hm
          refine h_take_on 16 [true, true, true, true, true, true, true, true, true, true, true, true, true, true, true, true, true, false, false, false, false, false, false, false, false, false, false, false, false, false, false, false, false, false, false].toArray rfl (by kernel_rfl) (by kernel_rfl) (by kernel_rfl) (fun _ _ _ _ h => h) rfl rfl rfl rfl hc_86 rfl rfl hm (hS.sub (.cons (Mem.le.refl _) (.cons (Mem.le.refl _) (Sub.nil _)))) (v := .int .i64 t_87.Inst) (fun w hS => r_load hm rfl (el_one (o := 4) (fun j c h => Mem.cell_le (hS.own 1) (hc_91 j c h)) Try.underlying3 rfl rfl)) ?_
          clear hm a; intro a hm
          refine h_take_on 17 [true, true, true, true, true, true, true, true, true, true, true, true, true, true, true, true, true, true, false, false, false, false, false, false, false, false, false, false, false, false, false, false, false, false, false].toArray rfl (by kernel_rfl) (by kernel_rfl) (by kernel_rfl) (fun _ _ _ _ h => h) rfl rfl rfl rfl hc_86 rfl rfl hm (hS.sub (.cons (Mem.le.refl _) (.cons (Mem.le.refl _) (Sub.nil _)))) (v := .int .i64 x_9) (fun w hS => r_move hm rfl) ?_
          clear hm a; intro a hm
          refine h_take_on 18 [true, true, true, true, true, true, true, true, true, true, true, true, true, true, true, true, true, true, true, false, false, false, false, false, false, false, false, false, false, false, false, false, false, false, false].toArray rfl (by kernel_rfl) (by kernel_rfl) (by kernel_rfl) (fun _ _ _ _ h => h) rfl rfl rfl rfl hc_86 rfl rfl hm (hS.sub (.cons (Mem.le.refl _) (.cons (Mem.le.refl _) (Sub.nil _)))) (v := .bool (t_87.Inst == x_9)) (fun w hS => r_cmp (b := (t_87.Inst == x_9)) hm rfl rfl (.inl ⟨rfl, rfl⟩)) ?_
          clear hm a; intro a hm
          refine h_take 19 [true, true, true, true, true, true, true, true, true, true, true, true, true, true, true, true, true, true, true, true, false, false, false, false, false, false, false, false, false, false, false, false, false, false, false].toArray rfl (by kernel_rfl) (by kernel_rfl) (by kernel_rfl) (fun _ _ _ _ h => h) rfl rfl rfl rfl hm (hS.sub (.cons (Mem.le.refl _) (.cons (Mem.le.refl _) (Sub.nil _)))) (v := .bool (t_87.Inst == x_9)) (fun w hS => r_pick_t hm rfl hc_86 rfl) ?_
          clear hm a; intro a hm
          refine h_take 20 [true, true, true, true, true, true, true, true, true, true, true, true, true, true, true, true, true, true, true, true, true, false, false, false, false, false, false, false, false, false, false, false, false, false, false].toArray rfl (by kernel_rfl) (by kernel_rfl) (by kernel_rfl) (fun _ _ _ _ h => h) rfl rfl rfl rfl hm (hS.sub (.cons (Mem.le.refl _) (.cons (Mem.le.refl _) (Sub.nil _)))) (v := .bool (t_87.Inst == x_9)) (fun w hS => r_move hm rfl) ?_
          clear hm a; intro a hm
          by_cases hc_104 : t_87.Inst = x_9
          · rw [if_pos hc_104] at H
            refine h_take_on 21 [true, true, true, true, true, true, true, true, true, true, true, true, true, true, true, true, true, true, true, true, true, true, false, false, false, false, false, false, false, false, false, false, false, false, false].toArray rfl (by kernel_rfl) (by kernel_rfl) (by kernel_rfl) (fun _ _ _ _ h => h) rfl rfl rfl rfl (beq_iff_eq.2 hc_104) rfl rfl hm (hS.sub (.cons (Mem.le.refl _) (.cons (Mem.le.refl _) (Sub.nil _)))) (v := .int .i64 x_54) (fun w hS => r_move hm rfl) ?_
            clear hm a; intro a hm
            refine h_take_on 22 [true, true, true, true, true, true, true, true, true, true, true, true, true, true, true, true, true, true, true, true, true, true, true, false, false, false, false, false, false, false, false, false, false, false, false].toArray rfl (by kernel_rfl) (by kernel_rfl) (by kernel_rfl) (fun _ _ _ _ h => h) rfl rfl rfl rfl (beq_iff_eq.2 hc_104) rfl rfl hm (hS.sub (.cons (Mem.le.refl _) (.cons (Mem.le.refl _) (Sub.nil _)))) (v := .bool (decide (x_54 < 0))) (fun w hS => r_cmp (b := decide (x_54 < 0)) hm rfl rfl (.inr (.inr (.inl ⟨rfl, rfl⟩)))) ?_
            clear hm a; intro a hm
            refine h_take_on 23 [true, true, true, true, true, true, true, true, true, true, true, true, true, true, true, true, true, true, true, true, true, true, true, true, false, false, false, false, false, false, false, false, false, false, false].toArray rfl (by kernel_rfl) (by kernel_rfl) (by kernel_rfl) (fun _ _ _ _ h => h) rfl rfl rfl rfl (beq_iff_eq.2 hc_104) rfl rfl hm (hS.sub (.cons (Mem.le.refl _) (.cons (Mem.le.refl _) (Sub.nil _)))) (v := .bool (decide (x_54 < 0))) (fun w hS => r_move hm rfl) ?_
            clear hm a; intro a hm
            by_cases hc_105 : x_54 < 0
            · rw [if_pos hc_105] at H
              refine h_take_off 24 [true, true, true, true, true, true, true, true, true, true, true, true, true, true, true, true, true, true, true, true, true, true, true, true, true, false, false, false, false, false, false, false, false, false, false].toArray rfl (by kernel_rfl) (by kernel_rfl) (by kernel_rfl) (fun _ _ _ _ h => h) rfl rfl rfl rfl (.inl (congrArg Value.bool (decide_eq_true hc_105))) rfl rfl hm (hS.sub (.cons (Mem.le.refl _) (.cons (Mem.le.refl _) (Sub.nil _)))) ?_
              clear hm a; intro a hm
              refine h_take_off 25 [true, true, true, true, true, true, true, true, true, true, true, true, true, true, true, true, true, true, true, true, true, true, true, true, true, true, false, false, false, false, false, false, false, false, false].toArray rfl (by kernel_rfl) (by kernel_rfl) (by kernel_rfl) (fun _ _ _ _ h => h) rfl rfl rfl rfl (.inl (congrArg Value.bool (decide_eq_true hc_105))) rfl rfl hm (hS.sub (.cons (Mem.le.refl _) (.cons (Mem.le.refl _) (Sub.nil _)))) ?_
              clear hm a; intro a hm
              refine h_take_off 26 [true, true, true, true, true, true, true, true, true, true, true, true, true, true, true, true, true, true, true, true, true, true, true, true, true, true, true, false, false, false, false, false, false, false, false].toArray rfl (by kernel_rfl) (by kernel_rfl) (by kernel_rfl) (fun _ _ _ _ h => h) rfl rfl rfl rfl (.inl (congrArg Value.bool (decide_eq_true hc_105))) rfl rfl hm (hS.sub (.cons (Mem.le.refl _) (.cons (Mem.le.refl _) (Sub.nil _)))) ?_
              clear hm a; intro a hm
              refine h_take_off 27 [true, true, true, true, true, true, true, true, true, true, true, true, true, true, true, true, true, true, true, true, true, true, true, true, true, true, true, true, false, false, false, false, false, false, false].toArray rfl (by kernel_rfl) (by kernel_rfl) (by kernel_rfl) (fun _ _ _ _ h => h) rfl rfl rfl rfl (.inl (congrArg Value.bool (decide_eq_true hc_105))) rfl rfl hm (hS.sub (.cons (Mem.le.refl _) (.cons (Mem.le.refl _) (Sub.nil _)))) ?_
              clear hm a; intro a hm
              refine h_take_off 28 [true, true, true, true, true, true, true, true, true, true, true, true, true, true, true, true, true, true, true, true, true, true, true, true, true, true, true, true, true, false, false, false, false, false, false].toArray rfl (by kernel_rfl) (by kernel_rfl) (by kernel_rfl) (fun _ _ _ _ h => h) rfl rfl rfl rfl (.inl (congrArg Value.bool (decide_eq_true hc_105))) rfl rfl hm (hS.sub (.cons (Mem.le.refl _) (.cons (Mem.le.refl _) (Sub.nil _)))) ?_
              clear hm a; intro a hm
              refine h_take_off 29 [true, true, true, true, true, true, true, true, true, true, true, true, true, true, true, true, true, true, true, true, true, true, true, true, true, true, true, true, true, true, false, false, false, false, false].toArray rfl (by kernel_rfl) (by kernel_rfl) (by kernel_rfl) (fun _ _ _ _ h => h) rfl rfl rfl rfl (.inl (congrArg Value.bool (decide_eq_true hc_105))) rfl rfl hm (hS.sub (.cons (Mem.le.refl _) (.cons (Mem.le.refl _) (Sub.nil _)))) ?_
              clear hm a; intro a hm
              refine h_take_off 30 [true, true, true, true, true, true, true, true, true, true, true, true, true, true, true, true, true, true, true, true, true, true, true, true, true, true, true, true, true, true, true, false, false, false, false].toArray rfl (by kernel_rfl) (by kernel_rfl) (by kernel_rfl) (fun _ _ _ _ h => h) rfl rfl rfl rfl (.inl (congrArg Value.bool (decide_eq_true hc_105))) rfl rfl hm (hS.sub (.cons (Mem.le.refl _) (.cons (Mem.le.refl _) (Sub.nil _)))) ?_
              clear hm a; intro a hm
              refine h_take_off 31 [true, true, true, true, true, true, true, true, true, true, true, true, true, true, true, true, true, true, true, true, true, true, true, true, true, true, true, true, true, true, true, true, false, false, false].toArray rfl (by kernel_rfl) (by kernel_rfl) (by kernel_rfl) (fun _ _ _ _ h => h) rfl rfl rfl rfl (.inl (congrArg Value.bool (decide_eq_true hc_105))) rfl rfl hm (hS.sub (.cons (Mem.le.refl _) (.cons (Mem.le.refl _) (Sub.nil _)))) ?_
              clear hm a; intro a hm
              refine h_take_off 32 [true, true, true, true, true, true, true, true, true, true, true, true, true, true, true, true, true, true, true, true, true, true, true, true, true, true, true, true, true, true, true, true, true, false, false].toArray rfl (by kernel_rfl) (by kernel_rfl) (by kernel_rfl) (fun _ _ _ _ h => h) rfl rfl rfl rfl (.inl (congrArg Value.bool (decide_eq_true hc_105))) rfl rfl hm (hS.sub (.cons (Mem.le.refl _) (.cons (Mem.le.refl _) (Sub.nil _)))) ?_
              clear hm a; intro a hm
              refine h_take_on 33 [true, true, true, true, true, true, true, true, true, true, true, true, true, true, true, true, true, true, true, true, true, true, true, true, true, true, true, true, true, true, true, true, true, true, false].toArray rfl (by kernel_rfl) (by kernel_rfl) (by kernel_rfl) (fun _ _ _ _ h => h) rfl rfl rfl rfl (beq_iff_eq.2 hc_104) rfl rfl hm (hS.sub (.cons (Mem.le.refl _) (.cons (Mem.le.refl _) (Sub.nil _)))) (v := .bool true) (fun w hS => r_pick_t hm rfl (decide_eq_true hc_105) rfl) ?_
              clear hm a; intro a hm
              refine h_take 34 [true, true, true, true, true, true, true, true, true, true, true, true, true, true, true, true, true, true, true, true, true, true, true, true, true, true, true, true, true, true, true, true, true, true, true].toArray rfl (by kernel_rfl) (by kernel_rfl) (by kernel_rfl) (fun _ _ _ _ h => h) rfl rfl rfl rfl hm (hS.sub (.cons (Mem.le.refl _) (.cons (Mem.le.refl _) (Sub.nil _)))) (v := .bool true) (fun w hS => r_pick_t hm rfl (beq_iff_eq.2 hc_104) rfl) ?_
              clear hm a; intro a hm
              refine h_done (by kernel_rfl) ?_
              replace hm : Fr 130 a [(1, .int .i64 (mn (mx x1 1) 7)), (4, .int .i64 0), (5, .int .i64 0), (6, .int .i64 0), (7, .bool false), (8, .int .i64 x_8), (9, .int .i64 x_9), (10, .pointer (some ⟨g_2, 0, none⟩)), (13, .int .i64 x_54), (14, .int .i64 x_55), (114, .bool true)] := hm.keep [1, 4, 5, 6, 7, 8, 9, 10, 13, 14, 114]
              replace hS : Sep w0 w_67 [N_53, M_11] Z := hS
              replace hm : Fr 130 a [(1, .int .i64 (mn (mx x1 1) 7)), (4, .int .i64 0), (5, .int .i64 0), (6, .int .i64 0), (7, .bool false), (8, .int .i64 x_8), (9, .int .i64 x_9), (10, .pointer (some ⟨g_2, 0, none⟩)), (13, .int .i64 x_54), (14, .int .i64 x_55), (114, .bool true)] := hm.keep [1, 4, 5, 6, 7, 8, 9, 10, 13, 14, 114]
              exact x_then_n (hJ_j_65 true H _ _ ⟨N_53, hm, (Sep.sel hS [0, 1] (by decide)), (Mem.le.refl _)⟩)
            · rw [if_neg hc_105] at H
              refine h_take_on 24 [true, true, true, true, true, true, true, true, true, true, true, true, true, true, true, true, true, true, true, true, true, true, true, true, true, false, false, false, false, false, false, false, false, false, false].toArray rfl (by kernel_rfl) (by kernel_rfl) (by kernel_rfl) (fun _ _ _ _ h => h) rfl rfl rfl rfl (decide_eq_false hc_105) rfl rfl hm (hS.sub (.cons (Mem.le.refl _) (.cons (Mem.le.refl _) (Sub.nil _)))) (v := .int .i64 x_55) (fun w hS => r_move hm rfl) ?_
              clear hm a; intro a hm
              obtain ⟨t_106, et_106, H⟩ := Option.bind_eq_some_iff.1 H
              refine h_takeE_on 25 [true, true, true, true, true, true, true, true, true, true, true, true, true, true, true, true, true, true, true, true, true, true, true, true, true, true, false, false, false, false, false, false, false, false, false].toArray rfl (by kernel_rfl) (by kernel_rfl) (by kernel_rfl) (fun _ _ _ _ h => h) rfl rfl rfl rfl (decide_eq_false hc_105) rfl rfl hm (hS.sub (.cons (Mem.le.refl _) (.cons (Mem.le.refl _) (Sub.nil _)))) (f := fun ad => .pointer (some ad)) (r_indexArr hm Try.underlying74 ti29 rfl rfl rfl ho_14 et_106) ?_
              rintro ad_107 ⟨cs_108, hk_109, hc_110⟩
              obtain ⟨v_111, v_113, v_115, v_117, v_119, v_121, rfl, hr_112, hr_114, hr_116, hr_118, hr_120, hr_122⟩ := k_api_Msg.open' hk_109
              clear hm a; intro a hm
              refine h_take_on 26 [true, true, true, true, true, true, true, true, true, true, true, true, true, true, true, true, true, true, true, true, true, true, true, true, true, true, true, false, false, false, false, false, false, false, false].toArray rfl (by kernel_rfl) (by kernel_rfl) (by kernel_rfl) (fun _ _ _ _ h => h) rfl rfl rfl rfl (decide_eq_false hc_105) rfl rfl hm (hS.sub (.cons (Mem.le.refl _) (.cons (Mem.le.refl _) (Sub.nil _)))) (v := .pointer (some (ad_107.add 5))) (fun w hS => r_fieldAddr hm Try.underlying29 rfl ti3 rfl rfl rfl) ?_
              clear hm a; intro a hm
              refine h_take_on 27 [true, true, true, true, true, true, true, true, true, true, true, true, true, true, true, true, true, true, true, true, true, true, true, true, true, true, true, true, false, false, false, false, false, false, false].toArray rfl (by kernel_rfl) (by kernel_rfl) (by kernel_rfl) (fun _ _ _ _ h => h) rfl rfl rfl rfl (decide_eq_false hc_105) rfl rfl hm (hS.sub (.cons (Mem.le.refl _) (.cons (Mem.le.refl _) (Sub.nil _)))) (v := .int .i64 t_106.Len) (fun w hS => r_load hm rfl (el_one (o := 5) (fun j c h => Mem.cell_le (hS.own 1) (hc_110 j c h)) Try.underlying3 rfl rfl)) ?_
              clear hm a; intro a hm
              refine h_take_on 28 [true, true, true, true, true, true, true, true, true, true, true, true, true, true, true, true, true, true, true, true, true, true, true, true, true, true, true, true, true, false, false, false, false, false, false].toArray rfl (by kernel_rfl) (by kernel_rfl) (by kernel_rfl) (fun _ _ _ _ h => h) rfl rfl rfl rfl (decide_eq_false hc_105) rfl rfl hm (hS.sub (.cons (Mem.le.refl _) (.cons (Mem.le.refl _) (Sub.nil _)))) (v := .int .i64 x_54) (fun w hS => r_move hm rfl) ?_
              clear hm a; intro a hm
              obtain ⟨t_123, et_123, H⟩ := Option.bind_eq_some_iff.1 H
              refine h_takeE_on 29 [true, true, true, true, true, true, true, true, true, true, true, true, true, true, true, true, true, true, true, true, true, true, true, true, true, true, true, true, true, true, false, false, false, false, false].toArray rfl (by kernel_rfl) (by kernel_rfl) (by kernel_rfl) (fun _ _ _ _ h => h) rfl rfl rfl rfl (decide_eq_false hc_105) rfl rfl hm (hS.sub (.cons (Mem.le.refl _) (.cons (Mem.le.refl _) (Sub.nil _)))) (f := fun ad => .pointer (some ad)) (r_indexArr hm Try.underlying74 ti29 rfl rfl rfl ho_14 et_123) ?_
              rintro ad_124 ⟨cs_125, hk_126, hc_127⟩
              obtain ⟨v_128, v_130, v_132, v_134, v_136, v_138, rfl, hr_129, hr_131, hr_133, hr_135, hr_137, hr_139⟩ := k_api_Msg.open' hk_126
              clear hm a; intro a hm
              refine h_take_on 30 [true, true, true, true, true, true, true, true, true, true, true, true, true, true, true, true, true, true, true, true, true, true, true, true, true, true, true, true, true, true, true, false, false, false, false].toArray rfl (by kernel_rfl) (by kernel_rfl) (by kernel_rfl) (fun _ _ _ _ h => h) rfl rfl rfl rfl (decide_eq_false hc_105) rfl rfl hm (hS.sub (.cons (Mem.le.refl _) (.cons (Mem.le.refl _) (Sub.nil _)))) (v := .pointer (some (ad_124.add 5))) (fun w hS => r_fieldAddr hm Try.underlying29 rfl ti3 rfl rfl rfl) ?_
              clear hm a; intro a hm
              refine h_take_on 31 [true, true, true, true, true, true, true, true, true, true, true, true, true, true, true, true, true, true, true, true, true, true, true, true, true, true, true, true, true, true, true, true, false, false, false].toArray rfl (by kernel_rfl) (by kernel_rfl) (by kernel_rfl) (fun _ _ _ _ h => h) rfl rfl rfl rfl (decide_eq_false hc_105) rfl rfl hm (hS.sub (.cons (Mem.le.refl _) (.cons (Mem.le.refl _) (Sub.nil _)))) (v := .int .i64 t_123.Len) (fun w hS => r_load hm rfl (el_one (o := 5) (fun j c h => Mem.cell_le (hS.own 1) (hc_127 j c h)) Try.underlying3 rfl rfl)) ?_
              clear hm a; intro a hm
              refine h_take_on 32 [true, true, true, true, true, true, true, true, true, true, true, true, true, true, true, true, true, true, true, true, true, true, true, true, true, true, true, true, true, true, true, true, true, false, false].toArray rfl (by kernel_rfl) (by kernel_rfl) (by kernel_rfl) (fun _ _ _ _ h => h) rfl rfl rfl rfl (decide_eq_false hc_105) rfl rfl hm (hS.sub (.cons (Mem.le.refl _) (.cons (Mem.le.refl _) (Sub.nil _)))) (v := .bool (decide (t_106.Len > t_123.Len))) (fun w hS => r_cmp (b := decide (t_106.Len > t_123.Len)) hm rfl rfl (.inr (.inr (.inr (.inr (.inl ⟨rfl, rfl⟩)))))) ?_
              clear hm a; intro a hm
              refine h_take_on 33 [true, true, true, true, true, true, true, true, true, true, true, true, true, true, true, true, true, true, true, true, true, true, true, true, true, true, true, true, true, true, true, true, true, true, false].toArray rfl (by kernel_rfl) (by kernel_rfl) (by kernel_rfl) (fun _ _ _ _ h => h) rfl rfl rfl rfl (beq_iff_eq.2 hc_104) rfl rfl hm (hS.sub (.cons (Mem.le.refl _) (.cons (Mem.le.refl _) (Sub.nil _)))) (v := .bool (decide (t_106.Len > t_123.Len))) (fun w hS => r_pick_f hm rfl (decide_eq_false hc_105) rfl) ?_
              clear hm a; intro a hm
              refine h_take 34 [true, true, true, true, true, true, true, true, true, true, true, true, true, true, true, true, true, true, true, true, true, true, true, true, true, true, true, true, true, true, true, true, true, true, true].toArray rfl (by kernel_rfl) (by kernel_rfl) (by kernel_rfl) (fun _ _ _ _ h => h) rfl rfl rfl rfl hm (hS.sub (.cons (Mem.le.refl _) (.cons (Mem.le.refl _) (Sub.nil _)))) (v := .bool (decide (t_106.Len > t_123.Len))) (fun w hS => r_pick_t hm rfl (beq_iff_eq.2 hc_104) rfl) ?_
              clear hm a; intro a hm
              refine h_done (by kernel_rfl) ?_
              replace hm : Fr 130 a [(1, .int .i64 (mn (mx x1 1) 7)), (4, .int .i64 0), (5, .int .i64 0), (6, .int .i64 0), (7, .bool false), (8, .int .i64 x_8), (9, .int .i64 x_9), (10, .pointer (some ⟨g_2, 0, none⟩)), (13, .int .i64 x_54), (14, .int .i64 x_55), (114, .bool (decide (t_106.Len > t_123.Len)))] := hm.keep [1, 4, 5, 6, 7, 8, 9, 10, 13, 14, 114]
              replace hS : Sep w0 w_67 [N_53, M_11] Z := hS
              replace hm : Fr 130 a [(1, .int .i64 (mn (mx x1 1) 7)), (4, .int .i64 0), (5, .int .i64 0), (6, .int .i64 0), (7, .bool false), (8, .int .i64 x_8), (9, .int .i64 x_9), (10, .pointer (some ⟨g_2, 0, none⟩)), (13, .int .i64 x_54), (14, .int .i64 x_55), (114, .bool (decide (t_106.Len > t_123.Len)))] := hm.keep [1, 4, 5, 6, 7, 8, 9, 10, 13, 14, 114]
              exact x_then_n (hJ_j_65 (decide (t_106.Len > t_123.Len)) H _ _ ⟨N_53, hm, (Sep.sel hS [0, 1] (by decide)), (Mem.le.refl _)⟩)
          · rw [if_neg hc_104] at H
            refine h_take_off 21 [true, true, true, true, true, true, true, true, true, true, true, true, true, true, true, true, true, true, true, true, true, true, false, false, false, false, false, false, false, false, false, false, false, false, false].toArray rfl (by kernel_rfl) (by kernel_rfl) (by kernel_rfl) (fun _ _ _ _ h => h) rfl rfl rfl rfl (.inl (congrArg Value.bool (beq_eq_false_iff_ne.2 hc_104))) rfl rfl hm (hS.sub (.cons (Mem.le.refl _) (.cons (Mem.le.refl _) (Sub.nil _)))) ?_
            clear hm a; intro a hm
            refine h_take_off 22 [true, true, true, true, true, true, true, true, true, true, true, true, true, true, true, true, true, true, true, true, true, true, true, false, false, false, false, false, false, false, false, false, false, false, false].toArray rfl (by kernel_rfl) (by kernel_rfl) (by kernel_rfl) (fun _ _ _ _ h => h) rfl rfl rfl rfl (.inl (congrArg Value.bool (beq_eq_false_iff_ne.2 hc_104))) rfl rfl hm (hS.sub (.cons (Mem.le.refl _) (.cons (Mem.le.refl _) (Sub.nil _)))) ?_
            clear hm a; intro a hm
            refine h_take_off 23 [true, true, true, true, true, true, true, true, true, true, true, true, true, true, true, true, true, true, true, true, true, true, true, true, false, false, false, false, false, false, false, false, false, false, false].toArray rfl (by kernel_rfl) (by kernel_rfl) (by kernel_rfl) (fun _ _ _ _ h => h) rfl rfl rfl rfl (.inl (congrArg Value.bool (beq_eq_false_iff_ne.2 hc_104))) rfl rfl hm (hS.sub (.cons (Mem.le.refl _) (.cons (Mem.le.refl _) (Sub.nil _)))) ?_
            clear hm a; intro a hm
            refine h_take_off 24 [true, true, true, true, true, true, true, true, true, true, true, true, true, true, true, true, true, true, true, true, true, true, true, true, true, false, false, false, false, false, false, false, false, false, false].toArray rfl (by kernel_rfl) (by kernel_rfl) (by kernel_rfl) (fun _ _ _ _ h => h) rfl rfl rfl rfl (.inr rfl) rfl rfl hm (hS.sub (.cons (Mem.le.refl _) (.cons (Mem.le.refl _) (Sub.nil _)))) ?_
            clear hm a; intro a hm
            refine h_take_off 25 [true, true, true, true, true, true, true, true, true, true, true, true, true, true, true, true, true, true, true, true, true, true, true, true, true, true, false, false, false, false, false, false, false, false, false].toArray rfl (by kernel_rfl) (by kernel_rfl) (by kernel_rfl) (fun _ _ _ _ h => h) rfl rfl rfl rfl (.inr rfl) rfl rfl hm (hS.sub (.cons (Mem.le.refl _) (.cons (Mem.le.refl _) (Sub.nil _)))) ?_
            clear hm a; intro a hm
            refine h_take_off 26 [true, true, true, true, true, true, true, true, true, true, true, true, true, true, true, true, true, true, true, true, true, true, true, true, true, true, true, false, false, false, false, false, false, false, false].toArray rfl (by kernel_rfl) (by kernel_rfl) (by kernel_rfl) (fun _ _ _ _ h => h) rfl rfl rfl rfl (.inr rfl) rfl rfl hm (hS.sub (.cons (Mem.le.refl _) (.cons (Mem.le.refl _) (Sub.nil _)))) ?_
            clear hm a; intro a hm
            refine h_take_off 27 [true, true, true, true, true, true, true, true, true, true, true, true, true, true, true, true, true, true, true, true, true, true, true, true, true, true, true, true, false, false, false, false, false, false, false].toArray rfl (by kernel_rfl) (by kernel_rfl) (by kernel_rfl) (fun _ _ _ _ h => h) rfl rfl rfl rfl (.inr rfl) rfl rfl hm (hS.sub (.cons (Mem.le.refl _) (.cons (Mem.le.refl _) (Sub.nil _)))) ?_
            clear hm a; intro a hm
            refine h_take_off 28 [true, true, true, true, true, true, true, true, true, true, true, true, true, true, true, true, true, true, true, true, true, true, true, true, true, true, true, true, true, false, false, false, false, false, false].toArray rfl (by kernel_rfl) (by kernel_rfl) (by kernel_rfl) (fun _ _ _ _ h => h) rfl rfl rfl rfl (.inr rfl) rfl rfl hm (hS.sub (.cons (Mem.le.refl _) (.cons (Mem.le.refl _) (Sub.nil _)))) ?_
            clear hm a; intro a hm
            refine h_take_off 29 [true, true, true, true, true, true, true, true, true, true, true, true, true, true, true, true, true, true, true, true, true, true, true, true, true, true, true, true, true, true, false, false, false, false, false].toArray rfl (by kernel_rfl) (by kernel_rfl) (by kernel_rfl) (fun _ _ _ _ h => h) rfl rfl rfl rfl (.inr rfl) rfl rfl hm (hS.sub (.cons (Mem.le.refl _) (.cons (Mem.le.refl _) (Sub.nil _)))) ?_
            clear hm a; intro a hm
            refine h_take_off 30 [true, true, true, true, true, true, true, true, true, true, true, true, true, true, true, true, true, true, true, true, true, true, true, true, true, true, true, true, true, true, true, false, false, false, false].toArray rfl (by kernel_rfl) (by kernel_rfl) (by kernel_rfl) (fun _ _ _ _ h => h) rfl rfl rfl rfl (.inr rfl) rfl rfl hm (hS.sub (.cons (Mem.le.refl _) (.cons (Mem.le.refl _) (Sub.nil _)))) ?_
            clear hm a; intro a hm
            refine h_take_off 31 [true, true, true, true, true, true, true, true, true, true, true, true, true, true, true, true, true, true, true, true, true, true, true, true, true, true, true, true, true, true, true, true, false, false, false].toArray rfl (by kernel_rfl) (by kernel_rfl) (by kernel_rfl) (fun _ _ _ _ h => h) rfl rfl rfl rfl (.inr rfl) rfl rfl hm (hS.sub (.cons (Mem.le.refl _) (.cons (Mem.le.refl _) (Sub.nil _)))) ?_
            clear hm a; intro a hm
            refine h_take_off 32 [true, true, true, true, true, true, true, true, true, true, true, true, true, true, true, true, true, true, true, true, true, true, true, true, true, true, true, true, true, true, true, true, true, false, false].toArray rfl (by kernel_rfl) (by kernel_rfl) (by kernel_rfl) (fun _ _ _ _ h => h) rfl rfl rfl rfl (.inr rfl) rfl rfl hm (hS.sub (.cons (Mem.le.refl _) (.cons (Mem.le.refl _) (Sub.nil _)))) ?_
            clear hm a; intro a hm
            refine h_take_off 33 [true, true, true, true, true, true, true, true, true, true, true, true, true, true, true, true, true, true, true, true, true, true, true, true, true, true, true, true, true, true, true, true, true, true, false].toArray rfl (by kernel_rfl) (by kernel_rfl) (by kernel_rfl) (fun _ _ _ _ h => h) rfl rfl rfl rfl (.inl (congrArg Value.bool (beq_eq_false_iff_ne.2 hc_104))) rfl rfl hm (hS.sub (.cons (Mem.le.refl _) (.cons (Mem.le.refl _) (Sub.nil _)))) ?_
            clear hm a; intro a hm
            refine h_take 34 [true, true, true, true, true, true, true, true, true, true, true, true, true, true, true, true, true, true, true, true, true, true, true, true, true, true, true, true, true, true, true, true, true, true, true].toArray rfl (by kernel_rfl) (by kernel_rfl) (by kernel_rfl) (fun _ _ _ _ h => h) rfl rfl rfl rfl hm (hS.sub (.cons (Mem.le.refl _) (.cons (Mem.le.refl _) (Sub.nil _)))) (v := .bool false) (fun w hS => r_pick_f hm rfl (beq_eq_false_iff_ne.2 hc_104) rfl) ?_
            clear hm a; intro a hm
            refine h_done (by kernel_rfl) ?_
            replace hm : Fr 130 a [(1, .int .i64 (mn (mx x1 1) 7)), (4, .int .i64 0), (5, .int .i64 0), (6, .int .i64 0), (7, .bool false), (8, .int .i64 x_8), (9, .int .i64 x_9), (10, .pointer (some ⟨g_2, 0, none⟩)), (13, .int .i64 x_54), (14, .int .i64 x_55), (114, .bool false)] := hm.keep [1, 4, 5, 6, 7, 8, 9, 10, 13, 14, 114]
            replace hS : Sep w0 w_67 [N_53, M_11] Z := hS
            replace hm : Fr 130 a [(1, .int .i64 (mn (mx x1 1) 7)), (4, .int .i64 0), (5, .int .i64 0), (6, .int .i64 0), (7, .bool false), (8, .int .i64 x_8), (9, .int .i64 x_9), (10, .pointer (some ⟨g_2, 0, none⟩)), (13, .int .i64 x_54), (14, .int .i64 x_55), (114, .bool false)] := hm.keep [1, 4, 5, 6, 7, 8, 9, 10, 13, 14, 114]
            exact x_then_n (hJ_j_65 false H _ _ ⟨N_53, hm, (Sep.sel hS [0, 1] (by decide)), (Mem.le.refl _)⟩)
        · rw [if_neg hc_86] at H
          refine h_take_off 13 [true, true, true, true, true, true, true, true, true, true, true, true, true, true, false, false, false, false, false, false, false, false, false, false, false, false, false, false, false, false, false, false, false, false, false].toArray rfl (by kernel_rfl) (by kernel_rfl) (by kernel_rfl) (fun _ _ _ _ h => h) rfl rfl rfl rfl (.inl (congrArg Value.bool (Bool.eq_false_iff.2 hc_86))) rfl rfl hm (hS.sub (.cons (Mem.le.refl _) (.cons (Mem.le.refl _) (Sub.nil _)))) ?_
          clear hm a; intro a hm
          refine h_take_off 14 [true, true, true, true, true, true, true, true, true, true, true, true, true, true, true, false, false, false, false, false, false, false, false, false, false, false, false, false, false, false, false, false, false, false, false].toArray rfl (by kernel_rfl) (by kernel_rfl) (by kernel_rfl) (fun _ _ _ _ h => h) rfl rfl rfl rfl (.inl (congrArg Value.bool (Bool.eq_false_iff.2 hc_86))) rfl rfl hm (hS.sub (.cons (Mem.le.refl _) (.cons (Mem.le.refl _) (Sub.nil _)))) ?_
          clear hm a; intro a hm
          refine h_take_off 15 [true, true, true, true, true, true, true, true, true, true, true, true, true, true, true, true, false, false, false, false, false, false, false, false, false, false, false, false, false, false, false, false, false, false, false].toArray rfl (by kernel_rfl) (by kernel_rfl) (by kernel_rfl) (fun _ _ _ _ h => h) rfl rfl rfl rfl (.inl (congrArg Value.bool (Bool.eq_false_iff.2 hc_86))) rfl rfl hm (hS.sub (.cons (Mem.le.refl _) (.cons (Mem.le.refl _) (Sub.nil _)))) ?_
          clear hm a; intro a hm
          refine h_take_off 16 [true, true, true, true, true, true, true, true, true, true, true, true, true, true, true, true, true, false, false, false, false, false, false, false, false, false, false, false, false, false, false, false, false, false, false].toArray rfl (by kernel_rfl) (by kernel_rfl) (by kernel_rfl) (fun _ _ _ _ h => h) rfl rfl rfl rfl (.inl (congrArg Value.bool (Bool.eq_false_iff.2 hc_86))) rfl rfl hm (hS.sub (.cons (Mem.le.refl _) (.cons (Mem.le.refl _) (Sub.nil _)))) ?_
          clear hm a; intro a hm
          refine h_take_off 17 [true, true, true, true, true, true, true, true, true, true, true, true, true, true, true, true, true, true, false, false, false, false, false, false, false, false, false, false, false, false, false, false, false, false, false].toArray rfl (by kernel_rfl) (by kernel_rfl) (by kernel_rfl) (fun _ _ _ _ h => h) rfl rfl rfl rfl (.inl (congrArg Value.bool (Bool.eq_false_iff.2 hc_86))) rfl rfl hm (hS.sub (.cons (Mem.le.refl _) (.cons (Mem.le.refl _) (Sub.nil _)))) ?_
          clear hm a; intro a hm
          refine h_take_off 18 [true, true, true, true, true, true, true, true, true, true, true, true, true, true, true, true, true, true, true, false, false, false, false, false, false, false, false, false, false, false, false, false, false, false, false].toArray rfl (by kernel_rfl) (by kernel_rfl) (by kernel_rfl) (fun _ _ _ _ h => h) rfl rfl rfl rfl (.inl (congrArg Value.bool (Bool.eq_false_iff.2 hc_86))) rfl rfl hm (hS.sub (.cons (Mem.le.refl _) (.cons (Mem.le.refl _) (Sub.nil _)))) ?_
          clear hm a; intro a hm
          refine h_take 19 [true, true, true, true, true, true, true, true, true, true, true, true, true, true, true, true, true, true, true, true, false, false, false, false, false, false, false, false, false, false, false, false, false, false, false].toArray rfl (by kernel_rfl) (by kernel_rfl) (by kernel_rfl) (fun _ _ _ _ h => h) rfl rfl rfl rfl hm (hS.sub (.cons (Mem.le.refl _) (.cons (Mem.le.refl _) (Sub.nil _)))) (v := .bool false) (fun w hS => r_pick_f hm rfl (Bool.eq_false_iff.2 hc_86) rfl) ?_
          clear hm a; intro a hm
          refine h_take 20 [true, true, true, true, true, true, true, true, true, true, true, true, true, true, true, true, true, true, true, true, true, false, false, false, false, false, false, false, false, false, false, false, false, false, false].toArray rfl (by kernel_rfl) (by kernel_rfl) (by kernel_rfl) (fun _ _ _ _ h => h) rfl rfl rfl rfl hm (hS.sub (.cons (Mem.le.refl _) (.cons (Mem.le.refl _) (Sub.nil _)))) (v := .bool false) (fun w hS => r_move hm rfl) ?_
          clear hm a; intro a hm
          refine h_take_off 21 [true, true, true, true, true, true, true, true, true, true, true, true, true, true, true, true, true, true, true, true, true, true, false, false, false, false, false, false, false, false, false, false, false, false, false].toArray rfl (by kernel_rfl) (by kernel_rfl) (by kernel_rfl) (fun _ _ _ _ h => h) rfl rfl rfl rfl (.inl (congrArg Value.bool rfl)) rfl rfl hm (hS.sub (.cons (Mem.le.refl _) (.cons (Mem.le.refl _) (Sub.nil _)))) ?_
          clear hm a; intro a hm
          refine h_take_off 22 [true, true, true, true, true, true, true, true, true, true, true, true, true, true, true, true, true, true, true, true, true, true, true, false, false, false, false, false, false, false, false, false, false, false, false].toArray rfl (by kernel_rfl) (by kernel_rfl) (by kernel_rfl) (fun _ _ _ _ h => h) rfl rfl rfl rfl (.inl (congrArg Value.bool rfl)) rfl rfl hm (hS.sub (.cons (Mem.le.refl _) (.cons (Mem.le.refl _) (Sub.nil _)))) ?_
          clear hm a; intro a hm
          refine h_take_off 23 [true, true, true, true, true, true, true, true, true, true, true, true, true, true, true, true, true, true, true, true, true, true, true, true, false, false, false, false, false, false, false, false, false, false, false].toArray rfl (by kernel_rfl) (by kernel_rfl) (by kernel_rfl) (fun _ _ _ _ h => h) rfl rfl rfl rfl (.inl (congrArg Value.bool rfl)) rfl rfl hm (hS.sub (.cons (Mem.le.refl _) (.cons (Mem.le.refl _) (Sub.nil _)))) ?_
          clear hm a; intro a hm
          refine h_take_off 24 [true, true, true, true, true, true, true, true, true, true, true, true, true, true, true, true, true, true, true, true, true, true, true, true, true, false, false, false, false, false, false, false, false, false, false].toArray rfl (by kernel_rfl) (by kernel_rfl) (by kernel_rfl) (fun _ _ _ _ h => h) rfl rfl rfl rfl (.inr rfl) rfl rfl hm (hS.sub (.cons (Mem.le.refl _) (.cons (Mem.le.refl _) (Sub.nil _)))) ?_
          clear hm a; intro a hm
          refine h_take_off 25 [true, true, true, true, true, true, true, true, true, true, true, true, true, true, true, true, true, true, true, true, true, true, true, true, true, true, false, false, false, false, false, false, false, false, false].toArray rfl (by kernel_rfl) (by kernel_rfl) (by kernel_rfl) (fun _ _ _ _ h => h) rfl rfl rfl rfl (.inr rfl) rfl rfl hm (hS.sub (.cons (Mem.le.refl _) (.cons (Mem.le.refl _) (Sub.nil _)))) ?_
          clear hm a; intro a hm
          refine h_take_off 26 [true, true, true, true, true, true, true, true, true, true, true, true, true, true, true, true, true, true, true, true, true, true, true, true, true, true, true, false, false, false, false, false, false, false, false].toArray rfl (by kernel_rfl) (by kernel_rfl) (by kernel_rfl) (fun _ _ _ _ h => h) rfl rfl rfl rfl (.inr rfl) rfl rfl hm (hS.sub (.cons (Mem.le.refl _) (.cons (Mem.le.refl _) (Sub.nil _)))) ?_
          clear hm a; intro a hm
          refine h_take_off 27 [true, true, true, true, true, true, true, true, true, true, true, true, true, true, true, true, true, true, true, true, true, true, true, true, true, true, true, true, false, false, false, false, false, false, false].toArray rfl (by kernel_rfl) (by kernel_rfl) (by kernel_rfl) (fun _ _ _ _ h => h) rfl rfl rfl rfl (.inr rfl) rfl rfl hm (hS.sub (.cons (Mem.le.refl _) (.cons (Mem.le.refl _) (Sub.nil _)))) ?_
          clear hm a; intro a hm
          refine h_take_off 28 [true, true, true, true, true, true, true, true, true, true, true, true, true, true, true, true, true, true, true, true, true, true, true, true, true, true, true, true, true, false, false, false, false, false, false].toArray rfl (by kernel_rfl) (by kernel_rfl) (by kernel_rfl) (fun _ _ _ _ h => h) rfl rfl rfl rfl (.inr rfl) rfl rfl hm (hS.sub (.cons (Mem.le.refl _) (.cons (Mem.le.refl _) (Sub.nil _)))) ?_
          clear hm a; intro a hm
          refine h_take_off 29 [true, true, true, true, true, true, true, true, true, true, true, true, true, true, true, true, true, true, true, true, true, true, true, true, true, true, true, true, true, true, false, false, false, false, false].toArray rfl (by kernel_rfl) (by kernel_rfl) (by kernel_rfl) (fun _ _ _ _ h => h) rfl rfl rfl rfl (.inr rfl) rfl rfl hm (hS.sub (.cons (Mem.le.refl _) (.cons (Mem.le.refl _) (Sub.nil _)))) ?_
          clear hm a; intro a hm
          refine h_take_off 30 [true, true, true, true, true, true, true, true, true, true, true, true, true, true, true, true, true, true, true, true, true, true, true, true, true, true, true, true, true, true, true, false, false, false, false].toArray rfl (by kernel_rfl) (by kernel_rfl) (by kernel_rfl) (fun _ _ _ _ h => h) rfl rfl rfl rfl (.inr rfl) rfl rfl hm (hS.sub (.cons (Mem.le.refl _) (.cons (Mem.le.refl _) (Sub.nil _)))) ?_
          clear hm a; intro a hm
          refine h_take_off 31 [true, true, true, true, true, true, true, true, true, true, true, true, true, true, true, true, true, true, true, true, true, true, true, true, true, true, true, true, true, true, true, true, false, false, false].toArray rfl (by kernel_rfl) (by kernel_rfl) (by kernel_rfl) (fun _ _ _ _ h => h) rfl rfl rfl rfl (.inr rfl) rfl rfl hm (hS.sub (.cons (Mem.le.refl _) (.cons (Mem.le.refl _) (Sub.nil _)))) ?_
          clear hm a; intro a hm
          refine h_take_off 32 [true, true, true, true, true, true, true, true, true, true, true, true, true, true, true, true, true, true, true, true, true, true, true, true, true, true, true, true, true, true, true, true, true, false, false].toArray rfl (by kernel_rfl) (by kernel_rfl) (by kernel_rfl) (fun _ _ _ _ h => h) rfl rfl rfl rfl (.inr rfl) rfl rfl hm (hS.sub (.cons (Mem.le.refl _) (.cons (Mem.le.refl _) (Sub.nil _)))) ?_
          clear hm a; intro a hm
          refine h_take_off 33 [true, true, true, true, true, true, true, true, true, true, true, true, true, true, true, true, true, true, true, true, true, true, true, true, true, true, true, true, true, true, true, true, true, true, false].toArray rfl (by kernel_rfl) (by kernel_rfl) (by kernel_rfl) (fun _ _ _ _ h => h) rfl rfl rfl rfl (.inl (congrArg Value.bool rfl)) rfl rfl hm (hS.sub (.cons (Mem.le.refl _) (.cons (Mem.le.refl _) (Sub.nil _)))) ?_
          clear hm a; intro a hm
          refine h_take 34 [true, true, true, true, true, true, true, true, true, true, true, true, true, true, true, true, true, true, true, true, true, true, true, true, true, true, true, true, true, true, true, true, true, true, true].toArray rfl (by kernel_rfl) (by kernel_rfl) (by kernel_rfl) (fun _ _ _ _ h => h) rfl rfl rfl rfl hm (hS.sub (.cons (Mem.le.refl _) (.cons (Mem.le.refl _) (Sub.nil _)))) (v := .bool false) (fun w hS => r_pick_f hm rfl rfl rfl) ?_
          clear hm a; intro a hm
          refine h_done (by kernel_rfl) ?_
          replace hm : Fr 130 a [(1, .int .i64 (mn (mx x1 1) 7)), (4, .int .i64 0), (5, .int .i64 0), (6, .int .i64 0), (7, .bool false), (8, .int .i64 x_8), (9, .int .i64 x_9), (10, .pointer (some ⟨g_2, 0, none⟩)), (13, .int .i64 x_54), (14, .int .i64 x_55), (114, .bool false)] := hm.keep [1, 4, 5, 6, 7, 8, 9, 10, 13, 14, 114]
          replace hS : Sep w0 w_67 [N_53, M_11] Z := hS
          replace hm : Fr 130 a [(1, .int .i64 (mn (mx x1 1) 7)), (4, .int .i64 0), (5, .int .i64 0), (6, .int .i64 0), (7, .bool false), (8, .int .i64 x_8), (9, .int .i64 x_9), (10, .pointer (some ⟨g_2, 0, none⟩)), (13, .int .i64 x_54), (14, .int .i64 x_55), (114, .bool false)] := hm.keep [1, 4, 5, 6, 7, 8, 9, 10, 13, 14, 114]
          exact x_then_n (hJ_j_65 false H _ _ ⟨N_53, hm, (Sep.sel hS [0, 1] (by decide)), (Mem.le.refl _)⟩)
      · rw [if_neg hc_68] at H
        refine h_take_off 7 [true, true, true, true, true, true, true, true, false, false, false, false, false, false, false, false, false, false, false, false, false, false, false, false, false, false, false, false, false, false, false, false, false, false, false].toArray rfl (by kernel_rfl) (by kernel_rfl) (by kernel_rfl) (fun _ _ _ _ h => h) rfl rfl rfl rfl (.inl (congrArg Value.bool (beq_eq_false_iff_ne.2 hc_68))) rfl rfl hm (hS.sub (.cons (Mem.le.refl _) (.cons (Mem.le.refl _) (Sub.nil _)))) ?_
        clear hm a; intro a hm
        refine h_take_off 8 [true, true, true, true, true, true, true, true, true, false, false, false, false, false, false, false, false, false, false, false, false, false, false, false, false, false, false, false, false, false, false, false, false, false, false].toArray rfl (by kernel_rfl) (by kernel_rfl) (by kernel_rfl) (fun _ _ _ _ h => h) rfl rfl rfl rfl (.inl (congrArg Value.bool (beq_eq_false_iff_ne.2 hc_68))) rfl rfl hm (hS.sub (.cons (Mem.le.refl _) (.cons (Mem.le.refl _) (Sub.nil _)))) ?_
        clear hm a; intro a hm
        refine h_take_off 9 [true, true, true, true, true, true, true, true, true, true, false, false, false, false, false, false, false, false, false, false, false, false, false, false, false, false, false, false, false, false, false, false, false, false, false].toArray rfl (by kernel_rfl) (by kernel_rfl) (by kernel_rfl) (fun _ _ _ _ h => h) rfl rfl rfl rfl (.inl (congrArg Value.bool (beq_eq_false_iff_ne.2 hc_68))) rfl rfl hm (hS.sub (.cons (Mem.le.refl _) (.cons (Mem.le.refl _) (Sub.nil _)))) ?_
        clear hm a; intro a hm
        refine h_take_off 10 [true, true, true, true, true, true, true, true, true, true, true, false, false, false, false, false, false, false, false, false, false, false, false, false, false, false, false, false, false, false, false, false, false, false, false].toArray rfl (by kernel_rfl) (by kernel_rfl) (by kernel_rfl) (fun _ _ _ _ h => h) rfl rfl rfl rfl (.inl (congrArg Value.bool (beq_eq_false_iff_ne.2 hc_68))) rfl rfl hm (hS.sub (.cons (Mem.le.refl _) (.cons (Mem.le.refl _) (Sub.nil _)))) ?_
        clear hm a; intro a hm
        refine h_take 11 [true, true, true, true, true, true, true, true, true, true, true, true, false, false, false, false, false, false, false, false, false, false, false, false, false, false, false, false, false, false, false, false, false, false, false].toArray rfl (by kernel_rfl) (by kernel_rfl) (by kernel_rfl) (fun _ _ _ _ h => h) rfl rfl rfl rfl hm (hS.sub (.cons (Mem.le.refl _) (.cons (Mem.le.refl _) (Sub.nil _)))) (v := .bool false) (fun w hS => r_pick_f hm rfl (beq_eq_false_iff_ne.2 hc_68) rfl) ?_
        clear hm a; intro a hm
        refine h_take 12 [true, true, true, true, true, true, true, true, true, true, true, true, true, false, false, false, false, false, false, false, false, false, false, false, false, false, false, false, false, false, false, false, false, false, false].toArray rfl (by kernel_rfl) (by kernel_rfl) (by kernel_rfl) (fun _ _ _ _ h => h) rfl rfl rfl rfl hm (hS.sub (.cons (Mem.le.refl _) (.cons (Mem.le.refl _) (Sub.nil _)))) (v := .bool false) (fun w hS => r_move hm rfl) ?_
        clear hm a; intro a hm
        refine h_take_off 13 [true, true, true, true, true, true, true, true, true, true, true, true, true, true, false, false, false, false, false, false, false, false, false, false, false, false, false, false, false, false, false, false, false, false, false].toArray rfl (by kernel_rfl) (by kernel_rfl) (by kernel_rfl) (fun _ _ _ _ h => h) rfl rfl rfl rfl (.inl (congrArg Value.bool rfl)) rfl rfl hm (hS.sub (.cons (Mem.le.refl _) (.cons (Mem.le.refl _) (Sub.nil _)))) ?_
        clear hm a; intro a hm
        refine h_take_off 14 [true, true, true, true, true, true, true, true, true, true, true, true, true, true, true, false, false, false, false, false, false, false, false, false, false, false, false, false, false, false, false, false, false, false, false].toArray rfl (by kernel_rfl) (by kernel_rfl) (by kernel_rfl) (fun _ _ _ _ h => h) rfl rfl rfl rfl (.inl (congrArg Value.bool rfl)) rfl rfl hm (hS.sub (.cons (Mem.le.refl _) (.cons (Mem.le.refl _) (Sub.nil _)))) ?_
        clear hm a; intro a hm
        refine h_take_off 15 [true, true, true, true, true, true, true, true, true, true, true, true, true, true, true, true, false, false, false, false, false, false, false, false, false, false, false, false, false, false, false, false, false, false, false].toArray rfl (by kernel_rfl) (by kernel_rfl) (by kernel_rfl) (fun _ _ _ _ h => h) rfl rfl rfl rfl (.inl (congrArg Value.bool rfl)) rfl rfl hm (hS.sub (.cons (Mem.le.refl _) (.cons (Mem.le.refl _) (Sub.nil _)))) ?_
        clear hm a; intro a hm
        refine h_take_off 16 [true, true, true, true, true, true, true, true, true, true, true, true, true, true, true, true, true, false, false, false, false, false, false, false, false, false, false, false, false, false, false, false, false, false, false].toArray rfl (by kernel_rfl) (by kernel_rfl) (by kernel_rfl) (fun _ _ _ _ h => h) rfl rfl rfl rfl (.inl (congrArg Value.bool rfl)) rfl rfl hm (hS.sub (.cons (Mem.le.refl _) (.cons (Mem.le.refl _) (Sub.nil _)))) ?_
        clear hm a; intro a hm
        refine h_take_off 17 [true, true, true, true, true, true, true, true, true, true, true, true, true, true, true, true, true, true, false, false, false, false, false, false, false, false, false, false, false, false, false, false, false, false, false].toArray rfl (by kernel_rfl) (by kernel_rfl) (by kernel_rfl) (fun _ _ _ _ h => h) rfl rfl rfl rfl (.inl (congrArg Value.bool rfl)) rfl rfl hm (hS.sub (.cons (Mem.le.refl _) (.cons (Mem.le.refl _) (Sub.nil _)))) ?_
        clear hm a; intro a hm
        refine h_take_off 18 [true, true, true, true, true, true, true, true, true, true, true, true, true, true, true, true, true, true, true, false, false, false, false, false, false, false, false, false, false, false, false, false, false, false, false].toArray rfl (by kernel_rfl) (by kernel_rfl) (by kernel_rfl) (fun _ _ _ _ h => h) rfl rfl rfl rfl (.inl (congrArg Value.bool rfl)) rfl rfl hm (hS.sub (.cons (Mem.le.refl _) (.cons (Mem.le.refl _) (Sub.nil _)))) ?_
        clear hm a; intro a hm
        refine h_take 19 [true, true, true, true, true, true, true, true, true, true, true, true, true, true, true, true, true, true, true, true, false, false, false, false, false, false, false, false, false, false, false, false, false, false, false].toArray rfl (by kernel_rfl) (by kernel_rfl) (by kernel_rfl) (fun _ _ _ _ h => h) rfl rfl rfl rfl hm (hS.sub (.cons (Mem.le.refl _) (.cons (Mem.le.refl _) (Sub.nil _)))) (v := .bool false) (fun w hS => r_pick_f hm rfl rfl rfl) ?_
        clear hm a; intro a hm
        refine h_take 20 [true, true, true, true, true, true, true, true, true, true, true, true, true, true, true, true, true, true, true, true, true, false, false, false, false, false, false, false, false, false, false, false, false, false, false].toArray rfl (by kernel_rfl) (by kernel_rfl) (by kernel_rfl) (fun _ _ _ _ h => h) rfl rfl rfl rfl hm (hS.sub (.cons (Mem.le.refl _) (.cons (Mem.le.refl _) (Sub.nil _)))) (v := .bool false) (fun w hS => r_move hm rfl) ?_
        clear hm a; intro a hm
        refine h_take_off 21 [true, true, true, true, true, true, true, true, true, true, true, true, true, true, true, true, true, true, true, true, true, true, false, false, false, false, false, false, false, false, false, false, false, false, false].toArray rfl (by kernel_rfl) (by kernel_rfl) (by kernel_rfl) (fun _ _ _ _ h => h) rfl rfl rfl rfl (.inl (congrArg Value.bool rfl)) rfl rfl hm (hS.sub (.cons (Mem.le.refl _) (.cons (Mem.le.refl _) (Sub.nil _)))) ?_
        clear hm a; intro a hm
        refine h_take_off 22 [true, true, true, true, true, true, true, true, true, true, true, true, true, true, true, true, true, true, true, true, true, true, true, false, false, false, false, false, false, false, false, false, false, false, false].toArray rfl (by kernel_rfl) (by kernel_rfl) (by kernel_rfl) (fun _ _ _ _ h => h) rfl rfl rfl rfl (.inl (congrArg Value.bool rfl)) rfl rfl hm (hS.sub (.cons (Mem.le.refl _) (.cons (Mem.le.refl _) (Sub.nil _)))) ?_
        clear hm a; intro a hm
        refine h_take_off 23 [true, true, true, true, true, true, true, true, true, true, true, true, true, true, true, true, true, true, true, true, true, true, true, true, false, false, false, false, false, false, false, false, false, false, false].toArray rfl (by kernel_rfl) (by kernel_rfl) (by kernel_rfl) (fun _ _ _ _ h => h) rfl rfl rfl rfl (.inl (congrArg Value.bool rfl)) rfl rfl hm (hS.sub (.cons (Mem.le.refl _) (.cons (Mem.le.refl _) (Sub.nil _)))) ?_
        clear hm a; intro a hm
        refine h_take_off 24 [true, true, true, true, true, true, true, true, true, true, true, true, true, true, true, true, true, true, true, true, true, true, true, true, true, false, false, false, false, false, false, false, false, false, false].toArray rfl (by kernel_rfl) (by kernel_rfl) (by kernel_rfl) (fun _ _ _ _ h => h) rfl rfl rfl rfl (.inr rfl) rfl rfl hm (hS.sub (.cons (Mem.le.refl _) (.cons (Mem.le.refl _) (Sub.nil _)))) ?_
        clear hm a; intro a hm
        refine h_take_off 25 [true, true, true, true, true, true, true, true, true, true, true, true, true, true, true, true, true, true, true, true, true, true, true, true, true, true, false, false, false, false, false, false, false, false, false].toArray rfl (by kernel_rfl) (by kernel_rfl) (by kernel_rfl) (fun _ _ _ _ h => h) rfl rfl rfl rfl (.inr rfl) rfl rfl hm (hS.sub (.cons (Mem.le.refl _) (.cons (Mem.le.refl _) (Sub.nil _)))) ?_
        clear hm a; intro a hm
        refine h_take_off 26 [true, true, true, true, true, true, true, true, true, true, true, true, true, true, true, true, true, true, true, true, true, true, true, true, true, true, true, false, false, false, false, false, false, false, false].toArray rfl (by kernel_rfl) (by kernel_rfl) (by kernel_rfl) (fun _ _ _ _ h => h) rfl rfl rfl rfl (.inr rfl) rfl rfl hm (hS.sub (.cons (Mem.le.refl _) (.cons (Mem.le.refl _) (Sub.nil _)))) ?_
        clear hm a; intro a hm
        refine h_take_off 27 [true, true, true, true, true, true, true, true, true, true, true, true, true, true, true, true, true, true, true, true, true, true, true, true, true, true, true, true, false, false, false, false, false, false, false].toArray rfl (by kernel_rfl) (by kernel_rfl) (by kernel_rfl) (fun _ _ _ _ h => h) rfl rfl rfl rfl (.inr rfl) rfl rfl hm (hS.sub (.cons (Mem.le.refl _) (.cons (Mem.le.refl _) (Sub.nil _)))) ?_
        clear hm a; intro a hm
        refine h_take_off 28 [true, true, true, true, true, true, true, true, true, true, true, true, true, true, true, true, true, true, true, true, true, true, true, true, true, true, true, true, true, false, false, false, false, false, false].toArray rfl (by kernel_rfl) (by kernel_rfl) (by kernel_rfl) (fun _ _ _ _ h => h) rfl rfl rfl rfl (.inr rfl) rfl rfl hm (hS.sub (.cons (Mem.le.refl _) (.cons (Mem.le.refl _) (Sub.nil _)))) ?_
        clear hm a; intro a hm
        refine h_take_off 29 [true, true, true, true, true, true, true, true, true, true, true, true, true, true, true, true, true, true, true, true, true, true, true, true, true, true, true, true, true, true, false, false, false, false, false].toArray rfl (by kernel_rfl) (by kernel_rfl) (by kernel_rfl) (fun _ _ _ _ h => h) rfl rfl rfl rfl (.inr rfl) rfl rfl hm (hS.sub (.cons (Mem.le.refl _) (.cons (Mem.le.refl _) (Sub.nil _)))) ?_
        clear hm a; intro a hm
        refine h_take_off 30 [true, true, true, true, true, true, true, true, true, true, true, true, true, true, true, true, true, true, true, true, true, true, true, true, true, true, true, true, true, true, true, false, false, false, false].toArray rfl (by kernel_rfl) (by kernel_rfl) (by kernel_rfl) (fun _ _ _ _ h => h) rfl rfl rfl rfl (.inr rfl) rfl rfl hm (hS.sub (.cons (Mem.le.refl _) (.cons (Mem.le.refl _) (Sub.nil _)))) ?_
        clear hm a; intro a hm
        refine h_take_off 31 [true, true, true, true, true, true, true, true, true, true, true, true, true, true, true, true, true, true, true, true, true, true, true, true, true, true, true, true, true, true, true, true, false, false, false].toArray rfl (by kernel_rfl) (by kernel_rfl) (by kernel_rfl) (fun _ _ _ _ h => h) rfl rfl rfl rfl (.inr rfl) rfl rfl hm (hS.sub (.cons (Mem.le.refl _) (.cons (Mem.le.refl _) (Sub.nil _)))) ?_
        clear hm a; intro a hm
        refine h_take_off 32 [true, true, true, true, true, true, true, true, true, true, true, true, true, true, true, true, true, true, true, true, true, true, true, true, true, true, true, true, true, true, true, true, true, false, false].toArray rfl (by kernel_rfl) (by kernel_rfl) (by kernel_rfl) (fun _ _ _ _ h => h) rfl rfl rfl rfl (.inr rfl) rfl rfl hm (hS.sub (.cons (Mem.le.refl _) (.cons (Mem.le.refl _) (Sub.nil _)))) ?_
        clear hm a; intro a hm
        refine h_take_off 33 [true, true, true, true, true, true, true, true, true, true, true, true, true, true, true, true, true, true, true, true, true, true, true, true, true, true, true, true, true, true, true, true, true, true, false].toArray rfl (by kernel_rfl) (by kernel_rfl) (by kernel_rfl) (fun _ _ _ _ h => h) rfl rfl rfl rfl (.inl (congrArg Value.bool rfl)) rfl rfl hm (hS.sub (.cons (Mem.le.refl _) (.cons (Mem.le.refl _) (Sub.nil _)))) ?_
        clear hm a; intro a hm
        refine h_take 34 [true, true, true, true, true, true, true, true, true, true, true, true, true, true, true, true, true, true, true, true, true, true, true, true, true, true, true, true, true, true, true, true, true, true, true].toArray rfl (by kernel_rfl) (by kernel_rfl) (by kernel_rfl) (fun _ _ _ _ h => h) rfl rfl rfl rfl hm (hS.sub (.cons (Mem.le.refl _) (.cons (Mem.le.refl _) (Sub.nil _)))) (v := .bool false) (fun w hS => r_pick_f hm rfl rfl rfl) ?_
        clear hm a; intro a hm
        refine h_done (by kernel_rfl) ?_
        replace hm : Fr 130 a [(1, .int .i64 (mn (mx x1 1) 7)), (4, .int .i64 0), (5, .int .i64 0), (6, .int .i64 0), (7, .bool false), (8, .int .i64 x_8), (9, .int .i64 x_9), (10, .pointer (some ⟨g_2, 0, none⟩)), (13, .int .i64 x_54), (14, .int .i64 x_55), (114, .bool false)] := hm.keep [1, 4, 5, 6, 7, 8, 9, 10, 13, 14, 114]
        replace hS : Sep w0 w_67 [N_53, M_11] Z := hS
        replace hm : Fr 130 a [(1, .int .i64 (mn (mx x1 1) 7)), (4, .int .i64 0), (5, .int .i64 0), (6, .int .i64 0), (7, .bool false), (8, .int .i64 x_8), (9, .int .i64 x_9), (10, .pointer (some ⟨g_2, 0, none⟩)), (13, .int .i64 x_54), (14, .int .i64 x_55), (114, .bool false)] := hm.keep [1, 4, 5, 6, 7, 8, 9, 10, 13, 14, 114]
        exact x_then_n (hJ_j_65 false H _ _ ⟨N_53, hm, (Sep.sel hS [0, 1] (by decide)), (Mem.le.refl _)⟩)
    · rw [if_neg hc_59] at H
      refine c_cond_f hm rfl (decide_eq_false hc_59) ?_
      refine wp_exit (x_then_x (x_then_x (x_block_t ?_)))
      replace hS : Sep w0 w_56 [N_53, M_11] Z := hS
      replace hm : Fr 130 a [(1, .int .i64 (mn (mx x1 1) 7)), (4, .int .i64 0), (5, .int .i64 0), (6, .int .i64 0), (7, .bool false), (8, .int .i64 x_8), (10, .pointer (some ⟨g_2, 0, none⟩)), (13, .int .i64 x_54)] := hm.keep [1, 4, 5, 6, 7, 8, 10, 13]
      exact x_then_n (hJ_j_21 x_54 H _ _ ⟨N_53, hm, (Sep.sel hS [0, 1] (by decide)), le_53⟩)
  clear hKJ_6
  replace hS : Sep w0 w_1 [Mem.no, M_3] Z := hS
  replace hm : Fr 130 a [(0, p0_0), (1, .int .i64 (mn (mx x1 1) 7)), (4, .int .i64 0), (5, .int .i64 0), (6, .int .i64 0), (7, .bool false), (8, .int .i64 0), (9, .int .i64 0), (10, .pointer (some ⟨g_2, 0, none⟩)), (11, .int .i64 0)] := hm.keep [0, 1, 4, 5, 6, 7, 8, 9, 10, 11]
  refine c_block ?_
  refine c_loop (fun k_149 a w_149 => ∃ (x_141 : Int) (x_142 : Int) (x_143 : List api_Msg) (x_148 : Int) (N_140 : Mem) (M_144 : Mem), hocketref11_Choose.L2 K x0 x1 (fun v => hocketref11_Choose.J1 K x1 v.1 v.2.1 v.2.2) k_149 (x_141, x_142, x_143, x_148) = some r ∧ Fr 130 a [(0, p0_0), (1, .int .i64 (mn (mx x1 1) 7)), (4, .int .i64 0), (5, .int .i64 0), (6, .int .i64 0), (7, .bool false), (8, .int .i64 x_141), (9, .int .i64 x_142), (10, .pointer (some ⟨g_2, 0, none⟩)), (11, .int .i64 x_148)] ∧ Sep w0 w_149 [N_140, M_144] Z ∧ Mem.no.le N_140 ∧ Own k_api_Msg 74 M_144 (A.un N_140) (.slice (some ⟨g_2, 0, none⟩) 7 7) x_143) K ⟨0, 0, (List.replicate 7 (⟨0, 0, 0, 0, 0, 0, false, 0, 0, 0, 0, ([] : List UInt8), 0, 0, ([] : List Int), ([] : List Int), 0, (⟨0, 0, (⟨0, 0, ([] : List UInt8), ([] : List UInt8), ([] : List UInt8)⟩ : api_Cmd)⟩ : api_Entry)⟩ : api_Msg)), 0, Mem.no, M_3, H, hm, (Sep.sel hS [0, 1] (by decide)), (Mem.le.refl _), (ho_4.mono ((Mem.le.refl _).trans (hS.sndA hA)))⟩ (fun a w h => by obtain ⟨_, _, _, _, _, _, H, _⟩ := h; cases (show (none : Option (Int × Int × Int × Bool)) = some r from H)) ?_
  clear hm hS a H
  rintro k_149 a w_149 KL_149 hKL_149 ⟨x_141, x_142, x_143, x_148, N_140, M_144, H, hm, hS, le_140, ho_147⟩
  replace H : hocketref11_Choose.B2 K x0 x1 (fun v => hocketref11_Choose.J1 K x1 v.1 v.2.1 v.2.2) (hocketref11_Choose.L2 K x0 x1 (fun v => hocketref11_Choose.J1 K x1 v.1 v.2.1 v.2.2) k_149) x_141 x_142 x_143 x_148 = some r := H
  unfold hocketref11_Choose.B2 at H
  refine c_seq fun KJ_151 hKJ_151 => ?_
  refine wp_seq ?_
  refine wp_region_lit ?_
  refine s_move hm rfl rfl ?_
  clear hm a; intro a hm
  refine s_move hm rfl rfl ?_
  clear hm a; intro a hm
  refine s_len hm rfl Try.underlying31 rfl hp0_0 ?_
  clear hm a; intro a hm
  refine s_cmp (b := decide (x_148 < (x0.length : Int))) hm rfl rfl rfl (.inr (.inr (.inl ⟨rfl, rfl⟩))) ?_
  clear hm a; intro a hm
  refine wpList_nil ?_
  replace hm : Fr 130 a [(0, p0_0), (1, .int .i64 (mn (mx x1 1) 7)), (4, .int .i64 0), (5, .int .i64 0), (6, .int .i64 0), (7, .bool false), (8, .int .i64 x_141), (9, .int .i64 x_142), (10, .pointer (some ⟨g_2, 0, none⟩)), (11, .int .i64 x_148), (21, .bool (decide (x_148 < (x0.length : Int))))] := hm.keep [0, 1, 4, 5, 6, 7, 8, 9, 10, 11, 21]
  refine x_then_n ?_
  by_cases hc_152 : x_148 < (x0.length : Int)
  · rw [if_pos hc_152] at H
    refine c_cond_t hm rfl (decide_eq_true hc_152) ?_
    refine wp_skip ?_
    refine x_then_n (hKJ_151 _ _ ?_)
    refine wp_seq ?_
    refine c_block ?_
    refine wp_seq ?_
    refine wp_region_lit ?_
    refine s_move hm rfl rfl ?_
    clear hm a; intro a hm
    refine s_move hm rfl rfl ?_
    clear hm a; intro a hm
    obtain ⟨t_153, et_153, H⟩ := Option.bind_eq_some_iff.1 H
    refine v_index hm rfl Try.underlying31 ti29 rfl rfl rfl hp0_0 (hA.trans hS.old) et_153 ?_
    intro ad_154 cs_155 hk_156 hc_157
    obtain ⟨v_158, v_160, v_162, v_164, v_166, v_168, rfl, hr_159, hr_161, hr_163, hr_165, hr_167, hr_169⟩ := k_api_Msg.open' hk_156
    clear hm a; intro a hm
    refine s_load hm rfl rfl (el_agg (o := 0) (us := [.int .i64 t_153.Kind, .int .i64 t_153.From, .int .i64 t_153.To, .int .i64 t_153.View, .int .i64 t_153.Inst, .int .i64 t_153.Len, .bool t_153.Has, .int .i64 t_153.Members, .int .i64 t_153.Source, .int .i64 t_153.At, .int .i64 t_153.Total, v_158, .int .i64 t_153.Hop, .int .i64 t_153.Seq, v_160, v_162, .int .i64 t_153.Index, .int .i64 t_153.Entry.Sess, .int .i64 t_153.Entry.Seq, .int .i64 t_153.Entry.Cmd.Kind, .int .i64 t_153.Entry.Cmd.Who, v_164, v_166, v_168]) hc_157 Try.underlying29 rfl ti29 rfl rfl) ?_
    clear hm a; intro a hm
    refine v_alloc hm rfl ti29 hS ?_
    intro w_170 g_171 hS'
    clear hm a; intro a hm
    replace hS : Sep w0 w_170 [N_140, M_144, Mem.one g_171 (.cells ([.int .i64 0, .int .i64 0, .int .i64 0, .int .i64 0, .int .i64 0, .int .i64 0, .bool false, .int .i64 0, .int .i64 0, .int .i64 0, .int .i64 0, .slice none 0 0, .int .i64 0, .int .i64 0, .slice none 0 0, .slice none 0 0, .int .i64 0, .int .i64 0, .int .i64 0, .int .i64 0, .int .i64 0, .slice none 0 0, .slice none 0 0, .slice none 0 0] : List Value).toArray 29 (0, 0))] Z := hS'
    clear hS'
    obtain ⟨w_172, hs', hS'⟩ := hS.store (P := Try.prog) (p := 2) (o := 0) (t := 29) (v := .agg ([.int .i64 t_153.Kind, .int .i64 t_153.From, .int .i64 t_153.To, .int .i64 t_153.View, .int .i64 t_153.Inst, .int .i64 t_153.Len, .bool t_153.Has, .int .i64 t_153.Members, .int .i64 t_153.Source, .int .i64 t_153.At, .int .i64 t_153.Total, v_158, .int .i64 t_153.Hop, .int .i64 t_153.Seq, v_160, v_162, .int .i64 t_153.Index, .int .i64 t_153.Entry.Sess, .int .i64 t_153.Entry.Seq, .int .i64 t_153.Entry.Cmd.Kind, .int .i64 t_153.Entry.Cmd.Who, v_164, v_166, v_168] : List Value).toArray) (vs := [.int .i64 t_153.Kind, .int .i64 t_153.From, .int .i64 t_153.To, .int .i64 t_153.View, .int .i64 t_153.Inst, .int .i64 t_153.Len, .bool t_153.Has, .int .i64 t_153.Members, .int .i64 t_153.Source, .int .i64 t_153.At, .int .i64 t_153.Total, v_158, .int .i64 t_153.Hop, .int .i64 t_153.Seq, v_160, v_162, .int .i64 t_153.Index, .int .i64 t_153.Entry.Sess, .int .i64 t_153.Entry.Seq, .int .i64 t_153.Entry.Cmd.Kind, .int .i64 t_153.Entry.Cmd.Who, v_164, v_166, v_168]) rfl ti29 rfl rfl rfl (by intro u hu; simp only [List.mem_cons, List.not_mem_nil, or_false] at hu; rcases hu with rfl | rfl | rfl | rfl | rfl | rfl | rfl | rfl | rfl | rfl | rfl | rfl | rfl | rfl | rfl | rfl | rfl | rfl | rfl | rfl | rfl | rfl | rfl | rfl <;> first | rfl | exact hr_159.one | exact hr_161.one | exact hr_163.one | exact hr_165.one | exact hr_167.one | exact hr_169.one)
    refine s_store hm rfl rfl hs' ?_
    replace hS : Sep w0 w_172 [N_140, M_144, Mem.one g_171 (.cells ([.int .i64 t_153.Kind, .int .i64 t_153.From, .int .i64 t_153.To, .int .i64 t_153.View, .int .i64 t_153.Inst, .int .i64 t_153.Len, .bool t_153.Has, .int .i64 t_153.Members, .int .i64 t_153.Source, .int .i64 t_153.At, .int .i64 t_153.Total, v_158, .int .i64 t_153.Hop, .int .i64 t_153.Seq, v_160, v_162, .int .i64 t_153.Index, .int .i64 t_153.Entry.Sess, .int .i64 t_153.Entry.Seq, .int .i64 t_153.Entry.Cmd.Kind, .int .i64 t_153.Entry.Cmd.Who, v_164, v_166, v_168] : List Value).toArray 29 (0, 0))] Z := hS'
    clear hs' hS'
    refine wpList_nil ?_
    replace hm : Fr 130 a [(0, p0_0), (1, .int .i64 (mn (mx x1 1) 7)), (4, .int .i64 0), (5, .int .i64 0), (6, .int .i64 0), (7, .bool false), (8, .int .i64 x_141), (9, .int .i64 x_142), (10, .pointer (some ⟨g_2, 0, none⟩)), (11, .int .i64 x_148), (12, .pointer (some ⟨g_171, 0, none⟩))] := hm.keep [0, 1, 4, 5, 6, 7, 8, 9, 10, 11, 12]
    refine x_then_n ?_
    refine c_seq fun KJ_173 hKJ_173 => ?_
    refine c_seq fun KJ_174 hKJ_174 => ?_
    have hJ_j_178 : ∀ (x_176 : Bool), hocketref11_Choose.J5 K (hocketref11_Choose.L2 K x0 x1 (fun v => hocketref11_Choose.J1 K x1 v.1 v.2.1 v.2.2) k_149) x_141 x_142 x_143 x_148 t_153 x_176 = some r → ∀ (a : Act) (w_177 : World), (∃ (N_175 : Mem), Fr 130 a [(0, p0_0), (1, .int .i64 (mn (mx x1 1) 7)), (4, .int .i64 0), (5, .int .i64 0), (6, .int .i64 0), (7, .bool false), (8, .int .i64 x_141), (9, .int .i64 x_142), (10, .pointer (some ⟨g_2, 0, none⟩)), (11, .int .i64 x_148), (12, .pointer (some ⟨g_171, 0, none⟩)), (50, .bool x_176)] ∧ Sep w0 w_177 [N_175, M_144, Mem.one g_171 (.cells ([.int .i64 t_153.Kind, .int .i64 t_153.From, .int .i64 t_153.To, .int .i64 t_153.View, .int .i64 t_153.Inst, .int .i64 t_153.Len, .bool t_153.Has, .int .i64 t_153.Members, .int .i64 t_153.Source, .int .i64 t_153.At, .int .i64 t_153.Total, v_158, .int .i64 t_153.Hop, .int .i64 t_153.Seq, v_160, v_162, .int .i64 t_153.Index, .int .i64 t_153.Entry.Sess, .int .i64 t_153.Entry.Seq, .int .i64 t_153.Entry.Cmd.Kind, .int .i64 t_153.Entry.Cmd.Who, v_164, v_166, v_168] : List Value).toArray 29 (0, 0))] Z ∧ N_140.le N_175) → KJ_174 a w_177 := by
      clear H hm hS a
      rintro x_176 H a w_177 ⟨N_175, hm, hS, le_175⟩
      unfold hocketref11_Choose.J5 at H
      refine hKJ_174 _ _ ?_
      by_cases hc_179 : x_176 = true
      · rw [if_pos hc_179] at H
        refine c_cond_t hm rfl hc_179 ?_
        refine wp_exit (x_then_x (x_block_t ?_))
        refine x_then_n ?_
        refine wp_region_lit ?_
        refine s_move hm rfl rfl ?_
        clear hm a; intro a hm
        refine s_arith (r := w64 (x_148 + 1)) hm rfl rfl rfl (.inl ⟨rfl, rfl⟩) ?_
        clear hm a; intro a hm
        refine s_assign hm rfl rfl ?_
        clear hm a; intro a hm
        refine wpList_nil ?_
        replace hm : Fr 130 a [(0, p0_0), (1, .int .i64 (mn (mx x1 1) 7)), (4, .int .i64 0), (5, .int .i64 0), (6, .int .i64 0), (7, .bool false), (8, .int .i64 x_141), (9, .int .i64 x_142), (10, .pointer (some ⟨g_2, 0, none⟩)), (11, .int .i64 (w64 (x_148 + 1)))] := hm.keep [0, 1, 4, 5, 6, 7, 8, 9, 10, 11]
        refine x_then_n (hKL_149 _ _ ?_)
        replace hS : Sep w0 w_177 [N_175, M_144, Mem.one g_171 (.cells ([.int .i64 t_153.Kind, .int .i64 t_153.From, .int .i64 t_153.To, .int .i64 t_153.View, .int .i64 t_153.Inst, .int .i64 t_153.Len, .bool t_153.Has, .int .i64 t_153.Members, .int .i64 t_153.Source, .int .i64 t_153.At, .int .i64 t_153.Total, v_158, .int .i64 t_153.Hop, .int .i64 t_153.Seq, v_160, v_162, .int .i64 t_153.Index, .int .i64 t_153.Entry.Sess, .int .i64 t_153.Entry.Seq, .int .i64 t_153.Entry.Cmd.Kind, .int .i64 t_153.Entry.Cmd.Who, v_164, v_166, v_168] : List Value).toArray 29 (0, 0))] Z := hS
        replace hm : Fr 130 a [(0, p0_0), (1, .int .i64 (mn (mx x1 1) 7)), (4, .int .i64 0), (5, .int .i64 0), (6, .int .i64 0), (7, .bool false), (8, .int .i64 x_141), (9, .int .i64 x_142), (10, .pointer (some ⟨g_2, 0, none⟩)), (11, .int .i64 (w64 (x_148 + 1)))] := hm.keep [0, 1, 4, 5, 6, 7, 8, 9, 10, 11]
        exact ⟨x_141, x_142, x_143, w64 (x_148 + 1), N_175, M_144, H, hm, (Sep.sel hS [0, 1] (by decide)), (le_140.trans le_175), (ho_147.mono (Mem.un_left le_175))⟩
      · rw [if_neg hc_179] at H
        refine c_cond_f hm rfl (Bool.eq_false_iff.2 hc_179) ?_
        refine wp_skip ?_
        refine x_then_n (hKJ_173 _ _ ?_)
        refine wp_seq ?_
        refine wp_region_lit ?_
        refine s_move hm rfl rfl ?_
        clear hm a; intro a hm
        refine s_fieldAddr hm rfl Try.underlying29 rfl ti3 rfl rfl ?_
        clear hm a; intro a hm
        refine s_load hm rfl rfl (hS.load_one (p := 2) rfl Try.underlying3 rfl rfl) ?_
        clear hm a; intro a hm
        refine s_conv (wu64 t_153.From) hm rfl Try.underlying3 Try.underlying38 rfl rfl ?_
        clear hm a; intro a hm
        refine s_shift (r := shl .i64 1 (wu64 t_153.From)) hm rfl rfl rfl (wu64_nn _) (.inl ⟨rfl, rfl⟩) ?_
        clear hm a; intro a hm
        refine s_bits (i := x_141) (j := shl .i64 1 (wu64 t_153.From)) (r := bor .i64 x_141 (shl .i64 1 (wu64 t_153.From))) hm rfl rfl rfl (.inr (.inl ⟨rfl, rfl⟩)) ?_
        clear hm a; intro a hm
        refine s_assign hm rfl rfl ?_
        clear hm a; intro a hm
        refine wpList_nil ?_
        replace hm : Fr 130 a [(0, p0_0), (1, .int .i64 (mn (mx x1 1) 7)), (4, .int .i64 0), (5, .int .i64 0), (6, .int .i64 0), (7, .bool false), (8, .int .i64 (bor .i64 x_141 (shl .i64 1 (wu64 t_153.From)))), (9, .int .i64 x_142), (10, .pointer (some ⟨g_2, 0, none⟩)), (11, .int .i64 x_148), (12, .pointer (some ⟨g_171, 0, none⟩))] := hm.keep [0, 1, 4, 5, 6, 7, 8, 9, 10, 11, 12]
        refine x_then_n ?_
        refine c_seq fun KJ_180 hKJ_180 => ?_
        refine c_seq fun KJ_181 hKJ_181 => ?_
        have hJ_j_185 : ∀ (x_183 : Bool), hocketref11_Choose.J6 K x_143 t_153 (hocketref11_Choose.L2 K x0 x1 (fun v => hocketref11_Choose.J1 K x1 v.1 v.2.1 v.2.2) k_149) x_141 x_148 x_142 x_183 = some r → ∀ (a : Act) (w_184 : World), (∃ (N_182 : Mem), Fr 130 a [(0, p0_0), (1, .int .i64 (mn (mx x1 1) 7)), (4, .int .i64 0), (5, .int .i64 0), (6, .int .i64 0), (7, .bool false), (8, .int .i64 (bor .i64 x_141 (shl .i64 1 (wu64 t_153.From)))), (9, .int .i64 x_142), (10, .pointer (some ⟨g_2, 0, none⟩)), (11, .int .i64 x_148), (12, .pointer (some ⟨g_171, 0, none⟩)), (68, .bool x_183)] ∧ Sep w0 w_184 [N_182, M_144, Mem.one g_171 (.cells ([.int .i64 t_153.Kind, .int .i64 t_153.From, .int .i64 t_153.To, .int .i64 t_153.View, .int .i64 t_153.Inst, .int .i64 t_153.Len, .bool t_153.Has, .int .i64 t_153.Members, .int .i64 t_153.Source, .int .i64 t_153.At, .int .i64 t_153.Total, v_158, .int .i64 t_153.Hop, .int .i64 t_153.Seq, v_160, v_162, .int .i64 t_153.Index, .int .i64 t_153.Entry.Sess, .int .i64 t_153.Entry.Seq, .int .i64 t_153.Entry.Cmd.Kind, .int .i64 t_153.Entry.Cmd.Who, v_164, v_166, v_168] : List Value).toArray 29 (0, 0))] Z ∧ N_175.le N_182) → KJ_181 a w_184 := by
          clear H hm hS a
          rintro x_183 H a w_184 ⟨N_182, hm, hS, le_182⟩
          unfold hocketref11_Choose.J6 at H
          refine hKJ_181 _ _ ?_
          have hJ_j_189 : ∀ (x_187 : Int), hocketref11_Choose.J7 K x_143 t_153 (hocketref11_Choose.L2 K x0 x1 (fun v => hocketref11_Choose.J1 K x1 v.1 v.2.1 v.2.2) k_149) x_141 x_148 x_187 = some r → ∀ (a : Act) (w_188 : World), (∃ (N_186 : Mem), Fr 130 a [(0, p0_0), (1, .int .i64 (mn (mx x1 1) 7)), (4, .int .i64 0), (5, .int .i64 0), (6, .int .i64 0), (7, .bool false), (8, .int .i64 (bor .i64 x_141 (shl .i64 1 (wu64 t_153.From)))), (9, .int .i64 x_187), (10, .pointer (some ⟨g_2, 0, none⟩)), (11, .int .i64 x_148), (12, .pointer (some ⟨g_171, 0, none⟩))] ∧ Sep w0 w_188 [N_186, M_144, Mem.one g_171 (.cells ([.int .i64 t_153.Kind, .int .i64 t_153.From, .int .i64 t_153.To, .int .i64 t_153.View, .int .i64 t_153.Inst, .int .i64 t_153.Len, .bool t_153.Has, .int .i64 t_153.Members, .int .i64 t_153.Source, .int .i64 t_153.At, .int .i64 t_153.Total, v_158, .int .i64 t_153.Hop, .int .i64 t_153.Seq, v_160, v_162, .int .i64 t_153.Index, .int .i64 t_153.Entry.Sess, .int .i64 t_153.Entry.Seq, .int .i64 t_153.Entry.Cmd.Kind, .int .i64 t_153.Entry.Cmd.Who, v_164, v_166, v_168] : List Value).toArray 29 (0, 0))] Z ∧ N_182.le N_186) → KJ_180 a w_188 := by
            clear H hm hS a
            rintro x_187 H a w_188 ⟨N_186, hm, hS, le_186⟩
            unfold hocketref11_Choose.J7 at H
            refine hKJ_180 _ _ ?_
            refine wp_region_lit ?_
            refine s_fieldAddr hm rfl Try.underlying29 rfl ti3 rfl rfl ?_
            clear hm a; intro a hm
            refine s_load hm rfl rfl (hS.load_one (p := 2) rfl Try.underlying3 rfl rfl) ?_
            clear hm a; intro a hm
            refine s_load hm rfl rfl (hS.load_agg (p := 2) (us := [.int .i64 t_153.Kind, .int .i64 t_153.From, .int .i64 t_153.To, .int .i64 t_153.View, .int .i64 t_153.Inst, .int .i64 t_153.Len, .bool t_153.Has, .int .i64 t_153.Members, .int .i64 t_153.Source, .int .i64 t_153.At, .int .i64 t_153.Total, v_158, .int .i64 t_153.Hop, .int .i64 t_153.Seq, v_160, v_162, .int .i64 t_153.Index, .int .i64 t_153.Entry.Sess, .int .i64 t_153.Entry.Seq, .int .i64 t_153.Entry.Cmd.Kind, .int .i64 t_153.Entry.Cmd.Who, v_164, v_166, v_168]) rfl Try.underlying29 rfl ti29 rfl rfl) ?_
            clear hm a; intro a hm
            obtain ⟨t_190, et_190, H⟩ := Option.bind_eq_some_iff.1 H
            refine s_indexArr hm rfl Try.underlying74 ti29 rfl rfl rfl ho_147 et_190 ?_
            intro cur_192 hM_193
            clear hm a; intro a hm
            obtain ⟨w_194, M_195, hs', hS', ho_196⟩ := Own.stored (P := Try.prog) (p := 1) (t := 29) (o := 0) (nv := .agg ([.int .i64 t_153.Kind, .int .i64 t_153.From, .int .i64 t_153.To, .int .i64 t_153.View, .int .i64 t_153.Inst, .int .i64 t_153.Len, .bool t_153.Has, .int .i64 t_153.Members, .int .i64 t_153.Source, .int .i64 t_153.At, .int .i64 t_153.Total, v_158, .int .i64 t_153.Hop, .int .i64 t_153.Seq, v_160, v_162, .int .i64 t_153.Index, .int .i64 t_153.Entry.Sess, .int .i64 t_153.Entry.Seq, .int .i64 t_153.Entry.Cmd.Kind, .int .i64 t_153.Entry.Cmd.Who, v_164, v_166, v_168] : List Value).toArray) (vs := [.int .i64 t_153.Kind, .int .i64 t_153.From, .int .i64 t_153.To, .int .i64 t_153.View, .int .i64 t_153.Inst, .int .i64 t_153.Len, .bool t_153.Has, .int .i64 t_153.Members, .int .i64 t_153.Source, .int .i64 t_153.At, .int .i64 t_153.Total, v_158, .int .i64 t_153.Hop, .int .i64 t_153.Seq, v_160, v_162, .int .i64 t_153.Index, .int .i64 t_153.Entry.Sess, .int .i64 t_153.Entry.Seq, .int .i64 t_153.Entry.Cmd.Kind, .int .i64 t_153.Entry.Cmd.Who, v_164, v_166, v_168]) (u' := t_153) hS rfl (ho_147.mono (Mem.un_left (le_175.trans (le_182.trans le_186)))) hM_193 et_190 ti29 rfl rfl rfl (by intro u hu; simp only [List.mem_cons, List.not_mem_nil, or_false] at hu; rcases hu with rfl | rfl | rfl | rfl | rfl | rfl | rfl | rfl | rfl | rfl | rfl | rfl | rfl | rfl | rfl | rfl | rfl | rfl | rfl | rfl | rfl | rfl | rfl | rfl <;> first | rfl | exact hr_159.one | exact hr_161.one | exact hr_163.one | exact hr_165.one | exact hr_167.one | exact hr_169.one) (by intro cs hk; obtain ⟨v_197, v_198, v_199, v_200, v_201, v_202, rfl, hr_203, hr_204, hr_205, hr_206, hr_207, hr_208⟩ := k_api_Msg.open' hk; exact k_api_Msg.mk' (hr_159.mono (Mem.le_un _ _)) (hr_161.mono (Mem.le_un _ _)) (hr_163.mono (Mem.le_un _ _)) (hr_165.mono (Mem.le_un _ _)) (hr_167.mono (Mem.le_un _ _)) (hr_169.mono (Mem.le_un _ _)))
            refine s_store hm rfl rfl hs' ?_
            replace hS : Sep w0 w_194 [N_186, M_195, Mem.one g_171 (.cells ([.int .i64 t_153.Kind, .int .i64 t_153.From, .int .i64 t_153.To, .int .i64 t_153.View, .int .i64 t_153.Inst, .int .i64 t_153.Len, .bool t_153.Has, .int .i64 t_153.Members, .int .i64 t_153.Source, .int .i64 t_153.At, .int .i64 t_153.Total, v_158, .int .i64 t_153.Hop, .int .i64 t_153.Seq, v_160, v_162, .int .i64 t_153.Index, .int .i64 t_153.Entry.Sess, .int .i64 t_153.Entry.Seq, .int .i64 t_153.Entry.Cmd.Kind, .int .i64 t_153.Entry.Cmd.Who, v_164, v_166, v_168] : List Value).toArray 29 (0, 0))] Z := hS'
            clear hs' hS'
            refine wpList_nil ?_
            replace hm : Fr 130 a [(0, p0_0), (1, .int .i64 (mn (mx x1 1) 7)), (4, .int .i64 0), (5, .int .i64 0), (6, .int .i64 0), (7, .bool false), (8, .int .i64 (bor .i64 x_141 (shl .i64 1 (wu64 t_153.From)))), (9, .int .i64 x_187), (10, .pointer (some ⟨g_2, 0, none⟩)), (11, .int .i64 x_148)] := hm.keep [0, 1, 4, 5, 6, 7, 8, 9, 10, 11]
            refine x_block_n ?_
            refine x_then_n ?_
            refine wp_region_lit ?_
            refine s_move hm rfl rfl ?_
            clear hm a; intro a hm
            refine s_arith (r := w64 (x_148 + 1)) hm rfl rfl rfl (.inl ⟨rfl, rfl⟩) ?_
            clear hm a; intro a hm
            refine s_assign hm rfl rfl ?_
            clear hm a; intro a hm
            refine wpList_nil ?_
            replace hm : Fr 130 a [(0, p0_0), (1, .int .i64 (mn (mx x1 1) 7)), (4, .int .i64 0), (5, .int .i64 0), (6, .int .i64 0), (7, .bool false), (8, .int .i64 (bor .i64 x_141 (shl .i64 1 (wu64 t_153.From)))), (9, .int .i64 x_187), (10, .pointer (some ⟨g_2, 0, none⟩)), (11, .int .i64 (w64 (x_148 + 1)))] := hm.keep [0, 1, 4, 5, 6, 7, 8, 9, 10, 11]
            refine x_then_n (hKL_149 _ _ ?_)
            replace hS : Sep w0 w_194 [N_186, M_195, Mem.one g_171 (.cells ([.int .i64 t_153.Kind, .int .i64 t_153.From, .int .i64 t_153.To, .int .i64 t_153.View, .int .i64 t_153.Inst, .int .i64 t_153.Len, .bool t_153.Has, .int .i64 t_153.Members, .int .i64 t_153.Source, .int .i64 t_153.At, .int .i64 t_153.Total, v_158, .int .i64 t_153.Hop, .int .i64 t_153.Seq, v_160, v_162, .int .i64 t_153.Index, .int .i64 t_153.Entry.Sess, .int .i64 t_153.Entry.Seq, .int .i64 t_153.Entry.Cmd.Kind, .int .i64 t_153.Entry.Cmd.Who, v_164, v_166, v_168] : List Value).toArray 29 (0, 0))] Z := hS
            replace hm : Fr 130 a [(0, p0_0), (1, .int .i64 (mn (mx x1 1) 7)), (4, .int .i64 0), (5, .int .i64 0), (6, .int .i64 0), (7, .bool false), (8, .int .i64 (bor .i64 x_141 (shl .i64 1 (wu64 t_153.From)))), (9, .int .i64 x_187), (10, .pointer (some ⟨g_2, 0, none⟩)), (11, .int .i64 (w64 (x_148 + 1)))] := hm.keep [0, 1, 4, 5, 6, 7, 8, 9, 10, 11]
            exact ⟨bor .i64 x_141 (shl .i64 1 (wu64 t_153.From)), x_187, (x_143.set (t_153.From).toNat t_153), w64 (x_148 + 1), N_186, M_195, H, hm, (Sep.sel hS [0, 1] (by decide)), (le_140.trans (le_175.trans (le_182.trans le_186))), (ho_196.mono (Mem.un_left (Mem.le.refl _)))⟩
          clear hKJ_180
          by_cases hc_209 : x_183 = true
          · rw [if_pos hc_209] at H
            refine c_cond_t hm rfl hc_209 ?_
            refine wp_region_lit ?_
            refine s_fieldAddr hm rfl Try.underlying29 rfl ti3 rfl rfl ?_
            clear hm a; intro a hm
            refine s_load hm rfl rfl (hS.load_one (p := 2) rfl Try.underlying3 rfl rfl) ?_
            clear hm a; intro a hm
            refine s_assign hm rfl rfl ?_
            clear hm a; intro a hm
            refine wpList_nil ?_
            replace hm : Fr 130 a [(0, p0_0), (1, .int .i64 (mn (mx x1 1) 7)), (4, .int .i64 0), (5, .int .i64 0), (6, .int .i64 0), (7, .bool false), (8, .int .i64 (bor .i64 x_141 (shl .i64 1 (wu64 t_153.From)))), (9, .int .i64 t_153.Inst), (10, .pointer (some ⟨g_2, 0, none⟩)), (11, .int .i64 x_148), (12, .pointer (some ⟨g_171, 0, none⟩))] := hm.keep [0, 1, 4, 5, 6, 7, 8, 9, 10, 11, 12]
            replace hS : Sep w0 w_184 [N_182, M_144, Mem.one g_171 (.cells ([.int .i64 t_153.Kind, .int .i64 t_153.From, .int .i64 t_153.To, .int .i64 t_153.View, .int .i64 t_153.Inst, .int .i64 t_153.Len, .bool t_153.Has, .int .i64 t_153.Members, .int .i64 t_153.Source, .int .i64 t_153.At, .int .i64 t_153.Total, v_158, .int .i64 t_153.Hop, .int .i64 t_153.Seq, v_160, v_162, .int .i64 t_153.Index, .int .i64 t_153.Entry.Sess, .int .i64 t_153.Entry.Seq, .int .i64 t_153.Entry.Cmd.Kind, .int .i64 t_153.Entry.Cmd.Who, v_164, v_166, v_168] : List Value).toArray 29 (0, 0))] Z := hS
            replace hm : Fr 130 a [(0, p0_0), (1, .int .i64 (mn (mx x1 1) 7)), (4, .int .i64 0), (5, .int .i64 0), (6, .int .i64 0), (7, .bool false), (8, .int .i64 (bor .i64 x_141 (shl .i64 1 (wu64 t_153.From)))), (9, .int .i64 t_153.Inst), (10, .pointer (some ⟨g_2, 0, none⟩)), (11, .int .i64 x_148), (12, .pointer (some ⟨g_171, 0, none⟩))] := hm.keep [0, 1, 4, 5, 6, 7, 8, 9, 10, 11, 12]
            exact x_then_n (hJ_j_189 t_153.Inst H _ _ ⟨N_182, hm, (Sep.sel hS [0, 1, 2] (by decide)), (Mem.le.refl _)⟩)
          · rw [if_neg hc_209] at H
            refine c_cond_f hm rfl (Bool.eq_false_iff.2 hc_209) ?_
            refine wp_skip ?_
            replace hS : Sep w0 w_184 [N_182, M_144, Mem.one g_171 (.cells ([.int .i64 t_153.Kind, .int .i64 t_153.From, .int .i64 t_153.To, .int .i64 t_153.View, .int .i64 t_153.Inst, .int .i64 t_153.Len, .bool t_153.Has, .int .i64 t_153.Members, .int .i64 t_153.Source, .int .i64 t_153.At, .int .i64 t_153.Total, v_158, .int .i64 t_153.Hop, .int .i64 t_153.Seq, v_160, v_162, .int .i64 t_153.Index, .int .i64 t_153.Entry.Sess, .int .i64 t_153.Entry.Seq, .int .i64 t_153.Entry.Cmd.Kind, .int .i64 t_153.Entry.Cmd.Who, v_164, v_166, v_168] : List Value).toArray 29 (0, 0))] Z := hS
            replace hm : Fr 130 a [(0, p0_0), (1, .int .i64 (mn (mx x1 1) 7)), (4, .int .i64 0), (5, .int .i64 0), (6, .int .i64 0), (7, .bool false), (8, .int .i64 (bor .i64 x_141 (shl .i64 1 (wu64 t_153.From)))), (9, .int .i64 x_142), (10, .pointer (some ⟨g_2, 0, none⟩)), (11, .int .i64 x_148), (12, .pointer (some ⟨g_171, 0, none⟩))] := hm.keep [0, 1, 4, 5, 6, 7, 8, 9, 10, 11, 12]
            exact x_then_n (hJ_j_189 x_142 H _ _ ⟨N_182, hm, (Sep.sel hS [0, 1, 2] (by decide)), (Mem.le.refl _)⟩)
        clear hKJ_181
        refine wp_region_lit ?_
        refine s_move hm rfl rfl ?_
        clear hm a; intro a hm
        refine s_fieldAddr hm rfl Try.underlying29 rfl ti3 rfl rfl ?_
        clear hm a; intro a hm
        refine s_load hm rfl rfl (hS.load_one (p := 2) rfl Try.underlying3 rfl rfl) ?_
        clear hm a; intro a hm
        refine s_conv (wu64 t_153.From) hm rfl Try.underlying3 Try.underlying38 rfl rfl ?_
        clear hm a; intro a hm
        refine s_shift (r := shl .i64 1 (wu64 t_153.From)) hm rfl rfl rfl (wu64_nn _) (.inl ⟨rfl, rfl⟩) ?_
        clear hm a; intro a hm
        refine s_cmp (b := ((bor .i64 x_141 (shl .i64 1 (wu64 t_153.From))) == (shl .i64 1 (wu64 t_153.From)))) hm rfl rfl rfl (.inl ⟨rfl, rfl⟩) ?_
        clear hm a; intro a hm
        refine s_move hm rfl rfl ?_
        clear hm a; intro a hm
        by_cases hc_210 : (bor .i64 x_141 (shl .i64 1 (wu64 t_153.From))) = (shl .i64 1 (wu64 t_153.From))
        · rw [if_pos hc_210] at H
          refine s_off hm rfl rfl rfl (beq_iff_eq.2 hc_210) ?_
          clear hm a; intro a hm
          refine s_off hm rfl rfl rfl (beq_iff_eq.2 hc_210) ?_
          clear hm a; intro a hm
          refine s_off hm rfl rfl rfl (beq_iff_eq.2 hc_210) ?_
          clear hm a; intro a hm
          refine s_off hm rfl rfl rfl (beq_iff_eq.2 hc_210) ?_
          clear hm a; intro a hm
          refine s_pick_t hm rfl rfl (beq_iff_eq.2 hc_210) rfl ?_
          clear hm a; intro a hm
          refine wpList_nil ?_
          replace hm : Fr 130 a [(0, p0_0), (1, .int .i64 (mn (mx x1 1) 7)), (4, .int .i64 0), (5, .int .i64 0), (6, .int .i64 0), (7, .bool false), (8, .int .i64 (bor .i64 x_141 (shl .i64 1 (wu64 t_153.From)))), (9, .int .i64 x_142), (10, .pointer (some ⟨g_2, 0, none⟩)), (11, .int .i64 x_148), (12, .pointer (some ⟨g_171, 0, none⟩)), (68, .bool true)] := hm.keep [0, 1, 4, 5, 6, 7, 8, 9, 10, 11, 12, 68]
          replace hS : Sep w0 w_177 [N_175, M_144, Mem.one g_171 (.cells ([.int .i64 t_153.Kind, .int .i64 t_153.From, .int .i64 t_153.To, .int .i64 t_153.View, .int .i64 t_153.Inst, .int .i64 t_153.Len, .bool t_153.Has, .int .i64 t_153.Members, .int .i64 t_153.Source, .int .i64 t_153.At, .int .i64 t_153.Total, v_158, .int .i64 t_153.Hop, .int .i64 t_153.Seq, v_160, v_162, .int .i64 t_153.Index, .int .i64 t_153.Entry.Sess, .int .i64 t_153.Entry.Seq, .int .i64 t_153.Entry.Cmd.Kind, .int .i64 t_153.Entry.Cmd.Who, v_164, v_166, v_168] : List Value).toArray 29 (0, 0))] Z := hS
          replace hm : Fr 130 a [(0, p0_0), (1, .int .i64 (mn (mx x1 1) 7)), (4, .int .i64 0), (5, .int .i64 0), (6, .int .i64 0), (7, .bool false), (8, .int .i64 (bor .i64 x_141 (shl .i64 1 (wu64 t_153.From)))), (9, .int .i64 x_142), (10, .pointer (some ⟨g_2, 0, none⟩)), (11, .int .i64 x_148), (12, .pointer (some ⟨g_171, 0, none⟩)), (68, .bool true)] := hm.keep [0, 1, 4, 5, 6, 7, 8, 9, 10, 11, 12, 68]
          exact x_then_n (hJ_j_185 true H _ _ ⟨N_175, hm, (Sep.sel hS [0, 1, 2] (by decide)), (Mem.le.refl _)⟩)
        · rw [if_neg hc_210] at H
          refine s_on hm rfl rfl (beq_eq_false_iff_ne.2 hc_210) ?_
          refine s_fieldAddr hm rfl Try.underlying29 rfl ti3 rfl rfl ?_
          clear hm a; intro a hm
          refine s_on hm rfl rfl (beq_eq_false_iff_ne.2 hc_210) ?_
          refine s_load hm rfl rfl (hS.load_one (p := 2) rfl Try.underlying3 rfl rfl) ?_
          clear hm a; intro a hm
          refine s_on hm rfl rfl (beq_eq_false_iff_ne.2 hc_210) ?_
          refine s_move hm rfl rfl ?_
          clear hm a; intro a hm
          refine s_on hm rfl rfl (beq_eq_false_iff_ne.2 hc_210) ?_
          refine s_cmp (b := decide (t_153.Inst > x_142)) hm rfl rfl rfl (.inr (.inr (.inr (.inr (.inl ⟨rfl, rfl⟩))))) ?_
          clear hm a; intro a hm
          refine s_pick_f hm rfl rfl (beq_eq_false_iff_ne.2 hc_210) rfl ?_
          clear hm a; intro a hm
          refine wpList_nil ?_
          replace hm : Fr 130 a [(0, p0_0), (1, .int .i64 (mn (mx x1 1) 7)), (4, .int .i64 0), (5, .int .i64 0), (6, .int .i64 0), (7, .bool false), (8, .int .i64 (bor .i64 x_141 (shl .i64 1 (wu64 t_153.From)))), (9, .int .i64 x_142), (10, .pointer (some ⟨g_2, 0, none⟩)), (11, .int .i64 x_148), (12, .pointer (some ⟨g_171, 0, none⟩)), (68, .bool (decide (t_153.Inst > x_142)))] := hm.keep [0, 1, 4, 5, 6, 7, 8, 9, 10, 11, 12, 68]
          replace hS : Sep w0 w_177 [N_175, M_144, Mem.one g_171 (.cells ([.int .i64 t_153.Kind, .int .i64 t_153.From, .int .i64 t_153.To, .int .i64 t_153.View, .int .i64 t_153.Inst, .int .i64 t_153.Len, .bool t_153.Has, .int .i64 t_153.Members, .int .i64 t_153.Source, .int .i64 t_153.At, .int .i64 t_153.Total, v_158, .int .i64 t_153.Hop, .int .i64 t_153.Seq, v_160, v_162, .int .i64 t_153.Index, .int .i64 t_153.Entry.Sess, .int .i64 t_153.Entry.Seq, .int .i64 t_153.Entry.Cmd.Kind, .int .i64 t_153.Entry.Cmd.Who, v_164, v_166, v_168] : List Value).toArray 29 (0, 0))] Z := hS
          replace hm : Fr 130 a [(0, p0_0), (1, .int .i64 (mn (mx x1 1) 7)), (4, .int .i64 0), (5, .int .i64 0), (6, .int .i64 0), (7, .bool false), (8, .int .i64 (bor .i64 x_141 (shl .i64 1 (wu64 t_153.From)))), (9, .int .i64 x_142), (10, .pointer (some ⟨g_2, 0, none⟩)), (11, .int .i64 x_148), (12, .pointer (some ⟨g_171, 0, none⟩)), (68, .bool (decide (t_153.Inst > x_142)))] := hm.keep [0, 1, 4, 5, 6, 7, 8, 9, 10, 11, 12, 68]
          exact x_then_n (hJ_j_185 (decide (t_153.Inst > x_142)) H _ _ ⟨N_175, hm, (Sep.sel hS [0, 1, 2] (by decide)), (Mem.le.refl _)⟩)
    clear hKJ_174
    refine wp_region_lit ?_
    refine s_fieldAddr hm rfl Try.underlying29 rfl ti3 rfl rfl ?_
    clear hm a; intro a hm
    refine s_load hm rfl rfl (hS.load_one (p := 2) rfl Try.underlying3 rfl rfl) ?_
    clear hm a; intro a hm
    refine s_cmp (b := (t_153.Kind != 2)) hm rfl rfl rfl (.inr (.inl ⟨rfl, rfl⟩)) ?_
    clear hm a; intro a hm
    refine s_move hm rfl rfl ?_
    clear hm a; intro a hm
    by_cases hc_211 : t_153.Kind = 2
    · rw [if_pos hc_211] at H
      refine s_on hm rfl rfl (bne_eq_false_iff_eq.2 hc_211) ?_
      refine s_fieldAddr hm rfl Try.underlying29 rfl ti3 rfl rfl ?_
      clear hm a; intro a hm
      refine s_on hm rfl rfl (bne_eq_false_iff_eq.2 hc_211) ?_
      refine s_load hm rfl rfl (hS.load_one (p := 2) rfl Try.underlying3 rfl rfl) ?_
      clear hm a; intro a hm
      refine s_on hm rfl rfl (bne_eq_false_iff_eq.2 hc_211) ?_
      refine s_cmp (b := decide (t_153.From < 0)) hm rfl rfl rfl (.inr (.inr (.inl ⟨rfl, rfl⟩))) ?_
      clear hm a; intro a hm
      refine s_pick_f hm rfl rfl (bne_eq_false_iff_eq.2 hc_211) rfl ?_
      clear hm a; intro a hm
      refine s_move hm rfl rfl ?_
      clear hm a; intro a hm
      by_cases hc_212 : t_153.From < 0
      · rw [if_pos hc_212] at H
        refine s_off hm rfl rfl rfl (decide_eq_true hc_212) ?_
        clear hm a; intro a hm
        refine s_off hm rfl rfl rfl (decide_eq_true hc_212) ?_
        clear hm a; intro a hm
        refine s_off hm rfl rfl rfl (decide_eq_true hc_212) ?_
        clear hm a; intro a hm
        refine s_off hm rfl rfl rfl (decide_eq_true hc_212) ?_
        clear hm a; intro a hm
        refine s_pick_t hm rfl rfl (decide_eq_true hc_212) rfl ?_
        clear hm a; intro a hm
        refine s_move hm rfl rfl ?_
        clear hm a; intro a hm
        refine s_off hm rfl rfl rfl rfl ?_
        clear hm a; intro a hm
        refine s_off hm rfl rfl rfl rfl ?_
        clear hm a; intro a hm
        refine s_off hm rfl rfl rfl rfl ?_
        clear hm a; intro a hm
        refine s_off hm rfl rfl rfl rfl ?_
        clear hm a; intro a hm
        refine s_off hm rfl rfl rfl rfl ?_
        clear hm a; intro a hm
        refine s_off hm rfl rfl rfl rfl ?_
        clear hm a; intro a hm
        refine s_off hm rfl rfl rfl rfl ?_
        clear hm a; intro a hm
        refine s_pick_t hm rfl rfl rfl rfl ?_
        clear hm a; intro a hm
        refine wpList_nil ?_
        replace hm : Fr 130 a [(0, p0_0), (1, .int .i64 (mn (mx x1 1) 7)), (4, .int .i64 0), (5, .int .i64 0), (6, .int .i64 0), (7, .bool false), (8, .int .i64 x_141), (9, .int .i64 x_142), (10, .pointer (some ⟨g_2, 0, none⟩)), (11, .int .i64 x_148), (12, .pointer (some ⟨g_171, 0, none⟩)), (50, .bool true)] := hm.keep [0, 1, 4, 5, 6, 7, 8, 9, 10, 11, 12, 50]
        replace hS : Sep w0 w_172 [N_140, M_144, Mem.one g_171 (.cells ([.int .i64 t_153.Kind, .int .i64 t_153.From, .int .i64 t_153.To, .int .i64 t_153.View, .int .i64 t_153.Inst, .int .i64 t_153.Len, .bool t_153.Has, .int .i64 t_153.Members, .int .i64 t_153.Source, .int .i64 t_153.At, .int .i64 t_153.Total, v_158, .int .i64 t_153.Hop, .int .i64 t_153.Seq, v_160, v_162, .int .i64 t_153.Index, .int .i64 t_153.Entry.Sess, .int .i64 t_153.Entry.Seq, .int .i64 t_153.Entry.Cmd.Kind, .int .i64 t_153.Entry.Cmd.Who, v_164, v_166, v_168] : List Value).toArray 29 (0, 0))] Z := hS
        replace hm : Fr 130 a [(0, p0_0), (1, .int .i64 (mn (mx x1 1) 7)), (4, .int .i64 0), (5, .int .i64 0), (6, .int .i64 0), (7, .bool false), (8, .int .i64 x_141), (9, .int .i64 x_142), (10, .pointer (some ⟨g_2, 0, none⟩)), (11, .int .i64 x_148), (12, .pointer (some ⟨g_171, 0, none⟩)), (50, .bool true)] := hm.keep [0, 1, 4, 5, 6, 7, 8, 9, 10, 11, 12, 50]
        exact x_then_n (hJ_j_178 true H _ _ ⟨N_140, hm, (Sep.sel hS [0, 1, 2] (by decide)), (Mem.le.refl _)⟩)
      · rw [if_neg hc_212] at H
        refine s_on hm rfl rfl (decide_eq_false hc_212) ?_
        refine s_fieldAddr hm rfl Try.underlying29 rfl ti3 rfl rfl ?_
        clear hm a; intro a hm
        refine s_on hm rfl rfl (decide_eq_false hc_212) ?_
        refine s_load hm rfl rfl (hS.load_one (p := 2) rfl Try.underlying3 rfl rfl) ?_
        clear hm a; intro a hm
        refine s_on hm rfl rfl (decide_eq_false hc_212) ?_
        refine s_move hm rfl rfl ?_
        clear hm a; intro a hm
        refine s_on hm rfl rfl (decide_eq_false hc_212) ?_
        refine s_cmp (b := decide (t_153.From ≥ (mn (mx x1 1) 7))) hm rfl rfl rfl (.inr (.inr (.inr (.inr (.inr ⟨rfl, rfl⟩))))) ?_
        clear hm a; intro a hm
        refine s_pick_f hm rfl rfl (decide_eq_false hc_212) rfl ?_
        clear hm a; intro a hm
        refine s_move hm rfl rfl ?_
        clear hm a; intro a hm
        by_cases hc_213 : t_153.From ≥ (mn (mx x1 1) 7)
        · rw [if_pos hc_213] at H
          refine s_off hm rfl rfl rfl (decide_eq_true hc_213) ?_
          clear hm a; intro a hm
          refine s_off hm rfl rfl rfl (decide_eq_true hc_213) ?_
          clear hm a; intro a hm
          refine s_off hm rfl rfl rfl (decide_eq_true hc_213) ?_
          clear hm a; intro a hm
          refine s_off hm rfl rfl rfl (decide_eq_true hc_213) ?_
          clear hm a; intro a hm
          refine s_off hm rfl rfl rfl (decide_eq_true hc_213) ?_
          clear hm a; intro a hm
          refine s_off hm rfl rfl rfl (decide_eq_true hc_213) ?_
          clear hm a; intro a hm
          refine s_off hm rfl rfl rfl (decide_eq_true hc_213) ?_
          clear hm a; intro a hm
          refine s_pick_t hm rfl rfl (decide_eq_true hc_213) rfl ?_
          clear hm a; intro a hm
          refine wpList_nil ?_
          replace hm : Fr 130 a [(0, p0_0), (1, .int .i64 (mn (mx x1 1) 7)), (4, .int .i64 0), (5, .int .i64 0), (6, .int .i64 0), (7, .bool false), (8, .int .i64 x_141), (9, .int .i64 x_142), (10, .pointer (some ⟨g_2, 0, none⟩)), (11, .int .i64 x_148), (12, .pointer (some ⟨g_171, 0, none⟩)), (50, .bool true)] := hm.keep [0, 1, 4, 5, 6, 7, 8, 9, 10, 11, 12, 50]
          replace hS : Sep w0 w_172 [N_140, M_144, Mem.one g_171 (.cells ([.int .i64 t_153.Kind, .int .i64 t_153.From, .int .i64 t_153.To, .int .i64 t_153.View, .int .i64 t_153.Inst, .int .i64 t_153.Len, .bool t_153.Has, .int .i64 t_153.Members, .int .i64 t_153.Source, .int .i64 t_153.At, .int .i64 t_153.Total, v_158, .int .i64 t_153.Hop, .int .i64 t_153.Seq, v_160, v_162, .int .i64 t_153.Index, .int .i64 t_153.Entry.Sess, .int .i64 t_153.Entry.Seq, .int .i64 t_153.Entry.Cmd.Kind, .int .i64 t_153.Entry.Cmd.Who, v_164, v_166, v_168] : List Value).toArray 29 (0, 0))] Z := hS
          replace hm : Fr 130 a [(0, p0_0), (1, .int .i64 (mn (mx x1 1) 7)), (4, .int .i64 0), (5, .int .i64 0), (6, .int .i64 0), (7, .bool false), (8, .int .i64 x_141), (9, .int .i64 x_142), (10, .pointer (some ⟨g_2, 0, none⟩)), (11, .int .i64 x_148), (12, .pointer (some ⟨g_171, 0, none⟩)), (50, .bool true)] := hm.keep [0, 1, 4, 5, 6, 7, 8, 9, 10, 11, 12, 50]
          exact x_then_n (hJ_j_178 true H _ _ ⟨N_140, hm, (Sep.sel hS [0, 1, 2] (by decide)), (Mem.le.refl _)⟩)
        · rw [if_neg hc_213] at H
          refine s_on hm rfl rfl (decide_eq_false hc_213) ?_
          refine s_move hm rfl rfl ?_
          clear hm a; intro a hm
          refine s_on hm rfl rfl (decide_eq_false hc_213) ?_
          refine s_fieldAddr hm rfl Try.underlying29 rfl ti3 rfl rfl ?_
          clear hm a; intro a hm
          refine s_on hm rfl rfl (decide_eq_false hc_213) ?_
          refine s_load hm rfl rfl (hS.load_one (p := 2) rfl Try.underlying3 rfl rfl) ?_
          clear hm a; intro a hm
          refine s_on hm rfl rfl (decide_eq_false hc_213) ?_
          refine s_conv (wu64 t_153.From) hm rfl Try.underlying3 Try.underlying38 rfl rfl ?_
          clear hm a; intro a hm
          refine s_on hm rfl rfl (decide_eq_false hc_213) ?_
          refine s_shift (r := shr .i64 x_141 (wu64 t_153.From)) hm rfl rfl rfl (wu64_nn _) (.inr ⟨rfl, rfl⟩) ?_
          clear hm a; intro a hm
          refine s_on hm rfl rfl (decide_eq_false hc_213) ?_
          refine s_bits (i := shr .i64 x_141 (wu64 t_153.From)) (j := 1) (r := band .i64 (shr .i64 x_141 (wu64 t_153.From)) 1) hm rfl rfl rfl (.inl ⟨rfl, rfl⟩) ?_
          clear hm a; intro a hm
          refine s_on hm rfl rfl (decide_eq_false hc_213) ?_
          refine s_cmp (b := ((band .i64 (shr .i64 x_141 (wu64 t_153.From)) 1) == 1)) hm rfl rfl rfl (.inl ⟨rfl, rfl⟩) ?_
          clear hm a; intro a hm
          refine s_pick_f hm rfl rfl (decide_eq_false hc_213) rfl ?_
          clear hm a; intro a hm
          refine wpList_nil ?_
          replace hm : Fr 130 a [(0, p0_0), (1, .int .i64 (mn (mx x1 1) 7)), (4, .int .i64 0), (5, .int .i64 0), (6, .int .i64 0), (7, .bool false), (8, .int .i64 x_141), (9, .int .i64 x_142), (10, .pointer (some ⟨g_2, 0, none⟩)), (11, .int .i64 x_148), (12, .pointer (some ⟨g_171, 0, none⟩)), (50, .bool ((band .i64 (shr .i64 x_141 (wu64 t_153.From)) 1) == 1))] := hm.keep [0, 1, 4, 5, 6, 7, 8, 9, 10, 11, 12, 50]
          replace hS : Sep w0 w_172 [N_140, M_144, Mem.one g_171 (.cells ([.int .i64 t_153.Kind, .int .i64 t_153.From, .int .i64 t_153.To, .int .i64 t_153.View, .int .i64 t_153.Inst, .int .i64 t_153.Len, .bool t_153.Has, .int .i64 t_153.Members, .int .i64 t_153.Source, .int .i64 t_153.At, .int .i64 t_153.Total, v_158, .int .i64 t_153.Hop, .int .i64 t_153.Seq, v_160, v_162, .int .i64 t_153.Index, .int .i64 t_153.Entry.Sess, .int .i64 t_153.Entry.Seq, .int .i64 t_153.Entry.Cmd.Kind, .int .i64 t_153.Entry.Cmd.Who, v_164, v_166, v_168] : List Value).toArray 29 (0, 0))] Z := hS
          replace hm : Fr 130 a [(0, p0_0), (1, .int .i64 (mn (mx x1 1) 7)), (4, .int .i64 0), (5, .int .i64 0), (6, .int .i64 0), (7, .bool false), (8, .int .i64 x_141), (9, .int .i64 x_142), (10, .pointer (some ⟨g_2, 0, none⟩)), (11, .int .i64 x_148), (12, .pointer (some ⟨g_171, 0, none⟩)), (50, .bool ((band .i64 (shr .i64 x_141 (wu64 t_153.From)) 1) == 1))] := hm.keep [0, 1, 4, 5, 6, 7, 8, 9, 10, 11, 12, 50]
          exact x_then_n (hJ_j_178 ((band .i64 (shr .i64 x_141 (wu64 t_153.From)) 1) == 1) H _ _ ⟨N_140, hm, (Sep.sel hS [0, 1, 2] (by decide)), (Mem.le.refl _)⟩)
    · rw [if_neg hc_211] at H
      refine s_off hm rfl rfl rfl (bne_iff_ne.2 hc_211) ?_
      clear hm a; intro a hm
      refine s_off hm rfl rfl rfl (bne_iff_ne.2 hc_211) ?_
      clear hm a; intro a hm
      refine s_off hm rfl rfl rfl (bne_iff_ne.2 hc_211) ?_
      clear hm a; intro a hm
      refine s_pick_t hm rfl rfl (bne_iff_ne.2 hc_211) rfl ?_
      clear hm a; intro a hm
      refine s_move hm rfl rfl ?_
      clear hm a; intro a hm
      refine s_off hm rfl rfl rfl rfl ?_
      clear hm a; intro a hm
      refine s_off hm rfl rfl rfl rfl ?_
      clear hm a; intro a hm
      refine s_off hm rfl rfl rfl rfl ?_
      clear hm a; intro a hm
      refine s_off hm rfl rfl rfl rfl ?_
      clear hm a; intro a hm
      refine s_pick_t hm rfl rfl rfl rfl ?_
      clear hm a; intro a hm
      refine s_move hm rfl rfl ?_
      clear hm a; intro a hm
      refine s_off hm rfl rfl rfl rfl ?_
      clear hm a; intro a hm
      refine s_off hm rfl rfl rfl rfl ?_
      clear hm a; intro a hm
      refine s_off hm rfl rfl rfl rfl ?_
      clear hm a; intro a hm
      refine s_off hm rfl rfl rfl rfl ?_
      clear hm a; intro a hm
      refine s_off hm rfl rfl rfl rfl ?_
      clear hm a; intro a hm
      refine s_off hm rfl rfl rfl rfl ?_
      clear hm a; intro a hm
      refine s_off hm rfl rfl rfl rfl ?_
      clear hm a; intro a hm
      refine s_pick_t hm rfl rfl rfl rfl ?_
      clear hm a; intro a hm
      refine wpList_nil ?_
      replace hm : Fr 130 a [(0, p0_0), (1, .int .i64 (mn (mx x1 1) 7)), (4, .int .i64 0), (5, .int .i64 0), (6, .int .i64 0), (7, .bool false), (8, .int .i64 x_141), (9, .int .i64 x_142), (10, .pointer (some ⟨g_2, 0, none⟩)), (11, .int .i64 x_148), (12, .pointer (some ⟨g_171, 0, none⟩)), (50, .bool true)] := hm.keep [0, 1, 4, 5, 6, 7, 8, 9, 10, 11, 12, 50]
      replace hS : Sep w0 w_172 [N_140, M_144, Mem.one g_171 (.cells ([.int .i64 t_153.Kind, .int .i64 t_153.From, .int .i64 t_153.To, .int .i64 t_153.View, .int .i64 t_153.Inst, .int .i64 t_153.Len, .bool t_153.Has, .int .i64 t_153.Members, .int .i64 t_153.Source, .int .i64 t_153.At, .int .i64 t_153.Total, v_158, .int .i64 t_153.Hop, .int .i64 t_153.Seq, v_160, v_162, .int .i64 t_153.Index, .int .i64 t_153.Entry.Sess, .int .i64 t_153.Entry.Seq, .int .i64 t_153.Entry.Cmd.Kind, .int .i64 t_153.Entry.Cmd.Who, v_164, v_166, v_168] : List Value).toArray 29 (0, 0))] Z := hS
      replace hm : Fr 130 a [(0, p0_0), (1, .int .i64 (mn (mx x1 1) 7)), (4, .int .i64 0), (5, .int .i64 0), (6, .int .i64 0), (7, .bool false), (8, .int .i64 x_141), (9, .int .i64 x_142), (10, .pointer (some ⟨g_2, 0, none⟩)), (11, .int .i64 x_148), (12, .pointer (some ⟨g_171, 0, none⟩)), (50, .bool true)] := hm.keep [0, 1, 4, 5, 6, 7, 8, 9, 10, 11, 12, 50]
      exact x_then_n (hJ_j_178 true H _ _ ⟨N_140, hm, (Sep.sel hS [0, 1, 2] (by decide)), (Mem.le.refl _)⟩)
  · rw [if_neg hc_152] at H
    refine c_cond_f hm rfl (decide_eq_false hc_152) ?_
    refine wp_exit (x_then_x (x_then_x (x_block_t ?_)))
    replace hS : Sep w0 w_149 [N_140, M_144] Z := hS
    replace hm : Fr 130 a [(1, .int .i64 (mn (mx x1 1) 7)), (4, .int .i64 0), (5, .int .i64 0), (6, .int .i64 0), (7, .bool false), (8, .int .i64 x_141), (9, .int .i64 x_142), (10, .pointer (some ⟨g_2, 0, none⟩))] := hm.keep [1, 4, 5, 6, 7, 8, 9, 10]
    exact x_then_n (hJ_j_16 x_141 x_142 x_143 H _ _ ⟨N_140, M_144, hm, (Sep.sel hS [0, 1] (by decide)), le_140, (ho_147.mono (Mem.un_left (Mem.le.refl _)))⟩)


end Go.Proofs
