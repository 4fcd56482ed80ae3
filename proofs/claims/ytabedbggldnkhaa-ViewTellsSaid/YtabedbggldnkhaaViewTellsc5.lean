/- What the calls do: each function once. -/
import Derived.Test.YtabedbggldnkhaaViewTellsc4
namespace Go.Proofs
open Go.Gp
set_option linter.unusedVariables false
set_option maxHeartbeats 4000000 in
set_option maxRecDepth 20000 in
theorem hocketlaw14_ViewTells.calls (K : Nat) (x0 : Int) (x1 : Int) (x2 : Int) (x3 : List api_Msg) (p3_0 : Value) (x4 : List Int) (p4_1 : Value) (r : Unit) (w0 w : World) (Z A : Mem) (hA : A.le Z) (hS : Sep w0 w [] Z) (hp3_0 : Rd k_api_Msg A p3_0 x3) (hp4_1 : Rd (Kd.int .i64) A p4_1 x4)
    (H : hocketlaw14_ViewTells.f K x0 x1 x2 x3 x4 = some r) :
    Calls Try.prog 5 [.int .i64 x0, .int .i64 x1, .int .i64 x2, p3_0, p4_1].toArray w (Ret fun v w' => ∃ (N : Mem), v = .bool true ∧ Sep w0 w' [N] Z) := by
  unfold hocketlaw14_ViewTells.f at H
  refine f_enter _ Try.func5 rfl Try.ntmps5 rfl fun a hm => ?_
  replace hm : Fr 184 a [(0, .int .i64 x0), (1, .int .i64 x1), (2, .int .i64 x2), (3, p3_0), (4, p4_1)] := hm
  replace hS := hS.start
  replace hS : Sep w0 w [Mem.no] Z := hS
  refine wp_seq ?_
  refine wp_region_lit ?_
  refine s_assign hm rfl rfl ?_
  clear hm a; intro a hm
  refine wpList_nil ?_
  replace hm : Fr 184 a [(0, .int .i64 x0), (1, .int .i64 x1), (2, .int .i64 x2), (3, p3_0), (4, p4_1), (10, .bool false)] := hm.keep [0, 1, 2, 3, 4, 10]
  refine x_then_n ?_
  refine c_seq fun KJ_1 hKJ_1 => ?_
  refine wp_seq ?_
  refine wp_region_lit ?_
  refine s_move hm rfl rfl ?_
  clear hm a; intro a hm
  refine s_len hm rfl Try.underlying31 rfl hp3_0 ?_
  clear hm a; intro a hm
  refine s_cmp (b := decide ((x3.length : Int) > 15)) hm rfl rfl rfl (.inr (.inr (.inr (.inr (.inl ⟨rfl, rfl⟩))))) ?_
  clear hm a; intro a hm
  refine wpList_nil ?_
  replace hm : Fr 184 a [(0, .int .i64 x0), (1, .int .i64 x1), (2, .int .i64 x2), (3, p3_0), (4, p4_1), (10, .bool false), (29, .bool (decide ((x3.length : Int) > 15)))] := hm.keep [0, 1, 2, 3, 4, 10, 29]
  refine x_then_n ?_
  by_cases hc_2 : (x3.length : Int) > 15
  · rw [if_pos hc_2] at H
    refine c_cond_t hm rfl (decide_eq_true hc_2) ?_
    refine wp_seq ?_
    refine wp_region_lit ?_
    obtain ⟨t_3, et_3, H⟩ := Option.bind_eq_some_iff.1 H
    refine s_call hm rfl Try.call17 rfl (hocketlaw14_awake.calls K  t_3 w0 _ _ _ (Mem.le.refl _) (hS.enter [] (by decide))  et_3) ?_
    rintro _ w_4 ⟨N_5, rfl, hS'⟩
    clear hm a; intro a hm
    obtain ⟨N_6, hS'', le_6, ln_6⟩ := hS.call [] (by decide) rfl (l' := []) (ow := []) rfl hS'
    replace hS : Sep w0 w_4 [N_6] Z := hS''
    clear hS' hS''
    refine s_assign hm rfl rfl ?_
    clear hm a; intro a hm
    refine wpList_nil ?_
    replace hm : Fr 184 a [(0, .int .i64 x0), (1, .int .i64 x1), (2, .int .i64 x2), (3, p3_0), (4, p4_1), (10, .bool true)] := hm.keep [0, 1, 2, 3, 4, 10]
    refine x_then_n ?_
    refine wp_ret (x_then_r ?_)
    exact f_ret hm (rs := [.tmp 10]) rfl (.tmp rfl .nil) ⟨_, rfl, N_6, rfl, (Sep.sel hS [0] (by decide))⟩
  · rw [if_neg hc_2] at H
    refine c_cond_f hm rfl (decide_eq_false hc_2) ?_
    refine wp_skip ?_
    refine x_then_n (hKJ_1 _ _ ?_)
    refine c_seq fun KJ_7 hKJ_7 => ?_
    refine wp_seq ?_
    refine wp_region_lit ?_
    refine s_assign hm rfl rfl ?_
    clear hm a; intro a hm
    refine wpList_nil ?_
    replace hm : Fr 184 a [(0, .int .i64 x0), (1, .int .i64 x1), (2, .int .i64 x2), (3, p3_0), (4, p4_1), (10, .bool false), (11, .int .i64 0)] := hm.keep [0, 1, 2, 3, 4, 10, 11]
    refine x_then_n ?_
    have hJ_j_11 : ∀ (x_9 : Int), hocketlaw14_ViewTells.J1 K x4 x3 x_9 = some r → ∀ (a : Act) (w_10 : World), (∃ (N_8 : Mem), Fr 184 a [(2, .int .i64 x_9), (3, p3_0), (4, p4_1), (10, .bool false)] ∧ Sep w0 w_10 [N_8] Z ∧ Mem.no.le N_8) → KJ_7 a w_10 := by
      clear H hm hS a
      rintro x_9 H a w_10 ⟨N_8, hm, hS, le_8⟩
      unfold hocketlaw14_ViewTells.J1 at H
      refine hKJ_7 _ _ ?_
      refine wp_seq ?_
      refine wp_region_lit ?_
      refine s_assign hm rfl rfl ?_
      clear hm a; intro a hm
      refine wpList_nil ?_
      replace hm : Fr 184 a [(2, .int .i64 x_9), (3, p3_0), (4, p4_1), (10, .bool false), (12, .slice none 0 0)] := hm.keep [2, 3, 4, 10, 12]
      refine x_then_n ?_
      refine c_seq fun KJ_12 hKJ_12 => ?_
      refine wp_seq ?_
      refine wp_region_lit ?_
      refine s_assign hm rfl rfl ?_
      clear hm a; intro a hm
      refine wpList_nil ?_
      replace hm : Fr 184 a [(2, .int .i64 x_9), (3, p3_0), (4, p4_1), (10, .bool false), (12, .slice none 0 0), (13, .int .i64 0)] := hm.keep [2, 3, 4, 10, 12, 13]
      refine x_then_n ?_
      have hJ_j_20 : ∀ (x_14 : List api_Msg), hocketlaw14_ViewTells.J2 K x3 x_9 x_14 = some r → ∀ (a : Act) (w_19 : World), (∃ (v_17 : Value) (N_13 : Mem) (M_15 : Mem), Fr 184 a [(2, .int .i64 x_9), (3, p3_0), (10, .bool false), (12, v_17)] ∧ Sep w0 w_19 [N_13, M_15] Z ∧ N_8.le N_13 ∧ Own k_api_Msg 29 M_15 N_13 v_17 x_14) → KJ_12 a w_19 := by
        clear H hm hS a
        rintro x_14 H a w_19 ⟨v_17, N_13, M_15, hm, hS, le_13, ho_18⟩
        unfold hocketlaw14_ViewTells.J2 at H
        refine hKJ_12 _ _ ?_
        refine c_seq fun KJ_21 hKJ_21 => ?_
        refine wp_seq ?_
        refine wp_region_lit ?_
        refine s_move hm rfl rfl ?_
        clear hm a; intro a hm
        refine s_move hm rfl rfl ?_
        clear hm a; intro a hm
        have hq_26 : Reps k_api_Msg N_13 ([] : List api_Msg) _ := (Reps.nil k_api_Msg _)
        refine s_buildSlice hm rfl Try.underlying31 ti29 rfl rfl rfl .nil rfl rfl rfl hS hq_26 rfl ?_
        intro w_22 v_23 M_24 hS' ho_25
        clear hm a; intro a hm
        replace hS : Sep w0 w_22 [N_13, M_15, M_24] Z := hS'
        clear hS' hq_26
        refine s_move hm rfl rfl ?_
        clear hm a; intro a hm
        obtain ⟨t_28, et_28, H⟩ := Option.bind_eq_some_iff.1 H
        refine s_append (J := N_13) (I' := N_13) (p := 2) 488671834567 hm rfl rfl rfl Try.underlying31 ti29 rfl rfl rfl rfl hS rfl ho_25 (ho_18.src (hS.own 1)) (Mem.le.refl _) (Mem.le.refl _) et_28 ?_
        intro w_29 v_30 M_31 hS' ho_32
        clear hm a; intro a hm
        replace hS : Sep w0 w_29 [N_13, M_15, M_31] Z := hS'
        clear hS'
        refine s_move hm rfl rfl ?_
        clear hm a; intro a hm
        obtain ⟨t_34, et_34, H⟩ := Option.bind_eq_some_iff.1 H
        refine s_append (J := A) (I' := (A.un N_13)) (p := 2) 488671834567 hm rfl rfl rfl Try.underlying31 ti29 rfl rfl rfl rfl hS rfl ho_32 (hp3_0.src (hA.trans hS.old)) ((Mem.le.refl _).trans (hS.sndA hA)) (Mem.le_un _ _) et_34 ?_
        intro w_35 v_36 M_37 hS' ho_38
        clear hm a; intro a hm
        replace hS : Sep w0 w_35 [N_13, M_15, M_37] Z := hS'
        clear hS'
        obtain ⟨N_40, hS', le_40, lo_40⟩ := hS.freeze 0 rfl
        replace hS : Sep w0 w_35 [N_40, Mem.no, M_37] Z := hS'
        clear hS'
        obtain ⟨N_41, hS', le_41, lo_41⟩ := hS.freeze 1 rfl
        replace hS : Sep w0 w_35 [N_41, Mem.no, Mem.no] Z := hS'
        clear hS'
        have hr_42 : Rd k_api_Msg (A.un N_41) v_36 t_34 := (ho_38.rd (lo_41.trans (hS.sndA hA)) (Mem.un_left (le_40.trans le_41)))
        have hq_47 : Reps (Kd.slice k_api_Msg) (A.un N_41) ([x3, x_14, t_34] : List (List api_Msg)) _ := ((Reps.one (d := (Kd.slice k_api_Msg)) (x := x3) ⟨_, rfl, (hp3_0.mono (Mem.le_un _ _))⟩).append ((Reps.one (d := (Kd.slice k_api_Msg)) (x := x_14) ⟨_, rfl, ((ho_18.rd lo_40 le_40).mono (le_41.trans (hS.sndA hA)))⟩).append ((Reps.one (d := (Kd.slice k_api_Msg)) (x := t_34) ⟨_, rfl, hr_42⟩).append (Reps.nil (Kd.slice k_api_Msg) _))))
        refine s_buildSlice hm rfl Try.underlying45 ti31 rfl rfl rfl (.cons hp3_0.cells (.cons (ho_18.rd lo_40 le_40).cells (.cons hr_42.cells .nil))) rfl rfl rfl hS hq_47 rfl ?_
        intro w_43 v_44 M_45 hS' ho_46
        clear hm a; intro a hm
        replace hS : Sep w0 w_43 [N_41, Mem.no, Mem.no, M_45] Z := hS'
        clear hS' hq_47
        refine s_lenO hm rfl Try.underlying45 rfl ho_46 ?_
        clear hm a; intro a hm
        refine s_move hm rfl rfl ?_
        clear hm a; intro a hm
        refine wpList_nil ?_
        replace hm : Fr 184 a [(2, .int .i64 x_9), (10, .bool false), (134, v_44), (135, .int .i64 (([x3, x_14, t_34] : List (List api_Msg)).length : Int)), (136, .int .i64 0)] := hm.keep [2, 10, 134, 135, 136]
        refine x_then_n ?_
        have hJ_j_51 : hocketlaw14_ViewTells.J3 K = some r → ∀ (a : Act) (w_50 : World), (∃ (N_49 : Mem), Fr 184 a [(10, .bool false)] ∧ Sep w0 w_50 [N_49, Mem.no, Mem.no, Mem.no] Z ∧ N_41.le N_49) → KJ_21 a w_50 := by
          clear H hm hS a
          rintro H a w_50 ⟨N_49, hm, hS, le_49⟩
          unfold hocketlaw14_ViewTells.J3 at H
          refine hKJ_21 _ _ ?_
          refine wp_seq ?_
          refine wp_region_lit ?_
          obtain ⟨t_52, et_52, H⟩ := Option.bind_eq_some_iff.1 H
          refine s_call hm rfl Try.call17 rfl (hocketlaw14_awake.calls K  t_52 w0 _ _ _ (Mem.le.refl _) (hS.enter [] (by decide))  et_52) ?_
          rintro _ w_53 ⟨N_54, rfl, hS'⟩
          clear hm a; intro a hm
          obtain ⟨N_55, hS'', le_55, ln_55⟩ := hS.call [] (by decide) rfl (l' := []) (ow := []) rfl hS'
          replace hS : Sep w0 w_53 [N_55, Mem.no, Mem.no, Mem.no] Z := hS''
          clear hS' hS''
          refine s_assign hm rfl rfl ?_
          clear hm a; intro a hm
          refine wpList_nil ?_
          replace hm : Fr 184 a [(10, .bool true)] := hm.keep [10]
          refine x_then_n ?_
          refine wp_ret ?_
          exact f_ret hm (rs := [.tmp 10]) rfl (.tmp rfl .nil) ⟨_, rfl, N_55, rfl, (Sep.sel hS [0] (by decide))⟩
        clear hKJ_21
        replace hS : Sep w0 w_43 [N_41, Mem.no, Mem.no, M_45] Z := hS
        replace hm : Fr 184 a [(2, .int .i64 x_9), (10, .bool false), (134, v_44), (135, .int .i64 (([x3, x_14, t_34] : List (List api_Msg)).length : Int)), (136, .int .i64 0)] := hm.keep [2, 10, 134, 135, 136]
        refine c_block ?_
        refine c_loop (fun k_58 a w_58 => ∃ (x_57 : Int) (N_56 : Mem), hocketlaw14_ViewTells.L1 K x3 x_14 t_34 x_9 (fun v => hocketlaw14_ViewTells.J3 K) k_58 x_57 = some r ∧ Fr 184 a [(2, .int .i64 x_9), (10, .bool false), (134, v_44), (135, .int .i64 (([x3, x_14, t_34] : List (List api_Msg)).length : Int)), (136, .int .i64 x_57)] ∧ Sep w0 w_58 [N_56, Mem.no, Mem.no, M_45] Z ∧ N_41.le N_56) K ⟨0, N_41, H, hm, (Sep.sel hS [0, 1000, 1001, 3] (by decide)), (Mem.le.refl _)⟩ (fun a w h => by obtain ⟨_, _, H, _⟩ := h; cases (show (none : Option (Unit)) = some r from H)) ?_
        clear hm hS a H
        rintro k_58 a w_58 KL_58 hKL_58 ⟨x_57, N_56, H, hm, hS, le_56⟩
        replace H : hocketlaw14_ViewTells.B1 K x3 x_14 t_34 x_9 (fun v => hocketlaw14_ViewTells.J3 K) (hocketlaw14_ViewTells.L1 K x3 x_14 t_34 x_9 (fun v => hocketlaw14_ViewTells.J3 K) k_58) x_57 = some r := H
        unfold hocketlaw14_ViewTells.B1 at H
        refine wp_seq ?_
        refine wp_region_lit ?_
        refine s_cmp (b := decide (x_57 < (([x3, x_14, t_34] : List (List api_Msg)).length : Int))) hm rfl rfl rfl (.inr (.inr (.inl ⟨rfl, rfl⟩))) ?_
        clear hm a; intro a hm
        refine wpList_nil ?_
        replace hm : Fr 184 a [(2, .int .i64 x_9), (10, .bool false), (134, v_44), (135, .int .i64 (([x3, x_14, t_34] : List (List api_Msg)).length : Int)), (136, .int .i64 x_57), (137, .bool (decide (x_57 < (([x3, x_14, t_34] : List (List api_Msg)).length : Int))))] := hm.keep [2, 10, 134, 135, 136, 137]
        refine x_then_n ?_
        refine c_seq fun KJ_60 hKJ_60 => ?_
        by_cases hc_61 : x_57 < (([x3, x_14, t_34] : List (List api_Msg)).length : Int)
        · rw [if_pos hc_61] at H
          refine c_cond_t hm rfl (decide_eq_true hc_61) ?_
          refine wp_skip ?_
          refine x_then_n (hKJ_60 _ _ ?_)
          refine c_seq fun KJ_62 hKJ_62 => ?_
          refine c_block ?_
          refine wp_seq ?_
          refine wp_region_lit ?_
          obtain ⟨t_63, et_63, H⟩ := Option.bind_eq_some_iff.1 H
          refine v_indexO hm rfl Try.underlying45 ti31 rfl rfl rfl ho_46 (hS.own 3) et_63 ?_
          intro ad_64 cs_65 hk_66 hc_67
          obtain ⟨v_68, rfl, hr_69⟩ := hk_66
          clear hm a; intro a hm
          refine s_load hm rfl rfl (el_one (o := 0) hc_67 Try.underlying31 rfl rfl) ?_
          clear hm a; intro a hm
          refine s_assign hm rfl rfl ?_
          clear hm a; intro a hm
          refine wpList_nil ?_
          replace hm : Fr 184 a [(2, .int .i64 x_9), (10, .bool false), (16, v_68), (134, v_44), (135, .int .i64 (([x3, x_14, t_34] : List (List api_Msg)).length : Int)), (136, .int .i64 x_57)] := hm.keep [2, 10, 16, 134, 135, 136]
          refine x_then_n ?_
          refine wp_seq ?_
          refine wp_region_lit ?_
          refine s_move hm rfl rfl ?_
          clear hm a; intro a hm
          have hq_74 : Reps (Kd.int .i64) Mem.no ([x_9, 3, 5, 7] : List Int) _ := ((Reps.one (d := (Kd.int .i64)) (x := x_9) (show (Kd.int .i64).K _ _ [.int .i64 x_9] from rfl)).append ((Reps.one (d := (Kd.int .i64)) (x := 3) (show (Kd.int .i64).K _ _ [.int .i64 3] from rfl)).append ((Reps.one (d := (Kd.int .i64)) (x := 5) (show (Kd.int .i64).K _ _ [.int .i64 5] from rfl)).append ((Reps.one (d := (Kd.int .i64)) (x := 7) (show (Kd.int .i64).K _ _ [.int .i64 7] from rfl)).append (Reps.nil (Kd.int .i64) _)))))
          refine s_buildSlice hm rfl Try.underlying23 ti3 rfl rfl rfl (.cons rfl (.cons rfl (.cons rfl (.cons rfl .nil)))) rfl rfl rfl hS hq_74 rfl ?_
          intro w_70 v_71 M_72 hS' ho_73
          clear hm a; intro a hm
          replace hS : Sep w0 w_70 [N_56, Mem.no, Mem.no, M_45, M_72] Z := hS'
          clear hS' hq_74
          refine s_lenO hm rfl Try.underlying23 rfl ho_73 ?_
          clear hm a; intro a hm
          refine s_move hm rfl rfl ?_
          clear hm a; intro a hm
          refine wpList_nil ?_
          replace hm : Fr 184 a [(2, .int .i64 x_9), (10, .bool false), (16, v_68), (134, v_44), (135, .int .i64 (([x3, x_14, t_34] : List (List api_Msg)).length : Int)), (136, .int .i64 x_57), (141, v_71), (142, .int .i64 (([x_9, 3, 5, 7] : List Int).length : Int)), (143, .int .i64 0)] := hm.keep [2, 10, 16, 134, 135, 136, 141, 142, 143]
          refine x_then_n ?_
          refine c_last fun KJ_76 hKJ_76 => ?_
          have hJ_j_79 : hocketlaw14_ViewTells.J4 K (hocketlaw14_ViewTells.L1 K x3 x_14 t_34 x_9 (fun v => hocketlaw14_ViewTells.J3 K) k_58) x_57 = some r → ∀ (a : Act) (w_78 : World), (∃ (N_77 : Mem), Fr 184 a [(2, .int .i64 x_9), (10, .bool false), (134, v_44), (135, .int .i64 (([x3, x_14, t_34] : List (List api_Msg)).length : Int)), (136, .int .i64 x_57)] ∧ Sep w0 w_78 [N_77, Mem.no, Mem.no, M_45, Mem.no] Z ∧ N_56.le N_77) → KJ_76 a w_78 := by
            clear H hm hS a
            rintro H a w_78 ⟨N_77, hm, hS, le_77⟩
            unfold hocketlaw14_ViewTells.J4 at H
            refine hKJ_76 _ _ ?_
            refine x_block_n ?_
            refine x_then_n (hKJ_62 _ _ ?_)
            refine wp_region_lit ?_
            refine s_arith (r := w64 (x_57 + 1)) hm rfl rfl rfl (.inl ⟨rfl, rfl⟩) ?_
            clear hm a; intro a hm
            refine s_move hm rfl rfl ?_
            clear hm a; intro a hm
            refine wpList_nil ?_
            replace hm : Fr 184 a [(2, .int .i64 x_9), (10, .bool false), (134, v_44), (135, .int .i64 (([x3, x_14, t_34] : List (List api_Msg)).length : Int)), (136, .int .i64 (w64 (x_57 + 1)))] := hm.keep [2, 10, 134, 135, 136]
            refine x_then_n (hKL_58 _ _ ?_)
            replace hS : Sep w0 w_78 [N_77, Mem.no, Mem.no, M_45, Mem.no] Z := hS
            replace hm : Fr 184 a [(2, .int .i64 x_9), (10, .bool false), (134, v_44), (135, .int .i64 (([x3, x_14, t_34] : List (List api_Msg)).length : Int)), (136, .int .i64 (w64 (x_57 + 1)))] := hm.keep [2, 10, 134, 135, 136]
            exact ⟨w64 (x_57 + 1), N_77, H, hm, (Sep.sel hS [0, 1000, 1001, 3] (by decide)), (le_56.trans le_77)⟩
          clear hKJ_76
          replace hS : Sep w0 w_70 [N_56, Mem.no, Mem.no, M_45, M_72] Z := hS
          replace hm : Fr 184 a [(2, .int .i64 x_9), (10, .bool false), (16, v_68), (134, v_44), (135, .int .i64 (([x3, x_14, t_34] : List (List api_Msg)).length : Int)), (136, .int .i64 x_57), (141, v_71), (142, .int .i64 (([x_9, 3, 5, 7] : List Int).length : Int)), (143, .int .i64 0)] := hm.keep [2, 10, 16, 134, 135, 136, 141, 142, 143]
          refine c_block ?_
          refine c_loop (fun k_82 a w_82 => ∃ (x_81 : Int) (N_80 : Mem), hocketlaw14_ViewTells.L2 K x_9 t_63 (fun v => hocketlaw14_ViewTells.J4 K (hocketlaw14_ViewTells.L1 K x3 x_14 t_34 x_9 (fun v => hocketlaw14_ViewTells.J3 K) k_58) x_57) k_82 x_81 = some r ∧ Fr 184 a [(2, .int .i64 x_9), (10, .bool false), (16, v_68), (134, v_44), (135, .int .i64 (([x3, x_14, t_34] : List (List api_Msg)).length : Int)), (136, .int .i64 x_57), (141, v_71), (142, .int .i64 (([x_9, 3, 5, 7] : List Int).length : Int)), (143, .int .i64 x_81)] ∧ Sep w0 w_82 [N_80, Mem.no, Mem.no, M_45, M_72] Z ∧ N_56.le N_80) K ⟨0, N_56, H, hm, (Sep.sel hS [0, 1000, 1001, 3, 4] (by decide)), (Mem.le.refl _)⟩ (fun a w h => by obtain ⟨_, _, H, _⟩ := h; cases (show (none : Option (Unit)) = some r from H)) ?_
          clear hm hS a H
          rintro k_82 a w_82 KL_82 hKL_82 ⟨x_81, N_80, H, hm, hS, le_80⟩
          replace H : hocketlaw14_ViewTells.B2 K x_9 t_63 (fun v => hocketlaw14_ViewTells.J4 K (hocketlaw14_ViewTells.L1 K x3 x_14 t_34 x_9 (fun v => hocketlaw14_ViewTells.J3 K) k_58) x_57) (hocketlaw14_ViewTells.L2 K x_9 t_63 (fun v => hocketlaw14_ViewTells.J4 K (hocketlaw14_ViewTells.L1 K x3 x_14 t_34 x_9 (fun v => hocketlaw14_ViewTells.J3 K) k_58) x_57) k_82) x_81 = some r := H
          unfold hocketlaw14_ViewTells.B2 at H
          refine wp_seq ?_
          refine wp_region_lit ?_
          refine s_cmp (b := decide (x_81 < (([x_9, 3, 5, 7] : List Int).length : Int))) hm rfl rfl rfl (.inr (.inr (.inl ⟨rfl, rfl⟩))) ?_
          clear hm a; intro a hm
          refine wpList_nil ?_
          replace hm : Fr 184 a [(2, .int .i64 x_9), (10, .bool false), (16, v_68), (134, v_44), (135, .int .i64 (([x3, x_14, t_34] : List (List api_Msg)).length : Int)), (136, .int .i64 x_57), (141, v_71), (142, .int .i64 (([x_9, 3, 5, 7] : List Int).length : Int)), (143, .int .i64 x_81), (144, .bool (decide (x_81 < (([x_9, 3, 5, 7] : List Int).length : Int))))] := hm.keep [2, 10, 16, 134, 135, 136, 141, 142, 143, 144]
          refine x_then_n ?_
          refine c_seq fun KJ_84 hKJ_84 => ?_
          by_cases hc_85 : x_81 < (([x_9, 3, 5, 7] : List Int).length : Int)
          · rw [if_pos hc_85] at H
            refine c_cond_t hm rfl (decide_eq_true hc_85) ?_
            refine wp_skip ?_
            refine x_then_n (hKJ_84 _ _ ?_)
            refine c_seq fun KJ_86 hKJ_86 => ?_
            refine c_block ?_
            refine wp_seq ?_
            refine wp_region_lit ?_
            obtain ⟨t_87, et_87, H⟩ := Option.bind_eq_some_iff.1 H
            refine v_indexO hm rfl Try.underlying23 ti3 rfl rfl rfl ho_73 (hS.own 4) et_87 ?_
            intro ad_88 cs_89 hk_90 hc_91
            obtain rfl := (show cs_89 = [.int .i64 t_87] from hk_90)
            clear hm a; intro a hm
            refine s_load hm rfl rfl (el_one (o := 0) hc_91 Try.underlying3 rfl rfl) ?_
            clear hm a; intro a hm
            refine s_assign hm rfl rfl ?_
            clear hm a; intro a hm
            refine wpList_nil ?_
            replace hm : Fr 184 a [(2, .int .i64 x_9), (10, .bool false), (16, v_68), (18, .int .i64 t_87), (134, v_44), (135, .int .i64 (([x3, x_14, t_34] : List (List api_Msg)).length : Int)), (136, .int .i64 x_57), (141, v_71), (142, .int .i64 (([x_9, 3, 5, 7] : List Int).length : Int)), (143, .int .i64 x_81)] := hm.keep [2, 10, 16, 18, 134, 135, 136, 141, 142, 143]
            refine x_then_n ?_
            refine wp_seq ?_
            refine wp_region_lit ?_
            refine s_move hm rfl rfl ?_
            clear hm a; intro a hm
            refine s_move hm rfl rfl ?_
            clear hm a; intro a hm
            obtain ⟨t_92, et_92, H⟩ := Option.bind_eq_some_iff.1 H
            refine s_call hm rfl Try.call16 rfl (view_Choose.calls K t_63 _ t_87 t_92 w0 _ _ _ (Mem.le.refl _) (hS.enter [] (by decide)) (hr_69.mono (Mem.un_le (hA.trans (hS.le_zed [])) ((le_56.trans le_80).trans (hS.new_zed [])))) et_92) ?_
            rintro _ w_93 ⟨N_94, rfl, hS'⟩
            clear hm a; intro a hm
            obtain ⟨N_95, hS'', le_95, ln_95⟩ := hS.call [] (by decide) rfl (l' := []) (ow := []) rfl hS'
            replace hS : Sep w0 w_93 [N_95, Mem.no, Mem.no, M_45, M_72] Z := hS''
            clear hS' hS''
            refine s_move hm rfl rfl ?_
            clear hm a; intro a hm
            refine s_extract hm rfl rfl rfl ?_
            clear hm a; intro a hm
            refine s_extract hm rfl rfl rfl ?_
            clear hm a; intro a hm
            refine s_extract hm rfl rfl rfl ?_
            clear hm a; intro a hm
            refine s_extract hm rfl rfl rfl ?_
            clear hm a; intro a hm
            refine s_assign hm rfl rfl ?_
            clear hm a; intro a hm
            refine s_assign hm rfl rfl ?_
            clear hm a; intro a hm
            refine s_assign hm rfl rfl ?_
            clear hm a; intro a hm
            refine s_assign hm rfl rfl ?_
            clear hm a; intro a hm
            refine wpList_nil ?_
            replace hm : Fr 184 a [(2, .int .i64 x_9), (10, .bool false), (16, v_68), (18, .int .i64 t_87), (19, .int .i64 t_92.1), (20, .int .i64 t_92.2.1), (21, .int .i64 t_92.2.2.1), (22, .bool t_92.2.2.2), (134, v_44), (135, .int .i64 (([x3, x_14, t_34] : List (List api_Msg)).length : Int)), (136, .int .i64 x_57), (141, v_71), (142, .int .i64 (([x_9, 3, 5, 7] : List Int).length : Int)), (143, .int .i64 x_81)] := hm.keep [2, 10, 16, 18, 19, 20, 21, 22, 134, 135, 136, 141, 142, 143]
            refine x_then_n ?_
            refine wp_seq ?_
            refine wp_region_lit ?_
            refine s_move hm rfl rfl ?_
            clear hm a; intro a hm
            refine s_move hm rfl rfl ?_
            clear hm a; intro a hm
            obtain ⟨t_96, et_96, H⟩ := Option.bind_eq_some_iff.1 H
            refine s_call hm rfl Try.call32 rfl (hocketref11_Choose.calls K t_63 _ t_87 t_96 w0 _ _ _ (Mem.le.refl _) (hS.enter [] (by decide)) (hr_69.mono (Mem.un_le (hA.trans (hS.le_zed [])) ((le_56.trans (le_80.trans le_95)).trans (hS.new_zed [])))) et_96) ?_
            rintro _ w_97 ⟨N_98, rfl, hS'⟩
            clear hm a; intro a hm
            obtain ⟨N_99, hS'', le_99, ln_99⟩ := hS.call [] (by decide) rfl (l' := []) (ow := []) rfl hS'
            replace hS : Sep w0 w_97 [N_99, Mem.no, Mem.no, M_45, M_72] Z := hS''
            clear hS' hS''
            refine s_move hm rfl rfl ?_
            clear hm a; intro a hm
            refine s_extract hm rfl rfl rfl ?_
            clear hm a; intro a hm
            refine s_extract hm rfl rfl rfl ?_
            clear hm a; intro a hm
            refine s_extract hm rfl rfl rfl ?_
            clear hm a; intro a hm
            refine s_extract hm rfl rfl rfl ?_
            clear hm a; intro a hm
            refine s_assign hm rfl rfl ?_
            clear hm a; intro a hm
            refine s_assign hm rfl rfl ?_
            clear hm a; intro a hm
            refine s_assign hm rfl rfl ?_
            clear hm a; intro a hm
            refine s_assign hm rfl rfl ?_
            clear hm a; intro a hm
            refine wpList_nil ?_
            replace hm : Fr 184 a [(2, .int .i64 x_9), (10, .bool false), (16, v_68), (19, .int .i64 t_92.1), (20, .int .i64 t_92.2.1), (21, .int .i64 t_92.2.2.1), (22, .bool t_92.2.2.2), (23, .int .i64 t_96.1), (24, .int .i64 t_96.2.1), (25, .int .i64 t_96.2.2.1), (26, .bool t_96.2.2.2), (134, v_44), (135, .int .i64 (([x3, x_14, t_34] : List (List api_Msg)).length : Int)), (136, .int .i64 x_57), (141, v_71), (142, .int .i64 (([x_9, 3, 5, 7] : List Int).length : Int)), (143, .int .i64 x_81)] := hm.keep [2, 10, 16, 19, 20, 21, 22, 23, 24, 25, 26, 134, 135, 136, 141, 142, 143]
            refine x_then_n ?_
            refine c_seq fun KJ_100 hKJ_100 => ?_
            refine wp_region_lit ?_
            refine s_move hm rfl rfl ?_
            clear hm a; intro a hm
            refine s_move hm rfl rfl ?_
            clear hm a; intro a hm
            refine s_cmp (b := (t_92.1 != t_96.1)) hm rfl rfl rfl (.inr (.inl ⟨rfl, rfl⟩)) ?_
            clear hm a; intro a hm
            refine s_move hm rfl rfl ?_
            clear hm a; intro a hm
            by_cases hc_101 : t_92.1 = t_96.1
            · rw [if_pos hc_101] at H
              refine s_on hm rfl rfl (bne_eq_false_iff_eq.2 hc_101) ?_
              refine s_move hm rfl rfl ?_
              clear hm a; intro a hm
              refine s_on hm rfl rfl (bne_eq_false_iff_eq.2 hc_101) ?_
              refine s_move hm rfl rfl ?_
              clear hm a; intro a hm
              refine s_on hm rfl rfl (bne_eq_false_iff_eq.2 hc_101) ?_
              refine s_cmp (b := (t_92.2.1 != t_96.2.1)) hm rfl rfl rfl (.inr (.inl ⟨rfl, rfl⟩)) ?_
              clear hm a; intro a hm
              refine s_pick_f hm rfl rfl (bne_eq_false_iff_eq.2 hc_101) rfl ?_
              clear hm a; intro a hm
              refine s_move hm rfl rfl ?_
              clear hm a; intro a hm
              by_cases hc_102 : t_92.2.1 = t_96.2.1
              · rw [if_pos hc_102] at H
                refine s_on hm rfl rfl (bne_eq_false_iff_eq.2 hc_102) ?_
                refine s_move hm rfl rfl ?_
                clear hm a; intro a hm
                refine s_on hm rfl rfl (bne_eq_false_iff_eq.2 hc_102) ?_
                refine s_move hm rfl rfl ?_
                clear hm a; intro a hm
                refine s_on hm rfl rfl (bne_eq_false_iff_eq.2 hc_102) ?_
                refine s_cmp (b := (t_92.2.2.1 != t_96.2.2.1)) hm rfl rfl rfl (.inr (.inl ⟨rfl, rfl⟩)) ?_
                clear hm a; intro a hm
                refine s_pick_f hm rfl rfl (bne_eq_false_iff_eq.2 hc_102) rfl ?_
                clear hm a; intro a hm
                refine s_move hm rfl rfl ?_
                clear hm a; intro a hm
                by_cases hc_103 : t_92.2.2.1 = t_96.2.2.1
                · rw [if_pos hc_103] at H
                  refine s_on hm rfl rfl (bne_eq_false_iff_eq.2 hc_103) ?_
                  refine s_move hm rfl rfl ?_
                  clear hm a; intro a hm
                  refine s_on hm rfl rfl (bne_eq_false_iff_eq.2 hc_103) ?_
                  refine s_move hm rfl rfl ?_
                  clear hm a; intro a hm
                  refine s_on hm rfl rfl (bne_eq_false_iff_eq.2 hc_103) ?_
                  refine s_beq (b := !(t_92.2.2.2 == t_96.2.2.2)) hm rfl Try.underlying4 rfl rfl (.inr ⟨rfl, rfl⟩) ?_
                  clear hm a; intro a hm
                  refine s_pick_f hm rfl rfl (bne_eq_false_iff_eq.2 hc_103) rfl ?_
                  clear hm a; intro a hm
                  refine wpList_nil ?_
                  replace hm : Fr 184 a [(2, .int .i64 x_9), (10, .bool false), (16, v_68), (134, v_44), (135, .int .i64 (([x3, x_14, t_34] : List (List api_Msg)).length : Int)), (136, .int .i64 x_57), (141, v_71), (142, .int .i64 (([x_9, 3, 5, 7] : List Int).length : Int)), (143, .int .i64 x_81), (180, .bool (!(t_92.2.2.2 == t_96.2.2.2)))] := hm.keep [2, 10, 16, 134, 135, 136, 141, 142, 143, 180]
                  refine x_then_n (hKJ_100 _ _ ?_)
                  by_cases hc_104 : t_92.2.2.2 = t_96.2.2.2
                  · rw [if_pos hc_104] at H
                    refine c_cond_f hm rfl (nf (beq_iff_eq.2 hc_104)) ?_
                    refine wp_skip ?_
                    refine x_block_n ?_
                    refine x_then_n (hKJ_86 _ _ ?_)
                    refine wp_region_lit ?_
                    refine s_arith (r := w64 (x_81 + 1)) hm rfl rfl rfl (.inl ⟨rfl, rfl⟩) ?_
                    clear hm a; intro a hm
                    refine s_move hm rfl rfl ?_
                    clear hm a; intro a hm
                    refine wpList_nil ?_
                    replace hm : Fr 184 a [(2, .int .i64 x_9), (10, .bool false), (16, v_68), (134, v_44), (135, .int .i64 (([x3, x_14, t_34] : List (List api_Msg)).length : Int)), (136, .int .i64 x_57), (141, v_71), (142, .int .i64 (([x_9, 3, 5, 7] : List Int).length : Int)), (143, .int .i64 (w64 (x_81 + 1)))] := hm.keep [2, 10, 16, 134, 135, 136, 141, 142, 143]
                    refine x_then_n (hKL_82 _ _ ?_)
                    replace hS : Sep w0 w_97 [N_99, Mem.no, Mem.no, M_45, M_72] Z := hS
                    replace hm : Fr 184 a [(2, .int .i64 x_9), (10, .bool false), (16, v_68), (134, v_44), (135, .int .i64 (([x3, x_14, t_34] : List (List api_Msg)).length : Int)), (136, .int .i64 x_57), (141, v_71), (142, .int .i64 (([x_9, 3, 5, 7] : List Int).length : Int)), (143, .int .i64 (w64 (x_81 + 1)))] := hm.keep [2, 10, 16, 134, 135, 136, 141, 142, 143]
                    exact ⟨w64 (x_81 + 1), N_99, H, hm, (Sep.sel hS [0, 1000, 1001, 3, 4] (by decide)), (le_80.trans (le_95.trans le_99))⟩
                  · rw [if_neg hc_104] at H
                    cases H
                · rw [if_neg hc_103] at H
                  cases H
              · rw [if_neg hc_102] at H
                cases H
            · rw [if_neg hc_101] at H
              cases H
          · rw [if_neg hc_85] at H
            refine c_cond_f hm rfl (decide_eq_false hc_85) ?_
            refine wp_exit (x_then_x (x_then_x (x_block_t ?_)))
            replace hS : Sep w0 w_82 [N_80, Mem.no, Mem.no, M_45, M_72] Z := hS
            replace hm : Fr 184 a [(2, .int .i64 x_9), (10, .bool false), (134, v_44), (135, .int .i64 (([x3, x_14, t_34] : List (List api_Msg)).length : Int)), (136, .int .i64 x_57)] := hm.keep [2, 10, 134, 135, 136]
            exact x_then_n (hJ_j_79  H _ _ ⟨N_80, hm, (Sep.sel hS [0, 1000, 1001, 3, 1003] (by decide)), le_80⟩)
        · rw [if_neg hc_61] at H
          refine c_cond_f hm rfl (decide_eq_false hc_61) ?_
          refine wp_exit (x_then_x (x_then_x (x_block_t ?_)))
          replace hS : Sep w0 w_58 [N_56, Mem.no, Mem.no, M_45] Z := hS
          replace hm : Fr 184 a [(10, .bool false)] := hm.keep [10]
          exact x_then_n (hJ_j_51  H _ _ ⟨N_56, hm, (Sep.sel hS [0, 1000, 1001, 1002] (by decide)), le_56⟩)
      clear hKJ_12
      have hS' := hS.room
      replace hS : Sep w0 w_10 [N_8, Mem.no] Z := hS'
      clear hS'
      replace hS : Sep w0 w_10 [N_8, Mem.no] Z := hS
      replace hm : Fr 184 a [(2, .int .i64 x_9), (3, p3_0), (4, p4_1), (10, .bool false), (12, .slice none 0 0), (13, .int .i64 0)] := hm.keep [2, 3, 4, 10, 12, 13]
      refine c_block ?_
      refine c_loop (fun k_112 a w_112 => ∃ (x_106 : List api_Msg) (x_111 : Int) (v_109 : Value) (N_105 : Mem) (M_107 : Mem), hocketlaw14_ViewTells.L3 K x4 (fun v => hocketlaw14_ViewTells.J2 K x3 x_9 v) k_112 (x_106, x_111) = some r ∧ Fr 184 a [(2, .int .i64 x_9), (3, p3_0), (4, p4_1), (10, .bool false), (12, v_109), (13, .int .i64 x_111)] ∧ Sep w0 w_112 [N_105, M_107] Z ∧ N_8.le N_105 ∧ Own k_api_Msg 29 M_107 N_105 v_109 x_106) K ⟨([] : List api_Msg), 0, .slice none 0 0, N_8, Mem.no, H, hm, (Sep.sel hS [0, 1] (by decide)), (Mem.le.refl _), ((Own.nil k_api_Msg 29 N_8).mono (Mem.le.refl _))⟩ (fun a w h => by obtain ⟨_, _, _, _, _, H, _⟩ := h; cases (show (none : Option (Unit)) = some r from H)) ?_
      clear hm hS a H
      rintro k_112 a w_112 KL_112 hKL_112 ⟨x_106, x_111, v_109, N_105, M_107, H, hm, hS, le_105, ho_110⟩
      replace H : hocketlaw14_ViewTells.B3 K x4 (fun v => hocketlaw14_ViewTells.J2 K x3 x_9 v) (hocketlaw14_ViewTells.L3 K x4 (fun v => hocketlaw14_ViewTells.J2 K x3 x_9 v) k_112) x_106 x_111 = some r := H
      unfold hocketlaw14_ViewTells.B3 at H
      refine c_seq fun KJ_115 hKJ_115 => ?_
      refine c_seq fun KJ_116 hKJ_116 => ?_
      have hJ_j_120 : ∀ (x_118 : Bool), hocketlaw14_ViewTells.J5 K x4 x_111 x_106 (hocketlaw14_ViewTells.L3 K x4 (fun v => hocketlaw14_ViewTells.J2 K x3 x_9 v) k_112) (fun v => hocketlaw14_ViewTells.J2 K x3 x_9 v) x_118 = some r → ∀ (a : Act) (w_119 : World), (∃ (N_117 : Mem), Fr 184 a [(2, .int .i64 x_9), (3, p3_0), (4, p4_1), (10, .bool false), (12, v_109), (13, .int .i64 x_111), (96, .bool x_118)] ∧ Sep w0 w_119 [N_117, M_107] Z ∧ N_105.le N_117) → KJ_116 a w_119 := by
        clear H hm hS a
        rintro x_118 H a w_119 ⟨N_117, hm, hS, le_117⟩
        unfold hocketlaw14_ViewTells.J5 at H
        refine hKJ_116 _ _ ?_
        by_cases hc_121 : x_118 = true
        · rw [if_pos hc_121] at H
          refine c_cond_t hm rfl hc_121 ?_
          refine wp_skip ?_
          refine x_then_n (hKJ_115 _ _ ?_)
          refine wp_seq ?_
          refine c_block ?_
          refine c_seq fun KJ_122 hKJ_122 => ?_
          have hJ_j_145 : ∀ (x_125 : api_Msg), hocketlaw14_ViewTells.J6 K x4 x_111 x_106 (hocketlaw14_ViewTells.L3 K x4 (fun v => hocketlaw14_ViewTells.J2 K x3 x_9 v) k_112) x_125 = some r → ∀ (a : Act) (w_144 : World), (∃ (v_128 : Value) (v_132 : Value) (v_136 : Value) (v_138 : Value) (v_140 : Value) (v_142 : Value) (g_124 : Nat) (N_123 : Mem) (M_126 : Mem) (M_130 : Mem) (M_134 : Mem), Fr 184 a [(2, .int .i64 x_9), (3, p3_0), (4, p4_1), (10, .bool false), (12, v_109), (13, .int .i64 x_111), (14, .pointer (some ⟨g_124, 0, none⟩))] ∧ Sep w0 w_144 [N_123, M_107, Mem.one g_124 (.cells ([.int .i64 x_125.Kind, .int .i64 x_125.From, .int .i64 x_125.To, .int .i64 x_125.View, .int .i64 x_125.Inst, .int .i64 x_125.Len, .bool x_125.Has, .int .i64 x_125.Members, .int .i64 x_125.Source, .int .i64 x_125.At, .int .i64 x_125.Total, v_128, .int .i64 x_125.Hop, .int .i64 x_125.Seq, v_132, v_136, .int .i64 x_125.Index, .int .i64 x_125.Entry.Sess, .int .i64 x_125.Entry.Seq, .int .i64 x_125.Entry.Cmd.Kind, .int .i64 x_125.Entry.Cmd.Who, v_138, v_140, v_142] : List Value).toArray 29 (0, 0)), M_126, M_130, M_134] Z ∧ N_117.le N_123 ∧ Own Kd.u8 5 M_126 Mem.no v_128 x_125.Data ∧ Own (Kd.int .i64) 3 M_130 Mem.no v_132 x_125.Have ∧ Own (Kd.int .i64) 3 M_134 Mem.no v_136 x_125.Need ∧ Rd Kd.u8 N_123 v_138 x_125.Entry.Cmd.Key ∧ Rd Kd.u8 N_123 v_140 x_125.Entry.Cmd.Val ∧ Rd Kd.u8 N_123 v_142 x_125.Entry.Cmd.Old) → KJ_122 a w_144 := by
            clear H hm hS a
            rintro x_125 H a w_144 ⟨v_128, v_132, v_136, v_138, v_140, v_142, g_124, N_123, M_126, M_130, M_134, hm, hS, le_123, ho_129, ho_133, ho_137, hr_139, hr_141, hr_143⟩
            unfold hocketlaw14_ViewTells.J6 at H
            refine hKJ_122 _ _ ?_
            refine wp_seq ?_
            refine wp_region_lit ?_
            refine s_fieldAddr hm rfl Try.underlying29 rfl ti3 rfl rfl ?_
            clear hm a; intro a hm
            refine s_load hm rfl rfl (hS.load_one (p := 2) rfl Try.underlying3 rfl rfl) ?_
            clear hm a; intro a hm
            refine s_bits (i := x_125.Inst) (j := 3) (r := band .i64 x_125.Inst 3) hm rfl rfl rfl (.inl ⟨rfl, rfl⟩) ?_
            clear hm a; intro a hm
            refine s_arith (r := w64 ((band .i64 x_125.Inst 3) * 8)) hm rfl rfl rfl (.inr (.inr ⟨rfl, rfl⟩)) ?_
            clear hm a; intro a hm
            refine s_fieldAddr hm rfl Try.underlying29 rfl ti3 rfl rfl ?_
            clear hm a; intro a hm
            obtain ⟨w_146, hs', hS'⟩ := hS.store (P := Try.prog) (p := 2) (o := 4) (t := 3) (v := .int .i64 (w64 ((band .i64 x_125.Inst 3) * 8))) (vs := [.int .i64 (w64 ((band .i64 x_125.Inst 3) * 8))]) rfl ti3 rfl rfl rfl (by intro u hu; simp only [List.mem_cons, List.not_mem_nil, or_false] at hu; rcases hu with rfl <;> rfl)
            refine s_store hm rfl rfl hs' ?_
            replace hS : Sep w0 w_146 [N_123, M_107, Mem.one g_124 (.cells ([.int .i64 x_125.Kind, .int .i64 x_125.From, .int .i64 x_125.To, .int .i64 x_125.View, .int .i64 (w64 ((band .i64 x_125.Inst 3) * 8)), .int .i64 x_125.Len, .bool x_125.Has, .int .i64 x_125.Members, .int .i64 x_125.Source, .int .i64 x_125.At, .int .i64 x_125.Total, v_128, .int .i64 x_125.Hop, .int .i64 x_125.Seq, v_132, v_136, .int .i64 x_125.Index, .int .i64 x_125.Entry.Sess, .int .i64 x_125.Entry.Seq, .int .i64 x_125.Entry.Cmd.Kind, .int .i64 x_125.Entry.Cmd.Who, v_138, v_140, v_142] : List Value).toArray 29 (0, 0)), M_126, M_130, M_134] Z := hS'
            clear hs' hS'
            refine wpList_nil ?_
            replace hm : Fr 184 a [(2, .int .i64 x_9), (3, p3_0), (4, p4_1), (10, .bool false), (12, v_109), (13, .int .i64 x_111), (14, .pointer (some ⟨g_124, 0, none⟩))] := hm.keep [2, 3, 4, 10, 12, 13, 14]
            refine x_then_n ?_
            refine wp_seq ?_
            refine wp_region_lit ?_
            refine s_move hm rfl rfl ?_
            clear hm a; intro a hm
            refine s_move hm rfl rfl ?_
            clear hm a; intro a hm
            obtain ⟨t_147, et_147, H⟩ := Option.bind_eq_some_iff.1 H
            refine v_index hm rfl Try.underlying23 ti3 rfl rfl rfl hp4_1 (hA.trans hS.old) et_147 ?_
            intro ad_148 cs_149 hk_150 hc_151
            obtain rfl := (show cs_149 = [.int .i64 t_147] from hk_150)
            clear hm a; intro a hm
            refine s_load hm rfl rfl (el_one (o := 0) hc_151 Try.underlying3 rfl rfl) ?_
            clear hm a; intro a hm
            refine s_shift (r := shr .i64 t_147 12) hm rfl rfl rfl (by decide) (.inr ⟨rfl, rfl⟩) ?_
            clear hm a; intro a hm
            refine s_bits (i := shr .i64 t_147 12) (j := 7) (r := band .i64 (shr .i64 t_147 12) 7) hm rfl rfl rfl (.inl ⟨rfl, rfl⟩) ?_
            clear hm a; intro a hm
            refine s_fieldAddr hm rfl Try.underlying29 rfl ti3 rfl rfl ?_
            clear hm a; intro a hm
            obtain ⟨w_152, hs', hS'⟩ := hS.store (P := Try.prog) (p := 2) (o := 1) (t := 3) (v := .int .i64 (band .i64 (shr .i64 t_147 12) 7)) (vs := [.int .i64 (band .i64 (shr .i64 t_147 12) 7)]) rfl ti3 rfl rfl rfl (by intro u hu; simp only [List.mem_cons, List.not_mem_nil, or_false] at hu; rcases hu with rfl <;> rfl)
            refine s_store hm rfl rfl hs' ?_
            replace hS : Sep w0 w_152 [N_123, M_107, Mem.one g_124 (.cells ([.int .i64 x_125.Kind, .int .i64 (band .i64 (shr .i64 t_147 12) 7), .int .i64 x_125.To, .int .i64 x_125.View, .int .i64 (w64 ((band .i64 x_125.Inst 3) * 8)), .int .i64 x_125.Len, .bool x_125.Has, .int .i64 x_125.Members, .int .i64 x_125.Source, .int .i64 x_125.At, .int .i64 x_125.Total, v_128, .int .i64 x_125.Hop, .int .i64 x_125.Seq, v_132, v_136, .int .i64 x_125.Index, .int .i64 x_125.Entry.Sess, .int .i64 x_125.Entry.Seq, .int .i64 x_125.Entry.Cmd.Kind, .int .i64 x_125.Entry.Cmd.Who, v_138, v_140, v_142] : List Value).toArray 29 (0, 0)), M_126, M_130, M_134] Z := hS'
            clear hs' hS'
            refine wpList_nil ?_
            replace hm : Fr 184 a [(2, .int .i64 x_9), (3, p3_0), (4, p4_1), (10, .bool false), (12, v_109), (13, .int .i64 x_111), (14, .pointer (some ⟨g_124, 0, none⟩))] := hm.keep [2, 3, 4, 10, 12, 13, 14]
            refine x_then_n ?_
            refine wp_region_lit ?_
            refine s_move hm rfl rfl ?_
            clear hm a; intro a hm
            refine s_load hm rfl rfl (hS.load_agg (p := 2) (us := [.int .i64 x_125.Kind, .int .i64 (band .i64 (shr .i64 t_147 12) 7), .int .i64 x_125.To, .int .i64 x_125.View, .int .i64 (w64 ((band .i64 x_125.Inst 3) * 8)), .int .i64 x_125.Len, .bool x_125.Has, .int .i64 x_125.Members, .int .i64 x_125.Source, .int .i64 x_125.At, .int .i64 x_125.Total, v_128, .int .i64 x_125.Hop, .int .i64 x_125.Seq, v_132, v_136, .int .i64 x_125.Index, .int .i64 x_125.Entry.Sess, .int .i64 x_125.Entry.Seq, .int .i64 x_125.Entry.Cmd.Kind, .int .i64 x_125.Entry.Cmd.Who, v_138, v_140, v_142]) rfl Try.underlying29 rfl ti29 rfl rfl) ?_
            clear hm a; intro a hm
            obtain ⟨N_153, hS', le_153, lo_153⟩ := hS.freeze 2 rfl
            replace hS : Sep w0 w_152 [N_153, M_107, Mem.one g_124 (.cells ([.int .i64 x_125.Kind, .int .i64 (band .i64 (shr .i64 t_147 12) 7), .int .i64 x_125.To, .int .i64 x_125.View, .int .i64 (w64 ((band .i64 x_125.Inst 3) * 8)), .int .i64 x_125.Len, .bool x_125.Has, .int .i64 x_125.Members, .int .i64 x_125.Source, .int .i64 x_125.At, .int .i64 x_125.Total, v_128, .int .i64 x_125.Hop, .int .i64 x_125.Seq, v_132, v_136, .int .i64 x_125.Index, .int .i64 x_125.Entry.Sess, .int .i64 x_125.Entry.Seq, .int .i64 x_125.Entry.Cmd.Kind, .int .i64 x_125.Entry.Cmd.Who, v_138, v_140, v_142] : List Value).toArray 29 (0, 0)), Mem.no, M_130, M_134] Z := hS'
            clear hS'
            obtain ⟨N_154, hS', le_154, lo_154⟩ := hS.freeze 3 rfl
            replace hS : Sep w0 w_152 [N_154, M_107, Mem.one g_124 (.cells ([.int .i64 x_125.Kind, .int .i64 (band .i64 (shr .i64 t_147 12) 7), .int .i64 x_125.To, .int .i64 x_125.View, .int .i64 (w64 ((band .i64 x_125.Inst 3) * 8)), .int .i64 x_125.Len, .bool x_125.Has, .int .i64 x_125.Members, .int .i64 x_125.Source, .int .i64 x_125.At, .int .i64 x_125.Total, v_128, .int .i64 x_125.Hop, .int .i64 x_125.Seq, v_132, v_136, .int .i64 x_125.Index, .int .i64 x_125.Entry.Sess, .int .i64 x_125.Entry.Seq, .int .i64 x_125.Entry.Cmd.Kind, .int .i64 x_125.Entry.Cmd.Who, v_138, v_140, v_142] : List Value).toArray 29 (0, 0)), Mem.no, Mem.no, M_134] Z := hS'
            clear hS'
            obtain ⟨N_155, hS', le_155, lo_155⟩ := hS.freeze 4 rfl
            replace hS : Sep w0 w_152 [N_155, M_107, Mem.one g_124 (.cells ([.int .i64 x_125.Kind, .int .i64 (band .i64 (shr .i64 t_147 12) 7), .int .i64 x_125.To, .int .i64 x_125.View, .int .i64 (w64 ((band .i64 x_125.Inst 3) * 8)), .int .i64 x_125.Len, .bool x_125.Has, .int .i64 x_125.Members, .int .i64 x_125.Source, .int .i64 x_125.At, .int .i64 x_125.Total, v_128, .int .i64 x_125.Hop, .int .i64 x_125.Seq, v_132, v_136, .int .i64 x_125.Index, .int .i64 x_125.Entry.Sess, .int .i64 x_125.Entry.Seq, .int .i64 x_125.Entry.Cmd.Kind, .int .i64 x_125.Entry.Cmd.Who, v_138, v_140, v_142] : List Value).toArray 29 (0, 0)), Mem.no, Mem.no, Mem.no] Z := hS'
            clear hS'
            have hq_160 : Reps k_api_Msg N_155 ([(⟨x_125.Kind, band .i64 (shr .i64 t_147 12) 7, x_125.To, x_125.View, w64 ((band .i64 x_125.Inst 3) * 8), x_125.Len, x_125.Has, x_125.Members, x_125.Source, x_125.At, x_125.Total, x_125.Data, x_125.Hop, x_125.Seq, x_125.Have, x_125.Need, x_125.Index, x_125.Entry⟩ : api_Msg)] : List api_Msg) _ := ((Reps.one (d := k_api_Msg) (x := (⟨x_125.Kind, band .i64 (shr .i64 t_147 12) 7, x_125.To, x_125.View, w64 ((band .i64 x_125.Inst 3) * 8), x_125.Len, x_125.Has, x_125.Members, x_125.Source, x_125.At, x_125.Total, x_125.Data, x_125.Hop, x_125.Seq, x_125.Have, x_125.Need, x_125.Index, x_125.Entry⟩ : api_Msg)) (k_api_Msg.mk' ((ho_129.rd lo_153 (Mem.no_le _)).mono (le_154.trans le_155)) ((ho_133.rd lo_154 (Mem.no_le _)).mono le_155) (ho_137.rd lo_155 (Mem.no_le _)) (hr_139.mono (le_153.trans (le_154.trans le_155))) (hr_141.mono (le_153.trans (le_154.trans le_155))) (hr_143.mono (le_153.trans (le_154.trans le_155))))).append (Reps.nil k_api_Msg _))
            refine s_buildSlice hm rfl Try.underlying31 ti29 rfl rfl rfl (.cons rfl .nil) rfl rfl rfl hS hq_160 rfl ?_
            intro w_156 v_157 M_158 hS' ho_159
            clear hm a; intro a hm
            replace hS : Sep w0 w_156 [N_155, M_107, Mem.one g_124 (.cells ([.int .i64 x_125.Kind, .int .i64 (band .i64 (shr .i64 t_147 12) 7), .int .i64 x_125.To, .int .i64 x_125.View, .int .i64 (w64 ((band .i64 x_125.Inst 3) * 8)), .int .i64 x_125.Len, .bool x_125.Has, .int .i64 x_125.Members, .int .i64 x_125.Source, .int .i64 x_125.At, .int .i64 x_125.Total, v_128, .int .i64 x_125.Hop, .int .i64 x_125.Seq, v_132, v_136, .int .i64 x_125.Index, .int .i64 x_125.Entry.Sess, .int .i64 x_125.Entry.Seq, .int .i64 x_125.Entry.Cmd.Kind, .int .i64 x_125.Entry.Cmd.Who, v_138, v_140, v_142] : List Value).toArray 29 (0, 0)), Mem.no, Mem.no, Mem.no, M_158] Z := hS'
            clear hS' hq_160
            obtain ⟨t_162, et_162, H⟩ := Option.bind_eq_some_iff.1 H
            refine s_append (J := N_155) (I' := N_155) (p := 1) 488671834567 hm rfl rfl rfl Try.underlying31 ti29 rfl rfl rfl rfl hS rfl ho_110 (ho_159.src (hS.own 6)) (le_117.trans (le_123.trans (le_153.trans (le_154.trans le_155)))) (Mem.le.refl _) et_162 ?_
            intro w_163 v_164 M_165 hS' ho_166
            clear hm a; intro a hm
            replace hS : Sep w0 w_163 [N_155, M_165, Mem.one g_124 (.cells ([.int .i64 x_125.Kind, .int .i64 (band .i64 (shr .i64 t_147 12) 7), .int .i64 x_125.To, .int .i64 x_125.View, .int .i64 (w64 ((band .i64 x_125.Inst 3) * 8)), .int .i64 x_125.Len, .bool x_125.Has, .int .i64 x_125.Members, .int .i64 x_125.Source, .int .i64 x_125.At, .int .i64 x_125.Total, v_128, .int .i64 x_125.Hop, .int .i64 x_125.Seq, v_132, v_136, .int .i64 x_125.Index, .int .i64 x_125.Entry.Sess, .int .i64 x_125.Entry.Seq, .int .i64 x_125.Entry.Cmd.Kind, .int .i64 x_125.Entry.Cmd.Who, v_138, v_140, v_142] : List Value).toArray 29 (0, 0)), Mem.no, Mem.no, Mem.no, M_158] Z := hS'
            clear hS'
            refine s_assign hm rfl rfl ?_
            clear hm a; intro a hm
            refine wpList_nil ?_
            replace hm : Fr 184 a [(2, .int .i64 x_9), (3, p3_0), (4, p4_1), (10, .bool false), (12, v_164), (13, .int .i64 x_111)] := hm.keep [2, 3, 4, 10, 12, 13]
            refine x_block_n ?_
            refine x_then_n ?_
            refine wp_region_lit ?_
            refine s_move hm rfl rfl ?_
            clear hm a; intro a hm
            refine s_arith (r := w64 (x_111 + 1)) hm rfl rfl rfl (.inl ⟨rfl, rfl⟩) ?_
            clear hm a; intro a hm
            refine s_assign hm rfl rfl ?_
            clear hm a; intro a hm
            refine wpList_nil ?_
            replace hm : Fr 184 a [(2, .int .i64 x_9), (3, p3_0), (4, p4_1), (10, .bool false), (12, v_164), (13, .int .i64 (w64 (x_111 + 1)))] := hm.keep [2, 3, 4, 10, 12, 13]
            refine x_then_n (hKL_112 _ _ ?_)
            replace hS : Sep w0 w_163 [N_155, M_165, Mem.one g_124 (.cells ([.int .i64 x_125.Kind, .int .i64 (band .i64 (shr .i64 t_147 12) 7), .int .i64 x_125.To, .int .i64 x_125.View, .int .i64 (w64 ((band .i64 x_125.Inst 3) * 8)), .int .i64 x_125.Len, .bool x_125.Has, .int .i64 x_125.Members, .int .i64 x_125.Source, .int .i64 x_125.At, .int .i64 x_125.Total, v_128, .int .i64 x_125.Hop, .int .i64 x_125.Seq, v_132, v_136, .int .i64 x_125.Index, .int .i64 x_125.Entry.Sess, .int .i64 x_125.Entry.Seq, .int .i64 x_125.Entry.Cmd.Kind, .int .i64 x_125.Entry.Cmd.Who, v_138, v_140, v_142] : List Value).toArray 29 (0, 0)), Mem.no, Mem.no, Mem.no, M_158] Z := hS
            replace hm : Fr 184 a [(2, .int .i64 x_9), (3, p3_0), (4, p4_1), (10, .bool false), (12, v_164), (13, .int .i64 (w64 (x_111 + 1)))] := hm.keep [2, 3, 4, 10, 12, 13]
            exact ⟨t_162, w64 (x_111 + 1), v_164, N_155, M_165, H, hm, (Sep.sel hS [0, 1] (by decide)), (le_105.trans (le_117.trans (le_123.trans (le_153.trans (le_154.trans le_155))))), (ho_166.mono (Mem.le.refl _))⟩
          clear hKJ_122
          refine h_begin (S := fun w => Sep w0 w [N_117, M_107] Z) 14 (by kernel_rfl) rfl [false, false, false, false, false, false, false, false, false, false, false, false, false, false].toArray rfl hS fun w_168 hS => ?_
          replace hS : Sep w0 w_168 [N_117, M_107] Z := hS
          refine h_take 0 [true, false, false, false, false, false, false, false, false, false, false, false, false, false].toArray rfl (by kernel_rfl) (by kernel_rfl) (by kernel_rfl) (fun _ _ _ _ h => h) rfl rfl rfl rfl hm (hS.sub (.cons (Mem.le.refl _) (.cons (Mem.le.refl _) (Sub.nil _)))) (v := p4_1) (fun w hS => r_move hm rfl) ?_
          clear hm a; intro a hm
          refine h_take 1 [true, true, false, false, false, false, false, false, false, false, false, false, false, false].toArray rfl (by kernel_rfl) (by kernel_rfl) (by kernel_rfl) (fun _ _ _ _ h => h) rfl rfl rfl rfl hm (hS.sub (.cons (Mem.le.refl _) (.cons (Mem.le.refl _) (Sub.nil _)))) (v := .int .i64 x_111) (fun w hS => r_move hm rfl) ?_
          clear hm a; intro a hm
          obtain ⟨t_169, et_169, H⟩ := Option.bind_eq_some_iff.1 H
          refine h_takeE 2 [true, true, true, false, false, false, false, false, false, false, false, false, false, false].toArray rfl (by kernel_rfl) (by kernel_rfl) (by kernel_rfl) (fun _ _ _ _ h => h) rfl rfl rfl rfl hm (hS.sub (.cons (Mem.le.refl _) (.cons (Mem.le.refl _) (Sub.nil _)))) (f := fun ad => .pointer (some ad)) (r_index hm Try.underlying23 ti3 rfl rfl rfl hp4_1 et_169) ?_
          rintro ad_170 ⟨cs_171, hk_172, hc_173⟩
          obtain rfl := (show cs_171 = [.int .i64 t_169] from hk_172)
          clear hm a; intro a hm
          refine h_take 3 [true, true, true, true, false, false, false, false, false, false, false, false, false, false].toArray rfl (by kernel_rfl) (by kernel_rfl) (by kernel_rfl) (fun _ _ _ _ h => h) rfl rfl rfl rfl hm (hS.sub (.cons (Mem.le.refl _) (.cons (Mem.le.refl _) (Sub.nil _)))) (v := .int .i64 t_169) (fun w hS => r_load hm rfl (el_one (o := 0) (fun j c h => Mem.cell_le (hA.trans hS.old) (hc_173 j c h)) Try.underlying3 rfl rfl)) ?_
          clear hm a; intro a hm
          refine h_take 4 [true, true, true, true, true, false, false, false, false, false, false, false, false, false].toArray rfl (by kernel_rfl) (by kernel_rfl) (by kernel_rfl) (fun _ _ _ _ h => h) rfl rfl rfl rfl hm (hS.sub (.cons (Mem.le.refl _) (.cons (Mem.le.refl _) (Sub.nil _)))) (v := .int .i64 (bandn .i64 t_169 7)) (fun w hS => r_bits (i := t_169) (j := 7) (r := bandn .i64 t_169 7) hm rfl rfl (.inr (.inr (.inr ⟨rfl, rfl⟩)))) ?_
          clear hm a; intro a hm
          refine h_take 5 [true, true, true, true, true, true, false, false, false, false, false, false, false, false].toArray rfl (by kernel_rfl) (by kernel_rfl) (by kernel_rfl) (fun _ _ _ _ h => h) rfl rfl rfl rfl hm (hS.sub (.cons (Mem.le.refl _) (.cons (Mem.le.refl _) (Sub.nil _)))) (v := .int .i64 (bor .i64 (bandn .i64 t_169 7) 1)) (fun w hS => r_bits (i := bandn .i64 t_169 7) (j := 1) (r := bor .i64 (bandn .i64 t_169 7) 1) hm rfl rfl (.inr (.inl ⟨rfl, rfl⟩))) ?_
          clear hm a; intro a hm
          refine h_take 6 [true, true, true, true, true, true, true, false, false, false, false, false, false, false].toArray rfl (by kernel_rfl) (by kernel_rfl) (by kernel_rfl) (fun _ _ _ _ h => h) rfl rfl rfl rfl hm (hS.sub (.cons (Mem.le.refl _) (.cons (Mem.le.refl _) (Sub.nil _)))) (v := p4_1) (fun w hS => r_move hm rfl) ?_
          clear hm a; intro a hm
          refine h_take 7 [true, true, true, true, true, true, true, true, false, false, false, false, false, false].toArray rfl (by kernel_rfl) (by kernel_rfl) (by kernel_rfl) (fun _ _ _ _ h => h) rfl rfl rfl rfl hm (hS.sub (.cons (Mem.le.refl _) (.cons (Mem.le.refl _) (Sub.nil _)))) (v := .int .i64 x_111) (fun w hS => r_move hm rfl) ?_
          clear hm a; intro a hm
          obtain ⟨t_174, et_174, H⟩ := Option.bind_eq_some_iff.1 H
          refine h_takeE 8 [true, true, true, true, true, true, true, true, true, false, false, false, false, false].toArray rfl (by kernel_rfl) (by kernel_rfl) (by kernel_rfl) (fun _ _ _ _ h => h) rfl rfl rfl rfl hm (hS.sub (.cons (Mem.le.refl _) (.cons (Mem.le.refl _) (Sub.nil _)))) (f := fun ad => .pointer (some ad)) (r_index hm Try.underlying23 ti3 rfl rfl rfl hp4_1 et_174) ?_
          rintro ad_175 ⟨cs_176, hk_177, hc_178⟩
          obtain rfl := (show cs_176 = [.int .i64 t_174] from hk_177)
          clear hm a; intro a hm
          refine h_take 9 [true, true, true, true, true, true, true, true, true, true, false, false, false, false].toArray rfl (by kernel_rfl) (by kernel_rfl) (by kernel_rfl) (fun _ _ _ _ h => h) rfl rfl rfl rfl hm (hS.sub (.cons (Mem.le.refl _) (.cons (Mem.le.refl _) (Sub.nil _)))) (v := .int .i64 t_174) (fun w hS => r_load hm rfl (el_one (o := 0) (fun j c h => Mem.cell_le (hA.trans hS.old) (hc_178 j c h)) Try.underlying3 rfl rfl)) ?_
          clear hm a; intro a hm
          refine h_take 10 [true, true, true, true, true, true, true, true, true, true, true, false, false, false].toArray rfl (by kernel_rfl) (by kernel_rfl) (by kernel_rfl) (fun _ _ _ _ h => h) rfl rfl rfl rfl hm (hS.sub (.cons (Mem.le.refl _) (.cons (Mem.le.refl _) (Sub.nil _)))) (v := .int .i64 (shr .i64 t_174 4)) (fun w hS => r_shift (r := shr .i64 t_174 4) hm rfl rfl (by decide) (.inr ⟨rfl, rfl⟩)) ?_
          clear hm a; intro a hm
          obtain ⟨t_179, et_179, H⟩ := Option.bind_eq_some_iff.1 H
          refine h_events [11, 12] (by kernel_rfl) (by simp) ?_
          intro i hi; simp only [List.mem_cons, List.not_mem_nil, or_false] at hi; rcases hi with rfl | rfl
          · refine ⟨_, [true, true, true, true, true, true, true, true, true, true, true, true, false, false].toArray, rfl, rfl, ?_⟩
            refine s_call hm rfl Try.call31 rfl (hocketlaw11_Msg.calls K (bor .i64 (bandn .i64 t_169 7) 1) (shr .i64 t_174 4) t_179 w0 _ _ _ (Mem.le.refl _) (hS.enter [] (by decide))  et_179) ?_
            rintro _ w_180 ⟨v_183, v_187, v_191, v_195, v_197, v_199, N_181, M_185, M_189, M_193, rfl, hS', hr_184, hr_188, hr_192, hr_196, hr_198, hr_200⟩
            clear hm a; intro a hm
            obtain ⟨N_182, hS'', le_182, ln_182⟩ := hS.call [] (by decide) rfl (l' := []) (ow := [M_185, M_189, M_193]) rfl hS'
            replace hS : Sep w0 w_180 [N_182, M_107, M_185, M_189, M_193] Z := hS''
            clear hS' hS''
            refine wpList_nil ?_
            refine x_then_n ⟨(hS.sub (.cons le_182 (.cons (Mem.le.refl _) (Sub.nil _)))), ?_⟩
            refine h_event 12 [true, true, true, true, true, true, true, true, true, true, true, true, true, false].toArray rfl (by kernel_rfl) rfl ?_
            refine v_alloc hm rfl ti29 hS ?_
            intro w_201 g_202 hS'
            clear hm a; intro a hm
            replace hS : Sep w0 w_201 [N_182, M_107, M_185, M_189, M_193, Mem.one g_202 (.cells ([.int .i64 0, .int .i64 0, .int .i64 0, .int .i64 0, .int .i64 0, .int .i64 0, .bool false, .int .i64 0, .int .i64 0, .int .i64 0, .int .i64 0, .slice none 0 0, .int .i64 0, .int .i64 0, .slice none 0 0, .slice none 0 0, .int .i64 0, .int .i64 0, .int .i64 0, .int .i64 0, .int .i64 0, .slice none 0 0, .slice none 0 0, .slice none 0 0] : List Value).toArray 29 (0, 0))] Z := hS'
            clear hS'
            refine wpList_nil ?_
            refine x_then_n ⟨(hS.sub (.cons le_182 (.cons (Mem.le.refl _) (Sub.nil _)))), ?_⟩
            refine h_event 13 [true, true, true, true, true, true, true, true, true, true, true, true, true, true].toArray rfl (by kernel_rfl) rfl ?_
            obtain ⟨w_203, hs', hS'⟩ := hS.store (P := Try.prog) (p := 5) (o := 0) (t := 29) (v := .agg ([.int .i64 t_179.Kind, .int .i64 t_179.From, .int .i64 t_179.To, .int .i64 t_179.View, .int .i64 t_179.Inst, .int .i64 t_179.Len, .bool t_179.Has, .int .i64 t_179.Members, .int .i64 t_179.Source, .int .i64 t_179.At, .int .i64 t_179.Total, v_183, .int .i64 t_179.Hop, .int .i64 t_179.Seq, v_187, v_191, .int .i64 t_179.Index, .int .i64 t_179.Entry.Sess, .int .i64 t_179.Entry.Seq, .int .i64 t_179.Entry.Cmd.Kind, .int .i64 t_179.Entry.Cmd.Who, v_195, v_197, v_199] : List Value).toArray) (vs := [.int .i64 t_179.Kind, .int .i64 t_179.From, .int .i64 t_179.To, .int .i64 t_179.View, .int .i64 t_179.Inst, .int .i64 t_179.Len, .bool t_179.Has, .int .i64 t_179.Members, .int .i64 t_179.Source, .int .i64 t_179.At, .int .i64 t_179.Total, v_183, .int .i64 t_179.Hop, .int .i64 t_179.Seq, v_187, v_191, .int .i64 t_179.Index, .int .i64 t_179.Entry.Sess, .int .i64 t_179.Entry.Seq, .int .i64 t_179.Entry.Cmd.Kind, .int .i64 t_179.Entry.Cmd.Who, v_195, v_197, v_199]) rfl ti29 rfl rfl rfl (by intro u hu; simp only [List.mem_cons, List.not_mem_nil, or_false] at hu; rcases hu with rfl | rfl | rfl | rfl | rfl | rfl | rfl | rfl | rfl | rfl | rfl | rfl | rfl | rfl | rfl | rfl | rfl | rfl | rfl | rfl | rfl | rfl | rfl | rfl <;> first | rfl | exact hr_184.one | exact hr_188.one | exact hr_192.one | exact (hr_196.mono ln_182).one | exact (hr_198.mono ln_182).one | exact (hr_200.mono ln_182).one)
            refine s_store hm rfl rfl hs' ?_
            replace hS : Sep w0 w_203 [N_182, M_107, M_185, M_189, M_193, Mem.one g_202 (.cells ([.int .i64 t_179.Kind, .int .i64 t_179.From, .int .i64 t_179.To, .int .i64 t_179.View, .int .i64 t_179.Inst, .int .i64 t_179.Len, .bool t_179.Has, .int .i64 t_179.Members, .int .i64 t_179.Source, .int .i64 t_179.At, .int .i64 t_179.Total, v_183, .int .i64 t_179.Hop, .int .i64 t_179.Seq, v_187, v_191, .int .i64 t_179.Index, .int .i64 t_179.Entry.Sess, .int .i64 t_179.Entry.Seq, .int .i64 t_179.Entry.Cmd.Kind, .int .i64 t_179.Entry.Cmd.Who, v_195, v_197, v_199] : List Value).toArray 29 (0, 0))] Z := hS'
            clear hs' hS'
            refine wpList_nil ?_
            refine x_then_n ⟨(hS.sub (.cons le_182 (.cons (Mem.le.refl _) (Sub.nil _)))), ?_⟩
            refine h_done (by kernel_rfl) ?_
            replace hm : Fr 184 a [(2, .int .i64 x_9), (3, p3_0), (4, p4_1), (10, .bool false), (12, v_109), (13, .int .i64 x_111), (14, .pointer (some ⟨g_202, 0, none⟩))] := hm.keep [2, 3, 4, 10, 12, 13, 14]
            replace hS : Sep w0 w_203 [N_182, M_107, M_185, M_189, M_193, Mem.one g_202 (.cells ([.int .i64 t_179.Kind, .int .i64 t_179.From, .int .i64 t_179.To, .int .i64 t_179.View, .int .i64 t_179.Inst, .int .i64 t_179.Len, .bool t_179.Has, .int .i64 t_179.Members, .int .i64 t_179.Source, .int .i64 t_179.At, .int .i64 t_179.Total, v_183, .int .i64 t_179.Hop, .int .i64 t_179.Seq, v_187, v_191, .int .i64 t_179.Index, .int .i64 t_179.Entry.Sess, .int .i64 t_179.Entry.Seq, .int .i64 t_179.Entry.Cmd.Kind, .int .i64 t_179.Entry.Cmd.Who, v_195, v_197, v_199] : List Value).toArray 29 (0, 0))] Z := hS
            replace hm : Fr 184 a [(2, .int .i64 x_9), (3, p3_0), (4, p4_1), (10, .bool false), (12, v_109), (13, .int .i64 x_111), (14, .pointer (some ⟨g_202, 0, none⟩))] := hm.keep [2, 3, 4, 10, 12, 13, 14]
            exact x_then_n (hJ_j_145 t_179 H _ _ ⟨v_183, v_187, v_191, v_195, v_197, v_199, g_202, N_182, M_185, M_189, M_193, hm, (Sep.sel hS [0, 1, 5, 2, 3, 4] (by decide)), le_182, hr_184, hr_188, hr_192, (hr_196.mono ln_182), (hr_198.mono ln_182), (hr_200.mono ln_182)⟩)
          · refine ⟨_, [true, true, true, true, true, true, true, true, true, true, true, false, true, false].toArray, rfl, rfl, ?_⟩
            refine v_alloc hm rfl ti29 hS ?_
            intro w_204 g_205 hS'
            clear hm a; intro a hm
            replace hS : Sep w0 w_204 [N_117, M_107, Mem.one g_205 (.cells ([.int .i64 0, .int .i64 0, .int .i64 0, .int .i64 0, .int .i64 0, .int .i64 0, .bool false, .int .i64 0, .int .i64 0, .int .i64 0, .int .i64 0, .slice none 0 0, .int .i64 0, .int .i64 0, .slice none 0 0, .slice none 0 0, .int .i64 0, .int .i64 0, .int .i64 0, .int .i64 0, .int .i64 0, .slice none 0 0, .slice none 0 0, .slice none 0 0] : List Value).toArray 29 (0, 0))] Z := hS'
            clear hS'
            refine wpList_nil ?_
            refine x_then_n ⟨(hS.sub (.cons (Mem.le.refl _) (.cons (Mem.le.refl _) (Sub.nil _)))), ?_⟩
            refine h_event 11 [true, true, true, true, true, true, true, true, true, true, true, true, true, false].toArray rfl (by kernel_rfl) rfl ?_
            refine s_call hm rfl Try.call31 rfl (hocketlaw11_Msg.calls K (bor .i64 (bandn .i64 t_169 7) 1) (shr .i64 t_174 4) t_179 w0 _ _ _ (Mem.le.refl _) (hS.enter [] (by decide))  et_179) ?_
            rintro _ w_207 ⟨v_210, v_214, v_218, v_222, v_224, v_226, N_208, M_212, M_216, M_220, rfl, hS', hr_211, hr_215, hr_219, hr_223, hr_225, hr_227⟩
            clear hm a; intro a hm
            obtain ⟨N_209, hS'', le_209, ln_209⟩ := hS.call [] (by decide) rfl (l' := []) (ow := [M_212, M_216, M_220]) rfl hS'
            replace hS : Sep w0 w_207 [N_209, M_107, Mem.one g_205 (.cells ([.int .i64 0, .int .i64 0, .int .i64 0, .int .i64 0, .int .i64 0, .int .i64 0, .bool false, .int .i64 0, .int .i64 0, .int .i64 0, .int .i64 0, .slice none 0 0, .int .i64 0, .int .i64 0, .slice none 0 0, .slice none 0 0, .int .i64 0, .int .i64 0, .int .i64 0, .int .i64 0, .int .i64 0, .slice none 0 0, .slice none 0 0, .slice none 0 0] : List Value).toArray 29 (0, 0)), M_212, M_216, M_220] Z := hS''
            clear hS' hS''
            refine wpList_nil ?_
            refine x_then_n ⟨(hS.sub (.cons le_209 (.cons (Mem.le.refl _) (Sub.nil _)))), ?_⟩
            refine h_event 13 [true, true, true, true, true, true, true, true, true, true, true, true, true, true].toArray rfl (by kernel_rfl) rfl ?_
            obtain ⟨w_228, hs', hS'⟩ := hS.store (P := Try.prog) (p := 2) (o := 0) (t := 29) (v := .agg ([.int .i64 t_179.Kind, .int .i64 t_179.From, .int .i64 t_179.To, .int .i64 t_179.View, .int .i64 t_179.Inst, .int .i64 t_179.Len, .bool t_179.Has, .int .i64 t_179.Members, .int .i64 t_179.Source, .int .i64 t_179.At, .int .i64 t_179.Total, v_210, .int .i64 t_179.Hop, .int .i64 t_179.Seq, v_214, v_218, .int .i64 t_179.Index, .int .i64 t_179.Entry.Sess, .int .i64 t_179.Entry.Seq, .int .i64 t_179.Entry.Cmd.Kind, .int .i64 t_179.Entry.Cmd.Who, v_222, v_224, v_226] : List Value).toArray) (vs := [.int .i64 t_179.Kind, .int .i64 t_179.From, .int .i64 t_179.To, .int .i64 t_179.View, .int .i64 t_179.Inst, .int .i64 t_179.Len, .bool t_179.Has, .int .i64 t_179.Members, .int .i64 t_179.Source, .int .i64 t_179.At, .int .i64 t_179.Total, v_210, .int .i64 t_179.Hop, .int .i64 t_179.Seq, v_214, v_218, .int .i64 t_179.Index, .int .i64 t_179.Entry.Sess, .int .i64 t_179.Entry.Seq, .int .i64 t_179.Entry.Cmd.Kind, .int .i64 t_179.Entry.Cmd.Who, v_222, v_224, v_226]) rfl ti29 rfl rfl rfl (by intro u hu; simp only [List.mem_cons, List.not_mem_nil, or_false] at hu; rcases hu with rfl | rfl | rfl | rfl | rfl | rfl | rfl | rfl | rfl | rfl | rfl | rfl | rfl | rfl | rfl | rfl | rfl | rfl | rfl | rfl | rfl | rfl | rfl | rfl <;> first | rfl | exact hr_211.one | exact hr_215.one | exact hr_219.one | exact (hr_223.mono ln_209).one | exact (hr_225.mono ln_209).one | exact (hr_227.mono ln_209).one)
            refine s_store hm rfl rfl hs' ?_
            replace hS : Sep w0 w_228 [N_209, M_107, Mem.one g_205 (.cells ([.int .i64 t_179.Kind, .int .i64 t_179.From, .int .i64 t_179.To, .int .i64 t_179.View, .int .i64 t_179.Inst, .int .i64 t_179.Len, .bool t_179.Has, .int .i64 t_179.Members, .int .i64 t_179.Source, .int .i64 t_179.At, .int .i64 t_179.Total, v_210, .int .i64 t_179.Hop, .int .i64 t_179.Seq, v_214, v_218, .int .i64 t_179.Index, .int .i64 t_179.Entry.Sess, .int .i64 t_179.Entry.Seq, .int .i64 t_179.Entry.Cmd.Kind, .int .i64 t_179.Entry.Cmd.Who, v_222, v_224, v_226] : List Value).toArray 29 (0, 0)), M_212, M_216, M_220] Z := hS'
            clear hs' hS'
            refine wpList_nil ?_
            refine x_then_n ⟨(hS.sub (.cons le_209 (.cons (Mem.le.refl _) (Sub.nil _)))), ?_⟩
            refine h_done (by kernel_rfl) ?_
            replace hm : Fr 184 a [(2, .int .i64 x_9), (3, p3_0), (4, p4_1), (10, .bool false), (12, v_109), (13, .int .i64 x_111), (14, .pointer (some ⟨g_205, 0, none⟩))] := hm.keep [2, 3, 4, 10, 12, 13, 14]
            replace hS : Sep w0 w_228 [N_209, M_107, Mem.one g_205 (.cells ([.int .i64 t_179.Kind, .int .i64 t_179.From, .int .i64 t_179.To, .int .i64 t_179.View, .int .i64 t_179.Inst, .int .i64 t_179.Len, .bool t_179.Has, .int .i64 t_179.Members, .int .i64 t_179.Source, .int .i64 t_179.At, .int .i64 t_179.Total, v_210, .int .i64 t_179.Hop, .int .i64 t_179.Seq, v_214, v_218, .int .i64 t_179.Index, .int .i64 t_179.Entry.Sess, .int .i64 t_179.Entry.Seq, .int .i64 t_179.Entry.Cmd.Kind, .int .i64 t_179.Entry.Cmd.Who, v_222, v_224, v_226] : List Value).toArray 29 (0, 0)), M_212, M_216, M_220] Z := hS
            replace hm : Fr 184 a [(2, .int .i64 x_9), (3, p3_0), (4, p4_1), (10, .bool false), (12, v_109), (13, .int .i64 x_111), (14, .pointer (some ⟨g_205, 0, none⟩))] := hm.keep [2, 3, 4, 10, 12, 13, 14]
            exact x_then_n (hJ_j_145 t_179 H _ _ ⟨v_210, v_214, v_218, v_222, v_224, v_226, g_205, N_209, M_212, M_216, M_220, hm, (Sep.sel hS [0, 1, 2, 3, 4, 5] (by decide)), le_209, hr_211, hr_215, hr_219, (hr_223.mono ln_209), (hr_225.mono ln_209), (hr_227.mono ln_209)⟩)
        · rw [if_neg hc_121] at H
          refine c_cond_f hm rfl (Bool.eq_false_iff.2 hc_121) ?_
          refine wp_exit (x_then_x (x_then_x (x_block_t ?_)))
          replace hS : Sep w0 w_119 [N_117, M_107] Z := hS
          replace hm : Fr 184 a [(2, .int .i64 x_9), (3, p3_0), (10, .bool false), (12, v_109)] := hm.keep [2, 3, 10, 12]
          exact x_then_n (hJ_j_20 x_106 H _ _ ⟨v_109, N_117, M_107, hm, (Sep.sel hS [0, 1] (by decide)), (le_105.trans le_117), (ho_110.mono le_117)⟩)
      clear hKJ_116
      refine wp_region_lit ?_
      refine s_move hm rfl rfl ?_
      clear hm a; intro a hm
      refine s_move hm rfl rfl ?_
      clear hm a; intro a hm
      refine s_len hm rfl Try.underlying23 rfl hp4_1 ?_
      clear hm a; intro a hm
      refine s_cmp (b := decide (x_111 < (x4.length : Int))) hm rfl rfl rfl (.inr (.inr (.inl ⟨rfl, rfl⟩))) ?_
      clear hm a; intro a hm
      refine s_move hm rfl rfl ?_
      clear hm a; intro a hm
      by_cases hc_229 : x_111 < (x4.length : Int)
      · rw [if_pos hc_229] at H
        refine s_on hm rfl rfl (decide_eq_true hc_229) ?_
        refine s_move hm rfl rfl ?_
        clear hm a; intro a hm
        refine s_on hm rfl rfl (decide_eq_true hc_229) ?_
        refine s_cmp (b := decide (x_111 < 9)) hm rfl rfl rfl (.inr (.inr (.inl ⟨rfl, rfl⟩))) ?_
        clear hm a; intro a hm
        refine s_pick_t hm rfl rfl (decide_eq_true hc_229) rfl ?_
        clear hm a; intro a hm
        refine wpList_nil ?_
        replace hm : Fr 184 a [(2, .int .i64 x_9), (3, p3_0), (4, p4_1), (10, .bool false), (12, v_109), (13, .int .i64 x_111), (96, .bool (decide (x_111 < 9)))] := hm.keep [2, 3, 4, 10, 12, 13, 96]
        replace hS : Sep w0 w_112 [N_105, M_107] Z := hS
        replace hm : Fr 184 a [(2, .int .i64 x_9), (3, p3_0), (4, p4_1), (10, .bool false), (12, v_109), (13, .int .i64 x_111), (96, .bool (decide (x_111 < 9)))] := hm.keep [2, 3, 4, 10, 12, 13, 96]
        exact x_then_n (hJ_j_120 (decide (x_111 < 9)) H _ _ ⟨N_105, hm, (Sep.sel hS [0, 1] (by decide)), (Mem.le.refl _)⟩)
      · rw [if_neg hc_229] at H
        refine s_off hm rfl rfl rfl (decide_eq_false hc_229) ?_
        clear hm a; intro a hm
        refine s_off hm rfl rfl rfl (decide_eq_false hc_229) ?_
        clear hm a; intro a hm
        refine s_pick_f hm rfl rfl (decide_eq_false hc_229) rfl ?_
        clear hm a; intro a hm
        refine wpList_nil ?_
        replace hm : Fr 184 a [(2, .int .i64 x_9), (3, p3_0), (4, p4_1), (10, .bool false), (12, v_109), (13, .int .i64 x_111), (96, .bool false)] := hm.keep [2, 3, 4, 10, 12, 13, 96]
        replace hS : Sep w0 w_112 [N_105, M_107] Z := hS
        replace hm : Fr 184 a [(2, .int .i64 x_9), (3, p3_0), (4, p4_1), (10, .bool false), (12, v_109), (13, .int .i64 x_111), (96, .bool false)] := hm.keep [2, 3, 4, 10, 12, 13, 96]
        exact x_then_n (hJ_j_120 false H _ _ ⟨N_105, hm, (Sep.sel hS [0, 1] (by decide)), (Mem.le.refl _)⟩)
    clear hKJ_7
    replace hS : Sep w0 w [Mem.no] Z := hS
    replace hm : Fr 184 a [(0, .int .i64 x0), (1, .int .i64 x1), (2, .int .i64 x2), (3, p3_0), (4, p4_1), (10, .bool false), (11, .int .i64 0)] := hm.keep [0, 1, 2, 3, 4, 10, 11]
    refine c_block ?_
    refine c_loop (fun k_235 a w_235 => ∃ (x_231 : Int) (x_232 : Int) (x_233 : Int) (x_234 : Int) (N_230 : Mem), hocketlaw14_ViewTells.L4 K (fun v => hocketlaw14_ViewTells.J1 K x4 x3 v) k_235 (x_231, x_232, x_233, x_234) = some r ∧ Fr 184 a [(0, .int .i64 x_231), (1, .int .i64 x_232), (2, .int .i64 x_233), (3, p3_0), (4, p4_1), (10, .bool false), (11, .int .i64 x_234)] ∧ Sep w0 w_235 [N_230] Z ∧ Mem.no.le N_230) K ⟨x0, x1, x2, 0, Mem.no, H, hm, (Sep.sel hS [0] (by decide)), (Mem.le.refl _)⟩ (fun a w h => by obtain ⟨_, _, _, _, _, H, _⟩ := h; cases (show (none : Option (Unit)) = some r from H)) ?_
    clear hm hS a H
    rintro k_235 a w_235 KL_235 hKL_235 ⟨x_231, x_232, x_233, x_234, N_230, H, hm, hS, le_230⟩
    replace H : hocketlaw14_ViewTells.B4 K (fun v => hocketlaw14_ViewTells.J1 K x4 x3 v) (hocketlaw14_ViewTells.L4 K (fun v => hocketlaw14_ViewTells.J1 K x4 x3 v) k_235) x_231 x_232 x_233 x_234 = some r := H
    unfold hocketlaw14_ViewTells.B4 at H
    refine c_seq fun KJ_237 hKJ_237 => ?_
    refine wp_seq ?_
    refine wp_region_lit ?_
    refine s_move hm rfl rfl ?_
    clear hm a; intro a hm
    refine s_cmp (b := decide (x_234 < 2)) hm rfl rfl rfl (.inr (.inr (.inl ⟨rfl, rfl⟩))) ?_
    clear hm a; intro a hm
    refine wpList_nil ?_
    replace hm : Fr 184 a [(0, .int .i64 x_231), (1, .int .i64 x_232), (2, .int .i64 x_233), (3, p3_0), (4, p4_1), (10, .bool false), (11, .int .i64 x_234), (32, .bool (decide (x_234 < 2)))] := hm.keep [0, 1, 2, 3, 4, 10, 11, 32]
    refine x_then_n ?_
    by_cases hc_238 : x_234 < 2
    · rw [if_pos hc_238] at H
      refine c_cond_t hm rfl (decide_eq_true hc_238) ?_
      refine wp_skip ?_
      refine x_then_n (hKJ_237 _ _ ?_)
      refine wp_seq ?_
      refine c_block ?_
      refine c_seq fun KJ_239 hKJ_239 => ?_
      refine c_seq fun KJ_240 hKJ_240 => ?_
      have hJ_j_244 : ∀ (x_242 : Bool), hocketlaw14_ViewTells.J7 K (hocketlaw14_ViewTells.L4 K (fun v => hocketlaw14_ViewTells.J1 K x4 x3 v) k_235) x_231 x_232 x_233 x_234 x_242 = some r → ∀ (a : Act) (w_243 : World), (∃ (N_241 : Mem), Fr 184 a [(0, .int .i64 x_231), (1, .int .i64 x_232), (2, .int .i64 x_233), (3, p3_0), (4, p4_1), (10, .bool false), (11, .int .i64 x_234), (81, .bool x_242)] ∧ Sep w0 w_243 [N_241] Z ∧ N_230.le N_241) → KJ_240 a w_243 := by
        clear H hm hS a
        rintro x_242 H a w_243 ⟨N_241, hm, hS, le_241⟩
        unfold hocketlaw14_ViewTells.J7 at H
        refine hKJ_240 _ _ ?_
        by_cases hc_245 : x_242 = true
        · rw [if_pos hc_245] at H
          cases H
        · rw [if_neg hc_245] at H
          refine c_cond_f hm rfl (Bool.eq_false_iff.2 hc_245) ?_
          refine wp_skip ?_
          refine x_then_n (hKJ_239 _ _ ?_)
          refine wp_region_lit ?_
          refine s_move hm rfl rfl ?_
          clear hm a; intro a hm
          refine s_bits (i := x_231) (j := 127) (r := band .i64 x_231 127) hm rfl rfl rfl (.inl ⟨rfl, rfl⟩) ?_
          clear hm a; intro a hm
          refine s_move hm rfl rfl ?_
          clear hm a; intro a hm
          refine s_bits (i := x_232) (j := 7) (r := band .i64 x_232 7) hm rfl rfl rfl (.inl ⟨rfl, rfl⟩) ?_
          clear hm a; intro a hm
          refine s_move hm rfl rfl ?_
          clear hm a; intro a hm
          refine s_bits (i := x_233) (j := 7) (r := band .i64 x_233 7) hm rfl rfl rfl (.inl ⟨rfl, rfl⟩) ?_
          clear hm a; intro a hm
          refine s_arith (r := w64 ((band .i64 x_233 7) + 1)) hm rfl rfl rfl (.inl ⟨rfl, rfl⟩) ?_
          clear hm a; intro a hm
          refine s_assign hm rfl rfl ?_
          clear hm a; intro a hm
          refine s_assign hm rfl rfl ?_
          clear hm a; intro a hm
          refine s_assign hm rfl rfl ?_
          clear hm a; intro a hm
          refine wpList_nil ?_
          replace hm : Fr 184 a [(0, .int .i64 (band .i64 x_231 127)), (1, .int .i64 (band .i64 x_232 7)), (2, .int .i64 (w64 ((band .i64 x_233 7) + 1))), (3, p3_0), (4, p4_1), (10, .bool false), (11, .int .i64 x_234)] := hm.keep [0, 1, 2, 3, 4, 10, 11]
          refine x_block_n ?_
          refine x_then_n ?_
          refine wp_region_lit ?_
          refine s_move hm rfl rfl ?_
          clear hm a; intro a hm
          refine s_arith (r := w64 (x_234 + 1)) hm rfl rfl rfl (.inl ⟨rfl, rfl⟩) ?_
          clear hm a; intro a hm
          refine s_assign hm rfl rfl ?_
          clear hm a; intro a hm
          refine wpList_nil ?_
          replace hm : Fr 184 a [(0, .int .i64 (band .i64 x_231 127)), (1, .int .i64 (band .i64 x_232 7)), (2, .int .i64 (w64 ((band .i64 x_233 7) + 1))), (3, p3_0), (4, p4_1), (10, .bool false), (11, .int .i64 (w64 (x_234 + 1)))] := hm.keep [0, 1, 2, 3, 4, 10, 11]
          refine x_then_n (hKL_235 _ _ ?_)
          replace hS : Sep w0 w_243 [N_241] Z := hS
          replace hm : Fr 184 a [(0, .int .i64 (band .i64 x_231 127)), (1, .int .i64 (band .i64 x_232 7)), (2, .int .i64 (w64 ((band .i64 x_233 7) + 1))), (3, p3_0), (4, p4_1), (10, .bool false), (11, .int .i64 (w64 (x_234 + 1)))] := hm.keep [0, 1, 2, 3, 4, 10, 11]
          exact ⟨band .i64 x_231 127, band .i64 x_232 7, w64 ((band .i64 x_233 7) + 1), w64 (x_234 + 1), N_241, H, hm, (Sep.sel hS [0] (by decide)), (le_230.trans le_241)⟩
      clear hKJ_240
      refine wp_region_lit ?_
      refine s_move hm rfl rfl ?_
      clear hm a; intro a hm
      refine s_move hm rfl rfl ?_
      clear hm a; intro a hm
      obtain ⟨t_246, et_246, H⟩ := Option.bind_eq_some_iff.1 H
      refine s_call hm rfl Try.call21 rfl (view_Next.calls x_231 x_232 t_246 w0 _ _ _ (Mem.le.refl _) (hS.enter [] (by decide))  et_246) ?_
      rintro _ w_247 ⟨N_248, rfl, hS'⟩
      clear hm a; intro a hm
      obtain ⟨N_249, hS'', le_249, ln_249⟩ := hS.call [] (by decide) rfl (l' := []) (ow := []) rfl hS'
      replace hS : Sep w0 w_247 [N_249] Z := hS''
      clear hS' hS''
      refine s_move hm rfl rfl ?_
      clear hm a; intro a hm
      refine s_move hm rfl rfl ?_
      clear hm a; intro a hm
      obtain ⟨t_250, et_250, H⟩ := Option.bind_eq_some_iff.1 H
      refine s_call hm rfl Try.call22 rfl (hocketref11_Next.calls x_231 x_232 t_250 w0 _ _ _ (Mem.le.refl _) (hS.enter [] (by decide))  et_250) ?_
      rintro _ w_251 ⟨N_252, rfl, hS'⟩
      clear hm a; intro a hm
      obtain ⟨N_253, hS'', le_253, ln_253⟩ := hS.call [] (by decide) rfl (l' := []) (ow := []) rfl hS'
      replace hS : Sep w0 w_251 [N_253] Z := hS''
      clear hS' hS''
      refine s_cmp (b := (t_246 != t_250)) hm rfl rfl rfl (.inr (.inl ⟨rfl, rfl⟩)) ?_
      clear hm a; intro a hm
      refine s_move hm rfl rfl ?_
      clear hm a; intro a hm
      by_cases hc_254 : t_246 = t_250
      · rw [if_pos hc_254] at H
        refine s_on hm rfl rfl (bne_eq_false_iff_eq.2 hc_254) ?_
        refine s_move hm rfl rfl ?_
        clear hm a; intro a hm
        refine s_on hm rfl rfl (bne_eq_false_iff_eq.2 hc_254) ?_
        obtain ⟨t_255, et_255, H⟩ := Option.bind_eq_some_iff.1 H
        refine s_call hm rfl Try.call23 rfl (view_Who.calls x_231 t_255 w0 _ _ _ (Mem.le.refl _) (hS.enter [] (by decide))  et_255) ?_
        rintro _ w_256 ⟨N_257, rfl, hS'⟩
        clear hm a; intro a hm
        obtain ⟨N_258, hS'', le_258, ln_258⟩ := hS.call [] (by decide) rfl (l' := []) (ow := []) rfl hS'
        replace hS : Sep w0 w_256 [N_258] Z := hS''
        clear hS' hS''
        refine s_on hm rfl rfl (bne_eq_false_iff_eq.2 hc_254) ?_
        refine s_move hm rfl rfl ?_
        clear hm a; intro a hm
        refine s_on hm rfl rfl (bne_eq_false_iff_eq.2 hc_254) ?_
        obtain ⟨t_259, et_259, H⟩ := Option.bind_eq_some_iff.1 H
        refine s_call hm rfl Try.call24 rfl (hocketref11_Who.calls x_231 t_259 w0 _ _ _ (Mem.le.refl _) (hS.enter [] (by decide))  et_259) ?_
        rintro _ w_260 ⟨N_261, rfl, hS'⟩
        clear hm a; intro a hm
        obtain ⟨N_262, hS'', le_262, ln_262⟩ := hS.call [] (by decide) rfl (l' := []) (ow := []) rfl hS'
        replace hS : Sep w0 w_260 [N_262] Z := hS''
        clear hS' hS''
        refine s_on hm rfl rfl (bne_eq_false_iff_eq.2 hc_254) ?_
        refine s_cmp (b := (t_255 != t_259)) hm rfl rfl rfl (.inr (.inl ⟨rfl, rfl⟩)) ?_
        clear hm a; intro a hm
        refine s_pick_f hm rfl rfl (bne_eq_false_iff_eq.2 hc_254) rfl ?_
        clear hm a; intro a hm
        refine s_move hm rfl rfl ?_
        clear hm a; intro a hm
        by_cases hc_263 : t_255 = t_259
        · rw [if_pos hc_263] at H
          refine s_on hm rfl rfl (bne_eq_false_iff_eq.2 hc_263) ?_
          refine s_move hm rfl rfl ?_
          clear hm a; intro a hm
          refine s_on hm rfl rfl (bne_eq_false_iff_eq.2 hc_263) ?_
          obtain ⟨t_264, et_264, H⟩ := Option.bind_eq_some_iff.1 H
          refine s_call hm rfl Try.call18 rfl (view_Members.calls K x_231 t_264 w0 _ _ _ (Mem.le.refl _) (hS.enter [] (by decide))  et_264) ?_
          rintro v_268 w_265 ⟨_, N_266, M_270, rfl, hS', hr_269⟩
          clear hm a; intro a hm
          obtain ⟨N_267, hS'', le_267, ln_267⟩ := hS.call [] (by decide) rfl (l' := []) (ow := [M_270]) rfl hS'
          replace hS : Sep w0 w_265 [N_267, M_270] Z := hS''
          clear hS' hS''
          refine s_on hm rfl rfl (bne_eq_false_iff_eq.2 hc_263) ?_
          refine s_move hm rfl rfl ?_
          clear hm a; intro a hm
          refine s_on hm rfl rfl (bne_eq_false_iff_eq.2 hc_263) ?_
          obtain ⟨t_272, et_272, H⟩ := Option.bind_eq_some_iff.1 H
          refine s_call hm rfl Try.call26 rfl (hocketref11_Members.calls K x_231 t_272 w0 _ _ _ (Mem.le.refl _) (hS.enter [] (by decide))  et_272) ?_
          rintro v_276 w_273 ⟨_, N_274, M_278, rfl, hS', hr_277⟩
          clear hm a; intro a hm
          obtain ⟨N_275, hS'', le_275, ln_275⟩ := hS.call [] (by decide) rfl (l' := []) (ow := [M_278]) rfl hS'
          replace hS : Sep w0 w_273 [N_275, M_270, M_278] Z := hS''
          clear hS' hS''
          refine s_on hm rfl rfl (bne_eq_false_iff_eq.2 hc_263) ?_
          obtain ⟨t_280, et_280, H⟩ := Option.bind_eq_some_iff.1 H
          refine s_call hm rfl Try.call25 rfl (hocketref1_SameInts.calls K t_264 _ t_272 _ t_280 w0 _ _ _ (Mem.le.refl _) (hS.enter [] (by decide)) (hr_269.rd (hS.own_zed [] 0 (by decide)) (Mem.no_le _)) (hr_277.rd (hS.own_zed [] 1 (by decide)) (Mem.no_le _)) et_280) ?_
          rintro _ w_281 ⟨N_282, rfl, hS'⟩
          clear hm a; intro a hm
          obtain ⟨N_283, hS'', le_283, ln_283⟩ := hS.call [] (by decide) rfl (l' := []) (ow := []) rfl hS'
          replace hS : Sep w0 w_281 [N_283, M_270, M_278] Z := hS''
          clear hS' hS''
          refine s_on hm rfl rfl (bne_eq_false_iff_eq.2 hc_263) ?_
          refine s_not hm rfl rfl ?_
          clear hm a; intro a hm
          refine s_pick_f hm rfl rfl (bne_eq_false_iff_eq.2 hc_263) rfl ?_
          clear hm a; intro a hm
          refine s_move hm rfl rfl ?_
          clear hm a; intro a hm
          by_cases hc_284 : t_280 = true
          · rw [if_pos hc_284] at H
            refine s_on hm rfl rfl (nf hc_284) ?_
            refine s_move hm rfl rfl ?_
            clear hm a; intro a hm
            refine s_on hm rfl rfl (nf hc_284) ?_
            refine s_move hm rfl rfl ?_
            clear hm a; intro a hm
            refine s_on hm rfl rfl (nf hc_284) ?_
            obtain ⟨t_285, et_285, H⟩ := Option.bind_eq_some_iff.1 H
            refine s_call hm rfl Try.call19 rfl (view_Most.calls x_231 x_233 t_285 w0 _ _ _ (Mem.le.refl _) (hS.enter [] (by decide))  et_285) ?_
            rintro _ w_286 ⟨N_287, rfl, hS'⟩
            clear hm a; intro a hm
            obtain ⟨N_288, hS'', le_288, ln_288⟩ := hS.call [] (by decide) rfl (l' := []) (ow := []) rfl hS'
            replace hS : Sep w0 w_286 [N_288, M_270, M_278] Z := hS''
            clear hS' hS''
            refine s_on hm rfl rfl (nf hc_284) ?_
            refine s_move hm rfl rfl ?_
            clear hm a; intro a hm
            refine s_on hm rfl rfl (nf hc_284) ?_
            refine s_move hm rfl rfl ?_
            clear hm a; intro a hm
            refine s_on hm rfl rfl (nf hc_284) ?_
            obtain ⟨t_289, et_289, H⟩ := Option.bind_eq_some_iff.1 H
            refine s_call hm rfl Try.call27 rfl (hocketref11_Most.calls K x_231 x_233 t_289 w0 _ _ _ (Mem.le.refl _) (hS.enter [] (by decide))  et_289) ?_
            rintro _ w_290 ⟨N_291, rfl, hS'⟩
            clear hm a; intro a hm
            obtain ⟨N_292, hS'', le_292, ln_292⟩ := hS.call [] (by decide) rfl (l' := []) (ow := []) rfl hS'
            replace hS : Sep w0 w_290 [N_292, M_270, M_278] Z := hS''
            clear hS' hS''
            refine s_on hm rfl rfl (nf hc_284) ?_
            refine s_beq (b := !(t_285 == t_289)) hm rfl Try.underlying4 rfl rfl (.inr ⟨rfl, rfl⟩) ?_
            clear hm a; intro a hm
            refine s_pick_f hm rfl rfl (nf hc_284) rfl ?_
            clear hm a; intro a hm
            refine s_move hm rfl rfl ?_
            clear hm a; intro a hm
            by_cases hc_293 : t_285 = t_289
            · rw [if_pos hc_293] at H
              refine s_on hm rfl rfl (nf (beq_iff_eq.2 hc_293)) ?_
              refine s_move hm rfl rfl ?_
              clear hm a; intro a hm
              refine s_on hm rfl rfl (nf (beq_iff_eq.2 hc_293)) ?_
              refine s_move hm rfl rfl ?_
              clear hm a; intro a hm
              refine s_on hm rfl rfl (nf (beq_iff_eq.2 hc_293)) ?_
              obtain ⟨t_294, et_294, H⟩ := Option.bind_eq_some_iff.1 H
              refine s_call hm rfl Try.call28 rfl (view_After.calls K x_231 x_232 t_294 w0 _ _ _ (Mem.le.refl _) (hS.enter [] (by decide))  et_294) ?_
              rintro _ w_295 ⟨N_296, rfl, hS'⟩
              clear hm a; intro a hm
              obtain ⟨N_297, hS'', le_297, ln_297⟩ := hS.call [] (by decide) rfl (l' := []) (ow := []) rfl hS'
              replace hS : Sep w0 w_295 [N_297, M_270, M_278] Z := hS''
              clear hS' hS''
              refine s_on hm rfl rfl (nf (beq_iff_eq.2 hc_293)) ?_
              refine s_move hm rfl rfl ?_
              clear hm a; intro a hm
              refine s_on hm rfl rfl (nf (beq_iff_eq.2 hc_293)) ?_
              refine s_move hm rfl rfl ?_
              clear hm a; intro a hm
              refine s_on hm rfl rfl (nf (beq_iff_eq.2 hc_293)) ?_
              obtain ⟨t_298, et_298, H⟩ := Option.bind_eq_some_iff.1 H
              refine s_call hm rfl Try.call29 rfl (hocketref11_After.calls K x_231 x_232 t_298 w0 _ _ _ (Mem.le.refl _) (hS.enter [] (by decide))  et_298) ?_
              rintro _ w_299 ⟨N_300, rfl, hS'⟩
              clear hm a; intro a hm
              obtain ⟨N_301, hS'', le_301, ln_301⟩ := hS.call [] (by decide) rfl (l' := []) (ow := []) rfl hS'
              replace hS : Sep w0 w_299 [N_301, M_270, M_278] Z := hS''
              clear hS' hS''
              refine s_on hm rfl rfl (nf (beq_iff_eq.2 hc_293)) ?_
              refine s_cmp (b := (t_294 != t_298)) hm rfl rfl rfl (.inr (.inl ⟨rfl, rfl⟩)) ?_
              clear hm a; intro a hm
              refine s_pick_f hm rfl rfl (nf (beq_iff_eq.2 hc_293)) rfl ?_
              clear hm a; intro a hm
              refine s_move hm rfl rfl ?_
              clear hm a; intro a hm
              by_cases hc_302 : t_294 = t_298
              · rw [if_pos hc_302] at H
                refine s_on hm rfl rfl (bne_eq_false_iff_eq.2 hc_302) ?_
                refine s_move hm rfl rfl ?_
                clear hm a; intro a hm
                refine s_on hm rfl rfl (bne_eq_false_iff_eq.2 hc_302) ?_
                obtain ⟨t_303, et_303, H⟩ := Option.bind_eq_some_iff.1 H
                refine s_call hm rfl Try.call20 rfl (view_Limit.calls x_232 t_303 w0 _ _ _ (Mem.le.refl _) (hS.enter [] (by decide))  et_303) ?_
                rintro _ w_304 ⟨N_305, rfl, hS'⟩
                clear hm a; intro a hm
                obtain ⟨N_306, hS'', le_306, ln_306⟩ := hS.call [] (by decide) rfl (l' := []) (ow := []) rfl hS'
                replace hS : Sep w0 w_304 [N_306, M_270, M_278] Z := hS''
                clear hS' hS''
                refine s_on hm rfl rfl (bne_eq_false_iff_eq.2 hc_302) ?_
                refine s_move hm rfl rfl ?_
                clear hm a; intro a hm
                refine s_on hm rfl rfl (bne_eq_false_iff_eq.2 hc_302) ?_
                obtain ⟨t_307, et_307, H⟩ := Option.bind_eq_some_iff.1 H
                refine s_call hm rfl Try.call30 rfl (hocketref11_Limit.calls x_232 t_307 w0 _ _ _ (Mem.le.refl _) (hS.enter [] (by decide))  et_307) ?_
                rintro _ w_308 ⟨N_309, rfl, hS'⟩
                clear hm a; intro a hm
                obtain ⟨N_310, hS'', le_310, ln_310⟩ := hS.call [] (by decide) rfl (l' := []) (ow := []) rfl hS'
                replace hS : Sep w0 w_308 [N_310, M_270, M_278] Z := hS''
                clear hS' hS''
                refine s_on hm rfl rfl (bne_eq_false_iff_eq.2 hc_302) ?_
                refine s_cmp (b := (t_303 != t_307)) hm rfl rfl rfl (.inr (.inl ⟨rfl, rfl⟩)) ?_
                clear hm a; intro a hm
                refine s_pick_f hm rfl rfl (bne_eq_false_iff_eq.2 hc_302) rfl ?_
                clear hm a; intro a hm
                refine wpList_nil ?_
                replace hm : Fr 184 a [(0, .int .i64 x_231), (1, .int .i64 x_232), (2, .int .i64 x_233), (3, p3_0), (4, p4_1), (10, .bool false), (11, .int .i64 x_234), (81, .bool (t_303 != t_307))] := hm.keep [0, 1, 2, 3, 4, 10, 11, 81]
                replace hS : Sep w0 w_308 [N_310, M_270, M_278] Z := hS
                replace hm : Fr 184 a [(0, .int .i64 x_231), (1, .int .i64 x_232), (2, .int .i64 x_233), (3, p3_0), (4, p4_1), (10, .bool false), (11, .int .i64 x_234), (81, .bool (t_303 != t_307))] := hm.keep [0, 1, 2, 3, 4, 10, 11, 81]
                exact x_then_n (hJ_j_244 (t_303 != t_307) H _ _ ⟨N_310, hm, (Sep.sel hS [0] (by decide)), (le_249.trans (le_253.trans (le_258.trans (le_262.trans (le_267.trans (le_275.trans (le_283.trans (le_288.trans (le_292.trans (le_297.trans (le_301.trans (le_306.trans le_310))))))))))))⟩)
              · rw [if_neg hc_302] at H
                refine s_off hm rfl rfl rfl (bne_iff_ne.2 hc_302) ?_
                clear hm a; intro a hm
                refine s_off hm rfl rfl rfl (bne_iff_ne.2 hc_302) ?_
                clear hm a; intro a hm
                refine s_off hm rfl rfl rfl (bne_iff_ne.2 hc_302) ?_
                clear hm a; intro a hm
                refine s_off hm rfl rfl rfl (bne_iff_ne.2 hc_302) ?_
                clear hm a; intro a hm
                refine s_off hm rfl rfl rfl (bne_iff_ne.2 hc_302) ?_
                clear hm a; intro a hm
                refine s_pick_t hm rfl rfl (bne_iff_ne.2 hc_302) rfl ?_
                clear hm a; intro a hm
                refine wpList_nil ?_
                replace hm : Fr 184 a [(0, .int .i64 x_231), (1, .int .i64 x_232), (2, .int .i64 x_233), (3, p3_0), (4, p4_1), (10, .bool false), (11, .int .i64 x_234), (81, .bool true)] := hm.keep [0, 1, 2, 3, 4, 10, 11, 81]
                replace hS : Sep w0 w_299 [N_301, M_270, M_278] Z := hS
                replace hm : Fr 184 a [(0, .int .i64 x_231), (1, .int .i64 x_232), (2, .int .i64 x_233), (3, p3_0), (4, p4_1), (10, .bool false), (11, .int .i64 x_234), (81, .bool true)] := hm.keep [0, 1, 2, 3, 4, 10, 11, 81]
                exact x_then_n (hJ_j_244 true H _ _ ⟨N_301, hm, (Sep.sel hS [0] (by decide)), (le_249.trans (le_253.trans (le_258.trans (le_262.trans (le_267.trans (le_275.trans (le_283.trans (le_288.trans (le_292.trans (le_297.trans le_301))))))))))⟩)
            · rw [if_neg hc_293] at H
              refine s_off hm rfl rfl rfl (nt (beq_eq_false_iff_ne.2 hc_293)) ?_
              clear hm a; intro a hm
              refine s_off hm rfl rfl rfl (nt (beq_eq_false_iff_ne.2 hc_293)) ?_
              clear hm a; intro a hm
              refine s_off hm rfl rfl rfl (nt (beq_eq_false_iff_ne.2 hc_293)) ?_
              clear hm a; intro a hm
              refine s_off hm rfl rfl rfl (nt (beq_eq_false_iff_ne.2 hc_293)) ?_
              clear hm a; intro a hm
              refine s_off hm rfl rfl rfl (nt (beq_eq_false_iff_ne.2 hc_293)) ?_
              clear hm a; intro a hm
              refine s_off hm rfl rfl rfl (nt (beq_eq_false_iff_ne.2 hc_293)) ?_
              clear hm a; intro a hm
              refine s_off hm rfl rfl rfl (nt (beq_eq_false_iff_ne.2 hc_293)) ?_
              clear hm a; intro a hm
              refine s_pick_t hm rfl rfl (nt (beq_eq_false_iff_ne.2 hc_293)) rfl ?_
              clear hm a; intro a hm
              refine s_move hm rfl rfl ?_
              clear hm a; intro a hm
              refine s_off hm rfl rfl rfl rfl ?_
              clear hm a; intro a hm
              refine s_off hm rfl rfl rfl rfl ?_
              clear hm a; intro a hm
              refine s_off hm rfl rfl rfl rfl ?_
              clear hm a; intro a hm
              refine s_off hm rfl rfl rfl rfl ?_
              clear hm a; intro a hm
              refine s_off hm rfl rfl rfl rfl ?_
              clear hm a; intro a hm
              refine s_pick_t hm rfl rfl rfl rfl ?_
              clear hm a; intro a hm
              refine wpList_nil ?_
              replace hm : Fr 184 a [(0, .int .i64 x_231), (1, .int .i64 x_232), (2, .int .i64 x_233), (3, p3_0), (4, p4_1), (10, .bool false), (11, .int .i64 x_234), (81, .bool true)] := hm.keep [0, 1, 2, 3, 4, 10, 11, 81]
              replace hS : Sep w0 w_290 [N_292, M_270, M_278] Z := hS
              replace hm : Fr 184 a [(0, .int .i64 x_231), (1, .int .i64 x_232), (2, .int .i64 x_233), (3, p3_0), (4, p4_1), (10, .bool false), (11, .int .i64 x_234), (81, .bool true)] := hm.keep [0, 1, 2, 3, 4, 10, 11, 81]
              exact x_then_n (hJ_j_244 true H _ _ ⟨N_292, hm, (Sep.sel hS [0] (by decide)), (le_249.trans (le_253.trans (le_258.trans (le_262.trans (le_267.trans (le_275.trans (le_283.trans (le_288.trans le_292))))))))⟩)
          · rw [if_neg hc_284] at H
            refine s_off hm rfl rfl rfl (nt (Bool.eq_false_iff.2 hc_284)) ?_
            clear hm a; intro a hm
            refine s_off hm rfl rfl rfl (nt (Bool.eq_false_iff.2 hc_284)) ?_
            clear hm a; intro a hm
            refine s_off hm rfl rfl rfl (nt (Bool.eq_false_iff.2 hc_284)) ?_
            clear hm a; intro a hm
            refine s_off hm rfl rfl rfl (nt (Bool.eq_false_iff.2 hc_284)) ?_
            clear hm a; intro a hm
            refine s_off hm rfl rfl rfl (nt (Bool.eq_false_iff.2 hc_284)) ?_
            clear hm a; intro a hm
            refine s_off hm rfl rfl rfl (nt (Bool.eq_false_iff.2 hc_284)) ?_
            clear hm a; intro a hm
            refine s_off hm rfl rfl rfl (nt (Bool.eq_false_iff.2 hc_284)) ?_
            clear hm a; intro a hm
            refine s_pick_t hm rfl rfl (nt (Bool.eq_false_iff.2 hc_284)) rfl ?_
            clear hm a; intro a hm
            refine s_move hm rfl rfl ?_
            clear hm a; intro a hm
            refine s_off hm rfl rfl rfl rfl ?_
            clear hm a; intro a hm
            refine s_off hm rfl rfl rfl rfl ?_
            clear hm a; intro a hm
            refine s_off hm rfl rfl rfl rfl ?_
            clear hm a; intro a hm
            refine s_off hm rfl rfl rfl rfl ?_
            clear hm a; intro a hm
            refine s_off hm rfl rfl rfl rfl ?_
            clear hm a; intro a hm
            refine s_off hm rfl rfl rfl rfl ?_
            clear hm a; intro a hm
            refine s_off hm rfl rfl rfl rfl ?_
            clear hm a; intro a hm
            refine s_pick_t hm rfl rfl rfl rfl ?_
            clear hm a; intro a hm
            refine s_move hm rfl rfl ?_
            clear hm a; intro a hm
            refine s_off hm rfl rfl rfl rfl ?_
            clear hm a; intro a hm
            refine s_off hm rfl rfl rfl rfl ?_
            clear hm a; intro a hm
            refine s_off hm rfl rfl rfl rfl ?_
            clear hm a; intro a hm
            refine s_off hm rfl rfl rfl rfl ?_
            clear hm a; intro a hm
            refine s_off hm rfl rfl rfl rfl ?_
            clear hm a; intro a hm
            refine s_pick_t hm rfl rfl rfl rfl ?_
            clear hm a; intro a hm
            refine wpList_nil ?_
            replace hm : Fr 184 a [(0, .int .i64 x_231), (1, .int .i64 x_232), (2, .int .i64 x_233), (3, p3_0), (4, p4_1), (10, .bool false), (11, .int .i64 x_234), (81, .bool true)] := hm.keep [0, 1, 2, 3, 4, 10, 11, 81]
            replace hS : Sep w0 w_281 [N_283, M_270, M_278] Z := hS
            replace hm : Fr 184 a [(0, .int .i64 x_231), (1, .int .i64 x_232), (2, .int .i64 x_233), (3, p3_0), (4, p4_1), (10, .bool false), (11, .int .i64 x_234), (81, .bool true)] := hm.keep [0, 1, 2, 3, 4, 10, 11, 81]
            exact x_then_n (hJ_j_244 true H _ _ ⟨N_283, hm, (Sep.sel hS [0] (by decide)), (le_249.trans (le_253.trans (le_258.trans (le_262.trans (le_267.trans (le_275.trans le_283))))))⟩)
        · rw [if_neg hc_263] at H
          refine s_off hm rfl rfl rfl (bne_iff_ne.2 hc_263) ?_
          clear hm a; intro a hm
          refine s_off hm rfl rfl rfl (bne_iff_ne.2 hc_263) ?_
          clear hm a; intro a hm
          refine s_off hm rfl rfl rfl (bne_iff_ne.2 hc_263) ?_
          clear hm a; intro a hm
          refine s_off hm rfl rfl rfl (bne_iff_ne.2 hc_263) ?_
          clear hm a; intro a hm
          refine s_off hm rfl rfl rfl (bne_iff_ne.2 hc_263) ?_
          clear hm a; intro a hm
          refine s_off hm rfl rfl rfl (bne_iff_ne.2 hc_263) ?_
          clear hm a; intro a hm
          refine s_pick_t hm rfl rfl (bne_iff_ne.2 hc_263) rfl ?_
          clear hm a; intro a hm
          refine s_move hm rfl rfl ?_
          clear hm a; intro a hm
          refine s_off hm rfl rfl rfl rfl ?_
          clear hm a; intro a hm
          refine s_off hm rfl rfl rfl rfl ?_
          clear hm a; intro a hm
          refine s_off hm rfl rfl rfl rfl ?_
          clear hm a; intro a hm
          refine s_off hm rfl rfl rfl rfl ?_
          clear hm a; intro a hm
          refine s_off hm rfl rfl rfl rfl ?_
          clear hm a; intro a hm
          refine s_off hm rfl rfl rfl rfl ?_
          clear hm a; intro a hm
          refine s_off hm rfl rfl rfl rfl ?_
          clear hm a; intro a hm
          refine s_pick_t hm rfl rfl rfl rfl ?_
          clear hm a; intro a hm
          refine s_move hm rfl rfl ?_
          clear hm a; intro a hm
          refine s_off hm rfl rfl rfl rfl ?_
          clear hm a; intro a hm
          refine s_off hm rfl rfl rfl rfl ?_
          clear hm a; intro a hm
          refine s_off hm rfl rfl rfl rfl ?_
          clear hm a; intro a hm
          refine s_off hm rfl rfl rfl rfl ?_
          clear hm a; intro a hm
          refine s_off hm rfl rfl rfl rfl ?_
          clear hm a; intro a hm
          refine s_off hm rfl rfl rfl rfl ?_
          clear hm a; intro a hm
          refine s_off hm rfl rfl rfl rfl ?_
          clear hm a; intro a hm
          refine s_pick_t hm rfl rfl rfl rfl ?_
          clear hm a; intro a hm
          refine s_move hm rfl rfl ?_
          clear hm a; intro a hm
          refine s_off hm rfl rfl rfl rfl ?_
          clear hm a; intro a hm
          refine s_off hm rfl rfl rfl rfl ?_
          clear hm a; intro a hm
          refine s_off hm rfl rfl rfl rfl ?_
          clear hm a; intro a hm
          refine s_off hm rfl rfl rfl rfl ?_
          clear hm a; intro a hm
          refine s_off hm rfl rfl rfl rfl ?_
          clear hm a; intro a hm
          refine s_pick_t hm rfl rfl rfl rfl ?_
          clear hm a; intro a hm
          refine wpList_nil ?_
          replace hm : Fr 184 a [(0, .int .i64 x_231), (1, .int .i64 x_232), (2, .int .i64 x_233), (3, p3_0), (4, p4_1), (10, .bool false), (11, .int .i64 x_234), (81, .bool true)] := hm.keep [0, 1, 2, 3, 4, 10, 11, 81]
          replace hS : Sep w0 w_260 [N_262] Z := hS
          replace hm : Fr 184 a [(0, .int .i64 x_231), (1, .int .i64 x_232), (2, .int .i64 x_233), (3, p3_0), (4, p4_1), (10, .bool false), (11, .int .i64 x_234), (81, .bool true)] := hm.keep [0, 1, 2, 3, 4, 10, 11, 81]
          exact x_then_n (hJ_j_244 true H _ _ ⟨N_262, hm, (Sep.sel hS [0] (by decide)), (le_249.trans (le_253.trans (le_258.trans le_262)))⟩)
      · rw [if_neg hc_254] at H
        refine s_off hm rfl rfl rfl (bne_iff_ne.2 hc_254) ?_
        clear hm a; intro a hm
        refine s_off hm rfl rfl rfl (bne_iff_ne.2 hc_254) ?_
        clear hm a; intro a hm
        refine s_off hm rfl rfl rfl (bne_iff_ne.2 hc_254) ?_
        clear hm a; intro a hm
        refine s_off hm rfl rfl rfl (bne_iff_ne.2 hc_254) ?_
        clear hm a; intro a hm
        refine s_off hm rfl rfl rfl (bne_iff_ne.2 hc_254) ?_
        clear hm a; intro a hm
        refine s_pick_t hm rfl rfl (bne_iff_ne.2 hc_254) rfl ?_
        clear hm a; intro a hm
        refine s_move hm rfl rfl ?_
        clear hm a; intro a hm
        refine s_off hm rfl rfl rfl rfl ?_
        clear hm a; intro a hm
        refine s_off hm rfl rfl rfl rfl ?_
        clear hm a; intro a hm
        refine s_off hm rfl rfl rfl rfl ?_
        clear hm a; intro a hm
        refine s_off hm rfl rfl rfl rfl ?_
        clear hm a; intro a hm
        refine s_off hm rfl rfl rfl rfl ?_
        clear hm a; intro a hm
        refine s_off hm rfl rfl rfl rfl ?_
        clear hm a; intro a hm
        refine s_pick_t hm rfl rfl rfl rfl ?_
        clear hm a; intro a hm
        refine s_move hm rfl rfl ?_
        clear hm a; intro a hm
        refine s_off hm rfl rfl rfl rfl ?_
        clear hm a; intro a hm
        refine s_off hm rfl rfl rfl rfl ?_
        clear hm a; intro a hm
        refine s_off hm rfl rfl rfl rfl ?_
        clear hm a; intro a hm
        refine s_off hm rfl rfl rfl rfl ?_
        clear hm a; intro a hm
        refine s_off hm rfl rfl rfl rfl ?_
        clear hm a; intro a hm
        refine s_off hm rfl rfl rfl rfl ?_
        clear hm a; intro a hm
        refine s_off hm rfl rfl rfl rfl ?_
        clear hm a; intro a hm
        refine s_pick_t hm rfl rfl rfl rfl ?_
        clear hm a; intro a hm
        refine s_move hm rfl rfl ?_
        clear hm a; intro a hm
        refine s_off hm rfl rfl rfl rfl ?_
        clear hm a; intro a hm
        refine s_off hm rfl rfl rfl rfl ?_
        clear hm a; intro a hm
        refine s_off hm rfl rfl rfl rfl ?_
        clear hm a; intro a hm
        refine s_off hm rfl rfl rfl rfl ?_
        clear hm a; intro a hm
        refine s_off hm rfl rfl rfl rfl ?_
        clear hm a; intro a hm
        refine s_off hm rfl rfl rfl rfl ?_
        clear hm a; intro a hm
        refine s_off hm rfl rfl rfl rfl ?_
        clear hm a; intro a hm
        refine s_pick_t hm rfl rfl rfl rfl ?_
        clear hm a; intro a hm
        refine s_move hm rfl rfl ?_
        clear hm a; intro a hm
        refine s_off hm rfl rfl rfl rfl ?_
        clear hm a; intro a hm
        refine s_off hm rfl rfl rfl rfl ?_
        clear hm a; intro a hm
        refine s_off hm rfl rfl rfl rfl ?_
        clear hm a; intro a hm
        refine s_off hm rfl rfl rfl rfl ?_
        clear hm a; intro a hm
        refine s_off hm rfl rfl rfl rfl ?_
        clear hm a; intro a hm
        refine s_pick_t hm rfl rfl rfl rfl ?_
        clear hm a; intro a hm
        refine wpList_nil ?_
        replace hm : Fr 184 a [(0, .int .i64 x_231), (1, .int .i64 x_232), (2, .int .i64 x_233), (3, p3_0), (4, p4_1), (10, .bool false), (11, .int .i64 x_234), (81, .bool true)] := hm.keep [0, 1, 2, 3, 4, 10, 11, 81]
        replace hS : Sep w0 w_251 [N_253] Z := hS
        replace hm : Fr 184 a [(0, .int .i64 x_231), (1, .int .i64 x_232), (2, .int .i64 x_233), (3, p3_0), (4, p4_1), (10, .bool false), (11, .int .i64 x_234), (81, .bool true)] := hm.keep [0, 1, 2, 3, 4, 10, 11, 81]
        exact x_then_n (hJ_j_244 true H _ _ ⟨N_253, hm, (Sep.sel hS [0] (by decide)), (le_249.trans le_253)⟩)
    · rw [if_neg hc_238] at H
      refine c_cond_f hm rfl (decide_eq_false hc_238) ?_
      refine wp_exit (x_then_x (x_then_x (x_block_t ?_)))
      replace hS : Sep w0 w_235 [N_230] Z := hS
      replace hm : Fr 184 a [(2, .int .i64 x_233), (3, p3_0), (4, p4_1), (10, .bool false)] := hm.keep [2, 3, 4, 10]
      exact x_then_n (hJ_j_11 x_233 H _ _ ⟨N_230, hm, (Sep.sel hS [0] (by decide)), le_230⟩)


end Go.Proofs
