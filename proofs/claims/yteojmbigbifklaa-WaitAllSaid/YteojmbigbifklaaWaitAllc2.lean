/- What the calls do: each function once. -/
import Derived.Test.YteojmbigbifklaaWaitAllc1
namespace Go.Proofs
open Go.Gp
set_option linter.unusedVariables false
set_option maxHeartbeats 4000000 in
set_option maxRecDepth 20000 in
theorem hocketlaw20_WaitAll.calls (K : Nat) (x0 : Int) (x1 : Int) (x2 : Int) (r : Unit) (w0 w : World) (Z A : Mem) (hA : A.le Z) (hS : Sep w0 w [] Z)
    (H : hocketlaw20_WaitAll.f K x0 x1 x2 = some r) :
    Calls Try.prog 11 [.int .i64 x0, .int .i64 x1, .int .i64 x2].toArray w (Ret fun v w' => ∃ (N : Mem), v = .bool true ∧ Sep w0 w' [N] Z) := by
  unfold hocketlaw20_WaitAll.f at H
  refine f_enter _ Try.func11 rfl Try.ntmps11 rfl fun a hm => ?_
  replace hm : Fr 119 a [(0, .int .i64 x0), (1, .int .i64 x1), (2, .int .i64 x2)] := hm
  replace hS := hS.start
  replace hS : Sep w0 w [Mem.no] Z := hS
  refine wp_seq ?_
  refine wp_region_lit ?_
  refine s_assign hm rfl rfl ?_
  clear hm a; intro a hm
  refine wpList_nil ?_
  replace hm : Fr 119 a [(0, .int .i64 x0), (1, .int .i64 x1), (2, .int .i64 x2), (6, .bool false)] := hm.keep [0, 1, 2, 6]
  refine x_then_n ?_
  refine wp_seq ?_
  refine wp_region_lit ?_
  obtain ⟨t_1, et_1, H⟩ := Option.bind_eq_some_iff.1 H
  refine s_call hm rfl Try.call21 rfl (wait_New.calls  t_1 w0 _ _ _ (Mem.le.refl _) (hS.enter [] (by decide))  et_1) ?_
  rintro _ w_2 ⟨g_5, v_6, v_10, N_3, M_8, M_12, rfl, hS', hr_7, hr_11⟩
  clear hm a; intro a hm
  obtain ⟨N_4, hS'', le_4, ln_4⟩ := hS.call [] (by decide) rfl (l' := []) (ow := [Mem.one g_5 (.cells ([v_6, v_10] : List Value).toArray 74 (0, 0)), M_8, M_12]) rfl hS'
  replace hS : Sep w0 w_2 [N_4, Mem.one g_5 (.cells ([v_6, v_10] : List Value).toArray 74 (0, 0)), M_8, M_12] Z := hS''
  clear hS' hS''
  refine s_assign hm rfl rfl ?_
  clear hm a; intro a hm
  refine wpList_nil ?_
  replace hm : Fr 119 a [(0, .int .i64 x0), (1, .int .i64 x1), (2, .int .i64 x2), (6, .bool false), (7, .pointer (some ⟨g_5, 0, none⟩))] := hm.keep [0, 1, 2, 6, 7]
  refine x_then_n ?_
  refine c_seq fun KJ_14 hKJ_14 => ?_
  refine wp_seq ?_
  refine wp_region_lit ?_
  refine s_move hm rfl rfl ?_
  clear hm a; intro a hm
  refine s_ptrNil (b := false) hm rfl Try.underlying40 rfl (.inl ⟨rfl, rfl⟩) ?_
  clear hm a; intro a hm
  refine wpList_nil ?_
  replace hm : Fr 119 a [(0, .int .i64 x0), (1, .int .i64 x1), (2, .int .i64 x2), (6, .bool false), (7, .pointer (some ⟨g_5, 0, none⟩)), (20, .bool false)] := hm.keep [0, 1, 2, 6, 7, 20]
  refine x_then_n ?_
  refine c_cond_f hm rfl rfl ?_
  refine wp_skip ?_
  refine x_then_n (hKJ_14 _ _ ?_)
  refine wp_seq ?_
  refine wp_region_lit ?_
  refine s_move hm rfl rfl ?_
  clear hm a; intro a hm
  refine s_bits (i := x0) (j := 15) (r := band .i64 x0 15) hm rfl rfl rfl (.inl ⟨rfl, rfl⟩) ?_
  clear hm a; intro a hm
  refine s_move hm rfl rfl ?_
  clear hm a; intro a hm
  refine s_bits (i := x1) (j := 3) (r := band .i64 x1 3) hm rfl rfl rfl (.inl ⟨rfl, rfl⟩) ?_
  clear hm a; intro a hm
  refine s_arith (r := w64 ((band .i64 x1 3) + 1)) hm rfl rfl rfl (.inl ⟨rfl, rfl⟩) ?_
  clear hm a; intro a hm
  refine s_assign hm rfl rfl ?_
  clear hm a; intro a hm
  refine s_assign hm rfl rfl ?_
  clear hm a; intro a hm
  refine wpList_nil ?_
  replace hm : Fr 119 a [(0, .int .i64 (band .i64 x0 15)), (1, .int .i64 (w64 ((band .i64 x1 3) + 1))), (2, .int .i64 x2), (6, .bool false), (7, .pointer (some ⟨g_5, 0, none⟩))] := hm.keep [0, 1, 2, 6, 7]
  refine x_then_n ?_
  refine c_seq fun KJ_15 hKJ_15 => ?_
  refine wp_seq ?_
  refine wp_region_lit ?_
  refine s_assign hm rfl rfl ?_
  clear hm a; intro a hm
  refine wpList_nil ?_
  replace hm : Fr 119 a [(0, .int .i64 (band .i64 x0 15)), (1, .int .i64 (w64 ((band .i64 x1 3) + 1))), (2, .int .i64 x2), (6, .bool false), (7, .pointer (some ⟨g_5, 0, none⟩)), (8, .int .i64 0)] := hm.keep [0, 1, 2, 6, 7, 8]
  refine x_then_n ?_
  have hJ_j_27 : ∀ (x_17 : wait_Calls), hocketlaw20_WaitAll.J1 K x1 x0 x2 x_17 = some r → ∀ (a : Act) (w_26 : World), (∃ (v_20 : Value) (v_24 : Value) (N_16 : Mem) (M_18 : Mem) (M_22 : Mem), Fr 119 a [(0, .int .i64 (band .i64 x0 15)), (1, .int .i64 (w64 ((band .i64 x1 3) + 1))), (2, .int .i64 x2), (6, .bool false), (7, .pointer (some ⟨g_5, 0, none⟩))] ∧ Sep w0 w_26 [N_16, Mem.one g_5 (.cells ([v_20, v_24] : List Value).toArray 74 (0, 0)), M_18, M_22] Z ∧ N_4.le N_16 ∧ Own k_wait_call 78 M_18 N_16 v_20 x_17.l ∧ Own k_api_Reply 56 M_22 N_16 v_24 x_17.done) → KJ_15 a w_26 := by
    clear H hm hS a
    rintro x_17 H a w_26 ⟨v_20, v_24, N_16, M_18, M_22, hm, hS, le_16, ho_21, ho_25⟩
    unfold hocketlaw20_WaitAll.J1 at H
    refine hKJ_15 _ _ ?_
    refine wp_seq ?_
    refine wp_region_lit ?_
    refine s_move hm rfl rfl ?_
    clear hm a; intro a hm
    refine s_min hm rfl rfl rfl ?_
    clear hm a; intro a hm
    refine s_assign hm rfl rfl ?_
    clear hm a; intro a hm
    refine wpList_nil ?_
    replace hm : Fr 119 a [(0, .int .i64 (mn (band .i64 x0 15) 8)), (1, .int .i64 (w64 ((band .i64 x1 3) + 1))), (2, .int .i64 x2), (6, .bool false), (7, .pointer (some ⟨g_5, 0, none⟩))] := hm.keep [0, 1, 2, 6, 7]
    refine x_then_n ?_
    refine c_seq fun KJ_28 hKJ_28 => ?_
    refine wp_seq ?_
    refine wp_region_lit ?_
    refine s_assign hm rfl rfl ?_
    clear hm a; intro a hm
    refine wpList_nil ?_
    replace hm : Fr 119 a [(0, .int .i64 (mn (band .i64 x0 15) 8)), (1, .int .i64 (w64 ((band .i64 x1 3) + 1))), (2, .int .i64 x2), (6, .bool false), (7, .pointer (some ⟨g_5, 0, none⟩)), (9, .int .i64 0)] := hm.keep [0, 1, 2, 6, 7, 9]
    refine x_then_n ?_
    have hJ_j_40 : ∀ (x_30 : wait_Calls), hocketlaw20_WaitAll.J2 K x0 x2 x_30 = some r → ∀ (a : Act) (w_39 : World), (∃ (v_33 : Value) (v_37 : Value) (N_29 : Mem) (M_31 : Mem) (M_35 : Mem), Fr 119 a [(0, .int .i64 (mn (band .i64 x0 15) 8)), (2, .int .i64 x2), (6, .bool false), (7, .pointer (some ⟨g_5, 0, none⟩))] ∧ Sep w0 w_39 [N_29, Mem.one g_5 (.cells ([v_33, v_37] : List Value).toArray 74 (0, 0)), M_31, M_35] Z ∧ N_16.le N_29 ∧ Own k_wait_call 78 M_31 N_29 v_33 x_30.l ∧ Own k_api_Reply 56 M_35 N_29 v_37 x_30.done) → KJ_28 a w_39 := by
      clear H hm hS a
      rintro x_30 H a w_39 ⟨v_33, v_37, N_29, M_31, M_35, hm, hS, le_29, ho_34, ho_38⟩
      unfold hocketlaw20_WaitAll.J2 at H
      refine hKJ_28 _ _ ?_
      refine c_seq fun KJ_41 hKJ_41 => ?_
      refine wp_seq ?_
      refine wp_region_lit ?_
      refine s_assign hm rfl rfl ?_
      clear hm a; intro a hm
      refine wpList_nil ?_
      replace hm : Fr 119 a [(0, .int .i64 (mn (band .i64 x0 15) 8)), (2, .int .i64 x2), (6, .bool false), (7, .pointer (some ⟨g_5, 0, none⟩)), (14, .int .i64 0)] := hm.keep [0, 2, 6, 7, 14]
      refine x_then_n ?_
      have hJ_j_53 : ∀ (x_43 : wait_Calls), hocketlaw20_WaitAll.J3 K x0 x_43 = some r → ∀ (a : Act) (w_52 : World), (∃ (v_46 : Value) (v_50 : Value) (N_42 : Mem) (M_44 : Mem) (M_48 : Mem), Fr 119 a [(0, .int .i64 (mn (band .i64 x0 15) 8)), (6, .bool false), (7, .pointer (some ⟨g_5, 0, none⟩))] ∧ Sep w0 w_52 [N_42, Mem.one g_5 (.cells ([v_46, v_50] : List Value).toArray 74 (0, 0)), M_44, M_48] Z ∧ N_29.le N_42 ∧ Own k_wait_call 78 M_44 N_42 v_46 x_43.l ∧ Own k_api_Reply 56 M_48 N_42 v_50 x_43.done) → KJ_41 a w_52 := by
        clear H hm hS a
        rintro x_43 H a w_52 ⟨v_46, v_50, N_42, M_44, M_48, hm, hS, le_42, ho_47, ho_51⟩
        unfold hocketlaw20_WaitAll.J3 at H
        refine hKJ_41 _ _ ?_
        refine c_seq fun KJ_54 hKJ_54 => ?_
        refine wp_seq ?_
        refine wp_region_lit ?_
        refine s_move hm rfl rfl ?_
        clear hm a; intro a hm
        obtain ⟨t_55, et_55, H⟩ := Option.bind_eq_some_iff.1 H
        refine s_call hm rfl Try.call26 rfl (wait_Calls_Take.calls _ x_43.l _ _ x_43.done _ _ t_55 w0 _ _ N_42 (hS.new_zed [0, 1, 2]) (hS.enter [0, 1, 2] (by decide)) (ho_47.mono (Mem.le.refl _)) (ho_51.mono (Mem.le.refl _)) et_55) ?_
        rintro v_59 w_56 ⟨_, v_63, v_67, N_57, M_61, M_65, M_69, rfl, hS', hr_60, hr_64, hr_68⟩
        clear hm a; intro a hm
        obtain ⟨N_58, hS'', le_58, ln_58⟩ := hS.call [0, 1, 2] (by decide) rfl (l' := [Mem.one g_5 (.cells ([v_63, v_67] : List Value).toArray 74 (0, 0)), M_65, M_69]) (ow := [M_61]) rfl hS'
        replace hS : Sep w0 w_56 [N_58, Mem.one g_5 (.cells ([v_63, v_67] : List Value).toArray 74 (0, 0)), M_65, M_69, M_61] Z := hS''
        clear hS' hS''
        refine s_lenO hm rfl Try.underlying53 rfl (hr_60.mono (Mem.un_le le_58 ln_58)) ?_
        clear hm a; intro a hm
        refine s_move hm rfl rfl ?_
        clear hm a; intro a hm
        refine wpList_nil ?_
        replace hm : Fr 119 a [(0, .int .i64 (mn (band .i64 x0 15) 8)), (6, .bool false), (7, .pointer (some ⟨g_5, 0, none⟩)), (94, v_59), (95, .int .i64 (t_55.1.length : Int)), (96, .int .i64 0)] := hm.keep [0, 6, 7, 94, 95, 96]
        refine x_then_n ?_
        have hJ_j_73 : hocketlaw20_WaitAll.J4 K t_55 x0 = some r → ∀ (a : Act) (w_72 : World), (∃ (N_71 : Mem), Fr 119 a [(0, .int .i64 (mn (band .i64 x0 15) 8)), (6, .bool false), (7, .pointer (some ⟨g_5, 0, none⟩))] ∧ Sep w0 w_72 [N_71, Mem.one g_5 (.cells ([v_63, v_67] : List Value).toArray 74 (0, 0)), M_65, M_69, Mem.no] Z ∧ N_58.le N_71) → KJ_54 a w_72 := by
          clear H hm hS a
          rintro H a w_72 ⟨N_71, hm, hS, le_71⟩
          unfold hocketlaw20_WaitAll.J4 at H
          refine hKJ_54 _ _ ?_
          refine c_seq fun KJ_74 hKJ_74 => ?_
          refine wp_region_lit ?_
          refine s_move hm rfl rfl ?_
          clear hm a; intro a hm
          obtain ⟨t_75, et_75, H⟩ := Option.bind_eq_some_iff.1 H
          refine s_call hm rfl Try.call23 rfl (wait_Calls_Waiting.calls _ t_55.2.1 _ t_55.2.2 _ t_75 w0 _ _ _ (Mem.le.refl _) (hS.enter [0] (by decide)) ((hr_64.mono (Mem.un_le le_58 ln_58)).rd (hS.own_zed [0] 1 (by decide)) (le_71.trans (hS.new_zed [0]))) ((hr_68.mono (Mem.un_le le_58 ln_58)).rd (hS.own_zed [0] 2 (by decide)) (le_71.trans (hS.new_zed [0]))) et_75) ?_
          rintro _ w_76 ⟨N_77, rfl, hS'⟩
          clear hm a; intro a hm
          obtain ⟨N_78, hS'', le_78, ln_78⟩ := hS.call [0] (by decide) rfl (l' := [Mem.one g_5 (.cells ([v_63, v_67] : List Value).toArray 74 (0, 0))]) (ow := []) rfl hS'
          replace hS : Sep w0 w_76 [N_78, Mem.one g_5 (.cells ([v_63, v_67] : List Value).toArray 74 (0, 0)), M_65, M_69, Mem.no] Z := hS''
          clear hS' hS''
          refine s_move hm rfl rfl ?_
          clear hm a; intro a hm
          refine s_cmp (b := decide (t_75 ≤ (mn (band .i64 x0 15) 8))) hm rfl rfl rfl (.inr (.inr (.inr (.inl ⟨rfl, rfl⟩)))) ?_
          clear hm a; intro a hm
          refine s_move hm rfl rfl ?_
          clear hm a; intro a hm
          by_cases hc_79 : t_75 ≤ (mn (band .i64 x0 15) 8)
          · rw [if_pos hc_79] at H
            refine s_on hm rfl rfl (decide_eq_true hc_79) ?_
            obtain ⟨t_80, et_80, H⟩ := Option.bind_eq_some_iff.1 H
            refine s_call hm rfl Try.call27 rfl (hocketlaw20_awake.calls K  t_80 w0 _ _ _ (Mem.le.refl _) (hS.enter [] (by decide))  et_80) ?_
            rintro _ w_81 ⟨N_82, rfl, hS'⟩
            clear hm a; intro a hm
            obtain ⟨N_83, hS'', le_83, ln_83⟩ := hS.call [] (by decide) rfl (l' := []) (ow := []) rfl hS'
            replace hS : Sep w0 w_81 [N_83, Mem.one g_5 (.cells ([v_63, v_67] : List Value).toArray 74 (0, 0)), M_65, M_69, Mem.no] Z := hS''
            clear hS' hS''
            refine s_pick_t hm rfl rfl (decide_eq_true hc_79) rfl ?_
            clear hm a; intro a hm
            refine s_assign hm rfl rfl ?_
            clear hm a; intro a hm
            refine wpList_nil ?_
            replace hm : Fr 119 a [(6, .bool true)] := hm.keep [6]
            refine x_then_n (hKJ_74 _ _ ?_)
            refine wp_ret ?_
            exact f_ret hm (rs := [.tmp 6]) rfl (.tmp rfl .nil) ⟨_, rfl, N_83, rfl, (Sep.sel hS [0] (by decide))⟩
          · rw [if_neg hc_79] at H
            cases H
        clear hKJ_54
        replace hS : Sep w0 w_56 [N_58, Mem.one g_5 (.cells ([v_63, v_67] : List Value).toArray 74 (0, 0)), M_65, M_69, M_61] Z := hS
        replace hm : Fr 119 a [(0, .int .i64 (mn (band .i64 x0 15) 8)), (6, .bool false), (7, .pointer (some ⟨g_5, 0, none⟩)), (94, v_59), (95, .int .i64 (t_55.1.length : Int)), (96, .int .i64 0)] := hm.keep [0, 6, 7, 94, 95, 96]
        refine c_block ?_
        refine c_loop (fun k_86 a w_86 => ∃ (x_85 : Int) (N_84 : Mem), hocketlaw20_WaitAll.L1 K t_55 (fun v => hocketlaw20_WaitAll.J4 K t_55 x0) k_86 x_85 = some r ∧ Fr 119 a [(0, .int .i64 (mn (band .i64 x0 15) 8)), (6, .bool false), (7, .pointer (some ⟨g_5, 0, none⟩)), (94, v_59), (95, .int .i64 (t_55.1.length : Int)), (96, .int .i64 x_85)] ∧ Sep w0 w_86 [N_84, Mem.one g_5 (.cells ([v_63, v_67] : List Value).toArray 74 (0, 0)), M_65, M_69, M_61] Z ∧ N_58.le N_84) K ⟨0, N_58, H, hm, (Sep.sel hS [0, 1, 2, 3, 4] (by decide)), (Mem.le.refl _)⟩ (fun a w h => by obtain ⟨_, _, H, _⟩ := h; cases (show (none : Option (Unit)) = some r from H)) ?_
        clear hm hS a H
        rintro k_86 a w_86 KL_86 hKL_86 ⟨x_85, N_84, H, hm, hS, le_84⟩
        replace H : hocketlaw20_WaitAll.B1 K t_55 (fun v => hocketlaw20_WaitAll.J4 K t_55 x0) (hocketlaw20_WaitAll.L1 K t_55 (fun v => hocketlaw20_WaitAll.J4 K t_55 x0) k_86) x_85 = some r := H
        unfold hocketlaw20_WaitAll.B1 at H
        refine wp_seq ?_
        refine wp_region_lit ?_
        refine s_cmp (b := decide (x_85 < (t_55.1.length : Int))) hm rfl rfl rfl (.inr (.inr (.inl ⟨rfl, rfl⟩))) ?_
        clear hm a; intro a hm
        refine wpList_nil ?_
        replace hm : Fr 119 a [(0, .int .i64 (mn (band .i64 x0 15) 8)), (6, .bool false), (7, .pointer (some ⟨g_5, 0, none⟩)), (94, v_59), (95, .int .i64 (t_55.1.length : Int)), (96, .int .i64 x_85), (97, .bool (decide (x_85 < (t_55.1.length : Int))))] := hm.keep [0, 6, 7, 94, 95, 96, 97]
        refine x_then_n ?_
        refine c_seq fun KJ_88 hKJ_88 => ?_
        by_cases hc_89 : x_85 < (t_55.1.length : Int)
        · rw [if_pos hc_89] at H
          refine c_cond_t hm rfl (decide_eq_true hc_89) ?_
          refine wp_skip ?_
          refine x_then_n (hKJ_88 _ _ ?_)
          refine c_seq fun KJ_90 hKJ_90 => ?_
          refine c_block ?_
          refine wp_seq ?_
          refine wp_region_lit ?_
          obtain ⟨t_91, et_91, H⟩ := Option.bind_eq_some_iff.1 H
          refine v_indexO hm rfl Try.underlying53 ti56 rfl rfl rfl (hr_60.mono (Mem.un_le le_58 ln_58)) (hS.own 4) et_91 ?_
          intro ad_92 cs_93 hk_94 hc_95
          obtain ⟨v_96, rfl, hr_97⟩ := k_api_Reply.open' hk_94
          clear hm a; intro a hm
          refine s_load hm rfl rfl (el_agg (o := 0) (us := [.int .i64 t_91.Sess, .int .i64 t_91.Seq, .int .i64 t_91.Result.Err, v_96, .int .i64 t_91.Result.N]) hc_95 Try.underlying56 rfl ti56 rfl rfl) ?_
          clear hm a; intro a hm
          refine v_alloc hm rfl ti56 hS ?_
          intro w_98 g_99 hS'
          clear hm a; intro a hm
          replace hS : Sep w0 w_98 [N_84, Mem.one g_5 (.cells ([v_63, v_67] : List Value).toArray 74 (0, 0)), M_65, M_69, M_61, Mem.one g_99 (.cells ([.int .i64 0, .int .i64 0, .int .i64 0, .slice none 0 0, .int .i64 0] : List Value).toArray 56 (0, 0))] Z := hS'
          clear hS'
          obtain ⟨w_100, hs', hS'⟩ := hS.store (P := Try.prog) (p := 5) (o := 0) (t := 56) (v := .agg ([.int .i64 t_91.Sess, .int .i64 t_91.Seq, .int .i64 t_91.Result.Err, v_96, .int .i64 t_91.Result.N] : List Value).toArray) (vs := [.int .i64 t_91.Sess, .int .i64 t_91.Seq, .int .i64 t_91.Result.Err, v_96, .int .i64 t_91.Result.N]) rfl ti56 rfl rfl rfl (by intro u hu; simp only [List.mem_cons, List.not_mem_nil, or_false] at hu; rcases hu with rfl | rfl | rfl | rfl | rfl <;> first | rfl | exact hr_97.one)
          refine s_store hm rfl rfl hs' ?_
          replace hS : Sep w0 w_100 [N_84, Mem.one g_5 (.cells ([v_63, v_67] : List Value).toArray 74 (0, 0)), M_65, M_69, M_61, Mem.one g_99 (.cells ([.int .i64 t_91.Sess, .int .i64 t_91.Seq, .int .i64 t_91.Result.Err, v_96, .int .i64 t_91.Result.N] : List Value).toArray 56 (0, 0))] Z := hS'
          clear hs' hS'
          refine wpList_nil ?_
          replace hm : Fr 119 a [(0, .int .i64 (mn (band .i64 x0 15) 8)), (6, .bool false), (7, .pointer (some ⟨g_5, 0, none⟩)), (17, .pointer (some ⟨g_99, 0, none⟩)), (94, v_59), (95, .int .i64 (t_55.1.length : Int)), (96, .int .i64 x_85)] := hm.keep [0, 6, 7, 17, 94, 95, 96]
          refine x_then_n ?_
          refine c_seq fun KJ_101 hKJ_101 => ?_
          refine wp_region_lit ?_
          refine s_fieldAddr hm rfl Try.underlying56 rfl ti3 rfl rfl ?_
          clear hm a; intro a hm
          refine s_load hm rfl rfl (hS.load_one (p := 5) rfl Try.underlying3 rfl rfl) ?_
          clear hm a; intro a hm
          refine s_fieldAddr hm rfl Try.underlying56 rfl ti28 rfl rfl ?_
          clear hm a; intro a hm
          refine s_fieldAddr hm rfl Try.underlying28 rfl ti3 rfl rfl ?_
          clear hm a; intro a hm
          refine s_load hm rfl rfl (hS.load_one (p := 5) rfl Try.underlying3 rfl rfl) ?_
          clear hm a; intro a hm
          refine s_cmp (b := (t_91.Sess != t_91.Result.N)) hm rfl rfl rfl (.inr (.inl ⟨rfl, rfl⟩)) ?_
          clear hm a; intro a hm
          refine s_move hm rfl rfl ?_
          clear hm a; intro a hm
          by_cases hc_102 : t_91.Sess = t_91.Result.N
          · rw [if_pos hc_102] at H
            refine s_on hm rfl rfl (bne_eq_false_iff_eq.2 hc_102) ?_
            refine s_fieldAddr hm rfl Try.underlying56 rfl ti3 rfl rfl ?_
            clear hm a; intro a hm
            refine s_on hm rfl rfl (bne_eq_false_iff_eq.2 hc_102) ?_
            refine s_load hm rfl rfl (hS.load_one (p := 5) rfl Try.underlying3 rfl rfl) ?_
            clear hm a; intro a hm
            refine s_on hm rfl rfl (bne_eq_false_iff_eq.2 hc_102) ?_
            refine s_cmp (b := (t_91.Seq != 1)) hm rfl rfl rfl (.inr (.inl ⟨rfl, rfl⟩)) ?_
            clear hm a; intro a hm
            refine s_pick_f hm rfl rfl (bne_eq_false_iff_eq.2 hc_102) rfl ?_
            clear hm a; intro a hm
            refine wpList_nil ?_
            replace hm : Fr 119 a [(0, .int .i64 (mn (band .i64 x0 15) 8)), (6, .bool false), (7, .pointer (some ⟨g_5, 0, none⟩)), (94, v_59), (95, .int .i64 (t_55.1.length : Int)), (96, .int .i64 x_85), (110, .bool (t_91.Seq != 1))] := hm.keep [0, 6, 7, 94, 95, 96, 110]
            refine x_then_n (hKJ_101 _ _ ?_)
            by_cases hc_103 : t_91.Seq = 1
            · rw [if_pos hc_103] at H
              refine c_cond_f hm rfl (bne_eq_false_iff_eq.2 hc_103) ?_
              refine wp_skip ?_
              refine x_block_n ?_
              refine x_then_n (hKJ_90 _ _ ?_)
              refine wp_region_lit ?_
              refine s_arith (r := w64 (x_85 + 1)) hm rfl rfl rfl (.inl ⟨rfl, rfl⟩) ?_
              clear hm a; intro a hm
              refine s_move hm rfl rfl ?_
              clear hm a; intro a hm
              refine wpList_nil ?_
              replace hm : Fr 119 a [(0, .int .i64 (mn (band .i64 x0 15) 8)), (6, .bool false), (7, .pointer (some ⟨g_5, 0, none⟩)), (94, v_59), (95, .int .i64 (t_55.1.length : Int)), (96, .int .i64 (w64 (x_85 + 1)))] := hm.keep [0, 6, 7, 94, 95, 96]
              refine x_then_n (hKL_86 _ _ ?_)
              replace hS : Sep w0 w_100 [N_84, Mem.one g_5 (.cells ([v_63, v_67] : List Value).toArray 74 (0, 0)), M_65, M_69, M_61, Mem.one g_99 (.cells ([.int .i64 t_91.Sess, .int .i64 t_91.Seq, .int .i64 t_91.Result.Err, v_96, .int .i64 t_91.Result.N] : List Value).toArray 56 (0, 0))] Z := hS
              replace hm : Fr 119 a [(0, .int .i64 (mn (band .i64 x0 15) 8)), (6, .bool false), (7, .pointer (some ⟨g_5, 0, none⟩)), (94, v_59), (95, .int .i64 (t_55.1.length : Int)), (96, .int .i64 (w64 (x_85 + 1)))] := hm.keep [0, 6, 7, 94, 95, 96]
              exact ⟨w64 (x_85 + 1), N_84, H, hm, (Sep.sel hS [0, 1, 2, 3, 4] (by decide)), le_84⟩
            · rw [if_neg hc_103] at H
              cases H
          · rw [if_neg hc_102] at H
            cases H
        · rw [if_neg hc_89] at H
          refine c_cond_f hm rfl (decide_eq_false hc_89) ?_
          refine wp_exit (x_then_x (x_then_x (x_block_t ?_)))
          replace hS : Sep w0 w_86 [N_84, Mem.one g_5 (.cells ([v_63, v_67] : List Value).toArray 74 (0, 0)), M_65, M_69, M_61] Z := hS
          replace hm : Fr 119 a [(0, .int .i64 (mn (band .i64 x0 15) 8)), (6, .bool false), (7, .pointer (some ⟨g_5, 0, none⟩))] := hm.keep [0, 6, 7]
          exact x_then_n (hJ_j_73  H _ _ ⟨N_84, hm, (Sep.sel hS [0, 1, 2, 3, 1003] (by decide)), le_84⟩)
      clear hKJ_41
      replace hS : Sep w0 w_39 [N_29, Mem.one g_5 (.cells ([v_33, v_37] : List Value).toArray 74 (0, 0)), M_31, M_35] Z := hS
      replace hm : Fr 119 a [(0, .int .i64 (mn (band .i64 x0 15) 8)), (2, .int .i64 x2), (6, .bool false), (7, .pointer (some ⟨g_5, 0, none⟩)), (14, .int .i64 0)] := hm.keep [0, 2, 6, 7, 14]
      refine c_block ?_
      refine c_loop (fun k_115 a w_115 => ∃ (x_105 : Int) (x_106 : wait_Calls) (v_109 : Value) (v_113 : Value) (N_104 : Mem) (M_107 : Mem) (M_111 : Mem), hocketlaw20_WaitAll.L2 K x0 x2 (fun v => hocketlaw20_WaitAll.J3 K x0 v) k_115 (x_105, x_106) = some r ∧ Fr 119 a [(0, .int .i64 (mn (band .i64 x0 15) 8)), (2, .int .i64 x2), (6, .bool false), (7, .pointer (some ⟨g_5, 0, none⟩)), (14, .int .i64 x_105)] ∧ Sep w0 w_115 [N_104, Mem.one g_5 (.cells ([v_109, v_113] : List Value).toArray 74 (0, 0)), M_107, M_111] Z ∧ N_29.le N_104 ∧ Own k_wait_call 78 M_107 N_104 v_109 x_106.l ∧ Own k_api_Reply 56 M_111 N_104 v_113 x_106.done) K ⟨0, x_30, v_33, v_37, N_29, M_31, M_35, H, hm, (Sep.sel hS [0, 1, 2, 3] (by decide)), (Mem.le.refl _), (ho_34.mono (Mem.le.refl _)), (ho_38.mono (Mem.le.refl _))⟩ (fun a w h => by obtain ⟨_, _, _, _, _, _, _, H, _⟩ := h; cases (show (none : Option (Unit)) = some r from H)) ?_
      clear hm hS a H
      rintro k_115 a w_115 KL_115 hKL_115 ⟨x_105, x_106, v_109, v_113, N_104, M_107, M_111, H, hm, hS, le_104, ho_110, ho_114⟩
      replace H : hocketlaw20_WaitAll.B2 K x0 x2 (fun v => hocketlaw20_WaitAll.J3 K x0 v) (hocketlaw20_WaitAll.L2 K x0 x2 (fun v => hocketlaw20_WaitAll.J3 K x0 v) k_115) x_105 x_106 = some r := H
      unfold hocketlaw20_WaitAll.B2 at H
      refine c_seq fun KJ_117 hKJ_117 => ?_
      refine wp_seq ?_
      refine wp_region_lit ?_
      refine s_move hm rfl rfl ?_
      clear hm a; intro a hm
      refine s_move hm rfl rfl ?_
      clear hm a; intro a hm
      refine s_cmp (b := decide (x_105 < (mn (band .i64 x0 15) 8))) hm rfl rfl rfl (.inr (.inr (.inl ⟨rfl, rfl⟩))) ?_
      clear hm a; intro a hm
      refine wpList_nil ?_
      replace hm : Fr 119 a [(0, .int .i64 (mn (band .i64 x0 15) 8)), (2, .int .i64 x2), (6, .bool false), (7, .pointer (some ⟨g_5, 0, none⟩)), (14, .int .i64 x_105), (72, .bool (decide (x_105 < (mn (band .i64 x0 15) 8))))] := hm.keep [0, 2, 6, 7, 14, 72]
      refine x_then_n ?_
      by_cases hc_118 : x_105 < (mn (band .i64 x0 15) 8)
      · rw [if_pos hc_118] at H
        refine c_cond_t hm rfl (decide_eq_true hc_118) ?_
        refine wp_skip ?_
        refine x_then_n (hKJ_117 _ _ ?_)
        refine c_seq fun KJ_119 hKJ_119 => ?_
        refine c_block ?_
        refine wp_seq ?_
        refine wp_region_lit ?_
        refine s_move hm rfl rfl ?_
        clear hm a; intro a hm
        refine s_arith (r := w64 (x_105 * 3)) hm rfl rfl rfl (.inr (.inr ⟨rfl, rfl⟩)) ?_
        clear hm a; intro a hm
        refine s_move hm rfl rfl ?_
        clear hm a; intro a hm
        refine s_bits (i := x2) (j := 7) (r := band .i64 x2 7) hm rfl rfl rfl (.inl ⟨rfl, rfl⟩) ?_
        clear hm a; intro a hm
        refine s_arith (r := w64 ((w64 (x_105 * 3)) + (band .i64 x2 7))) hm rfl rfl rfl (.inl ⟨rfl, rfl⟩) ?_
        clear hm a; intro a hm
        refine s_div (r := Int.tmod (w64 ((w64 (x_105 * 3)) + (band .i64 x2 7))) 8) hm rfl rfl rfl (by decide) (.inr ⟨rfl, rfl⟩) ?_
        clear hm a; intro a hm
        refine s_arith (r := w64 ((Int.tmod (w64 ((w64 (x_105 * 3)) + (band .i64 x2 7))) 8) + 1)) hm rfl rfl rfl (.inl ⟨rfl, rfl⟩) ?_
        clear hm a; intro a hm
        refine s_assign hm rfl rfl ?_
        clear hm a; intro a hm
        refine wpList_nil ?_
        replace hm : Fr 119 a [(0, .int .i64 (mn (band .i64 x0 15) 8)), (2, .int .i64 x2), (6, .bool false), (7, .pointer (some ⟨g_5, 0, none⟩)), (14, .int .i64 x_105), (15, .int .i64 (w64 ((Int.tmod (w64 ((w64 (x_105 * 3)) + (band .i64 x2 7))) 8) + 1)))] := hm.keep [0, 2, 6, 7, 14, 15]
        refine x_then_n ?_
        refine wp_seq ?_
        refine wp_region_lit ?_
        refine s_move hm rfl rfl ?_
        clear hm a; intro a hm
        refine s_move hm rfl rfl ?_
        clear hm a; intro a hm
        refine s_build hm rfl ti45 pl45 rfl (.cons rfl (.cons rfl .nil)) (cs := [.int .i64 (w64 ((Int.tmod (w64 ((w64 (x_105 * 3)) + (band .i64 x2 7))) 8) + 1)), .int .i64 1, .int .i64 0, .int .i64 0, .slice none 0 0, .slice none 0 0, .slice none 0 0]) rfl ?_
        clear hm a; intro a hm
        refine s_move hm rfl rfl ?_
        clear hm a; intro a hm
        refine s_build hm rfl ti28 pl28 rfl (.cons rfl .nil) (cs := [.int .i64 0, .slice none 0 0, .int .i64 (w64 ((Int.tmod (w64 ((w64 (x_105 * 3)) + (band .i64 x2 7))) 8) + 1))]) rfl ?_
        clear hm a; intro a hm
        refine s_build hm rfl ti51 pl51 rfl (.cons rfl (.cons rfl .nil)) (cs := [.int .i64 0, .int .i64 (w64 ((Int.tmod (w64 ((w64 (x_105 * 3)) + (band .i64 x2 7))) 8) + 1)), .int .i64 1, .int .i64 0, .int .i64 0, .slice none 0 0, .slice none 0 0, .slice none 0 0, .int .i64 0, .slice none 0 0, .int .i64 (w64 ((Int.tmod (w64 ((w64 (x_105 * 3)) + (band .i64 x2 7))) 8) + 1))]) rfl ?_
        clear hm a; intro a hm
        obtain ⟨t_120, et_120, H⟩ := Option.bind_eq_some_iff.1 H
        refine s_call hm rfl Try.call25 rfl (wait_Calls_Done.calls K _ x_106.l _ _ x_106.done _ _ (⟨0, (⟨w64 ((Int.tmod (w64 ((w64 (x_105 * 3)) + (band .i64 x2 7))) 8) + 1), 1, (⟨0, 0, ([] : List UInt8), ([] : List UInt8), ([] : List UInt8)⟩ : api_Cmd)⟩ : api_Entry), (⟨0, ([] : List UInt8), w64 ((Int.tmod (w64 ((w64 (x_105 * 3)) + (band .i64 x2 7))) 8) + 1)⟩ : api_Result)⟩ : api_Done) _ _ _ _ t_120 w0 _ _ N_104 (hS.new_zed [0, 1, 2]) (hS.enter [0, 1, 2] (by decide)) (ho_110.mono (Mem.le.refl _)) (ho_114.mono (Mem.le.refl _)) (Rd.nil _ _) (Rd.nil _ _) (Rd.nil _ _) (Rd.nil _ _) et_120) ?_
        rintro _ w_121 ⟨v_124, v_128, N_122, M_126, M_130, rfl, hS', hr_125, hr_129⟩
        clear hm a; intro a hm
        obtain ⟨N_123, hS'', le_123, ln_123⟩ := hS.call [0, 1, 2] (by decide) rfl (l' := [Mem.one g_5 (.cells ([v_124, v_128] : List Value).toArray 74 (0, 0)), M_126, M_130]) (ow := []) rfl hS'
        replace hS : Sep w0 w_121 [N_123, Mem.one g_5 (.cells ([v_124, v_128] : List Value).toArray 74 (0, 0)), M_126, M_130] Z := hS''
        clear hS' hS''
        refine s_move hm rfl rfl ?_
        clear hm a; intro a hm
        refine s_move hm rfl rfl ?_
        clear hm a; intro a hm
        refine s_cmp (b := decide ((w64 ((Int.tmod (w64 ((w64 (x_105 * 3)) + (band .i64 x2 7))) 8) + 1)) ≤ (mn (band .i64 x0 15) 8))) hm rfl rfl rfl (.inr (.inr (.inr (.inl ⟨rfl, rfl⟩)))) ?_
        clear hm a; intro a hm
        refine s_beq (b := !(t_120.1 == (decide ((w64 ((Int.tmod (w64 ((w64 (x_105 * 3)) + (band .i64 x2 7))) 8) + 1)) ≤ (mn (band .i64 x0 15) 8))))) hm rfl Try.underlying4 rfl rfl (.inr ⟨rfl, rfl⟩) ?_
        clear hm a; intro a hm
        refine wpList_nil ?_
        replace hm : Fr 119 a [(0, .int .i64 (mn (band .i64 x0 15) 8)), (2, .int .i64 x2), (6, .bool false), (7, .pointer (some ⟨g_5, 0, none⟩)), (14, .int .i64 x_105), (92, .bool (!(t_120.1 == (decide ((w64 ((Int.tmod (w64 ((w64 (x_105 * 3)) + (band .i64 x2 7))) 8) + 1)) ≤ (mn (band .i64 x0 15) 8))))))] := hm.keep [0, 2, 6, 7, 14, 92]
        refine x_then_n ?_
        by_cases hc_132 : t_120.1 = (decide ((w64 ((Int.tmod (w64 ((w64 (x_105 * 3)) + (band .i64 x2 7))) 8) + 1)) ≤ (mn (band .i64 x0 15) 8)))
        · rw [if_pos hc_132] at H
          refine c_cond_f hm rfl (nf (beq_iff_eq.2 hc_132)) ?_
          refine wp_skip ?_
          refine x_block_n ?_
          refine x_then_n (hKJ_119 _ _ ?_)
          refine wp_region_lit ?_
          refine s_move hm rfl rfl ?_
          clear hm a; intro a hm
          refine s_arith (r := w64 (x_105 + 1)) hm rfl rfl rfl (.inl ⟨rfl, rfl⟩) ?_
          clear hm a; intro a hm
          refine s_assign hm rfl rfl ?_
          clear hm a; intro a hm
          refine wpList_nil ?_
          replace hm : Fr 119 a [(0, .int .i64 (mn (band .i64 x0 15) 8)), (2, .int .i64 x2), (6, .bool false), (7, .pointer (some ⟨g_5, 0, none⟩)), (14, .int .i64 (w64 (x_105 + 1)))] := hm.keep [0, 2, 6, 7, 14]
          refine x_then_n (hKL_115 _ _ ?_)
          replace hS : Sep w0 w_121 [N_123, Mem.one g_5 (.cells ([v_124, v_128] : List Value).toArray 74 (0, 0)), M_126, M_130] Z := hS
          replace hm : Fr 119 a [(0, .int .i64 (mn (band .i64 x0 15) 8)), (2, .int .i64 x2), (6, .bool false), (7, .pointer (some ⟨g_5, 0, none⟩)), (14, .int .i64 (w64 (x_105 + 1)))] := hm.keep [0, 2, 6, 7, 14]
          exact ⟨w64 (x_105 + 1), (⟨t_120.2.1, t_120.2.2⟩ : wait_Calls), v_124, v_128, N_123, M_126, M_130, H, hm, (Sep.sel hS [0, 1, 2, 3] (by decide)), (le_104.trans le_123), ((hr_125.mono (Mem.un_le le_123 ln_123)).mono (Mem.le.refl _)), ((hr_129.mono (Mem.un_le le_123 ln_123)).mono (Mem.le.refl _))⟩
        · rw [if_neg hc_132] at H
          cases H
      · rw [if_neg hc_118] at H
        refine c_cond_f hm rfl (decide_eq_false hc_118) ?_
        refine wp_exit (x_then_x (x_then_x (x_block_t ?_)))
        replace hS : Sep w0 w_115 [N_104, Mem.one g_5 (.cells ([v_109, v_113] : List Value).toArray 74 (0, 0)), M_107, M_111] Z := hS
        replace hm : Fr 119 a [(0, .int .i64 (mn (band .i64 x0 15) 8)), (6, .bool false), (7, .pointer (some ⟨g_5, 0, none⟩))] := hm.keep [0, 6, 7]
        exact x_then_n (hJ_j_53 x_106 H _ _ ⟨v_109, v_113, N_104, M_107, M_111, hm, (Sep.sel hS [0, 1, 2, 3] (by decide)), le_104, (ho_110.mono (Mem.le.refl _)), (ho_114.mono (Mem.le.refl _))⟩)
    clear hKJ_28
    replace hS : Sep w0 w_26 [N_16, Mem.one g_5 (.cells ([v_20, v_24] : List Value).toArray 74 (0, 0)), M_18, M_22] Z := hS
    replace hm : Fr 119 a [(0, .int .i64 (mn (band .i64 x0 15) 8)), (1, .int .i64 (w64 ((band .i64 x1 3) + 1))), (2, .int .i64 x2), (6, .bool false), (7, .pointer (some ⟨g_5, 0, none⟩)), (9, .int .i64 0)] := hm.keep [0, 1, 2, 6, 7, 9]
    refine c_block ?_
    refine c_loop (fun k_144 a w_144 => ∃ (x_134 : Int) (x_135 : wait_Calls) (v_138 : Value) (v_142 : Value) (N_133 : Mem) (M_136 : Mem) (M_140 : Mem), hocketlaw20_WaitAll.L3 K x1 x0 (fun v => hocketlaw20_WaitAll.J2 K x0 x2 v) k_144 (x_134, x_135) = some r ∧ Fr 119 a [(0, .int .i64 (mn (band .i64 x0 15) 8)), (1, .int .i64 (w64 ((band .i64 x1 3) + 1))), (2, .int .i64 x2), (6, .bool false), (7, .pointer (some ⟨g_5, 0, none⟩)), (9, .int .i64 x_134)] ∧ Sep w0 w_144 [N_133, Mem.one g_5 (.cells ([v_138, v_142] : List Value).toArray 74 (0, 0)), M_136, M_140] Z ∧ N_16.le N_133 ∧ Own k_wait_call 78 M_136 N_133 v_138 x_135.l ∧ Own k_api_Reply 56 M_140 N_133 v_142 x_135.done) K ⟨0, x_17, v_20, v_24, N_16, M_18, M_22, H, hm, (Sep.sel hS [0, 1, 2, 3] (by decide)), (Mem.le.refl _), (ho_21.mono (Mem.le.refl _)), (ho_25.mono (Mem.le.refl _))⟩ (fun a w h => by obtain ⟨_, _, _, _, _, _, _, H, _⟩ := h; cases (show (none : Option (Unit)) = some r from H)) ?_
    clear hm hS a H
    rintro k_144 a w_144 KL_144 hKL_144 ⟨x_134, x_135, v_138, v_142, N_133, M_136, M_140, H, hm, hS, le_133, ho_139, ho_143⟩
    replace H : hocketlaw20_WaitAll.B3 K x1 x0 (fun v => hocketlaw20_WaitAll.J2 K x0 x2 v) (hocketlaw20_WaitAll.L3 K x1 x0 (fun v => hocketlaw20_WaitAll.J2 K x0 x2 v) k_144) x_134 x_135 = some r := H
    unfold hocketlaw20_WaitAll.B3 at H
    refine c_seq fun KJ_146 hKJ_146 => ?_
    refine wp_seq ?_
    refine wp_region_lit ?_
    refine s_move hm rfl rfl ?_
    clear hm a; intro a hm
    refine s_cmp (b := decide (x_134 < 2)) hm rfl rfl rfl (.inr (.inr (.inl ⟨rfl, rfl⟩))) ?_
    clear hm a; intro a hm
    refine wpList_nil ?_
    replace hm : Fr 119 a [(0, .int .i64 (mn (band .i64 x0 15) 8)), (1, .int .i64 (w64 ((band .i64 x1 3) + 1))), (2, .int .i64 x2), (6, .bool false), (7, .pointer (some ⟨g_5, 0, none⟩)), (9, .int .i64 x_134), (42, .bool (decide (x_134 < 2)))] := hm.keep [0, 1, 2, 6, 7, 9, 42]
    refine x_then_n ?_
    by_cases hc_147 : x_134 < 2
    · rw [if_pos hc_147] at H
      refine c_cond_t hm rfl (decide_eq_true hc_147) ?_
      refine wp_skip ?_
      refine x_then_n (hKJ_146 _ _ ?_)
      refine wp_seq ?_
      refine c_block ?_
      refine wp_seq ?_
      refine wp_region_lit ?_
      refine s_assign hm rfl rfl ?_
      clear hm a; intro a hm
      refine wpList_nil ?_
      replace hm : Fr 119 a [(0, .int .i64 (mn (band .i64 x0 15) 8)), (1, .int .i64 (w64 ((band .i64 x1 3) + 1))), (2, .int .i64 x2), (6, .bool false), (7, .pointer (some ⟨g_5, 0, none⟩)), (9, .int .i64 x_134), (10, .int .i64 0)] := hm.keep [0, 1, 2, 6, 7, 9, 10]
      refine x_then_n ?_
      refine c_seq fun KJ_148 hKJ_148 => ?_
      refine wp_seq ?_
      refine wp_region_lit ?_
      refine s_assign hm rfl rfl ?_
      clear hm a; intro a hm
      refine wpList_nil ?_
      replace hm : Fr 119 a [(0, .int .i64 (mn (band .i64 x0 15) 8)), (1, .int .i64 (w64 ((band .i64 x1 3) + 1))), (2, .int .i64 x2), (6, .bool false), (7, .pointer (some ⟨g_5, 0, none⟩)), (9, .int .i64 x_134), (10, .int .i64 0), (11, .int .i64 0)] := hm.keep [0, 1, 2, 6, 7, 9, 10, 11]
      refine x_then_n ?_
      have hJ_j_161 : ∀ (x_150 : Int), ∀ (x_151 : wait_Calls), hocketlaw20_WaitAll.J5 K x0 (hocketlaw20_WaitAll.L3 K x1 x0 (fun v => hocketlaw20_WaitAll.J2 K x0 x2 v) k_144) x_134 x_150 x_151 = some r → ∀ (a : Act) (w_160 : World), (∃ (v_154 : Value) (v_158 : Value) (N_149 : Mem) (M_152 : Mem) (M_156 : Mem), Fr 119 a [(0, .int .i64 (mn (band .i64 x0 15) 8)), (1, .int .i64 (w64 ((band .i64 x1 3) + 1))), (2, .int .i64 x2), (6, .bool false), (7, .pointer (some ⟨g_5, 0, none⟩)), (9, .int .i64 x_134), (10, .int .i64 x_150)] ∧ Sep w0 w_160 [N_149, Mem.one g_5 (.cells ([v_154, v_158] : List Value).toArray 74 (0, 0)), M_152, M_156] Z ∧ N_133.le N_149 ∧ Own k_wait_call 78 M_152 N_149 v_154 x_151.l ∧ Own k_api_Reply 56 M_156 N_149 v_158 x_151.done) → KJ_148 a w_160 := by
        clear H hm hS a
        rintro x_150 x_151 H a w_160 ⟨v_154, v_158, N_149, M_152, M_156, hm, hS, le_149, ho_155, ho_159⟩
        unfold hocketlaw20_WaitAll.J5 at H
        refine hKJ_148 _ _ ?_
        refine c_seq fun KJ_162 hKJ_162 => ?_
        refine wp_seq ?_
        refine wp_region_lit ?_
        refine s_move hm rfl rfl ?_
        clear hm a; intro a hm
        refine s_move hm rfl rfl ?_
        clear hm a; intro a hm
        refine s_cmp (b := (x_150 != (mn (band .i64 x0 15) 8))) hm rfl rfl rfl (.inr (.inl ⟨rfl, rfl⟩)) ?_
        clear hm a; intro a hm
        refine wpList_nil ?_
        replace hm : Fr 119 a [(0, .int .i64 (mn (band .i64 x0 15) 8)), (1, .int .i64 (w64 ((band .i64 x1 3) + 1))), (2, .int .i64 x2), (6, .bool false), (7, .pointer (some ⟨g_5, 0, none⟩)), (9, .int .i64 x_134), (67, .bool (x_150 != (mn (band .i64 x0 15) 8)))] := hm.keep [0, 1, 2, 6, 7, 9, 67]
        refine x_then_n ?_
        by_cases hc_163 : x_150 = (mn (band .i64 x0 15) 8)
        · rw [if_pos hc_163] at H
          refine c_cond_f hm rfl (bne_eq_false_iff_eq.2 hc_163) ?_
          refine wp_skip ?_
          refine x_then_n (hKJ_162 _ _ ?_)
          refine wp_region_lit ?_
          refine s_move hm rfl rfl ?_
          clear hm a; intro a hm
          obtain ⟨t_164, et_164, H⟩ := Option.bind_eq_some_iff.1 H
          refine s_call hm rfl Try.call30 rfl (wait_Calls_Again.calls K _ x_151.l _ _ x_151.done _ _ t_164 w0 _ _ N_149 (hS.new_zed [0, 1, 2]) (hS.enter [0, 1, 2] (by decide)) (ho_155.mono (Mem.le.refl _)) (ho_159.mono (Mem.le.refl _)) et_164) ?_
          rintro _ w_165 ⟨v_168, v_172, N_166, M_170, M_174, rfl, hS', hr_169, hr_173⟩
          clear hm a; intro a hm
          obtain ⟨N_167, hS'', le_167, ln_167⟩ := hS.call [0, 1, 2] (by decide) rfl (l' := [Mem.one g_5 (.cells ([v_168, v_172] : List Value).toArray 74 (0, 0)), M_170, M_174]) (ow := []) rfl hS'
          replace hS : Sep w0 w_165 [N_167, Mem.one g_5 (.cells ([v_168, v_172] : List Value).toArray 74 (0, 0)), M_170, M_174] Z := hS''
          clear hS' hS''
          refine wpList_nil ?_
          replace hm : Fr 119 a [(0, .int .i64 (mn (band .i64 x0 15) 8)), (1, .int .i64 (w64 ((band .i64 x1 3) + 1))), (2, .int .i64 x2), (6, .bool false), (7, .pointer (some ⟨g_5, 0, none⟩)), (9, .int .i64 x_134)] := hm.keep [0, 1, 2, 6, 7, 9]
          refine x_block_n ?_
          refine x_then_n ?_
          refine wp_region_lit ?_
          refine s_move hm rfl rfl ?_
          clear hm a; intro a hm
          refine s_arith (r := w64 (x_134 + 1)) hm rfl rfl rfl (.inl ⟨rfl, rfl⟩) ?_
          clear hm a; intro a hm
          refine s_assign hm rfl rfl ?_
          clear hm a; intro a hm
          refine wpList_nil ?_
          replace hm : Fr 119 a [(0, .int .i64 (mn (band .i64 x0 15) 8)), (1, .int .i64 (w64 ((band .i64 x1 3) + 1))), (2, .int .i64 x2), (6, .bool false), (7, .pointer (some ⟨g_5, 0, none⟩)), (9, .int .i64 (w64 (x_134 + 1)))] := hm.keep [0, 1, 2, 6, 7, 9]
          refine x_then_n (hKL_144 _ _ ?_)
          replace hS : Sep w0 w_165 [N_167, Mem.one g_5 (.cells ([v_168, v_172] : List Value).toArray 74 (0, 0)), M_170, M_174] Z := hS
          replace hm : Fr 119 a [(0, .int .i64 (mn (band .i64 x0 15) 8)), (1, .int .i64 (w64 ((band .i64 x1 3) + 1))), (2, .int .i64 x2), (6, .bool false), (7, .pointer (some ⟨g_5, 0, none⟩)), (9, .int .i64 (w64 (x_134 + 1)))] := hm.keep [0, 1, 2, 6, 7, 9]
          exact ⟨w64 (x_134 + 1), (⟨t_164.1, t_164.2⟩ : wait_Calls), v_168, v_172, N_167, M_170, M_174, H, hm, (Sep.sel hS [0, 1, 2, 3] (by decide)), (le_133.trans (le_149.trans le_167)), ((hr_169.mono (Mem.un_le le_167 ln_167)).mono (Mem.le.refl _)), ((hr_173.mono (Mem.un_le le_167 ln_167)).mono (Mem.le.refl _))⟩
        · rw [if_neg hc_163] at H
          cases H
      clear hKJ_148
      replace hS : Sep w0 w_144 [N_133, Mem.one g_5 (.cells ([v_138, v_142] : List Value).toArray 74 (0, 0)), M_136, M_140] Z := hS
      replace hm : Fr 119 a [(0, .int .i64 (mn (band .i64 x0 15) 8)), (1, .int .i64 (w64 ((band .i64 x1 3) + 1))), (2, .int .i64 x2), (6, .bool false), (7, .pointer (some ⟨g_5, 0, none⟩)), (9, .int .i64 x_134), (10, .int .i64 0), (11, .int .i64 0)] := hm.keep [0, 1, 2, 6, 7, 9, 10, 11]
      refine c_block ?_
      refine c_loop (fun k_188 a w_188 => ∃ (x_177 : Int) (x_178 : Int) (x_179 : wait_Calls) (v_182 : Value) (v_186 : Value) (N_176 : Mem) (M_180 : Mem) (M_184 : Mem), hocketlaw20_WaitAll.L4 K x1 (fun v => hocketlaw20_WaitAll.J5 K x0 (hocketlaw20_WaitAll.L3 K x1 x0 (fun v => hocketlaw20_WaitAll.J2 K x0 x2 v) k_144) x_134 v.1 v.2) k_188 (x_177, x_178, x_179) = some r ∧ Fr 119 a [(0, .int .i64 (mn (band .i64 x0 15) 8)), (1, .int .i64 (w64 ((band .i64 x1 3) + 1))), (2, .int .i64 x2), (6, .bool false), (7, .pointer (some ⟨g_5, 0, none⟩)), (9, .int .i64 x_134), (10, .int .i64 x_177), (11, .int .i64 x_178)] ∧ Sep w0 w_188 [N_176, Mem.one g_5 (.cells ([v_182, v_186] : List Value).toArray 74 (0, 0)), M_180, M_184] Z ∧ N_133.le N_176 ∧ Own k_wait_call 78 M_180 N_176 v_182 x_179.l ∧ Own k_api_Reply 56 M_184 N_176 v_186 x_179.done) K ⟨0, 0, x_135, v_138, v_142, N_133, M_136, M_140, H, hm, (Sep.sel hS [0, 1, 2, 3] (by decide)), (Mem.le.refl _), (ho_139.mono (Mem.le.refl _)), (ho_143.mono (Mem.le.refl _))⟩ (fun a w h => by obtain ⟨_, _, _, _, _, _, _, _, H, _⟩ := h; cases (show (none : Option (Unit)) = some r from H)) ?_
      clear hm hS a H
      rintro k_188 a w_188 KL_188 hKL_188 ⟨x_177, x_178, x_179, v_182, v_186, N_176, M_180, M_184, H, hm, hS, le_176, ho_183, ho_187⟩
      replace H : hocketlaw20_WaitAll.B4 K x1 (fun v => hocketlaw20_WaitAll.J5 K x0 (hocketlaw20_WaitAll.L3 K x1 x0 (fun v => hocketlaw20_WaitAll.J2 K x0 x2 v) k_144) x_134 v.1 v.2) (hocketlaw20_WaitAll.L4 K x1 (fun v => hocketlaw20_WaitAll.J5 K x0 (hocketlaw20_WaitAll.L3 K x1 x0 (fun v => hocketlaw20_WaitAll.J2 K x0 x2 v) k_144) x_134 v.1 v.2) k_188) x_177 x_178 x_179 = some r := H
      unfold hocketlaw20_WaitAll.B4 at H
      refine c_seq fun KJ_190 hKJ_190 => ?_
      refine wp_seq ?_
      refine wp_region_lit ?_
      refine s_move hm rfl rfl ?_
      clear hm a; intro a hm
      refine s_cmp (b := decide (x_178 < 10)) hm rfl rfl rfl (.inr (.inr (.inl ⟨rfl, rfl⟩))) ?_
      clear hm a; intro a hm
      refine wpList_nil ?_
      replace hm : Fr 119 a [(0, .int .i64 (mn (band .i64 x0 15) 8)), (1, .int .i64 (w64 ((band .i64 x1 3) + 1))), (2, .int .i64 x2), (6, .bool false), (7, .pointer (some ⟨g_5, 0, none⟩)), (9, .int .i64 x_134), (10, .int .i64 x_177), (11, .int .i64 x_178), (46, .bool (decide (x_178 < 10)))] := hm.keep [0, 1, 2, 6, 7, 9, 10, 11, 46]
      refine x_then_n ?_
      by_cases hc_191 : x_178 < 10
      · rw [if_pos hc_191] at H
        refine c_cond_t hm rfl (decide_eq_true hc_191) ?_
        refine wp_skip ?_
        refine x_then_n (hKJ_190 _ _ ?_)
        refine c_seq fun KJ_192 hKJ_192 => ?_
        refine c_block ?_
        refine wp_seq ?_
        refine wp_region_lit ?_
        refine s_move hm rfl rfl ?_
        clear hm a; intro a hm
        refine s_move hm rfl rfl ?_
        clear hm a; intro a hm
        obtain ⟨t_193, et_193, H⟩ := Option.bind_eq_some_iff.1 H
        refine s_call hm rfl Try.call24 rfl (wait_Calls_Next.calls K _ x_179.l _ _ x_179.done _ _ (w64 ((band .i64 x1 3) + 1)) t_193 w0 _ _ N_176 (hS.new_zed [0, 1, 2]) (hS.enter [0, 1, 2] (by decide)) (ho_183.mono (Mem.le.refl _)) (ho_187.mono (Mem.le.refl _)) et_193) ?_
        rintro v_197 w_194 ⟨_, v_201, v_205, N_195, M_199, M_203, M_207, rfl, hS', hr_198, hr_202, hr_206⟩
        clear hm a; intro a hm
        obtain ⟨N_196, hS'', le_196, ln_196⟩ := hS.call [0, 1, 2] (by decide) rfl (l' := [Mem.one g_5 (.cells ([v_201, v_205] : List Value).toArray 74 (0, 0)), M_203, M_207]) (ow := [M_199]) rfl hS'
        replace hS : Sep w0 w_194 [N_196, Mem.one g_5 (.cells ([v_201, v_205] : List Value).toArray 74 (0, 0)), M_203, M_207, M_199] Z := hS''
        clear hS' hS''
        refine s_lenO hm rfl Try.underlying48 rfl (hr_198.mono ln_196) ?_
        clear hm a; intro a hm
        refine s_move hm rfl rfl ?_
        clear hm a; intro a hm
        refine wpList_nil ?_
        replace hm : Fr 119 a [(0, .int .i64 (mn (band .i64 x0 15) 8)), (1, .int .i64 (w64 ((band .i64 x1 3) + 1))), (2, .int .i64 x2), (6, .bool false), (7, .pointer (some ⟨g_5, 0, none⟩)), (9, .int .i64 x_134), (10, .int .i64 x_177), (11, .int .i64 x_178), (51, v_197), (52, .int .i64 (t_193.1.length : Int)), (53, .int .i64 0)] := hm.keep [0, 1, 2, 6, 7, 9, 10, 11, 51, 52, 53]
        refine x_then_n ?_
        refine c_last fun KJ_209 hKJ_209 => ?_
        have hJ_j_213 : ∀ (x_211 : Int), hocketlaw20_WaitAll.J6 K (hocketlaw20_WaitAll.L4 K x1 (fun v => hocketlaw20_WaitAll.J5 K x0 (hocketlaw20_WaitAll.L3 K x1 x0 (fun v => hocketlaw20_WaitAll.J2 K x0 x2 v) k_144) x_134 v.1 v.2) k_188) x_178 t_193 x_211 = some r → ∀ (a : Act) (w_212 : World), (∃ (N_210 : Mem), Fr 119 a [(0, .int .i64 (mn (band .i64 x0 15) 8)), (1, .int .i64 (w64 ((band .i64 x1 3) + 1))), (2, .int .i64 x2), (6, .bool false), (7, .pointer (some ⟨g_5, 0, none⟩)), (9, .int .i64 x_134), (10, .int .i64 x_211), (11, .int .i64 x_178)] ∧ Sep w0 w_212 [N_210, Mem.one g_5 (.cells ([v_201, v_205] : List Value).toArray 74 (0, 0)), M_203, M_207, Mem.no] Z ∧ N_196.le N_210) → KJ_209 a w_212 := by
          clear H hm hS a
          rintro x_211 H a w_212 ⟨N_210, hm, hS, le_210⟩
          unfold hocketlaw20_WaitAll.J6 at H
          refine hKJ_209 _ _ ?_
          refine x_block_n ?_
          refine x_then_n (hKJ_192 _ _ ?_)
          refine wp_region_lit ?_
          refine s_move hm rfl rfl ?_
          clear hm a; intro a hm
          refine s_arith (r := w64 (x_178 + 1)) hm rfl rfl rfl (.inl ⟨rfl, rfl⟩) ?_
          clear hm a; intro a hm
          refine s_assign hm rfl rfl ?_
          clear hm a; intro a hm
          refine wpList_nil ?_
          replace hm : Fr 119 a [(0, .int .i64 (mn (band .i64 x0 15) 8)), (1, .int .i64 (w64 ((band .i64 x1 3) + 1))), (2, .int .i64 x2), (6, .bool false), (7, .pointer (some ⟨g_5, 0, none⟩)), (9, .int .i64 x_134), (10, .int .i64 x_211), (11, .int .i64 (w64 (x_178 + 1)))] := hm.keep [0, 1, 2, 6, 7, 9, 10, 11]
          refine x_then_n (hKL_188 _ _ ?_)
          replace hS : Sep w0 w_212 [N_210, Mem.one g_5 (.cells ([v_201, v_205] : List Value).toArray 74 (0, 0)), M_203, M_207, Mem.no] Z := hS
          replace hm : Fr 119 a [(0, .int .i64 (mn (band .i64 x0 15) 8)), (1, .int .i64 (w64 ((band .i64 x1 3) + 1))), (2, .int .i64 x2), (6, .bool false), (7, .pointer (some ⟨g_5, 0, none⟩)), (9, .int .i64 x_134), (10, .int .i64 x_211), (11, .int .i64 (w64 (x_178 + 1)))] := hm.keep [0, 1, 2, 6, 7, 9, 10, 11]
          exact ⟨x_211, w64 (x_178 + 1), (⟨t_193.2.1, t_193.2.2⟩ : wait_Calls), v_201, v_205, N_210, M_203, M_207, H, hm, (Sep.sel hS [0, 1, 2, 3] (by decide)), (le_176.trans (le_196.trans le_210)), ((hr_202.mono (Mem.un_le le_196 ln_196)).mono le_210), ((hr_206.mono (Mem.un_le le_196 ln_196)).mono le_210)⟩
        clear hKJ_209
        replace hS : Sep w0 w_194 [N_196, Mem.one g_5 (.cells ([v_201, v_205] : List Value).toArray 74 (0, 0)), M_203, M_207, M_199] Z := hS
        replace hm : Fr 119 a [(0, .int .i64 (mn (band .i64 x0 15) 8)), (1, .int .i64 (w64 ((band .i64 x1 3) + 1))), (2, .int .i64 x2), (6, .bool false), (7, .pointer (some ⟨g_5, 0, none⟩)), (9, .int .i64 x_134), (10, .int .i64 x_177), (11, .int .i64 x_178), (51, v_197), (52, .int .i64 (t_193.1.length : Int)), (53, .int .i64 0)] := hm.keep [0, 1, 2, 6, 7, 9, 10, 11, 51, 52, 53]
        refine c_block ?_
        refine c_loop (fun k_217 a w_217 => ∃ (x_215 : Int) (x_216 : Int) (N_214 : Mem), hocketlaw20_WaitAll.L5 K t_193 (fun v => hocketlaw20_WaitAll.J6 K (hocketlaw20_WaitAll.L4 K x1 (fun v => hocketlaw20_WaitAll.J5 K x0 (hocketlaw20_WaitAll.L3 K x1 x0 (fun v => hocketlaw20_WaitAll.J2 K x0 x2 v) k_144) x_134 v.1 v.2) k_188) x_178 t_193 v) k_217 (x_215, x_216) = some r ∧ Fr 119 a [(0, .int .i64 (mn (band .i64 x0 15) 8)), (1, .int .i64 (w64 ((band .i64 x1 3) + 1))), (2, .int .i64 x2), (6, .bool false), (7, .pointer (some ⟨g_5, 0, none⟩)), (9, .int .i64 x_134), (10, .int .i64 x_215), (11, .int .i64 x_178), (51, v_197), (52, .int .i64 (t_193.1.length : Int)), (53, .int .i64 x_216)] ∧ Sep w0 w_217 [N_214, Mem.one g_5 (.cells ([v_201, v_205] : List Value).toArray 74 (0, 0)), M_203, M_207, M_199] Z ∧ N_196.le N_214) K ⟨x_177, 0, N_196, H, hm, (Sep.sel hS [0, 1, 2, 3, 4] (by decide)), (Mem.le.refl _)⟩ (fun a w h => by obtain ⟨_, _, _, H, _⟩ := h; cases (show (none : Option (Unit)) = some r from H)) ?_
        clear hm hS a H
        rintro k_217 a w_217 KL_217 hKL_217 ⟨x_215, x_216, N_214, H, hm, hS, le_214⟩
        replace H : hocketlaw20_WaitAll.B5 K t_193 (fun v => hocketlaw20_WaitAll.J6 K (hocketlaw20_WaitAll.L4 K x1 (fun v => hocketlaw20_WaitAll.J5 K x0 (hocketlaw20_WaitAll.L3 K x1 x0 (fun v => hocketlaw20_WaitAll.J2 K x0 x2 v) k_144) x_134 v.1 v.2) k_188) x_178 t_193 v) (hocketlaw20_WaitAll.L5 K t_193 (fun v => hocketlaw20_WaitAll.J6 K (hocketlaw20_WaitAll.L4 K x1 (fun v => hocketlaw20_WaitAll.J5 K x0 (hocketlaw20_WaitAll.L3 K x1 x0 (fun v => hocketlaw20_WaitAll.J2 K x0 x2 v) k_144) x_134 v.1 v.2) k_188) x_178 t_193 v) k_217) x_215 x_216 = some r := H
        unfold hocketlaw20_WaitAll.B5 at H
        refine wp_seq ?_
        refine wp_region_lit ?_
        refine s_cmp (b := decide (x_216 < (t_193.1.length : Int))) hm rfl rfl rfl (.inr (.inr (.inl ⟨rfl, rfl⟩))) ?_
        clear hm a; intro a hm
        refine wpList_nil ?_
        replace hm : Fr 119 a [(0, .int .i64 (mn (band .i64 x0 15) 8)), (1, .int .i64 (w64 ((band .i64 x1 3) + 1))), (2, .int .i64 x2), (6, .bool false), (7, .pointer (some ⟨g_5, 0, none⟩)), (9, .int .i64 x_134), (10, .int .i64 x_215), (11, .int .i64 x_178), (51, v_197), (52, .int .i64 (t_193.1.length : Int)), (53, .int .i64 x_216), (54, .bool (decide (x_216 < (t_193.1.length : Int))))] := hm.keep [0, 1, 2, 6, 7, 9, 10, 11, 51, 52, 53, 54]
        refine x_then_n ?_
        refine c_seq fun KJ_219 hKJ_219 => ?_
        by_cases hc_220 : x_216 < (t_193.1.length : Int)
        · rw [if_pos hc_220] at H
          refine c_cond_t hm rfl (decide_eq_true hc_220) ?_
          refine wp_skip ?_
          refine x_then_n (hKJ_219 _ _ ?_)
          refine wp_seq ?_
          refine c_block ?_
          refine wp_seq ?_
          refine wp_region_lit ?_
          obtain ⟨t_221, et_221, H⟩ := Option.bind_eq_some_iff.1 H
          refine v_indexO hm rfl Try.underlying48 ti45 rfl rfl rfl (hr_198.mono ln_196) (hS.own 4) et_221 ?_
          intro ad_222 cs_223 hk_224 hc_225
          obtain ⟨v_226, v_228, v_230, rfl, hr_227, hr_229, hr_231⟩ := k_api_Entry.open' hk_224
          clear hm a; intro a hm
          refine s_load hm rfl rfl (el_agg (o := 0) (us := [.int .i64 t_221.Sess, .int .i64 t_221.Seq, .int .i64 t_221.Cmd.Kind, .int .i64 t_221.Cmd.Who, v_226, v_228, v_230]) hc_225 Try.underlying45 rfl ti45 rfl rfl) ?_
          clear hm a; intro a hm
          refine v_alloc hm rfl ti45 hS ?_
          intro w_232 g_233 hS'
          clear hm a; intro a hm
          replace hS : Sep w0 w_232 [N_214, Mem.one g_5 (.cells ([v_201, v_205] : List Value).toArray 74 (0, 0)), M_203, M_207, M_199, Mem.one g_233 (.cells ([.int .i64 0, .int .i64 0, .int .i64 0, .int .i64 0, .slice none 0 0, .slice none 0 0, .slice none 0 0] : List Value).toArray 45 (0, 0))] Z := hS'
          clear hS'
          obtain ⟨w_234, hs', hS'⟩ := hS.store (P := Try.prog) (p := 5) (o := 0) (t := 45) (v := .agg ([.int .i64 t_221.Sess, .int .i64 t_221.Seq, .int .i64 t_221.Cmd.Kind, .int .i64 t_221.Cmd.Who, v_226, v_228, v_230] : List Value).toArray) (vs := [.int .i64 t_221.Sess, .int .i64 t_221.Seq, .int .i64 t_221.Cmd.Kind, .int .i64 t_221.Cmd.Who, v_226, v_228, v_230]) rfl ti45 rfl rfl rfl (by intro u hu; simp only [List.mem_cons, List.not_mem_nil, or_false] at hu; rcases hu with rfl | rfl | rfl | rfl | rfl | rfl | rfl <;> first | rfl | exact hr_227.one | exact hr_229.one | exact hr_231.one)
          refine s_store hm rfl rfl hs' ?_
          replace hS : Sep w0 w_234 [N_214, Mem.one g_5 (.cells ([v_201, v_205] : List Value).toArray 74 (0, 0)), M_203, M_207, M_199, Mem.one g_233 (.cells ([.int .i64 t_221.Sess, .int .i64 t_221.Seq, .int .i64 t_221.Cmd.Kind, .int .i64 t_221.Cmd.Who, v_226, v_228, v_230] : List Value).toArray 45 (0, 0))] Z := hS'
          clear hs' hS'
          refine wpList_nil ?_
          replace hm : Fr 119 a [(0, .int .i64 (mn (band .i64 x0 15) 8)), (1, .int .i64 (w64 ((band .i64 x1 3) + 1))), (2, .int .i64 x2), (6, .bool false), (7, .pointer (some ⟨g_5, 0, none⟩)), (9, .int .i64 x_134), (10, .int .i64 x_215), (11, .int .i64 x_178), (13, .pointer (some ⟨g_233, 0, none⟩)), (51, v_197), (52, .int .i64 (t_193.1.length : Int)), (53, .int .i64 x_216)] := hm.keep [0, 1, 2, 6, 7, 9, 10, 11, 13, 51, 52, 53]
          refine x_then_n ?_
          refine c_seq fun KJ_235 hKJ_235 => ?_
          refine wp_seq ?_
          refine wp_region_lit ?_
          refine s_fieldAddr hm rfl Try.underlying45 rfl ti3 rfl rfl ?_
          clear hm a; intro a hm
          refine s_load hm rfl rfl (hS.load_one (p := 5) rfl Try.underlying3 rfl rfl) ?_
          clear hm a; intro a hm
          refine s_move hm rfl rfl ?_
          clear hm a; intro a hm
          refine s_arith (r := w64 (x_215 + 1)) hm rfl rfl rfl (.inl ⟨rfl, rfl⟩) ?_
          clear hm a; intro a hm
          refine s_cmp (b := (t_221.Sess != (w64 (x_215 + 1)))) hm rfl rfl rfl (.inr (.inl ⟨rfl, rfl⟩)) ?_
          clear hm a; intro a hm
          refine wpList_nil ?_
          replace hm : Fr 119 a [(0, .int .i64 (mn (band .i64 x0 15) 8)), (1, .int .i64 (w64 ((band .i64 x1 3) + 1))), (2, .int .i64 x2), (6, .bool false), (7, .pointer (some ⟨g_5, 0, none⟩)), (9, .int .i64 x_134), (10, .int .i64 x_215), (11, .int .i64 x_178), (51, v_197), (52, .int .i64 (t_193.1.length : Int)), (53, .int .i64 x_216), (61, .bool (t_221.Sess != (w64 (x_215 + 1))))] := hm.keep [0, 1, 2, 6, 7, 9, 10, 11, 51, 52, 53, 61]
          refine x_then_n ?_
          by_cases hc_236 : t_221.Sess = (w64 (x_215 + 1))
          · rw [if_pos hc_236] at H
            refine c_cond_f hm rfl (bne_eq_false_iff_eq.2 hc_236) ?_
            refine wp_skip ?_
            refine x_then_n (hKJ_235 _ _ ?_)
            refine wp_region_lit ?_
            refine s_move hm rfl rfl ?_
            clear hm a; intro a hm
            refine s_arith (r := w64 (x_215 + 1)) hm rfl rfl rfl (.inl ⟨rfl, rfl⟩) ?_
            clear hm a; intro a hm
            refine s_assign hm rfl rfl ?_
            clear hm a; intro a hm
            refine wpList_nil ?_
            replace hm : Fr 119 a [(0, .int .i64 (mn (band .i64 x0 15) 8)), (1, .int .i64 (w64 ((band .i64 x1 3) + 1))), (2, .int .i64 x2), (6, .bool false), (7, .pointer (some ⟨g_5, 0, none⟩)), (9, .int .i64 x_134), (10, .int .i64 (w64 (x_215 + 1))), (11, .int .i64 x_178), (51, v_197), (52, .int .i64 (t_193.1.length : Int)), (53, .int .i64 x_216)] := hm.keep [0, 1, 2, 6, 7, 9, 10, 11, 51, 52, 53]
            refine x_block_n ?_
            refine x_then_n ?_
            refine wp_region_lit ?_
            refine s_arith (r := w64 (x_216 + 1)) hm rfl rfl rfl (.inl ⟨rfl, rfl⟩) ?_
            clear hm a; intro a hm
            refine s_move hm rfl rfl ?_
            clear hm a; intro a hm
            refine wpList_nil ?_
            replace hm : Fr 119 a [(0, .int .i64 (mn (band .i64 x0 15) 8)), (1, .int .i64 (w64 ((band .i64 x1 3) + 1))), (2, .int .i64 x2), (6, .bool false), (7, .pointer (some ⟨g_5, 0, none⟩)), (9, .int .i64 x_134), (10, .int .i64 (w64 (x_215 + 1))), (11, .int .i64 x_178), (51, v_197), (52, .int .i64 (t_193.1.length : Int)), (53, .int .i64 (w64 (x_216 + 1)))] := hm.keep [0, 1, 2, 6, 7, 9, 10, 11, 51, 52, 53]
            refine x_then_n (hKL_217 _ _ ?_)
            replace hS : Sep w0 w_234 [N_214, Mem.one g_5 (.cells ([v_201, v_205] : List Value).toArray 74 (0, 0)), M_203, M_207, M_199, Mem.one g_233 (.cells ([.int .i64 t_221.Sess, .int .i64 t_221.Seq, .int .i64 t_221.Cmd.Kind, .int .i64 t_221.Cmd.Who, v_226, v_228, v_230] : List Value).toArray 45 (0, 0))] Z := hS
            replace hm : Fr 119 a [(0, .int .i64 (mn (band .i64 x0 15) 8)), (1, .int .i64 (w64 ((band .i64 x1 3) + 1))), (2, .int .i64 x2), (6, .bool false), (7, .pointer (some ⟨g_5, 0, none⟩)), (9, .int .i64 x_134), (10, .int .i64 (w64 (x_215 + 1))), (11, .int .i64 x_178), (51, v_197), (52, .int .i64 (t_193.1.length : Int)), (53, .int .i64 (w64 (x_216 + 1)))] := hm.keep [0, 1, 2, 6, 7, 9, 10, 11, 51, 52, 53]
            exact ⟨w64 (x_215 + 1), w64 (x_216 + 1), N_214, H, hm, (Sep.sel hS [0, 1, 2, 3, 4] (by decide)), le_214⟩
          · rw [if_neg hc_236] at H
            cases H
        · rw [if_neg hc_220] at H
          refine c_cond_f hm rfl (decide_eq_false hc_220) ?_
          refine wp_exit (x_then_x (x_then_x (x_block_t ?_)))
          replace hS : Sep w0 w_217 [N_214, Mem.one g_5 (.cells ([v_201, v_205] : List Value).toArray 74 (0, 0)), M_203, M_207, M_199] Z := hS
          replace hm : Fr 119 a [(0, .int .i64 (mn (band .i64 x0 15) 8)), (1, .int .i64 (w64 ((band .i64 x1 3) + 1))), (2, .int .i64 x2), (6, .bool false), (7, .pointer (some ⟨g_5, 0, none⟩)), (9, .int .i64 x_134), (10, .int .i64 x_215), (11, .int .i64 x_178)] := hm.keep [0, 1, 2, 6, 7, 9, 10, 11]
          exact x_then_n (hJ_j_213 x_215 H _ _ ⟨N_214, hm, (Sep.sel hS [0, 1, 2, 3, 1003] (by decide)), le_214⟩)
      · rw [if_neg hc_191] at H
        refine c_cond_f hm rfl (decide_eq_false hc_191) ?_
        refine wp_exit (x_then_x (x_then_x (x_block_t ?_)))
        replace hS : Sep w0 w_188 [N_176, Mem.one g_5 (.cells ([v_182, v_186] : List Value).toArray 74 (0, 0)), M_180, M_184] Z := hS
        replace hm : Fr 119 a [(0, .int .i64 (mn (band .i64 x0 15) 8)), (1, .int .i64 (w64 ((band .i64 x1 3) + 1))), (2, .int .i64 x2), (6, .bool false), (7, .pointer (some ⟨g_5, 0, none⟩)), (9, .int .i64 x_134), (10, .int .i64 x_177)] := hm.keep [0, 1, 2, 6, 7, 9, 10]
        exact x_then_n (hJ_j_161 x_177 x_179 H _ _ ⟨v_182, v_186, N_176, M_180, M_184, hm, (Sep.sel hS [0, 1, 2, 3] (by decide)), le_176, (ho_183.mono (Mem.le.refl _)), (ho_187.mono (Mem.le.refl _))⟩)
    · rw [if_neg hc_147] at H
      refine c_cond_f hm rfl (decide_eq_false hc_147) ?_
      refine wp_exit (x_then_x (x_then_x (x_block_t ?_)))
      replace hS : Sep w0 w_144 [N_133, Mem.one g_5 (.cells ([v_138, v_142] : List Value).toArray 74 (0, 0)), M_136, M_140] Z := hS
      replace hm : Fr 119 a [(0, .int .i64 (mn (band .i64 x0 15) 8)), (2, .int .i64 x2), (6, .bool false), (7, .pointer (some ⟨g_5, 0, none⟩))] := hm.keep [0, 2, 6, 7]
      exact x_then_n (hJ_j_40 x_135 H _ _ ⟨v_138, v_142, N_133, M_136, M_140, hm, (Sep.sel hS [0, 1, 2, 3] (by decide)), le_133, (ho_139.mono (Mem.le.refl _)), (ho_143.mono (Mem.le.refl _))⟩)
  clear hKJ_15
  replace hS : Sep w0 w_2 [N_4, Mem.one g_5 (.cells ([v_6, v_10] : List Value).toArray 74 (0, 0)), M_8, M_12] Z := hS
  replace hm : Fr 119 a [(0, .int .i64 (band .i64 x0 15)), (1, .int .i64 (w64 ((band .i64 x1 3) + 1))), (2, .int .i64 x2), (6, .bool false), (7, .pointer (some ⟨g_5, 0, none⟩)), (8, .int .i64 0)] := hm.keep [0, 1, 2, 6, 7, 8]
  refine c_block ?_
  refine c_loop (fun k_248 a w_248 => ∃ (x_238 : Int) (x_239 : wait_Calls) (v_242 : Value) (v_246 : Value) (N_237 : Mem) (M_240 : Mem) (M_244 : Mem), hocketlaw20_WaitAll.L6 K x0 (fun v => hocketlaw20_WaitAll.J1 K x1 x0 x2 v) k_248 (x_238, x_239) = some r ∧ Fr 119 a [(0, .int .i64 (band .i64 x0 15)), (1, .int .i64 (w64 ((band .i64 x1 3) + 1))), (2, .int .i64 x2), (6, .bool false), (7, .pointer (some ⟨g_5, 0, none⟩)), (8, .int .i64 x_238)] ∧ Sep w0 w_248 [N_237, Mem.one g_5 (.cells ([v_242, v_246] : List Value).toArray 74 (0, 0)), M_240, M_244] Z ∧ N_4.le N_237 ∧ Own k_wait_call 78 M_240 N_237 v_242 x_239.l ∧ Own k_api_Reply 56 M_244 N_237 v_246 x_239.done) K ⟨0, (⟨t_1.1, t_1.2⟩ : wait_Calls), v_6, v_10, N_4, M_8, M_12, H, hm, (Sep.sel hS [0, 1, 2, 3] (by decide)), (Mem.le.refl _), ((hr_7.mono ln_4).mono (Mem.le.refl _)), ((hr_11.mono ln_4).mono (Mem.le.refl _))⟩ (fun a w h => by obtain ⟨_, _, _, _, _, _, _, H, _⟩ := h; cases (show (none : Option (Unit)) = some r from H)) ?_
  clear hm hS a H
  rintro k_248 a w_248 KL_248 hKL_248 ⟨x_238, x_239, v_242, v_246, N_237, M_240, M_244, H, hm, hS, le_237, ho_243, ho_247⟩
  replace H : hocketlaw20_WaitAll.B6 K x0 (fun v => hocketlaw20_WaitAll.J1 K x1 x0 x2 v) (hocketlaw20_WaitAll.L6 K x0 (fun v => hocketlaw20_WaitAll.J1 K x1 x0 x2 v) k_248) x_238 x_239 = some r := H
  unfold hocketlaw20_WaitAll.B6 at H
  refine c_seq fun KJ_250 hKJ_250 => ?_
  refine wp_seq ?_
  refine wp_region_lit ?_
  refine s_move hm rfl rfl ?_
  clear hm a; intro a hm
  refine s_move hm rfl rfl ?_
  clear hm a; intro a hm
  refine s_cmp (b := decide (x_238 < (band .i64 x0 15))) hm rfl rfl rfl (.inr (.inr (.inl ⟨rfl, rfl⟩))) ?_
  clear hm a; intro a hm
  refine wpList_nil ?_
  replace hm : Fr 119 a [(0, .int .i64 (band .i64 x0 15)), (1, .int .i64 (w64 ((band .i64 x1 3) + 1))), (2, .int .i64 x2), (6, .bool false), (7, .pointer (some ⟨g_5, 0, none⟩)), (8, .int .i64 x_238), (28, .bool (decide (x_238 < (band .i64 x0 15))))] := hm.keep [0, 1, 2, 6, 7, 8, 28]
  refine x_then_n ?_
  by_cases hc_251 : x_238 < (band .i64 x0 15)
  · rw [if_pos hc_251] at H
    refine c_cond_t hm rfl (decide_eq_true hc_251) ?_
    refine wp_skip ?_
    refine x_then_n (hKJ_250 _ _ ?_)
    refine c_seq fun KJ_252 hKJ_252 => ?_
    refine c_block ?_
    refine wp_seq ?_
    refine wp_region_lit ?_
    refine s_move hm rfl rfl ?_
    clear hm a; intro a hm
    refine s_move hm rfl rfl ?_
    clear hm a; intro a hm
    refine s_arith (r := w64 (x_238 + 1)) hm rfl rfl rfl (.inl ⟨rfl, rfl⟩) ?_
    clear hm a; intro a hm
    refine s_build hm rfl ti45 pl45 rfl (.cons rfl (.cons rfl .nil)) (cs := [.int .i64 (w64 (x_238 + 1)), .int .i64 1, .int .i64 0, .int .i64 0, .slice none 0 0, .slice none 0 0, .slice none 0 0]) rfl ?_
    clear hm a; intro a hm
    obtain ⟨t_253, et_253, H⟩ := Option.bind_eq_some_iff.1 H
    refine s_call hm rfl Try.call22 rfl (wait_Calls_Call.calls K _ x_239.l _ _ x_239.done _ _ (⟨w64 (x_238 + 1), 1, (⟨0, 0, ([] : List UInt8), ([] : List UInt8), ([] : List UInt8)⟩ : api_Cmd)⟩ : api_Entry) _ _ _ t_253 w0 _ _ N_237 (hS.new_zed [0, 1, 2]) (hS.enter [0, 1, 2] (by decide)) (ho_243.mono (Mem.le.refl _)) (ho_247.mono (Mem.le.refl _)) (Rd.nil _ _) (Rd.nil _ _) (Rd.nil _ _) et_253) ?_
    rintro _ w_254 ⟨v_257, v_261, N_255, M_259, M_263, rfl, hS', hr_258, hr_262⟩
    clear hm a; intro a hm
    obtain ⟨N_256, hS'', le_256, ln_256⟩ := hS.call [0, 1, 2] (by decide) rfl (l' := [Mem.one g_5 (.cells ([v_257, v_261] : List Value).toArray 74 (0, 0)), M_259, M_263]) (ow := []) rfl hS'
    replace hS : Sep w0 w_254 [N_256, Mem.one g_5 (.cells ([v_257, v_261] : List Value).toArray 74 (0, 0)), M_259, M_263] Z := hS''
    clear hS' hS''
    refine s_move hm rfl rfl ?_
    clear hm a; intro a hm
    refine s_cmp (b := decide (x_238 < 8)) hm rfl rfl rfl (.inr (.inr (.inl ⟨rfl, rfl⟩))) ?_
    clear hm a; intro a hm
    refine s_beq (b := !(t_253.1 == (decide (x_238 < 8)))) hm rfl Try.underlying4 rfl rfl (.inr ⟨rfl, rfl⟩) ?_
    clear hm a; intro a hm
    refine wpList_nil ?_
    replace hm : Fr 119 a [(0, .int .i64 (band .i64 x0 15)), (1, .int .i64 (w64 ((band .i64 x1 3) + 1))), (2, .int .i64 x2), (6, .bool false), (7, .pointer (some ⟨g_5, 0, none⟩)), (8, .int .i64 x_238), (38, .bool (!(t_253.1 == (decide (x_238 < 8)))))] := hm.keep [0, 1, 2, 6, 7, 8, 38]
    refine x_then_n ?_
    by_cases hc_265 : t_253.1 = (decide (x_238 < 8))
    · rw [if_pos hc_265] at H
      refine c_cond_f hm rfl (nf (beq_iff_eq.2 hc_265)) ?_
      refine wp_skip ?_
      refine x_block_n ?_
      refine x_then_n (hKJ_252 _ _ ?_)
      refine wp_region_lit ?_
      refine s_move hm rfl rfl ?_
      clear hm a; intro a hm
      refine s_arith (r := w64 (x_238 + 1)) hm rfl rfl rfl (.inl ⟨rfl, rfl⟩) ?_
      clear hm a; intro a hm
      refine s_assign hm rfl rfl ?_
      clear hm a; intro a hm
      refine wpList_nil ?_
      replace hm : Fr 119 a [(0, .int .i64 (band .i64 x0 15)), (1, .int .i64 (w64 ((band .i64 x1 3) + 1))), (2, .int .i64 x2), (6, .bool false), (7, .pointer (some ⟨g_5, 0, none⟩)), (8, .int .i64 (w64 (x_238 + 1)))] := hm.keep [0, 1, 2, 6, 7, 8]
      refine x_then_n (hKL_248 _ _ ?_)
      replace hS : Sep w0 w_254 [N_256, Mem.one g_5 (.cells ([v_257, v_261] : List Value).toArray 74 (0, 0)), M_259, M_263] Z := hS
      replace hm : Fr 119 a [(0, .int .i64 (band .i64 x0 15)), (1, .int .i64 (w64 ((band .i64 x1 3) + 1))), (2, .int .i64 x2), (6, .bool false), (7, .pointer (some ⟨g_5, 0, none⟩)), (8, .int .i64 (w64 (x_238 + 1)))] := hm.keep [0, 1, 2, 6, 7, 8]
      exact ⟨w64 (x_238 + 1), (⟨t_253.2.1, t_253.2.2⟩ : wait_Calls), v_257, v_261, N_256, M_259, M_263, H, hm, (Sep.sel hS [0, 1, 2, 3] (by decide)), (le_237.trans le_256), ((hr_258.mono (Mem.un_le le_256 ln_256)).mono (Mem.le.refl _)), ((hr_262.mono (Mem.un_le le_256 ln_256)).mono (Mem.le.refl _))⟩
    · rw [if_neg hc_265] at H
      cases H
  · rw [if_neg hc_251] at H
    refine c_cond_f hm rfl (decide_eq_false hc_251) ?_
    refine wp_exit (x_then_x (x_then_x (x_block_t ?_)))
    replace hS : Sep w0 w_248 [N_237, Mem.one g_5 (.cells ([v_242, v_246] : List Value).toArray 74 (0, 0)), M_240, M_244] Z := hS
    replace hm : Fr 119 a [(0, .int .i64 (band .i64 x0 15)), (1, .int .i64 (w64 ((band .i64 x1 3) + 1))), (2, .int .i64 x2), (6, .bool false), (7, .pointer (some ⟨g_5, 0, none⟩))] := hm.keep [0, 1, 2, 6, 7]
    exact x_then_n (hJ_j_27 x_239 H _ _ ⟨v_242, v_246, N_237, M_240, M_244, hm, (Sep.sel hS [0, 1, 2, 3] (by decide)), le_237, (ho_243.mono (Mem.le.refl _)), (ho_247.mono (Mem.le.refl _))⟩)
end Go.Proofs
