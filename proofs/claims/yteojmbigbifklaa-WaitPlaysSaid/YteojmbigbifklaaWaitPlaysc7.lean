/- What the calls do: each function once. -/
import Derived.Test.YteojmbigbifklaaWaitPlaysc6
namespace Go.Proofs
open Go.Gp
set_option linter.unusedVariables false
set_option maxHeartbeats 4000000 in
set_option maxRecDepth 20000 in
theorem hocketlaw20_WaitPlays.calls (K : Nat) (x0 : List Int) (p0_0 : Value) (r : Unit) (w0 w : World) (Z A : Mem) (hA : A.le Z) (hS : Sep w0 w [] Z) (hp0_0 : Rd (Kd.int .i64) A p0_0 x0)
    (H : hocketlaw20_WaitPlays.f K x0 = some r) :
    Calls Try.prog 10 [p0_0].toArray w (Ret fun v w' => ∃ (N : Mem), v = .bool true ∧ Sep w0 w' [N] Z) := by
  unfold hocketlaw20_WaitPlays.f at H
  refine f_enter _ Try.func10 rfl Try.ntmps10 rfl fun a hm => ?_
  replace hm : Fr 107 a [(0, p0_0)] := hm
  replace hS := hS.start
  replace hS : Sep w0 w [Mem.no] Z := hS
  refine wp_seq ?_
  refine wp_region_lit ?_
  refine s_assign hm rfl rfl ?_
  clear hm a; intro a hm
  refine wpList_nil ?_
  replace hm : Fr 107 a [(0, p0_0), (2, .bool false)] := hm.keep [0, 2]
  refine x_then_n ?_
  refine wp_seq ?_
  refine wp_region_lit ?_
  obtain ⟨t_1, et_1, H⟩ := Option.bind_eq_some_iff.1 H
  refine s_call hm rfl Try.call21 rfl (wait_New.calls  t_1 w0 _ _ _ (Mem.le.refl _) (hS.enter [] (by decide))  et_1) ?_
  rintro _ w_2 ⟨g_5, v_6, v_10, N_3, M_8, M_12, rfl, hS', hr_7, hr_11⟩
  clear hm a; intro a hm
  obtain ⟨N_4, hS'', le_4, ln_4⟩ := hS.call [] (by decide) rfl (l' := []) (ow := [Mem.one g_5 (.cells ([v_6, v_10] : List Value).toArray 74 (0, 0)), M_8, M_12]) rfl hS'
  replace hS : Sep w0 w_2 [N_4, Mem.one g_5 (.cells ([v_6, v_10] : List Value).toArray 74 (0, 0)), M_8, M_12] Z := hS''
  clear hS' hS''
  refine s_build hm rfl ti63 pl63 rfl .nil (cs := [.slice none 0 0, .slice none 0 0]) rfl ?_
  clear hm a; intro a hm
  refine v_box (vs := [.slice none 0 0, .slice none 0 0]) hm rfl rfl rfl hS ?_
  intro w_14 g_15 hS'
  clear hm a; intro a hm
  replace hS : Sep w0 w_14 [N_4, Mem.one g_5 (.cells ([v_6, v_10] : List Value).toArray 74 (0, 0)), M_8, M_12, Mem.one g_15 (.cells ([.slice none 0 0, .slice none 0 0] : List Value).toArray 63 (0, 0))] Z := hS'
  clear hS'
  refine s_assign hm rfl rfl ?_
  clear hm a; intro a hm
  refine s_assign hm rfl rfl ?_
  clear hm a; intro a hm
  refine wpList_nil ?_
  replace hm : Fr 107 a [(0, p0_0), (2, .bool false), (3, .pointer (some ⟨g_5, 0, none⟩)), (4, .pointer (some ⟨g_15, 0, none⟩))] := hm.keep [0, 2, 3, 4]
  refine x_then_n ?_
  refine c_seq fun KJ_16 hKJ_16 => ?_
  refine wp_seq ?_
  refine wp_region_lit ?_
  refine s_move hm rfl rfl ?_
  clear hm a; intro a hm
  refine s_ptrNil (b := false) hm rfl Try.underlying40 rfl (.inl ⟨rfl, rfl⟩) ?_
  clear hm a; intro a hm
  refine wpList_nil ?_
  replace hm : Fr 107 a [(0, p0_0), (2, .bool false), (3, .pointer (some ⟨g_5, 0, none⟩)), (4, .pointer (some ⟨g_15, 0, none⟩)), (13, .bool false)] := hm.keep [0, 2, 3, 4, 13]
  refine x_then_n ?_
  refine c_cond_f hm rfl rfl ?_
  refine wp_skip ?_
  refine x_then_n (hKJ_16 _ _ ?_)
  refine c_seq fun KJ_17 hKJ_17 => ?_
  refine wp_seq ?_
  refine wp_region_lit ?_
  refine s_assign hm rfl rfl ?_
  clear hm a; intro a hm
  refine wpList_nil ?_
  replace hm : Fr 107 a [(0, p0_0), (2, .bool false), (3, .pointer (some ⟨g_5, 0, none⟩)), (4, .pointer (some ⟨g_15, 0, none⟩)), (5, .int .i64 0)] := hm.keep [0, 2, 3, 4, 5]
  refine x_then_n ?_
  have hJ_j_38 : ∀ (x_19 : wait_Calls), ∀ (x_28 : hocketref15_Calls), hocketlaw20_WaitPlays.J1 K x_19 x_28 = some r → ∀ (a : Act) (w_37 : World), (∃ (v_22 : Value) (v_26 : Value) (v_31 : Value) (v_35 : Value) (N_18 : Mem) (M_20 : Mem) (M_24 : Mem) (M_29 : Mem) (M_33 : Mem), Fr 107 a [(2, .bool false), (3, .pointer (some ⟨g_5, 0, none⟩)), (4, .pointer (some ⟨g_15, 0, none⟩))] ∧ Sep w0 w_37 [N_18, Mem.one g_5 (.cells ([v_22, v_26] : List Value).toArray 74 (0, 0)), M_20, M_24, Mem.one g_15 (.cells ([v_31, v_35] : List Value).toArray 63 (0, 0)), M_29, M_33] Z ∧ N_4.le N_18 ∧ Own k_wait_call 78 M_20 N_18 v_22 x_19.l ∧ Own k_api_Reply 56 M_24 N_18 v_26 x_19.done ∧ Own k_hocketref15_call 84 M_29 N_18 v_31 x_28.l ∧ Own k_api_Reply 56 M_33 N_18 v_35 x_28.r) → KJ_17 a w_37 := by
    clear H hm hS a
    rintro x_19 x_28 H a w_37 ⟨v_22, v_26, v_31, v_35, N_18, M_20, M_24, M_29, M_33, hm, hS, le_18, ho_23, ho_27, ho_32, ho_36⟩
    unfold hocketlaw20_WaitPlays.J1 at H
    refine hKJ_17 _ _ ?_
    refine c_seq fun KJ_39 hKJ_39 => ?_
    refine wp_region_lit ?_
    refine s_move hm rfl rfl ?_
    clear hm a; intro a hm
    obtain ⟨t_40, et_40, H⟩ := Option.bind_eq_some_iff.1 H
    refine s_call hm rfl Try.call26 rfl (wait_Calls_Take.calls _ x_19.l _ _ x_19.done _ _ t_40 w0 _ _ N_18 (hS.new_zed [0, 1, 2]) (hS.enter [0, 1, 2] (by decide)) (ho_23.mono (Mem.le.refl _)) (ho_27.mono (Mem.le.refl _)) et_40) ?_
    rintro v_44 w_41 ⟨_, v_48, v_52, N_42, M_46, M_50, M_54, rfl, hS', hr_45, hr_49, hr_53⟩
    clear hm a; intro a hm
    obtain ⟨N_43, hS'', le_43, ln_43⟩ := hS.call [0, 1, 2] (by decide) rfl (l' := [Mem.one g_5 (.cells ([v_48, v_52] : List Value).toArray 74 (0, 0)), M_50, M_54]) (ow := [M_46]) rfl hS'
    replace hS : Sep w0 w_41 [N_43, Mem.one g_5 (.cells ([v_48, v_52] : List Value).toArray 74 (0, 0)), M_50, M_54, Mem.one g_15 (.cells ([v_31, v_35] : List Value).toArray 63 (0, 0)), M_29, M_33, M_46] Z := hS''
    clear hS' hS''
    refine s_move hm rfl rfl ?_
    clear hm a; intro a hm
    obtain ⟨t_56, et_56, H⟩ := Option.bind_eq_some_iff.1 H
    refine s_call hm rfl Try.call37 rfl (hocketref15_Calls_Take.calls _ x_28.l _ _ x_28.r _ _ t_56 w0 _ _ N_43 (hS.new_zed [3, 4, 5]) (hS.enter [3, 4, 5] (by decide)) (ho_32.mono le_43) (ho_36.mono le_43) et_56) ?_
    rintro v_60 w_57 ⟨_, v_64, v_68, N_58, M_62, M_66, M_70, rfl, hS', hr_61, hr_65, hr_69⟩
    clear hm a; intro a hm
    obtain ⟨N_59, hS'', le_59, ln_59⟩ := hS.call [3, 4, 5] (by decide) rfl (l' := [Mem.one g_15 (.cells ([v_64, v_68] : List Value).toArray 63 (0, 0)), M_66, M_70]) (ow := [M_62]) rfl hS'
    replace hS : Sep w0 w_57 [N_59, Mem.one g_5 (.cells ([v_48, v_52] : List Value).toArray 74 (0, 0)), M_50, M_54, Mem.one g_15 (.cells ([v_64, v_68] : List Value).toArray 63 (0, 0)), M_66, M_70, M_46, M_62] Z := hS''
    clear hS' hS''
    obtain ⟨t_72, et_72, H⟩ := Option.bind_eq_some_iff.1 H
    refine s_call hm rfl Try.call36 rfl (hocketref15_SameReplies.calls K t_40.1 _ t_56.1 _ t_72 w0 _ _ _ (Mem.le.refl _) (hS.enter [] (by decide)) ((hr_45.mono (Mem.un_le le_43 ln_43)).rd (hS.own_zed [] 6 (by decide)) (le_59.trans (hS.new_zed []))) ((hr_61.mono (Mem.un_le le_59 ln_59)).rd (hS.own_zed [] 7 (by decide)) ((Mem.le.refl _).trans (hS.new_zed []))) et_72) ?_
    rintro _ w_73 ⟨N_74, rfl, hS'⟩
    clear hm a; intro a hm
    obtain ⟨N_75, hS'', le_75, ln_75⟩ := hS.call [] (by decide) rfl (l' := []) (ow := []) rfl hS'
    replace hS : Sep w0 w_73 [N_75, Mem.one g_5 (.cells ([v_48, v_52] : List Value).toArray 74 (0, 0)), M_50, M_54, Mem.one g_15 (.cells ([v_64, v_68] : List Value).toArray 63 (0, 0)), M_66, M_70, M_46, M_62] Z := hS''
    clear hS' hS''
    refine s_move hm rfl rfl ?_
    clear hm a; intro a hm
    by_cases hc_76 : t_72 = true
    · rw [if_pos hc_76] at H
      refine s_on hm rfl rfl hc_76 ?_
      obtain ⟨t_77, et_77, H⟩ := Option.bind_eq_some_iff.1 H
      refine s_call hm rfl Try.call27 rfl (hocketlaw20_awake.calls K  t_77 w0 _ _ _ (Mem.le.refl _) (hS.enter [] (by decide))  et_77) ?_
      rintro _ w_78 ⟨N_79, rfl, hS'⟩
      clear hm a; intro a hm
      obtain ⟨N_80, hS'', le_80, ln_80⟩ := hS.call [] (by decide) rfl (l' := []) (ow := []) rfl hS'
      replace hS : Sep w0 w_78 [N_80, Mem.one g_5 (.cells ([v_48, v_52] : List Value).toArray 74 (0, 0)), M_50, M_54, Mem.one g_15 (.cells ([v_64, v_68] : List Value).toArray 63 (0, 0)), M_66, M_70, M_46, M_62] Z := hS''
      clear hS' hS''
      refine s_pick_t hm rfl rfl hc_76 rfl ?_
      clear hm a; intro a hm
      refine s_assign hm rfl rfl ?_
      clear hm a; intro a hm
      refine wpList_nil ?_
      replace hm : Fr 107 a [(2, .bool true)] := hm.keep [2]
      refine x_then_n (hKJ_39 _ _ ?_)
      refine wp_ret ?_
      exact f_ret hm (rs := [.tmp 2]) rfl (.tmp rfl .nil) ⟨_, rfl, N_80, rfl, (Sep.sel hS [0] (by decide))⟩
    · rw [if_neg hc_76] at H
      cases H
  clear hKJ_17
  have hS' := hS.room
  replace hS : Sep w0 w_14 [N_4, Mem.one g_5 (.cells ([v_6, v_10] : List Value).toArray 74 (0, 0)), M_8, M_12, Mem.one g_15 (.cells ([.slice none 0 0, .slice none 0 0] : List Value).toArray 63 (0, 0)), Mem.no] Z := hS'
  clear hS'
  have hS' := hS.room
  replace hS : Sep w0 w_14 [N_4, Mem.one g_5 (.cells ([v_6, v_10] : List Value).toArray 74 (0, 0)), M_8, M_12, Mem.one g_15 (.cells ([.slice none 0 0, .slice none 0 0] : List Value).toArray 63 (0, 0)), Mem.no, Mem.no] Z := hS'
  clear hS'
  replace hS : Sep w0 w_14 [N_4, Mem.one g_5 (.cells ([v_6, v_10] : List Value).toArray 74 (0, 0)), M_8, M_12, Mem.one g_15 (.cells ([.slice none 0 0, .slice none 0 0] : List Value).toArray 63 (0, 0)), Mem.no, Mem.no] Z := hS
  replace hm : Fr 107 a [(0, p0_0), (2, .bool false), (3, .pointer (some ⟨g_5, 0, none⟩)), (4, .pointer (some ⟨g_15, 0, none⟩)), (5, .int .i64 0)] := hm.keep [0, 2, 3, 4, 5]
  refine c_block ?_
  refine c_loop (fun k_101 a w_101 => ∃ (x_82 : Int) (x_83 : wait_Calls) (x_92 : hocketref15_Calls) (v_86 : Value) (v_90 : Value) (v_95 : Value) (v_99 : Value) (N_81 : Mem) (M_84 : Mem) (M_88 : Mem) (M_93 : Mem) (M_97 : Mem), hocketlaw20_WaitPlays.L1 K x0 (fun v => hocketlaw20_WaitPlays.J1 K v.1 v.2) k_101 (x_82, x_83, x_92) = some r ∧ Fr 107 a [(0, p0_0), (2, .bool false), (3, .pointer (some ⟨g_5, 0, none⟩)), (4, .pointer (some ⟨g_15, 0, none⟩)), (5, .int .i64 x_82)] ∧ Sep w0 w_101 [N_81, Mem.one g_5 (.cells ([v_86, v_90] : List Value).toArray 74 (0, 0)), M_84, M_88, Mem.one g_15 (.cells ([v_95, v_99] : List Value).toArray 63 (0, 0)), M_93, M_97] Z ∧ N_4.le N_81 ∧ Own k_wait_call 78 M_84 N_81 v_86 x_83.l ∧ Own k_api_Reply 56 M_88 N_81 v_90 x_83.done ∧ Own k_hocketref15_call 84 M_93 N_81 v_95 x_92.l ∧ Own k_api_Reply 56 M_97 N_81 v_99 x_92.r) K ⟨0, (⟨t_1.1, t_1.2⟩ : wait_Calls), (⟨([] : List hocketref15_call), ([] : List api_Reply)⟩ : hocketref15_Calls), v_6, v_10, .slice none 0 0, .slice none 0 0, N_4, M_8, M_12, Mem.no, Mem.no, H, hm, (Sep.sel hS [0, 1, 2, 3, 4, 5, 6] (by decide)), (Mem.le.refl _), ((hr_7.mono ln_4).mono (Mem.le.refl _)), ((hr_11.mono ln_4).mono (Mem.le.refl _)), ((Own.nil k_hocketref15_call 84 N_4).mono (Mem.le.refl _)), ((Own.nil k_api_Reply 56 N_4).mono (Mem.le.refl _))⟩ (fun a w h => by obtain ⟨_, _, _, _, _, _, _, _, _, _, _, _, H, _⟩ := h; cases (show (none : Option (Unit)) = some r from H)) ?_
  clear hm hS a H
  rintro k_101 a w_101 KL_101 hKL_101 ⟨x_82, x_83, x_92, v_86, v_90, v_95, v_99, N_81, M_84, M_88, M_93, M_97, H, hm, hS, le_81, ho_87, ho_91, ho_96, ho_100⟩
  replace H : hocketlaw20_WaitPlays.B1 K x0 (fun v => hocketlaw20_WaitPlays.J1 K v.1 v.2) (hocketlaw20_WaitPlays.L1 K x0 (fun v => hocketlaw20_WaitPlays.J1 K v.1 v.2) k_101) x_82 x_83 x_92 = some r := H
  unfold hocketlaw20_WaitPlays.B1 at H
  refine c_seq fun KJ_105 hKJ_105 => ?_
  refine c_seq fun KJ_106 hKJ_106 => ?_
  have hJ_j_110 : ∀ (x_108 : Bool), hocketlaw20_WaitPlays.J2 K x0 x_82 x_83 x_92 (hocketlaw20_WaitPlays.L1 K x0 (fun v => hocketlaw20_WaitPlays.J1 K v.1 v.2) k_101) (fun v => hocketlaw20_WaitPlays.J1 K v.1 v.2) x_108 = some r → ∀ (a : Act) (w_109 : World), (∃ (N_107 : Mem), Fr 107 a [(0, p0_0), (2, .bool false), (3, .pointer (some ⟨g_5, 0, none⟩)), (4, .pointer (some ⟨g_15, 0, none⟩)), (5, .int .i64 x_82), (21, .bool x_108)] ∧ Sep w0 w_109 [N_107, Mem.one g_5 (.cells ([v_86, v_90] : List Value).toArray 74 (0, 0)), M_84, M_88, Mem.one g_15 (.cells ([v_95, v_99] : List Value).toArray 63 (0, 0)), M_93, M_97] Z ∧ N_81.le N_107) → KJ_106 a w_109 := by
    clear H hm hS a
    rintro x_108 H a w_109 ⟨N_107, hm, hS, le_107⟩
    unfold hocketlaw20_WaitPlays.J2 at H
    refine hKJ_106 _ _ ?_
    by_cases hc_111 : x_108 = true
    · rw [if_pos hc_111] at H
      refine c_cond_t hm rfl hc_111 ?_
      refine wp_skip ?_
      refine x_then_n (hKJ_105 _ _ ?_)
      refine c_seq fun KJ_112 hKJ_112 => ?_
      refine c_block ?_
      refine c_seq fun KJ_113 hKJ_113 => ?_
      have hJ_j_124 : ∀ (x_116 : api_Entry), hocketlaw20_WaitPlays.J3 K x0 x_82 x_83 x_92 (hocketlaw20_WaitPlays.L1 K x0 (fun v => hocketlaw20_WaitPlays.J1 K v.1 v.2) k_101) x_116 = some r → ∀ (a : Act) (w_123 : World), (∃ (v_117 : Value) (v_119 : Value) (v_121 : Value) (g_115 : Nat) (N_114 : Mem), Fr 107 a [(0, p0_0), (2, .bool false), (3, .pointer (some ⟨g_5, 0, none⟩)), (4, .pointer (some ⟨g_15, 0, none⟩)), (5, .int .i64 x_82), (6, .pointer (some ⟨g_115, 0, none⟩))] ∧ Sep w0 w_123 [N_114, Mem.one g_5 (.cells ([v_86, v_90] : List Value).toArray 74 (0, 0)), M_84, M_88, Mem.one g_15 (.cells ([v_95, v_99] : List Value).toArray 63 (0, 0)), M_93, M_97, Mem.one g_115 (.cells ([.int .i64 x_116.Sess, .int .i64 x_116.Seq, .int .i64 x_116.Cmd.Kind, .int .i64 x_116.Cmd.Who, v_117, v_119, v_121] : List Value).toArray 45 (0, 0))] Z ∧ N_107.le N_114 ∧ Rd Kd.u8 N_114 v_117 x_116.Cmd.Key ∧ Rd Kd.u8 N_114 v_119 x_116.Cmd.Val ∧ Rd Kd.u8 N_114 v_121 x_116.Cmd.Old) → KJ_113 a w_123 := by
        clear H hm hS a
        rintro x_116 H a w_123 ⟨v_117, v_119, v_121, g_115, N_114, hm, hS, le_114, hr_118, hr_120, hr_122⟩
        unfold hocketlaw20_WaitPlays.J3 at H
        refine hKJ_113 _ _ ?_
        refine c_seq fun KJ_125 hKJ_125 => ?_
        refine wp_seq ?_
        refine wp_region_lit ?_
        refine s_move hm rfl rfl ?_
        clear hm a; intro a hm
        refine s_move hm rfl rfl ?_
        clear hm a; intro a hm
        obtain ⟨t_126, et_126, H⟩ := Option.bind_eq_some_iff.1 H
        refine v_index hm rfl Try.underlying22 ti3 rfl rfl rfl hp0_0 (hA.trans hS.old) et_126 ?_
        intro ad_127 cs_128 hk_129 hc_130
        obtain rfl := (show cs_128 = [.int .i64 t_126] from hk_129)
        clear hm a; intro a hm
        refine s_load hm rfl rfl (el_one (o := 0) hc_130 Try.underlying3 rfl rfl) ?_
        clear hm a; intro a hm
        refine s_bits (i := t_126) (j := 7) (r := band .i64 t_126 7) hm rfl rfl rfl (.inl ⟨rfl, rfl⟩) ?_
        clear hm a; intro a hm
        refine wpList_nil ?_
        replace hm : Fr 107 a [(0, p0_0), (2, .bool false), (3, .pointer (some ⟨g_5, 0, none⟩)), (4, .pointer (some ⟨g_15, 0, none⟩)), (5, .int .i64 x_82), (6, .pointer (some ⟨g_115, 0, none⟩)), (39, .int .i64 (band .i64 t_126 7))] := hm.keep [0, 2, 3, 4, 5, 6, 39]
        refine x_then_n ?_
        have hJ_j_151 : ∀ (x_132 : wait_Calls), ∀ (x_141 : hocketref15_Calls), hocketlaw20_WaitPlays.J4 K (hocketlaw20_WaitPlays.L1 K x0 (fun v => hocketlaw20_WaitPlays.J1 K v.1 v.2) k_101) x_82 x_132 x_141 = some r → ∀ (a : Act) (w_150 : World), (∃ (v_135 : Value) (v_139 : Value) (v_144 : Value) (v_148 : Value) (N_131 : Mem) (M_133 : Mem) (M_137 : Mem) (M_142 : Mem) (M_146 : Mem), Fr 107 a [(0, p0_0), (2, .bool false), (3, .pointer (some ⟨g_5, 0, none⟩)), (4, .pointer (some ⟨g_15, 0, none⟩)), (5, .int .i64 x_82)] ∧ Sep w0 w_150 [N_131, Mem.one g_5 (.cells ([v_135, v_139] : List Value).toArray 74 (0, 0)), M_133, M_137, Mem.one g_15 (.cells ([v_144, v_148] : List Value).toArray 63 (0, 0)), M_142, M_146, Mem.no] Z ∧ N_114.le N_131 ∧ Own k_wait_call 78 M_133 N_131 v_135 x_132.l ∧ Own k_api_Reply 56 M_137 N_131 v_139 x_132.done ∧ Own k_hocketref15_call 84 M_142 N_131 v_144 x_141.l ∧ Own k_api_Reply 56 M_146 N_131 v_148 x_141.r) → KJ_125 a w_150 := by
          clear H hm hS a
          rintro x_132 x_141 H a w_150 ⟨v_135, v_139, v_144, v_148, N_131, M_133, M_137, M_142, M_146, hm, hS, le_131, ho_136, ho_140, ho_145, ho_149⟩
          unfold hocketlaw20_WaitPlays.J4 at H
          refine hKJ_125 _ _ ?_
          refine wp_seq ?_
          refine wp_region_lit ?_
          refine s_move hm rfl rfl ?_
          clear hm a; intro a hm
          obtain ⟨t_152, et_152, H⟩ := Option.bind_eq_some_iff.1 H
          refine s_call hm rfl Try.call23 rfl (wait_Calls_Waiting.calls _ x_132.l _ x_132.done _ t_152 w0 _ _ _ (Mem.le.refl _) (hS.enter [0] (by decide)) (ho_136.rd (hS.own_zed [0] 1 (by decide)) ((Mem.le.refl _).trans (hS.new_zed [0]))) (ho_140.rd (hS.own_zed [0] 2 (by decide)) ((Mem.le.refl _).trans (hS.new_zed [0]))) et_152) ?_
          rintro _ w_153 ⟨N_154, rfl, hS'⟩
          clear hm a; intro a hm
          obtain ⟨N_155, hS'', le_155, ln_155⟩ := hS.call [0] (by decide) rfl (l' := [Mem.one g_5 (.cells ([v_135, v_139] : List Value).toArray 74 (0, 0))]) (ow := []) rfl hS'
          replace hS : Sep w0 w_153 [N_155, Mem.one g_5 (.cells ([v_135, v_139] : List Value).toArray 74 (0, 0)), M_133, M_137, Mem.one g_15 (.cells ([v_144, v_148] : List Value).toArray 63 (0, 0)), M_142, M_146, Mem.no] Z := hS''
          clear hS' hS''
          refine s_move hm rfl rfl ?_
          clear hm a; intro a hm
          obtain ⟨t_156, et_156, H⟩ := Option.bind_eq_some_iff.1 H
          refine s_call hm rfl Try.call38 rfl (hocketref15_Calls_Waiting.calls _ x_141.l _ x_141.r _ t_156 w0 _ _ _ (Mem.le.refl _) (hS.enter [3] (by decide)) (ho_145.rd (hS.own_zed [3] 4 (by decide)) (le_155.trans (hS.new_zed [3]))) (ho_149.rd (hS.own_zed [3] 5 (by decide)) (le_155.trans (hS.new_zed [3]))) et_156) ?_
          rintro _ w_157 ⟨N_158, rfl, hS'⟩
          clear hm a; intro a hm
          obtain ⟨N_159, hS'', le_159, ln_159⟩ := hS.call [3] (by decide) rfl (l' := [Mem.one g_15 (.cells ([v_144, v_148] : List Value).toArray 63 (0, 0))]) (ow := []) rfl hS'
          replace hS : Sep w0 w_157 [N_159, Mem.one g_5 (.cells ([v_135, v_139] : List Value).toArray 74 (0, 0)), M_133, M_137, Mem.one g_15 (.cells ([v_144, v_148] : List Value).toArray 63 (0, 0)), M_142, M_146, Mem.no] Z := hS''
          clear hS' hS''
          refine s_cmp (b := (t_152 != t_156)) hm rfl rfl rfl (.inr (.inl ⟨rfl, rfl⟩)) ?_
          clear hm a; intro a hm
          refine wpList_nil ?_
          replace hm : Fr 107 a [(0, p0_0), (2, .bool false), (3, .pointer (some ⟨g_5, 0, none⟩)), (4, .pointer (some ⟨g_15, 0, none⟩)), (5, .int .i64 x_82), (98, .bool (t_152 != t_156))] := hm.keep [0, 2, 3, 4, 5, 98]
          refine x_then_n ?_
          by_cases hc_160 : t_152 = t_156
          · rw [if_pos hc_160] at H
            refine c_cond_f hm rfl (bne_eq_false_iff_eq.2 hc_160) ?_
            refine wp_skip ?_
            refine x_block_n ?_
            refine x_then_n (hKJ_112 _ _ ?_)
            refine wp_region_lit ?_
            refine s_move hm rfl rfl ?_
            clear hm a; intro a hm
            refine s_arith (r := w64 (x_82 + 1)) hm rfl rfl rfl (.inl ⟨rfl, rfl⟩) ?_
            clear hm a; intro a hm
            refine s_assign hm rfl rfl ?_
            clear hm a; intro a hm
            refine wpList_nil ?_
            replace hm : Fr 107 a [(0, p0_0), (2, .bool false), (3, .pointer (some ⟨g_5, 0, none⟩)), (4, .pointer (some ⟨g_15, 0, none⟩)), (5, .int .i64 (w64 (x_82 + 1)))] := hm.keep [0, 2, 3, 4, 5]
            refine x_then_n (hKL_101 _ _ ?_)
            replace hS : Sep w0 w_157 [N_159, Mem.one g_5 (.cells ([v_135, v_139] : List Value).toArray 74 (0, 0)), M_133, M_137, Mem.one g_15 (.cells ([v_144, v_148] : List Value).toArray 63 (0, 0)), M_142, M_146, Mem.no] Z := hS
            replace hm : Fr 107 a [(0, p0_0), (2, .bool false), (3, .pointer (some ⟨g_5, 0, none⟩)), (4, .pointer (some ⟨g_15, 0, none⟩)), (5, .int .i64 (w64 (x_82 + 1)))] := hm.keep [0, 2, 3, 4, 5]
            exact ⟨w64 (x_82 + 1), x_132, x_141, v_135, v_139, v_144, v_148, N_159, M_133, M_137, M_142, M_146, H, hm, (Sep.sel hS [0, 1, 2, 3, 4, 5, 6] (by decide)), (le_81.trans (le_107.trans (le_114.trans (le_131.trans (le_155.trans le_159))))), (ho_136.mono (le_155.trans le_159)), (ho_140.mono (le_155.trans le_159)), (ho_145.mono (le_155.trans le_159)), (ho_149.mono (le_155.trans le_159))⟩
          · rw [if_neg hc_160] at H
            cases H
        clear hKJ_125
        refine c_block ?_
        refine c_seq fun KJ_161 hKJ_161 => ?_
        refine wp_seq ?_
        refine wp_region_lit ?_
        refine s_cmp (b := ((band .i64 t_126 7) == 0)) hm rfl rfl rfl (.inl ⟨rfl, rfl⟩) ?_
        clear hm a; intro a hm
        refine s_assign hm rfl rfl ?_
        clear hm a; intro a hm
        refine wpList_nil ?_
        replace hm : Fr 107 a [(0, p0_0), (2, .bool false), (3, .pointer (some ⟨g_5, 0, none⟩)), (4, .pointer (some ⟨g_15, 0, none⟩)), (5, .int .i64 x_82), (6, .pointer (some ⟨g_115, 0, none⟩)), (39, .int .i64 (band .i64 t_126 7)), (46, .bool ((band .i64 t_126 7) == 0))] := hm.keep [0, 2, 3, 4, 5, 6, 39, 46]
        refine x_then_n ?_
        have hJ_j_165 : ∀ (x_163 : Bool), hocketlaw20_WaitPlays.J5 K x_83 x_116 x_92 (hocketlaw20_WaitPlays.L1 K x0 (fun v => hocketlaw20_WaitPlays.J1 K v.1 v.2) k_101) x_82 t_126 x0 x_163 = some r → ∀ (a : Act) (w_164 : World), (∃ (N_162 : Mem), Fr 107 a [(0, p0_0), (2, .bool false), (3, .pointer (some ⟨g_5, 0, none⟩)), (4, .pointer (some ⟨g_15, 0, none⟩)), (5, .int .i64 x_82), (6, .pointer (some ⟨g_115, 0, none⟩)), (39, .int .i64 (band .i64 t_126 7)), (46, .bool x_163)] ∧ Sep w0 w_164 [N_162, Mem.one g_5 (.cells ([v_86, v_90] : List Value).toArray 74 (0, 0)), M_84, M_88, Mem.one g_15 (.cells ([v_95, v_99] : List Value).toArray 63 (0, 0)), M_93, M_97, Mem.one g_115 (.cells ([.int .i64 x_116.Sess, .int .i64 x_116.Seq, .int .i64 x_116.Cmd.Kind, .int .i64 x_116.Cmd.Who, v_117, v_119, v_121] : List Value).toArray 45 (0, 0))] Z ∧ N_114.le N_162) → KJ_161 a w_164 := by
          clear H hm hS a
          rintro x_163 H a w_164 ⟨N_162, hm, hS, le_162⟩
          unfold hocketlaw20_WaitPlays.J5 at H
          refine hKJ_161 _ _ ?_
          by_cases hc_166 : x_163 = true
          · rw [if_pos hc_166] at H
            refine c_cond_t hm rfl hc_166 ?_
            refine c_seq fun KJ_167 hKJ_167 => ?_
            refine h_begin (S := fun w => Sep w0 w [N_162, Mem.no, Mem.no, Mem.no, Mem.no, Mem.no, Mem.no, Mem.one g_115 (.cells ([.int .i64 x_116.Sess, .int .i64 x_116.Seq, .int .i64 x_116.Cmd.Kind, .int .i64 x_116.Cmd.Who, v_117, v_119, v_121] : List Value).toArray 45 (0, 0))] Z) 7 (by kernel_rfl) rfl [false, false, false, false, false, false, false].toArray rfl hS fun w_168 hS => ?_
            replace hS : Sep w0 w_168 [N_162, Mem.one g_5 (.cells ([v_86, v_90] : List Value).toArray 74 (0, 0)), M_84, M_88, Mem.one g_15 (.cells ([v_95, v_99] : List Value).toArray 63 (0, 0)), M_93, M_97, Mem.one g_115 (.cells ([.int .i64 x_116.Sess, .int .i64 x_116.Seq, .int .i64 x_116.Cmd.Kind, .int .i64 x_116.Cmd.Who, v_117, v_119, v_121] : List Value).toArray 45 (0, 0))] Z := hS
            refine h_take 0 [true, false, false, false, false, false, false].toArray rfl (by kernel_rfl) (by kernel_rfl) (by kernel_rfl) (fun _ _ _ _ h => h) rfl rfl rfl rfl hm (hS.sub (.cons (Mem.le.refl _) (.cons (Mem.no_le _) (.cons (Mem.no_le _) (.cons (Mem.no_le _) (.cons (Mem.no_le _) (.cons (Mem.no_le _) (.cons (Mem.no_le _) (.cons (Mem.le.refl _) (Sub.nil _)))))))))) (v := .pointer (some ⟨g_5, 0, none⟩)) (fun w hS => r_move hm rfl) ?_
            clear hm a; intro a hm
            refine h_take 1 [true, true, false, false, false, false, false].toArray rfl (by kernel_rfl) (by kernel_rfl) (by kernel_rfl) (fun _ _ _ _ h => h) rfl rfl rfl rfl hm (hS.sub (.cons (Mem.le.refl _) (.cons (Mem.no_le _) (.cons (Mem.no_le _) (.cons (Mem.no_le _) (.cons (Mem.no_le _) (.cons (Mem.no_le _) (.cons (Mem.no_le _) (.cons (Mem.le.refl _) (Sub.nil _)))))))))) (v := .agg ([.int .i64 x_116.Sess, .int .i64 x_116.Seq, .int .i64 x_116.Cmd.Kind, .int .i64 x_116.Cmd.Who, v_117, v_119, v_121] : List Value).toArray) (fun w hS => r_load hm rfl (hS.load_agg (p := 7) (us := [.int .i64 x_116.Sess, .int .i64 x_116.Seq, .int .i64 x_116.Cmd.Kind, .int .i64 x_116.Cmd.Who, v_117, v_119, v_121]) rfl Try.underlying45 rfl ti45 rfl rfl)) ?_
            clear hm a; intro a hm
            refine h_take 3 [true, true, false, true, false, false, false].toArray rfl (by kernel_rfl) (by kernel_rfl) (by kernel_rfl) (fun _ _ _ _ h => h) rfl rfl rfl rfl hm (hS.sub (.cons (Mem.le.refl _) (.cons (Mem.no_le _) (.cons (Mem.no_le _) (.cons (Mem.no_le _) (.cons (Mem.no_le _) (.cons (Mem.no_le _) (.cons (Mem.no_le _) (.cons (Mem.le.refl _) (Sub.nil _)))))))))) (v := .pointer (some ⟨g_15, 0, none⟩)) (fun w hS => r_move hm rfl) ?_
            clear hm a; intro a hm
            refine h_take 4 [true, true, false, true, true, false, false].toArray rfl (by kernel_rfl) (by kernel_rfl) (by kernel_rfl) (fun _ _ _ _ h => h) rfl rfl rfl rfl hm (hS.sub (.cons (Mem.le.refl _) (.cons (Mem.no_le _) (.cons (Mem.no_le _) (.cons (Mem.no_le _) (.cons (Mem.no_le _) (.cons (Mem.no_le _) (.cons (Mem.no_le _) (.cons (Mem.le.refl _) (Sub.nil _)))))))))) (v := .agg ([.int .i64 x_116.Sess, .int .i64 x_116.Seq, .int .i64 x_116.Cmd.Kind, .int .i64 x_116.Cmd.Who, v_117, v_119, v_121] : List Value).toArray) (fun w hS => r_load hm rfl (hS.load_agg (p := 7) (us := [.int .i64 x_116.Sess, .int .i64 x_116.Seq, .int .i64 x_116.Cmd.Kind, .int .i64 x_116.Cmd.Who, v_117, v_119, v_121]) rfl Try.underlying45 rfl ti45 rfl rfl)) ?_
            clear hm a; intro a hm
            refine h_event 2 [true, true, true, true, true, false, false].toArray rfl (by kernel_rfl) rfl ?_
            obtain ⟨t_169, et_169, H⟩ := Option.bind_eq_some_iff.1 H
            refine s_call hm rfl Try.call22 rfl (wait_Calls_Call.calls K _ x_83.l _ _ x_83.done _ _ x_116 _ _ _ t_169 w0 _ _ N_162 (hS.new_zed [0, 1, 2]) (hS.enter [0, 1, 2] (by decide)) (ho_87.mono (le_107.trans (le_114.trans le_162))) (ho_91.mono (le_107.trans (le_114.trans le_162))) (hr_118.mono le_162) (hr_120.mono le_162) (hr_122.mono le_162) et_169) ?_
            rintro _ w_170 ⟨v_173, v_177, N_171, M_175, M_179, rfl, hS', hr_174, hr_178⟩
            clear hm a; intro a hm
            obtain ⟨N_172, hS'', le_172, ln_172⟩ := hS.call [0, 1, 2] (by decide) rfl (l' := [Mem.one g_5 (.cells ([v_173, v_177] : List Value).toArray 74 (0, 0)), M_175, M_179]) (ow := []) rfl hS'
            replace hS : Sep w0 w_170 [N_172, Mem.one g_5 (.cells ([v_173, v_177] : List Value).toArray 74 (0, 0)), M_175, M_179, Mem.one g_15 (.cells ([v_95, v_99] : List Value).toArray 63 (0, 0)), M_93, M_97, Mem.one g_115 (.cells ([.int .i64 x_116.Sess, .int .i64 x_116.Seq, .int .i64 x_116.Cmd.Kind, .int .i64 x_116.Cmd.Who, v_117, v_119, v_121] : List Value).toArray 45 (0, 0))] Z := hS''
            clear hS' hS''
            refine wpList_nil ?_
            refine x_then_n ⟨(hS.sub (.cons le_172 (.cons (Mem.no_le _) (.cons (Mem.no_le _) (.cons (Mem.no_le _) (.cons (Mem.no_le _) (.cons (Mem.no_le _) (.cons (Mem.no_le _) (.cons (Mem.le.refl _) (Sub.nil _)))))))))), ?_⟩
            refine h_event 5 [true, true, true, true, true, true, false].toArray rfl (by kernel_rfl) rfl ?_
            obtain ⟨t_181, et_181, H⟩ := Option.bind_eq_some_iff.1 H
            refine s_call hm rfl Try.call31 rfl (hocketref15_Calls_Call.calls K _ x_92.l _ _ x_92.r _ _ x_116 _ _ _ t_181 w0 _ _ N_172 (hS.new_zed [3, 4, 5]) (hS.enter [3, 4, 5] (by decide)) (ho_96.mono (le_107.trans (le_114.trans (le_162.trans le_172)))) (ho_100.mono (le_107.trans (le_114.trans (le_162.trans le_172)))) (hr_118.mono (le_162.trans le_172)) (hr_120.mono (le_162.trans le_172)) (hr_122.mono (le_162.trans le_172)) et_181) ?_
            rintro _ w_182 ⟨v_185, v_189, N_183, M_187, M_191, rfl, hS', hr_186, hr_190⟩
            clear hm a; intro a hm
            obtain ⟨N_184, hS'', le_184, ln_184⟩ := hS.call [3, 4, 5] (by decide) rfl (l' := [Mem.one g_15 (.cells ([v_185, v_189] : List Value).toArray 63 (0, 0)), M_187, M_191]) (ow := []) rfl hS'
            replace hS : Sep w0 w_182 [N_184, Mem.one g_5 (.cells ([v_173, v_177] : List Value).toArray 74 (0, 0)), M_175, M_179, Mem.one g_15 (.cells ([v_185, v_189] : List Value).toArray 63 (0, 0)), M_187, M_191, Mem.one g_115 (.cells ([.int .i64 x_116.Sess, .int .i64 x_116.Seq, .int .i64 x_116.Cmd.Kind, .int .i64 x_116.Cmd.Who, v_117, v_119, v_121] : List Value).toArray 45 (0, 0))] Z := hS''
            clear hS' hS''
            refine wpList_nil ?_
            refine x_then_n ⟨(hS.sub (.cons (le_172.trans le_184) (.cons (Mem.no_le _) (.cons (Mem.no_le _) (.cons (Mem.no_le _) (.cons (Mem.no_le _) (.cons (Mem.no_le _) (.cons (Mem.no_le _) (.cons (Mem.le.refl _) (Sub.nil _)))))))))), ?_⟩
            refine h_take 6 [true, true, true, true, true, true, true].toArray rfl (by kernel_rfl) (by kernel_rfl) (by kernel_rfl) (fun _ _ _ _ h => h) rfl rfl rfl rfl hm (hS.sub (.cons (le_172.trans le_184) (.cons (Mem.no_le _) (.cons (Mem.no_le _) (.cons (Mem.no_le _) (.cons (Mem.no_le _) (.cons (Mem.no_le _) (.cons (Mem.no_le _) (.cons (Mem.le.refl _) (Sub.nil _)))))))))) (v := .bool (!(t_169.1 == t_181.1))) (fun w hS => r_beq (b := !(t_169.1 == t_181.1)) hm Try.underlying4 rfl rfl (.inr ⟨rfl, rfl⟩)) ?_
            clear hm a; intro a hm
            refine h_done (by kernel_rfl) ?_
            replace hm : Fr 107 a [(0, p0_0), (2, .bool false), (3, .pointer (some ⟨g_5, 0, none⟩)), (4, .pointer (some ⟨g_15, 0, none⟩)), (5, .int .i64 x_82), (56, .bool (!(t_169.1 == t_181.1)))] := hm.keep [0, 2, 3, 4, 5, 56]
            refine x_then_n (hKJ_167 _ _ ?_)
            by_cases hc_193 : t_169.1 = t_181.1
            · rw [if_pos hc_193] at H
              refine c_cond_f hm rfl (nf (beq_iff_eq.2 hc_193)) ?_
              refine wp_skip ?_
              refine x_block_n ?_
              replace hS : Sep w0 w_182 [N_184, Mem.one g_5 (.cells ([v_173, v_177] : List Value).toArray 74 (0, 0)), M_175, M_179, Mem.one g_15 (.cells ([v_185, v_189] : List Value).toArray 63 (0, 0)), M_187, M_191, Mem.one g_115 (.cells ([.int .i64 x_116.Sess, .int .i64 x_116.Seq, .int .i64 x_116.Cmd.Kind, .int .i64 x_116.Cmd.Who, v_117, v_119, v_121] : List Value).toArray 45 (0, 0))] Z := hS
              replace hm : Fr 107 a [(0, p0_0), (2, .bool false), (3, .pointer (some ⟨g_5, 0, none⟩)), (4, .pointer (some ⟨g_15, 0, none⟩)), (5, .int .i64 x_82)] := hm.keep [0, 2, 3, 4, 5]
              exact x_then_n (hJ_j_151 (⟨t_169.2.1, t_169.2.2⟩ : wait_Calls) (⟨t_181.2.1, t_181.2.2⟩ : hocketref15_Calls) H _ _ ⟨v_173, v_177, v_185, v_189, N_184, M_175, M_179, M_187, M_191, hm, (Sep.sel hS [0, 1, 2, 3, 4, 5, 6, 1006] (by decide)), (le_162.trans (le_172.trans le_184)), ((hr_174.mono (Mem.un_le le_172 ln_172)).mono le_184), ((hr_178.mono (Mem.un_le le_172 ln_172)).mono le_184), ((hr_186.mono (Mem.un_le le_184 ln_184)).mono (Mem.le.refl _)), ((hr_190.mono (Mem.un_le le_184 ln_184)).mono (Mem.le.refl _))⟩)
            · rw [if_neg hc_193] at H
              cases H
          · rw [if_neg hc_166] at H
            refine c_cond_f hm rfl (Bool.eq_false_iff.2 hc_166) ?_
            refine c_seq fun KJ_194 hKJ_194 => ?_
            refine wp_seq ?_
            refine wp_region_lit ?_
            refine s_cmp (b := ((band .i64 t_126 7) == 3)) hm rfl rfl rfl (.inl ⟨rfl, rfl⟩) ?_
            clear hm a; intro a hm
            refine s_assign hm rfl rfl ?_
            clear hm a; intro a hm
            refine wpList_nil ?_
            replace hm : Fr 107 a [(0, p0_0), (2, .bool false), (3, .pointer (some ⟨g_5, 0, none⟩)), (4, .pointer (some ⟨g_15, 0, none⟩)), (5, .int .i64 x_82), (6, .pointer (some ⟨g_115, 0, none⟩)), (39, .int .i64 (band .i64 t_126 7)), (57, .bool ((band .i64 t_126 7) == 3))] := hm.keep [0, 2, 3, 4, 5, 6, 39, 57]
            refine x_then_n ?_
            have hJ_j_198 : ∀ (x_196 : Bool), hocketlaw20_WaitPlays.J6 K x0 x_82 x_83 x_92 (hocketlaw20_WaitPlays.L1 K x0 (fun v => hocketlaw20_WaitPlays.J1 K v.1 v.2) k_101) t_126 x_116 x_196 = some r → ∀ (a : Act) (w_197 : World), (∃ (N_195 : Mem), Fr 107 a [(0, p0_0), (2, .bool false), (3, .pointer (some ⟨g_5, 0, none⟩)), (4, .pointer (some ⟨g_15, 0, none⟩)), (5, .int .i64 x_82), (6, .pointer (some ⟨g_115, 0, none⟩)), (39, .int .i64 (band .i64 t_126 7)), (57, .bool x_196)] ∧ Sep w0 w_197 [N_195, Mem.one g_5 (.cells ([v_86, v_90] : List Value).toArray 74 (0, 0)), M_84, M_88, Mem.one g_15 (.cells ([v_95, v_99] : List Value).toArray 63 (0, 0)), M_93, M_97, Mem.one g_115 (.cells ([.int .i64 x_116.Sess, .int .i64 x_116.Seq, .int .i64 x_116.Cmd.Kind, .int .i64 x_116.Cmd.Who, v_117, v_119, v_121] : List Value).toArray 45 (0, 0))] Z ∧ N_162.le N_195) → KJ_194 a w_197 := by
              clear H hm hS a
              rintro x_196 H a w_197 ⟨N_195, hm, hS, le_195⟩
              unfold hocketlaw20_WaitPlays.J6 at H
              refine hKJ_194 _ _ ?_
              by_cases hc_199 : x_196 = true
              · rw [if_pos hc_199] at H
                refine c_cond_t hm rfl hc_199 ?_
                refine wp_seq ?_
                refine wp_region_lit ?_
                refine s_move hm rfl rfl ?_
                clear hm a; intro a hm
                refine s_move hm rfl rfl ?_
                clear hm a; intro a hm
                obtain ⟨t_200, et_200, H⟩ := Option.bind_eq_some_iff.1 H
                refine v_index hm rfl Try.underlying22 ti3 rfl rfl rfl hp0_0 (hA.trans hS.old) et_200 ?_
                intro ad_201 cs_202 hk_203 hc_204
                obtain rfl := (show cs_202 = [.int .i64 t_200] from hk_203)
                clear hm a; intro a hm
                refine s_load hm rfl rfl (el_one (o := 0) hc_204 Try.underlying3 rfl rfl) ?_
                clear hm a; intro a hm
                refine s_shift (r := shr .i64 t_200 4) hm rfl rfl rfl (by decide) (.inr ⟨rfl, rfl⟩) ?_
                clear hm a; intro a hm
                refine s_bits (i := shr .i64 t_200 4) (j := 7) (r := band .i64 (shr .i64 t_200 4) 7) hm rfl rfl rfl (.inl ⟨rfl, rfl⟩) ?_
                clear hm a; intro a hm
                refine s_arith (r := w64 ((band .i64 (shr .i64 t_200 4) 7) - 1)) hm rfl rfl rfl (.inr (.inl ⟨rfl, rfl⟩)) ?_
                clear hm a; intro a hm
                refine s_assign hm rfl rfl ?_
                clear hm a; intro a hm
                refine wpList_nil ?_
                replace hm : Fr 107 a [(0, p0_0), (2, .bool false), (3, .pointer (some ⟨g_5, 0, none⟩)), (4, .pointer (some ⟨g_15, 0, none⟩)), (5, .int .i64 x_82), (7, .int .i64 (w64 ((band .i64 (shr .i64 t_200 4) 7) - 1)))] := hm.keep [0, 2, 3, 4, 5, 7]
                refine x_then_n ?_
                refine wp_seq ?_
                refine wp_region_lit ?_
                refine s_move hm rfl rfl ?_
                clear hm a; intro a hm
                refine s_move hm rfl rfl ?_
                clear hm a; intro a hm
                obtain ⟨t_205, et_205, H⟩ := Option.bind_eq_some_iff.1 H
                refine s_call hm rfl Try.call24 rfl (wait_Calls_Next.calls K _ x_83.l _ _ x_83.done _ _ (w64 ((band .i64 (shr .i64 t_200 4) 7) - 1)) t_205 w0 _ _ N_195 (hS.new_zed [0, 1, 2]) (hS.enter [0, 1, 2] (by decide)) (ho_87.mono (le_107.trans (le_114.trans (le_162.trans le_195)))) (ho_91.mono (le_107.trans (le_114.trans (le_162.trans le_195)))) et_205) ?_
                rintro v_209 w_206 ⟨_, v_213, v_217, N_207, M_211, M_215, M_219, rfl, hS', hr_210, hr_214, hr_218⟩
                clear hm a; intro a hm
                obtain ⟨N_208, hS'', le_208, ln_208⟩ := hS.call [0, 1, 2] (by decide) rfl (l' := [Mem.one g_5 (.cells ([v_213, v_217] : List Value).toArray 74 (0, 0)), M_215, M_219]) (ow := [M_211]) rfl hS'
                replace hS : Sep w0 w_206 [N_208, Mem.one g_5 (.cells ([v_213, v_217] : List Value).toArray 74 (0, 0)), M_215, M_219, Mem.one g_15 (.cells ([v_95, v_99] : List Value).toArray 63 (0, 0)), M_93, M_97, Mem.one g_115 (.cells ([.int .i64 x_116.Sess, .int .i64 x_116.Seq, .int .i64 x_116.Cmd.Kind, .int .i64 x_116.Cmd.Who, v_117, v_119, v_121] : List Value).toArray 45 (0, 0)), M_211] Z := hS''
                clear hS' hS''
                refine s_move hm rfl rfl ?_
                clear hm a; intro a hm
                refine s_move hm rfl rfl ?_
                clear hm a; intro a hm
                obtain ⟨t_221, et_221, H⟩ := Option.bind_eq_some_iff.1 H
                refine s_call hm rfl Try.call33 rfl (hocketref15_Calls_Next.calls K _ x_92.l _ _ x_92.r _ _ (w64 ((band .i64 (shr .i64 t_200 4) 7) - 1)) t_221 w0 _ _ N_208 (hS.new_zed [3, 4, 5]) (hS.enter [3, 4, 5] (by decide)) (ho_96.mono (le_107.trans (le_114.trans (le_162.trans (le_195.trans le_208))))) (ho_100.mono (le_107.trans (le_114.trans (le_162.trans (le_195.trans le_208))))) et_221) ?_
                rintro v_225 w_222 ⟨_, v_229, v_233, N_223, M_227, M_231, M_235, rfl, hS', hr_226, hr_230, hr_234⟩
                clear hm a; intro a hm
                obtain ⟨N_224, hS'', le_224, ln_224⟩ := hS.call [3, 4, 5] (by decide) rfl (l' := [Mem.one g_15 (.cells ([v_229, v_233] : List Value).toArray 63 (0, 0)), M_231, M_235]) (ow := [M_227]) rfl hS'
                replace hS : Sep w0 w_222 [N_224, Mem.one g_5 (.cells ([v_213, v_217] : List Value).toArray 74 (0, 0)), M_215, M_219, Mem.one g_15 (.cells ([v_229, v_233] : List Value).toArray 63 (0, 0)), M_231, M_235, Mem.one g_115 (.cells ([.int .i64 x_116.Sess, .int .i64 x_116.Seq, .int .i64 x_116.Cmd.Kind, .int .i64 x_116.Cmd.Who, v_117, v_119, v_121] : List Value).toArray 45 (0, 0)), M_211, M_227] Z := hS''
                clear hS' hS''
                obtain ⟨t_237, et_237, H⟩ := Option.bind_eq_some_iff.1 H
                refine s_call hm rfl Try.call32 rfl (hocketref4_SameEntries.calls K t_205.1 _ t_221.1 _ t_237 w0 _ _ _ (Mem.le.refl _) (hS.enter [] (by decide)) ((hr_210.mono ln_208).rd (hS.own_zed [] 7 (by decide)) (le_224.trans (hS.new_zed []))) ((hr_226.mono (Mem.un_le le_224 ln_224)).rd (hS.own_zed [] 8 (by decide)) ((Mem.le.refl _).trans (hS.new_zed []))) et_237) ?_
                rintro _ w_238 ⟨N_239, rfl, hS'⟩
                clear hm a; intro a hm
                obtain ⟨N_240, hS'', le_240, ln_240⟩ := hS.call [] (by decide) rfl (l' := []) (ow := []) rfl hS'
                replace hS : Sep w0 w_238 [N_240, Mem.one g_5 (.cells ([v_213, v_217] : List Value).toArray 74 (0, 0)), M_215, M_219, Mem.one g_15 (.cells ([v_229, v_233] : List Value).toArray 63 (0, 0)), M_231, M_235, Mem.one g_115 (.cells ([.int .i64 x_116.Sess, .int .i64 x_116.Seq, .int .i64 x_116.Cmd.Kind, .int .i64 x_116.Cmd.Who, v_117, v_119, v_121] : List Value).toArray 45 (0, 0)), M_211, M_227] Z := hS''
                clear hS' hS''
                refine s_not hm rfl rfl ?_
                clear hm a; intro a hm
                refine wpList_nil ?_
                replace hm : Fr 107 a [(0, p0_0), (2, .bool false), (3, .pointer (some ⟨g_5, 0, none⟩)), (4, .pointer (some ⟨g_15, 0, none⟩)), (5, .int .i64 x_82), (74, .bool (!t_237))] := hm.keep [0, 2, 3, 4, 5, 74]
                refine x_then_n ?_
                by_cases hc_241 : t_237 = true
                · rw [if_pos hc_241] at H
                  refine c_cond_f hm rfl (nf hc_241) ?_
                  refine wp_skip ?_
                  refine x_block_n ?_
                  replace hS : Sep w0 w_238 [N_240, Mem.one g_5 (.cells ([v_213, v_217] : List Value).toArray 74 (0, 0)), M_215, M_219, Mem.one g_15 (.cells ([v_229, v_233] : List Value).toArray 63 (0, 0)), M_231, M_235, Mem.one g_115 (.cells ([.int .i64 x_116.Sess, .int .i64 x_116.Seq, .int .i64 x_116.Cmd.Kind, .int .i64 x_116.Cmd.Who, v_117, v_119, v_121] : List Value).toArray 45 (0, 0)), M_211, M_227] Z := hS
                  replace hm : Fr 107 a [(0, p0_0), (2, .bool false), (3, .pointer (some ⟨g_5, 0, none⟩)), (4, .pointer (some ⟨g_15, 0, none⟩)), (5, .int .i64 x_82)] := hm.keep [0, 2, 3, 4, 5]
                  exact x_then_n (hJ_j_151 (⟨t_205.2.1, t_205.2.2⟩ : wait_Calls) (⟨t_221.2.1, t_221.2.2⟩ : hocketref15_Calls) H _ _ ⟨v_213, v_217, v_229, v_233, N_240, M_215, M_219, M_231, M_235, hm, (Sep.sel hS [0, 1, 2, 3, 4, 5, 6, 1006] (by decide)), (le_162.trans (le_195.trans (le_208.trans (le_224.trans le_240)))), ((hr_214.mono (Mem.un_le le_208 ln_208)).mono (le_224.trans le_240)), ((hr_218.mono (Mem.un_le le_208 ln_208)).mono (le_224.trans le_240)), ((hr_230.mono (Mem.un_le le_224 ln_224)).mono le_240), ((hr_234.mono (Mem.un_le le_224 ln_224)).mono le_240)⟩)
                · rw [if_neg hc_241] at H
                  cases H
              · rw [if_neg hc_199] at H
                refine c_cond_f hm rfl (Bool.eq_false_iff.2 hc_199) ?_
                refine wp_seq ?_
                refine wp_region_lit ?_
                refine s_cmp (b := ((band .i64 t_126 7) == 5)) hm rfl rfl rfl (.inl ⟨rfl, rfl⟩) ?_
                clear hm a; intro a hm
                refine s_assign hm rfl rfl ?_
                clear hm a; intro a hm
                refine wpList_nil ?_
                replace hm : Fr 107 a [(0, p0_0), (2, .bool false), (3, .pointer (some ⟨g_5, 0, none⟩)), (4, .pointer (some ⟨g_15, 0, none⟩)), (5, .int .i64 x_82), (6, .pointer (some ⟨g_115, 0, none⟩)), (39, .int .i64 (band .i64 t_126 7)), (75, .bool ((band .i64 t_126 7) == 5))] := hm.keep [0, 2, 3, 4, 5, 6, 39, 75]
                refine x_then_n ?_
                by_cases hc_242 : (band .i64 t_126 7) = 5
                · rw [if_pos hc_242] at H
                  refine c_cond_t hm rfl (beq_iff_eq.2 hc_242) ?_
                  refine wp_seq ?_
                  refine wp_region_lit ?_
                  refine s_load hm rfl rfl (hS.load_agg (p := 7) (us := [.int .i64 x_116.Sess, .int .i64 x_116.Seq, .int .i64 x_116.Cmd.Kind, .int .i64 x_116.Cmd.Who, v_117, v_119, v_121]) rfl Try.underlying45 rfl ti45 rfl rfl) ?_
                  clear hm a; intro a hm
                  refine s_move hm rfl rfl ?_
                  clear hm a; intro a hm
                  refine s_build hm rfl ti28 pl28 rfl (.cons rfl .nil) (cs := [.int .i64 0, .slice none 0 0, .int .i64 x_82]) rfl ?_
                  clear hm a; intro a hm
                  refine s_build hm rfl ti51 pl51 rfl (.cons rfl (.cons rfl .nil)) (cs := [.int .i64 0, .int .i64 x_116.Sess, .int .i64 x_116.Seq, .int .i64 x_116.Cmd.Kind, .int .i64 x_116.Cmd.Who, v_117, v_119, v_121, .int .i64 0, .slice none 0 0, .int .i64 x_82]) rfl ?_
                  clear hm a; intro a hm
                  refine v_alloc hm rfl ti51 hS ?_
                  intro w_243 g_244 hS'
                  clear hm a; intro a hm
                  replace hS : Sep w0 w_243 [N_195, Mem.one g_5 (.cells ([v_86, v_90] : List Value).toArray 74 (0, 0)), M_84, M_88, Mem.one g_15 (.cells ([v_95, v_99] : List Value).toArray 63 (0, 0)), M_93, M_97, Mem.one g_115 (.cells ([.int .i64 x_116.Sess, .int .i64 x_116.Seq, .int .i64 x_116.Cmd.Kind, .int .i64 x_116.Cmd.Who, v_117, v_119, v_121] : List Value).toArray 45 (0, 0)), Mem.one g_244 (.cells ([.int .i64 0, .int .i64 0, .int .i64 0, .int .i64 0, .int .i64 0, .slice none 0 0, .slice none 0 0, .slice none 0 0, .int .i64 0, .slice none 0 0, .int .i64 0] : List Value).toArray 51 (0, 0))] Z := hS'
                  clear hS'
                  obtain ⟨w_245, hs', hS'⟩ := hS.store (P := Try.prog) (p := 8) (o := 0) (t := 51) (v := .agg ([.int .i64 0, .int .i64 x_116.Sess, .int .i64 x_116.Seq, .int .i64 x_116.Cmd.Kind, .int .i64 x_116.Cmd.Who, v_117, v_119, v_121, .int .i64 0, .slice none 0 0, .int .i64 x_82] : List Value).toArray) (vs := [.int .i64 0, .int .i64 x_116.Sess, .int .i64 x_116.Seq, .int .i64 x_116.Cmd.Kind, .int .i64 x_116.Cmd.Who, v_117, v_119, v_121, .int .i64 0, .slice none 0 0, .int .i64 x_82]) rfl ti51 rfl rfl rfl (by intro u hu; simp only [List.mem_cons, List.not_mem_nil, or_false] at hu; rcases hu with rfl | rfl | rfl | rfl | rfl | rfl | rfl | rfl | rfl | rfl | rfl <;> first | rfl | exact hr_118.one | exact hr_120.one | exact hr_122.one)
                  refine s_store hm rfl rfl hs' ?_
                  replace hS : Sep w0 w_245 [N_195, Mem.one g_5 (.cells ([v_86, v_90] : List Value).toArray 74 (0, 0)), M_84, M_88, Mem.one g_15 (.cells ([v_95, v_99] : List Value).toArray 63 (0, 0)), M_93, M_97, Mem.one g_115 (.cells ([.int .i64 x_116.Sess, .int .i64 x_116.Seq, .int .i64 x_116.Cmd.Kind, .int .i64 x_116.Cmd.Who, v_117, v_119, v_121] : List Value).toArray 45 (0, 0)), Mem.one g_244 (.cells ([.int .i64 0, .int .i64 x_116.Sess, .int .i64 x_116.Seq, .int .i64 x_116.Cmd.Kind, .int .i64 x_116.Cmd.Who, v_117, v_119, v_121, .int .i64 0, .slice none 0 0, .int .i64 x_82] : List Value).toArray 51 (0, 0))] Z := hS'
                  clear hs' hS'
                  refine wpList_nil ?_
                  replace hm : Fr 107 a [(0, p0_0), (2, .bool false), (3, .pointer (some ⟨g_5, 0, none⟩)), (4, .pointer (some ⟨g_15, 0, none⟩)), (5, .int .i64 x_82), (8, .pointer (some ⟨g_244, 0, none⟩))] := hm.keep [0, 2, 3, 4, 5, 8]
                  refine x_then_n ?_
                  refine c_seq fun KJ_246 hKJ_246 => ?_
                  refine h_begin (S := fun w => Sep w0 w [N_195, Mem.no, Mem.no, Mem.no, Mem.no, Mem.no, Mem.no, Mem.one g_115 (.cells ([.int .i64 x_116.Sess, .int .i64 x_116.Seq, .int .i64 x_116.Cmd.Kind, .int .i64 x_116.Cmd.Who, v_117, v_119, v_121] : List Value).toArray 45 (0, 0)), Mem.one g_244 (.cells ([.int .i64 0, .int .i64 x_116.Sess, .int .i64 x_116.Seq, .int .i64 x_116.Cmd.Kind, .int .i64 x_116.Cmd.Who, v_117, v_119, v_121, .int .i64 0, .slice none 0 0, .int .i64 x_82] : List Value).toArray 51 (0, 0))] Z) 7 (by kernel_rfl) rfl [false, false, false, false, false, false, false].toArray rfl hS fun w_247 hS => ?_
                  replace hS : Sep w0 w_247 [N_195, Mem.one g_5 (.cells ([v_86, v_90] : List Value).toArray 74 (0, 0)), M_84, M_88, Mem.one g_15 (.cells ([v_95, v_99] : List Value).toArray 63 (0, 0)), M_93, M_97, Mem.one g_115 (.cells ([.int .i64 x_116.Sess, .int .i64 x_116.Seq, .int .i64 x_116.Cmd.Kind, .int .i64 x_116.Cmd.Who, v_117, v_119, v_121] : List Value).toArray 45 (0, 0)), Mem.one g_244 (.cells ([.int .i64 0, .int .i64 x_116.Sess, .int .i64 x_116.Seq, .int .i64 x_116.Cmd.Kind, .int .i64 x_116.Cmd.Who, v_117, v_119, v_121, .int .i64 0, .slice none 0 0, .int .i64 x_82] : List Value).toArray 51 (0, 0))] Z := hS
                  refine h_take 0 [true, false, false, false, false, false, false].toArray rfl (by kernel_rfl) (by kernel_rfl) (by kernel_rfl) (fun _ _ _ _ h => h) rfl rfl rfl rfl hm (hS.sub (.cons (Mem.le.refl _) (.cons (Mem.no_le _) (.cons (Mem.no_le _) (.cons (Mem.no_le _) (.cons (Mem.no_le _) (.cons (Mem.no_le _) (.cons (Mem.no_le _) (.cons (Mem.le.refl _) (.cons (Mem.le.refl _) (Sub.nil _))))))))))) (v := .pointer (some ⟨g_5, 0, none⟩)) (fun w hS => r_move hm rfl) ?_
                  clear hm a; intro a hm
                  refine h_take 1 [true, true, false, false, false, false, false].toArray rfl (by kernel_rfl) (by kernel_rfl) (by kernel_rfl) (fun _ _ _ _ h => h) rfl rfl rfl rfl hm (hS.sub (.cons (Mem.le.refl _) (.cons (Mem.no_le _) (.cons (Mem.no_le _) (.cons (Mem.no_le _) (.cons (Mem.no_le _) (.cons (Mem.no_le _) (.cons (Mem.no_le _) (.cons (Mem.le.refl _) (.cons (Mem.le.refl _) (Sub.nil _))))))))))) (v := .agg ([.int .i64 0, .int .i64 x_116.Sess, .int .i64 x_116.Seq, .int .i64 x_116.Cmd.Kind, .int .i64 x_116.Cmd.Who, v_117, v_119, v_121, .int .i64 0, .slice none 0 0, .int .i64 x_82] : List Value).toArray) (fun w hS => r_load hm rfl (hS.load_agg (p := 8) (us := [.int .i64 0, .int .i64 x_116.Sess, .int .i64 x_116.Seq, .int .i64 x_116.Cmd.Kind, .int .i64 x_116.Cmd.Who, v_117, v_119, v_121, .int .i64 0, .slice none 0 0, .int .i64 x_82]) rfl Try.underlying51 rfl ti51 rfl rfl)) ?_
                  clear hm a; intro a hm
                  refine h_take 3 [true, true, false, true, false, false, false].toArray rfl (by kernel_rfl) (by kernel_rfl) (by kernel_rfl) (fun _ _ _ _ h => h) rfl rfl rfl rfl hm (hS.sub (.cons (Mem.le.refl _) (.cons (Mem.no_le _) (.cons (Mem.no_le _) (.cons (Mem.no_le _) (.cons (Mem.no_le _) (.cons (Mem.no_le _) (.cons (Mem.no_le _) (.cons (Mem.le.refl _) (.cons (Mem.le.refl _) (Sub.nil _))))))))))) (v := .pointer (some ⟨g_15, 0, none⟩)) (fun w hS => r_move hm rfl) ?_
                  clear hm a; intro a hm
                  refine h_take 4 [true, true, false, true, true, false, false].toArray rfl (by kernel_rfl) (by kernel_rfl) (by kernel_rfl) (fun _ _ _ _ h => h) rfl rfl rfl rfl hm (hS.sub (.cons (Mem.le.refl _) (.cons (Mem.no_le _) (.cons (Mem.no_le _) (.cons (Mem.no_le _) (.cons (Mem.no_le _) (.cons (Mem.no_le _) (.cons (Mem.no_le _) (.cons (Mem.le.refl _) (.cons (Mem.le.refl _) (Sub.nil _))))))))))) (v := .agg ([.int .i64 0, .int .i64 x_116.Sess, .int .i64 x_116.Seq, .int .i64 x_116.Cmd.Kind, .int .i64 x_116.Cmd.Who, v_117, v_119, v_121, .int .i64 0, .slice none 0 0, .int .i64 x_82] : List Value).toArray) (fun w hS => r_load hm rfl (hS.load_agg (p := 8) (us := [.int .i64 0, .int .i64 x_116.Sess, .int .i64 x_116.Seq, .int .i64 x_116.Cmd.Kind, .int .i64 x_116.Cmd.Who, v_117, v_119, v_121, .int .i64 0, .slice none 0 0, .int .i64 x_82]) rfl Try.underlying51 rfl ti51 rfl rfl)) ?_
                  clear hm a; intro a hm
                  refine h_event 2 [true, true, true, true, true, false, false].toArray rfl (by kernel_rfl) rfl ?_
                  obtain ⟨t_248, et_248, H⟩ := Option.bind_eq_some_iff.1 H
                  refine s_call hm rfl Try.call25 rfl (wait_Calls_Done.calls K _ x_83.l _ _ x_83.done _ _ (⟨0, x_116, (⟨0, ([] : List UInt8), x_82⟩ : api_Result)⟩ : api_Done) _ _ _ _ t_248 w0 _ _ N_195 (hS.new_zed [0, 1, 2]) (hS.enter [0, 1, 2] (by decide)) (ho_87.mono (le_107.trans (le_114.trans (le_162.trans le_195)))) (ho_91.mono (le_107.trans (le_114.trans (le_162.trans le_195)))) (hr_118.mono (le_162.trans le_195)) (hr_120.mono (le_162.trans le_195)) (hr_122.mono (le_162.trans le_195)) (Rd.nil _ _) et_248) ?_
                  rintro _ w_249 ⟨v_252, v_256, N_250, M_254, M_258, rfl, hS', hr_253, hr_257⟩
                  clear hm a; intro a hm
                  obtain ⟨N_251, hS'', le_251, ln_251⟩ := hS.call [0, 1, 2] (by decide) rfl (l' := [Mem.one g_5 (.cells ([v_252, v_256] : List Value).toArray 74 (0, 0)), M_254, M_258]) (ow := []) rfl hS'
                  replace hS : Sep w0 w_249 [N_251, Mem.one g_5 (.cells ([v_252, v_256] : List Value).toArray 74 (0, 0)), M_254, M_258, Mem.one g_15 (.cells ([v_95, v_99] : List Value).toArray 63 (0, 0)), M_93, M_97, Mem.one g_115 (.cells ([.int .i64 x_116.Sess, .int .i64 x_116.Seq, .int .i64 x_116.Cmd.Kind, .int .i64 x_116.Cmd.Who, v_117, v_119, v_121] : List Value).toArray 45 (0, 0)), Mem.one g_244 (.cells ([.int .i64 0, .int .i64 x_116.Sess, .int .i64 x_116.Seq, .int .i64 x_116.Cmd.Kind, .int .i64 x_116.Cmd.Who, v_117, v_119, v_121, .int .i64 0, .slice none 0 0, .int .i64 x_82] : List Value).toArray 51 (0, 0))] Z := hS''
                  clear hS' hS''
                  refine wpList_nil ?_
                  refine x_then_n ⟨(hS.sub (.cons le_251 (.cons (Mem.no_le _) (.cons (Mem.no_le _) (.cons (Mem.no_le _) (.cons (Mem.no_le _) (.cons (Mem.no_le _) (.cons (Mem.no_le _) (.cons (Mem.le.refl _) (.cons (Mem.le.refl _) (Sub.nil _))))))))))), ?_⟩
                  refine h_event 5 [true, true, true, true, true, true, false].toArray rfl (by kernel_rfl) rfl ?_
                  obtain ⟨t_260, et_260, H⟩ := Option.bind_eq_some_iff.1 H
                  refine s_call hm rfl Try.call34 rfl (hocketref15_Calls_Done.calls K _ x_92.l _ _ x_92.r _ _ (⟨0, x_116, (⟨0, ([] : List UInt8), x_82⟩ : api_Result)⟩ : api_Done) _ _ _ _ t_260 w0 _ _ N_251 (hS.new_zed [3, 4, 5]) (hS.enter [3, 4, 5] (by decide)) (ho_96.mono (le_107.trans (le_114.trans (le_162.trans (le_195.trans le_251))))) (ho_100.mono (le_107.trans (le_114.trans (le_162.trans (le_195.trans le_251))))) (hr_118.mono (le_162.trans (le_195.trans le_251))) (hr_120.mono (le_162.trans (le_195.trans le_251))) (hr_122.mono (le_162.trans (le_195.trans le_251))) (Rd.nil _ _) et_260) ?_
                  rintro _ w_261 ⟨v_264, v_268, N_262, M_266, M_270, rfl, hS', hr_265, hr_269⟩
                  clear hm a; intro a hm
                  obtain ⟨N_263, hS'', le_263, ln_263⟩ := hS.call [3, 4, 5] (by decide) rfl (l' := [Mem.one g_15 (.cells ([v_264, v_268] : List Value).toArray 63 (0, 0)), M_266, M_270]) (ow := []) rfl hS'
                  replace hS : Sep w0 w_261 [N_263, Mem.one g_5 (.cells ([v_252, v_256] : List Value).toArray 74 (0, 0)), M_254, M_258, Mem.one g_15 (.cells ([v_264, v_268] : List Value).toArray 63 (0, 0)), M_266, M_270, Mem.one g_115 (.cells ([.int .i64 x_116.Sess, .int .i64 x_116.Seq, .int .i64 x_116.Cmd.Kind, .int .i64 x_116.Cmd.Who, v_117, v_119, v_121] : List Value).toArray 45 (0, 0)), Mem.one g_244 (.cells ([.int .i64 0, .int .i64 x_116.Sess, .int .i64 x_116.Seq, .int .i64 x_116.Cmd.Kind, .int .i64 x_116.Cmd.Who, v_117, v_119, v_121, .int .i64 0, .slice none 0 0, .int .i64 x_82] : List Value).toArray 51 (0, 0))] Z := hS''
                  clear hS' hS''
                  refine wpList_nil ?_
                  refine x_then_n ⟨(hS.sub (.cons (le_251.trans le_263) (.cons (Mem.no_le _) (.cons (Mem.no_le _) (.cons (Mem.no_le _) (.cons (Mem.no_le _) (.cons (Mem.no_le _) (.cons (Mem.no_le _) (.cons (Mem.le.refl _) (.cons (Mem.le.refl _) (Sub.nil _))))))))))), ?_⟩
                  refine h_take 6 [true, true, true, true, true, true, true].toArray rfl (by kernel_rfl) (by kernel_rfl) (by kernel_rfl) (fun _ _ _ _ h => h) rfl rfl rfl rfl hm (hS.sub (.cons (le_251.trans le_263) (.cons (Mem.no_le _) (.cons (Mem.no_le _) (.cons (Mem.no_le _) (.cons (Mem.no_le _) (.cons (Mem.no_le _) (.cons (Mem.no_le _) (.cons (Mem.le.refl _) (.cons (Mem.le.refl _) (Sub.nil _))))))))))) (v := .bool (!(t_248.1 == t_260.1))) (fun w hS => r_beq (b := !(t_248.1 == t_260.1)) hm Try.underlying4 rfl rfl (.inr ⟨rfl, rfl⟩)) ?_
                  clear hm a; intro a hm
                  refine h_done (by kernel_rfl) ?_
                  replace hm : Fr 107 a [(0, p0_0), (2, .bool false), (3, .pointer (some ⟨g_5, 0, none⟩)), (4, .pointer (some ⟨g_15, 0, none⟩)), (5, .int .i64 x_82), (87, .bool (!(t_248.1 == t_260.1)))] := hm.keep [0, 2, 3, 4, 5, 87]
                  refine x_then_n (hKJ_246 _ _ ?_)
                  by_cases hc_272 : t_248.1 = t_260.1
                  · rw [if_pos hc_272] at H
                    refine c_cond_f hm rfl (nf (beq_iff_eq.2 hc_272)) ?_
                    refine wp_skip ?_
                    refine x_block_n ?_
                    replace hS : Sep w0 w_261 [N_263, Mem.one g_5 (.cells ([v_252, v_256] : List Value).toArray 74 (0, 0)), M_254, M_258, Mem.one g_15 (.cells ([v_264, v_268] : List Value).toArray 63 (0, 0)), M_266, M_270, Mem.one g_115 (.cells ([.int .i64 x_116.Sess, .int .i64 x_116.Seq, .int .i64 x_116.Cmd.Kind, .int .i64 x_116.Cmd.Who, v_117, v_119, v_121] : List Value).toArray 45 (0, 0)), Mem.one g_244 (.cells ([.int .i64 0, .int .i64 x_116.Sess, .int .i64 x_116.Seq, .int .i64 x_116.Cmd.Kind, .int .i64 x_116.Cmd.Who, v_117, v_119, v_121, .int .i64 0, .slice none 0 0, .int .i64 x_82] : List Value).toArray 51 (0, 0))] Z := hS
                    replace hm : Fr 107 a [(0, p0_0), (2, .bool false), (3, .pointer (some ⟨g_5, 0, none⟩)), (4, .pointer (some ⟨g_15, 0, none⟩)), (5, .int .i64 x_82)] := hm.keep [0, 2, 3, 4, 5]
                    exact x_then_n (hJ_j_151 (⟨t_248.2.1, t_248.2.2⟩ : wait_Calls) (⟨t_260.2.1, t_260.2.2⟩ : hocketref15_Calls) H _ _ ⟨v_252, v_256, v_264, v_268, N_263, M_254, M_258, M_266, M_270, hm, (Sep.sel hS [0, 1, 2, 3, 4, 5, 6, 1006] (by decide)), (le_162.trans (le_195.trans (le_251.trans le_263))), ((hr_253.mono (Mem.un_le le_251 ln_251)).mono le_263), ((hr_257.mono (Mem.un_le le_251 ln_251)).mono le_263), ((hr_265.mono (Mem.un_le le_263 ln_263)).mono (Mem.le.refl _)), ((hr_269.mono (Mem.un_le le_263 ln_263)).mono (Mem.le.refl _))⟩)
                  · rw [if_neg hc_272] at H
                    cases H
                · rw [if_neg hc_242] at H
                  refine c_cond_f hm rfl (beq_eq_false_iff_ne.2 hc_242) ?_
                  refine wp_seq ?_
                  refine wp_region_lit ?_
                  refine s_cmp (b := ((band .i64 t_126 7) == 6)) hm rfl rfl rfl (.inl ⟨rfl, rfl⟩) ?_
                  clear hm a; intro a hm
                  refine s_assign hm rfl rfl ?_
                  clear hm a; intro a hm
                  refine wpList_nil ?_
                  replace hm : Fr 107 a [(0, p0_0), (2, .bool false), (3, .pointer (some ⟨g_5, 0, none⟩)), (4, .pointer (some ⟨g_15, 0, none⟩)), (5, .int .i64 x_82), (88, .bool ((band .i64 t_126 7) == 6))] := hm.keep [0, 2, 3, 4, 5, 88]
                  refine x_then_n ?_
                  by_cases hc_273 : (band .i64 t_126 7) = 6
                  · rw [if_pos hc_273] at H
                    refine c_cond_t hm rfl (beq_iff_eq.2 hc_273) ?_
                    refine wp_seq ?_
                    refine wp_region_lit ?_
                    refine s_move hm rfl rfl ?_
                    clear hm a; intro a hm
                    obtain ⟨t_274, et_274, H⟩ := Option.bind_eq_some_iff.1 H
                    refine s_call hm rfl Try.call30 rfl (wait_Calls_Again.calls K _ x_83.l _ _ x_83.done _ _ t_274 w0 _ _ N_195 (hS.new_zed [0, 1, 2]) (hS.enter [0, 1, 2] (by decide)) (ho_87.mono (le_107.trans (le_114.trans (le_162.trans le_195)))) (ho_91.mono (le_107.trans (le_114.trans (le_162.trans le_195)))) et_274) ?_
                    rintro _ w_275 ⟨v_278, v_282, N_276, M_280, M_284, rfl, hS', hr_279, hr_283⟩
                    clear hm a; intro a hm
                    obtain ⟨N_277, hS'', le_277, ln_277⟩ := hS.call [0, 1, 2] (by decide) rfl (l' := [Mem.one g_5 (.cells ([v_278, v_282] : List Value).toArray 74 (0, 0)), M_280, M_284]) (ow := []) rfl hS'
                    replace hS : Sep w0 w_275 [N_277, Mem.one g_5 (.cells ([v_278, v_282] : List Value).toArray 74 (0, 0)), M_280, M_284, Mem.one g_15 (.cells ([v_95, v_99] : List Value).toArray 63 (0, 0)), M_93, M_97, Mem.one g_115 (.cells ([.int .i64 x_116.Sess, .int .i64 x_116.Seq, .int .i64 x_116.Cmd.Kind, .int .i64 x_116.Cmd.Who, v_117, v_119, v_121] : List Value).toArray 45 (0, 0))] Z := hS''
                    clear hS' hS''
                    refine wpList_nil ?_
                    replace hm : Fr 107 a [(0, p0_0), (2, .bool false), (3, .pointer (some ⟨g_5, 0, none⟩)), (4, .pointer (some ⟨g_15, 0, none⟩)), (5, .int .i64 x_82)] := hm.keep [0, 2, 3, 4, 5]
                    refine x_then_n ?_
                    refine wp_region_lit ?_
                    refine s_move hm rfl rfl ?_
                    clear hm a; intro a hm
                    obtain ⟨t_286, et_286, H⟩ := Option.bind_eq_some_iff.1 H
                    refine s_call hm rfl Try.call35 rfl (hocketref15_Calls_Again.calls K _ x_92.l _ _ x_92.r _ _ t_286 w0 _ _ N_277 (hS.new_zed [3, 4, 5]) (hS.enter [3, 4, 5] (by decide)) (ho_96.mono (le_107.trans (le_114.trans (le_162.trans (le_195.trans le_277))))) (ho_100.mono (le_107.trans (le_114.trans (le_162.trans (le_195.trans le_277))))) et_286) ?_
                    rintro _ w_287 ⟨v_290, v_294, N_288, M_292, M_296, rfl, hS', hr_291, hr_295⟩
                    clear hm a; intro a hm
                    obtain ⟨N_289, hS'', le_289, ln_289⟩ := hS.call [3, 4, 5] (by decide) rfl (l' := [Mem.one g_15 (.cells ([v_290, v_294] : List Value).toArray 63 (0, 0)), M_292, M_296]) (ow := []) rfl hS'
                    replace hS : Sep w0 w_287 [N_289, Mem.one g_5 (.cells ([v_278, v_282] : List Value).toArray 74 (0, 0)), M_280, M_284, Mem.one g_15 (.cells ([v_290, v_294] : List Value).toArray 63 (0, 0)), M_292, M_296, Mem.one g_115 (.cells ([.int .i64 x_116.Sess, .int .i64 x_116.Seq, .int .i64 x_116.Cmd.Kind, .int .i64 x_116.Cmd.Who, v_117, v_119, v_121] : List Value).toArray 45 (0, 0))] Z := hS''
                    clear hS' hS''
                    refine wpList_nil ?_
                    replace hm : Fr 107 a [(0, p0_0), (2, .bool false), (3, .pointer (some ⟨g_5, 0, none⟩)), (4, .pointer (some ⟨g_15, 0, none⟩)), (5, .int .i64 x_82)] := hm.keep [0, 2, 3, 4, 5]
                    refine x_block_n ?_
                    replace hS : Sep w0 w_287 [N_289, Mem.one g_5 (.cells ([v_278, v_282] : List Value).toArray 74 (0, 0)), M_280, M_284, Mem.one g_15 (.cells ([v_290, v_294] : List Value).toArray 63 (0, 0)), M_292, M_296, Mem.one g_115 (.cells ([.int .i64 x_116.Sess, .int .i64 x_116.Seq, .int .i64 x_116.Cmd.Kind, .int .i64 x_116.Cmd.Who, v_117, v_119, v_121] : List Value).toArray 45 (0, 0))] Z := hS
                    replace hm : Fr 107 a [(0, p0_0), (2, .bool false), (3, .pointer (some ⟨g_5, 0, none⟩)), (4, .pointer (some ⟨g_15, 0, none⟩)), (5, .int .i64 x_82)] := hm.keep [0, 2, 3, 4, 5]
                    exact x_then_n (hJ_j_151 (⟨t_274.1, t_274.2⟩ : wait_Calls) (⟨t_286.1, t_286.2⟩ : hocketref15_Calls) H _ _ ⟨v_278, v_282, v_290, v_294, N_289, M_280, M_284, M_292, M_296, hm, (Sep.sel hS [0, 1, 2, 3, 4, 5, 6, 1006] (by decide)), (le_162.trans (le_195.trans (le_277.trans le_289))), ((hr_279.mono (Mem.un_le le_277 ln_277)).mono le_289), ((hr_283.mono (Mem.un_le le_277 ln_277)).mono le_289), ((hr_291.mono (Mem.un_le le_289 ln_289)).mono (Mem.le.refl _)), ((hr_295.mono (Mem.un_le le_289 ln_289)).mono (Mem.le.refl _))⟩)
                  · rw [if_neg hc_273] at H
                    refine c_cond_f hm rfl (beq_eq_false_iff_ne.2 hc_273) ?_
                    refine wp_seq ?_
                    refine wp_region_lit ?_
                    refine s_move hm rfl rfl ?_
                    clear hm a; intro a hm
                    obtain ⟨t_298, et_298, H⟩ := Option.bind_eq_some_iff.1 H
                    refine s_call hm rfl Try.call26 rfl (wait_Calls_Take.calls _ x_83.l _ _ x_83.done _ _ t_298 w0 _ _ N_195 (hS.new_zed [0, 1, 2]) (hS.enter [0, 1, 2] (by decide)) (ho_87.mono (le_107.trans (le_114.trans (le_162.trans le_195)))) (ho_91.mono (le_107.trans (le_114.trans (le_162.trans le_195)))) et_298) ?_
                    rintro v_302 w_299 ⟨_, v_306, v_310, N_300, M_304, M_308, M_312, rfl, hS', hr_303, hr_307, hr_311⟩
                    clear hm a; intro a hm
                    obtain ⟨N_301, hS'', le_301, ln_301⟩ := hS.call [0, 1, 2] (by decide) rfl (l' := [Mem.one g_5 (.cells ([v_306, v_310] : List Value).toArray 74 (0, 0)), M_308, M_312]) (ow := [M_304]) rfl hS'
                    replace hS : Sep w0 w_299 [N_301, Mem.one g_5 (.cells ([v_306, v_310] : List Value).toArray 74 (0, 0)), M_308, M_312, Mem.one g_15 (.cells ([v_95, v_99] : List Value).toArray 63 (0, 0)), M_93, M_97, Mem.one g_115 (.cells ([.int .i64 x_116.Sess, .int .i64 x_116.Seq, .int .i64 x_116.Cmd.Kind, .int .i64 x_116.Cmd.Who, v_117, v_119, v_121] : List Value).toArray 45 (0, 0)), M_304] Z := hS''
                    clear hS' hS''
                    refine s_move hm rfl rfl ?_
                    clear hm a; intro a hm
                    obtain ⟨t_314, et_314, H⟩ := Option.bind_eq_some_iff.1 H
                    refine s_call hm rfl Try.call37 rfl (hocketref15_Calls_Take.calls _ x_92.l _ _ x_92.r _ _ t_314 w0 _ _ N_301 (hS.new_zed [3, 4, 5]) (hS.enter [3, 4, 5] (by decide)) (ho_96.mono (le_107.trans (le_114.trans (le_162.trans (le_195.trans le_301))))) (ho_100.mono (le_107.trans (le_114.trans (le_162.trans (le_195.trans le_301))))) et_314) ?_
                    rintro v_318 w_315 ⟨_, v_322, v_326, N_316, M_320, M_324, M_328, rfl, hS', hr_319, hr_323, hr_327⟩
                    clear hm a; intro a hm
                    obtain ⟨N_317, hS'', le_317, ln_317⟩ := hS.call [3, 4, 5] (by decide) rfl (l' := [Mem.one g_15 (.cells ([v_322, v_326] : List Value).toArray 63 (0, 0)), M_324, M_328]) (ow := [M_320]) rfl hS'
                    replace hS : Sep w0 w_315 [N_317, Mem.one g_5 (.cells ([v_306, v_310] : List Value).toArray 74 (0, 0)), M_308, M_312, Mem.one g_15 (.cells ([v_322, v_326] : List Value).toArray 63 (0, 0)), M_324, M_328, Mem.one g_115 (.cells ([.int .i64 x_116.Sess, .int .i64 x_116.Seq, .int .i64 x_116.Cmd.Kind, .int .i64 x_116.Cmd.Who, v_117, v_119, v_121] : List Value).toArray 45 (0, 0)), M_304, M_320] Z := hS''
                    clear hS' hS''
                    obtain ⟨t_330, et_330, H⟩ := Option.bind_eq_some_iff.1 H
                    refine s_call hm rfl Try.call36 rfl (hocketref15_SameReplies.calls K t_298.1 _ t_314.1 _ t_330 w0 _ _ _ (Mem.le.refl _) (hS.enter [] (by decide)) ((hr_303.mono (Mem.un_le le_301 ln_301)).rd (hS.own_zed [] 7 (by decide)) (le_317.trans (hS.new_zed []))) ((hr_319.mono (Mem.un_le le_317 ln_317)).rd (hS.own_zed [] 8 (by decide)) ((Mem.le.refl _).trans (hS.new_zed []))) et_330) ?_
                    rintro _ w_331 ⟨N_332, rfl, hS'⟩
                    clear hm a; intro a hm
                    obtain ⟨N_333, hS'', le_333, ln_333⟩ := hS.call [] (by decide) rfl (l' := []) (ow := []) rfl hS'
                    replace hS : Sep w0 w_331 [N_333, Mem.one g_5 (.cells ([v_306, v_310] : List Value).toArray 74 (0, 0)), M_308, M_312, Mem.one g_15 (.cells ([v_322, v_326] : List Value).toArray 63 (0, 0)), M_324, M_328, Mem.one g_115 (.cells ([.int .i64 x_116.Sess, .int .i64 x_116.Seq, .int .i64 x_116.Cmd.Kind, .int .i64 x_116.Cmd.Who, v_117, v_119, v_121] : List Value).toArray 45 (0, 0)), M_304, M_320] Z := hS''
                    clear hS' hS''
                    refine s_not hm rfl rfl ?_
                    clear hm a; intro a hm
                    refine wpList_nil ?_
                    replace hm : Fr 107 a [(0, p0_0), (2, .bool false), (3, .pointer (some ⟨g_5, 0, none⟩)), (4, .pointer (some ⟨g_15, 0, none⟩)), (5, .int .i64 x_82), (45, .bool (!t_330))] := hm.keep [0, 2, 3, 4, 5, 45]
                    refine x_then_n ?_
                    by_cases hc_334 : t_330 = true
                    · rw [if_pos hc_334] at H
                      refine c_cond_f hm rfl (nf hc_334) ?_
                      refine wp_skip ?_
                      refine x_block_n ?_
                      replace hS : Sep w0 w_331 [N_333, Mem.one g_5 (.cells ([v_306, v_310] : List Value).toArray 74 (0, 0)), M_308, M_312, Mem.one g_15 (.cells ([v_322, v_326] : List Value).toArray 63 (0, 0)), M_324, M_328, Mem.one g_115 (.cells ([.int .i64 x_116.Sess, .int .i64 x_116.Seq, .int .i64 x_116.Cmd.Kind, .int .i64 x_116.Cmd.Who, v_117, v_119, v_121] : List Value).toArray 45 (0, 0)), M_304, M_320] Z := hS
                      replace hm : Fr 107 a [(0, p0_0), (2, .bool false), (3, .pointer (some ⟨g_5, 0, none⟩)), (4, .pointer (some ⟨g_15, 0, none⟩)), (5, .int .i64 x_82)] := hm.keep [0, 2, 3, 4, 5]
                      exact x_then_n (hJ_j_151 (⟨t_298.2.1, t_298.2.2⟩ : wait_Calls) (⟨t_314.2.1, t_314.2.2⟩ : hocketref15_Calls) H _ _ ⟨v_306, v_310, v_322, v_326, N_333, M_308, M_312, M_324, M_328, hm, (Sep.sel hS [0, 1, 2, 3, 4, 5, 6, 1006] (by decide)), (le_162.trans (le_195.trans (le_301.trans (le_317.trans le_333)))), ((hr_307.mono (Mem.un_le le_301 ln_301)).mono (le_317.trans le_333)), ((hr_311.mono (Mem.un_le le_301 ln_301)).mono (le_317.trans le_333)), ((hr_323.mono (Mem.un_le le_317 ln_317)).mono le_333), ((hr_327.mono (Mem.un_le le_317 ln_317)).mono le_333)⟩)
                    · rw [if_neg hc_334] at H
                      cases H
            clear hKJ_194
            by_cases hc_335 : (band .i64 t_126 7) = 3
            · rw [if_pos hc_335] at H
              refine c_cond_t hm rfl (beq_iff_eq.2 hc_335) ?_
              refine wp_skip ?_
              replace hS : Sep w0 w_164 [N_162, Mem.one g_5 (.cells ([v_86, v_90] : List Value).toArray 74 (0, 0)), M_84, M_88, Mem.one g_15 (.cells ([v_95, v_99] : List Value).toArray 63 (0, 0)), M_93, M_97, Mem.one g_115 (.cells ([.int .i64 x_116.Sess, .int .i64 x_116.Seq, .int .i64 x_116.Cmd.Kind, .int .i64 x_116.Cmd.Who, v_117, v_119, v_121] : List Value).toArray 45 (0, 0))] Z := hS
              replace hm : Fr 107 a [(0, p0_0), (2, .bool false), (3, .pointer (some ⟨g_5, 0, none⟩)), (4, .pointer (some ⟨g_15, 0, none⟩)), (5, .int .i64 x_82), (6, .pointer (some ⟨g_115, 0, none⟩)), (39, .int .i64 (band .i64 t_126 7)), (57, .bool ((band .i64 t_126 7) == 3))] := hm.keep [0, 2, 3, 4, 5, 6, 39, 57]
              exact x_then_n (hJ_j_198 ((band .i64 t_126 7) == 3) H _ _ ⟨N_162, hm, (Sep.sel hS [0, 1, 2, 3, 4, 5, 6, 7] (by decide)), (Mem.le.refl _)⟩)
            · rw [if_neg hc_335] at H
              refine c_cond_f hm rfl (beq_eq_false_iff_ne.2 hc_335) ?_
              refine wp_region_lit ?_
              refine s_cmp (b := ((band .i64 t_126 7) == 4)) hm rfl rfl rfl (.inl ⟨rfl, rfl⟩) ?_
              clear hm a; intro a hm
              refine s_assign hm rfl rfl ?_
              clear hm a; intro a hm
              refine wpList_nil ?_
              replace hm : Fr 107 a [(0, p0_0), (2, .bool false), (3, .pointer (some ⟨g_5, 0, none⟩)), (4, .pointer (some ⟨g_15, 0, none⟩)), (5, .int .i64 x_82), (6, .pointer (some ⟨g_115, 0, none⟩)), (39, .int .i64 (band .i64 t_126 7)), (57, .bool ((band .i64 t_126 7) == 4))] := hm.keep [0, 2, 3, 4, 5, 6, 39, 57]
              replace hS : Sep w0 w_164 [N_162, Mem.one g_5 (.cells ([v_86, v_90] : List Value).toArray 74 (0, 0)), M_84, M_88, Mem.one g_15 (.cells ([v_95, v_99] : List Value).toArray 63 (0, 0)), M_93, M_97, Mem.one g_115 (.cells ([.int .i64 x_116.Sess, .int .i64 x_116.Seq, .int .i64 x_116.Cmd.Kind, .int .i64 x_116.Cmd.Who, v_117, v_119, v_121] : List Value).toArray 45 (0, 0))] Z := hS
              replace hm : Fr 107 a [(0, p0_0), (2, .bool false), (3, .pointer (some ⟨g_5, 0, none⟩)), (4, .pointer (some ⟨g_15, 0, none⟩)), (5, .int .i64 x_82), (6, .pointer (some ⟨g_115, 0, none⟩)), (39, .int .i64 (band .i64 t_126 7)), (57, .bool ((band .i64 t_126 7) == 4))] := hm.keep [0, 2, 3, 4, 5, 6, 39, 57]
              exact x_then_n (hJ_j_198 ((band .i64 t_126 7) == 4) H _ _ ⟨N_162, hm, (Sep.sel hS [0, 1, 2, 3, 4, 5, 6, 7] (by decide)), (Mem.le.refl _)⟩)
        clear hKJ_161
        by_cases hc_336 : (band .i64 t_126 7) = 0
        · rw [if_pos hc_336] at H
          refine c_cond_t hm rfl (beq_iff_eq.2 hc_336) ?_
          refine wp_skip ?_
          replace hS : Sep w0 w_123 [N_114, Mem.one g_5 (.cells ([v_86, v_90] : List Value).toArray 74 (0, 0)), M_84, M_88, Mem.one g_15 (.cells ([v_95, v_99] : List Value).toArray 63 (0, 0)), M_93, M_97, Mem.one g_115 (.cells ([.int .i64 x_116.Sess, .int .i64 x_116.Seq, .int .i64 x_116.Cmd.Kind, .int .i64 x_116.Cmd.Who, v_117, v_119, v_121] : List Value).toArray 45 (0, 0))] Z := hS
          replace hm : Fr 107 a [(0, p0_0), (2, .bool false), (3, .pointer (some ⟨g_5, 0, none⟩)), (4, .pointer (some ⟨g_15, 0, none⟩)), (5, .int .i64 x_82), (6, .pointer (some ⟨g_115, 0, none⟩)), (39, .int .i64 (band .i64 t_126 7)), (46, .bool ((band .i64 t_126 7) == 0))] := hm.keep [0, 2, 3, 4, 5, 6, 39, 46]
          exact x_then_n (hJ_j_165 ((band .i64 t_126 7) == 0) H _ _ ⟨N_114, hm, (Sep.sel hS [0, 1, 2, 3, 4, 5, 6, 7] (by decide)), (Mem.le.refl _)⟩)
        · rw [if_neg hc_336] at H
          refine c_cond_f hm rfl (beq_eq_false_iff_ne.2 hc_336) ?_
          refine wp_seq ?_
          refine wp_region_lit ?_
          refine s_cmp (b := ((band .i64 t_126 7) == 1)) hm rfl rfl rfl (.inl ⟨rfl, rfl⟩) ?_
          clear hm a; intro a hm
          refine s_assign hm rfl rfl ?_
          clear hm a; intro a hm
          refine wpList_nil ?_
          replace hm : Fr 107 a [(0, p0_0), (2, .bool false), (3, .pointer (some ⟨g_5, 0, none⟩)), (4, .pointer (some ⟨g_15, 0, none⟩)), (5, .int .i64 x_82), (6, .pointer (some ⟨g_115, 0, none⟩)), (39, .int .i64 (band .i64 t_126 7)), (46, .bool ((band .i64 t_126 7) == 1))] := hm.keep [0, 2, 3, 4, 5, 6, 39, 46]
          refine x_then_n ?_
          by_cases hc_337 : (band .i64 t_126 7) = 1
          · rw [if_pos hc_337] at H
            refine c_cond_t hm rfl (beq_iff_eq.2 hc_337) ?_
            refine wp_skip ?_
            replace hS : Sep w0 w_123 [N_114, Mem.one g_5 (.cells ([v_86, v_90] : List Value).toArray 74 (0, 0)), M_84, M_88, Mem.one g_15 (.cells ([v_95, v_99] : List Value).toArray 63 (0, 0)), M_93, M_97, Mem.one g_115 (.cells ([.int .i64 x_116.Sess, .int .i64 x_116.Seq, .int .i64 x_116.Cmd.Kind, .int .i64 x_116.Cmd.Who, v_117, v_119, v_121] : List Value).toArray 45 (0, 0))] Z := hS
            replace hm : Fr 107 a [(0, p0_0), (2, .bool false), (3, .pointer (some ⟨g_5, 0, none⟩)), (4, .pointer (some ⟨g_15, 0, none⟩)), (5, .int .i64 x_82), (6, .pointer (some ⟨g_115, 0, none⟩)), (39, .int .i64 (band .i64 t_126 7)), (46, .bool ((band .i64 t_126 7) == 1))] := hm.keep [0, 2, 3, 4, 5, 6, 39, 46]
            exact x_then_n (hJ_j_165 ((band .i64 t_126 7) == 1) H _ _ ⟨N_114, hm, (Sep.sel hS [0, 1, 2, 3, 4, 5, 6, 7] (by decide)), (Mem.le.refl _)⟩)
          · rw [if_neg hc_337] at H
            refine c_cond_f hm rfl (beq_eq_false_iff_ne.2 hc_337) ?_
            refine wp_region_lit ?_
            refine s_cmp (b := ((band .i64 t_126 7) == 2)) hm rfl rfl rfl (.inl ⟨rfl, rfl⟩) ?_
            clear hm a; intro a hm
            refine s_assign hm rfl rfl ?_
            clear hm a; intro a hm
            refine wpList_nil ?_
            replace hm : Fr 107 a [(0, p0_0), (2, .bool false), (3, .pointer (some ⟨g_5, 0, none⟩)), (4, .pointer (some ⟨g_15, 0, none⟩)), (5, .int .i64 x_82), (6, .pointer (some ⟨g_115, 0, none⟩)), (39, .int .i64 (band .i64 t_126 7)), (46, .bool ((band .i64 t_126 7) == 2))] := hm.keep [0, 2, 3, 4, 5, 6, 39, 46]
            replace hS : Sep w0 w_123 [N_114, Mem.one g_5 (.cells ([v_86, v_90] : List Value).toArray 74 (0, 0)), M_84, M_88, Mem.one g_15 (.cells ([v_95, v_99] : List Value).toArray 63 (0, 0)), M_93, M_97, Mem.one g_115 (.cells ([.int .i64 x_116.Sess, .int .i64 x_116.Seq, .int .i64 x_116.Cmd.Kind, .int .i64 x_116.Cmd.Who, v_117, v_119, v_121] : List Value).toArray 45 (0, 0))] Z := hS
            replace hm : Fr 107 a [(0, p0_0), (2, .bool false), (3, .pointer (some ⟨g_5, 0, none⟩)), (4, .pointer (some ⟨g_15, 0, none⟩)), (5, .int .i64 x_82), (6, .pointer (some ⟨g_115, 0, none⟩)), (39, .int .i64 (band .i64 t_126 7)), (46, .bool ((band .i64 t_126 7) == 2))] := hm.keep [0, 2, 3, 4, 5, 6, 39, 46]
            exact x_then_n (hJ_j_165 ((band .i64 t_126 7) == 2) H _ _ ⟨N_114, hm, (Sep.sel hS [0, 1, 2, 3, 4, 5, 6, 7] (by decide)), (Mem.le.refl _)⟩)
      clear hKJ_113
      refine h_begin (S := fun w => Sep w0 w [N_107, Mem.one g_5 (.cells ([v_86, v_90] : List Value).toArray 74 (0, 0)), M_84, M_88, Mem.one g_15 (.cells ([v_95, v_99] : List Value).toArray 63 (0, 0)), M_93, M_97] Z) 13 (by kernel_rfl) rfl [false, false, false, false, false, false, false, false, false, false, false, false, false].toArray rfl hS fun w_338 hS => ?_
      replace hS : Sep w0 w_338 [N_107, Mem.one g_5 (.cells ([v_86, v_90] : List Value).toArray 74 (0, 0)), M_84, M_88, Mem.one g_15 (.cells ([v_95, v_99] : List Value).toArray 63 (0, 0)), M_93, M_97] Z := hS
      refine h_take 0 [true, false, false, false, false, false, false, false, false, false, false, false, false].toArray rfl (by kernel_rfl) (by kernel_rfl) (by kernel_rfl) (fun _ _ _ _ h => h) rfl rfl rfl rfl hm (hS.sub (.cons (Mem.le.refl _) (.cons (Mem.le.refl _) (.cons (Mem.le.refl _) (.cons (Mem.le.refl _) (.cons (Mem.le.refl _) (.cons (Mem.le.refl _) (.cons (Mem.le.refl _) (Sub.nil _))))))))) (v := p0_0) (fun w hS => r_move hm rfl) ?_
      clear hm a; intro a hm
      refine h_take 1 [true, true, false, false, false, false, false, false, false, false, false, false, false].toArray rfl (by kernel_rfl) (by kernel_rfl) (by kernel_rfl) (fun _ _ _ _ h => h) rfl rfl rfl rfl hm (hS.sub (.cons (Mem.le.refl _) (.cons (Mem.le.refl _) (.cons (Mem.le.refl _) (.cons (Mem.le.refl _) (.cons (Mem.le.refl _) (.cons (Mem.le.refl _) (.cons (Mem.le.refl _) (Sub.nil _))))))))) (v := .int .i64 x_82) (fun w hS => r_move hm rfl) ?_
      clear hm a; intro a hm
      obtain ⟨t_339, et_339, H⟩ := Option.bind_eq_some_iff.1 H
      refine h_takeE 2 [true, true, true, false, false, false, false, false, false, false, false, false, false].toArray rfl (by kernel_rfl) (by kernel_rfl) (by kernel_rfl) (fun _ _ _ _ h => h) rfl rfl rfl rfl hm (hS.sub (.cons (Mem.le.refl _) (.cons (Mem.le.refl _) (.cons (Mem.le.refl _) (.cons (Mem.le.refl _) (.cons (Mem.le.refl _) (.cons (Mem.le.refl _) (.cons (Mem.le.refl _) (Sub.nil _))))))))) (f := fun ad => .pointer (some ad)) (r_index hm Try.underlying22 ti3 rfl rfl rfl hp0_0 et_339) ?_
      rintro ad_340 ⟨cs_341, hk_342, hc_343⟩
      obtain rfl := (show cs_341 = [.int .i64 t_339] from hk_342)
      clear hm a; intro a hm
      refine h_take 3 [true, true, true, true, false, false, false, false, false, false, false, false, false].toArray rfl (by kernel_rfl) (by kernel_rfl) (by kernel_rfl) (fun _ _ _ _ h => h) rfl rfl rfl rfl hm (hS.sub (.cons (Mem.le.refl _) (.cons (Mem.le.refl _) (.cons (Mem.le.refl _) (.cons (Mem.le.refl _) (.cons (Mem.le.refl _) (.cons (Mem.le.refl _) (.cons (Mem.le.refl _) (Sub.nil _))))))))) (v := .int .i64 t_339) (fun w hS => r_load hm rfl (el_one (o := 0) (fun j c h => Mem.cell_le (hA.trans hS.old) (hc_343 j c h)) Try.underlying3 rfl rfl)) ?_
      clear hm a; intro a hm
      refine h_take 4 [true, true, true, true, true, false, false, false, false, false, false, false, false].toArray rfl (by kernel_rfl) (by kernel_rfl) (by kernel_rfl) (fun _ _ _ _ h => h) rfl rfl rfl rfl hm (hS.sub (.cons (Mem.le.refl _) (.cons (Mem.le.refl _) (.cons (Mem.le.refl _) (.cons (Mem.le.refl _) (.cons (Mem.le.refl _) (.cons (Mem.le.refl _) (.cons (Mem.le.refl _) (Sub.nil _))))))))) (v := p0_0) (fun w hS => r_move hm rfl) ?_
      clear hm a; intro a hm
      refine h_take 5 [true, true, true, true, true, true, false, false, false, false, false, false, false].toArray rfl (by kernel_rfl) (by kernel_rfl) (by kernel_rfl) (fun _ _ _ _ h => h) rfl rfl rfl rfl hm (hS.sub (.cons (Mem.le.refl _) (.cons (Mem.le.refl _) (.cons (Mem.le.refl _) (.cons (Mem.le.refl _) (.cons (Mem.le.refl _) (.cons (Mem.le.refl _) (.cons (Mem.le.refl _) (Sub.nil _))))))))) (v := .int .i64 x_82) (fun w hS => r_move hm rfl) ?_
      clear hm a; intro a hm
      obtain ⟨t_344, et_344, H⟩ := Option.bind_eq_some_iff.1 H
      refine h_takeE 6 [true, true, true, true, true, true, true, false, false, false, false, false, false].toArray rfl (by kernel_rfl) (by kernel_rfl) (by kernel_rfl) (fun _ _ _ _ h => h) rfl rfl rfl rfl hm (hS.sub (.cons (Mem.le.refl _) (.cons (Mem.le.refl _) (.cons (Mem.le.refl _) (.cons (Mem.le.refl _) (.cons (Mem.le.refl _) (.cons (Mem.le.refl _) (.cons (Mem.le.refl _) (Sub.nil _))))))))) (f := fun ad => .pointer (some ad)) (r_index hm Try.underlying22 ti3 rfl rfl rfl hp0_0 et_344) ?_
      rintro ad_345 ⟨cs_346, hk_347, hc_348⟩
      obtain rfl := (show cs_346 = [.int .i64 t_344] from hk_347)
      clear hm a; intro a hm
      refine h_take 7 [true, true, true, true, true, true, true, true, false, false, false, false, false].toArray rfl (by kernel_rfl) (by kernel_rfl) (by kernel_rfl) (fun _ _ _ _ h => h) rfl rfl rfl rfl hm (hS.sub (.cons (Mem.le.refl _) (.cons (Mem.le.refl _) (.cons (Mem.le.refl _) (.cons (Mem.le.refl _) (.cons (Mem.le.refl _) (.cons (Mem.le.refl _) (.cons (Mem.le.refl _) (Sub.nil _))))))))) (v := .int .i64 t_344) (fun w hS => r_load hm rfl (el_one (o := 0) (fun j c h => Mem.cell_le (hA.trans hS.old) (hc_348 j c h)) Try.underlying3 rfl rfl)) ?_
      clear hm a; intro a hm
      refine h_take 8 [true, true, true, true, true, true, true, true, true, false, false, false, false].toArray rfl (by kernel_rfl) (by kernel_rfl) (by kernel_rfl) (fun _ _ _ _ h => h) rfl rfl rfl rfl hm (hS.sub (.cons (Mem.le.refl _) (.cons (Mem.le.refl _) (.cons (Mem.le.refl _) (.cons (Mem.le.refl _) (.cons (Mem.le.refl _) (.cons (Mem.le.refl _) (.cons (Mem.le.refl _) (Sub.nil _))))))))) (v := .int .i64 (shr .i64 t_344 4)) (fun w hS => r_shift (r := shr .i64 t_344 4) hm rfl rfl (by decide) (.inr ⟨rfl, rfl⟩)) ?_
      clear hm a; intro a hm
      refine h_take 9 [true, true, true, true, true, true, true, true, true, true, false, false, false].toArray rfl (by kernel_rfl) (by kernel_rfl) (by kernel_rfl) (fun _ _ _ _ h => h) rfl rfl rfl rfl hm (hS.sub (.cons (Mem.le.refl _) (.cons (Mem.le.refl _) (.cons (Mem.le.refl _) (.cons (Mem.le.refl _) (.cons (Mem.le.refl _) (.cons (Mem.le.refl _) (.cons (Mem.le.refl _) (Sub.nil _))))))))) (v := .int .i64 (band .i64 (shr .i64 t_344 4) 31)) (fun w hS => r_bits (i := shr .i64 t_344 4) (j := 31) (r := band .i64 (shr .i64 t_344 4) 31) hm rfl rfl (.inl ⟨rfl, rfl⟩)) ?_
      clear hm a; intro a hm
      obtain ⟨t_349, et_349, H⟩ := Option.bind_eq_some_iff.1 H
      refine h_events [10, 11] (by kernel_rfl) (by simp) ?_
      intro i hi; simp only [List.mem_cons, List.not_mem_nil, or_false] at hi; rcases hi with rfl | rfl
      · refine ⟨_, [true, true, true, true, true, true, true, true, true, true, true, false, false].toArray, rfl, rfl, ?_⟩
        refine s_call hm rfl Try.call28 rfl (hocketlaw10_Entry.calls t_339 (band .i64 (shr .i64 t_344 4) 31) t_349 w0 _ _ _ (Mem.le.refl _) (hS.enter [] (by decide))  et_349) ?_
        rintro _ w_350 ⟨v_353, v_355, v_357, N_351, rfl, hS', hr_354, hr_356, hr_358⟩
        clear hm a; intro a hm
        obtain ⟨N_352, hS'', le_352, ln_352⟩ := hS.call [] (by decide) rfl (l' := []) (ow := []) rfl hS'
        replace hS : Sep w0 w_350 [N_352, Mem.one g_5 (.cells ([v_86, v_90] : List Value).toArray 74 (0, 0)), M_84, M_88, Mem.one g_15 (.cells ([v_95, v_99] : List Value).toArray 63 (0, 0)), M_93, M_97] Z := hS''
        clear hS' hS''
        refine wpList_nil ?_
        refine x_then_n ⟨(hS.sub (.cons le_352 (.cons (Mem.le.refl _) (.cons (Mem.le.refl _) (.cons (Mem.le.refl _) (.cons (Mem.le.refl _) (.cons (Mem.le.refl _) (.cons (Mem.le.refl _) (Sub.nil _))))))))), ?_⟩
        refine h_event 11 [true, true, true, true, true, true, true, true, true, true, true, true, false].toArray rfl (by kernel_rfl) rfl ?_
        refine v_alloc hm rfl ti45 hS ?_
        intro w_359 g_360 hS'
        clear hm a; intro a hm
        replace hS : Sep w0 w_359 [N_352, Mem.one g_5 (.cells ([v_86, v_90] : List Value).toArray 74 (0, 0)), M_84, M_88, Mem.one g_15 (.cells ([v_95, v_99] : List Value).toArray 63 (0, 0)), M_93, M_97, Mem.one g_360 (.cells ([.int .i64 0, .int .i64 0, .int .i64 0, .int .i64 0, .slice none 0 0, .slice none 0 0, .slice none 0 0] : List Value).toArray 45 (0, 0))] Z := hS'
        clear hS'
        refine wpList_nil ?_
        refine x_then_n ⟨(hS.sub (.cons le_352 (.cons (Mem.le.refl _) (.cons (Mem.le.refl _) (.cons (Mem.le.refl _) (.cons (Mem.le.refl _) (.cons (Mem.le.refl _) (.cons (Mem.le.refl _) (Sub.nil _))))))))), ?_⟩
        refine h_event 12 [true, true, true, true, true, true, true, true, true, true, true, true, true].toArray rfl (by kernel_rfl) rfl ?_
        obtain ⟨w_361, hs', hS'⟩ := hS.store (P := Try.prog) (p := 7) (o := 0) (t := 45) (v := .agg ([.int .i64 t_349.Sess, .int .i64 t_349.Seq, .int .i64 t_349.Cmd.Kind, .int .i64 t_349.Cmd.Who, v_353, v_355, v_357] : List Value).toArray) (vs := [.int .i64 t_349.Sess, .int .i64 t_349.Seq, .int .i64 t_349.Cmd.Kind, .int .i64 t_349.Cmd.Who, v_353, v_355, v_357]) rfl ti45 rfl rfl rfl (by intro u hu; simp only [List.mem_cons, List.not_mem_nil, or_false] at hu; rcases hu with rfl | rfl | rfl | rfl | rfl | rfl | rfl <;> first | rfl | exact (hr_354.mono ln_352).one | exact (hr_356.mono ln_352).one | exact (hr_358.mono ln_352).one)
        refine s_store hm rfl rfl hs' ?_
        replace hS : Sep w0 w_361 [N_352, Mem.one g_5 (.cells ([v_86, v_90] : List Value).toArray 74 (0, 0)), M_84, M_88, Mem.one g_15 (.cells ([v_95, v_99] : List Value).toArray 63 (0, 0)), M_93, M_97, Mem.one g_360 (.cells ([.int .i64 t_349.Sess, .int .i64 t_349.Seq, .int .i64 t_349.Cmd.Kind, .int .i64 t_349.Cmd.Who, v_353, v_355, v_357] : List Value).toArray 45 (0, 0))] Z := hS'
        clear hs' hS'
        refine wpList_nil ?_
        refine x_then_n ⟨(hS.sub (.cons le_352 (.cons (Mem.le.refl _) (.cons (Mem.le.refl _) (.cons (Mem.le.refl _) (.cons (Mem.le.refl _) (.cons (Mem.le.refl _) (.cons (Mem.le.refl _) (Sub.nil _))))))))), ?_⟩
        refine h_done (by kernel_rfl) ?_
        replace hm : Fr 107 a [(0, p0_0), (2, .bool false), (3, .pointer (some ⟨g_5, 0, none⟩)), (4, .pointer (some ⟨g_15, 0, none⟩)), (5, .int .i64 x_82), (6, .pointer (some ⟨g_360, 0, none⟩))] := hm.keep [0, 2, 3, 4, 5, 6]
        replace hS : Sep w0 w_361 [N_352, Mem.one g_5 (.cells ([v_86, v_90] : List Value).toArray 74 (0, 0)), M_84, M_88, Mem.one g_15 (.cells ([v_95, v_99] : List Value).toArray 63 (0, 0)), M_93, M_97, Mem.one g_360 (.cells ([.int .i64 t_349.Sess, .int .i64 t_349.Seq, .int .i64 t_349.Cmd.Kind, .int .i64 t_349.Cmd.Who, v_353, v_355, v_357] : List Value).toArray 45 (0, 0))] Z := hS
        replace hm : Fr 107 a [(0, p0_0), (2, .bool false), (3, .pointer (some ⟨g_5, 0, none⟩)), (4, .pointer (some ⟨g_15, 0, none⟩)), (5, .int .i64 x_82), (6, .pointer (some ⟨g_360, 0, none⟩))] := hm.keep [0, 2, 3, 4, 5, 6]
        exact x_then_n (hJ_j_124 t_349 H _ _ ⟨v_353, v_355, v_357, g_360, N_352, hm, (Sep.sel hS [0, 1, 2, 3, 4, 5, 6, 7] (by decide)), le_352, (hr_354.mono ln_352), (hr_356.mono ln_352), (hr_358.mono ln_352)⟩)
      · refine ⟨_, [true, true, true, true, true, true, true, true, true, true, false, true, false].toArray, rfl, rfl, ?_⟩
        refine v_alloc hm rfl ti45 hS ?_
        intro w_362 g_363 hS'
        clear hm a; intro a hm
        replace hS : Sep w0 w_362 [N_107, Mem.one g_5 (.cells ([v_86, v_90] : List Value).toArray 74 (0, 0)), M_84, M_88, Mem.one g_15 (.cells ([v_95, v_99] : List Value).toArray 63 (0, 0)), M_93, M_97, Mem.one g_363 (.cells ([.int .i64 0, .int .i64 0, .int .i64 0, .int .i64 0, .slice none 0 0, .slice none 0 0, .slice none 0 0] : List Value).toArray 45 (0, 0))] Z := hS'
        clear hS'
        refine wpList_nil ?_
        refine x_then_n ⟨(hS.sub (.cons (Mem.le.refl _) (.cons (Mem.le.refl _) (.cons (Mem.le.refl _) (.cons (Mem.le.refl _) (.cons (Mem.le.refl _) (.cons (Mem.le.refl _) (.cons (Mem.le.refl _) (Sub.nil _))))))))), ?_⟩
        refine h_event 10 [true, true, true, true, true, true, true, true, true, true, true, true, false].toArray rfl (by kernel_rfl) rfl ?_
        refine s_call hm rfl Try.call28 rfl (hocketlaw10_Entry.calls t_339 (band .i64 (shr .i64 t_344 4) 31) t_349 w0 _ _ _ (Mem.le.refl _) (hS.enter [] (by decide))  et_349) ?_
        rintro _ w_365 ⟨v_368, v_370, v_372, N_366, rfl, hS', hr_369, hr_371, hr_373⟩
        clear hm a; intro a hm
        obtain ⟨N_367, hS'', le_367, ln_367⟩ := hS.call [] (by decide) rfl (l' := []) (ow := []) rfl hS'
        replace hS : Sep w0 w_365 [N_367, Mem.one g_5 (.cells ([v_86, v_90] : List Value).toArray 74 (0, 0)), M_84, M_88, Mem.one g_15 (.cells ([v_95, v_99] : List Value).toArray 63 (0, 0)), M_93, M_97, Mem.one g_363 (.cells ([.int .i64 0, .int .i64 0, .int .i64 0, .int .i64 0, .slice none 0 0, .slice none 0 0, .slice none 0 0] : List Value).toArray 45 (0, 0))] Z := hS''
        clear hS' hS''
        refine wpList_nil ?_
        refine x_then_n ⟨(hS.sub (.cons le_367 (.cons (Mem.le.refl _) (.cons (Mem.le.refl _) (.cons (Mem.le.refl _) (.cons (Mem.le.refl _) (.cons (Mem.le.refl _) (.cons (Mem.le.refl _) (Sub.nil _))))))))), ?_⟩
        refine h_event 12 [true, true, true, true, true, true, true, true, true, true, true, true, true].toArray rfl (by kernel_rfl) rfl ?_
        obtain ⟨w_374, hs', hS'⟩ := hS.store (P := Try.prog) (p := 7) (o := 0) (t := 45) (v := .agg ([.int .i64 t_349.Sess, .int .i64 t_349.Seq, .int .i64 t_349.Cmd.Kind, .int .i64 t_349.Cmd.Who, v_368, v_370, v_372] : List Value).toArray) (vs := [.int .i64 t_349.Sess, .int .i64 t_349.Seq, .int .i64 t_349.Cmd.Kind, .int .i64 t_349.Cmd.Who, v_368, v_370, v_372]) rfl ti45 rfl rfl rfl (by intro u hu; simp only [List.mem_cons, List.not_mem_nil, or_false] at hu; rcases hu with rfl | rfl | rfl | rfl | rfl | rfl | rfl <;> first | rfl | exact (hr_369.mono ln_367).one | exact (hr_371.mono ln_367).one | exact (hr_373.mono ln_367).one)
        refine s_store hm rfl rfl hs' ?_
        replace hS : Sep w0 w_374 [N_367, Mem.one g_5 (.cells ([v_86, v_90] : List Value).toArray 74 (0, 0)), M_84, M_88, Mem.one g_15 (.cells ([v_95, v_99] : List Value).toArray 63 (0, 0)), M_93, M_97, Mem.one g_363 (.cells ([.int .i64 t_349.Sess, .int .i64 t_349.Seq, .int .i64 t_349.Cmd.Kind, .int .i64 t_349.Cmd.Who, v_368, v_370, v_372] : List Value).toArray 45 (0, 0))] Z := hS'
        clear hs' hS'
        refine wpList_nil ?_
        refine x_then_n ⟨(hS.sub (.cons le_367 (.cons (Mem.le.refl _) (.cons (Mem.le.refl _) (.cons (Mem.le.refl _) (.cons (Mem.le.refl _) (.cons (Mem.le.refl _) (.cons (Mem.le.refl _) (Sub.nil _))))))))), ?_⟩
        refine h_done (by kernel_rfl) ?_
        replace hm : Fr 107 a [(0, p0_0), (2, .bool false), (3, .pointer (some ⟨g_5, 0, none⟩)), (4, .pointer (some ⟨g_15, 0, none⟩)), (5, .int .i64 x_82), (6, .pointer (some ⟨g_363, 0, none⟩))] := hm.keep [0, 2, 3, 4, 5, 6]
        replace hS : Sep w0 w_374 [N_367, Mem.one g_5 (.cells ([v_86, v_90] : List Value).toArray 74 (0, 0)), M_84, M_88, Mem.one g_15 (.cells ([v_95, v_99] : List Value).toArray 63 (0, 0)), M_93, M_97, Mem.one g_363 (.cells ([.int .i64 t_349.Sess, .int .i64 t_349.Seq, .int .i64 t_349.Cmd.Kind, .int .i64 t_349.Cmd.Who, v_368, v_370, v_372] : List Value).toArray 45 (0, 0))] Z := hS
        replace hm : Fr 107 a [(0, p0_0), (2, .bool false), (3, .pointer (some ⟨g_5, 0, none⟩)), (4, .pointer (some ⟨g_15, 0, none⟩)), (5, .int .i64 x_82), (6, .pointer (some ⟨g_363, 0, none⟩))] := hm.keep [0, 2, 3, 4, 5, 6]
        exact x_then_n (hJ_j_124 t_349 H _ _ ⟨v_368, v_370, v_372, g_363, N_367, hm, (Sep.sel hS [0, 1, 2, 3, 4, 5, 6, 7] (by decide)), le_367, (hr_369.mono ln_367), (hr_371.mono ln_367), (hr_373.mono ln_367)⟩)
    · rw [if_neg hc_111] at H
      refine c_cond_f hm rfl (Bool.eq_false_iff.2 hc_111) ?_
      refine wp_exit (x_then_x (x_then_x (x_block_t ?_)))
      replace hS : Sep w0 w_109 [N_107, Mem.one g_5 (.cells ([v_86, v_90] : List Value).toArray 74 (0, 0)), M_84, M_88, Mem.one g_15 (.cells ([v_95, v_99] : List Value).toArray 63 (0, 0)), M_93, M_97] Z := hS
      replace hm : Fr 107 a [(2, .bool false), (3, .pointer (some ⟨g_5, 0, none⟩)), (4, .pointer (some ⟨g_15, 0, none⟩))] := hm.keep [2, 3, 4]
      exact x_then_n (hJ_j_38 x_83 x_92 H _ _ ⟨v_86, v_90, v_95, v_99, N_107, M_84, M_88, M_93, M_97, hm, (Sep.sel hS [0, 1, 2, 3, 4, 5, 6] (by decide)), (le_81.trans le_107), (ho_87.mono le_107), (ho_91.mono le_107), (ho_96.mono le_107), (ho_100.mono le_107)⟩)
  clear hKJ_106
  refine wp_region_lit ?_
  refine s_move hm rfl rfl ?_
  clear hm a; intro a hm
  refine s_move hm rfl rfl ?_
  clear hm a; intro a hm
  refine s_len hm rfl Try.underlying22 rfl hp0_0 ?_
  clear hm a; intro a hm
  refine s_cmp (b := decide (x_82 < (x0.length : Int))) hm rfl rfl rfl (.inr (.inr (.inl ⟨rfl, rfl⟩))) ?_
  clear hm a; intro a hm
  refine s_move hm rfl rfl ?_
  clear hm a; intro a hm
  by_cases hc_375 : x_82 < (x0.length : Int)
  · rw [if_pos hc_375] at H
    refine s_on hm rfl rfl (decide_eq_true hc_375) ?_
    refine s_move hm rfl rfl ?_
    clear hm a; intro a hm
    refine s_on hm rfl rfl (decide_eq_true hc_375) ?_
    refine s_cmp (b := decide (x_82 < 60)) hm rfl rfl rfl (.inr (.inr (.inl ⟨rfl, rfl⟩))) ?_
    clear hm a; intro a hm
    refine s_pick_t hm rfl rfl (decide_eq_true hc_375) rfl ?_
    clear hm a; intro a hm
    refine wpList_nil ?_
    replace hm : Fr 107 a [(0, p0_0), (2, .bool false), (3, .pointer (some ⟨g_5, 0, none⟩)), (4, .pointer (some ⟨g_15, 0, none⟩)), (5, .int .i64 x_82), (21, .bool (decide (x_82 < 60)))] := hm.keep [0, 2, 3, 4, 5, 21]
    replace hS : Sep w0 w_101 [N_81, Mem.one g_5 (.cells ([v_86, v_90] : List Value).toArray 74 (0, 0)), M_84, M_88, Mem.one g_15 (.cells ([v_95, v_99] : List Value).toArray 63 (0, 0)), M_93, M_97] Z := hS
    replace hm : Fr 107 a [(0, p0_0), (2, .bool false), (3, .pointer (some ⟨g_5, 0, none⟩)), (4, .pointer (some ⟨g_15, 0, none⟩)), (5, .int .i64 x_82), (21, .bool (decide (x_82 < 60)))] := hm.keep [0, 2, 3, 4, 5, 21]
    exact x_then_n (hJ_j_110 (decide (x_82 < 60)) H _ _ ⟨N_81, hm, (Sep.sel hS [0, 1, 2, 3, 4, 5, 6] (by decide)), (Mem.le.refl _)⟩)
  · rw [if_neg hc_375] at H
    refine s_off hm rfl rfl rfl (decide_eq_false hc_375) ?_
    clear hm a; intro a hm
    refine s_off hm rfl rfl rfl (decide_eq_false hc_375) ?_
    clear hm a; intro a hm
    refine s_pick_f hm rfl rfl (decide_eq_false hc_375) rfl ?_
    clear hm a; intro a hm
    refine wpList_nil ?_
    replace hm : Fr 107 a [(0, p0_0), (2, .bool false), (3, .pointer (some ⟨g_5, 0, none⟩)), (4, .pointer (some ⟨g_15, 0, none⟩)), (5, .int .i64 x_82), (21, .bool false)] := hm.keep [0, 2, 3, 4, 5, 21]
    replace hS : Sep w0 w_101 [N_81, Mem.one g_5 (.cells ([v_86, v_90] : List Value).toArray 74 (0, 0)), M_84, M_88, Mem.one g_15 (.cells ([v_95, v_99] : List Value).toArray 63 (0, 0)), M_93, M_97] Z := hS
    replace hm : Fr 107 a [(0, p0_0), (2, .bool false), (3, .pointer (some ⟨g_5, 0, none⟩)), (4, .pointer (some ⟨g_15, 0, none⟩)), (5, .int .i64 x_82), (21, .bool false)] := hm.keep [0, 2, 3, 4, 5, 21]
    exact x_then_n (hJ_j_110 false H _ _ ⟨N_81, hm, (Sep.sel hS [0, 1, 2, 3, 4, 5, 6] (by decide)), (Mem.le.refl _)⟩)


end Go.Proofs
