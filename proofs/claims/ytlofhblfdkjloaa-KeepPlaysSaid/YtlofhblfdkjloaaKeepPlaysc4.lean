/- What the calls do: each function once. -/
import Derived.Test.YtlofhblfdkjloaaKeepPlaysc3
namespace Go.Proofs
open Go.Gp
set_option linter.unusedVariables false
set_option maxHeartbeats 4000000 in
set_option maxRecDepth 20000 in
theorem hocketlaw21_KeepPlays.calls (K : Nat) (x0 : List Int) (p0_0 : Value) (x1 : List Int) (p1_1 : Value) (r : Unit) (w0 w : World) (Z A : Mem) (hA : A.le Z) (hS : Sep w0 w [] Z) (hp0_0 : Rd (Kd.int .i64) A p0_0 x0) (hp1_1 : Rd (Kd.int .i64) A p1_1 x1)
    (H : hocketlaw21_KeepPlays.f K x0 x1 = some r) :
    Calls Try.prog 10 [p0_0, p1_1].toArray w (Ret fun v w' => ∃ (N : Mem), v = .bool true ∧ Sep w0 w' [N] Z) := by
  unfold hocketlaw21_KeepPlays.f at H
  refine f_enter _ Try.func10 rfl Try.ntmps10 rfl fun a hm => ?_
  replace hm : Fr 174 a [(0, p0_0), (1, p1_1)] := hm
  replace hS := hS.start
  replace hS : Sep w0 w [Mem.no] Z := hS
  refine wp_seq ?_
  refine wp_region_lit ?_
  refine s_assign hm rfl rfl ?_
  clear hm a; intro a hm
  refine wpList_nil ?_
  replace hm : Fr 174 a [(0, p0_0), (1, p1_1), (4, .bool false)] := hm.keep [0, 1, 4]
  refine x_then_n ?_
  refine wp_seq ?_
  refine wp_region_lit ?_
  refine s_build hm rfl ti25 pl25 rfl .nil (cs := [.slice none 0 0, .slice none 0 0]) rfl ?_
  clear hm a; intro a hm
  refine v_alloc hm rfl ti25 hS ?_
  intro w_1 g_2 hS'
  clear hm a; intro a hm
  replace hS : Sep w0 w_1 [Mem.no, Mem.one g_2 (.cells ([.slice none 0 0, .slice none 0 0] : List Value).toArray 25 (0, 0))] Z := hS'
  clear hS'
  obtain ⟨w_3, hs', hS'⟩ := hS.store (P := Try.prog) (p := 1) (o := 0) (t := 25) (v := .agg [.slice none 0 0, .slice none 0 0].toArray) (vs := [.slice none 0 0, .slice none 0 0]) rfl ti25 rfl rfl rfl (by intro u hu; simp only [List.mem_cons, List.not_mem_nil, or_false] at hu; rcases hu with rfl | rfl <;> rfl)
  refine s_store hm rfl rfl hs' ?_
  replace hS : Sep w0 w_3 [Mem.no, Mem.one g_2 (.cells ([.slice none 0 0, .slice none 0 0] : List Value).toArray 25 (0, 0))] Z := hS'
  clear hs' hS'
  refine wpList_nil ?_
  replace hm : Fr 174 a [(0, p0_0), (1, p1_1), (4, .bool false), (5, .pointer (some ⟨g_2, 0, none⟩))] := hm.keep [0, 1, 4, 5]
  refine x_then_n ?_
  refine c_seq fun KJ_4 hKJ_4 => ?_
  refine wp_seq ?_
  refine wp_region_lit ?_
  refine s_assign hm rfl rfl ?_
  clear hm a; intro a hm
  refine wpList_nil ?_
  replace hm : Fr 174 a [(0, p0_0), (1, p1_1), (4, .bool false), (5, .pointer (some ⟨g_2, 0, none⟩)), (6, .int .i64 0)] := hm.keep [0, 1, 4, 5, 6]
  refine x_then_n ?_
  have hJ_j_12 : ∀ (x_6 : api_Disk), hocketlaw21_KeepPlays.J1 K x1 x_6 = some r → ∀ (a : Act) (w_11 : World), (∃ (v_7 : Value) (v_9 : Value) (N_5 : Mem), Fr 174 a [(1, p1_1), (4, .bool false), (5, .pointer (some ⟨g_2, 0, none⟩))] ∧ Sep w0 w_11 [N_5, Mem.one g_2 (.cells ([v_7, v_9] : List Value).toArray 25 (0, 0))] Z ∧ Mem.no.le N_5 ∧ Rd Kd.u8 N_5 v_7 x_6.A ∧ Rd Kd.u8 N_5 v_9 x_6.B) → KJ_4 a w_11 := by
    clear H hm hS a
    rintro x_6 H a w_11 ⟨v_7, v_9, N_5, hm, hS, le_5, hr_8, hr_10⟩
    unfold hocketlaw21_KeepPlays.J1 at H
    refine hKJ_4 _ _ ?_
    refine wp_seq ?_
    refine wp_region_lit ?_
    refine s_load hm rfl rfl (hS.load_agg (p := 1) (us := [v_7, v_9]) rfl Try.underlying25 rfl ti25 rfl rfl) ?_
    clear hm a; intro a hm
    obtain ⟨t_13, et_13, H⟩ := Option.bind_eq_some_iff.1 H
    refine s_call hm rfl Try.call19 rfl (keep_New.calls x_6 _ _ t_13 w0 _ _ _ (Mem.le.refl _) (hS.enter [] (by decide)) (hr_8.mono ((Mem.le.refl _).trans (hS.new_zed []))) (hr_10.mono ((Mem.le.refl _).trans (hS.new_zed []))) et_13) ?_
    rintro _ w_14 ⟨g_17, v_18, v_20, N_15, rfl, hS', hr_19, hr_21⟩
    clear hm a; intro a hm
    obtain ⟨N_16, hS'', le_16, ln_16⟩ := hS.call [] (by decide) rfl (l' := []) (ow := [Mem.one g_17 (.cells ([v_18, v_20, .int .i64 t_13.2.2.1, .bool t_13.2.2.2] : List Value).toArray 58 (0, 0))]) rfl hS'
    replace hS : Sep w0 w_14 [N_16, Mem.one g_2 (.cells ([v_7, v_9] : List Value).toArray 25 (0, 0)), Mem.one g_17 (.cells ([v_18, v_20, .int .i64 t_13.2.2.1, .bool t_13.2.2.2] : List Value).toArray 58 (0, 0))] Z := hS''
    clear hS' hS''
    refine s_assign hm rfl rfl ?_
    clear hm a; intro a hm
    refine wpList_nil ?_
    replace hm : Fr 174 a [(1, p1_1), (4, .bool false), (5, .pointer (some ⟨g_2, 0, none⟩)), (7, .pointer (some ⟨g_17, 0, none⟩))] := hm.keep [1, 4, 5, 7]
    refine x_then_n ?_
    refine c_seq fun KJ_22 hKJ_22 => ?_
    refine wp_seq ?_
    refine wp_region_lit ?_
    refine s_move hm rfl rfl ?_
    clear hm a; intro a hm
    refine s_ptrNil (b := false) hm rfl Try.underlying40 rfl (.inl ⟨rfl, rfl⟩) ?_
    clear hm a; intro a hm
    refine wpList_nil ?_
    replace hm : Fr 174 a [(1, p1_1), (4, .bool false), (5, .pointer (some ⟨g_2, 0, none⟩)), (7, .pointer (some ⟨g_17, 0, none⟩)), (45, .bool false)] := hm.keep [1, 4, 5, 7, 45]
    refine x_then_n ?_
    refine c_cond_f hm rfl rfl ?_
    refine wp_skip ?_
    refine x_then_n (hKJ_22 _ _ ?_)
    refine wp_seq ?_
    refine wp_region_lit ?_
    refine s_assign hm rfl rfl ?_
    clear hm a; intro a hm
    refine s_assign hm rfl rfl ?_
    clear hm a; intro a hm
    refine wpList_nil ?_
    replace hm : Fr 174 a [(1, p1_1), (4, .bool false), (5, .pointer (some ⟨g_2, 0, none⟩)), (7, .pointer (some ⟨g_17, 0, none⟩)), (8, .int .i64 (-1)), (9, .bool false)] := hm.keep [1, 4, 5, 7, 8, 9]
    refine x_then_n ?_
    refine c_seq fun KJ_23 hKJ_23 => ?_
    refine wp_seq ?_
    refine wp_region_lit ?_
    refine s_assign hm rfl rfl ?_
    clear hm a; intro a hm
    refine wpList_nil ?_
    replace hm : Fr 174 a [(1, p1_1), (4, .bool false), (5, .pointer (some ⟨g_2, 0, none⟩)), (7, .pointer (some ⟨g_17, 0, none⟩)), (8, .int .i64 (-1)), (9, .bool false), (10, .int .i64 0)] := hm.keep [1, 4, 5, 7, 8, 9, 10]
    refine x_then_n ?_
    have hJ_j_36 : ∀ (x_25 : api_Disk), ∀ (x_30 : keep_Keep), hocketlaw21_KeepPlays.J2 K x_25 x_30 = some r → ∀ (a : Act) (w_35 : World), (∃ (v_26 : Value) (v_28 : Value) (v_31 : Value) (v_33 : Value) (N_24 : Mem), Fr 174 a [(4, .bool false), (5, .pointer (some ⟨g_2, 0, none⟩)), (7, .pointer (some ⟨g_17, 0, none⟩))] ∧ Sep w0 w_35 [N_24, Mem.one g_2 (.cells ([v_26, v_28] : List Value).toArray 25 (0, 0)), Mem.one g_17 (.cells ([v_31, v_33, .int .i64 x_30.cut, .bool x_30.dead] : List Value).toArray 58 (0, 0))] Z ∧ N_16.le N_24 ∧ Rd Kd.u8 N_24 v_26 x_25.A ∧ Rd Kd.u8 N_24 v_28 x_25.B ∧ Rd Kd.u8 N_24 v_31 x_30.d.A ∧ Rd Kd.u8 N_24 v_33 x_30.d.B) → KJ_23 a w_35 := by
      clear H hm hS a
      rintro x_25 x_30 H a w_35 ⟨v_26, v_28, v_31, v_33, N_24, hm, hS, le_24, hr_27, hr_29, hr_32, hr_34⟩
      unfold hocketlaw21_KeepPlays.J2 at H
      refine hKJ_23 _ _ ?_
      refine wp_seq ?_
      refine wp_region_lit ?_
      refine s_move hm rfl rfl ?_
      clear hm a; intro a hm
      obtain ⟨t_37, et_37, H⟩ := Option.bind_eq_some_iff.1 H
      refine s_call hm rfl Try.call24 rfl (keep_Keep_Disk.calls _ x_30.d.A _ x_30.d.B _ x_30.cut x_30.dead t_37 w0 _ _ N_24 (hS.new_zed [1]) (hS.enter [1] (by decide)) hr_32 hr_34 et_37) ?_
      rintro _ w_38 ⟨v_41, v_45, v_49, v_51, N_39, M_43, M_47, rfl, hS', hr_42, hr_46, hr_50, hr_52⟩
      clear hm a; intro a hm
      obtain ⟨N_40, hS'', le_40, ln_40⟩ := hS.call [1] (by decide) rfl (l' := [Mem.one g_17 (.cells ([v_49, v_51, .int .i64 t_37.2.2.2.1, .bool t_37.2.2.2.2] : List Value).toArray 58 (0, 0))]) (ow := [M_43, M_47]) rfl hS'
      replace hS : Sep w0 w_38 [N_40, Mem.one g_2 (.cells ([v_26, v_28] : List Value).toArray 25 (0, 0)), Mem.one g_17 (.cells ([v_49, v_51, .int .i64 t_37.2.2.2.1, .bool t_37.2.2.2.2] : List Value).toArray 58 (0, 0)), M_43, M_47] Z := hS''
      clear hS' hS''
      obtain ⟨t_53, et_53, H⟩ := Option.bind_eq_some_iff.1 H
      refine s_call hm rfl Try.call12 rfl (disk_Read.calls K t_37.1 _ _ t_53 w0 _ _ _ (Mem.le.refl _) (hS.enter [] (by decide)) (hr_42.rd (hS.own_zed [] 2 (by decide)) (Mem.no_le _)) (hr_46.rd (hS.own_zed [] 3 (by decide)) (Mem.no_le _)) et_53) ?_
      rintro _ w_54 ⟨N_55, rfl, hS'⟩
      clear hm a; intro a hm
      obtain ⟨N_56, hS'', le_56, ln_56⟩ := hS.call [] (by decide) rfl (l' := []) (ow := []) rfl hS'
      replace hS : Sep w0 w_54 [N_56, Mem.one g_2 (.cells ([v_26, v_28] : List Value).toArray 25 (0, 0)), Mem.one g_17 (.cells ([v_49, v_51, .int .i64 t_37.2.2.2.1, .bool t_37.2.2.2.2] : List Value).toArray 58 (0, 0)), M_43, M_47] Z := hS''
      clear hS' hS''
      refine s_move hm rfl rfl ?_
      clear hm a; intro a hm
      refine s_extract hm rfl rfl rfl ?_
      clear hm a; intro a hm
      refine s_extract hm rfl rfl rfl ?_
      clear hm a; intro a hm
      refine v_alloc hm rfl ti28 hS ?_
      intro w_57 g_58 hS'
      clear hm a; intro a hm
      replace hS : Sep w0 w_57 [N_56, Mem.one g_2 (.cells ([v_26, v_28] : List Value).toArray 25 (0, 0)), Mem.one g_17 (.cells ([v_49, v_51, .int .i64 t_37.2.2.2.1, .bool t_37.2.2.2.2] : List Value).toArray 58 (0, 0)), M_43, M_47, Mem.one g_58 (.cells ([.int .i64 0, .int .i64 0, .int .i64 0] : List Value).toArray 28 (0, 0))] Z := hS'
      clear hS'
      obtain ⟨w_59, hs', hS'⟩ := hS.store (P := Try.prog) (p := 5) (o := 0) (t := 28) (v := .agg [.int .i64 t_53.1.Inc, .int .i64 t_53.1.Prom, .int .i64 t_53.1.Inst].toArray) (vs := [.int .i64 t_53.1.Inc, .int .i64 t_53.1.Prom, .int .i64 t_53.1.Inst]) rfl ti28 rfl rfl rfl (by intro u hu; simp only [List.mem_cons, List.not_mem_nil, or_false] at hu; rcases hu with rfl | rfl | rfl <;> rfl)
      refine s_store hm rfl rfl hs' ?_
      replace hS : Sep w0 w_59 [N_56, Mem.one g_2 (.cells ([v_26, v_28] : List Value).toArray 25 (0, 0)), Mem.one g_17 (.cells ([v_49, v_51, .int .i64 t_37.2.2.2.1, .bool t_37.2.2.2.2] : List Value).toArray 58 (0, 0)), M_43, M_47, Mem.one g_58 (.cells ([.int .i64 t_53.1.Inc, .int .i64 t_53.1.Prom, .int .i64 t_53.1.Inst] : List Value).toArray 28 (0, 0))] Z := hS'
      clear hs' hS'
      refine s_assign hm rfl rfl ?_
      clear hm a; intro a hm
      refine wpList_nil ?_
      replace hm : Fr 174 a [(4, .bool false), (5, .pointer (some ⟨g_2, 0, none⟩)), (21, .bool t_53.2)] := hm.keep [4, 5, 21]
      refine x_then_n ?_
      refine wp_seq ?_
      refine wp_region_lit ?_
      refine s_load hm rfl rfl (hS.load_agg (p := 1) (us := [v_26, v_28]) rfl Try.underlying25 rfl ti25 rfl rfl) ?_
      clear hm a; intro a hm
      obtain ⟨t_60, et_60, H⟩ := Option.bind_eq_some_iff.1 H
      refine s_call hm rfl Try.call15 rfl (hocketref11_ReadDisk.calls K x_25 _ _ t_60 w0 _ _ _ (Mem.le.refl _) (hS.enter [] (by decide)) (hr_27.mono ((le_40.trans le_56).trans (hS.new_zed []))) (hr_29.mono ((le_40.trans le_56).trans (hS.new_zed []))) et_60) ?_
      rintro _ w_61 ⟨N_62, rfl, hS'⟩
      clear hm a; intro a hm
      obtain ⟨N_63, hS'', le_63, ln_63⟩ := hS.call [] (by decide) rfl (l' := []) (ow := []) rfl hS'
      replace hS : Sep w0 w_61 [N_63, Mem.one g_2 (.cells ([v_26, v_28] : List Value).toArray 25 (0, 0)), Mem.one g_17 (.cells ([v_49, v_51, .int .i64 t_37.2.2.2.1, .bool t_37.2.2.2.2] : List Value).toArray 58 (0, 0)), M_43, M_47, Mem.one g_58 (.cells ([.int .i64 t_53.1.Inc, .int .i64 t_53.1.Prom, .int .i64 t_53.1.Inst] : List Value).toArray 28 (0, 0))] Z := hS''
      clear hS' hS''
      refine s_move hm rfl rfl ?_
      clear hm a; intro a hm
      refine s_extract hm rfl rfl rfl ?_
      clear hm a; intro a hm
      refine s_extract hm rfl rfl rfl ?_
      clear hm a; intro a hm
      refine v_alloc hm rfl ti28 hS ?_
      intro w_64 g_65 hS'
      clear hm a; intro a hm
      replace hS : Sep w0 w_64 [N_63, Mem.one g_2 (.cells ([v_26, v_28] : List Value).toArray 25 (0, 0)), Mem.one g_17 (.cells ([v_49, v_51, .int .i64 t_37.2.2.2.1, .bool t_37.2.2.2.2] : List Value).toArray 58 (0, 0)), M_43, M_47, Mem.one g_58 (.cells ([.int .i64 t_53.1.Inc, .int .i64 t_53.1.Prom, .int .i64 t_53.1.Inst] : List Value).toArray 28 (0, 0)), Mem.one g_65 (.cells ([.int .i64 0, .int .i64 0, .int .i64 0] : List Value).toArray 28 (0, 0))] Z := hS'
      clear hS'
      obtain ⟨w_66, hs', hS'⟩ := hS.store (P := Try.prog) (p := 6) (o := 0) (t := 28) (v := .agg [.int .i64 t_60.1.Inc, .int .i64 t_60.1.Prom, .int .i64 t_60.1.Inst].toArray) (vs := [.int .i64 t_60.1.Inc, .int .i64 t_60.1.Prom, .int .i64 t_60.1.Inst]) rfl ti28 rfl rfl rfl (by intro u hu; simp only [List.mem_cons, List.not_mem_nil, or_false] at hu; rcases hu with rfl | rfl | rfl <;> rfl)
      refine s_store hm rfl rfl hs' ?_
      replace hS : Sep w0 w_66 [N_63, Mem.one g_2 (.cells ([v_26, v_28] : List Value).toArray 25 (0, 0)), Mem.one g_17 (.cells ([v_49, v_51, .int .i64 t_37.2.2.2.1, .bool t_37.2.2.2.2] : List Value).toArray 58 (0, 0)), M_43, M_47, Mem.one g_58 (.cells ([.int .i64 t_53.1.Inc, .int .i64 t_53.1.Prom, .int .i64 t_53.1.Inst] : List Value).toArray 28 (0, 0)), Mem.one g_65 (.cells ([.int .i64 t_60.1.Inc, .int .i64 t_60.1.Prom, .int .i64 t_60.1.Inst] : List Value).toArray 28 (0, 0))] Z := hS'
      clear hs' hS'
      refine s_assign hm rfl rfl ?_
      clear hm a; intro a hm
      refine wpList_nil ?_
      replace hm : Fr 174 a [(4, .bool false), (21, .bool t_53.2), (23, .bool t_60.2)] := hm.keep [4, 21, 23]
      refine x_then_n ?_
      refine c_seq fun KJ_67 hKJ_67 => ?_
      refine wp_region_lit ?_
      refine s_move hm rfl rfl ?_
      clear hm a; intro a hm
      refine s_move hm rfl rfl ?_
      clear hm a; intro a hm
      refine s_beq (b := (t_53.2 == t_60.2)) hm rfl Try.underlying4 rfl rfl (.inl ⟨rfl, rfl⟩) ?_
      clear hm a; intro a hm
      refine s_move hm rfl rfl ?_
      clear hm a; intro a hm
      by_cases hc_68 : t_53.2 = t_60.2
      · rw [if_pos hc_68] at H
        refine s_on hm rfl rfl (beq_iff_eq.2 hc_68) ?_
        obtain ⟨t_69, et_69, H⟩ := Option.bind_eq_some_iff.1 H
        refine s_call hm rfl Try.call25 rfl (hocketlaw21_awake.calls K  t_69 w0 _ _ _ (Mem.le.refl _) (hS.enter [] (by decide))  et_69) ?_
        rintro _ w_70 ⟨N_71, rfl, hS'⟩
        clear hm a; intro a hm
        obtain ⟨N_72, hS'', le_72, ln_72⟩ := hS.call [] (by decide) rfl (l' := []) (ow := []) rfl hS'
        replace hS : Sep w0 w_70 [N_72, Mem.one g_2 (.cells ([v_26, v_28] : List Value).toArray 25 (0, 0)), Mem.one g_17 (.cells ([v_49, v_51, .int .i64 t_37.2.2.2.1, .bool t_37.2.2.2.2] : List Value).toArray 58 (0, 0)), M_43, M_47, Mem.one g_58 (.cells ([.int .i64 t_53.1.Inc, .int .i64 t_53.1.Prom, .int .i64 t_53.1.Inst] : List Value).toArray 28 (0, 0)), Mem.one g_65 (.cells ([.int .i64 t_60.1.Inc, .int .i64 t_60.1.Prom, .int .i64 t_60.1.Inst] : List Value).toArray 28 (0, 0))] Z := hS''
        clear hS' hS''
        refine s_pick_t hm rfl rfl (beq_iff_eq.2 hc_68) rfl ?_
        clear hm a; intro a hm
        refine s_assign hm rfl rfl ?_
        clear hm a; intro a hm
        refine wpList_nil ?_
        replace hm : Fr 174 a [(4, .bool true)] := hm.keep [4]
        refine x_then_n (hKJ_67 _ _ ?_)
        refine wp_ret ?_
        exact f_ret hm (rs := [.tmp 4]) rfl (.tmp rfl .nil) ⟨_, rfl, N_72, rfl, (Sep.sel hS [0] (by decide))⟩
      · rw [if_neg hc_68] at H
        cases H
    clear hKJ_23
    replace hS : Sep w0 w_14 [N_16, Mem.one g_2 (.cells ([v_7, v_9] : List Value).toArray 25 (0, 0)), Mem.one g_17 (.cells ([v_18, v_20, .int .i64 t_13.2.2.1, .bool t_13.2.2.2] : List Value).toArray 58 (0, 0))] Z := hS
    replace hm : Fr 174 a [(1, p1_1), (4, .bool false), (5, .pointer (some ⟨g_2, 0, none⟩)), (7, .pointer (some ⟨g_17, 0, none⟩)), (8, .int .i64 (-1)), (9, .bool false), (10, .int .i64 0)] := hm.keep [1, 4, 5, 7, 8, 9, 10]
    refine c_block ?_
    refine c_loop (fun k_87 a w_87 => ∃ (x_74 : Int) (x_75 : Bool) (x_76 : Int) (x_77 : api_Disk) (x_82 : keep_Keep) (v_78 : Value) (v_80 : Value) (v_83 : Value) (v_85 : Value) (N_73 : Mem), hocketlaw21_KeepPlays.L1 K x1 (fun v => hocketlaw21_KeepPlays.J2 K v.1 v.2) k_87 (x_74, x_75, x_76, x_77, x_82) = some r ∧ Fr 174 a [(1, p1_1), (4, .bool false), (5, .pointer (some ⟨g_2, 0, none⟩)), (7, .pointer (some ⟨g_17, 0, none⟩)), (8, .int .i64 x_74), (9, .bool x_75), (10, .int .i64 x_76)] ∧ Sep w0 w_87 [N_73, Mem.one g_2 (.cells ([v_78, v_80] : List Value).toArray 25 (0, 0)), Mem.one g_17 (.cells ([v_83, v_85, .int .i64 x_82.cut, .bool x_82.dead] : List Value).toArray 58 (0, 0))] Z ∧ N_16.le N_73 ∧ Rd Kd.u8 N_73 v_78 x_77.A ∧ Rd Kd.u8 N_73 v_80 x_77.B ∧ Rd Kd.u8 N_73 v_83 x_82.d.A ∧ Rd Kd.u8 N_73 v_85 x_82.d.B) K ⟨(-1), false, 0, x_6, (⟨(⟨t_13.1, t_13.2.1⟩ : api_Disk), t_13.2.2.1, t_13.2.2.2⟩ : keep_Keep), v_7, v_9, v_18, v_20, N_16, H, hm, (Sep.sel hS [0, 1, 2] (by decide)), (Mem.le.refl _), (hr_8.mono le_16), (hr_10.mono le_16), (hr_19.mono ln_16), (hr_21.mono ln_16)⟩ (fun a w h => by obtain ⟨_, _, _, _, _, _, _, _, _, _, H, _⟩ := h; cases (show (none : Option (Unit)) = some r from H)) ?_
    clear hm hS a H
    rintro k_87 a w_87 KL_87 hKL_87 ⟨x_74, x_75, x_76, x_77, x_82, v_78, v_80, v_83, v_85, N_73, H, hm, hS, le_73, hr_79, hr_81, hr_84, hr_86⟩
    replace H : hocketlaw21_KeepPlays.B1 K x1 (fun v => hocketlaw21_KeepPlays.J2 K v.1 v.2) (hocketlaw21_KeepPlays.L1 K x1 (fun v => hocketlaw21_KeepPlays.J2 K v.1 v.2) k_87) x_74 x_75 x_76 x_77 x_82 = some r := H
    unfold hocketlaw21_KeepPlays.B1 at H
    refine c_seq fun KJ_89 hKJ_89 => ?_
    refine c_seq fun KJ_90 hKJ_90 => ?_
    have hJ_j_94 : ∀ (x_92 : Bool), hocketlaw21_KeepPlays.J3 K x1 x_76 x_82 (hocketlaw21_KeepPlays.L1 K x1 (fun v => hocketlaw21_KeepPlays.J2 K v.1 v.2) k_87) x_75 x_77 x_74 (fun v => hocketlaw21_KeepPlays.J2 K v.1 v.2) x_92 = some r → ∀ (a : Act) (w_93 : World), (∃ (N_91 : Mem), Fr 174 a [(1, p1_1), (4, .bool false), (5, .pointer (some ⟨g_2, 0, none⟩)), (7, .pointer (some ⟨g_17, 0, none⟩)), (8, .int .i64 x_74), (9, .bool x_75), (10, .int .i64 x_76), (53, .bool x_92)] ∧ Sep w0 w_93 [N_91, Mem.one g_2 (.cells ([v_78, v_80] : List Value).toArray 25 (0, 0)), Mem.one g_17 (.cells ([v_83, v_85, .int .i64 x_82.cut, .bool x_82.dead] : List Value).toArray 58 (0, 0))] Z ∧ N_73.le N_91) → KJ_90 a w_93 := by
      clear H hm hS a
      rintro x_92 H a w_93 ⟨N_91, hm, hS, le_91⟩
      unfold hocketlaw21_KeepPlays.J3 at H
      refine hKJ_90 _ _ ?_
      by_cases hc_95 : x_92 = true
      · rw [if_pos hc_95] at H
        refine c_cond_t hm rfl hc_95 ?_
        refine wp_skip ?_
        refine x_then_n (hKJ_89 _ _ ?_)
        refine c_seq fun KJ_96 hKJ_96 => ?_
        refine c_block ?_
        refine c_seq fun KJ_97 hKJ_97 => ?_
        refine wp_seq ?_
        refine wp_region_lit ?_
        refine s_move hm rfl rfl ?_
        clear hm a; intro a hm
        refine s_move hm rfl rfl ?_
        clear hm a; intro a hm
        obtain ⟨t_98, et_98, H⟩ := Option.bind_eq_some_iff.1 H
        refine v_index hm rfl Try.underlying22 ti3 rfl rfl rfl hp1_1 (hA.trans hS.old) et_98 ?_
        intro ad_99 cs_100 hk_101 hc_102
        obtain rfl := (show cs_100 = [.int .i64 t_98] from hk_101)
        clear hm a; intro a hm
        refine s_load hm rfl rfl (el_one (o := 0) hc_102 Try.underlying3 rfl rfl) ?_
        clear hm a; intro a hm
        refine s_bits (i := t_98) (j := 7) (r := band .i64 t_98 7) hm rfl rfl rfl (.inl ⟨rfl, rfl⟩) ?_
        clear hm a; intro a hm
        refine s_cmp (b := ((band .i64 t_98 7) == 0)) hm rfl rfl rfl (.inl ⟨rfl, rfl⟩) ?_
        clear hm a; intro a hm
        refine wpList_nil ?_
        replace hm : Fr 174 a [(1, p1_1), (4, .bool false), (5, .pointer (some ⟨g_2, 0, none⟩)), (7, .pointer (some ⟨g_17, 0, none⟩)), (8, .int .i64 x_74), (9, .bool x_75), (10, .int .i64 x_76), (61, .bool ((band .i64 t_98 7) == 0))] := hm.keep [1, 4, 5, 7, 8, 9, 10, 61]
        refine x_then_n ?_
        have hJ_j_117 : ∀ (x_104 : Int), ∀ (x_105 : Bool), ∀ (x_106 : api_Disk), ∀ (x_111 : keep_Keep), hocketlaw21_KeepPlays.J4 K (hocketlaw21_KeepPlays.L1 K x1 (fun v => hocketlaw21_KeepPlays.J2 K v.1 v.2) k_87) x_76 x_104 x_105 x_106 x_111 = some r → ∀ (a : Act) (w_116 : World), (∃ (v_107 : Value) (v_109 : Value) (v_112 : Value) (v_114 : Value) (N_103 : Mem), Fr 174 a [(1, p1_1), (4, .bool false), (5, .pointer (some ⟨g_2, 0, none⟩)), (7, .pointer (some ⟨g_17, 0, none⟩)), (8, .int .i64 x_104), (9, .bool x_105), (10, .int .i64 x_76)] ∧ Sep w0 w_116 [N_103, Mem.one g_2 (.cells ([v_107, v_109] : List Value).toArray 25 (0, 0)), Mem.one g_17 (.cells ([v_112, v_114, .int .i64 x_111.cut, .bool x_111.dead] : List Value).toArray 58 (0, 0))] Z ∧ N_91.le N_103 ∧ Rd Kd.u8 N_103 v_107 x_106.A ∧ Rd Kd.u8 N_103 v_109 x_106.B ∧ Rd Kd.u8 N_103 v_112 x_111.d.A ∧ Rd Kd.u8 N_103 v_114 x_111.d.B) → KJ_97 a w_116 := by
          clear H hm hS a
          rintro x_104 x_105 x_106 x_111 H a w_116 ⟨v_107, v_109, v_112, v_114, N_103, hm, hS, le_103, hr_108, hr_110, hr_113, hr_115⟩
          unfold hocketlaw21_KeepPlays.J4 at H
          refine hKJ_97 _ _ ?_
          refine wp_seq ?_
          refine wp_region_lit ?_
          refine s_move hm rfl rfl ?_
          clear hm a; intro a hm
          obtain ⟨t_118, et_118, H⟩ := Option.bind_eq_some_iff.1 H
          refine s_call hm rfl Try.call23 rfl (keep_Keep_Record.calls K _ x_111.d.A _ x_111.d.B _ x_111.cut x_111.dead t_118 w0 _ _ N_103 (hS.new_zed [1]) (hS.enter [1] (by decide)) hr_113 hr_115 et_118) ?_
          rintro _ w_119 ⟨v_122, v_124, N_120, rfl, hS', hr_123, hr_125⟩
          clear hm a; intro a hm
          obtain ⟨N_121, hS'', le_121, ln_121⟩ := hS.call [1] (by decide) rfl (l' := [Mem.one g_17 (.cells ([v_122, v_124, .int .i64 t_118.2.2.2.2.1, .bool t_118.2.2.2.2.2] : List Value).toArray 58 (0, 0))]) (ow := []) rfl hS'
          replace hS : Sep w0 w_119 [N_121, Mem.one g_2 (.cells ([v_107, v_109] : List Value).toArray 25 (0, 0)), Mem.one g_17 (.cells ([v_122, v_124, .int .i64 t_118.2.2.2.2.1, .bool t_118.2.2.2.2.2] : List Value).toArray 58 (0, 0))] Z := hS''
          clear hS' hS''
          refine s_move hm rfl rfl ?_
          clear hm a; intro a hm
          refine s_extract hm rfl rfl rfl ?_
          clear hm a; intro a hm
          refine s_extract hm rfl rfl rfl ?_
          clear hm a; intro a hm
          refine v_alloc hm rfl ti28 hS ?_
          intro w_126 g_127 hS'
          clear hm a; intro a hm
          replace hS : Sep w0 w_126 [N_121, Mem.one g_2 (.cells ([v_107, v_109] : List Value).toArray 25 (0, 0)), Mem.one g_17 (.cells ([v_122, v_124, .int .i64 t_118.2.2.2.2.1, .bool t_118.2.2.2.2.2] : List Value).toArray 58 (0, 0)), Mem.one g_127 (.cells ([.int .i64 0, .int .i64 0, .int .i64 0] : List Value).toArray 28 (0, 0))] Z := hS'
          clear hS'
          obtain ⟨w_128, hs', hS'⟩ := hS.store (P := Try.prog) (p := 3) (o := 0) (t := 28) (v := .agg [.int .i64 t_118.1.Inc, .int .i64 t_118.1.Prom, .int .i64 t_118.1.Inst].toArray) (vs := [.int .i64 t_118.1.Inc, .int .i64 t_118.1.Prom, .int .i64 t_118.1.Inst]) rfl ti28 rfl rfl rfl (by intro u hu; simp only [List.mem_cons, List.not_mem_nil, or_false] at hu; rcases hu with rfl | rfl | rfl <;> rfl)
          refine s_store hm rfl rfl hs' ?_
          replace hS : Sep w0 w_128 [N_121, Mem.one g_2 (.cells ([v_107, v_109] : List Value).toArray 25 (0, 0)), Mem.one g_17 (.cells ([v_122, v_124, .int .i64 t_118.2.2.2.2.1, .bool t_118.2.2.2.2.2] : List Value).toArray 58 (0, 0)), Mem.one g_127 (.cells ([.int .i64 t_118.1.Inc, .int .i64 t_118.1.Prom, .int .i64 t_118.1.Inst] : List Value).toArray 28 (0, 0))] Z := hS'
          clear hs' hS'
          refine s_assign hm rfl rfl ?_
          clear hm a; intro a hm
          refine wpList_nil ?_
          replace hm : Fr 174 a [(1, p1_1), (4, .bool false), (5, .pointer (some ⟨g_2, 0, none⟩)), (7, .pointer (some ⟨g_17, 0, none⟩)), (8, .int .i64 x_104), (9, .bool x_105), (10, .int .i64 x_76), (16, .pointer (some ⟨g_127, 0, none⟩)), (17, .bool t_118.2.1)] := hm.keep [1, 4, 5, 7, 8, 9, 10, 16, 17]
          refine x_then_n ?_
          refine wp_seq ?_
          refine wp_region_lit ?_
          refine s_load hm rfl rfl (hS.load_agg (p := 1) (us := [v_107, v_109]) rfl Try.underlying25 rfl ti25 rfl rfl) ?_
          clear hm a; intro a hm
          obtain ⟨t_129, et_129, H⟩ := Option.bind_eq_some_iff.1 H
          refine s_call hm rfl Try.call15 rfl (hocketref11_ReadDisk.calls K x_106 _ _ t_129 w0 _ _ _ (Mem.le.refl _) (hS.enter [] (by decide)) (hr_108.mono (le_121.trans (hS.new_zed []))) (hr_110.mono (le_121.trans (hS.new_zed []))) et_129) ?_
          rintro _ w_130 ⟨N_131, rfl, hS'⟩
          clear hm a; intro a hm
          obtain ⟨N_132, hS'', le_132, ln_132⟩ := hS.call [] (by decide) rfl (l' := []) (ow := []) rfl hS'
          replace hS : Sep w0 w_130 [N_132, Mem.one g_2 (.cells ([v_107, v_109] : List Value).toArray 25 (0, 0)), Mem.one g_17 (.cells ([v_122, v_124, .int .i64 t_118.2.2.2.2.1, .bool t_118.2.2.2.2.2] : List Value).toArray 58 (0, 0)), Mem.one g_127 (.cells ([.int .i64 t_118.1.Inc, .int .i64 t_118.1.Prom, .int .i64 t_118.1.Inst] : List Value).toArray 28 (0, 0))] Z := hS''
          clear hS' hS''
          refine s_move hm rfl rfl ?_
          clear hm a; intro a hm
          refine s_extract hm rfl rfl rfl ?_
          clear hm a; intro a hm
          refine s_extract hm rfl rfl rfl ?_
          clear hm a; intro a hm
          refine v_alloc hm rfl ti28 hS ?_
          intro w_133 g_134 hS'
          clear hm a; intro a hm
          replace hS : Sep w0 w_133 [N_132, Mem.one g_2 (.cells ([v_107, v_109] : List Value).toArray 25 (0, 0)), Mem.one g_17 (.cells ([v_122, v_124, .int .i64 t_118.2.2.2.2.1, .bool t_118.2.2.2.2.2] : List Value).toArray 58 (0, 0)), Mem.one g_127 (.cells ([.int .i64 t_118.1.Inc, .int .i64 t_118.1.Prom, .int .i64 t_118.1.Inst] : List Value).toArray 28 (0, 0)), Mem.one g_134 (.cells ([.int .i64 0, .int .i64 0, .int .i64 0] : List Value).toArray 28 (0, 0))] Z := hS'
          clear hS'
          obtain ⟨w_135, hs', hS'⟩ := hS.store (P := Try.prog) (p := 4) (o := 0) (t := 28) (v := .agg [.int .i64 t_129.1.Inc, .int .i64 t_129.1.Prom, .int .i64 t_129.1.Inst].toArray) (vs := [.int .i64 t_129.1.Inc, .int .i64 t_129.1.Prom, .int .i64 t_129.1.Inst]) rfl ti28 rfl rfl rfl (by intro u hu; simp only [List.mem_cons, List.not_mem_nil, or_false] at hu; rcases hu with rfl | rfl | rfl <;> rfl)
          refine s_store hm rfl rfl hs' ?_
          replace hS : Sep w0 w_135 [N_132, Mem.one g_2 (.cells ([v_107, v_109] : List Value).toArray 25 (0, 0)), Mem.one g_17 (.cells ([v_122, v_124, .int .i64 t_118.2.2.2.2.1, .bool t_118.2.2.2.2.2] : List Value).toArray 58 (0, 0)), Mem.one g_127 (.cells ([.int .i64 t_118.1.Inc, .int .i64 t_118.1.Prom, .int .i64 t_118.1.Inst] : List Value).toArray 28 (0, 0)), Mem.one g_134 (.cells ([.int .i64 t_129.1.Inc, .int .i64 t_129.1.Prom, .int .i64 t_129.1.Inst] : List Value).toArray 28 (0, 0))] Z := hS'
          clear hs' hS'
          refine s_assign hm rfl rfl ?_
          clear hm a; intro a hm
          refine wpList_nil ?_
          replace hm : Fr 174 a [(1, p1_1), (4, .bool false), (5, .pointer (some ⟨g_2, 0, none⟩)), (7, .pointer (some ⟨g_17, 0, none⟩)), (8, .int .i64 x_104), (9, .bool x_105), (10, .int .i64 x_76), (16, .pointer (some ⟨g_127, 0, none⟩)), (17, .bool t_118.2.1), (18, .pointer (some ⟨g_134, 0, none⟩)), (19, .bool t_129.2)] := hm.keep [1, 4, 5, 7, 8, 9, 10, 16, 17, 18, 19]
          refine x_then_n ?_
          refine c_seq fun KJ_136 hKJ_136 => ?_
          have hJ_j_145 : ∀ (x_138 : Bool), ∀ (x_139 : keep_Keep), hocketlaw21_KeepPlays.J5 K (hocketlaw21_KeepPlays.L1 K x1 (fun v => hocketlaw21_KeepPlays.J2 K v.1 v.2) k_87) x_104 x_105 x_76 x_106 x_138 x_139 = some r → ∀ (a : Act) (w_144 : World), (∃ (v_140 : Value) (v_142 : Value) (N_137 : Mem), Fr 174 a [(1, p1_1), (4, .bool false), (5, .pointer (some ⟨g_2, 0, none⟩)), (7, .pointer (some ⟨g_17, 0, none⟩)), (8, .int .i64 x_104), (9, .bool x_105), (10, .int .i64 x_76), (156, .bool x_138)] ∧ Sep w0 w_144 [N_137, Mem.one g_2 (.cells ([v_107, v_109] : List Value).toArray 25 (0, 0)), Mem.one g_17 (.cells ([v_140, v_142, .int .i64 x_139.cut, .bool x_139.dead] : List Value).toArray 58 (0, 0)), Mem.no, Mem.no] Z ∧ N_132.le N_137 ∧ Rd Kd.u8 N_137 v_140 x_139.d.A ∧ Rd Kd.u8 N_137 v_142 x_139.d.B) → KJ_136 a w_144 := by
            clear H hm hS a
            rintro x_138 x_139 H a w_144 ⟨v_140, v_142, N_137, hm, hS, le_137, hr_141, hr_143⟩
            unfold hocketlaw21_KeepPlays.J5 at H
            refine hKJ_136 _ _ ?_
            by_cases hc_146 : x_138 = true
            · rw [if_pos hc_146] at H
              cases H
            · rw [if_neg hc_146] at H
              refine c_cond_f hm rfl (Bool.eq_false_iff.2 hc_146) ?_
              refine wp_skip ?_
              refine x_block_n ?_
              refine x_then_n (hKJ_96 _ _ ?_)
              refine wp_region_lit ?_
              refine s_move hm rfl rfl ?_
              clear hm a; intro a hm
              refine s_arith (r := w64 (x_76 + 1)) hm rfl rfl rfl (.inl ⟨rfl, rfl⟩) ?_
              clear hm a; intro a hm
              refine s_assign hm rfl rfl ?_
              clear hm a; intro a hm
              refine wpList_nil ?_
              replace hm : Fr 174 a [(1, p1_1), (4, .bool false), (5, .pointer (some ⟨g_2, 0, none⟩)), (7, .pointer (some ⟨g_17, 0, none⟩)), (8, .int .i64 x_104), (9, .bool x_105), (10, .int .i64 (w64 (x_76 + 1)))] := hm.keep [1, 4, 5, 7, 8, 9, 10]
              refine x_then_n (hKL_87 _ _ ?_)
              replace hS : Sep w0 w_144 [N_137, Mem.one g_2 (.cells ([v_107, v_109] : List Value).toArray 25 (0, 0)), Mem.one g_17 (.cells ([v_140, v_142, .int .i64 x_139.cut, .bool x_139.dead] : List Value).toArray 58 (0, 0)), Mem.no, Mem.no] Z := hS
              replace hm : Fr 174 a [(1, p1_1), (4, .bool false), (5, .pointer (some ⟨g_2, 0, none⟩)), (7, .pointer (some ⟨g_17, 0, none⟩)), (8, .int .i64 x_104), (9, .bool x_105), (10, .int .i64 (w64 (x_76 + 1)))] := hm.keep [1, 4, 5, 7, 8, 9, 10]
              exact ⟨x_104, x_105, w64 (x_76 + 1), x_106, x_139, v_107, v_109, v_140, v_142, N_137, H, hm, (Sep.sel hS [0, 1, 2] (by decide)), (le_73.trans (le_91.trans (le_103.trans (le_121.trans (le_132.trans le_137))))), (hr_108.mono (le_121.trans (le_132.trans le_137))), (hr_110.mono (le_121.trans (le_132.trans le_137))), hr_141, hr_143⟩
          clear hKJ_136
          refine h_begin (S := fun w => Sep w0 w [N_132, Mem.one g_2 (.cells ([v_107, v_109] : List Value).toArray 25 (0, 0)), Mem.no, Mem.one g_127 (.cells ([.int .i64 t_118.1.Inc, .int .i64 t_118.1.Prom, .int .i64 t_118.1.Inst] : List Value).toArray 28 (0, 0)), Mem.one g_134 (.cells ([.int .i64 t_129.1.Inc, .int .i64 t_129.1.Prom, .int .i64 t_129.1.Inst] : List Value).toArray 28 (0, 0))] Z) 21 (by kernel_rfl) rfl [false, false, false, false, false, false, false, false, false, false, false, false, false, false, false, false, false, false, false, false, false].toArray rfl hS fun w_147 hS => ?_
          replace hS : Sep w0 w_147 [N_132, Mem.one g_2 (.cells ([v_107, v_109] : List Value).toArray 25 (0, 0)), Mem.one g_17 (.cells ([v_122, v_124, .int .i64 t_118.2.2.2.2.1, .bool t_118.2.2.2.2.2] : List Value).toArray 58 (0, 0)), Mem.one g_127 (.cells ([.int .i64 t_118.1.Inc, .int .i64 t_118.1.Prom, .int .i64 t_118.1.Inst] : List Value).toArray 28 (0, 0)), Mem.one g_134 (.cells ([.int .i64 t_129.1.Inc, .int .i64 t_129.1.Prom, .int .i64 t_129.1.Inst] : List Value).toArray 28 (0, 0))] Z := hS
          refine h_take 0 [true, false, false, false, false, false, false, false, false, false, false, false, false, false, false, false, false, false, false, false, false].toArray rfl (by kernel_rfl) (by kernel_rfl) (by kernel_rfl) (fun _ _ _ _ h => h) rfl rfl rfl rfl hm (hS.sub (.cons (Mem.le.refl _) (.cons (Mem.le.refl _) (.cons (Mem.no_le _) (.cons (Mem.le.refl _) (.cons (Mem.le.refl _) (Sub.nil _))))))) (v := .pointer (some ⟨g_17, 0, none⟩)) (fun w hS => r_move hm rfl) ?_
          clear hm a; intro a hm
          refine h_take 2 [true, false, true, false, false, false, false, false, false, false, false, false, false, false, false, false, false, false, false, false, false].toArray rfl (by kernel_rfl) (by kernel_rfl) (by kernel_rfl) (fun _ _ _ _ h => h) rfl rfl rfl rfl hm (hS.sub (.cons (Mem.le.refl _) (.cons (Mem.le.refl _) (.cons (Mem.no_le _) (.cons (Mem.le.refl _) (.cons (Mem.le.refl _) (Sub.nil _))))))) (v := .agg [v_107, v_109].toArray) (fun w hS => r_load hm rfl (hS.load_agg (p := 1) (us := [v_107, v_109]) rfl Try.underlying25 rfl ti25 rfl rfl)) ?_
          clear hm a; intro a hm
          refine h_event 1 [true, true, true, false, false, false, false, false, false, false, false, false, false, false, false, false, false, false, false, false, false].toArray rfl (by kernel_rfl) rfl ?_
          obtain ⟨t_148, et_148, H⟩ := Option.bind_eq_some_iff.1 H
          refine s_call hm rfl Try.call24 rfl (keep_Keep_Disk.calls _ t_118.2.2.1 _ t_118.2.2.2.1 _ t_118.2.2.2.2.1 t_118.2.2.2.2.2 t_148 w0 _ _ N_132 (hS.new_zed [1]) (hS.enter [1] (by decide)) ((hr_123.mono (Mem.un_le le_121 ln_121)).mono le_132) ((hr_125.mono (Mem.un_le le_121 ln_121)).mono le_132) et_148) ?_
          rintro _ w_149 ⟨v_152, v_156, v_160, v_162, N_150, M_154, M_158, rfl, hS', hr_153, hr_157, hr_161, hr_163⟩
          clear hm a; intro a hm
          obtain ⟨N_151, hS'', le_151, ln_151⟩ := hS.call [1] (by decide) rfl (l' := [Mem.one g_17 (.cells ([v_160, v_162, .int .i64 t_148.2.2.2.1, .bool t_148.2.2.2.2] : List Value).toArray 58 (0, 0))]) (ow := [M_154, M_158]) rfl hS'
          replace hS : Sep w0 w_149 [N_151, Mem.one g_2 (.cells ([v_107, v_109] : List Value).toArray 25 (0, 0)), Mem.one g_17 (.cells ([v_160, v_162, .int .i64 t_148.2.2.2.1, .bool t_148.2.2.2.2] : List Value).toArray 58 (0, 0)), Mem.one g_127 (.cells ([.int .i64 t_118.1.Inc, .int .i64 t_118.1.Prom, .int .i64 t_118.1.Inst] : List Value).toArray 28 (0, 0)), Mem.one g_134 (.cells ([.int .i64 t_129.1.Inc, .int .i64 t_129.1.Prom, .int .i64 t_129.1.Inst] : List Value).toArray 28 (0, 0)), M_154, M_158] Z := hS''
          clear hS' hS''
          refine wpList_nil ?_
          refine x_then_n ⟨(hS.sub (.cons le_151 (.cons (Mem.le.refl _) (.cons (Mem.no_le _) (.cons (Mem.le.refl _) (.cons (Mem.le.refl _) (Sub.nil _))))))), ?_⟩
          refine h_event 3 [true, true, true, true, false, false, false, false, false, false, false, false, false, false, false, false, false, false, false, false, false].toArray rfl (by kernel_rfl) rfl ?_
          obtain ⟨t_164, et_164, H⟩ := Option.bind_eq_some_iff.1 H
          refine s_call hm rfl Try.call18 rfl (hocketref11_SameDisk.calls t_148.1 _ _ x_106 _ _ t_164 w0 _ _ _ (Mem.le.refl _) (hS.enter [] (by decide)) (hr_153.rd (hS.own_zed [] 4 (by decide)) (Mem.no_le _)) (hr_157.rd (hS.own_zed [] 5 (by decide)) (Mem.no_le _)) (hr_108.mono ((le_121.trans (le_132.trans le_151)).trans (hS.new_zed []))) (hr_110.mono ((le_121.trans (le_132.trans le_151)).trans (hS.new_zed []))) et_164) ?_
          rintro _ w_165 ⟨N_166, rfl, hS'⟩
          clear hm a; intro a hm
          obtain ⟨N_167, hS'', le_167, ln_167⟩ := hS.call [] (by decide) rfl (l' := []) (ow := []) rfl hS'
          replace hS : Sep w0 w_165 [N_167, Mem.one g_2 (.cells ([v_107, v_109] : List Value).toArray 25 (0, 0)), Mem.one g_17 (.cells ([v_160, v_162, .int .i64 t_148.2.2.2.1, .bool t_148.2.2.2.2] : List Value).toArray 58 (0, 0)), Mem.one g_127 (.cells ([.int .i64 t_118.1.Inc, .int .i64 t_118.1.Prom, .int .i64 t_118.1.Inst] : List Value).toArray 28 (0, 0)), Mem.one g_134 (.cells ([.int .i64 t_129.1.Inc, .int .i64 t_129.1.Prom, .int .i64 t_129.1.Inst] : List Value).toArray 28 (0, 0)), M_154, M_158] Z := hS''
          clear hS' hS''
          refine wpList_nil ?_
          refine x_then_n ⟨(hS.sub (.cons (le_151.trans le_167) (.cons (Mem.le.refl _) (.cons (Mem.no_le _) (.cons (Mem.le.refl _) (.cons (Mem.le.refl _) (Sub.nil _))))))), ?_⟩
          refine h_take 4 [true, true, true, true, true, false, false, false, false, false, false, false, false, false, false, false, false, false, false, false, false].toArray rfl (by kernel_rfl) (by kernel_rfl) (by kernel_rfl) (fun _ _ _ _ h => h) rfl rfl rfl rfl hm (hS.sub (.cons (le_151.trans le_167) (.cons (Mem.le.refl _) (.cons (Mem.no_le _) (.cons (Mem.le.refl _) (.cons (Mem.le.refl _) (Sub.nil _))))))) (v := .bool (!t_164)) (fun w hS => r_not hm rfl) ?_
          clear hm a; intro a hm
          refine h_take 5 [true, true, true, true, true, true, false, false, false, false, false, false, false, false, false, false, false, false, false, false, false].toArray rfl (by kernel_rfl) (by kernel_rfl) (by kernel_rfl) (fun _ _ _ _ h => h) rfl rfl rfl rfl hm (hS.sub (.cons (le_151.trans le_167) (.cons (Mem.le.refl _) (.cons (Mem.no_le _) (.cons (Mem.le.refl _) (.cons (Mem.le.refl _) (Sub.nil _))))))) (v := .bool (!t_164)) (fun w hS => r_move hm rfl) ?_
          clear hm a; intro a hm
          by_cases hc_168 : t_164 = true
          · rw [if_pos hc_168] at H
            refine h_take_on 6 [true, true, true, true, true, true, true, false, false, false, false, false, false, false, false, false, false, false, false, false, false].toArray rfl (by kernel_rfl) (by kernel_rfl) (by kernel_rfl) (fun _ _ _ _ h => h) rfl rfl rfl rfl (nf hc_168) rfl rfl hm (hS.sub (.cons (le_151.trans le_167) (.cons (Mem.le.refl _) (.cons (Mem.no_le _) (.cons (Mem.le.refl _) (.cons (Mem.le.refl _) (Sub.nil _))))))) (v := .pointer (some ⟨g_17, 0, none⟩)) (fun w hS => r_move hm rfl) ?_
            clear hm a; intro a hm
            refine h_take_on 8 [true, true, true, true, true, true, true, false, true, false, false, false, false, false, false, false, false, false, false, false, false].toArray rfl (by kernel_rfl) (by kernel_rfl) (by kernel_rfl) (fun _ _ _ _ h => h) rfl rfl rfl rfl (nf hc_168) rfl rfl hm (hS.sub (.cons (le_151.trans le_167) (.cons (Mem.le.refl _) (.cons (Mem.no_le _) (.cons (Mem.le.refl _) (.cons (Mem.le.refl _) (Sub.nil _))))))) (v := .bool x_105) (fun w hS => r_move hm rfl) ?_
            clear hm a; intro a hm
            refine h_event 7 [true, true, true, true, true, true, true, true, true, false, false, false, false, false, false, false, false, false, false, false, false].toArray rfl (by kernel_rfl) rfl ?_
            refine s_on hm rfl rfl (nf hc_168) ?_
            obtain ⟨t_169, et_169, H⟩ := Option.bind_eq_some_iff.1 H
            refine s_call hm rfl Try.call22 rfl (keep_Keep_Dead.calls _ t_148.2.1 _ t_148.2.2.1 _ t_148.2.2.2.1 t_148.2.2.2.2 t_169 w0 _ _ N_167 (hS.new_zed [1]) (hS.enter [1] (by decide)) ((hr_161.mono (Mem.un_le le_151 ln_151)).mono le_167) ((hr_163.mono (Mem.un_le le_151 ln_151)).mono le_167) et_169) ?_
            rintro _ w_170 ⟨v_173, v_175, N_171, rfl, hS', hr_174, hr_176⟩
            clear hm a; intro a hm
            obtain ⟨N_172, hS'', le_172, ln_172⟩ := hS.call [1] (by decide) rfl (l' := [Mem.one g_17 (.cells ([v_173, v_175, .int .i64 t_169.2.2.2.1, .bool t_169.2.2.2.2] : List Value).toArray 58 (0, 0))]) (ow := []) rfl hS'
            replace hS : Sep w0 w_170 [N_172, Mem.one g_2 (.cells ([v_107, v_109] : List Value).toArray 25 (0, 0)), Mem.one g_17 (.cells ([v_173, v_175, .int .i64 t_169.2.2.2.1, .bool t_169.2.2.2.2] : List Value).toArray 58 (0, 0)), Mem.one g_127 (.cells ([.int .i64 t_118.1.Inc, .int .i64 t_118.1.Prom, .int .i64 t_118.1.Inst] : List Value).toArray 28 (0, 0)), Mem.one g_134 (.cells ([.int .i64 t_129.1.Inc, .int .i64 t_129.1.Prom, .int .i64 t_129.1.Inst] : List Value).toArray 28 (0, 0)), M_154, M_158] Z := hS''
            clear hS' hS''
            refine wpList_nil ?_
            refine x_then_n ⟨(hS.sub (.cons (le_151.trans (le_167.trans le_172)) (.cons (Mem.le.refl _) (.cons (Mem.no_le _) (.cons (Mem.le.refl _) (.cons (Mem.le.refl _) (Sub.nil _))))))), ?_⟩
            refine h_take_on 9 [true, true, true, true, true, true, true, true, true, true, false, false, false, false, false, false, false, false, false, false, false].toArray rfl (by kernel_rfl) (by kernel_rfl) (by kernel_rfl) (fun _ _ _ _ h => h) rfl rfl rfl rfl (nf hc_168) rfl rfl hm (hS.sub (.cons (le_151.trans (le_167.trans le_172)) (.cons (Mem.le.refl _) (.cons (Mem.no_le _) (.cons (Mem.le.refl _) (.cons (Mem.le.refl _) (Sub.nil _))))))) (v := .bool (!(t_169.1 == x_105))) (fun w hS => r_beq (b := !(t_169.1 == x_105)) hm Try.underlying4 rfl rfl (.inr ⟨rfl, rfl⟩)) ?_
            clear hm a; intro a hm
            refine h_take 10 [true, true, true, true, true, true, true, true, true, true, true, false, false, false, false, false, false, false, false, false, false].toArray rfl (by kernel_rfl) (by kernel_rfl) (by kernel_rfl) (fun _ _ _ _ h => h) rfl rfl rfl rfl hm (hS.sub (.cons (le_151.trans (le_167.trans le_172)) (.cons (Mem.le.refl _) (.cons (Mem.no_le _) (.cons (Mem.le.refl _) (.cons (Mem.le.refl _) (Sub.nil _))))))) (v := .bool (!(t_169.1 == x_105))) (fun w hS => r_pick_f hm rfl (nf hc_168) rfl) ?_
            clear hm a; intro a hm
            refine h_take 11 [true, true, true, true, true, true, true, true, true, true, true, true, false, false, false, false, false, false, false, false, false].toArray rfl (by kernel_rfl) (by kernel_rfl) (by kernel_rfl) (fun _ _ _ _ h => h) rfl rfl rfl rfl hm (hS.sub (.cons (le_151.trans (le_167.trans le_172)) (.cons (Mem.le.refl _) (.cons (Mem.no_le _) (.cons (Mem.le.refl _) (.cons (Mem.le.refl _) (Sub.nil _))))))) (v := .bool (!(t_169.1 == x_105))) (fun w hS => r_move hm rfl) ?_
            clear hm a; intro a hm
            by_cases hc_177 : t_169.1 = x_105
            · rw [if_pos hc_177] at H
              refine h_take_on 12 [true, true, true, true, true, true, true, true, true, true, true, true, true, false, false, false, false, false, false, false, false].toArray rfl (by kernel_rfl) (by kernel_rfl) (by kernel_rfl) (fun _ _ _ _ h => h) rfl rfl rfl rfl (nf (beq_iff_eq.2 hc_177)) rfl rfl hm (hS.sub (.cons (le_151.trans (le_167.trans le_172)) (.cons (Mem.le.refl _) (.cons (Mem.no_le _) (.cons (Mem.le.refl _) (.cons (Mem.le.refl _) (Sub.nil _))))))) (v := .agg [.int .i64 t_118.1.Inc, .int .i64 t_118.1.Prom, .int .i64 t_118.1.Inst].toArray) (fun w hS => r_load hm rfl (hS.load_agg (p := 3) (us := [.int .i64 t_118.1.Inc, .int .i64 t_118.1.Prom, .int .i64 t_118.1.Inst]) rfl Try.underlying28 rfl ti28 rfl rfl)) ?_
              clear hm a; intro a hm
              refine h_take_on 13 [true, true, true, true, true, true, true, true, true, true, true, true, true, true, false, false, false, false, false, false, false].toArray rfl (by kernel_rfl) (by kernel_rfl) (by kernel_rfl) (fun _ _ _ _ h => h) rfl rfl rfl rfl (nf (beq_iff_eq.2 hc_177)) rfl rfl hm (hS.sub (.cons (le_151.trans (le_167.trans le_172)) (.cons (Mem.le.refl _) (.cons (Mem.no_le _) (.cons (Mem.le.refl _) (.cons (Mem.le.refl _) (Sub.nil _))))))) (v := .agg [.int .i64 t_129.1.Inc, .int .i64 t_129.1.Prom, .int .i64 t_129.1.Inst].toArray) (fun w hS => r_load hm rfl (hS.load_agg (p := 4) (us := [.int .i64 t_129.1.Inc, .int .i64 t_129.1.Prom, .int .i64 t_129.1.Inst]) rfl Try.underlying28 rfl ti28 rfl rfl)) ?_
              clear hm a; intro a hm
              refine h_take_on 14 [true, true, true, true, true, true, true, true, true, true, true, true, true, true, true, false, false, false, false, false, false].toArray rfl (by kernel_rfl) (by kernel_rfl) (by kernel_rfl) (fun _ _ _ _ h => h) rfl rfl rfl rfl (nf (beq_iff_eq.2 hc_177)) rfl rfl hm (hS.sub (.cons (le_151.trans (le_167.trans le_172)) (.cons (Mem.le.refl _) (.cons (Mem.no_le _) (.cons (Mem.le.refl _) (.cons (Mem.le.refl _) (Sub.nil _))))))) (v := .bool (!([t_118.1.Inc, t_118.1.Prom, t_118.1.Inst] == [t_129.1.Inc, t_129.1.Prom, t_129.1.Inst]))) (fun w hS => r_structEq (xs := [t_118.1.Inc, t_118.1.Prom, t_118.1.Inst]) (ys := [t_129.1.Inc, t_129.1.Prom, t_129.1.Inst]) (b := !([t_118.1.Inc, t_118.1.Prom, t_118.1.Inst] == [t_129.1.Inc, t_129.1.Prom, t_129.1.Inst])) hm Try.underlying28 (by kernel_rfl) (by kernel_rfl) ⟨rfl, rfl, Try.underlying3, rfl, rfl, Try.underlying3, rfl, rfl, Try.underlying3, trivial⟩ rfl rfl rfl rfl (.inr ⟨rfl, rfl⟩)) ?_
              clear hm a; intro a hm
              refine h_take 15 [true, true, true, true, true, true, true, true, true, true, true, true, true, true, true, true, false, false, false, false, false].toArray rfl (by kernel_rfl) (by kernel_rfl) (by kernel_rfl) (fun _ _ _ _ h => h) rfl rfl rfl rfl hm (hS.sub (.cons (le_151.trans (le_167.trans le_172)) (.cons (Mem.le.refl _) (.cons (Mem.no_le _) (.cons (Mem.le.refl _) (.cons (Mem.le.refl _) (Sub.nil _))))))) (v := .bool (!([t_118.1.Inc, t_118.1.Prom, t_118.1.Inst] == [t_129.1.Inc, t_129.1.Prom, t_129.1.Inst]))) (fun w hS => r_pick_f hm rfl (nf (beq_iff_eq.2 hc_177)) rfl) ?_
              clear hm a; intro a hm
              refine h_take 16 [true, true, true, true, true, true, true, true, true, true, true, true, true, true, true, true, true, false, false, false, false].toArray rfl (by kernel_rfl) (by kernel_rfl) (by kernel_rfl) (fun _ _ _ _ h => h) rfl rfl rfl rfl hm (hS.sub (.cons (le_151.trans (le_167.trans le_172)) (.cons (Mem.le.refl _) (.cons (Mem.no_le _) (.cons (Mem.le.refl _) (.cons (Mem.le.refl _) (Sub.nil _))))))) (v := .bool (!([t_118.1.Inc, t_118.1.Prom, t_118.1.Inst] == [t_129.1.Inc, t_129.1.Prom, t_129.1.Inst]))) (fun w hS => r_move hm rfl) ?_
              clear hm a; intro a hm
              by_cases hc_178 : [t_118.1.Inc, t_118.1.Prom, t_118.1.Inst] = [t_129.1.Inc, t_129.1.Prom, t_129.1.Inst]
              · rw [if_pos hc_178] at H
                refine h_take_on 17 [true, true, true, true, true, true, true, true, true, true, true, true, true, true, true, true, true, true, false, false, false].toArray rfl (by kernel_rfl) (by kernel_rfl) (by kernel_rfl) (fun _ _ _ _ h => h) rfl rfl rfl rfl (nf (beq_iff_eq.2 hc_178)) rfl rfl hm (hS.sub (.cons (le_151.trans (le_167.trans le_172)) (.cons (Mem.le.refl _) (.cons (Mem.no_le _) (.cons (Mem.le.refl _) (.cons (Mem.le.refl _) (Sub.nil _))))))) (v := .bool t_118.2.1) (fun w hS => r_move hm rfl) ?_
                clear hm a; intro a hm
                refine h_take_on 18 [true, true, true, true, true, true, true, true, true, true, true, true, true, true, true, true, true, true, true, false, false].toArray rfl (by kernel_rfl) (by kernel_rfl) (by kernel_rfl) (fun _ _ _ _ h => h) rfl rfl rfl rfl (nf (beq_iff_eq.2 hc_178)) rfl rfl hm (hS.sub (.cons (le_151.trans (le_167.trans le_172)) (.cons (Mem.le.refl _) (.cons (Mem.no_le _) (.cons (Mem.le.refl _) (.cons (Mem.le.refl _) (Sub.nil _))))))) (v := .bool t_129.2) (fun w hS => r_move hm rfl) ?_
                clear hm a; intro a hm
                refine h_take_on 19 [true, true, true, true, true, true, true, true, true, true, true, true, true, true, true, true, true, true, true, true, false].toArray rfl (by kernel_rfl) (by kernel_rfl) (by kernel_rfl) (fun _ _ _ _ h => h) rfl rfl rfl rfl (nf (beq_iff_eq.2 hc_178)) rfl rfl hm (hS.sub (.cons (le_151.trans (le_167.trans le_172)) (.cons (Mem.le.refl _) (.cons (Mem.no_le _) (.cons (Mem.le.refl _) (.cons (Mem.le.refl _) (Sub.nil _))))))) (v := .bool (!(t_118.2.1 == t_129.2))) (fun w hS => r_beq (b := !(t_118.2.1 == t_129.2)) hm Try.underlying4 rfl rfl (.inr ⟨rfl, rfl⟩)) ?_
                clear hm a; intro a hm
                refine h_take 20 [true, true, true, true, true, true, true, true, true, true, true, true, true, true, true, true, true, true, true, true, true].toArray rfl (by kernel_rfl) (by kernel_rfl) (by kernel_rfl) (fun _ _ _ _ h => h) rfl rfl rfl rfl hm (hS.sub (.cons (le_151.trans (le_167.trans le_172)) (.cons (Mem.le.refl _) (.cons (Mem.no_le _) (.cons (Mem.le.refl _) (.cons (Mem.le.refl _) (Sub.nil _))))))) (v := .bool (!(t_118.2.1 == t_129.2))) (fun w hS => r_pick_f hm rfl (nf (beq_iff_eq.2 hc_178)) rfl) ?_
                clear hm a; intro a hm
                refine h_done (by kernel_rfl) ?_
                replace hm : Fr 174 a [(1, p1_1), (4, .bool false), (5, .pointer (some ⟨g_2, 0, none⟩)), (7, .pointer (some ⟨g_17, 0, none⟩)), (8, .int .i64 x_104), (9, .bool x_105), (10, .int .i64 x_76), (156, .bool (!(t_118.2.1 == t_129.2)))] := hm.keep [1, 4, 5, 7, 8, 9, 10, 156]
                replace hS : Sep w0 w_170 [N_172, Mem.one g_2 (.cells ([v_107, v_109] : List Value).toArray 25 (0, 0)), Mem.one g_17 (.cells ([v_173, v_175, .int .i64 t_169.2.2.2.1, .bool t_169.2.2.2.2] : List Value).toArray 58 (0, 0)), Mem.one g_127 (.cells ([.int .i64 t_118.1.Inc, .int .i64 t_118.1.Prom, .int .i64 t_118.1.Inst] : List Value).toArray 28 (0, 0)), Mem.one g_134 (.cells ([.int .i64 t_129.1.Inc, .int .i64 t_129.1.Prom, .int .i64 t_129.1.Inst] : List Value).toArray 28 (0, 0)), M_154, M_158] Z := hS
                replace hm : Fr 174 a [(1, p1_1), (4, .bool false), (5, .pointer (some ⟨g_2, 0, none⟩)), (7, .pointer (some ⟨g_17, 0, none⟩)), (8, .int .i64 x_104), (9, .bool x_105), (10, .int .i64 x_76), (156, .bool (!(t_118.2.1 == t_129.2)))] := hm.keep [1, 4, 5, 7, 8, 9, 10, 156]
                exact x_then_n (hJ_j_145 (!(t_118.2.1 == t_129.2)) (⟨(⟨t_169.2.1, t_169.2.2.1⟩ : api_Disk), t_169.2.2.2.1, t_169.2.2.2.2⟩ : keep_Keep) H _ _ ⟨v_173, v_175, N_172, hm, (Sep.sel hS [0, 1, 2, 1002, 1003] (by decide)), (le_151.trans (le_167.trans le_172)), (hr_174.mono (Mem.un_le le_172 ln_172)), (hr_176.mono (Mem.un_le le_172 ln_172))⟩)
              · rw [if_neg hc_178] at H
                refine h_take_off 17 [true, true, true, true, true, true, true, true, true, true, true, true, true, true, true, true, true, true, false, false, false].toArray rfl (by kernel_rfl) (by kernel_rfl) (by kernel_rfl) (fun _ _ _ _ h => h) rfl rfl rfl rfl (.inl (congrArg Value.bool (nt (beq_eq_false_iff_ne.2 hc_178)))) rfl rfl hm (hS.sub (.cons (le_151.trans (le_167.trans le_172)) (.cons (Mem.le.refl _) (.cons (Mem.no_le _) (.cons (Mem.le.refl _) (.cons (Mem.le.refl _) (Sub.nil _))))))) ?_
                clear hm a; intro a hm
                refine h_take_off 18 [true, true, true, true, true, true, true, true, true, true, true, true, true, true, true, true, true, true, true, false, false].toArray rfl (by kernel_rfl) (by kernel_rfl) (by kernel_rfl) (fun _ _ _ _ h => h) rfl rfl rfl rfl (.inl (congrArg Value.bool (nt (beq_eq_false_iff_ne.2 hc_178)))) rfl rfl hm (hS.sub (.cons (le_151.trans (le_167.trans le_172)) (.cons (Mem.le.refl _) (.cons (Mem.no_le _) (.cons (Mem.le.refl _) (.cons (Mem.le.refl _) (Sub.nil _))))))) ?_
                clear hm a; intro a hm
                refine h_take_off 19 [true, true, true, true, true, true, true, true, true, true, true, true, true, true, true, true, true, true, true, true, false].toArray rfl (by kernel_rfl) (by kernel_rfl) (by kernel_rfl) (fun _ _ _ _ h => h) rfl rfl rfl rfl (.inl (congrArg Value.bool (nt (beq_eq_false_iff_ne.2 hc_178)))) rfl rfl hm (hS.sub (.cons (le_151.trans (le_167.trans le_172)) (.cons (Mem.le.refl _) (.cons (Mem.no_le _) (.cons (Mem.le.refl _) (.cons (Mem.le.refl _) (Sub.nil _))))))) ?_
                clear hm a; intro a hm
                refine h_take 20 [true, true, true, true, true, true, true, true, true, true, true, true, true, true, true, true, true, true, true, true, true].toArray rfl (by kernel_rfl) (by kernel_rfl) (by kernel_rfl) (fun _ _ _ _ h => h) rfl rfl rfl rfl hm (hS.sub (.cons (le_151.trans (le_167.trans le_172)) (.cons (Mem.le.refl _) (.cons (Mem.no_le _) (.cons (Mem.le.refl _) (.cons (Mem.le.refl _) (Sub.nil _))))))) (v := .bool true) (fun w hS => r_pick_t hm rfl (nt (beq_eq_false_iff_ne.2 hc_178)) rfl) ?_
                clear hm a; intro a hm
                refine h_done (by kernel_rfl) ?_
                replace hm : Fr 174 a [(1, p1_1), (4, .bool false), (5, .pointer (some ⟨g_2, 0, none⟩)), (7, .pointer (some ⟨g_17, 0, none⟩)), (8, .int .i64 x_104), (9, .bool x_105), (10, .int .i64 x_76), (156, .bool true)] := hm.keep [1, 4, 5, 7, 8, 9, 10, 156]
                replace hS : Sep w0 w_170 [N_172, Mem.one g_2 (.cells ([v_107, v_109] : List Value).toArray 25 (0, 0)), Mem.one g_17 (.cells ([v_173, v_175, .int .i64 t_169.2.2.2.1, .bool t_169.2.2.2.2] : List Value).toArray 58 (0, 0)), Mem.one g_127 (.cells ([.int .i64 t_118.1.Inc, .int .i64 t_118.1.Prom, .int .i64 t_118.1.Inst] : List Value).toArray 28 (0, 0)), Mem.one g_134 (.cells ([.int .i64 t_129.1.Inc, .int .i64 t_129.1.Prom, .int .i64 t_129.1.Inst] : List Value).toArray 28 (0, 0)), M_154, M_158] Z := hS
                replace hm : Fr 174 a [(1, p1_1), (4, .bool false), (5, .pointer (some ⟨g_2, 0, none⟩)), (7, .pointer (some ⟨g_17, 0, none⟩)), (8, .int .i64 x_104), (9, .bool x_105), (10, .int .i64 x_76), (156, .bool true)] := hm.keep [1, 4, 5, 7, 8, 9, 10, 156]
                exact x_then_n (hJ_j_145 true (⟨(⟨t_169.2.1, t_169.2.2.1⟩ : api_Disk), t_169.2.2.2.1, t_169.2.2.2.2⟩ : keep_Keep) H _ _ ⟨v_173, v_175, N_172, hm, (Sep.sel hS [0, 1, 2, 1002, 1003] (by decide)), (le_151.trans (le_167.trans le_172)), (hr_174.mono (Mem.un_le le_172 ln_172)), (hr_176.mono (Mem.un_le le_172 ln_172))⟩)
            · rw [if_neg hc_177] at H
              refine h_take_off 12 [true, true, true, true, true, true, true, true, true, true, true, true, true, false, false, false, false, false, false, false, false].toArray rfl (by kernel_rfl) (by kernel_rfl) (by kernel_rfl) (fun _ _ _ _ h => h) rfl rfl rfl rfl (.inl (congrArg Value.bool (nt (beq_eq_false_iff_ne.2 hc_177)))) rfl rfl hm (hS.sub (.cons (le_151.trans (le_167.trans le_172)) (.cons (Mem.le.refl _) (.cons (Mem.no_le _) (.cons (Mem.le.refl _) (.cons (Mem.le.refl _) (Sub.nil _))))))) ?_
              clear hm a; intro a hm
              refine h_take_off 13 [true, true, true, true, true, true, true, true, true, true, true, true, true, true, false, false, false, false, false, false, false].toArray rfl (by kernel_rfl) (by kernel_rfl) (by kernel_rfl) (fun _ _ _ _ h => h) rfl rfl rfl rfl (.inl (congrArg Value.bool (nt (beq_eq_false_iff_ne.2 hc_177)))) rfl rfl hm (hS.sub (.cons (le_151.trans (le_167.trans le_172)) (.cons (Mem.le.refl _) (.cons (Mem.no_le _) (.cons (Mem.le.refl _) (.cons (Mem.le.refl _) (Sub.nil _))))))) ?_
              clear hm a; intro a hm
              refine h_take_off 14 [true, true, true, true, true, true, true, true, true, true, true, true, true, true, true, false, false, false, false, false, false].toArray rfl (by kernel_rfl) (by kernel_rfl) (by kernel_rfl) (fun _ _ _ _ h => h) rfl rfl rfl rfl (.inl (congrArg Value.bool (nt (beq_eq_false_iff_ne.2 hc_177)))) rfl rfl hm (hS.sub (.cons (le_151.trans (le_167.trans le_172)) (.cons (Mem.le.refl _) (.cons (Mem.no_le _) (.cons (Mem.le.refl _) (.cons (Mem.le.refl _) (Sub.nil _))))))) ?_
              clear hm a; intro a hm
              refine h_take 15 [true, true, true, true, true, true, true, true, true, true, true, true, true, true, true, true, false, false, false, false, false].toArray rfl (by kernel_rfl) (by kernel_rfl) (by kernel_rfl) (fun _ _ _ _ h => h) rfl rfl rfl rfl hm (hS.sub (.cons (le_151.trans (le_167.trans le_172)) (.cons (Mem.le.refl _) (.cons (Mem.no_le _) (.cons (Mem.le.refl _) (.cons (Mem.le.refl _) (Sub.nil _))))))) (v := .bool true) (fun w hS => r_pick_t hm rfl (nt (beq_eq_false_iff_ne.2 hc_177)) rfl) ?_
              clear hm a; intro a hm
              refine h_take 16 [true, true, true, true, true, true, true, true, true, true, true, true, true, true, true, true, true, false, false, false, false].toArray rfl (by kernel_rfl) (by kernel_rfl) (by kernel_rfl) (fun _ _ _ _ h => h) rfl rfl rfl rfl hm (hS.sub (.cons (le_151.trans (le_167.trans le_172)) (.cons (Mem.le.refl _) (.cons (Mem.no_le _) (.cons (Mem.le.refl _) (.cons (Mem.le.refl _) (Sub.nil _))))))) (v := .bool true) (fun w hS => r_move hm rfl) ?_
              clear hm a; intro a hm
              refine h_take_off 17 [true, true, true, true, true, true, true, true, true, true, true, true, true, true, true, true, true, true, false, false, false].toArray rfl (by kernel_rfl) (by kernel_rfl) (by kernel_rfl) (fun _ _ _ _ h => h) rfl rfl rfl rfl (.inl (congrArg Value.bool rfl)) rfl rfl hm (hS.sub (.cons (le_151.trans (le_167.trans le_172)) (.cons (Mem.le.refl _) (.cons (Mem.no_le _) (.cons (Mem.le.refl _) (.cons (Mem.le.refl _) (Sub.nil _))))))) ?_
              clear hm a; intro a hm
              refine h_take_off 18 [true, true, true, true, true, true, true, true, true, true, true, true, true, true, true, true, true, true, true, false, false].toArray rfl (by kernel_rfl) (by kernel_rfl) (by kernel_rfl) (fun _ _ _ _ h => h) rfl rfl rfl rfl (.inl (congrArg Value.bool rfl)) rfl rfl hm (hS.sub (.cons (le_151.trans (le_167.trans le_172)) (.cons (Mem.le.refl _) (.cons (Mem.no_le _) (.cons (Mem.le.refl _) (.cons (Mem.le.refl _) (Sub.nil _))))))) ?_
              clear hm a; intro a hm
              refine h_take_off 19 [true, true, true, true, true, true, true, true, true, true, true, true, true, true, true, true, true, true, true, true, false].toArray rfl (by kernel_rfl) (by kernel_rfl) (by kernel_rfl) (fun _ _ _ _ h => h) rfl rfl rfl rfl (.inl (congrArg Value.bool rfl)) rfl rfl hm (hS.sub (.cons (le_151.trans (le_167.trans le_172)) (.cons (Mem.le.refl _) (.cons (Mem.no_le _) (.cons (Mem.le.refl _) (.cons (Mem.le.refl _) (Sub.nil _))))))) ?_
              clear hm a; intro a hm
              refine h_take 20 [true, true, true, true, true, true, true, true, true, true, true, true, true, true, true, true, true, true, true, true, true].toArray rfl (by kernel_rfl) (by kernel_rfl) (by kernel_rfl) (fun _ _ _ _ h => h) rfl rfl rfl rfl hm (hS.sub (.cons (le_151.trans (le_167.trans le_172)) (.cons (Mem.le.refl _) (.cons (Mem.no_le _) (.cons (Mem.le.refl _) (.cons (Mem.le.refl _) (Sub.nil _))))))) (v := .bool true) (fun w hS => r_pick_t hm rfl rfl rfl) ?_
              clear hm a; intro a hm
              refine h_done (by kernel_rfl) ?_
              replace hm : Fr 174 a [(1, p1_1), (4, .bool false), (5, .pointer (some ⟨g_2, 0, none⟩)), (7, .pointer (some ⟨g_17, 0, none⟩)), (8, .int .i64 x_104), (9, .bool x_105), (10, .int .i64 x_76), (156, .bool true)] := hm.keep [1, 4, 5, 7, 8, 9, 10, 156]
              replace hS : Sep w0 w_170 [N_172, Mem.one g_2 (.cells ([v_107, v_109] : List Value).toArray 25 (0, 0)), Mem.one g_17 (.cells ([v_173, v_175, .int .i64 t_169.2.2.2.1, .bool t_169.2.2.2.2] : List Value).toArray 58 (0, 0)), Mem.one g_127 (.cells ([.int .i64 t_118.1.Inc, .int .i64 t_118.1.Prom, .int .i64 t_118.1.Inst] : List Value).toArray 28 (0, 0)), Mem.one g_134 (.cells ([.int .i64 t_129.1.Inc, .int .i64 t_129.1.Prom, .int .i64 t_129.1.Inst] : List Value).toArray 28 (0, 0)), M_154, M_158] Z := hS
              replace hm : Fr 174 a [(1, p1_1), (4, .bool false), (5, .pointer (some ⟨g_2, 0, none⟩)), (7, .pointer (some ⟨g_17, 0, none⟩)), (8, .int .i64 x_104), (9, .bool x_105), (10, .int .i64 x_76), (156, .bool true)] := hm.keep [1, 4, 5, 7, 8, 9, 10, 156]
              exact x_then_n (hJ_j_145 true (⟨(⟨t_169.2.1, t_169.2.2.1⟩ : api_Disk), t_169.2.2.2.1, t_169.2.2.2.2⟩ : keep_Keep) H _ _ ⟨v_173, v_175, N_172, hm, (Sep.sel hS [0, 1, 2, 1002, 1003] (by decide)), (le_151.trans (le_167.trans le_172)), (hr_174.mono (Mem.un_le le_172 ln_172)), (hr_176.mono (Mem.un_le le_172 ln_172))⟩)
          · rw [if_neg hc_168] at H
            refine h_take_off 6 [true, true, true, true, true, true, true, false, false, false, false, false, false, false, false, false, false, false, false, false, false].toArray rfl (by kernel_rfl) (by kernel_rfl) (by kernel_rfl) (fun _ _ _ _ h => h) rfl rfl rfl rfl (.inl (congrArg Value.bool (nt (Bool.eq_false_iff.2 hc_168)))) rfl rfl hm (hS.sub (.cons (le_151.trans le_167) (.cons (Mem.le.refl _) (.cons (Mem.no_le _) (.cons (Mem.le.refl _) (.cons (Mem.le.refl _) (Sub.nil _))))))) ?_
            clear hm a; intro a hm
            refine h_take_off 7 [true, true, true, true, true, true, true, true, false, false, false, false, false, false, false, false, false, false, false, false, false].toArray rfl (by kernel_rfl) (by kernel_rfl) (by kernel_rfl) (fun _ _ _ _ h => h) rfl rfl rfl rfl (.inl (congrArg Value.bool (nt (Bool.eq_false_iff.2 hc_168)))) rfl rfl hm (hS.sub (.cons (le_151.trans le_167) (.cons (Mem.le.refl _) (.cons (Mem.no_le _) (.cons (Mem.le.refl _) (.cons (Mem.le.refl _) (Sub.nil _))))))) ?_
            clear hm a; intro a hm
            refine h_take_off 8 [true, true, true, true, true, true, true, true, true, false, false, false, false, false, false, false, false, false, false, false, false].toArray rfl (by kernel_rfl) (by kernel_rfl) (by kernel_rfl) (fun _ _ _ _ h => h) rfl rfl rfl rfl (.inl (congrArg Value.bool (nt (Bool.eq_false_iff.2 hc_168)))) rfl rfl hm (hS.sub (.cons (le_151.trans le_167) (.cons (Mem.le.refl _) (.cons (Mem.no_le _) (.cons (Mem.le.refl _) (.cons (Mem.le.refl _) (Sub.nil _))))))) ?_
            clear hm a; intro a hm
            refine h_take_off 9 [true, true, true, true, true, true, true, true, true, true, false, false, false, false, false, false, false, false, false, false, false].toArray rfl (by kernel_rfl) (by kernel_rfl) (by kernel_rfl) (fun _ _ _ _ h => h) rfl rfl rfl rfl (.inl (congrArg Value.bool (nt (Bool.eq_false_iff.2 hc_168)))) rfl rfl hm (hS.sub (.cons (le_151.trans le_167) (.cons (Mem.le.refl _) (.cons (Mem.no_le _) (.cons (Mem.le.refl _) (.cons (Mem.le.refl _) (Sub.nil _))))))) ?_
            clear hm a; intro a hm
            refine h_take 10 [true, true, true, true, true, true, true, true, true, true, true, false, false, false, false, false, false, false, false, false, false].toArray rfl (by kernel_rfl) (by kernel_rfl) (by kernel_rfl) (fun _ _ _ _ h => h) rfl rfl rfl rfl hm (hS.sub (.cons (le_151.trans le_167) (.cons (Mem.le.refl _) (.cons (Mem.no_le _) (.cons (Mem.le.refl _) (.cons (Mem.le.refl _) (Sub.nil _))))))) (v := .bool true) (fun w hS => r_pick_t hm rfl (nt (Bool.eq_false_iff.2 hc_168)) rfl) ?_
            clear hm a; intro a hm
            refine h_take 11 [true, true, true, true, true, true, true, true, true, true, true, true, false, false, false, false, false, false, false, false, false].toArray rfl (by kernel_rfl) (by kernel_rfl) (by kernel_rfl) (fun _ _ _ _ h => h) rfl rfl rfl rfl hm (hS.sub (.cons (le_151.trans le_167) (.cons (Mem.le.refl _) (.cons (Mem.no_le _) (.cons (Mem.le.refl _) (.cons (Mem.le.refl _) (Sub.nil _))))))) (v := .bool true) (fun w hS => r_move hm rfl) ?_
            clear hm a; intro a hm
            refine h_take_off 12 [true, true, true, true, true, true, true, true, true, true, true, true, true, false, false, false, false, false, false, false, false].toArray rfl (by kernel_rfl) (by kernel_rfl) (by kernel_rfl) (fun _ _ _ _ h => h) rfl rfl rfl rfl (.inl (congrArg Value.bool rfl)) rfl rfl hm (hS.sub (.cons (le_151.trans le_167) (.cons (Mem.le.refl _) (.cons (Mem.no_le _) (.cons (Mem.le.refl _) (.cons (Mem.le.refl _) (Sub.nil _))))))) ?_
            clear hm a; intro a hm
            refine h_take_off 13 [true, true, true, true, true, true, true, true, true, true, true, true, true, true, false, false, false, false, false, false, false].toArray rfl (by kernel_rfl) (by kernel_rfl) (by kernel_rfl) (fun _ _ _ _ h => h) rfl rfl rfl rfl (.inl (congrArg Value.bool rfl)) rfl rfl hm (hS.sub (.cons (le_151.trans le_167) (.cons (Mem.le.refl _) (.cons (Mem.no_le _) (.cons (Mem.le.refl _) (.cons (Mem.le.refl _) (Sub.nil _))))))) ?_
            clear hm a; intro a hm
            refine h_take_off 14 [true, true, true, true, true, true, true, true, true, true, true, true, true, true, true, false, false, false, false, false, false].toArray rfl (by kernel_rfl) (by kernel_rfl) (by kernel_rfl) (fun _ _ _ _ h => h) rfl rfl rfl rfl (.inl (congrArg Value.bool rfl)) rfl rfl hm (hS.sub (.cons (le_151.trans le_167) (.cons (Mem.le.refl _) (.cons (Mem.no_le _) (.cons (Mem.le.refl _) (.cons (Mem.le.refl _) (Sub.nil _))))))) ?_
            clear hm a; intro a hm
            refine h_take 15 [true, true, true, true, true, true, true, true, true, true, true, true, true, true, true, true, false, false, false, false, false].toArray rfl (by kernel_rfl) (by kernel_rfl) (by kernel_rfl) (fun _ _ _ _ h => h) rfl rfl rfl rfl hm (hS.sub (.cons (le_151.trans le_167) (.cons (Mem.le.refl _) (.cons (Mem.no_le _) (.cons (Mem.le.refl _) (.cons (Mem.le.refl _) (Sub.nil _))))))) (v := .bool true) (fun w hS => r_pick_t hm rfl rfl rfl) ?_
            clear hm a; intro a hm
            refine h_take 16 [true, true, true, true, true, true, true, true, true, true, true, true, true, true, true, true, true, false, false, false, false].toArray rfl (by kernel_rfl) (by kernel_rfl) (by kernel_rfl) (fun _ _ _ _ h => h) rfl rfl rfl rfl hm (hS.sub (.cons (le_151.trans le_167) (.cons (Mem.le.refl _) (.cons (Mem.no_le _) (.cons (Mem.le.refl _) (.cons (Mem.le.refl _) (Sub.nil _))))))) (v := .bool true) (fun w hS => r_move hm rfl) ?_
            clear hm a; intro a hm
            refine h_take_off 17 [true, true, true, true, true, true, true, true, true, true, true, true, true, true, true, true, true, true, false, false, false].toArray rfl (by kernel_rfl) (by kernel_rfl) (by kernel_rfl) (fun _ _ _ _ h => h) rfl rfl rfl rfl (.inl (congrArg Value.bool rfl)) rfl rfl hm (hS.sub (.cons (le_151.trans le_167) (.cons (Mem.le.refl _) (.cons (Mem.no_le _) (.cons (Mem.le.refl _) (.cons (Mem.le.refl _) (Sub.nil _))))))) ?_
            clear hm a; intro a hm
            refine h_take_off 18 [true, true, true, true, true, true, true, true, true, true, true, true, true, true, true, true, true, true, true, false, false].toArray rfl (by kernel_rfl) (by kernel_rfl) (by kernel_rfl) (fun _ _ _ _ h => h) rfl rfl rfl rfl (.inl (congrArg Value.bool rfl)) rfl rfl hm (hS.sub (.cons (le_151.trans le_167) (.cons (Mem.le.refl _) (.cons (Mem.no_le _) (.cons (Mem.le.refl _) (.cons (Mem.le.refl _) (Sub.nil _))))))) ?_
            clear hm a; intro a hm
            refine h_take_off 19 [true, true, true, true, true, true, true, true, true, true, true, true, true, true, true, true, true, true, true, true, false].toArray rfl (by kernel_rfl) (by kernel_rfl) (by kernel_rfl) (fun _ _ _ _ h => h) rfl rfl rfl rfl (.inl (congrArg Value.bool rfl)) rfl rfl hm (hS.sub (.cons (le_151.trans le_167) (.cons (Mem.le.refl _) (.cons (Mem.no_le _) (.cons (Mem.le.refl _) (.cons (Mem.le.refl _) (Sub.nil _))))))) ?_
            clear hm a; intro a hm
            refine h_take 20 [true, true, true, true, true, true, true, true, true, true, true, true, true, true, true, true, true, true, true, true, true].toArray rfl (by kernel_rfl) (by kernel_rfl) (by kernel_rfl) (fun _ _ _ _ h => h) rfl rfl rfl rfl hm (hS.sub (.cons (le_151.trans le_167) (.cons (Mem.le.refl _) (.cons (Mem.no_le _) (.cons (Mem.le.refl _) (.cons (Mem.le.refl _) (Sub.nil _))))))) (v := .bool true) (fun w hS => r_pick_t hm rfl rfl rfl) ?_
            clear hm a; intro a hm
            refine h_done (by kernel_rfl) ?_
            replace hm : Fr 174 a [(1, p1_1), (4, .bool false), (5, .pointer (some ⟨g_2, 0, none⟩)), (7, .pointer (some ⟨g_17, 0, none⟩)), (8, .int .i64 x_104), (9, .bool x_105), (10, .int .i64 x_76), (156, .bool true)] := hm.keep [1, 4, 5, 7, 8, 9, 10, 156]
            replace hS : Sep w0 w_165 [N_167, Mem.one g_2 (.cells ([v_107, v_109] : List Value).toArray 25 (0, 0)), Mem.one g_17 (.cells ([v_160, v_162, .int .i64 t_148.2.2.2.1, .bool t_148.2.2.2.2] : List Value).toArray 58 (0, 0)), Mem.one g_127 (.cells ([.int .i64 t_118.1.Inc, .int .i64 t_118.1.Prom, .int .i64 t_118.1.Inst] : List Value).toArray 28 (0, 0)), Mem.one g_134 (.cells ([.int .i64 t_129.1.Inc, .int .i64 t_129.1.Prom, .int .i64 t_129.1.Inst] : List Value).toArray 28 (0, 0)), M_154, M_158] Z := hS
            replace hm : Fr 174 a [(1, p1_1), (4, .bool false), (5, .pointer (some ⟨g_2, 0, none⟩)), (7, .pointer (some ⟨g_17, 0, none⟩)), (8, .int .i64 x_104), (9, .bool x_105), (10, .int .i64 x_76), (156, .bool true)] := hm.keep [1, 4, 5, 7, 8, 9, 10, 156]
            exact x_then_n (hJ_j_145 true (⟨(⟨t_148.2.1, t_148.2.2.1⟩ : api_Disk), t_148.2.2.2.1, t_148.2.2.2.2⟩ : keep_Keep) H _ _ ⟨v_160, v_162, N_167, hm, (Sep.sel hS [0, 1, 2, 1002, 1003] (by decide)), (le_151.trans le_167), ((hr_161.mono (Mem.un_le le_151 ln_151)).mono le_167), ((hr_163.mono (Mem.un_le le_151 ln_151)).mono le_167)⟩)
        clear hKJ_97
        by_cases hc_179 : (band .i64 t_98 7) = 0
        · rw [if_pos hc_179] at H
          refine c_cond_t hm rfl (beq_iff_eq.2 hc_179) ?_
          refine wp_seq ?_
          refine wp_region_lit ?_
          refine s_move hm rfl rfl ?_
          clear hm a; intro a hm
          refine s_move hm rfl rfl ?_
          clear hm a; intro a hm
          obtain ⟨t_180, et_180, H⟩ := Option.bind_eq_some_iff.1 H
          refine v_index hm rfl Try.underlying22 ti3 rfl rfl rfl hp1_1 (hA.trans hS.old) et_180 ?_
          intro ad_181 cs_182 hk_183 hc_184
          obtain rfl := (show cs_182 = [.int .i64 t_180] from hk_183)
          clear hm a; intro a hm
          refine s_load hm rfl rfl (el_one (o := 0) hc_184 Try.underlying3 rfl rfl) ?_
          clear hm a; intro a hm
          refine s_shift (r := shr .i64 t_180 3) hm rfl rfl rfl (by decide) (.inr ⟨rfl, rfl⟩) ?_
          clear hm a; intro a hm
          refine s_bits (i := shr .i64 t_180 3) (j := 63) (r := band .i64 (shr .i64 t_180 3) 63) hm rfl rfl rfl (.inl ⟨rfl, rfl⟩) ?_
          clear hm a; intro a hm
          refine s_arith (r := w64 ((band .i64 (shr .i64 t_180 3) 63) - 5)) hm rfl rfl rfl (.inr (.inl ⟨rfl, rfl⟩)) ?_
          clear hm a; intro a hm
          refine s_assign hm rfl rfl ?_
          clear hm a; intro a hm
          refine wpList_nil ?_
          replace hm : Fr 174 a [(1, p1_1), (4, .bool false), (5, .pointer (some ⟨g_2, 0, none⟩)), (7, .pointer (some ⟨g_17, 0, none⟩)), (8, .int .i64 (w64 ((band .i64 (shr .i64 t_180 3) 63) - 5))), (9, .bool x_75), (10, .int .i64 x_76)] := hm.keep [1, 4, 5, 7, 8, 9, 10]
          refine x_then_n ?_
          refine wp_seq ?_
          refine wp_region_lit ?_
          refine s_move hm rfl rfl ?_
          clear hm a; intro a hm
          refine s_move hm rfl rfl ?_
          clear hm a; intro a hm
          obtain ⟨t_185, et_185, H⟩ := Option.bind_eq_some_iff.1 H
          refine s_call hm rfl Try.call21 rfl (keep_Keep_Cut.calls _ x_82.d.A _ x_82.d.B _ x_82.cut x_82.dead (w64 ((band .i64 (shr .i64 t_180 3) 63) - 5)) t_185 w0 _ _ N_91 (hS.new_zed [1]) (hS.enter [1] (by decide)) (hr_84.mono le_91) (hr_86.mono le_91) et_185) ?_
          rintro _ w_186 ⟨v_189, v_191, N_187, rfl, hS', hr_190, hr_192⟩
          clear hm a; intro a hm
          obtain ⟨N_188, hS'', le_188, ln_188⟩ := hS.call [1] (by decide) rfl (l' := [Mem.one g_17 (.cells ([v_189, v_191, .int .i64 t_185.2.2.1, .bool t_185.2.2.2] : List Value).toArray 58 (0, 0))]) (ow := []) rfl hS'
          replace hS : Sep w0 w_186 [N_188, Mem.one g_2 (.cells ([v_78, v_80] : List Value).toArray 25 (0, 0)), Mem.one g_17 (.cells ([v_189, v_191, .int .i64 t_185.2.2.1, .bool t_185.2.2.2] : List Value).toArray 58 (0, 0))] Z := hS''
          clear hS' hS''
          refine wpList_nil ?_
          replace hm : Fr 174 a [(1, p1_1), (4, .bool false), (5, .pointer (some ⟨g_2, 0, none⟩)), (7, .pointer (some ⟨g_17, 0, none⟩)), (8, .int .i64 (w64 ((band .i64 (shr .i64 t_180 3) 63) - 5))), (9, .bool x_75), (10, .int .i64 x_76)] := hm.keep [1, 4, 5, 7, 8, 9, 10]
          refine x_then_n ?_
          refine wp_region_lit ?_
          refine s_move hm rfl rfl ?_
          clear hm a; intro a hm
          refine s_max hm rfl rfl rfl ?_
          clear hm a; intro a hm
          refine s_assign hm rfl rfl ?_
          clear hm a; intro a hm
          refine wpList_nil ?_
          replace hm : Fr 174 a [(1, p1_1), (4, .bool false), (5, .pointer (some ⟨g_2, 0, none⟩)), (7, .pointer (some ⟨g_17, 0, none⟩)), (8, .int .i64 (mx (w64 ((band .i64 (shr .i64 t_180 3) 63) - 5)) 0)), (9, .bool x_75), (10, .int .i64 x_76)] := hm.keep [1, 4, 5, 7, 8, 9, 10]
          replace hS : Sep w0 w_186 [N_188, Mem.one g_2 (.cells ([v_78, v_80] : List Value).toArray 25 (0, 0)), Mem.one g_17 (.cells ([v_189, v_191, .int .i64 t_185.2.2.1, .bool t_185.2.2.2] : List Value).toArray 58 (0, 0))] Z := hS
          replace hm : Fr 174 a [(1, p1_1), (4, .bool false), (5, .pointer (some ⟨g_2, 0, none⟩)), (7, .pointer (some ⟨g_17, 0, none⟩)), (8, .int .i64 (mx (w64 ((band .i64 (shr .i64 t_180 3) 63) - 5)) 0)), (9, .bool x_75), (10, .int .i64 x_76)] := hm.keep [1, 4, 5, 7, 8, 9, 10]
          exact x_then_n (hJ_j_117 (mx (w64 ((band .i64 (shr .i64 t_180 3) 63) - 5)) 0) x_75 x_77 (⟨(⟨t_185.1, t_185.2.1⟩ : api_Disk), t_185.2.2.1, t_185.2.2.2⟩ : keep_Keep) H _ _ ⟨v_78, v_80, v_189, v_191, N_188, hm, (Sep.sel hS [0, 1, 2] (by decide)), le_188, (hr_79.mono (le_91.trans le_188)), (hr_81.mono (le_91.trans le_188)), (hr_190.mono (Mem.un_le le_188 ln_188)), (hr_192.mono (Mem.un_le le_188 ln_188))⟩)
        · rw [if_neg hc_179] at H
          refine c_cond_f hm rfl (beq_eq_false_iff_ne.2 hc_179) ?_
          refine c_seq fun KJ_193 hKJ_193 => ?_
          refine h_begin (S := fun w => Sep w0 w [N_91, Mem.one g_2 (.cells ([v_78, v_80] : List Value).toArray 25 (0, 0)), Mem.one g_17 (.cells ([v_83, v_85, .int .i64 x_82.cut, .bool x_82.dead] : List Value).toArray 58 (0, 0))] Z) 14 (by kernel_rfl) rfl [false, false, false, false, false, false, false, false, false, false, false, false, false, false].toArray rfl hS fun w_194 hS => ?_
          replace hS : Sep w0 w_194 [N_91, Mem.one g_2 (.cells ([v_78, v_80] : List Value).toArray 25 (0, 0)), Mem.one g_17 (.cells ([v_83, v_85, .int .i64 x_82.cut, .bool x_82.dead] : List Value).toArray 58 (0, 0))] Z := hS
          refine h_take 0 [true, false, false, false, false, false, false, false, false, false, false, false, false, false].toArray rfl (by kernel_rfl) (by kernel_rfl) (by kernel_rfl) (fun _ _ _ _ h => h) rfl rfl rfl rfl hm (hS.sub (.cons (Mem.le.refl _) (.cons (Mem.le.refl _) (.cons (Mem.le.refl _) (Sub.nil _))))) (v := p1_1) (fun w hS => r_move hm rfl) ?_
          clear hm a; intro a hm
          refine h_take 1 [true, true, false, false, false, false, false, false, false, false, false, false, false, false].toArray rfl (by kernel_rfl) (by kernel_rfl) (by kernel_rfl) (fun _ _ _ _ h => h) rfl rfl rfl rfl hm (hS.sub (.cons (Mem.le.refl _) (.cons (Mem.le.refl _) (.cons (Mem.le.refl _) (Sub.nil _))))) (v := .int .i64 x_76) (fun w hS => r_move hm rfl) ?_
          clear hm a; intro a hm
          obtain ⟨t_195, et_195, H⟩ := Option.bind_eq_some_iff.1 H
          refine h_takeE 2 [true, true, true, false, false, false, false, false, false, false, false, false, false, false].toArray rfl (by kernel_rfl) (by kernel_rfl) (by kernel_rfl) (fun _ _ _ _ h => h) rfl rfl rfl rfl hm (hS.sub (.cons (Mem.le.refl _) (.cons (Mem.le.refl _) (.cons (Mem.le.refl _) (Sub.nil _))))) (f := fun ad => .pointer (some ad)) (r_index hm Try.underlying22 ti3 rfl rfl rfl hp1_1 et_195) ?_
          rintro ad_196 ⟨cs_197, hk_198, hc_199⟩
          obtain rfl := (show cs_197 = [.int .i64 t_195] from hk_198)
          clear hm a; intro a hm
          refine h_take 3 [true, true, true, true, false, false, false, false, false, false, false, false, false, false].toArray rfl (by kernel_rfl) (by kernel_rfl) (by kernel_rfl) (fun _ _ _ _ h => h) rfl rfl rfl rfl hm (hS.sub (.cons (Mem.le.refl _) (.cons (Mem.le.refl _) (.cons (Mem.le.refl _) (Sub.nil _))))) (v := .int .i64 t_195) (fun w hS => r_load hm rfl (el_one (o := 0) (fun j c h => Mem.cell_le (hA.trans hS.old) (hc_199 j c h)) Try.underlying3 rfl rfl)) ?_
          clear hm a; intro a hm
          refine h_take 4 [true, true, true, true, true, false, false, false, false, false, false, false, false, false].toArray rfl (by kernel_rfl) (by kernel_rfl) (by kernel_rfl) (fun _ _ _ _ h => h) rfl rfl rfl rfl hm (hS.sub (.cons (Mem.le.refl _) (.cons (Mem.le.refl _) (.cons (Mem.le.refl _) (Sub.nil _))))) (v := .int .i64 (shr .i64 t_195 3)) (fun w hS => r_shift (r := shr .i64 t_195 3) hm rfl rfl (by decide) (.inr ⟨rfl, rfl⟩)) ?_
          clear hm a; intro a hm
          refine h_take 5 [true, true, true, true, true, true, false, false, false, false, false, false, false, false].toArray rfl (by kernel_rfl) (by kernel_rfl) (by kernel_rfl) (fun _ _ _ _ h => h) rfl rfl rfl rfl hm (hS.sub (.cons (Mem.le.refl _) (.cons (Mem.le.refl _) (.cons (Mem.le.refl _) (Sub.nil _))))) (v := .int .i64 x_76) (fun w hS => r_move hm rfl) ?_
          clear hm a; intro a hm
          refine h_take 6 [true, true, true, true, true, true, true, false, false, false, false, false, false, false].toArray rfl (by kernel_rfl) (by kernel_rfl) (by kernel_rfl) (fun _ _ _ _ h => h) rfl rfl rfl rfl hm (hS.sub (.cons (Mem.le.refl _) (.cons (Mem.le.refl _) (.cons (Mem.le.refl _) (Sub.nil _))))) (v := p1_1) (fun w hS => r_move hm rfl) ?_
          clear hm a; intro a hm
          refine h_take 7 [true, true, true, true, true, true, true, true, false, false, false, false, false, false].toArray rfl (by kernel_rfl) (by kernel_rfl) (by kernel_rfl) (fun _ _ _ _ h => h) rfl rfl rfl rfl hm (hS.sub (.cons (Mem.le.refl _) (.cons (Mem.le.refl _) (.cons (Mem.le.refl _) (Sub.nil _))))) (v := .int .i64 x_76) (fun w hS => r_move hm rfl) ?_
          clear hm a; intro a hm
          obtain ⟨t_200, et_200, H⟩ := Option.bind_eq_some_iff.1 H
          refine h_takeE 8 [true, true, true, true, true, true, true, true, true, false, false, false, false, false].toArray rfl (by kernel_rfl) (by kernel_rfl) (by kernel_rfl) (fun _ _ _ _ h => h) rfl rfl rfl rfl hm (hS.sub (.cons (Mem.le.refl _) (.cons (Mem.le.refl _) (.cons (Mem.le.refl _) (Sub.nil _))))) (f := fun ad => .pointer (some ad)) (r_index hm Try.underlying22 ti3 rfl rfl rfl hp1_1 et_200) ?_
          rintro ad_201 ⟨cs_202, hk_203, hc_204⟩
          obtain rfl := (show cs_202 = [.int .i64 t_200] from hk_203)
          clear hm a; intro a hm
          refine h_take 9 [true, true, true, true, true, true, true, true, true, true, false, false, false, false].toArray rfl (by kernel_rfl) (by kernel_rfl) (by kernel_rfl) (fun _ _ _ _ h => h) rfl rfl rfl rfl hm (hS.sub (.cons (Mem.le.refl _) (.cons (Mem.le.refl _) (.cons (Mem.le.refl _) (Sub.nil _))))) (v := .int .i64 t_200) (fun w hS => r_load hm rfl (el_one (o := 0) (fun j c h => Mem.cell_le (hA.trans hS.old) (hc_204 j c h)) Try.underlying3 rfl rfl)) ?_
          clear hm a; intro a hm
          refine h_take 10 [true, true, true, true, true, true, true, true, true, true, true, false, false, false].toArray rfl (by kernel_rfl) (by kernel_rfl) (by kernel_rfl) (fun _ _ _ _ h => h) rfl rfl rfl rfl hm (hS.sub (.cons (Mem.le.refl _) (.cons (Mem.le.refl _) (.cons (Mem.le.refl _) (Sub.nil _))))) (v := .int .i64 (shr .i64 t_200 9)) (fun w hS => r_shift (r := shr .i64 t_200 9) hm rfl rfl (by decide) (.inr ⟨rfl, rfl⟩)) ?_
          clear hm a; intro a hm
          refine h_take 11 [true, true, true, true, true, true, true, true, true, true, true, true, false, false].toArray rfl (by kernel_rfl) (by kernel_rfl) (by kernel_rfl) (fun _ _ _ _ h => h) rfl rfl rfl rfl hm (hS.sub (.cons (Mem.le.refl _) (.cons (Mem.le.refl _) (.cons (Mem.le.refl _) (Sub.nil _))))) (v := .agg [.int .i64 (shr .i64 t_195 3), .int .i64 x_76, .int .i64 (shr .i64 t_200 9)].toArray) (fun w hS => r_build hm ti28 pl28 rfl (.cons rfl (.cons rfl (.cons rfl .nil))) (cs := [.int .i64 (shr .i64 t_195 3), .int .i64 x_76, .int .i64 (shr .i64 t_200 9)]) rfl) ?_
          clear hm a; intro a hm
          refine h_event 12 [true, true, true, true, true, true, true, true, true, true, true, true, true, false].toArray rfl (by kernel_rfl) rfl ?_
          refine v_alloc hm rfl ti28 hS ?_
          intro w_205 g_206 hS'
          clear hm a; intro a hm
          replace hS : Sep w0 w_205 [N_91, Mem.one g_2 (.cells ([v_78, v_80] : List Value).toArray 25 (0, 0)), Mem.one g_17 (.cells ([v_83, v_85, .int .i64 x_82.cut, .bool x_82.dead] : List Value).toArray 58 (0, 0)), Mem.one g_206 (.cells ([.int .i64 0, .int .i64 0, .int .i64 0] : List Value).toArray 28 (0, 0))] Z := hS'
          clear hS'
          refine wpList_nil ?_
          refine x_then_n ⟨(hS.sub (.cons (Mem.le.refl _) (.cons (Mem.le.refl _) (.cons (Mem.le.refl _) (Sub.nil _))))), ?_⟩
          refine h_event 13 [true, true, true, true, true, true, true, true, true, true, true, true, true, true].toArray rfl (by kernel_rfl) rfl ?_
          obtain ⟨w_207, hs', hS'⟩ := hS.store (P := Try.prog) (p := 3) (o := 0) (t := 28) (v := .agg [.int .i64 (shr .i64 t_195 3), .int .i64 x_76, .int .i64 (shr .i64 t_200 9)].toArray) (vs := [.int .i64 (shr .i64 t_195 3), .int .i64 x_76, .int .i64 (shr .i64 t_200 9)]) rfl ti28 rfl rfl rfl (by intro u hu; simp only [List.mem_cons, List.not_mem_nil, or_false] at hu; rcases hu with rfl | rfl | rfl <;> rfl)
          refine s_store hm rfl rfl hs' ?_
          replace hS : Sep w0 w_207 [N_91, Mem.one g_2 (.cells ([v_78, v_80] : List Value).toArray 25 (0, 0)), Mem.one g_17 (.cells ([v_83, v_85, .int .i64 x_82.cut, .bool x_82.dead] : List Value).toArray 58 (0, 0)), Mem.one g_206 (.cells ([.int .i64 (shr .i64 t_195 3), .int .i64 x_76, .int .i64 (shr .i64 t_200 9)] : List Value).toArray 28 (0, 0))] Z := hS'
          clear hs' hS'
          refine wpList_nil ?_
          refine x_then_n ⟨(hS.sub (.cons (Mem.le.refl _) (.cons (Mem.le.refl _) (.cons (Mem.le.refl _) (Sub.nil _))))), ?_⟩
          refine h_done (by kernel_rfl) ?_
          replace hm : Fr 174 a [(1, p1_1), (4, .bool false), (5, .pointer (some ⟨g_2, 0, none⟩)), (7, .pointer (some ⟨g_17, 0, none⟩)), (8, .int .i64 x_74), (9, .bool x_75), (10, .int .i64 x_76), (11, .pointer (some ⟨g_206, 0, none⟩))] := hm.keep [1, 4, 5, 7, 8, 9, 10, 11]
          refine x_then_n (hKJ_193 _ _ ?_)
          refine c_seq fun KJ_208 hKJ_208 => ?_
          have hJ_j_212 : ∀ (x_210 : Bool), hocketlaw21_KeepPlays.J6 K x_82 t_195 x_76 t_200 x_75 (hocketlaw21_KeepPlays.L1 K x1 (fun v => hocketlaw21_KeepPlays.J2 K v.1 v.2) k_87) x_74 x_77 x_210 = some r → ∀ (a : Act) (w_211 : World), (∃ (N_209 : Mem), Fr 174 a [(1, p1_1), (4, .bool false), (5, .pointer (some ⟨g_2, 0, none⟩)), (7, .pointer (some ⟨g_17, 0, none⟩)), (8, .int .i64 x_74), (9, .bool x_75), (10, .int .i64 x_76), (11, .pointer (some ⟨g_206, 0, none⟩)), (12, .bool x_210)] ∧ Sep w0 w_211 [N_209, Mem.one g_2 (.cells ([v_78, v_80] : List Value).toArray 25 (0, 0)), Mem.one g_17 (.cells ([v_83, v_85, .int .i64 x_82.cut, .bool x_82.dead] : List Value).toArray 58 (0, 0)), Mem.one g_206 (.cells ([.int .i64 (shr .i64 t_195 3), .int .i64 x_76, .int .i64 (shr .i64 t_200 9)] : List Value).toArray 28 (0, 0))] Z ∧ N_91.le N_209) → KJ_208 a w_211 := by
            clear H hm hS a
            rintro x_210 H a w_211 ⟨N_209, hm, hS, le_209⟩
            unfold hocketlaw21_KeepPlays.J6 at H
            refine hKJ_208 _ _ ?_
            refine c_seq fun KJ_213 hKJ_213 => ?_
            refine wp_seq ?_
            refine wp_region_lit ?_
            refine s_move hm rfl rfl ?_
            clear hm a; intro a hm
            refine s_load hm rfl rfl (hS.load_agg (p := 3) (us := [.int .i64 (shr .i64 t_195 3), .int .i64 x_76, .int .i64 (shr .i64 t_200 9)]) rfl Try.underlying28 rfl ti28 rfl rfl) ?_
            clear hm a; intro a hm
            obtain ⟨t_214, et_214, H⟩ := Option.bind_eq_some_iff.1 H
            refine s_call hm rfl Try.call20 rfl (keep_Keep_Put.calls K _ x_82.d.A _ x_82.d.B _ x_82.cut x_82.dead (⟨shr .i64 t_195 3, x_76, shr .i64 t_200 9⟩ : api_Record) t_214 w0 _ _ N_209 (hS.new_zed [1]) (hS.enter [1] (by decide)) (hr_84.mono (le_91.trans le_209)) (hr_86.mono (le_91.trans le_209)) et_214) ?_
            rintro _ w_215 ⟨v_218, v_220, N_216, rfl, hS', hr_219, hr_221⟩
            clear hm a; intro a hm
            obtain ⟨N_217, hS'', le_217, ln_217⟩ := hS.call [1] (by decide) rfl (l' := [Mem.one g_17 (.cells ([v_218, v_220, .int .i64 t_214.2.2.2.1, .bool t_214.2.2.2.2] : List Value).toArray 58 (0, 0))]) (ow := []) rfl hS'
            replace hS : Sep w0 w_215 [N_217, Mem.one g_2 (.cells ([v_78, v_80] : List Value).toArray 25 (0, 0)), Mem.one g_17 (.cells ([v_218, v_220, .int .i64 t_214.2.2.2.1, .bool t_214.2.2.2.2] : List Value).toArray 58 (0, 0)), Mem.one g_206 (.cells ([.int .i64 (shr .i64 t_195 3), .int .i64 x_76, .int .i64 (shr .i64 t_200 9)] : List Value).toArray 28 (0, 0))] Z := hS''
            clear hS' hS''
            refine s_move hm rfl rfl ?_
            clear hm a; intro a hm
            refine s_beq (b := !(t_214.1 == x_210)) hm rfl Try.underlying4 rfl rfl (.inr ⟨rfl, rfl⟩) ?_
            clear hm a; intro a hm
            refine wpList_nil ?_
            replace hm : Fr 174 a [(1, p1_1), (4, .bool false), (5, .pointer (some ⟨g_2, 0, none⟩)), (7, .pointer (some ⟨g_17, 0, none⟩)), (8, .int .i64 x_74), (9, .bool x_75), (10, .int .i64 x_76), (11, .pointer (some ⟨g_206, 0, none⟩)), (96, .bool (!(t_214.1 == x_210)))] := hm.keep [1, 4, 5, 7, 8, 9, 10, 11, 96]
            refine x_then_n ?_
            by_cases hc_222 : t_214.1 = x_210
            · rw [if_pos hc_222] at H
              refine c_cond_f hm rfl (nf (beq_iff_eq.2 hc_222)) ?_
              refine wp_skip ?_
              refine x_then_n (hKJ_213 _ _ ?_)
              refine wp_seq ?_
              refine wp_region_lit ?_
              refine s_move hm rfl rfl ?_
              clear hm a; intro a hm
              refine s_not hm rfl rfl ?_
              clear hm a; intro a hm
              refine wpList_nil ?_
              replace hm : Fr 174 a [(1, p1_1), (4, .bool false), (5, .pointer (some ⟨g_2, 0, none⟩)), (7, .pointer (some ⟨g_17, 0, none⟩)), (8, .int .i64 x_74), (9, .bool x_75), (10, .int .i64 x_76), (11, .pointer (some ⟨g_206, 0, none⟩)), (98, .bool (!x_75))] := hm.keep [1, 4, 5, 7, 8, 9, 10, 11, 98]
              refine x_then_n ?_
              by_cases hc_223 : x_75 = true
              · rw [if_pos hc_223] at H
                refine c_cond_f hm rfl (nf hc_223) ?_
                refine wp_skip ?_
                replace hS : Sep w0 w_215 [N_217, Mem.one g_2 (.cells ([v_78, v_80] : List Value).toArray 25 (0, 0)), Mem.one g_17 (.cells ([v_218, v_220, .int .i64 t_214.2.2.2.1, .bool t_214.2.2.2.2] : List Value).toArray 58 (0, 0)), Mem.one g_206 (.cells ([.int .i64 (shr .i64 t_195 3), .int .i64 x_76, .int .i64 (shr .i64 t_200 9)] : List Value).toArray 28 (0, 0))] Z := hS
                replace hm : Fr 174 a [(1, p1_1), (4, .bool false), (5, .pointer (some ⟨g_2, 0, none⟩)), (7, .pointer (some ⟨g_17, 0, none⟩)), (8, .int .i64 x_74), (9, .bool x_75), (10, .int .i64 x_76)] := hm.keep [1, 4, 5, 7, 8, 9, 10]
                exact x_then_n (hJ_j_117 x_74 x_75 x_77 (⟨(⟨t_214.2.1, t_214.2.2.1⟩ : api_Disk), t_214.2.2.2.1, t_214.2.2.2.2⟩ : keep_Keep) H _ _ ⟨v_78, v_80, v_218, v_220, N_217, hm, (Sep.sel hS [0, 1, 2] (by decide)), (le_209.trans le_217), (hr_79.mono (le_91.trans (le_209.trans le_217))), (hr_81.mono (le_91.trans (le_209.trans le_217))), (hr_219.mono (Mem.un_le le_217 ln_217)), (hr_221.mono (Mem.un_le le_217 ln_217))⟩)
              · rw [if_neg hc_223] at H
                refine c_cond_t hm rfl (nt (Bool.eq_false_iff.2 hc_223)) ?_
                refine wp_seq ?_
                refine wp_region_lit ?_
                refine s_move hm rfl rfl ?_
                clear hm a; intro a hm
                refine s_assign hm rfl rfl ?_
                clear hm a; intro a hm
                refine wpList_nil ?_
                replace hm : Fr 174 a [(1, p1_1), (4, .bool false), (5, .pointer (some ⟨g_2, 0, none⟩)), (7, .pointer (some ⟨g_17, 0, none⟩)), (8, .int .i64 x_74), (9, .bool x_75), (10, .int .i64 x_76), (11, .pointer (some ⟨g_206, 0, none⟩)), (13, .int .i64 x_74)] := hm.keep [1, 4, 5, 7, 8, 9, 10, 11, 13]
                refine x_then_n ?_
                refine c_seq fun KJ_224 hKJ_224 => ?_
                refine wp_seq ?_
                refine wp_region_lit ?_
                refine s_move hm rfl rfl ?_
                clear hm a; intro a hm
                refine s_cmp (b := decide (x_74 ≥ 0)) hm rfl rfl rfl (.inr (.inr (.inr (.inr (.inr ⟨rfl, rfl⟩))))) ?_
                clear hm a; intro a hm
                refine wpList_nil ?_
                replace hm : Fr 174 a [(1, p1_1), (4, .bool false), (5, .pointer (some ⟨g_2, 0, none⟩)), (7, .pointer (some ⟨g_17, 0, none⟩)), (8, .int .i64 x_74), (9, .bool x_75), (10, .int .i64 x_76), (11, .pointer (some ⟨g_206, 0, none⟩)), (13, .int .i64 x_74), (101, .bool (decide (x_74 ≥ 0)))] := hm.keep [1, 4, 5, 7, 8, 9, 10, 11, 13, 101]
                refine x_then_n ?_
                have hJ_j_229 : ∀ (x_226 : Bool), ∀ (x_227 : Int), hocketlaw21_KeepPlays.J7 K x_77 t_195 x_76 t_200 (hocketlaw21_KeepPlays.L1 K x1 (fun v => hocketlaw21_KeepPlays.J2 K v.1 v.2) k_87) x_74 t_214 x_226 x_227 = some r → ∀ (a : Act) (w_228 : World), (∃ (N_225 : Mem), Fr 174 a [(1, p1_1), (4, .bool false), (5, .pointer (some ⟨g_2, 0, none⟩)), (7, .pointer (some ⟨g_17, 0, none⟩)), (8, .int .i64 x_74), (9, .bool x_226), (10, .int .i64 x_76), (11, .pointer (some ⟨g_206, 0, none⟩)), (13, .int .i64 x_227)] ∧ Sep w0 w_228 [N_225, Mem.one g_2 (.cells ([v_78, v_80] : List Value).toArray 25 (0, 0)), Mem.one g_17 (.cells ([v_218, v_220, .int .i64 t_214.2.2.2.1, .bool t_214.2.2.2.2] : List Value).toArray 58 (0, 0)), Mem.one g_206 (.cells ([.int .i64 (shr .i64 t_195 3), .int .i64 x_76, .int .i64 (shr .i64 t_200 9)] : List Value).toArray 28 (0, 0))] Z ∧ N_217.le N_225) → KJ_224 a w_228 := by
                  clear H hm hS a
                  rintro x_226 x_227 H a w_228 ⟨N_225, hm, hS, le_225⟩
                  unfold hocketlaw21_KeepPlays.J7 at H
                  refine hKJ_224 _ _ ?_
                  refine wp_region_lit ?_
                  refine s_load hm rfl rfl (hS.load_agg (p := 1) (us := [v_78, v_80]) rfl Try.underlying25 rfl ti25 rfl rfl) ?_
                  clear hm a; intro a hm
                  refine s_load hm rfl rfl (hS.load_agg (p := 3) (us := [.int .i64 (shr .i64 t_195 3), .int .i64 x_76, .int .i64 (shr .i64 t_200 9)]) rfl Try.underlying28 rfl ti28 rfl rfl) ?_
                  clear hm a; intro a hm
                  refine s_move hm rfl rfl ?_
                  clear hm a; intro a hm
                  obtain ⟨t_230, et_230, H⟩ := Option.bind_eq_some_iff.1 H
                  refine s_call hm rfl Try.call17 rfl (hocketref11_WriteDisk.calls K x_77 _ _ (⟨shr .i64 t_195 3, x_76, shr .i64 t_200 9⟩ : api_Record) x_227 t_230 w0 _ _ _ (Mem.le.refl _) (hS.enter [] (by decide)) (hr_79.mono ((le_91.trans (le_209.trans (le_217.trans le_225))).trans (hS.new_zed []))) (hr_81.mono ((le_91.trans (le_209.trans (le_217.trans le_225))).trans (hS.new_zed []))) et_230) ?_
                  rintro _ w_231 ⟨v_234, v_236, N_232, rfl, hS', hr_235, hr_237⟩
                  clear hm a; intro a hm
                  obtain ⟨N_233, hS'', le_233, ln_233⟩ := hS.call [] (by decide) rfl (l' := []) (ow := []) rfl hS'
                  replace hS : Sep w0 w_231 [N_233, Mem.one g_2 (.cells ([v_78, v_80] : List Value).toArray 25 (0, 0)), Mem.one g_17 (.cells ([v_218, v_220, .int .i64 t_214.2.2.2.1, .bool t_214.2.2.2.2] : List Value).toArray 58 (0, 0)), Mem.one g_206 (.cells ([.int .i64 (shr .i64 t_195 3), .int .i64 x_76, .int .i64 (shr .i64 t_200 9)] : List Value).toArray 28 (0, 0))] Z := hS''
                  clear hS' hS''
                  obtain ⟨w_238, hs', hS'⟩ := hS.store (P := Try.prog) (p := 1) (o := 0) (t := 25) (v := .agg [v_234, v_236].toArray) (vs := [v_234, v_236]) rfl ti25 rfl rfl rfl (by intro u hu; simp only [List.mem_cons, List.not_mem_nil, or_false] at hu; rcases hu with rfl | rfl <;> first | rfl | exact (hr_235.mono ln_233).one | exact (hr_237.mono ln_233).one)
                  refine s_store hm rfl rfl hs' ?_
                  replace hS : Sep w0 w_238 [N_233, Mem.one g_2 (.cells ([v_234, v_236] : List Value).toArray 25 (0, 0)), Mem.one g_17 (.cells ([v_218, v_220, .int .i64 t_214.2.2.2.1, .bool t_214.2.2.2.2] : List Value).toArray 58 (0, 0)), Mem.one g_206 (.cells ([.int .i64 (shr .i64 t_195 3), .int .i64 x_76, .int .i64 (shr .i64 t_200 9)] : List Value).toArray 28 (0, 0))] Z := hS'
                  clear hs' hS'
                  refine wpList_nil ?_
                  replace hm : Fr 174 a [(1, p1_1), (4, .bool false), (5, .pointer (some ⟨g_2, 0, none⟩)), (7, .pointer (some ⟨g_17, 0, none⟩)), (8, .int .i64 x_74), (9, .bool x_226), (10, .int .i64 x_76)] := hm.keep [1, 4, 5, 7, 8, 9, 10]
                  replace hS : Sep w0 w_238 [N_233, Mem.one g_2 (.cells ([v_234, v_236] : List Value).toArray 25 (0, 0)), Mem.one g_17 (.cells ([v_218, v_220, .int .i64 t_214.2.2.2.1, .bool t_214.2.2.2.2] : List Value).toArray 58 (0, 0)), Mem.one g_206 (.cells ([.int .i64 (shr .i64 t_195 3), .int .i64 x_76, .int .i64 (shr .i64 t_200 9)] : List Value).toArray 28 (0, 0))] Z := hS
                  replace hm : Fr 174 a [(1, p1_1), (4, .bool false), (5, .pointer (some ⟨g_2, 0, none⟩)), (7, .pointer (some ⟨g_17, 0, none⟩)), (8, .int .i64 x_74), (9, .bool x_226), (10, .int .i64 x_76)] := hm.keep [1, 4, 5, 7, 8, 9, 10]
                  exact x_then_n (hJ_j_117 x_74 x_226 t_230 (⟨(⟨t_214.2.1, t_214.2.2.1⟩ : api_Disk), t_214.2.2.2.1, t_214.2.2.2.2⟩ : keep_Keep) H _ _ ⟨v_234, v_236, v_218, v_220, N_233, hm, (Sep.sel hS [0, 1, 2] (by decide)), (le_209.trans (le_217.trans (le_225.trans le_233))), (hr_235.mono ln_233), (hr_237.mono ln_233), ((hr_219.mono (Mem.un_le le_217 ln_217)).mono (le_225.trans le_233)), ((hr_221.mono (Mem.un_le le_217 ln_217)).mono (le_225.trans le_233))⟩)
                clear hKJ_224
                by_cases hc_239 : x_74 ≥ 0
                · rw [if_pos hc_239] at H
                  refine c_cond_t hm rfl (decide_eq_true hc_239) ?_
                  refine wp_seq ?_
                  refine wp_region_lit ?_
                  refine s_load hm rfl rfl (hS.load_agg (p := 1) (us := [v_78, v_80]) rfl Try.underlying25 rfl ti25 rfl rfl) ?_
                  clear hm a; intro a hm
                  refine s_load hm rfl rfl (hS.load_agg (p := 3) (us := [.int .i64 (shr .i64 t_195 3), .int .i64 x_76, .int .i64 (shr .i64 t_200 9)]) rfl Try.underlying28 rfl ti28 rfl rfl) ?_
                  clear hm a; intro a hm
                  obtain ⟨t_240, et_240, H⟩ := Option.bind_eq_some_iff.1 H
                  refine s_call hm rfl Try.call17 rfl (hocketref11_WriteDisk.calls K x_77 _ _ (⟨shr .i64 t_195 3, x_76, shr .i64 t_200 9⟩ : api_Record) (-1) t_240 w0 _ _ _ (Mem.le.refl _) (hS.enter [] (by decide)) (hr_79.mono ((le_91.trans (le_209.trans le_217)).trans (hS.new_zed []))) (hr_81.mono ((le_91.trans (le_209.trans le_217)).trans (hS.new_zed []))) et_240) ?_
                  rintro _ w_241 ⟨v_244, v_246, N_242, rfl, hS', hr_245, hr_247⟩
                  clear hm a; intro a hm
                  obtain ⟨N_243, hS'', le_243, ln_243⟩ := hS.call [] (by decide) rfl (l' := []) (ow := []) rfl hS'
                  replace hS : Sep w0 w_241 [N_243, Mem.one g_2 (.cells ([v_78, v_80] : List Value).toArray 25 (0, 0)), Mem.one g_17 (.cells ([v_218, v_220, .int .i64 t_214.2.2.2.1, .bool t_214.2.2.2.2] : List Value).toArray 58 (0, 0)), Mem.one g_206 (.cells ([.int .i64 (shr .i64 t_195 3), .int .i64 x_76, .int .i64 (shr .i64 t_200 9)] : List Value).toArray 28 (0, 0))] Z := hS''
                  clear hS' hS''
                  refine v_alloc hm rfl ti25 hS ?_
                  intro w_248 g_249 hS'
                  clear hm a; intro a hm
                  replace hS : Sep w0 w_248 [N_243, Mem.one g_2 (.cells ([v_78, v_80] : List Value).toArray 25 (0, 0)), Mem.one g_17 (.cells ([v_218, v_220, .int .i64 t_214.2.2.2.1, .bool t_214.2.2.2.2] : List Value).toArray 58 (0, 0)), Mem.one g_206 (.cells ([.int .i64 (shr .i64 t_195 3), .int .i64 x_76, .int .i64 (shr .i64 t_200 9)] : List Value).toArray 28 (0, 0)), Mem.one g_249 (.cells ([.slice none 0 0, .slice none 0 0] : List Value).toArray 25 (0, 0))] Z := hS'
                  clear hS'
                  obtain ⟨w_250, hs', hS'⟩ := hS.store (P := Try.prog) (p := 4) (o := 0) (t := 25) (v := .agg [v_244, v_246].toArray) (vs := [v_244, v_246]) rfl ti25 rfl rfl rfl (by intro u hu; simp only [List.mem_cons, List.not_mem_nil, or_false] at hu; rcases hu with rfl | rfl <;> first | rfl | exact (hr_245.mono ln_243).one | exact (hr_247.mono ln_243).one)
                  refine s_store hm rfl rfl hs' ?_
                  replace hS : Sep w0 w_250 [N_243, Mem.one g_2 (.cells ([v_78, v_80] : List Value).toArray 25 (0, 0)), Mem.one g_17 (.cells ([v_218, v_220, .int .i64 t_214.2.2.2.1, .bool t_214.2.2.2.2] : List Value).toArray 58 (0, 0)), Mem.one g_206 (.cells ([.int .i64 (shr .i64 t_195 3), .int .i64 x_76, .int .i64 (shr .i64 t_200 9)] : List Value).toArray 28 (0, 0)), Mem.one g_249 (.cells ([v_244, v_246] : List Value).toArray 25 (0, 0))] Z := hS'
                  clear hs' hS'
                  refine wpList_nil ?_
                  replace hm : Fr 174 a [(1, p1_1), (4, .bool false), (5, .pointer (some ⟨g_2, 0, none⟩)), (7, .pointer (some ⟨g_17, 0, none⟩)), (8, .int .i64 x_74), (9, .bool x_75), (10, .int .i64 x_76), (11, .pointer (some ⟨g_206, 0, none⟩)), (13, .int .i64 x_74), (14, .pointer (some ⟨g_249, 0, none⟩))] := hm.keep [1, 4, 5, 7, 8, 9, 10, 11, 13, 14]
                  refine x_then_n ?_
                  refine wp_seq ?_
                  refine wp_region_lit ?_
                  refine s_fieldAddr hm rfl Try.underlying25 rfl ti23 rfl rfl ?_
                  clear hm a; intro a hm
                  refine s_load hm rfl rfl (hS.load_one (p := 4) rfl Try.underlying23 rfl rfl) ?_
                  clear hm a; intro a hm
                  refine s_len hm rfl Try.underlying23 rfl (hr_245.mono ln_243) ?_
                  clear hm a; intro a hm
                  refine s_assign hm rfl rfl ?_
                  clear hm a; intro a hm
                  refine wpList_nil ?_
                  replace hm : Fr 174 a [(1, p1_1), (4, .bool false), (5, .pointer (some ⟨g_2, 0, none⟩)), (7, .pointer (some ⟨g_17, 0, none⟩)), (8, .int .i64 x_74), (9, .bool x_75), (10, .int .i64 x_76), (11, .pointer (some ⟨g_206, 0, none⟩)), (13, .int .i64 x_74), (14, .pointer (some ⟨g_249, 0, none⟩)), (15, .int .i64 (t_240.A.length : Int))] := hm.keep [1, 4, 5, 7, 8, 9, 10, 11, 13, 14, 15]
                  refine x_then_n ?_
                  refine c_seq fun KJ_251 hKJ_251 => ?_
                  refine wp_seq ?_
                  refine wp_region_lit ?_
                  refine s_fieldAddr hm rfl Try.underlying25 rfl ti23 rfl rfl ?_
                  clear hm a; intro a hm
                  refine s_load hm rfl rfl (hS.load_one (p := 4) rfl Try.underlying23 rfl rfl) ?_
                  clear hm a; intro a hm
                  refine s_b2s hm rfl Try.underlying23 Try.underlying5 Try.underlying9 rfl (hr_245.mono ln_243) ((Mem.le.refl _).trans (hS.own 0)) ?_
                  clear hm a; intro a hm
                  refine s_fieldAddr hm rfl Try.underlying25 rfl ti23 rfl rfl ?_
                  clear hm a; intro a hm
                  refine s_load hm rfl rfl (hS.load_one (p := 1) rfl Try.underlying23 rfl rfl) ?_
                  clear hm a; intro a hm
                  refine s_b2s hm rfl Try.underlying23 Try.underlying5 Try.underlying9 rfl hr_79 ((le_91.trans (le_209.trans (le_217.trans le_243))).trans (hS.own 0)) ?_
                  clear hm a; intro a hm
                  refine s_strEq (b := (t_240.A == x_77.A)) hm rfl rfl rfl (.inl ⟨rfl, rfl⟩) ?_
                  clear hm a; intro a hm
                  refine wpList_nil ?_
                  replace hm : Fr 174 a [(1, p1_1), (4, .bool false), (5, .pointer (some ⟨g_2, 0, none⟩)), (7, .pointer (some ⟨g_17, 0, none⟩)), (8, .int .i64 x_74), (9, .bool x_75), (10, .int .i64 x_76), (11, .pointer (some ⟨g_206, 0, none⟩)), (13, .int .i64 x_74), (14, .pointer (some ⟨g_249, 0, none⟩)), (15, .int .i64 (t_240.A.length : Int)), (114, .bool (t_240.A == x_77.A))] := hm.keep [1, 4, 5, 7, 8, 9, 10, 11, 13, 14, 15, 114]
                  refine x_then_n ?_
                  have hJ_j_255 : ∀ (x_253 : Int), hocketlaw21_KeepPlays.J8 K x_77 t_195 x_76 t_200 (hocketlaw21_KeepPlays.L1 K x1 (fun v => hocketlaw21_KeepPlays.J2 K v.1 v.2) k_87) x_74 t_214 x_253 = some r → ∀ (a : Act) (w_254 : World), (∃ (N_252 : Mem), Fr 174 a [(1, p1_1), (4, .bool false), (5, .pointer (some ⟨g_2, 0, none⟩)), (7, .pointer (some ⟨g_17, 0, none⟩)), (8, .int .i64 x_74), (9, .bool x_75), (10, .int .i64 x_76), (11, .pointer (some ⟨g_206, 0, none⟩)), (13, .int .i64 x_74), (15, .int .i64 x_253)] ∧ Sep w0 w_254 [N_252, Mem.one g_2 (.cells ([v_78, v_80] : List Value).toArray 25 (0, 0)), Mem.one g_17 (.cells ([v_218, v_220, .int .i64 t_214.2.2.2.1, .bool t_214.2.2.2.2] : List Value).toArray 58 (0, 0)), Mem.one g_206 (.cells ([.int .i64 (shr .i64 t_195 3), .int .i64 x_76, .int .i64 (shr .i64 t_200 9)] : List Value).toArray 28 (0, 0)), Mem.no] Z ∧ N_243.le N_252) → KJ_251 a w_254 := by
                    clear H hm hS a
                    rintro x_253 H a w_254 ⟨N_252, hm, hS, le_252⟩
                    unfold hocketlaw21_KeepPlays.J8 at H
                    refine hKJ_251 _ _ ?_
                    refine wp_seq ?_
                    refine wp_region_lit ?_
                    refine s_move hm rfl rfl ?_
                    clear hm a; intro a hm
                    refine s_move hm rfl rfl ?_
                    clear hm a; intro a hm
                    refine s_arith (r := w64 (x_253 - 1)) hm rfl rfl rfl (.inr (.inl ⟨rfl, rfl⟩)) ?_
                    clear hm a; intro a hm
                    refine s_min hm rfl rfl rfl ?_
                    clear hm a; intro a hm
                    refine s_assign hm rfl rfl ?_
                    clear hm a; intro a hm
                    refine wpList_nil ?_
                    replace hm : Fr 174 a [(1, p1_1), (4, .bool false), (5, .pointer (some ⟨g_2, 0, none⟩)), (7, .pointer (some ⟨g_17, 0, none⟩)), (8, .int .i64 x_74), (9, .bool x_75), (10, .int .i64 x_76), (11, .pointer (some ⟨g_206, 0, none⟩)), (13, .int .i64 (mn x_74 (w64 (x_253 - 1))))] := hm.keep [1, 4, 5, 7, 8, 9, 10, 11, 13]
                    refine x_then_n ?_
                    refine wp_region_lit ?_
                    refine s_assign hm rfl rfl ?_
                    clear hm a; intro a hm
                    refine wpList_nil ?_
                    replace hm : Fr 174 a [(1, p1_1), (4, .bool false), (5, .pointer (some ⟨g_2, 0, none⟩)), (7, .pointer (some ⟨g_17, 0, none⟩)), (8, .int .i64 x_74), (9, .bool true), (10, .int .i64 x_76), (11, .pointer (some ⟨g_206, 0, none⟩)), (13, .int .i64 (mn x_74 (w64 (x_253 - 1))))] := hm.keep [1, 4, 5, 7, 8, 9, 10, 11, 13]
                    replace hS : Sep w0 w_254 [N_252, Mem.one g_2 (.cells ([v_78, v_80] : List Value).toArray 25 (0, 0)), Mem.one g_17 (.cells ([v_218, v_220, .int .i64 t_214.2.2.2.1, .bool t_214.2.2.2.2] : List Value).toArray 58 (0, 0)), Mem.one g_206 (.cells ([.int .i64 (shr .i64 t_195 3), .int .i64 x_76, .int .i64 (shr .i64 t_200 9)] : List Value).toArray 28 (0, 0)), Mem.no] Z := hS
                    replace hm : Fr 174 a [(1, p1_1), (4, .bool false), (5, .pointer (some ⟨g_2, 0, none⟩)), (7, .pointer (some ⟨g_17, 0, none⟩)), (8, .int .i64 x_74), (9, .bool true), (10, .int .i64 x_76), (11, .pointer (some ⟨g_206, 0, none⟩)), (13, .int .i64 (mn x_74 (w64 (x_253 - 1))))] := hm.keep [1, 4, 5, 7, 8, 9, 10, 11, 13]
                    exact x_then_n (hJ_j_229 true (mn x_74 (w64 (x_253 - 1))) H _ _ ⟨N_252, hm, (Sep.sel hS [0, 1, 2, 3] (by decide)), (le_243.trans le_252)⟩)
                  clear hKJ_251
                  by_cases hc_256 : t_240.A = x_77.A
                  · rw [if_pos hc_256] at H
                    refine c_cond_t hm rfl (beq_iff_eq.2 hc_256) ?_
                    refine wp_region_lit ?_
                    refine s_fieldAddr hm rfl Try.underlying25 rfl ti23 rfl rfl ?_
                    clear hm a; intro a hm
                    refine s_load hm rfl rfl (hS.load_one (p := 4) rfl Try.underlying23 rfl rfl) ?_
                    clear hm a; intro a hm
                    refine s_len hm rfl Try.underlying23 rfl (hr_247.mono ln_243) ?_
                    clear hm a; intro a hm
                    refine s_assign hm rfl rfl ?_
                    clear hm a; intro a hm
                    refine wpList_nil ?_
                    replace hm : Fr 174 a [(1, p1_1), (4, .bool false), (5, .pointer (some ⟨g_2, 0, none⟩)), (7, .pointer (some ⟨g_17, 0, none⟩)), (8, .int .i64 x_74), (9, .bool x_75), (10, .int .i64 x_76), (11, .pointer (some ⟨g_206, 0, none⟩)), (13, .int .i64 x_74), (15, .int .i64 (t_240.B.length : Int))] := hm.keep [1, 4, 5, 7, 8, 9, 10, 11, 13, 15]
                    replace hS : Sep w0 w_250 [N_243, Mem.one g_2 (.cells ([v_78, v_80] : List Value).toArray 25 (0, 0)), Mem.one g_17 (.cells ([v_218, v_220, .int .i64 t_214.2.2.2.1, .bool t_214.2.2.2.2] : List Value).toArray 58 (0, 0)), Mem.one g_206 (.cells ([.int .i64 (shr .i64 t_195 3), .int .i64 x_76, .int .i64 (shr .i64 t_200 9)] : List Value).toArray 28 (0, 0)), Mem.one g_249 (.cells ([v_244, v_246] : List Value).toArray 25 (0, 0))] Z := hS
                    replace hm : Fr 174 a [(1, p1_1), (4, .bool false), (5, .pointer (some ⟨g_2, 0, none⟩)), (7, .pointer (some ⟨g_17, 0, none⟩)), (8, .int .i64 x_74), (9, .bool x_75), (10, .int .i64 x_76), (11, .pointer (some ⟨g_206, 0, none⟩)), (13, .int .i64 x_74), (15, .int .i64 (t_240.B.length : Int))] := hm.keep [1, 4, 5, 7, 8, 9, 10, 11, 13, 15]
                    exact x_then_n (hJ_j_255 (t_240.B.length : Int) H _ _ ⟨N_243, hm, (Sep.sel hS [0, 1, 2, 3, 1003] (by decide)), (Mem.le.refl _)⟩)
                  · rw [if_neg hc_256] at H
                    refine c_cond_f hm rfl (beq_eq_false_iff_ne.2 hc_256) ?_
                    refine wp_skip ?_
                    replace hS : Sep w0 w_250 [N_243, Mem.one g_2 (.cells ([v_78, v_80] : List Value).toArray 25 (0, 0)), Mem.one g_17 (.cells ([v_218, v_220, .int .i64 t_214.2.2.2.1, .bool t_214.2.2.2.2] : List Value).toArray 58 (0, 0)), Mem.one g_206 (.cells ([.int .i64 (shr .i64 t_195 3), .int .i64 x_76, .int .i64 (shr .i64 t_200 9)] : List Value).toArray 28 (0, 0)), Mem.one g_249 (.cells ([v_244, v_246] : List Value).toArray 25 (0, 0))] Z := hS
                    replace hm : Fr 174 a [(1, p1_1), (4, .bool false), (5, .pointer (some ⟨g_2, 0, none⟩)), (7, .pointer (some ⟨g_17, 0, none⟩)), (8, .int .i64 x_74), (9, .bool x_75), (10, .int .i64 x_76), (11, .pointer (some ⟨g_206, 0, none⟩)), (13, .int .i64 x_74), (15, .int .i64 (t_240.A.length : Int))] := hm.keep [1, 4, 5, 7, 8, 9, 10, 11, 13, 15]
                    exact x_then_n (hJ_j_255 (t_240.A.length : Int) H _ _ ⟨N_243, hm, (Sep.sel hS [0, 1, 2, 3, 1003] (by decide)), (Mem.le.refl _)⟩)
                · rw [if_neg hc_239] at H
                  refine c_cond_f hm rfl (decide_eq_false hc_239) ?_
                  refine wp_skip ?_
                  replace hS : Sep w0 w_215 [N_217, Mem.one g_2 (.cells ([v_78, v_80] : List Value).toArray 25 (0, 0)), Mem.one g_17 (.cells ([v_218, v_220, .int .i64 t_214.2.2.2.1, .bool t_214.2.2.2.2] : List Value).toArray 58 (0, 0)), Mem.one g_206 (.cells ([.int .i64 (shr .i64 t_195 3), .int .i64 x_76, .int .i64 (shr .i64 t_200 9)] : List Value).toArray 28 (0, 0))] Z := hS
                  replace hm : Fr 174 a [(1, p1_1), (4, .bool false), (5, .pointer (some ⟨g_2, 0, none⟩)), (7, .pointer (some ⟨g_17, 0, none⟩)), (8, .int .i64 x_74), (9, .bool x_75), (10, .int .i64 x_76), (11, .pointer (some ⟨g_206, 0, none⟩)), (13, .int .i64 x_74)] := hm.keep [1, 4, 5, 7, 8, 9, 10, 11, 13]
                  exact x_then_n (hJ_j_229 x_75 x_74 H _ _ ⟨N_217, hm, (Sep.sel hS [0, 1, 2, 3] (by decide)), (Mem.le.refl _)⟩)
            · rw [if_neg hc_222] at H
              cases H
          clear hKJ_208
          refine wp_region_lit ?_
          refine s_move hm rfl rfl ?_
          clear hm a; intro a hm
          refine s_not hm rfl rfl ?_
          clear hm a; intro a hm
          refine s_move hm rfl rfl ?_
          clear hm a; intro a hm
          by_cases hc_257 : x_75 = true
          · rw [if_pos hc_257] at H
            refine s_off hm rfl rfl rfl (nf hc_257) ?_
            clear hm a; intro a hm
            refine s_off hm rfl rfl rfl (nf hc_257) ?_
            clear hm a; intro a hm
            refine s_pick_f hm rfl rfl (nf hc_257) rfl ?_
            clear hm a; intro a hm
            refine s_assign hm rfl rfl ?_
            clear hm a; intro a hm
            refine wpList_nil ?_
            replace hm : Fr 174 a [(1, p1_1), (4, .bool false), (5, .pointer (some ⟨g_2, 0, none⟩)), (7, .pointer (some ⟨g_17, 0, none⟩)), (8, .int .i64 x_74), (9, .bool x_75), (10, .int .i64 x_76), (11, .pointer (some ⟨g_206, 0, none⟩)), (12, .bool false)] := hm.keep [1, 4, 5, 7, 8, 9, 10, 11, 12]
            replace hS : Sep w0 w_207 [N_91, Mem.one g_2 (.cells ([v_78, v_80] : List Value).toArray 25 (0, 0)), Mem.one g_17 (.cells ([v_83, v_85, .int .i64 x_82.cut, .bool x_82.dead] : List Value).toArray 58 (0, 0)), Mem.one g_206 (.cells ([.int .i64 (shr .i64 t_195 3), .int .i64 x_76, .int .i64 (shr .i64 t_200 9)] : List Value).toArray 28 (0, 0))] Z := hS
            replace hm : Fr 174 a [(1, p1_1), (4, .bool false), (5, .pointer (some ⟨g_2, 0, none⟩)), (7, .pointer (some ⟨g_17, 0, none⟩)), (8, .int .i64 x_74), (9, .bool x_75), (10, .int .i64 x_76), (11, .pointer (some ⟨g_206, 0, none⟩)), (12, .bool false)] := hm.keep [1, 4, 5, 7, 8, 9, 10, 11, 12]
            exact x_then_n (hJ_j_212 false H _ _ ⟨N_91, hm, (Sep.sel hS [0, 1, 2, 3] (by decide)), (Mem.le.refl _)⟩)
          · rw [if_neg hc_257] at H
            refine s_on hm rfl rfl (nt (Bool.eq_false_iff.2 hc_257)) ?_
            refine s_move hm rfl rfl ?_
            clear hm a; intro a hm
            refine s_on hm rfl rfl (nt (Bool.eq_false_iff.2 hc_257)) ?_
            refine s_cmp (b := decide (x_74 < 0)) hm rfl rfl rfl (.inr (.inr (.inl ⟨rfl, rfl⟩))) ?_
            clear hm a; intro a hm
            refine s_pick_t hm rfl rfl (nt (Bool.eq_false_iff.2 hc_257)) rfl ?_
            clear hm a; intro a hm
            refine s_assign hm rfl rfl ?_
            clear hm a; intro a hm
            refine wpList_nil ?_
            replace hm : Fr 174 a [(1, p1_1), (4, .bool false), (5, .pointer (some ⟨g_2, 0, none⟩)), (7, .pointer (some ⟨g_17, 0, none⟩)), (8, .int .i64 x_74), (9, .bool x_75), (10, .int .i64 x_76), (11, .pointer (some ⟨g_206, 0, none⟩)), (12, .bool (decide (x_74 < 0)))] := hm.keep [1, 4, 5, 7, 8, 9, 10, 11, 12]
            replace hS : Sep w0 w_207 [N_91, Mem.one g_2 (.cells ([v_78, v_80] : List Value).toArray 25 (0, 0)), Mem.one g_17 (.cells ([v_83, v_85, .int .i64 x_82.cut, .bool x_82.dead] : List Value).toArray 58 (0, 0)), Mem.one g_206 (.cells ([.int .i64 (shr .i64 t_195 3), .int .i64 x_76, .int .i64 (shr .i64 t_200 9)] : List Value).toArray 28 (0, 0))] Z := hS
            replace hm : Fr 174 a [(1, p1_1), (4, .bool false), (5, .pointer (some ⟨g_2, 0, none⟩)), (7, .pointer (some ⟨g_17, 0, none⟩)), (8, .int .i64 x_74), (9, .bool x_75), (10, .int .i64 x_76), (11, .pointer (some ⟨g_206, 0, none⟩)), (12, .bool (decide (x_74 < 0)))] := hm.keep [1, 4, 5, 7, 8, 9, 10, 11, 12]
            exact x_then_n (hJ_j_212 (decide (x_74 < 0)) H _ _ ⟨N_91, hm, (Sep.sel hS [0, 1, 2, 3] (by decide)), (Mem.le.refl _)⟩)
      · rw [if_neg hc_95] at H
        refine c_cond_f hm rfl (Bool.eq_false_iff.2 hc_95) ?_
        refine wp_exit (x_then_x (x_then_x (x_block_t ?_)))
        replace hS : Sep w0 w_93 [N_91, Mem.one g_2 (.cells ([v_78, v_80] : List Value).toArray 25 (0, 0)), Mem.one g_17 (.cells ([v_83, v_85, .int .i64 x_82.cut, .bool x_82.dead] : List Value).toArray 58 (0, 0))] Z := hS
        replace hm : Fr 174 a [(4, .bool false), (5, .pointer (some ⟨g_2, 0, none⟩)), (7, .pointer (some ⟨g_17, 0, none⟩))] := hm.keep [4, 5, 7]
        exact x_then_n (hJ_j_36 x_77 x_82 H _ _ ⟨v_78, v_80, v_83, v_85, N_91, hm, (Sep.sel hS [0, 1, 2] (by decide)), (le_73.trans le_91), (hr_79.mono le_91), (hr_81.mono le_91), (hr_84.mono le_91), (hr_86.mono le_91)⟩)
    clear hKJ_90
    refine wp_region_lit ?_
    refine s_move hm rfl rfl ?_
    clear hm a; intro a hm
    refine s_move hm rfl rfl ?_
    clear hm a; intro a hm
    refine s_len hm rfl Try.underlying22 rfl hp1_1 ?_
    clear hm a; intro a hm
    refine s_cmp (b := decide (x_76 < (x1.length : Int))) hm rfl rfl rfl (.inr (.inr (.inl ⟨rfl, rfl⟩))) ?_
    clear hm a; intro a hm
    refine s_move hm rfl rfl ?_
    clear hm a; intro a hm
    by_cases hc_258 : x_76 < (x1.length : Int)
    · rw [if_pos hc_258] at H
      refine s_on hm rfl rfl (decide_eq_true hc_258) ?_
      refine s_move hm rfl rfl ?_
      clear hm a; intro a hm
      refine s_on hm rfl rfl (decide_eq_true hc_258) ?_
      refine s_cmp (b := decide (x_76 < 30)) hm rfl rfl rfl (.inr (.inr (.inl ⟨rfl, rfl⟩))) ?_
      clear hm a; intro a hm
      refine s_pick_t hm rfl rfl (decide_eq_true hc_258) rfl ?_
      clear hm a; intro a hm
      refine wpList_nil ?_
      replace hm : Fr 174 a [(1, p1_1), (4, .bool false), (5, .pointer (some ⟨g_2, 0, none⟩)), (7, .pointer (some ⟨g_17, 0, none⟩)), (8, .int .i64 x_74), (9, .bool x_75), (10, .int .i64 x_76), (53, .bool (decide (x_76 < 30)))] := hm.keep [1, 4, 5, 7, 8, 9, 10, 53]
      replace hS : Sep w0 w_87 [N_73, Mem.one g_2 (.cells ([v_78, v_80] : List Value).toArray 25 (0, 0)), Mem.one g_17 (.cells ([v_83, v_85, .int .i64 x_82.cut, .bool x_82.dead] : List Value).toArray 58 (0, 0))] Z := hS
      replace hm : Fr 174 a [(1, p1_1), (4, .bool false), (5, .pointer (some ⟨g_2, 0, none⟩)), (7, .pointer (some ⟨g_17, 0, none⟩)), (8, .int .i64 x_74), (9, .bool x_75), (10, .int .i64 x_76), (53, .bool (decide (x_76 < 30)))] := hm.keep [1, 4, 5, 7, 8, 9, 10, 53]
      exact x_then_n (hJ_j_94 (decide (x_76 < 30)) H _ _ ⟨N_73, hm, (Sep.sel hS [0, 1, 2] (by decide)), (Mem.le.refl _)⟩)
    · rw [if_neg hc_258] at H
      refine s_off hm rfl rfl rfl (decide_eq_false hc_258) ?_
      clear hm a; intro a hm
      refine s_off hm rfl rfl rfl (decide_eq_false hc_258) ?_
      clear hm a; intro a hm
      refine s_pick_f hm rfl rfl (decide_eq_false hc_258) rfl ?_
      clear hm a; intro a hm
      refine wpList_nil ?_
      replace hm : Fr 174 a [(1, p1_1), (4, .bool false), (5, .pointer (some ⟨g_2, 0, none⟩)), (7, .pointer (some ⟨g_17, 0, none⟩)), (8, .int .i64 x_74), (9, .bool x_75), (10, .int .i64 x_76), (53, .bool false)] := hm.keep [1, 4, 5, 7, 8, 9, 10, 53]
      replace hS : Sep w0 w_87 [N_73, Mem.one g_2 (.cells ([v_78, v_80] : List Value).toArray 25 (0, 0)), Mem.one g_17 (.cells ([v_83, v_85, .int .i64 x_82.cut, .bool x_82.dead] : List Value).toArray 58 (0, 0))] Z := hS
      replace hm : Fr 174 a [(1, p1_1), (4, .bool false), (5, .pointer (some ⟨g_2, 0, none⟩)), (7, .pointer (some ⟨g_17, 0, none⟩)), (8, .int .i64 x_74), (9, .bool x_75), (10, .int .i64 x_76), (53, .bool false)] := hm.keep [1, 4, 5, 7, 8, 9, 10, 53]
      exact x_then_n (hJ_j_94 false H _ _ ⟨N_73, hm, (Sep.sel hS [0, 1, 2] (by decide)), (Mem.le.refl _)⟩)
  clear hKJ_4
  replace hS : Sep w0 w_3 [Mem.no, Mem.one g_2 (.cells ([.slice none 0 0, .slice none 0 0] : List Value).toArray 25 (0, 0))] Z := hS
  replace hm : Fr 174 a [(0, p0_0), (1, p1_1), (4, .bool false), (5, .pointer (some ⟨g_2, 0, none⟩)), (6, .int .i64 0)] := hm.keep [0, 1, 4, 5, 6]
  refine c_block ?_
  refine c_loop (fun k_266 a w_266 => ∃ (x_260 : Int) (x_261 : api_Disk) (v_262 : Value) (v_264 : Value) (N_259 : Mem), hocketlaw21_KeepPlays.L2 K x0 (fun v => hocketlaw21_KeepPlays.J1 K x1 v) k_266 (x_260, x_261) = some r ∧ Fr 174 a [(0, p0_0), (1, p1_1), (4, .bool false), (5, .pointer (some ⟨g_2, 0, none⟩)), (6, .int .i64 x_260)] ∧ Sep w0 w_266 [N_259, Mem.one g_2 (.cells ([v_262, v_264] : List Value).toArray 25 (0, 0))] Z ∧ Mem.no.le N_259 ∧ Rd Kd.u8 N_259 v_262 x_261.A ∧ Rd Kd.u8 N_259 v_264 x_261.B) K ⟨0, (⟨([] : List UInt8), ([] : List UInt8)⟩ : api_Disk), .slice none 0 0, .slice none 0 0, Mem.no, H, hm, (Sep.sel hS [0, 1] (by decide)), (Mem.le.refl _), (Rd.nil _ _), (Rd.nil _ _)⟩ (fun a w h => by obtain ⟨_, _, _, _, _, H, _⟩ := h; cases (show (none : Option (Unit)) = some r from H)) ?_
  clear hm hS a H
  rintro k_266 a w_266 KL_266 hKL_266 ⟨x_260, x_261, v_262, v_264, N_259, H, hm, hS, le_259, hr_263, hr_265⟩
  replace H : hocketlaw21_KeepPlays.B2 K x0 (fun v => hocketlaw21_KeepPlays.J1 K x1 v) (hocketlaw21_KeepPlays.L2 K x0 (fun v => hocketlaw21_KeepPlays.J1 K x1 v) k_266) x_260 x_261 = some r := H
  unfold hocketlaw21_KeepPlays.B2 at H
  refine c_seq fun KJ_268 hKJ_268 => ?_
  refine c_seq fun KJ_269 hKJ_269 => ?_
  have hJ_j_273 : ∀ (x_271 : Bool), hocketlaw21_KeepPlays.J9 K x0 x_260 x_261 (hocketlaw21_KeepPlays.L2 K x0 (fun v => hocketlaw21_KeepPlays.J1 K x1 v) k_266) (fun v => hocketlaw21_KeepPlays.J1 K x1 v) x_271 = some r → ∀ (a : Act) (w_272 : World), (∃ (N_270 : Mem), Fr 174 a [(0, p0_0), (1, p1_1), (4, .bool false), (5, .pointer (some ⟨g_2, 0, none⟩)), (6, .int .i64 x_260), (32, .bool x_271)] ∧ Sep w0 w_272 [N_270, Mem.one g_2 (.cells ([v_262, v_264] : List Value).toArray 25 (0, 0))] Z ∧ N_259.le N_270) → KJ_269 a w_272 := by
    clear H hm hS a
    rintro x_271 H a w_272 ⟨N_270, hm, hS, le_270⟩
    unfold hocketlaw21_KeepPlays.J9 at H
    refine hKJ_269 _ _ ?_
    by_cases hc_274 : x_271 = true
    · rw [if_pos hc_274] at H
      refine c_cond_t hm rfl hc_274 ?_
      refine wp_skip ?_
      refine x_then_n (hKJ_268 _ _ ?_)
      refine c_seq fun KJ_275 hKJ_275 => ?_
      refine c_block ?_
      refine h_begin (S := fun w => Sep w0 w [N_270, Mem.no] Z) 8 (by kernel_rfl) rfl [false, false, false, false, false, false, false, false].toArray rfl hS fun w_276 hS => ?_
      replace hS : Sep w0 w_276 [N_270, Mem.one g_2 (.cells ([v_262, v_264] : List Value).toArray 25 (0, 0))] Z := hS
      refine h_take 1 [false, true, false, false, false, false, false, false].toArray rfl (by kernel_rfl) (by kernel_rfl) (by kernel_rfl) (fun _ _ _ _ h => h) rfl rfl rfl rfl hm (hS.sub (.cons (Mem.le.refl _) (.cons (Mem.no_le _) (Sub.nil _)))) (v := p0_0) (fun w hS => r_move hm rfl) ?_
      clear hm a; intro a hm
      refine h_take 2 [false, true, true, false, false, false, false, false].toArray rfl (by kernel_rfl) (by kernel_rfl) (by kernel_rfl) (fun _ _ _ _ h => h) rfl rfl rfl rfl hm (hS.sub (.cons (Mem.le.refl _) (.cons (Mem.no_le _) (Sub.nil _)))) (v := .int .i64 x_260) (fun w hS => r_move hm rfl) ?_
      clear hm a; intro a hm
      obtain ⟨t_277, et_277, H⟩ := Option.bind_eq_some_iff.1 H
      refine h_takeE 3 [false, true, true, true, false, false, false, false].toArray rfl (by kernel_rfl) (by kernel_rfl) (by kernel_rfl) (fun _ _ _ _ h => h) rfl rfl rfl rfl hm (hS.sub (.cons (Mem.le.refl _) (.cons (Mem.no_le _) (Sub.nil _)))) (f := fun ad => .pointer (some ad)) (r_index hm Try.underlying22 ti3 rfl rfl rfl hp0_0 et_277) ?_
      rintro ad_278 ⟨cs_279, hk_280, hc_281⟩
      obtain rfl := (show cs_279 = [.int .i64 t_277] from hk_280)
      clear hm a; intro a hm
      refine h_take 4 [false, true, true, true, true, false, false, false].toArray rfl (by kernel_rfl) (by kernel_rfl) (by kernel_rfl) (fun _ _ _ _ h => h) rfl rfl rfl rfl hm (hS.sub (.cons (Mem.le.refl _) (.cons (Mem.no_le _) (Sub.nil _)))) (v := .int .i64 t_277) (fun w hS => r_load hm rfl (el_one (o := 0) (fun j c h => Mem.cell_le (hA.trans hS.old) (hc_281 j c h)) Try.underlying3 rfl rfl)) ?_
      clear hm a; intro a hm
      refine h_take 5 [false, true, true, true, true, true, false, false].toArray rfl (by kernel_rfl) (by kernel_rfl) (by kernel_rfl) (fun _ _ _ _ h => h) rfl rfl rfl rfl hm (hS.sub (.cons (Mem.le.refl _) (.cons (Mem.no_le _) (Sub.nil _)))) (v := .agg [.int .i64 t_277, .int .i64 0, .int .i64 0].toArray) (fun w hS => r_build hm ti28 pl28 rfl (.cons rfl .nil) (cs := [.int .i64 t_277, .int .i64 0, .int .i64 0]) rfl) ?_
      clear hm a; intro a hm
      refine h_event 0 [true, true, true, true, true, true, false, false].toArray rfl (by kernel_rfl) rfl ?_
      refine s_load hm rfl rfl (hS.load_agg (p := 1) (us := [v_262, v_264]) rfl Try.underlying25 rfl ti25 rfl rfl) ?_
      clear hm a; intro a hm
      refine wpList_nil ?_
      refine x_then_n ⟨(hS.sub (.cons (Mem.le.refl _) (.cons (Mem.no_le _) (Sub.nil _)))), ?_⟩
      refine h_event 6 [true, true, true, true, true, true, true, false].toArray rfl (by kernel_rfl) rfl ?_
      obtain ⟨t_282, et_282, H⟩ := Option.bind_eq_some_iff.1 H
      refine s_call hm rfl Try.call17 rfl (hocketref11_WriteDisk.calls K x_261 _ _ (⟨t_277, 0, 0⟩ : api_Record) (-1) t_282 w0 _ _ _ (Mem.le.refl _) (hS.enter [] (by decide)) (hr_263.mono (le_270.trans (hS.new_zed []))) (hr_265.mono (le_270.trans (hS.new_zed []))) et_282) ?_
      rintro _ w_283 ⟨v_286, v_288, N_284, rfl, hS', hr_287, hr_289⟩
      clear hm a; intro a hm
      obtain ⟨N_285, hS'', le_285, ln_285⟩ := hS.call [] (by decide) rfl (l' := []) (ow := []) rfl hS'
      replace hS : Sep w0 w_283 [N_285, Mem.one g_2 (.cells ([v_262, v_264] : List Value).toArray 25 (0, 0))] Z := hS''
      clear hS' hS''
      refine wpList_nil ?_
      refine x_then_n ⟨(hS.sub (.cons le_285 (.cons (Mem.no_le _) (Sub.nil _)))), ?_⟩
      refine h_event 7 [true, true, true, true, true, true, true, true].toArray rfl (by kernel_rfl) rfl ?_
      obtain ⟨w_290, hs', hS'⟩ := hS.store (P := Try.prog) (p := 1) (o := 0) (t := 25) (v := .agg [v_286, v_288].toArray) (vs := [v_286, v_288]) rfl ti25 rfl rfl rfl (by intro u hu; simp only [List.mem_cons, List.not_mem_nil, or_false] at hu; rcases hu with rfl | rfl <;> first | rfl | exact (hr_287.mono ln_285).one | exact (hr_289.mono ln_285).one)
      refine s_store hm rfl rfl hs' ?_
      replace hS : Sep w0 w_290 [N_285, Mem.one g_2 (.cells ([v_286, v_288] : List Value).toArray 25 (0, 0))] Z := hS'
      clear hs' hS'
      refine wpList_nil ?_
      refine x_then_n ⟨(hS.sub (.cons le_285 (.cons (Mem.no_le _) (Sub.nil _)))), ?_⟩
      refine h_done (by kernel_rfl) ?_
      replace hm : Fr 174 a [(0, p0_0), (1, p1_1), (4, .bool false), (5, .pointer (some ⟨g_2, 0, none⟩)), (6, .int .i64 x_260)] := hm.keep [0, 1, 4, 5, 6]
      refine x_block_n ?_
      refine x_then_n (hKJ_275 _ _ ?_)
      refine wp_region_lit ?_
      refine s_move hm rfl rfl ?_
      clear hm a; intro a hm
      refine s_arith (r := w64 (x_260 + 1)) hm rfl rfl rfl (.inl ⟨rfl, rfl⟩) ?_
      clear hm a; intro a hm
      refine s_assign hm rfl rfl ?_
      clear hm a; intro a hm
      refine wpList_nil ?_
      replace hm : Fr 174 a [(0, p0_0), (1, p1_1), (4, .bool false), (5, .pointer (some ⟨g_2, 0, none⟩)), (6, .int .i64 (w64 (x_260 + 1)))] := hm.keep [0, 1, 4, 5, 6]
      refine x_then_n (hKL_266 _ _ ?_)
      replace hS : Sep w0 w_290 [N_285, Mem.one g_2 (.cells ([v_286, v_288] : List Value).toArray 25 (0, 0))] Z := hS
      replace hm : Fr 174 a [(0, p0_0), (1, p1_1), (4, .bool false), (5, .pointer (some ⟨g_2, 0, none⟩)), (6, .int .i64 (w64 (x_260 + 1)))] := hm.keep [0, 1, 4, 5, 6]
      exact ⟨w64 (x_260 + 1), t_282, v_286, v_288, N_285, H, hm, (Sep.sel hS [0, 1] (by decide)), (le_259.trans (le_270.trans le_285)), (hr_287.mono ln_285), (hr_289.mono ln_285)⟩
    · rw [if_neg hc_274] at H
      refine c_cond_f hm rfl (Bool.eq_false_iff.2 hc_274) ?_
      refine wp_exit (x_then_x (x_then_x (x_block_t ?_)))
      replace hS : Sep w0 w_272 [N_270, Mem.one g_2 (.cells ([v_262, v_264] : List Value).toArray 25 (0, 0))] Z := hS
      replace hm : Fr 174 a [(1, p1_1), (4, .bool false), (5, .pointer (some ⟨g_2, 0, none⟩))] := hm.keep [1, 4, 5]
      exact x_then_n (hJ_j_12 x_261 H _ _ ⟨v_262, v_264, N_270, hm, (Sep.sel hS [0, 1] (by decide)), (le_259.trans le_270), (hr_263.mono le_270), (hr_265.mono le_270)⟩)
  clear hKJ_269
  refine wp_region_lit ?_
  refine s_move hm rfl rfl ?_
  clear hm a; intro a hm
  refine s_move hm rfl rfl ?_
  clear hm a; intro a hm
  refine s_len hm rfl Try.underlying22 rfl hp0_0 ?_
  clear hm a; intro a hm
  refine s_cmp (b := decide (x_260 < (x0.length : Int))) hm rfl rfl rfl (.inr (.inr (.inl ⟨rfl, rfl⟩))) ?_
  clear hm a; intro a hm
  refine s_move hm rfl rfl ?_
  clear hm a; intro a hm
  by_cases hc_291 : x_260 < (x0.length : Int)
  · rw [if_pos hc_291] at H
    refine s_on hm rfl rfl (decide_eq_true hc_291) ?_
    refine s_move hm rfl rfl ?_
    clear hm a; intro a hm
    refine s_on hm rfl rfl (decide_eq_true hc_291) ?_
    refine s_cmp (b := decide (x_260 < 5)) hm rfl rfl rfl (.inr (.inr (.inl ⟨rfl, rfl⟩))) ?_
    clear hm a; intro a hm
    refine s_pick_t hm rfl rfl (decide_eq_true hc_291) rfl ?_
    clear hm a; intro a hm
    refine wpList_nil ?_
    replace hm : Fr 174 a [(0, p0_0), (1, p1_1), (4, .bool false), (5, .pointer (some ⟨g_2, 0, none⟩)), (6, .int .i64 x_260), (32, .bool (decide (x_260 < 5)))] := hm.keep [0, 1, 4, 5, 6, 32]
    replace hS : Sep w0 w_266 [N_259, Mem.one g_2 (.cells ([v_262, v_264] : List Value).toArray 25 (0, 0))] Z := hS
    replace hm : Fr 174 a [(0, p0_0), (1, p1_1), (4, .bool false), (5, .pointer (some ⟨g_2, 0, none⟩)), (6, .int .i64 x_260), (32, .bool (decide (x_260 < 5)))] := hm.keep [0, 1, 4, 5, 6, 32]
    exact x_then_n (hJ_j_273 (decide (x_260 < 5)) H _ _ ⟨N_259, hm, (Sep.sel hS [0, 1] (by decide)), (Mem.le.refl _)⟩)
  · rw [if_neg hc_291] at H
    refine s_off hm rfl rfl rfl (decide_eq_false hc_291) ?_
    clear hm a; intro a hm
    refine s_off hm rfl rfl rfl (decide_eq_false hc_291) ?_
    clear hm a; intro a hm
    refine s_pick_f hm rfl rfl (decide_eq_false hc_291) rfl ?_
    clear hm a; intro a hm
    refine wpList_nil ?_
    replace hm : Fr 174 a [(0, p0_0), (1, p1_1), (4, .bool false), (5, .pointer (some ⟨g_2, 0, none⟩)), (6, .int .i64 x_260), (32, .bool false)] := hm.keep [0, 1, 4, 5, 6, 32]
    replace hS : Sep w0 w_266 [N_259, Mem.one g_2 (.cells ([v_262, v_264] : List Value).toArray 25 (0, 0))] Z := hS
    replace hm : Fr 174 a [(0, p0_0), (1, p1_1), (4, .bool false), (5, .pointer (some ⟨g_2, 0, none⟩)), (6, .int .i64 x_260), (32, .bool false)] := hm.keep [0, 1, 4, 5, 6, 32]
    exact x_then_n (hJ_j_273 false H _ _ ⟨N_259, hm, (Sep.sel hS [0, 1] (by decide)), (Mem.le.refl _)⟩)
end Go.Proofs
