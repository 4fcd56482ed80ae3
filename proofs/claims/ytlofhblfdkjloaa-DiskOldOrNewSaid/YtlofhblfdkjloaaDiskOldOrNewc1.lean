/- What the calls do: each function once. -/
import Derived.Test.YtlofhblfdkjloaaDiskOldOrNewc0
namespace Go.Proofs
open Go.Gp
set_option linter.unusedVariables false
set_option maxHeartbeats 4000000 in
set_option maxRecDepth 20000 in
theorem hocketlaw13_awake.calls (K : Nat) (r : Unit) (w0 w : World) (Z A : Mem) (hA : A.le Z) (hS : Sep w0 w [] Z)
    (H : hocketlaw13_awake.f K = some r) :
    Calls Try.prog 13 [].toArray w (Ret fun v w' => ∃ (N : Mem), v = .bool true ∧ Sep w0 w' [N] Z) := by
  unfold hocketlaw13_awake.f at H
  refine f_enter _ Try.func13 rfl Try.ntmps13 rfl fun a hm => ?_
  replace hm : Fr 70 a [] := hm
  replace hS := hS.start
  replace hS : Sep w0 w [Mem.no] Z := hS
  refine wp_seq ?_
  refine wp_region_lit ?_
  refine s_assign hm rfl rfl ?_
  clear hm a; intro a hm
  refine wpList_nil ?_
  replace hm : Fr 70 a [(0, .bool false)] := hm.keep [0]
  refine x_then_n ?_
  refine wp_seq ?_
  refine wp_region_lit ?_
  refine s_build hm rfl ti25 pl25 rfl .nil (cs := [.slice none 0 0, .slice none 0 0]) rfl ?_
  clear hm a; intro a hm
  refine s_build hm rfl ti28 pl28 rfl (.cons rfl .nil) (cs := [.int .i64 1, .int .i64 0, .int .i64 0]) rfl ?_
  clear hm a; intro a hm
  obtain ⟨t_1, et_1, H⟩ := Option.bind_eq_some_iff.1 H
  refine s_call hm rfl Try.call11 rfl (disk_Write.calls K (⟨([] : List UInt8), ([] : List UInt8)⟩ : api_Disk) _ _ (⟨1, 0, 0⟩ : api_Record) (-1) t_1 w0 _ _ _ (Mem.le.refl _) (hS.enter [] (by decide)) (Rd.nil _ _) (Rd.nil _ _) et_1) ?_
  rintro _ w_2 ⟨v_5, v_9, N_3, M_7, M_11, rfl, hS', hr_6, hr_10⟩
  clear hm a; intro a hm
  obtain ⟨N_4, hS'', le_4, ln_4⟩ := hS.call [] (by decide) rfl (l' := []) (ow := [M_7, M_11]) rfl hS'
  replace hS : Sep w0 w_2 [N_4, M_7, M_11] Z := hS''
  clear hS' hS''
  refine v_alloc hm rfl ti25 hS ?_
  intro w_13 g_14 hS'
  clear hm a; intro a hm
  replace hS : Sep w0 w_13 [N_4, M_7, M_11, Mem.one g_14 (.cells ([.slice none 0 0, .slice none 0 0] : List Value).toArray 25 (0, 0))] Z := hS'
  clear hS'
  obtain ⟨w_15, hs', hS'⟩ := hS.store (P := Try.prog) (p := 3) (o := 0) (t := 25) (v := .agg [v_5, v_9].toArray) (vs := [v_5, v_9]) rfl ti25 rfl rfl rfl (by intro u hu; simp only [List.mem_cons, List.not_mem_nil, or_false] at hu; rcases hu with rfl | rfl <;> first | rfl | exact hr_6.one | exact hr_10.one)
  refine s_store hm rfl rfl hs' ?_
  replace hS : Sep w0 w_15 [N_4, M_7, M_11, Mem.one g_14 (.cells ([v_5, v_9] : List Value).toArray 25 (0, 0))] Z := hS'
  clear hs' hS'
  refine wpList_nil ?_
  replace hm : Fr 70 a [(0, .bool false), (1, .pointer (some ⟨g_14, 0, none⟩))] := hm.keep [0, 1]
  refine x_then_n ?_
  refine wp_seq ?_
  refine wp_region_lit ?_
  refine s_load hm rfl rfl (hS.load_agg (p := 3) (us := [v_5, v_9]) rfl Try.underlying25 rfl ti25 rfl rfl) ?_
  clear hm a; intro a hm
  refine s_build hm rfl ti28 pl28 rfl (.cons rfl (.cons rfl .nil)) (cs := [.int .i64 2, .int .i64 8, .int .i64 0]) rfl ?_
  clear hm a; intro a hm
  obtain ⟨t_16, et_16, H⟩ := Option.bind_eq_some_iff.1 H
  refine s_call hm rfl Try.call11 rfl (disk_Write.calls K t_1 _ _ (⟨2, 8, 0⟩ : api_Record) (-1) t_16 w0 _ _ _ (Mem.le.refl _) (hS.enter [] (by decide)) (hr_6.rd (hS.own_zed [] 0 (by decide)) (Mem.no_le _)) (hr_10.rd (hS.own_zed [] 1 (by decide)) (Mem.no_le _)) et_16) ?_
  rintro _ w_17 ⟨v_20, v_24, N_18, M_22, M_26, rfl, hS', hr_21, hr_25⟩
  clear hm a; intro a hm
  obtain ⟨N_19, hS'', le_19, ln_19⟩ := hS.call [] (by decide) rfl (l' := []) (ow := [M_22, M_26]) rfl hS'
  replace hS : Sep w0 w_17 [N_19, M_7, M_11, Mem.one g_14 (.cells ([v_5, v_9] : List Value).toArray 25 (0, 0)), M_22, M_26] Z := hS''
  clear hS' hS''
  refine v_alloc hm rfl ti25 hS ?_
  intro w_28 g_29 hS'
  clear hm a; intro a hm
  replace hS : Sep w0 w_28 [N_19, M_7, M_11, Mem.one g_14 (.cells ([v_5, v_9] : List Value).toArray 25 (0, 0)), M_22, M_26, Mem.one g_29 (.cells ([.slice none 0 0, .slice none 0 0] : List Value).toArray 25 (0, 0))] Z := hS'
  clear hS'
  obtain ⟨w_30, hs', hS'⟩ := hS.store (P := Try.prog) (p := 6) (o := 0) (t := 25) (v := .agg [v_20, v_24].toArray) (vs := [v_20, v_24]) rfl ti25 rfl rfl rfl (by intro u hu; simp only [List.mem_cons, List.not_mem_nil, or_false] at hu; rcases hu with rfl | rfl <;> first | rfl | exact hr_21.one | exact hr_25.one)
  refine s_store hm rfl rfl hs' ?_
  replace hS : Sep w0 w_30 [N_19, M_7, M_11, Mem.one g_14 (.cells ([v_5, v_9] : List Value).toArray 25 (0, 0)), M_22, M_26, Mem.one g_29 (.cells ([v_20, v_24] : List Value).toArray 25 (0, 0))] Z := hS'
  clear hs' hS'
  refine wpList_nil ?_
  replace hm : Fr 70 a [(0, .bool false), (1, .pointer (some ⟨g_14, 0, none⟩)), (2, .pointer (some ⟨g_29, 0, none⟩))] := hm.keep [0, 1, 2]
  refine x_then_n ?_
  refine wp_seq ?_
  refine wp_region_lit ?_
  refine s_load hm rfl rfl (hS.load_agg (p := 6) (us := [v_20, v_24]) rfl Try.underlying25 rfl ti25 rfl rfl) ?_
  clear hm a; intro a hm
  refine s_build hm rfl ti28 pl28 rfl (.cons rfl .nil) (cs := [.int .i64 3, .int .i64 0, .int .i64 0]) rfl ?_
  clear hm a; intro a hm
  obtain ⟨t_31, et_31, H⟩ := Option.bind_eq_some_iff.1 H
  refine s_call hm rfl Try.call11 rfl (disk_Write.calls K t_16 _ _ (⟨3, 0, 0⟩ : api_Record) 5 t_31 w0 _ _ _ (Mem.le.refl _) (hS.enter [] (by decide)) (hr_21.rd (hS.own_zed [] 3 (by decide)) (Mem.no_le _)) (hr_25.rd (hS.own_zed [] 4 (by decide)) (Mem.no_le _)) et_31) ?_
  rintro _ w_32 ⟨v_35, v_39, N_33, M_37, M_41, rfl, hS', hr_36, hr_40⟩
  clear hm a; intro a hm
  obtain ⟨N_34, hS'', le_34, ln_34⟩ := hS.call [] (by decide) rfl (l' := []) (ow := [M_37, M_41]) rfl hS'
  replace hS : Sep w0 w_32 [N_34, M_7, M_11, Mem.one g_14 (.cells ([v_5, v_9] : List Value).toArray 25 (0, 0)), M_22, M_26, Mem.one g_29 (.cells ([v_20, v_24] : List Value).toArray 25 (0, 0)), M_37, M_41] Z := hS''
  clear hS' hS''
  refine v_alloc hm rfl ti25 hS ?_
  intro w_43 g_44 hS'
  clear hm a; intro a hm
  replace hS : Sep w0 w_43 [N_34, M_7, M_11, Mem.one g_14 (.cells ([v_5, v_9] : List Value).toArray 25 (0, 0)), M_22, M_26, Mem.one g_29 (.cells ([v_20, v_24] : List Value).toArray 25 (0, 0)), M_37, M_41, Mem.one g_44 (.cells ([.slice none 0 0, .slice none 0 0] : List Value).toArray 25 (0, 0))] Z := hS'
  clear hS'
  obtain ⟨w_45, hs', hS'⟩ := hS.store (P := Try.prog) (p := 9) (o := 0) (t := 25) (v := .agg [v_35, v_39].toArray) (vs := [v_35, v_39]) rfl ti25 rfl rfl rfl (by intro u hu; simp only [List.mem_cons, List.not_mem_nil, or_false] at hu; rcases hu with rfl | rfl <;> first | rfl | exact hr_36.one | exact hr_40.one)
  refine s_store hm rfl rfl hs' ?_
  replace hS : Sep w0 w_45 [N_34, M_7, M_11, Mem.one g_14 (.cells ([v_5, v_9] : List Value).toArray 25 (0, 0)), M_22, M_26, Mem.one g_29 (.cells ([v_20, v_24] : List Value).toArray 25 (0, 0)), M_37, M_41, Mem.one g_44 (.cells ([v_35, v_39] : List Value).toArray 25 (0, 0))] Z := hS'
  clear hs' hS'
  refine wpList_nil ?_
  replace hm : Fr 70 a [(0, .bool false), (1, .pointer (some ⟨g_14, 0, none⟩)), (2, .pointer (some ⟨g_29, 0, none⟩)), (3, .pointer (some ⟨g_44, 0, none⟩))] := hm.keep [0, 1, 2, 3]
  refine x_then_n ?_
  refine wp_seq ?_
  refine wp_region_lit ?_
  refine s_load hm rfl rfl (hS.load_agg (p := 6) (us := [v_20, v_24]) rfl Try.underlying25 rfl ti25 rfl rfl) ?_
  clear hm a; intro a hm
  obtain ⟨t_46, et_46, H⟩ := Option.bind_eq_some_iff.1 H
  refine s_call hm rfl Try.call12 rfl (disk_Read.calls K t_16 _ _ t_46 w0 _ _ _ (Mem.le.refl _) (hS.enter [] (by decide)) (hr_21.rd (hS.own_zed [] 3 (by decide)) (Mem.no_le _)) (hr_25.rd (hS.own_zed [] 4 (by decide)) (Mem.no_le _)) et_46) ?_
  rintro _ w_47 ⟨N_48, rfl, hS'⟩
  clear hm a; intro a hm
  obtain ⟨N_49, hS'', le_49, ln_49⟩ := hS.call [] (by decide) rfl (l' := []) (ow := []) rfl hS'
  replace hS : Sep w0 w_47 [N_49, M_7, M_11, Mem.one g_14 (.cells ([v_5, v_9] : List Value).toArray 25 (0, 0)), M_22, M_26, Mem.one g_29 (.cells ([v_20, v_24] : List Value).toArray 25 (0, 0)), M_37, M_41, Mem.one g_44 (.cells ([v_35, v_39] : List Value).toArray 25 (0, 0))] Z := hS''
  clear hS' hS''
  refine s_move hm rfl rfl ?_
  clear hm a; intro a hm
  refine s_extract hm rfl rfl rfl ?_
  clear hm a; intro a hm
  refine s_extract hm rfl rfl rfl ?_
  clear hm a; intro a hm
  refine v_alloc hm rfl ti28 hS ?_
  intro w_50 g_51 hS'
  clear hm a; intro a hm
  replace hS : Sep w0 w_50 [N_49, M_7, M_11, Mem.one g_14 (.cells ([v_5, v_9] : List Value).toArray 25 (0, 0)), M_22, M_26, Mem.one g_29 (.cells ([v_20, v_24] : List Value).toArray 25 (0, 0)), M_37, M_41, Mem.one g_44 (.cells ([v_35, v_39] : List Value).toArray 25 (0, 0)), Mem.one g_51 (.cells ([.int .i64 0, .int .i64 0, .int .i64 0] : List Value).toArray 28 (0, 0))] Z := hS'
  clear hS'
  obtain ⟨w_52, hs', hS'⟩ := hS.store (P := Try.prog) (p := 10) (o := 0) (t := 28) (v := .agg [.int .i64 t_46.1.Inc, .int .i64 t_46.1.Prom, .int .i64 t_46.1.Inst].toArray) (vs := [.int .i64 t_46.1.Inc, .int .i64 t_46.1.Prom, .int .i64 t_46.1.Inst]) rfl ti28 rfl rfl rfl (by intro u hu; simp only [List.mem_cons, List.not_mem_nil, or_false] at hu; rcases hu with rfl | rfl | rfl <;> rfl)
  refine s_store hm rfl rfl hs' ?_
  replace hS : Sep w0 w_52 [N_49, M_7, M_11, Mem.one g_14 (.cells ([v_5, v_9] : List Value).toArray 25 (0, 0)), M_22, M_26, Mem.one g_29 (.cells ([v_20, v_24] : List Value).toArray 25 (0, 0)), M_37, M_41, Mem.one g_44 (.cells ([v_35, v_39] : List Value).toArray 25 (0, 0)), Mem.one g_51 (.cells ([.int .i64 t_46.1.Inc, .int .i64 t_46.1.Prom, .int .i64 t_46.1.Inst] : List Value).toArray 28 (0, 0))] Z := hS'
  clear hs' hS'
  refine s_assign hm rfl rfl ?_
  clear hm a; intro a hm
  refine wpList_nil ?_
  replace hm : Fr 70 a [(0, .bool false), (1, .pointer (some ⟨g_14, 0, none⟩)), (3, .pointer (some ⟨g_44, 0, none⟩)), (4, .pointer (some ⟨g_51, 0, none⟩)), (5, .bool t_46.2)] := hm.keep [0, 1, 3, 4, 5]
  refine x_then_n ?_
  refine wp_seq ?_
  refine wp_region_lit ?_
  refine s_load hm rfl rfl (hS.load_agg (p := 9) (us := [v_35, v_39]) rfl Try.underlying25 rfl ti25 rfl rfl) ?_
  clear hm a; intro a hm
  obtain ⟨t_53, et_53, H⟩ := Option.bind_eq_some_iff.1 H
  refine s_call hm rfl Try.call12 rfl (disk_Read.calls K t_31 _ _ t_53 w0 _ _ _ (Mem.le.refl _) (hS.enter [] (by decide)) (hr_36.rd (hS.own_zed [] 6 (by decide)) (Mem.no_le _)) (hr_40.rd (hS.own_zed [] 7 (by decide)) (Mem.no_le _)) et_53) ?_
  rintro _ w_54 ⟨N_55, rfl, hS'⟩
  clear hm a; intro a hm
  obtain ⟨N_56, hS'', le_56, ln_56⟩ := hS.call [] (by decide) rfl (l' := []) (ow := []) rfl hS'
  replace hS : Sep w0 w_54 [N_56, M_7, M_11, Mem.one g_14 (.cells ([v_5, v_9] : List Value).toArray 25 (0, 0)), M_22, M_26, Mem.one g_29 (.cells ([v_20, v_24] : List Value).toArray 25 (0, 0)), M_37, M_41, Mem.one g_44 (.cells ([v_35, v_39] : List Value).toArray 25 (0, 0)), Mem.one g_51 (.cells ([.int .i64 t_46.1.Inc, .int .i64 t_46.1.Prom, .int .i64 t_46.1.Inst] : List Value).toArray 28 (0, 0))] Z := hS''
  clear hS' hS''
  refine s_move hm rfl rfl ?_
  clear hm a; intro a hm
  refine s_extract hm rfl rfl rfl ?_
  clear hm a; intro a hm
  refine s_extract hm rfl rfl rfl ?_
  clear hm a; intro a hm
  refine v_alloc hm rfl ti28 hS ?_
  intro w_57 g_58 hS'
  clear hm a; intro a hm
  replace hS : Sep w0 w_57 [N_56, M_7, M_11, Mem.one g_14 (.cells ([v_5, v_9] : List Value).toArray 25 (0, 0)), M_22, M_26, Mem.one g_29 (.cells ([v_20, v_24] : List Value).toArray 25 (0, 0)), M_37, M_41, Mem.one g_44 (.cells ([v_35, v_39] : List Value).toArray 25 (0, 0)), Mem.one g_51 (.cells ([.int .i64 t_46.1.Inc, .int .i64 t_46.1.Prom, .int .i64 t_46.1.Inst] : List Value).toArray 28 (0, 0)), Mem.one g_58 (.cells ([.int .i64 0, .int .i64 0, .int .i64 0] : List Value).toArray 28 (0, 0))] Z := hS'
  clear hS'
  obtain ⟨w_59, hs', hS'⟩ := hS.store (P := Try.prog) (p := 11) (o := 0) (t := 28) (v := .agg [.int .i64 t_53.1.Inc, .int .i64 t_53.1.Prom, .int .i64 t_53.1.Inst].toArray) (vs := [.int .i64 t_53.1.Inc, .int .i64 t_53.1.Prom, .int .i64 t_53.1.Inst]) rfl ti28 rfl rfl rfl (by intro u hu; simp only [List.mem_cons, List.not_mem_nil, or_false] at hu; rcases hu with rfl | rfl | rfl <;> rfl)
  refine s_store hm rfl rfl hs' ?_
  replace hS : Sep w0 w_59 [N_56, M_7, M_11, Mem.one g_14 (.cells ([v_5, v_9] : List Value).toArray 25 (0, 0)), M_22, M_26, Mem.one g_29 (.cells ([v_20, v_24] : List Value).toArray 25 (0, 0)), M_37, M_41, Mem.one g_44 (.cells ([v_35, v_39] : List Value).toArray 25 (0, 0)), Mem.one g_51 (.cells ([.int .i64 t_46.1.Inc, .int .i64 t_46.1.Prom, .int .i64 t_46.1.Inst] : List Value).toArray 28 (0, 0)), Mem.one g_58 (.cells ([.int .i64 t_53.1.Inc, .int .i64 t_53.1.Prom, .int .i64 t_53.1.Inst] : List Value).toArray 28 (0, 0))] Z := hS'
  clear hs' hS'
  refine s_assign hm rfl rfl ?_
  clear hm a; intro a hm
  refine wpList_nil ?_
  replace hm : Fr 70 a [(0, .bool false), (1, .pointer (some ⟨g_14, 0, none⟩)), (3, .pointer (some ⟨g_44, 0, none⟩)), (4, .pointer (some ⟨g_51, 0, none⟩)), (5, .bool t_46.2), (6, .pointer (some ⟨g_58, 0, none⟩)), (7, .bool t_53.2)] := hm.keep [0, 1, 3, 4, 5, 6, 7]
  refine x_then_n ?_
  refine wp_seq ?_
  refine wp_region_lit ?_
  refine s_build hm rfl ti25 pl25 rfl .nil (cs := [.slice none 0 0, .slice none 0 0]) rfl ?_
  clear hm a; intro a hm
  obtain ⟨t_60, et_60, H⟩ := Option.bind_eq_some_iff.1 H
  refine s_call hm rfl Try.call12 rfl (disk_Read.calls K (⟨([] : List UInt8), ([] : List UInt8)⟩ : api_Disk) _ _ t_60 w0 _ _ _ (Mem.le.refl _) (hS.enter [] (by decide)) (Rd.nil _ _) (Rd.nil _ _) et_60) ?_
  rintro _ w_61 ⟨N_62, rfl, hS'⟩
  clear hm a; intro a hm
  obtain ⟨N_63, hS'', le_63, ln_63⟩ := hS.call [] (by decide) rfl (l' := []) (ow := []) rfl hS'
  replace hS : Sep w0 w_61 [N_63, M_7, M_11, Mem.one g_14 (.cells ([v_5, v_9] : List Value).toArray 25 (0, 0)), M_22, M_26, Mem.one g_29 (.cells ([v_20, v_24] : List Value).toArray 25 (0, 0)), M_37, M_41, Mem.one g_44 (.cells ([v_35, v_39] : List Value).toArray 25 (0, 0)), Mem.one g_51 (.cells ([.int .i64 t_46.1.Inc, .int .i64 t_46.1.Prom, .int .i64 t_46.1.Inst] : List Value).toArray 28 (0, 0)), Mem.one g_58 (.cells ([.int .i64 t_53.1.Inc, .int .i64 t_53.1.Prom, .int .i64 t_53.1.Inst] : List Value).toArray 28 (0, 0))] Z := hS''
  clear hS' hS''
  refine s_move hm rfl rfl ?_
  clear hm a; intro a hm
  refine s_extract hm rfl rfl rfl ?_
  clear hm a; intro a hm
  refine s_extract hm rfl rfl rfl ?_
  clear hm a; intro a hm
  refine v_alloc hm rfl ti28 hS ?_
  intro w_64 g_65 hS'
  clear hm a; intro a hm
  replace hS : Sep w0 w_64 [N_63, M_7, M_11, Mem.one g_14 (.cells ([v_5, v_9] : List Value).toArray 25 (0, 0)), M_22, M_26, Mem.one g_29 (.cells ([v_20, v_24] : List Value).toArray 25 (0, 0)), M_37, M_41, Mem.one g_44 (.cells ([v_35, v_39] : List Value).toArray 25 (0, 0)), Mem.one g_51 (.cells ([.int .i64 t_46.1.Inc, .int .i64 t_46.1.Prom, .int .i64 t_46.1.Inst] : List Value).toArray 28 (0, 0)), Mem.one g_58 (.cells ([.int .i64 t_53.1.Inc, .int .i64 t_53.1.Prom, .int .i64 t_53.1.Inst] : List Value).toArray 28 (0, 0)), Mem.one g_65 (.cells ([.int .i64 0, .int .i64 0, .int .i64 0] : List Value).toArray 28 (0, 0))] Z := hS'
  clear hS'
  obtain ⟨w_66, hs', hS'⟩ := hS.store (P := Try.prog) (p := 12) (o := 0) (t := 28) (v := .agg [.int .i64 t_60.1.Inc, .int .i64 t_60.1.Prom, .int .i64 t_60.1.Inst].toArray) (vs := [.int .i64 t_60.1.Inc, .int .i64 t_60.1.Prom, .int .i64 t_60.1.Inst]) rfl ti28 rfl rfl rfl (by intro u hu; simp only [List.mem_cons, List.not_mem_nil, or_false] at hu; rcases hu with rfl | rfl | rfl <;> rfl)
  refine s_store hm rfl rfl hs' ?_
  replace hS : Sep w0 w_66 [N_63, M_7, M_11, Mem.one g_14 (.cells ([v_5, v_9] : List Value).toArray 25 (0, 0)), M_22, M_26, Mem.one g_29 (.cells ([v_20, v_24] : List Value).toArray 25 (0, 0)), M_37, M_41, Mem.one g_44 (.cells ([v_35, v_39] : List Value).toArray 25 (0, 0)), Mem.one g_51 (.cells ([.int .i64 t_46.1.Inc, .int .i64 t_46.1.Prom, .int .i64 t_46.1.Inst] : List Value).toArray 28 (0, 0)), Mem.one g_58 (.cells ([.int .i64 t_53.1.Inc, .int .i64 t_53.1.Prom, .int .i64 t_53.1.Inst] : List Value).toArray 28 (0, 0)), Mem.one g_65 (.cells ([.int .i64 t_60.1.Inc, .int .i64 t_60.1.Prom, .int .i64 t_60.1.Inst] : List Value).toArray 28 (0, 0))] Z := hS'
  clear hs' hS'
  refine s_assign hm rfl rfl ?_
  clear hm a; intro a hm
  refine wpList_nil ?_
  replace hm : Fr 70 a [(0, .bool false), (1, .pointer (some ⟨g_14, 0, none⟩)), (3, .pointer (some ⟨g_44, 0, none⟩)), (4, .pointer (some ⟨g_51, 0, none⟩)), (5, .bool t_46.2), (6, .pointer (some ⟨g_58, 0, none⟩)), (7, .bool t_53.2), (9, .bool t_60.2)] := hm.keep [0, 1, 3, 4, 5, 6, 7, 9]
  refine x_then_n ?_
  refine c_seq fun KJ_67 hKJ_67 => ?_
  refine wp_region_lit ?_
  refine s_move hm rfl rfl ?_
  clear hm a; intro a hm
  refine s_move hm rfl rfl ?_
  clear hm a; intro a hm
  by_cases hc_68 : t_46.2 = true
  · rw [if_pos hc_68] at H
    refine s_on hm rfl rfl hc_68 ?_
    refine s_load hm rfl rfl (hS.load_agg (p := 10) (us := [.int .i64 t_46.1.Inc, .int .i64 t_46.1.Prom, .int .i64 t_46.1.Inst]) rfl Try.underlying28 rfl ti28 rfl rfl) ?_
    clear hm a; intro a hm
    refine s_on hm rfl rfl hc_68 ?_
    refine s_build hm rfl ti28 pl28 rfl (.cons rfl (.cons rfl .nil)) (cs := [.int .i64 2, .int .i64 8, .int .i64 0]) rfl ?_
    clear hm a; intro a hm
    refine s_on hm rfl rfl hc_68 ?_
    refine s_structEq (xs := [t_46.1.Inc, t_46.1.Prom, t_46.1.Inst]) (ys := [2, 8, 0]) (b := ([t_46.1.Inc, t_46.1.Prom, t_46.1.Inst] == [2, 8, 0])) hm rfl Try.underlying28 (by kernel_rfl) (by kernel_rfl) ⟨rfl, rfl, Try.underlying3, rfl, rfl, Try.underlying3, rfl, rfl, Try.underlying3, trivial⟩ rfl rfl rfl rfl (.inl ⟨rfl, rfl⟩) ?_
    clear hm a; intro a hm
    refine s_pick_t hm rfl rfl hc_68 rfl ?_
    clear hm a; intro a hm
    refine s_move hm rfl rfl ?_
    clear hm a; intro a hm
    by_cases hc_69 : [t_46.1.Inc, t_46.1.Prom, t_46.1.Inst] = [2, 8, 0]
    · rw [if_pos hc_69] at H
      refine s_on hm rfl rfl (beq_iff_eq.2 hc_69) ?_
      refine s_move hm rfl rfl ?_
      clear hm a; intro a hm
      refine s_pick_t hm rfl rfl (beq_iff_eq.2 hc_69) rfl ?_
      clear hm a; intro a hm
      refine s_move hm rfl rfl ?_
      clear hm a; intro a hm
      by_cases hc_70 : t_53.2 = true
      · rw [if_pos hc_70] at H
        refine s_on hm rfl rfl hc_70 ?_
        refine s_load hm rfl rfl (hS.load_agg (p := 11) (us := [.int .i64 t_53.1.Inc, .int .i64 t_53.1.Prom, .int .i64 t_53.1.Inst]) rfl Try.underlying28 rfl ti28 rfl rfl) ?_
        clear hm a; intro a hm
        refine s_on hm rfl rfl hc_70 ?_
        refine s_load hm rfl rfl (hS.load_agg (p := 10) (us := [.int .i64 t_46.1.Inc, .int .i64 t_46.1.Prom, .int .i64 t_46.1.Inst]) rfl Try.underlying28 rfl ti28 rfl rfl) ?_
        clear hm a; intro a hm
        refine s_on hm rfl rfl hc_70 ?_
        refine s_structEq (xs := [t_53.1.Inc, t_53.1.Prom, t_53.1.Inst]) (ys := [t_46.1.Inc, t_46.1.Prom, t_46.1.Inst]) (b := ([t_53.1.Inc, t_53.1.Prom, t_53.1.Inst] == [t_46.1.Inc, t_46.1.Prom, t_46.1.Inst])) hm rfl Try.underlying28 (by kernel_rfl) (by kernel_rfl) ⟨rfl, rfl, Try.underlying3, rfl, rfl, Try.underlying3, rfl, rfl, Try.underlying3, trivial⟩ rfl rfl rfl rfl (.inl ⟨rfl, rfl⟩) ?_
        clear hm a; intro a hm
        refine s_pick_t hm rfl rfl hc_70 rfl ?_
        clear hm a; intro a hm
        refine s_move hm rfl rfl ?_
        clear hm a; intro a hm
        by_cases hc_71 : [t_53.1.Inc, t_53.1.Prom, t_53.1.Inst] = [t_46.1.Inc, t_46.1.Prom, t_46.1.Inst]
        · rw [if_pos hc_71] at H
          refine s_on hm rfl rfl (beq_iff_eq.2 hc_71) ?_
          refine s_move hm rfl rfl ?_
          clear hm a; intro a hm
          refine s_on hm rfl rfl (beq_iff_eq.2 hc_71) ?_
          refine s_not hm rfl rfl ?_
          clear hm a; intro a hm
          refine s_pick_t hm rfl rfl (beq_iff_eq.2 hc_71) rfl ?_
          clear hm a; intro a hm
          refine s_move hm rfl rfl ?_
          clear hm a; intro a hm
          by_cases hc_72 : t_60.2 = true
          · rw [if_pos hc_72] at H
            cases H
          · rw [if_neg hc_72] at H
            refine s_on hm rfl rfl (nt (Bool.eq_false_iff.2 hc_72)) ?_
            refine s_fieldAddr hm rfl Try.underlying25 rfl ti23 rfl rfl ?_
            clear hm a; intro a hm
            refine s_on hm rfl rfl (nt (Bool.eq_false_iff.2 hc_72)) ?_
            refine s_load hm rfl rfl (hS.load_one (p := 3) rfl Try.underlying23 rfl rfl) ?_
            clear hm a; intro a hm
            refine s_on hm rfl rfl (nt (Bool.eq_false_iff.2 hc_72)) ?_
            refine s_lenO hm rfl Try.underlying23 rfl hr_6 ?_
            clear hm a; intro a hm
            refine s_on hm rfl rfl (nt (Bool.eq_false_iff.2 hc_72)) ?_
            refine s_cmp (b := decide ((t_1.A.length : Int) > 0)) hm rfl rfl rfl (.inr (.inr (.inr (.inr (.inl ⟨rfl, rfl⟩))))) ?_
            clear hm a; intro a hm
            refine s_pick_t hm rfl rfl (nt (Bool.eq_false_iff.2 hc_72)) rfl ?_
            clear hm a; intro a hm
            refine s_move hm rfl rfl ?_
            clear hm a; intro a hm
            by_cases hc_73 : (t_1.A.length : Int) > 0
            · rw [if_pos hc_73] at H
              refine s_on hm rfl rfl (decide_eq_true hc_73) ?_
              refine s_fieldAddr hm rfl Try.underlying25 rfl ti23 rfl rfl ?_
              clear hm a; intro a hm
              refine s_on hm rfl rfl (decide_eq_true hc_73) ?_
              refine s_load hm rfl rfl (hS.load_one (p := 3) rfl Try.underlying23 rfl rfl) ?_
              clear hm a; intro a hm
              refine s_on hm rfl rfl (decide_eq_true hc_73) ?_
              refine s_lenO hm rfl Try.underlying23 rfl hr_10 ?_
              clear hm a; intro a hm
              refine s_on hm rfl rfl (decide_eq_true hc_73) ?_
              refine s_cmp (b := ((t_1.B.length : Int) == 0)) hm rfl rfl rfl (.inl ⟨rfl, rfl⟩) ?_
              clear hm a; intro a hm
              refine s_pick_t hm rfl rfl (decide_eq_true hc_73) rfl ?_
              clear hm a; intro a hm
              refine s_move hm rfl rfl ?_
              clear hm a; intro a hm
              by_cases hc_74 : (t_1.B.length : Int) = 0
              · rw [if_pos hc_74] at H
                refine s_on hm rfl rfl (beq_iff_eq.2 hc_74) ?_
                refine s_fieldAddr hm rfl Try.underlying25 rfl ti23 rfl rfl ?_
                clear hm a; intro a hm
                refine s_on hm rfl rfl (beq_iff_eq.2 hc_74) ?_
                refine s_load hm rfl rfl (hS.load_one (p := 9) rfl Try.underlying23 rfl rfl) ?_
                clear hm a; intro a hm
                refine s_on hm rfl rfl (beq_iff_eq.2 hc_74) ?_
                refine s_lenO hm rfl Try.underlying23 rfl hr_36 ?_
                clear hm a; intro a hm
                refine s_on hm rfl rfl (beq_iff_eq.2 hc_74) ?_
                refine s_cmp (b := ((t_31.A.length : Int) == 5)) hm rfl rfl rfl (.inl ⟨rfl, rfl⟩) ?_
                clear hm a; intro a hm
                refine s_pick_t hm rfl rfl (beq_iff_eq.2 hc_74) rfl ?_
                clear hm a; intro a hm
                refine s_assign hm rfl rfl ?_
                clear hm a; intro a hm
                refine wpList_nil ?_
                replace hm : Fr 70 a [(0, .bool ((t_31.A.length : Int) == 5))] := hm.keep [0]
                refine x_then_n (hKJ_67 _ _ ?_)
                refine wp_ret ?_
                by_cases hc_75 : (t_31.A.length : Int) = 5
                · rw [if_pos hc_75] at H
                  exact f_ret hm (rs := [.tmp 0]) rfl (.tmp rfl .nil) ⟨_, rfl, N_63, (by rw [(beq_iff_eq.2 hc_75)]; rfl), (Sep.sel hS [0] (by decide))⟩
                · rw [if_neg hc_75] at H
                  cases H
              · rw [if_neg hc_74] at H
                cases H
            · rw [if_neg hc_73] at H
              cases H
        · rw [if_neg hc_71] at H
          cases H
      · rw [if_neg hc_70] at H
        cases H
    · rw [if_neg hc_69] at H
      cases H
  · rw [if_neg hc_68] at H
    cases H

set_option maxHeartbeats 4000000 in
set_option maxRecDepth 20000 in
theorem hocketlaw13_DiskOldOrNew.calls (K : Nat) (x0 : List Int) (p0_0 : Value) (x1 : Int) (x2 : Int) (r : Unit) (w0 w : World) (Z A : Mem) (hA : A.le Z) (hS : Sep w0 w [] Z) (hp0_0 : Rd (Kd.int .i64) A p0_0 x0)
    (H : hocketlaw13_DiskOldOrNew.f K x0 x1 x2 = some r) :
    Calls Try.prog 7 [p0_0, .int .i64 x1, .int .i64 x2].toArray w (Ret fun v w' => ∃ (N : Mem), v = .bool true ∧ Sep w0 w' [N] Z) := by
  unfold hocketlaw13_DiskOldOrNew.f at H
  refine f_enter _ Try.func7 rfl Try.ntmps7 rfl fun a hm => ?_
  replace hm : Fr 110 a [(0, p0_0), (1, .int .i64 x1), (2, .int .i64 x2)] := hm
  replace hS := hS.start
  replace hS : Sep w0 w [Mem.no] Z := hS
  refine wp_seq ?_
  refine wp_region_lit ?_
  refine s_assign hm rfl rfl ?_
  clear hm a; intro a hm
  refine wpList_nil ?_
  replace hm : Fr 110 a [(0, p0_0), (1, .int .i64 x1), (2, .int .i64 x2), (6, .bool false)] := hm.keep [0, 1, 2, 6]
  refine x_then_n ?_
  refine wp_seq ?_
  refine wp_region_lit ?_
  refine s_build hm rfl ti25 pl25 rfl .nil (cs := [.slice none 0 0, .slice none 0 0]) rfl ?_
  clear hm a; intro a hm
  refine v_alloc hm rfl ti25 hS ?_
  intro w_1 g_2 hS'
  clear hm a; intro a hm
  replace hS : Sep w0 w_1 [Mem.no, Mem.one g_2 (.cells ([.slice none 0 0, .slice none 0 0] : List Value).toArray 25 (0, 0))] Z := hS'
  clear hS'
  obtain ⟨w_3, hs', hS'⟩ := hS.store (P := Try.prog) (p := 1) (o := 0) (t := 25) (v := .agg [.slice none 0 0, .slice none 0 0].toArray) (vs := [.slice none 0 0, .slice none 0 0]) rfl ti25 rfl rfl rfl (by intro u hu; simp only [List.mem_cons, List.not_mem_nil, or_false] at hu; rcases hu with rfl | rfl <;> rfl)
  refine s_store hm rfl rfl hs' ?_
  replace hS : Sep w0 w_3 [Mem.no, Mem.one g_2 (.cells ([.slice none 0 0, .slice none 0 0] : List Value).toArray 25 (0, 0))] Z := hS'
  clear hs' hS'
  refine wpList_nil ?_
  replace hm : Fr 110 a [(0, p0_0), (1, .int .i64 x1), (2, .int .i64 x2), (6, .bool false), (7, .pointer (some ⟨g_2, 0, none⟩))] := hm.keep [0, 1, 2, 6, 7]
  refine x_then_n ?_
  refine wp_seq ?_
  refine wp_region_lit ?_
  refine s_build hm rfl ti28 pl28 rfl .nil (cs := [.int .i64 0, .int .i64 0, .int .i64 0]) rfl ?_
  clear hm a; intro a hm
  refine v_alloc hm rfl ti28 hS ?_
  intro w_4 g_5 hS'
  clear hm a; intro a hm
  replace hS : Sep w0 w_4 [Mem.no, Mem.one g_2 (.cells ([.slice none 0 0, .slice none 0 0] : List Value).toArray 25 (0, 0)), Mem.one g_5 (.cells ([.int .i64 0, .int .i64 0, .int .i64 0] : List Value).toArray 28 (0, 0))] Z := hS'
  clear hS'
  obtain ⟨w_6, hs', hS'⟩ := hS.store (P := Try.prog) (p := 2) (o := 0) (t := 28) (v := .agg [.int .i64 0, .int .i64 0, .int .i64 0].toArray) (vs := [.int .i64 0, .int .i64 0, .int .i64 0]) rfl ti28 rfl rfl rfl (by intro u hu; simp only [List.mem_cons, List.not_mem_nil, or_false] at hu; rcases hu with rfl | rfl | rfl <;> rfl)
  refine s_store hm rfl rfl hs' ?_
  replace hS : Sep w0 w_6 [Mem.no, Mem.one g_2 (.cells ([.slice none 0 0, .slice none 0 0] : List Value).toArray 25 (0, 0)), Mem.one g_5 (.cells ([.int .i64 0, .int .i64 0, .int .i64 0] : List Value).toArray 28 (0, 0))] Z := hS'
  clear hs' hS'
  refine wpList_nil ?_
  replace hm : Fr 110 a [(0, p0_0), (1, .int .i64 x1), (2, .int .i64 x2), (6, .bool false), (7, .pointer (some ⟨g_2, 0, none⟩)), (8, .pointer (some ⟨g_5, 0, none⟩))] := hm.keep [0, 1, 2, 6, 7, 8]
  refine x_then_n ?_
  refine c_seq fun KJ_7 hKJ_7 => ?_
  refine wp_seq ?_
  refine wp_region_lit ?_
  refine s_assign hm rfl rfl ?_
  clear hm a; intro a hm
  refine wpList_nil ?_
  replace hm : Fr 110 a [(0, p0_0), (1, .int .i64 x1), (2, .int .i64 x2), (6, .bool false), (7, .pointer (some ⟨g_2, 0, none⟩)), (8, .pointer (some ⟨g_5, 0, none⟩)), (9, .int .i64 0)] := hm.keep [0, 1, 2, 6, 7, 8, 9]
  refine x_then_n ?_
  have hJ_j_20 : ∀ (x_9 : api_Disk), ∀ (x_18 : api_Record), hocketlaw13_DiskOldOrNew.J1 K x1 x2 x0 x_9 x_18 = some r → ∀ (a : Act) (w_19 : World), (∃ (v_12 : Value) (v_16 : Value) (N_8 : Mem) (M_10 : Mem) (M_14 : Mem), Fr 110 a [(0, p0_0), (1, .int .i64 x1), (2, .int .i64 x2), (6, .bool false), (7, .pointer (some ⟨g_2, 0, none⟩)), (8, .pointer (some ⟨g_5, 0, none⟩))] ∧ Sep w0 w_19 [N_8, Mem.one g_2 (.cells ([v_12, v_16] : List Value).toArray 25 (0, 0)), Mem.one g_5 (.cells ([.int .i64 x_18.Inc, .int .i64 x_18.Prom, .int .i64 x_18.Inst] : List Value).toArray 28 (0, 0)), M_10, M_14] Z ∧ Mem.no.le N_8 ∧ Own Kd.u8 5 M_10 Mem.no v_12 x_9.A ∧ Own Kd.u8 5 M_14 Mem.no v_16 x_9.B) → KJ_7 a w_19 := by
    clear H hm hS a
    rintro x_9 x_18 H a w_19 ⟨v_12, v_16, N_8, M_10, M_14, hm, hS, le_8, ho_13, ho_17⟩
    unfold hocketlaw13_DiskOldOrNew.J1 at H
    refine hKJ_7 _ _ ?_
    refine wp_seq ?_
    refine wp_region_lit ?_
    refine s_move hm rfl rfl ?_
    clear hm a; intro a hm
    refine s_bits (i := x1) (j := 16777215) (r := band .i64 x1 16777215) hm rfl rfl rfl (.inl ⟨rfl, rfl⟩) ?_
    clear hm a; intro a hm
    refine s_move hm rfl rfl ?_
    clear hm a; intro a hm
    refine s_shift (r := shr .i64 x1 24) hm rfl rfl rfl (by decide) (.inr ⟨rfl, rfl⟩) ?_
    clear hm a; intro a hm
    refine s_bits (i := shr .i64 x1 24) (j := 255) (r := band .i64 (shr .i64 x1 24) 255) hm rfl rfl rfl (.inl ⟨rfl, rfl⟩) ?_
    clear hm a; intro a hm
    refine s_build hm rfl ti28 pl28 rfl (.cons rfl (.cons rfl (.cons rfl .nil))) (cs := [.int .i64 99, .int .i64 (band .i64 x1 16777215), .int .i64 (band .i64 (shr .i64 x1 24) 255)]) rfl ?_
    clear hm a; intro a hm
    refine v_alloc hm rfl ti28 hS ?_
    intro w_21 g_22 hS'
    clear hm a; intro a hm
    replace hS : Sep w0 w_21 [N_8, Mem.one g_2 (.cells ([v_12, v_16] : List Value).toArray 25 (0, 0)), Mem.one g_5 (.cells ([.int .i64 x_18.Inc, .int .i64 x_18.Prom, .int .i64 x_18.Inst] : List Value).toArray 28 (0, 0)), M_10, M_14, Mem.one g_22 (.cells ([.int .i64 0, .int .i64 0, .int .i64 0] : List Value).toArray 28 (0, 0))] Z := hS'
    clear hS'
    obtain ⟨w_23, hs', hS'⟩ := hS.store (P := Try.prog) (p := 5) (o := 0) (t := 28) (v := .agg [.int .i64 99, .int .i64 (band .i64 x1 16777215), .int .i64 (band .i64 (shr .i64 x1 24) 255)].toArray) (vs := [.int .i64 99, .int .i64 (band .i64 x1 16777215), .int .i64 (band .i64 (shr .i64 x1 24) 255)]) rfl ti28 rfl rfl rfl (by intro u hu; simp only [List.mem_cons, List.not_mem_nil, or_false] at hu; rcases hu with rfl | rfl | rfl <;> rfl)
    refine s_store hm rfl rfl hs' ?_
    replace hS : Sep w0 w_23 [N_8, Mem.one g_2 (.cells ([v_12, v_16] : List Value).toArray 25 (0, 0)), Mem.one g_5 (.cells ([.int .i64 x_18.Inc, .int .i64 x_18.Prom, .int .i64 x_18.Inst] : List Value).toArray 28 (0, 0)), M_10, M_14, Mem.one g_22 (.cells ([.int .i64 99, .int .i64 (band .i64 x1 16777215), .int .i64 (band .i64 (shr .i64 x1 24) 255)] : List Value).toArray 28 (0, 0))] Z := hS'
    clear hs' hS'
    refine wpList_nil ?_
    replace hm : Fr 110 a [(0, p0_0), (2, .int .i64 x2), (6, .bool false), (7, .pointer (some ⟨g_2, 0, none⟩)), (8, .pointer (some ⟨g_5, 0, none⟩)), (10, .pointer (some ⟨g_22, 0, none⟩))] := hm.keep [0, 2, 6, 7, 8, 10]
    refine x_then_n ?_
    refine wp_seq ?_
    refine wp_region_lit ?_
    refine s_load hm rfl rfl (hS.load_agg (p := 1) (us := [v_12, v_16]) rfl Try.underlying25 rfl ti25 rfl rfl) ?_
    clear hm a; intro a hm
    refine s_load hm rfl rfl (hS.load_agg (p := 5) (us := [.int .i64 99, .int .i64 (band .i64 x1 16777215), .int .i64 (band .i64 (shr .i64 x1 24) 255)]) rfl Try.underlying28 rfl ti28 rfl rfl) ?_
    clear hm a; intro a hm
    obtain ⟨t_24, et_24, H⟩ := Option.bind_eq_some_iff.1 H
    refine s_call hm rfl Try.call11 rfl (disk_Write.calls K x_9 _ _ (⟨99, band .i64 x1 16777215, band .i64 (shr .i64 x1 24) 255⟩ : api_Record) (-1) t_24 w0 _ _ _ (Mem.le.refl _) (hS.enter [] (by decide)) (ho_13.rd (hS.own_zed [] 2 (by decide)) (Mem.no_le _)) (ho_17.rd (hS.own_zed [] 3 (by decide)) (Mem.no_le _)) et_24) ?_
    rintro _ w_25 ⟨v_28, v_32, N_26, M_30, M_34, rfl, hS', hr_29, hr_33⟩
    clear hm a; intro a hm
    obtain ⟨N_27, hS'', le_27, ln_27⟩ := hS.call [] (by decide) rfl (l' := []) (ow := [M_30, M_34]) rfl hS'
    replace hS : Sep w0 w_25 [N_27, Mem.one g_2 (.cells ([v_12, v_16] : List Value).toArray 25 (0, 0)), Mem.one g_5 (.cells ([.int .i64 x_18.Inc, .int .i64 x_18.Prom, .int .i64 x_18.Inst] : List Value).toArray 28 (0, 0)), M_10, M_14, Mem.one g_22 (.cells ([.int .i64 99, .int .i64 (band .i64 x1 16777215), .int .i64 (band .i64 (shr .i64 x1 24) 255)] : List Value).toArray 28 (0, 0)), M_30, M_34] Z := hS''
    clear hS' hS''
    refine v_alloc hm rfl ti25 hS ?_
    intro w_36 g_37 hS'
    clear hm a; intro a hm
    replace hS : Sep w0 w_36 [N_27, Mem.one g_2 (.cells ([v_12, v_16] : List Value).toArray 25 (0, 0)), Mem.one g_5 (.cells ([.int .i64 x_18.Inc, .int .i64 x_18.Prom, .int .i64 x_18.Inst] : List Value).toArray 28 (0, 0)), M_10, M_14, Mem.one g_22 (.cells ([.int .i64 99, .int .i64 (band .i64 x1 16777215), .int .i64 (band .i64 (shr .i64 x1 24) 255)] : List Value).toArray 28 (0, 0)), M_30, M_34, Mem.one g_37 (.cells ([.slice none 0 0, .slice none 0 0] : List Value).toArray 25 (0, 0))] Z := hS'
    clear hS'
    obtain ⟨w_38, hs', hS'⟩ := hS.store (P := Try.prog) (p := 8) (o := 0) (t := 25) (v := .agg [v_28, v_32].toArray) (vs := [v_28, v_32]) rfl ti25 rfl rfl rfl (by intro u hu; simp only [List.mem_cons, List.not_mem_nil, or_false] at hu; rcases hu with rfl | rfl <;> first | rfl | exact hr_29.one | exact hr_33.one)
    refine s_store hm rfl rfl hs' ?_
    replace hS : Sep w0 w_38 [N_27, Mem.one g_2 (.cells ([v_12, v_16] : List Value).toArray 25 (0, 0)), Mem.one g_5 (.cells ([.int .i64 x_18.Inc, .int .i64 x_18.Prom, .int .i64 x_18.Inst] : List Value).toArray 28 (0, 0)), M_10, M_14, Mem.one g_22 (.cells ([.int .i64 99, .int .i64 (band .i64 x1 16777215), .int .i64 (band .i64 (shr .i64 x1 24) 255)] : List Value).toArray 28 (0, 0)), M_30, M_34, Mem.one g_37 (.cells ([v_28, v_32] : List Value).toArray 25 (0, 0))] Z := hS'
    clear hs' hS'
    refine wpList_nil ?_
    replace hm : Fr 110 a [(0, p0_0), (2, .int .i64 x2), (6, .bool false), (7, .pointer (some ⟨g_2, 0, none⟩)), (8, .pointer (some ⟨g_5, 0, none⟩)), (10, .pointer (some ⟨g_22, 0, none⟩)), (11, .pointer (some ⟨g_37, 0, none⟩))] := hm.keep [0, 2, 6, 7, 8, 10, 11]
    refine x_then_n ?_
    refine wp_seq ?_
    refine wp_region_lit ?_
    refine s_fieldAddr hm rfl Try.underlying25 rfl ti23 rfl rfl ?_
    clear hm a; intro a hm
    refine s_load hm rfl rfl (hS.load_one (p := 8) rfl Try.underlying23 rfl rfl) ?_
    clear hm a; intro a hm
    refine s_lenO hm rfl Try.underlying23 rfl hr_29 ?_
    clear hm a; intro a hm
    refine s_assign hm rfl rfl ?_
    clear hm a; intro a hm
    refine wpList_nil ?_
    replace hm : Fr 110 a [(0, p0_0), (2, .int .i64 x2), (6, .bool false), (7, .pointer (some ⟨g_2, 0, none⟩)), (8, .pointer (some ⟨g_5, 0, none⟩)), (10, .pointer (some ⟨g_22, 0, none⟩)), (11, .pointer (some ⟨g_37, 0, none⟩)), (12, .int .i64 (t_24.A.length : Int))] := hm.keep [0, 2, 6, 7, 8, 10, 11, 12]
    refine x_then_n ?_
    refine c_seq fun KJ_39 hKJ_39 => ?_
    refine wp_seq ?_
    refine wp_region_lit ?_
    refine s_fieldAddr hm rfl Try.underlying25 rfl ti23 rfl rfl ?_
    clear hm a; intro a hm
    refine s_load hm rfl rfl (hS.load_one (p := 8) rfl Try.underlying23 rfl rfl) ?_
    clear hm a; intro a hm
    refine s_b2s hm rfl Try.underlying23 Try.underlying5 Try.underlying9 rfl (hr_29.rd (J := hp w_38) (hS.own 6) (Mem.no_le _)) (Mem.le.refl _) ?_
    clear hm a; intro a hm
    refine s_fieldAddr hm rfl Try.underlying25 rfl ti23 rfl rfl ?_
    clear hm a; intro a hm
    refine s_load hm rfl rfl (hS.load_one (p := 1) rfl Try.underlying23 rfl rfl) ?_
    clear hm a; intro a hm
    refine s_b2s hm rfl Try.underlying23 Try.underlying5 Try.underlying9 rfl (ho_13.rd (J := hp w_38) (hS.own 3) (Mem.no_le _)) (Mem.le.refl _) ?_
    clear hm a; intro a hm
    refine s_strEq (b := (t_24.A == x_9.A)) hm rfl rfl rfl (.inl ⟨rfl, rfl⟩) ?_
    clear hm a; intro a hm
    refine wpList_nil ?_
    replace hm : Fr 110 a [(0, p0_0), (2, .int .i64 x2), (6, .bool false), (7, .pointer (some ⟨g_2, 0, none⟩)), (8, .pointer (some ⟨g_5, 0, none⟩)), (10, .pointer (some ⟨g_22, 0, none⟩)), (11, .pointer (some ⟨g_37, 0, none⟩)), (12, .int .i64 (t_24.A.length : Int)), (62, .bool (t_24.A == x_9.A))] := hm.keep [0, 2, 6, 7, 8, 10, 11, 12, 62]
    refine x_then_n ?_
    have hJ_j_43 : ∀ (x_41 : Int), hocketlaw13_DiskOldOrNew.J2 K x_9 x1 x2 x0 x_18 x_41 = some r → ∀ (a : Act) (w_42 : World), (∃ (N_40 : Mem), Fr 110 a [(0, p0_0), (2, .int .i64 x2), (6, .bool false), (7, .pointer (some ⟨g_2, 0, none⟩)), (8, .pointer (some ⟨g_5, 0, none⟩)), (10, .pointer (some ⟨g_22, 0, none⟩)), (12, .int .i64 x_41)] ∧ Sep w0 w_42 [N_40, Mem.one g_2 (.cells ([v_12, v_16] : List Value).toArray 25 (0, 0)), Mem.one g_5 (.cells ([.int .i64 x_18.Inc, .int .i64 x_18.Prom, .int .i64 x_18.Inst] : List Value).toArray 28 (0, 0)), M_10, M_14, Mem.one g_22 (.cells ([.int .i64 99, .int .i64 (band .i64 x1 16777215), .int .i64 (band .i64 (shr .i64 x1 24) 255)] : List Value).toArray 28 (0, 0)), Mem.no, Mem.no, Mem.no] Z ∧ N_27.le N_40) → KJ_39 a w_42 := by
      clear H hm hS a
      rintro x_41 H a w_42 ⟨N_40, hm, hS, le_40⟩
      unfold hocketlaw13_DiskOldOrNew.J2 at H
      refine hKJ_39 _ _ ?_
      refine wp_seq ?_
      refine wp_region_lit ?_
      refine s_move hm rfl rfl ?_
      clear hm a; intro a hm
      refine s_bits (i := x2) (j := 63) (r := band .i64 x2 63) hm rfl rfl rfl (.inl ⟨rfl, rfl⟩) ?_
      clear hm a; intro a hm
      refine s_assign hm rfl rfl ?_
      clear hm a; intro a hm
      refine wpList_nil ?_
      replace hm : Fr 110 a [(0, p0_0), (2, .int .i64 (band .i64 x2 63)), (6, .bool false), (7, .pointer (some ⟨g_2, 0, none⟩)), (8, .pointer (some ⟨g_5, 0, none⟩)), (10, .pointer (some ⟨g_22, 0, none⟩)), (12, .int .i64 x_41)] := hm.keep [0, 2, 6, 7, 8, 10, 12]
      refine x_then_n ?_
      refine wp_seq ?_
      refine wp_region_lit ?_
      refine s_load hm rfl rfl (hS.load_agg (p := 1) (us := [v_12, v_16]) rfl Try.underlying25 rfl ti25 rfl rfl) ?_
      clear hm a; intro a hm
      refine s_load hm rfl rfl (hS.load_agg (p := 5) (us := [.int .i64 99, .int .i64 (band .i64 x1 16777215), .int .i64 (band .i64 (shr .i64 x1 24) 255)]) rfl Try.underlying28 rfl ti28 rfl rfl) ?_
      clear hm a; intro a hm
      refine s_move hm rfl rfl ?_
      clear hm a; intro a hm
      obtain ⟨t_44, et_44, H⟩ := Option.bind_eq_some_iff.1 H
      refine s_call hm rfl Try.call11 rfl (disk_Write.calls K x_9 _ _ (⟨99, band .i64 x1 16777215, band .i64 (shr .i64 x1 24) 255⟩ : api_Record) (band .i64 x2 63) t_44 w0 _ _ _ (Mem.le.refl _) (hS.enter [] (by decide)) (ho_13.rd (hS.own_zed [] 2 (by decide)) (Mem.no_le _)) (ho_17.rd (hS.own_zed [] 3 (by decide)) (Mem.no_le _)) et_44) ?_
      rintro _ w_45 ⟨v_48, v_52, N_46, M_50, M_54, rfl, hS', hr_49, hr_53⟩
      clear hm a; intro a hm
      obtain ⟨N_47, hS'', le_47, ln_47⟩ := hS.call [] (by decide) rfl (l' := []) (ow := [M_50, M_54]) rfl hS'
      replace hS : Sep w0 w_45 [N_47, Mem.one g_2 (.cells ([v_12, v_16] : List Value).toArray 25 (0, 0)), Mem.one g_5 (.cells ([.int .i64 x_18.Inc, .int .i64 x_18.Prom, .int .i64 x_18.Inst] : List Value).toArray 28 (0, 0)), M_10, M_14, Mem.one g_22 (.cells ([.int .i64 99, .int .i64 (band .i64 x1 16777215), .int .i64 (band .i64 (shr .i64 x1 24) 255)] : List Value).toArray 28 (0, 0)), Mem.no, Mem.no, Mem.no, M_50, M_54] Z := hS''
      clear hS' hS''
      obtain ⟨t_56, et_56, H⟩ := Option.bind_eq_some_iff.1 H
      refine s_call hm rfl Try.call12 rfl (disk_Read.calls K t_44 _ _ t_56 w0 _ _ _ (Mem.le.refl _) (hS.enter [] (by decide)) (hr_49.rd (hS.own_zed [] 8 (by decide)) (Mem.no_le _)) (hr_53.rd (hS.own_zed [] 9 (by decide)) (Mem.no_le _)) et_56) ?_
      rintro _ w_57 ⟨N_58, rfl, hS'⟩
      clear hm a; intro a hm
      obtain ⟨N_59, hS'', le_59, ln_59⟩ := hS.call [] (by decide) rfl (l' := []) (ow := []) rfl hS'
      replace hS : Sep w0 w_57 [N_59, Mem.one g_2 (.cells ([v_12, v_16] : List Value).toArray 25 (0, 0)), Mem.one g_5 (.cells ([.int .i64 x_18.Inc, .int .i64 x_18.Prom, .int .i64 x_18.Inst] : List Value).toArray 28 (0, 0)), M_10, M_14, Mem.one g_22 (.cells ([.int .i64 99, .int .i64 (band .i64 x1 16777215), .int .i64 (band .i64 (shr .i64 x1 24) 255)] : List Value).toArray 28 (0, 0)), Mem.no, Mem.no, Mem.no, M_50, M_54] Z := hS''
      clear hS' hS''
      refine s_move hm rfl rfl ?_
      clear hm a; intro a hm
      refine s_extract hm rfl rfl rfl ?_
      clear hm a; intro a hm
      refine s_extract hm rfl rfl rfl ?_
      clear hm a; intro a hm
      refine v_alloc hm rfl ti28 hS ?_
      intro w_60 g_61 hS'
      clear hm a; intro a hm
      replace hS : Sep w0 w_60 [N_59, Mem.one g_2 (.cells ([v_12, v_16] : List Value).toArray 25 (0, 0)), Mem.one g_5 (.cells ([.int .i64 x_18.Inc, .int .i64 x_18.Prom, .int .i64 x_18.Inst] : List Value).toArray 28 (0, 0)), M_10, M_14, Mem.one g_22 (.cells ([.int .i64 99, .int .i64 (band .i64 x1 16777215), .int .i64 (band .i64 (shr .i64 x1 24) 255)] : List Value).toArray 28 (0, 0)), Mem.no, Mem.no, Mem.no, M_50, M_54, Mem.one g_61 (.cells ([.int .i64 0, .int .i64 0, .int .i64 0] : List Value).toArray 28 (0, 0))] Z := hS'
      clear hS'
      obtain ⟨w_62, hs', hS'⟩ := hS.store (P := Try.prog) (p := 11) (o := 0) (t := 28) (v := .agg [.int .i64 t_56.1.Inc, .int .i64 t_56.1.Prom, .int .i64 t_56.1.Inst].toArray) (vs := [.int .i64 t_56.1.Inc, .int .i64 t_56.1.Prom, .int .i64 t_56.1.Inst]) rfl ti28 rfl rfl rfl (by intro u hu; simp only [List.mem_cons, List.not_mem_nil, or_false] at hu; rcases hu with rfl | rfl | rfl <;> rfl)
      refine s_store hm rfl rfl hs' ?_
      replace hS : Sep w0 w_62 [N_59, Mem.one g_2 (.cells ([v_12, v_16] : List Value).toArray 25 (0, 0)), Mem.one g_5 (.cells ([.int .i64 x_18.Inc, .int .i64 x_18.Prom, .int .i64 x_18.Inst] : List Value).toArray 28 (0, 0)), M_10, M_14, Mem.one g_22 (.cells ([.int .i64 99, .int .i64 (band .i64 x1 16777215), .int .i64 (band .i64 (shr .i64 x1 24) 255)] : List Value).toArray 28 (0, 0)), Mem.no, Mem.no, Mem.no, M_50, M_54, Mem.one g_61 (.cells ([.int .i64 t_56.1.Inc, .int .i64 t_56.1.Prom, .int .i64 t_56.1.Inst] : List Value).toArray 28 (0, 0))] Z := hS'
      clear hs' hS'
      refine s_assign hm rfl rfl ?_
      clear hm a; intro a hm
      refine wpList_nil ?_
      replace hm : Fr 110 a [(0, p0_0), (2, .int .i64 (band .i64 x2 63)), (6, .bool false), (8, .pointer (some ⟨g_5, 0, none⟩)), (10, .pointer (some ⟨g_22, 0, none⟩)), (12, .int .i64 x_41), (13, .pointer (some ⟨g_61, 0, none⟩)), (14, .bool t_56.2)] := hm.keep [0, 2, 6, 8, 10, 12, 13, 14]
      refine x_then_n ?_
      refine c_seq fun KJ_63 hKJ_63 => ?_
      refine wp_seq ?_
      refine wp_region_lit ?_
      refine s_move hm rfl rfl ?_
      clear hm a; intro a hm
      refine s_move hm rfl rfl ?_
      clear hm a; intro a hm
      refine s_cmp (b := decide ((band .i64 x2 63) ≥ x_41)) hm rfl rfl rfl (.inr (.inr (.inr (.inr (.inr ⟨rfl, rfl⟩))))) ?_
      clear hm a; intro a hm
      refine wpList_nil ?_
      replace hm : Fr 110 a [(0, p0_0), (6, .bool false), (8, .pointer (some ⟨g_5, 0, none⟩)), (10, .pointer (some ⟨g_22, 0, none⟩)), (13, .pointer (some ⟨g_61, 0, none⟩)), (14, .bool t_56.2), (78, .bool (decide ((band .i64 x2 63) ≥ x_41)))] := hm.keep [0, 6, 8, 10, 13, 14, 78]
      refine x_then_n ?_
      by_cases hc_64 : (band .i64 x2 63) ≥ x_41
      · rw [if_pos hc_64] at H
        refine c_cond_t hm rfl (decide_eq_true hc_64) ?_
        refine c_seq fun KJ_65 hKJ_65 => ?_
        have hJ_j_69 : ∀ (x_67 : Bool), hocketlaw13_DiskOldOrNew.J3 K x_67 = some r → ∀ (a : Act) (w_68 : World), (∃ (N_66 : Mem), Fr 110 a [(0, p0_0), (6, .bool x_67), (8, .pointer (some ⟨g_5, 0, none⟩)), (13, .pointer (some ⟨g_61, 0, none⟩)), (14, .bool t_56.2)] ∧ Sep w0 w_68 [N_66, Mem.no, Mem.one g_5 (.cells ([.int .i64 x_18.Inc, .int .i64 x_18.Prom, .int .i64 x_18.Inst] : List Value).toArray 28 (0, 0)), Mem.no, Mem.no, Mem.no, Mem.no, Mem.no, Mem.no, Mem.no, Mem.no, Mem.one g_61 (.cells ([.int .i64 t_56.1.Inc, .int .i64 t_56.1.Prom, .int .i64 t_56.1.Inst] : List Value).toArray 28 (0, 0))] Z ∧ N_59.le N_66) → KJ_65 a w_68 := by
          clear H hm hS a
          rintro x_67 H a w_68 ⟨N_66, hm, hS, le_66⟩
          unfold hocketlaw13_DiskOldOrNew.J3 at H
          refine hKJ_65 _ _ ?_
          refine wp_ret (x_then_r ?_)
          by_cases hc_70 : x_67 = true
          · rw [if_pos hc_70] at H
            exact f_ret hm (rs := [.tmp 6]) rfl (.tmp rfl .nil) ⟨_, rfl, N_66, (by rw [hc_70]; rfl), (Sep.sel hS [0] (by decide))⟩
          · rw [if_neg hc_70] at H
            cases H
        clear hKJ_65
        refine wp_region_lit ?_
        refine s_move hm rfl rfl ?_
        clear hm a; intro a hm
        refine s_move hm rfl rfl ?_
        clear hm a; intro a hm
        by_cases hc_71 : t_56.2 = true
        · rw [if_pos hc_71] at H
          refine s_on hm rfl rfl hc_71 ?_
          refine s_load hm rfl rfl (hS.load_agg (p := 11) (us := [.int .i64 t_56.1.Inc, .int .i64 t_56.1.Prom, .int .i64 t_56.1.Inst]) rfl Try.underlying28 rfl ti28 rfl rfl) ?_
          clear hm a; intro a hm
          refine s_on hm rfl rfl hc_71 ?_
          refine s_load hm rfl rfl (hS.load_agg (p := 5) (us := [.int .i64 99, .int .i64 (band .i64 x1 16777215), .int .i64 (band .i64 (shr .i64 x1 24) 255)]) rfl Try.underlying28 rfl ti28 rfl rfl) ?_
          clear hm a; intro a hm
          refine s_on hm rfl rfl hc_71 ?_
          refine s_structEq (xs := [t_56.1.Inc, t_56.1.Prom, t_56.1.Inst]) (ys := [99, band .i64 x1 16777215, band .i64 (shr .i64 x1 24) 255]) (b := ([t_56.1.Inc, t_56.1.Prom, t_56.1.Inst] == [99, band .i64 x1 16777215, band .i64 (shr .i64 x1 24) 255])) hm rfl Try.underlying28 (by kernel_rfl) (by kernel_rfl) ⟨rfl, rfl, Try.underlying3, rfl, rfl, Try.underlying3, rfl, rfl, Try.underlying3, trivial⟩ rfl rfl rfl rfl (.inl ⟨rfl, rfl⟩) ?_
          clear hm a; intro a hm
          refine s_pick_t hm rfl rfl hc_71 rfl ?_
          clear hm a; intro a hm
          refine s_move hm rfl rfl ?_
          clear hm a; intro a hm
          by_cases hc_72 : [t_56.1.Inc, t_56.1.Prom, t_56.1.Inst] = [99, band .i64 x1 16777215, band .i64 (shr .i64 x1 24) 255]
          · rw [if_pos hc_72] at H
            refine s_on hm rfl rfl (beq_iff_eq.2 hc_72) ?_
            obtain ⟨t_73, et_73, H⟩ := Option.bind_eq_some_iff.1 H
            refine s_call hm rfl Try.call13 rfl (hocketlaw13_awake.calls K  t_73 w0 _ _ _ (Mem.le.refl _) (hS.enter [] (by decide))  et_73) ?_
            rintro _ w_74 ⟨N_75, rfl, hS'⟩
            clear hm a; intro a hm
            obtain ⟨N_76, hS'', le_76, ln_76⟩ := hS.call [] (by decide) rfl (l' := []) (ow := []) rfl hS'
            replace hS : Sep w0 w_74 [N_76, Mem.one g_2 (.cells ([v_12, v_16] : List Value).toArray 25 (0, 0)), Mem.one g_5 (.cells ([.int .i64 x_18.Inc, .int .i64 x_18.Prom, .int .i64 x_18.Inst] : List Value).toArray 28 (0, 0)), M_10, M_14, Mem.one g_22 (.cells ([.int .i64 99, .int .i64 (band .i64 x1 16777215), .int .i64 (band .i64 (shr .i64 x1 24) 255)] : List Value).toArray 28 (0, 0)), Mem.no, Mem.no, Mem.no, M_50, M_54, Mem.one g_61 (.cells ([.int .i64 t_56.1.Inc, .int .i64 t_56.1.Prom, .int .i64 t_56.1.Inst] : List Value).toArray 28 (0, 0))] Z := hS''
            clear hS' hS''
            refine s_pick_t hm rfl rfl (beq_iff_eq.2 hc_72) rfl ?_
            clear hm a; intro a hm
            refine s_assign hm rfl rfl ?_
            clear hm a; intro a hm
            refine wpList_nil ?_
            replace hm : Fr 110 a [(0, p0_0), (6, .bool true), (8, .pointer (some ⟨g_5, 0, none⟩)), (13, .pointer (some ⟨g_61, 0, none⟩)), (14, .bool t_56.2)] := hm.keep [0, 6, 8, 13, 14]
            replace hS : Sep w0 w_74 [N_76, Mem.one g_2 (.cells ([v_12, v_16] : List Value).toArray 25 (0, 0)), Mem.one g_5 (.cells ([.int .i64 x_18.Inc, .int .i64 x_18.Prom, .int .i64 x_18.Inst] : List Value).toArray 28 (0, 0)), M_10, M_14, Mem.one g_22 (.cells ([.int .i64 99, .int .i64 (band .i64 x1 16777215), .int .i64 (band .i64 (shr .i64 x1 24) 255)] : List Value).toArray 28 (0, 0)), Mem.no, Mem.no, Mem.no, M_50, M_54, Mem.one g_61 (.cells ([.int .i64 t_56.1.Inc, .int .i64 t_56.1.Prom, .int .i64 t_56.1.Inst] : List Value).toArray 28 (0, 0))] Z := hS
            replace hm : Fr 110 a [(0, p0_0), (6, .bool true), (8, .pointer (some ⟨g_5, 0, none⟩)), (13, .pointer (some ⟨g_61, 0, none⟩)), (14, .bool t_56.2)] := hm.keep [0, 6, 8, 13, 14]
            exact x_then_n (hJ_j_69 true H _ _ ⟨N_76, hm, (Sep.sel hS [0, 1000, 2, 1002, 1003, 1004, 1005, 1006, 1007, 1008, 1009, 11] (by decide)), le_76⟩)
          · rw [if_neg hc_72] at H
            refine s_off hm rfl rfl rfl (beq_eq_false_iff_ne.2 hc_72) ?_
            clear hm a; intro a hm
            refine s_pick_f hm rfl rfl (beq_eq_false_iff_ne.2 hc_72) rfl ?_
            clear hm a; intro a hm
            refine s_assign hm rfl rfl ?_
            clear hm a; intro a hm
            refine wpList_nil ?_
            replace hm : Fr 110 a [(0, p0_0), (6, .bool false), (8, .pointer (some ⟨g_5, 0, none⟩)), (13, .pointer (some ⟨g_61, 0, none⟩)), (14, .bool t_56.2)] := hm.keep [0, 6, 8, 13, 14]
            replace hS : Sep w0 w_62 [N_59, Mem.one g_2 (.cells ([v_12, v_16] : List Value).toArray 25 (0, 0)), Mem.one g_5 (.cells ([.int .i64 x_18.Inc, .int .i64 x_18.Prom, .int .i64 x_18.Inst] : List Value).toArray 28 (0, 0)), M_10, M_14, Mem.one g_22 (.cells ([.int .i64 99, .int .i64 (band .i64 x1 16777215), .int .i64 (band .i64 (shr .i64 x1 24) 255)] : List Value).toArray 28 (0, 0)), Mem.no, Mem.no, Mem.no, M_50, M_54, Mem.one g_61 (.cells ([.int .i64 t_56.1.Inc, .int .i64 t_56.1.Prom, .int .i64 t_56.1.Inst] : List Value).toArray 28 (0, 0))] Z := hS
            replace hm : Fr 110 a [(0, p0_0), (6, .bool false), (8, .pointer (some ⟨g_5, 0, none⟩)), (13, .pointer (some ⟨g_61, 0, none⟩)), (14, .bool t_56.2)] := hm.keep [0, 6, 8, 13, 14]
            exact x_then_n (hJ_j_69 false H _ _ ⟨N_59, hm, (Sep.sel hS [0, 1000, 2, 1002, 1003, 1004, 1005, 1006, 1007, 1008, 1009, 11] (by decide)), (Mem.le.refl _)⟩)
        · rw [if_neg hc_71] at H
          refine s_off hm rfl rfl rfl (Bool.eq_false_iff.2 hc_71) ?_
          clear hm a; intro a hm
          refine s_off hm rfl rfl rfl (Bool.eq_false_iff.2 hc_71) ?_
          clear hm a; intro a hm
          refine s_off hm rfl rfl rfl (Bool.eq_false_iff.2 hc_71) ?_
          clear hm a; intro a hm
          refine s_pick_f hm rfl rfl (Bool.eq_false_iff.2 hc_71) rfl ?_
          clear hm a; intro a hm
          refine s_move hm rfl rfl ?_
          clear hm a; intro a hm
          refine s_off hm rfl rfl rfl rfl ?_
          clear hm a; intro a hm
          refine s_pick_f hm rfl rfl rfl rfl ?_
          clear hm a; intro a hm
          refine s_assign hm rfl rfl ?_
          clear hm a; intro a hm
          refine wpList_nil ?_
          replace hm : Fr 110 a [(0, p0_0), (6, .bool false), (8, .pointer (some ⟨g_5, 0, none⟩)), (13, .pointer (some ⟨g_61, 0, none⟩)), (14, .bool t_56.2)] := hm.keep [0, 6, 8, 13, 14]
          replace hS : Sep w0 w_62 [N_59, Mem.one g_2 (.cells ([v_12, v_16] : List Value).toArray 25 (0, 0)), Mem.one g_5 (.cells ([.int .i64 x_18.Inc, .int .i64 x_18.Prom, .int .i64 x_18.Inst] : List Value).toArray 28 (0, 0)), M_10, M_14, Mem.one g_22 (.cells ([.int .i64 99, .int .i64 (band .i64 x1 16777215), .int .i64 (band .i64 (shr .i64 x1 24) 255)] : List Value).toArray 28 (0, 0)), Mem.no, Mem.no, Mem.no, M_50, M_54, Mem.one g_61 (.cells ([.int .i64 t_56.1.Inc, .int .i64 t_56.1.Prom, .int .i64 t_56.1.Inst] : List Value).toArray 28 (0, 0))] Z := hS
          replace hm : Fr 110 a [(0, p0_0), (6, .bool false), (8, .pointer (some ⟨g_5, 0, none⟩)), (13, .pointer (some ⟨g_61, 0, none⟩)), (14, .bool t_56.2)] := hm.keep [0, 6, 8, 13, 14]
          exact x_then_n (hJ_j_69 false H _ _ ⟨N_59, hm, (Sep.sel hS [0, 1000, 2, 1002, 1003, 1004, 1005, 1006, 1007, 1008, 1009, 11] (by decide)), (Mem.le.refl _)⟩)
      · rw [if_neg hc_64] at H
        refine c_cond_f hm rfl (decide_eq_false hc_64) ?_
        refine wp_skip ?_
        refine x_then_n (hKJ_63 _ _ ?_)
        refine c_seq fun KJ_77 hKJ_77 => ?_
        refine wp_seq ?_
        refine wp_region_lit ?_
        refine s_move hm rfl rfl ?_
        clear hm a; intro a hm
        refine s_len hm rfl Try.underlying22 rfl hp0_0 ?_
        clear hm a; intro a hm
        refine s_cmp (b := ((x0.length : Int) == 0)) hm rfl rfl rfl (.inl ⟨rfl, rfl⟩) ?_
        clear hm a; intro a hm
        refine wpList_nil ?_
        replace hm : Fr 110 a [(6, .bool false), (8, .pointer (some ⟨g_5, 0, none⟩)), (13, .pointer (some ⟨g_61, 0, none⟩)), (14, .bool t_56.2), (90, .bool ((x0.length : Int) == 0))] := hm.keep [6, 8, 13, 14, 90]
        refine x_then_n ?_
        by_cases hc_78 : (x0.length : Int) = 0
        · rw [if_pos hc_78] at H
          refine c_cond_t hm rfl (beq_iff_eq.2 hc_78) ?_
          refine c_seq fun KJ_79 hKJ_79 => ?_
          have hJ_j_83 : ∀ (x_81 : Bool), hocketlaw13_DiskOldOrNew.J4 K x_81 = some r → ∀ (a : Act) (w_82 : World), (∃ (N_80 : Mem), Fr 110 a [(6, .bool x_81), (8, .pointer (some ⟨g_5, 0, none⟩)), (13, .pointer (some ⟨g_61, 0, none⟩)), (14, .bool t_56.2)] ∧ Sep w0 w_82 [N_80, Mem.no, Mem.one g_5 (.cells ([.int .i64 x_18.Inc, .int .i64 x_18.Prom, .int .i64 x_18.Inst] : List Value).toArray 28 (0, 0)), Mem.no, Mem.no, Mem.no, Mem.no, Mem.no, Mem.no, Mem.no, Mem.no, Mem.one g_61 (.cells ([.int .i64 t_56.1.Inc, .int .i64 t_56.1.Prom, .int .i64 t_56.1.Inst] : List Value).toArray 28 (0, 0))] Z ∧ N_59.le N_80) → KJ_79 a w_82 := by
            clear H hm hS a
            rintro x_81 H a w_82 ⟨N_80, hm, hS, le_80⟩
            unfold hocketlaw13_DiskOldOrNew.J4 at H
            refine hKJ_79 _ _ ?_
            refine wp_ret (x_then_r ?_)
            by_cases hc_84 : x_81 = true
            · rw [if_pos hc_84] at H
              exact f_ret hm (rs := [.tmp 6]) rfl (.tmp rfl .nil) ⟨_, rfl, N_80, (by rw [hc_84]; rfl), (Sep.sel hS [0] (by decide))⟩
            · rw [if_neg hc_84] at H
              cases H
          clear hKJ_79
          refine wp_region_lit ?_
          refine s_move hm rfl rfl ?_
          clear hm a; intro a hm
          refine s_not hm rfl rfl ?_
          clear hm a; intro a hm
          refine s_move hm rfl rfl ?_
          clear hm a; intro a hm
          by_cases hc_85 : t_56.2 = true
          · rw [if_pos hc_85] at H
            refine s_off hm rfl rfl rfl (nf hc_85) ?_
            clear hm a; intro a hm
            refine s_off hm rfl rfl rfl (nf hc_85) ?_
            clear hm a; intro a hm
            refine s_off hm rfl rfl rfl (nf hc_85) ?_
            clear hm a; intro a hm
            refine s_pick_f hm rfl rfl (nf hc_85) rfl ?_
            clear hm a; intro a hm
            refine s_move hm rfl rfl ?_
            clear hm a; intro a hm
            refine s_off hm rfl rfl rfl rfl ?_
            clear hm a; intro a hm
            refine s_pick_f hm rfl rfl rfl rfl ?_
            clear hm a; intro a hm
            refine s_assign hm rfl rfl ?_
            clear hm a; intro a hm
            refine wpList_nil ?_
            replace hm : Fr 110 a [(6, .bool false), (8, .pointer (some ⟨g_5, 0, none⟩)), (13, .pointer (some ⟨g_61, 0, none⟩)), (14, .bool t_56.2)] := hm.keep [6, 8, 13, 14]
            replace hS : Sep w0 w_62 [N_59, Mem.one g_2 (.cells ([v_12, v_16] : List Value).toArray 25 (0, 0)), Mem.one g_5 (.cells ([.int .i64 x_18.Inc, .int .i64 x_18.Prom, .int .i64 x_18.Inst] : List Value).toArray 28 (0, 0)), M_10, M_14, Mem.one g_22 (.cells ([.int .i64 99, .int .i64 (band .i64 x1 16777215), .int .i64 (band .i64 (shr .i64 x1 24) 255)] : List Value).toArray 28 (0, 0)), Mem.no, Mem.no, Mem.no, M_50, M_54, Mem.one g_61 (.cells ([.int .i64 t_56.1.Inc, .int .i64 t_56.1.Prom, .int .i64 t_56.1.Inst] : List Value).toArray 28 (0, 0))] Z := hS
            replace hm : Fr 110 a [(6, .bool false), (8, .pointer (some ⟨g_5, 0, none⟩)), (13, .pointer (some ⟨g_61, 0, none⟩)), (14, .bool t_56.2)] := hm.keep [6, 8, 13, 14]
            exact x_then_n (hJ_j_83 false H _ _ ⟨N_59, hm, (Sep.sel hS [0, 1000, 2, 1002, 1003, 1004, 1005, 1006, 1007, 1008, 1009, 11] (by decide)), (Mem.le.refl _)⟩)
          · rw [if_neg hc_85] at H
            refine s_on hm rfl rfl (nt (Bool.eq_false_iff.2 hc_85)) ?_
            refine s_load hm rfl rfl (hS.load_agg (p := 11) (us := [.int .i64 t_56.1.Inc, .int .i64 t_56.1.Prom, .int .i64 t_56.1.Inst]) rfl Try.underlying28 rfl ti28 rfl rfl) ?_
            clear hm a; intro a hm
            refine s_on hm rfl rfl (nt (Bool.eq_false_iff.2 hc_85)) ?_
            refine s_build hm rfl ti28 pl28 rfl .nil (cs := [.int .i64 0, .int .i64 0, .int .i64 0]) rfl ?_
            clear hm a; intro a hm
            refine s_on hm rfl rfl (nt (Bool.eq_false_iff.2 hc_85)) ?_
            refine s_structEq (xs := [t_56.1.Inc, t_56.1.Prom, t_56.1.Inst]) (ys := [0, 0, 0]) (b := ([t_56.1.Inc, t_56.1.Prom, t_56.1.Inst] == [0, 0, 0])) hm rfl Try.underlying28 (by kernel_rfl) (by kernel_rfl) ⟨rfl, rfl, Try.underlying3, rfl, rfl, Try.underlying3, rfl, rfl, Try.underlying3, trivial⟩ rfl rfl rfl rfl (.inl ⟨rfl, rfl⟩) ?_
            clear hm a; intro a hm
            refine s_pick_t hm rfl rfl (nt (Bool.eq_false_iff.2 hc_85)) rfl ?_
            clear hm a; intro a hm
            refine s_move hm rfl rfl ?_
            clear hm a; intro a hm
            by_cases hc_86 : [t_56.1.Inc, t_56.1.Prom, t_56.1.Inst] = [0, 0, 0]
            · rw [if_pos hc_86] at H
              refine s_on hm rfl rfl (beq_iff_eq.2 hc_86) ?_
              obtain ⟨t_87, et_87, H⟩ := Option.bind_eq_some_iff.1 H
              refine s_call hm rfl Try.call13 rfl (hocketlaw13_awake.calls K  t_87 w0 _ _ _ (Mem.le.refl _) (hS.enter [] (by decide))  et_87) ?_
              rintro _ w_88 ⟨N_89, rfl, hS'⟩
              clear hm a; intro a hm
              obtain ⟨N_90, hS'', le_90, ln_90⟩ := hS.call [] (by decide) rfl (l' := []) (ow := []) rfl hS'
              replace hS : Sep w0 w_88 [N_90, Mem.one g_2 (.cells ([v_12, v_16] : List Value).toArray 25 (0, 0)), Mem.one g_5 (.cells ([.int .i64 x_18.Inc, .int .i64 x_18.Prom, .int .i64 x_18.Inst] : List Value).toArray 28 (0, 0)), M_10, M_14, Mem.one g_22 (.cells ([.int .i64 99, .int .i64 (band .i64 x1 16777215), .int .i64 (band .i64 (shr .i64 x1 24) 255)] : List Value).toArray 28 (0, 0)), Mem.no, Mem.no, Mem.no, M_50, M_54, Mem.one g_61 (.cells ([.int .i64 t_56.1.Inc, .int .i64 t_56.1.Prom, .int .i64 t_56.1.Inst] : List Value).toArray 28 (0, 0))] Z := hS''
              clear hS' hS''
              refine s_pick_t hm rfl rfl (beq_iff_eq.2 hc_86) rfl ?_
              clear hm a; intro a hm
              refine s_assign hm rfl rfl ?_
              clear hm a; intro a hm
              refine wpList_nil ?_
              replace hm : Fr 110 a [(6, .bool true), (8, .pointer (some ⟨g_5, 0, none⟩)), (13, .pointer (some ⟨g_61, 0, none⟩)), (14, .bool t_56.2)] := hm.keep [6, 8, 13, 14]
              replace hS : Sep w0 w_88 [N_90, Mem.one g_2 (.cells ([v_12, v_16] : List Value).toArray 25 (0, 0)), Mem.one g_5 (.cells ([.int .i64 x_18.Inc, .int .i64 x_18.Prom, .int .i64 x_18.Inst] : List Value).toArray 28 (0, 0)), M_10, M_14, Mem.one g_22 (.cells ([.int .i64 99, .int .i64 (band .i64 x1 16777215), .int .i64 (band .i64 (shr .i64 x1 24) 255)] : List Value).toArray 28 (0, 0)), Mem.no, Mem.no, Mem.no, M_50, M_54, Mem.one g_61 (.cells ([.int .i64 t_56.1.Inc, .int .i64 t_56.1.Prom, .int .i64 t_56.1.Inst] : List Value).toArray 28 (0, 0))] Z := hS
              replace hm : Fr 110 a [(6, .bool true), (8, .pointer (some ⟨g_5, 0, none⟩)), (13, .pointer (some ⟨g_61, 0, none⟩)), (14, .bool t_56.2)] := hm.keep [6, 8, 13, 14]
              exact x_then_n (hJ_j_83 true H _ _ ⟨N_90, hm, (Sep.sel hS [0, 1000, 2, 1002, 1003, 1004, 1005, 1006, 1007, 1008, 1009, 11] (by decide)), le_90⟩)
            · rw [if_neg hc_86] at H
              refine s_off hm rfl rfl rfl (beq_eq_false_iff_ne.2 hc_86) ?_
              clear hm a; intro a hm
              refine s_pick_f hm rfl rfl (beq_eq_false_iff_ne.2 hc_86) rfl ?_
              clear hm a; intro a hm
              refine s_assign hm rfl rfl ?_
              clear hm a; intro a hm
              refine wpList_nil ?_
              replace hm : Fr 110 a [(6, .bool false), (8, .pointer (some ⟨g_5, 0, none⟩)), (13, .pointer (some ⟨g_61, 0, none⟩)), (14, .bool t_56.2)] := hm.keep [6, 8, 13, 14]
              replace hS : Sep w0 w_62 [N_59, Mem.one g_2 (.cells ([v_12, v_16] : List Value).toArray 25 (0, 0)), Mem.one g_5 (.cells ([.int .i64 x_18.Inc, .int .i64 x_18.Prom, .int .i64 x_18.Inst] : List Value).toArray 28 (0, 0)), M_10, M_14, Mem.one g_22 (.cells ([.int .i64 99, .int .i64 (band .i64 x1 16777215), .int .i64 (band .i64 (shr .i64 x1 24) 255)] : List Value).toArray 28 (0, 0)), Mem.no, Mem.no, Mem.no, M_50, M_54, Mem.one g_61 (.cells ([.int .i64 t_56.1.Inc, .int .i64 t_56.1.Prom, .int .i64 t_56.1.Inst] : List Value).toArray 28 (0, 0))] Z := hS
              replace hm : Fr 110 a [(6, .bool false), (8, .pointer (some ⟨g_5, 0, none⟩)), (13, .pointer (some ⟨g_61, 0, none⟩)), (14, .bool t_56.2)] := hm.keep [6, 8, 13, 14]
              exact x_then_n (hJ_j_83 false H _ _ ⟨N_59, hm, (Sep.sel hS [0, 1000, 2, 1002, 1003, 1004, 1005, 1006, 1007, 1008, 1009, 11] (by decide)), (Mem.le.refl _)⟩)
        · rw [if_neg hc_78] at H
          refine c_cond_f hm rfl (beq_eq_false_iff_ne.2 hc_78) ?_
          refine wp_skip ?_
          refine x_then_n (hKJ_77 _ _ ?_)
          refine c_seq fun KJ_91 hKJ_91 => ?_
          refine wp_region_lit ?_
          refine s_move hm rfl rfl ?_
          clear hm a; intro a hm
          refine s_move hm rfl rfl ?_
          clear hm a; intro a hm
          by_cases hc_92 : t_56.2 = true
          · rw [if_pos hc_92] at H
            refine s_on hm rfl rfl hc_92 ?_
            refine s_load hm rfl rfl (hS.load_agg (p := 11) (us := [.int .i64 t_56.1.Inc, .int .i64 t_56.1.Prom, .int .i64 t_56.1.Inst]) rfl Try.underlying28 rfl ti28 rfl rfl) ?_
            clear hm a; intro a hm
            refine s_on hm rfl rfl hc_92 ?_
            refine s_load hm rfl rfl (hS.load_agg (p := 2) (us := [.int .i64 x_18.Inc, .int .i64 x_18.Prom, .int .i64 x_18.Inst]) rfl Try.underlying28 rfl ti28 rfl rfl) ?_
            clear hm a; intro a hm
            refine s_on hm rfl rfl hc_92 ?_
            refine s_structEq (xs := [t_56.1.Inc, t_56.1.Prom, t_56.1.Inst]) (ys := [x_18.Inc, x_18.Prom, x_18.Inst]) (b := ([t_56.1.Inc, t_56.1.Prom, t_56.1.Inst] == [x_18.Inc, x_18.Prom, x_18.Inst])) hm rfl Try.underlying28 (by kernel_rfl) (by kernel_rfl) ⟨rfl, rfl, Try.underlying3, rfl, rfl, Try.underlying3, rfl, rfl, Try.underlying3, trivial⟩ rfl rfl rfl rfl (.inl ⟨rfl, rfl⟩) ?_
            clear hm a; intro a hm
            refine s_pick_t hm rfl rfl hc_92 rfl ?_
            clear hm a; intro a hm
            refine s_move hm rfl rfl ?_
            clear hm a; intro a hm
            by_cases hc_93 : [t_56.1.Inc, t_56.1.Prom, t_56.1.Inst] = [x_18.Inc, x_18.Prom, x_18.Inst]
            · rw [if_pos hc_93] at H
              refine s_on hm rfl rfl (beq_iff_eq.2 hc_93) ?_
              obtain ⟨t_94, et_94, H⟩ := Option.bind_eq_some_iff.1 H
              refine s_call hm rfl Try.call13 rfl (hocketlaw13_awake.calls K  t_94 w0 _ _ _ (Mem.le.refl _) (hS.enter [] (by decide))  et_94) ?_
              rintro _ w_95 ⟨N_96, rfl, hS'⟩
              clear hm a; intro a hm
              obtain ⟨N_97, hS'', le_97, ln_97⟩ := hS.call [] (by decide) rfl (l' := []) (ow := []) rfl hS'
              replace hS : Sep w0 w_95 [N_97, Mem.one g_2 (.cells ([v_12, v_16] : List Value).toArray 25 (0, 0)), Mem.one g_5 (.cells ([.int .i64 x_18.Inc, .int .i64 x_18.Prom, .int .i64 x_18.Inst] : List Value).toArray 28 (0, 0)), M_10, M_14, Mem.one g_22 (.cells ([.int .i64 99, .int .i64 (band .i64 x1 16777215), .int .i64 (band .i64 (shr .i64 x1 24) 255)] : List Value).toArray 28 (0, 0)), Mem.no, Mem.no, Mem.no, M_50, M_54, Mem.one g_61 (.cells ([.int .i64 t_56.1.Inc, .int .i64 t_56.1.Prom, .int .i64 t_56.1.Inst] : List Value).toArray 28 (0, 0))] Z := hS''
              clear hS' hS''
              refine s_pick_t hm rfl rfl (beq_iff_eq.2 hc_93) rfl ?_
              clear hm a; intro a hm
              refine s_assign hm rfl rfl ?_
              clear hm a; intro a hm
              refine wpList_nil ?_
              replace hm : Fr 110 a [(6, .bool true)] := hm.keep [6]
              refine x_then_n (hKJ_91 _ _ ?_)
              refine wp_ret ?_
              exact f_ret hm (rs := [.tmp 6]) rfl (.tmp rfl .nil) ⟨_, rfl, N_97, rfl, (Sep.sel hS [0] (by decide))⟩
            · rw [if_neg hc_93] at H
              cases H
          · rw [if_neg hc_92] at H
            cases H
    clear hKJ_39
    by_cases hc_98 : t_24.A = x_9.A
    · rw [if_pos hc_98] at H
      refine c_cond_t hm rfl (beq_iff_eq.2 hc_98) ?_
      refine wp_region_lit ?_
      refine s_fieldAddr hm rfl Try.underlying25 rfl ti23 rfl rfl ?_
      clear hm a; intro a hm
      refine s_load hm rfl rfl (hS.load_one (p := 8) rfl Try.underlying23 rfl rfl) ?_
      clear hm a; intro a hm
      refine s_lenO hm rfl Try.underlying23 rfl hr_33 ?_
      clear hm a; intro a hm
      refine s_assign hm rfl rfl ?_
      clear hm a; intro a hm
      refine wpList_nil ?_
      replace hm : Fr 110 a [(0, p0_0), (2, .int .i64 x2), (6, .bool false), (7, .pointer (some ⟨g_2, 0, none⟩)), (8, .pointer (some ⟨g_5, 0, none⟩)), (10, .pointer (some ⟨g_22, 0, none⟩)), (12, .int .i64 (t_24.B.length : Int))] := hm.keep [0, 2, 6, 7, 8, 10, 12]
      replace hS : Sep w0 w_38 [N_27, Mem.one g_2 (.cells ([v_12, v_16] : List Value).toArray 25 (0, 0)), Mem.one g_5 (.cells ([.int .i64 x_18.Inc, .int .i64 x_18.Prom, .int .i64 x_18.Inst] : List Value).toArray 28 (0, 0)), M_10, M_14, Mem.one g_22 (.cells ([.int .i64 99, .int .i64 (band .i64 x1 16777215), .int .i64 (band .i64 (shr .i64 x1 24) 255)] : List Value).toArray 28 (0, 0)), M_30, M_34, Mem.one g_37 (.cells ([v_28, v_32] : List Value).toArray 25 (0, 0))] Z := hS
      replace hm : Fr 110 a [(0, p0_0), (2, .int .i64 x2), (6, .bool false), (7, .pointer (some ⟨g_2, 0, none⟩)), (8, .pointer (some ⟨g_5, 0, none⟩)), (10, .pointer (some ⟨g_22, 0, none⟩)), (12, .int .i64 (t_24.B.length : Int))] := hm.keep [0, 2, 6, 7, 8, 10, 12]
      exact x_then_n (hJ_j_43 (t_24.B.length : Int) H _ _ ⟨N_27, hm, (Sep.sel hS [0, 1, 2, 3, 4, 5, 1005, 1006, 1007] (by decide)), (Mem.le.refl _)⟩)
    · rw [if_neg hc_98] at H
      refine c_cond_f hm rfl (beq_eq_false_iff_ne.2 hc_98) ?_
      refine wp_skip ?_
      replace hS : Sep w0 w_38 [N_27, Mem.one g_2 (.cells ([v_12, v_16] : List Value).toArray 25 (0, 0)), Mem.one g_5 (.cells ([.int .i64 x_18.Inc, .int .i64 x_18.Prom, .int .i64 x_18.Inst] : List Value).toArray 28 (0, 0)), M_10, M_14, Mem.one g_22 (.cells ([.int .i64 99, .int .i64 (band .i64 x1 16777215), .int .i64 (band .i64 (shr .i64 x1 24) 255)] : List Value).toArray 28 (0, 0)), M_30, M_34, Mem.one g_37 (.cells ([v_28, v_32] : List Value).toArray 25 (0, 0))] Z := hS
      replace hm : Fr 110 a [(0, p0_0), (2, .int .i64 x2), (6, .bool false), (7, .pointer (some ⟨g_2, 0, none⟩)), (8, .pointer (some ⟨g_5, 0, none⟩)), (10, .pointer (some ⟨g_22, 0, none⟩)), (12, .int .i64 (t_24.A.length : Int))] := hm.keep [0, 2, 6, 7, 8, 10, 12]
      exact x_then_n (hJ_j_43 (t_24.A.length : Int) H _ _ ⟨N_27, hm, (Sep.sel hS [0, 1, 2, 3, 4, 5, 1005, 1006, 1007] (by decide)), (Mem.le.refl _)⟩)
  clear hKJ_7
  have hS' := hS.room
  replace hS : Sep w0 w_6 [Mem.no, Mem.one g_2 (.cells ([.slice none 0 0, .slice none 0 0] : List Value).toArray 25 (0, 0)), Mem.one g_5 (.cells ([.int .i64 0, .int .i64 0, .int .i64 0] : List Value).toArray 28 (0, 0)), Mem.no] Z := hS'
  clear hS'
  have hS' := hS.room
  replace hS : Sep w0 w_6 [Mem.no, Mem.one g_2 (.cells ([.slice none 0 0, .slice none 0 0] : List Value).toArray 25 (0, 0)), Mem.one g_5 (.cells ([.int .i64 0, .int .i64 0, .int .i64 0] : List Value).toArray 28 (0, 0)), Mem.no, Mem.no] Z := hS'
  clear hS'
  replace hS : Sep w0 w_6 [Mem.no, Mem.one g_2 (.cells ([.slice none 0 0, .slice none 0 0] : List Value).toArray 25 (0, 0)), Mem.one g_5 (.cells ([.int .i64 0, .int .i64 0, .int .i64 0] : List Value).toArray 28 (0, 0)), Mem.no, Mem.no] Z := hS
  replace hm : Fr 110 a [(0, p0_0), (1, .int .i64 x1), (2, .int .i64 x2), (6, .bool false), (7, .pointer (some ⟨g_2, 0, none⟩)), (8, .pointer (some ⟨g_5, 0, none⟩)), (9, .int .i64 0)] := hm.keep [0, 1, 2, 6, 7, 8, 9]
  refine c_block ?_
  refine c_loop (fun k_111 a w_111 => ∃ (x_100 : Int) (x_101 : api_Disk) (x_110 : api_Record) (v_104 : Value) (v_108 : Value) (N_99 : Mem) (M_102 : Mem) (M_106 : Mem), hocketlaw13_DiskOldOrNew.L1 K x0 (fun v => hocketlaw13_DiskOldOrNew.J1 K x1 x2 x0 v.1 v.2) k_111 (x_100, x_101, x_110) = some r ∧ Fr 110 a [(0, p0_0), (1, .int .i64 x1), (2, .int .i64 x2), (6, .bool false), (7, .pointer (some ⟨g_2, 0, none⟩)), (8, .pointer (some ⟨g_5, 0, none⟩)), (9, .int .i64 x_100)] ∧ Sep w0 w_111 [N_99, Mem.one g_2 (.cells ([v_104, v_108] : List Value).toArray 25 (0, 0)), Mem.one g_5 (.cells ([.int .i64 x_110.Inc, .int .i64 x_110.Prom, .int .i64 x_110.Inst] : List Value).toArray 28 (0, 0)), M_102, M_106] Z ∧ Mem.no.le N_99 ∧ Own Kd.u8 5 M_102 Mem.no v_104 x_101.A ∧ Own Kd.u8 5 M_106 Mem.no v_108 x_101.B) K ⟨0, (⟨([] : List UInt8), ([] : List UInt8)⟩ : api_Disk), (⟨0, 0, 0⟩ : api_Record), .slice none 0 0, .slice none 0 0, Mem.no, Mem.no, Mem.no, H, hm, (Sep.sel hS [0, 1, 2, 3, 4] (by decide)), (Mem.le.refl _), (Own.nil Kd.u8 5 Mem.no), (Own.nil Kd.u8 5 Mem.no)⟩ (fun a w h => by obtain ⟨_, _, _, _, _, _, _, _, H, _⟩ := h; cases (show (none : Option (Unit)) = some r from H)) ?_
  clear hm hS a H
  rintro k_111 a w_111 KL_111 hKL_111 ⟨x_100, x_101, x_110, v_104, v_108, N_99, M_102, M_106, H, hm, hS, le_99, ho_105, ho_109⟩
  replace H : hocketlaw13_DiskOldOrNew.B1 K x0 (fun v => hocketlaw13_DiskOldOrNew.J1 K x1 x2 x0 v.1 v.2) (hocketlaw13_DiskOldOrNew.L1 K x0 (fun v => hocketlaw13_DiskOldOrNew.J1 K x1 x2 x0 v.1 v.2) k_111) x_100 x_101 x_110 = some r := H
  unfold hocketlaw13_DiskOldOrNew.B1 at H
  refine c_seq fun KJ_115 hKJ_115 => ?_
  refine c_seq fun KJ_116 hKJ_116 => ?_
  have hJ_j_120 : ∀ (x_118 : Bool), hocketlaw13_DiskOldOrNew.J5 K x0 x_100 x_101 (hocketlaw13_DiskOldOrNew.L1 K x0 (fun v => hocketlaw13_DiskOldOrNew.J1 K x1 x2 x0 v.1 v.2) k_111) (fun v => hocketlaw13_DiskOldOrNew.J1 K x1 x2 x0 v.1 v.2) x_110 x_118 = some r → ∀ (a : Act) (w_119 : World), (∃ (N_117 : Mem), Fr 110 a [(0, p0_0), (1, .int .i64 x1), (2, .int .i64 x2), (6, .bool false), (7, .pointer (some ⟨g_2, 0, none⟩)), (8, .pointer (some ⟨g_5, 0, none⟩)), (9, .int .i64 x_100), (24, .bool x_118)] ∧ Sep w0 w_119 [N_117, Mem.one g_2 (.cells ([v_104, v_108] : List Value).toArray 25 (0, 0)), Mem.one g_5 (.cells ([.int .i64 x_110.Inc, .int .i64 x_110.Prom, .int .i64 x_110.Inst] : List Value).toArray 28 (0, 0)), M_102, M_106] Z ∧ N_99.le N_117) → KJ_116 a w_119 := by
    clear H hm hS a
    rintro x_118 H a w_119 ⟨N_117, hm, hS, le_117⟩
    unfold hocketlaw13_DiskOldOrNew.J5 at H
    refine hKJ_116 _ _ ?_
    by_cases hc_121 : x_118 = true
    · rw [if_pos hc_121] at H
      refine c_cond_t hm rfl hc_121 ?_
      refine wp_skip ?_
      refine x_then_n (hKJ_115 _ _ ?_)
      refine wp_seq ?_
      refine c_block ?_
      refine c_seq fun KJ_122 hKJ_122 => ?_
      refine h_begin (S := fun w => Sep w0 w [N_117, Mem.one g_2 (.cells ([v_104, v_108] : List Value).toArray 25 (0, 0)), Mem.no, M_102, M_106] Z) 15 (by kernel_rfl) rfl [false, false, false, false, false, false, false, false, false, false, false, false, false, false, false].toArray rfl hS fun w_123 hS => ?_
      replace hS : Sep w0 w_123 [N_117, Mem.one g_2 (.cells ([v_104, v_108] : List Value).toArray 25 (0, 0)), Mem.one g_5 (.cells ([.int .i64 x_110.Inc, .int .i64 x_110.Prom, .int .i64 x_110.Inst] : List Value).toArray 28 (0, 0)), M_102, M_106] Z := hS
      refine h_take 0 [true, false, false, false, false, false, false, false, false, false, false, false, false, false, false].toArray rfl (by kernel_rfl) (by kernel_rfl) (by kernel_rfl) (fun _ _ _ _ h => h) rfl rfl rfl rfl hm (hS.sub (.cons (Mem.le.refl _) (.cons (Mem.le.refl _) (.cons (Mem.no_le _) (.cons (Mem.le.refl _) (.cons (Mem.le.refl _) (Sub.nil _))))))) (v := .int .i64 x_100) (fun w hS => r_move hm rfl) ?_
      clear hm a; intro a hm
      refine h_take 1 [true, true, false, false, false, false, false, false, false, false, false, false, false, false, false].toArray rfl (by kernel_rfl) (by kernel_rfl) (by kernel_rfl) (fun _ _ _ _ h => h) rfl rfl rfl rfl hm (hS.sub (.cons (Mem.le.refl _) (.cons (Mem.le.refl _) (.cons (Mem.no_le _) (.cons (Mem.le.refl _) (.cons (Mem.le.refl _) (Sub.nil _))))))) (v := .int .i64 (w64 (x_100 + 1))) (fun w hS => r_arith (r := w64 (x_100 + 1)) hm rfl rfl (.inl ⟨rfl, rfl⟩)) ?_
      clear hm a; intro a hm
      refine h_take 2 [true, true, true, false, false, false, false, false, false, false, false, false, false, false, false].toArray rfl (by kernel_rfl) (by kernel_rfl) (by kernel_rfl) (fun _ _ _ _ h => h) rfl rfl rfl rfl hm (hS.sub (.cons (Mem.le.refl _) (.cons (Mem.le.refl _) (.cons (Mem.no_le _) (.cons (Mem.le.refl _) (.cons (Mem.le.refl _) (Sub.nil _))))))) (v := p0_0) (fun w hS => r_move hm rfl) ?_
      clear hm a; intro a hm
      refine h_take 3 [true, true, true, true, false, false, false, false, false, false, false, false, false, false, false].toArray rfl (by kernel_rfl) (by kernel_rfl) (by kernel_rfl) (fun _ _ _ _ h => h) rfl rfl rfl rfl hm (hS.sub (.cons (Mem.le.refl _) (.cons (Mem.le.refl _) (.cons (Mem.no_le _) (.cons (Mem.le.refl _) (.cons (Mem.le.refl _) (Sub.nil _))))))) (v := .int .i64 x_100) (fun w hS => r_move hm rfl) ?_
      clear hm a; intro a hm
      obtain ⟨t_124, et_124, H⟩ := Option.bind_eq_some_iff.1 H
      refine h_takeE 4 [true, true, true, true, true, false, false, false, false, false, false, false, false, false, false].toArray rfl (by kernel_rfl) (by kernel_rfl) (by kernel_rfl) (fun _ _ _ _ h => h) rfl rfl rfl rfl hm (hS.sub (.cons (Mem.le.refl _) (.cons (Mem.le.refl _) (.cons (Mem.no_le _) (.cons (Mem.le.refl _) (.cons (Mem.le.refl _) (Sub.nil _))))))) (f := fun ad => .pointer (some ad)) (r_index hm Try.underlying22 ti3 rfl rfl rfl hp0_0 et_124) ?_
      rintro ad_125 ⟨cs_126, hk_127, hc_128⟩
      obtain rfl := (show cs_126 = [.int .i64 t_124] from hk_127)
      clear hm a; intro a hm
      refine h_take 5 [true, true, true, true, true, true, false, false, false, false, false, false, false, false, false].toArray rfl (by kernel_rfl) (by kernel_rfl) (by kernel_rfl) (fun _ _ _ _ h => h) rfl rfl rfl rfl hm (hS.sub (.cons (Mem.le.refl _) (.cons (Mem.le.refl _) (.cons (Mem.no_le _) (.cons (Mem.le.refl _) (.cons (Mem.le.refl _) (Sub.nil _))))))) (v := .int .i64 t_124) (fun w hS => r_load hm rfl (el_one (o := 0) (fun j c h => Mem.cell_le (hA.trans hS.old) (hc_128 j c h)) Try.underlying3 rfl rfl)) ?_
      clear hm a; intro a hm
      refine h_take 6 [true, true, true, true, true, true, true, false, false, false, false, false, false, false, false].toArray rfl (by kernel_rfl) (by kernel_rfl) (by kernel_rfl) (fun _ _ _ _ h => h) rfl rfl rfl rfl hm (hS.sub (.cons (Mem.le.refl _) (.cons (Mem.le.refl _) (.cons (Mem.no_le _) (.cons (Mem.le.refl _) (.cons (Mem.le.refl _) (Sub.nil _))))))) (v := .int .i64 (band .i64 t_124 65535)) (fun w hS => r_bits (i := t_124) (j := 65535) (r := band .i64 t_124 65535) hm rfl rfl (.inl ⟨rfl, rfl⟩)) ?_
      clear hm a; intro a hm
      refine h_take 7 [true, true, true, true, true, true, true, true, false, false, false, false, false, false, false].toArray rfl (by kernel_rfl) (by kernel_rfl) (by kernel_rfl) (fun _ _ _ _ h => h) rfl rfl rfl rfl hm (hS.sub (.cons (Mem.le.refl _) (.cons (Mem.le.refl _) (.cons (Mem.no_le _) (.cons (Mem.le.refl _) (.cons (Mem.le.refl _) (Sub.nil _))))))) (v := p0_0) (fun w hS => r_move hm rfl) ?_
      clear hm a; intro a hm
      refine h_take 8 [true, true, true, true, true, true, true, true, true, false, false, false, false, false, false].toArray rfl (by kernel_rfl) (by kernel_rfl) (by kernel_rfl) (fun _ _ _ _ h => h) rfl rfl rfl rfl hm (hS.sub (.cons (Mem.le.refl _) (.cons (Mem.le.refl _) (.cons (Mem.no_le _) (.cons (Mem.le.refl _) (.cons (Mem.le.refl _) (Sub.nil _))))))) (v := .int .i64 x_100) (fun w hS => r_move hm rfl) ?_
      clear hm a; intro a hm
      obtain ⟨t_129, et_129, H⟩ := Option.bind_eq_some_iff.1 H
      refine h_takeE 9 [true, true, true, true, true, true, true, true, true, true, false, false, false, false, false].toArray rfl (by kernel_rfl) (by kernel_rfl) (by kernel_rfl) (fun _ _ _ _ h => h) rfl rfl rfl rfl hm (hS.sub (.cons (Mem.le.refl _) (.cons (Mem.le.refl _) (.cons (Mem.no_le _) (.cons (Mem.le.refl _) (.cons (Mem.le.refl _) (Sub.nil _))))))) (f := fun ad => .pointer (some ad)) (r_index hm Try.underlying22 ti3 rfl rfl rfl hp0_0 et_129) ?_
      rintro ad_130 ⟨cs_131, hk_132, hc_133⟩
      obtain rfl := (show cs_131 = [.int .i64 t_129] from hk_132)
      clear hm a; intro a hm
      refine h_take 10 [true, true, true, true, true, true, true, true, true, true, true, false, false, false, false].toArray rfl (by kernel_rfl) (by kernel_rfl) (by kernel_rfl) (fun _ _ _ _ h => h) rfl rfl rfl rfl hm (hS.sub (.cons (Mem.le.refl _) (.cons (Mem.le.refl _) (.cons (Mem.no_le _) (.cons (Mem.le.refl _) (.cons (Mem.le.refl _) (Sub.nil _))))))) (v := .int .i64 t_129) (fun w hS => r_load hm rfl (el_one (o := 0) (fun j c h => Mem.cell_le (hA.trans hS.old) (hc_133 j c h)) Try.underlying3 rfl rfl)) ?_
      clear hm a; intro a hm
      refine h_take 11 [true, true, true, true, true, true, true, true, true, true, true, true, false, false, false].toArray rfl (by kernel_rfl) (by kernel_rfl) (by kernel_rfl) (fun _ _ _ _ h => h) rfl rfl rfl rfl hm (hS.sub (.cons (Mem.le.refl _) (.cons (Mem.le.refl _) (.cons (Mem.no_le _) (.cons (Mem.le.refl _) (.cons (Mem.le.refl _) (Sub.nil _))))))) (v := .int .i64 (shr .i64 t_129 16)) (fun w hS => r_shift (r := shr .i64 t_129 16) hm rfl rfl (by decide) (.inr ⟨rfl, rfl⟩)) ?_
      clear hm a; intro a hm
      refine h_take 12 [true, true, true, true, true, true, true, true, true, true, true, true, true, false, false].toArray rfl (by kernel_rfl) (by kernel_rfl) (by kernel_rfl) (fun _ _ _ _ h => h) rfl rfl rfl rfl hm (hS.sub (.cons (Mem.le.refl _) (.cons (Mem.le.refl _) (.cons (Mem.no_le _) (.cons (Mem.le.refl _) (.cons (Mem.le.refl _) (Sub.nil _))))))) (v := .int .i64 (band .i64 (shr .i64 t_129 16) 255)) (fun w hS => r_bits (i := shr .i64 t_129 16) (j := 255) (r := band .i64 (shr .i64 t_129 16) 255) hm rfl rfl (.inl ⟨rfl, rfl⟩)) ?_
      clear hm a; intro a hm
      refine h_take 13 [true, true, true, true, true, true, true, true, true, true, true, true, true, true, false].toArray rfl (by kernel_rfl) (by kernel_rfl) (by kernel_rfl) (fun _ _ _ _ h => h) rfl rfl rfl rfl hm (hS.sub (.cons (Mem.le.refl _) (.cons (Mem.le.refl _) (.cons (Mem.no_le _) (.cons (Mem.le.refl _) (.cons (Mem.le.refl _) (Sub.nil _))))))) (v := .agg [.int .i64 (w64 (x_100 + 1)), .int .i64 (band .i64 t_124 65535), .int .i64 (band .i64 (shr .i64 t_129 16) 255)].toArray) (fun w hS => r_build hm ti28 pl28 rfl (.cons rfl (.cons rfl (.cons rfl .nil))) (cs := [.int .i64 (w64 (x_100 + 1)), .int .i64 (band .i64 t_124 65535), .int .i64 (band .i64 (shr .i64 t_129 16) 255)]) rfl) ?_
      clear hm a; intro a hm
      refine h_event 14 [true, true, true, true, true, true, true, true, true, true, true, true, true, true, true].toArray rfl (by kernel_rfl) rfl ?_
      obtain ⟨w_134, hs', hS'⟩ := hS.store (P := Try.prog) (p := 2) (o := 0) (t := 28) (v := .agg [.int .i64 (w64 (x_100 + 1)), .int .i64 (band .i64 t_124 65535), .int .i64 (band .i64 (shr .i64 t_129 16) 255)].toArray) (vs := [.int .i64 (w64 (x_100 + 1)), .int .i64 (band .i64 t_124 65535), .int .i64 (band .i64 (shr .i64 t_129 16) 255)]) rfl ti28 rfl rfl rfl (by intro u hu; simp only [List.mem_cons, List.not_mem_nil, or_false] at hu; rcases hu with rfl | rfl | rfl <;> rfl)
      refine s_store hm rfl rfl hs' ?_
      replace hS : Sep w0 w_134 [N_117, Mem.one g_2 (.cells ([v_104, v_108] : List Value).toArray 25 (0, 0)), Mem.one g_5 (.cells ([.int .i64 (w64 (x_100 + 1)), .int .i64 (band .i64 t_124 65535), .int .i64 (band .i64 (shr .i64 t_129 16) 255)] : List Value).toArray 28 (0, 0)), M_102, M_106] Z := hS'
      clear hs' hS'
      refine wpList_nil ?_
      refine x_then_n ⟨(hS.sub (.cons (Mem.le.refl _) (.cons (Mem.le.refl _) (.cons (Mem.no_le _) (.cons (Mem.le.refl _) (.cons (Mem.le.refl _) (Sub.nil _))))))), ?_⟩
      refine h_done (by kernel_rfl) ?_
      replace hm : Fr 110 a [(0, p0_0), (1, .int .i64 x1), (2, .int .i64 x2), (6, .bool false), (7, .pointer (some ⟨g_2, 0, none⟩)), (8, .pointer (some ⟨g_5, 0, none⟩)), (9, .int .i64 x_100)] := hm.keep [0, 1, 2, 6, 7, 8, 9]
      refine x_then_n (hKJ_122 _ _ ?_)
      refine wp_region_lit ?_
      refine s_load hm rfl rfl (hS.load_agg (p := 1) (us := [v_104, v_108]) rfl Try.underlying25 rfl ti25 rfl rfl) ?_
      clear hm a; intro a hm
      refine s_load hm rfl rfl (hS.load_agg (p := 2) (us := [.int .i64 (w64 (x_100 + 1)), .int .i64 (band .i64 t_124 65535), .int .i64 (band .i64 (shr .i64 t_129 16) 255)]) rfl Try.underlying28 rfl ti28 rfl rfl) ?_
      clear hm a; intro a hm
      obtain ⟨t_135, et_135, H⟩ := Option.bind_eq_some_iff.1 H
      refine s_call hm rfl Try.call11 rfl (disk_Write.calls K x_101 _ _ (⟨w64 (x_100 + 1), band .i64 t_124 65535, band .i64 (shr .i64 t_129 16) 255⟩ : api_Record) (-1) t_135 w0 _ _ _ (Mem.le.refl _) (hS.enter [] (by decide)) (ho_105.rd (hS.own_zed [] 2 (by decide)) (Mem.no_le _)) (ho_109.rd (hS.own_zed [] 3 (by decide)) (Mem.no_le _)) et_135) ?_
      rintro _ w_136 ⟨v_139, v_143, N_137, M_141, M_145, rfl, hS', hr_140, hr_144⟩
      clear hm a; intro a hm
      obtain ⟨N_138, hS'', le_138, ln_138⟩ := hS.call [] (by decide) rfl (l' := []) (ow := [M_141, M_145]) rfl hS'
      replace hS : Sep w0 w_136 [N_138, Mem.one g_2 (.cells ([v_104, v_108] : List Value).toArray 25 (0, 0)), Mem.one g_5 (.cells ([.int .i64 (w64 (x_100 + 1)), .int .i64 (band .i64 t_124 65535), .int .i64 (band .i64 (shr .i64 t_129 16) 255)] : List Value).toArray 28 (0, 0)), M_102, M_106, M_141, M_145] Z := hS''
      clear hS' hS''
      obtain ⟨w_147, hs', hS'⟩ := hS.store (P := Try.prog) (p := 1) (o := 0) (t := 25) (v := .agg [v_139, v_143].toArray) (vs := [v_139, v_143]) rfl ti25 rfl rfl rfl (by intro u hu; simp only [List.mem_cons, List.not_mem_nil, or_false] at hu; rcases hu with rfl | rfl <;> first | rfl | exact hr_140.one | exact hr_144.one)
      refine s_store hm rfl rfl hs' ?_
      replace hS : Sep w0 w_147 [N_138, Mem.one g_2 (.cells ([v_139, v_143] : List Value).toArray 25 (0, 0)), Mem.one g_5 (.cells ([.int .i64 (w64 (x_100 + 1)), .int .i64 (band .i64 t_124 65535), .int .i64 (band .i64 (shr .i64 t_129 16) 255)] : List Value).toArray 28 (0, 0)), M_102, M_106, M_141, M_145] Z := hS'
      clear hs' hS'
      refine wpList_nil ?_
      replace hm : Fr 110 a [(0, p0_0), (1, .int .i64 x1), (2, .int .i64 x2), (6, .bool false), (7, .pointer (some ⟨g_2, 0, none⟩)), (8, .pointer (some ⟨g_5, 0, none⟩)), (9, .int .i64 x_100)] := hm.keep [0, 1, 2, 6, 7, 8, 9]
      refine x_block_n ?_
      refine x_then_n ?_
      refine wp_region_lit ?_
      refine s_move hm rfl rfl ?_
      clear hm a; intro a hm
      refine s_arith (r := w64 (x_100 + 1)) hm rfl rfl rfl (.inl ⟨rfl, rfl⟩) ?_
      clear hm a; intro a hm
      refine s_assign hm rfl rfl ?_
      clear hm a; intro a hm
      refine wpList_nil ?_
      replace hm : Fr 110 a [(0, p0_0), (1, .int .i64 x1), (2, .int .i64 x2), (6, .bool false), (7, .pointer (some ⟨g_2, 0, none⟩)), (8, .pointer (some ⟨g_5, 0, none⟩)), (9, .int .i64 (w64 (x_100 + 1)))] := hm.keep [0, 1, 2, 6, 7, 8, 9]
      refine x_then_n (hKL_111 _ _ ?_)
      replace hS : Sep w0 w_147 [N_138, Mem.one g_2 (.cells ([v_139, v_143] : List Value).toArray 25 (0, 0)), Mem.one g_5 (.cells ([.int .i64 (w64 (x_100 + 1)), .int .i64 (band .i64 t_124 65535), .int .i64 (band .i64 (shr .i64 t_129 16) 255)] : List Value).toArray 28 (0, 0)), M_102, M_106, M_141, M_145] Z := hS
      replace hm : Fr 110 a [(0, p0_0), (1, .int .i64 x1), (2, .int .i64 x2), (6, .bool false), (7, .pointer (some ⟨g_2, 0, none⟩)), (8, .pointer (some ⟨g_5, 0, none⟩)), (9, .int .i64 (w64 (x_100 + 1)))] := hm.keep [0, 1, 2, 6, 7, 8, 9]
      exact ⟨w64 (x_100 + 1), t_135, (⟨w64 (x_100 + 1), band .i64 t_124 65535, band .i64 (shr .i64 t_129 16) 255⟩ : api_Record), v_139, v_143, N_138, M_141, M_145, H, hm, (Sep.sel hS [0, 1, 2, 5, 6] (by decide)), (le_99.trans (le_117.trans le_138)), hr_140, hr_144⟩
    · rw [if_neg hc_121] at H
      refine c_cond_f hm rfl (Bool.eq_false_iff.2 hc_121) ?_
      refine wp_exit (x_then_x (x_then_x (x_block_t ?_)))
      replace hS : Sep w0 w_119 [N_117, Mem.one g_2 (.cells ([v_104, v_108] : List Value).toArray 25 (0, 0)), Mem.one g_5 (.cells ([.int .i64 x_110.Inc, .int .i64 x_110.Prom, .int .i64 x_110.Inst] : List Value).toArray 28 (0, 0)), M_102, M_106] Z := hS
      replace hm : Fr 110 a [(0, p0_0), (1, .int .i64 x1), (2, .int .i64 x2), (6, .bool false), (7, .pointer (some ⟨g_2, 0, none⟩)), (8, .pointer (some ⟨g_5, 0, none⟩))] := hm.keep [0, 1, 2, 6, 7, 8]
      exact x_then_n (hJ_j_20 x_101 x_110 H _ _ ⟨v_104, v_108, N_117, M_102, M_106, hm, (Sep.sel hS [0, 1, 2, 3, 4] (by decide)), (le_99.trans le_117), ho_105, ho_109⟩)
  clear hKJ_116
  refine wp_region_lit ?_
  refine s_move hm rfl rfl ?_
  clear hm a; intro a hm
  refine s_move hm rfl rfl ?_
  clear hm a; intro a hm
  refine s_len hm rfl Try.underlying22 rfl hp0_0 ?_
  clear hm a; intro a hm
  refine s_cmp (b := decide (x_100 < (x0.length : Int))) hm rfl rfl rfl (.inr (.inr (.inl ⟨rfl, rfl⟩))) ?_
  clear hm a; intro a hm
  refine s_move hm rfl rfl ?_
  clear hm a; intro a hm
  by_cases hc_148 : x_100 < (x0.length : Int)
  · rw [if_pos hc_148] at H
    refine s_on hm rfl rfl (decide_eq_true hc_148) ?_
    refine s_move hm rfl rfl ?_
    clear hm a; intro a hm
    refine s_on hm rfl rfl (decide_eq_true hc_148) ?_
    refine s_cmp (b := decide (x_100 < 10)) hm rfl rfl rfl (.inr (.inr (.inl ⟨rfl, rfl⟩))) ?_
    clear hm a; intro a hm
    refine s_pick_t hm rfl rfl (decide_eq_true hc_148) rfl ?_
    clear hm a; intro a hm
    refine wpList_nil ?_
    replace hm : Fr 110 a [(0, p0_0), (1, .int .i64 x1), (2, .int .i64 x2), (6, .bool false), (7, .pointer (some ⟨g_2, 0, none⟩)), (8, .pointer (some ⟨g_5, 0, none⟩)), (9, .int .i64 x_100), (24, .bool (decide (x_100 < 10)))] := hm.keep [0, 1, 2, 6, 7, 8, 9, 24]
    replace hS : Sep w0 w_111 [N_99, Mem.one g_2 (.cells ([v_104, v_108] : List Value).toArray 25 (0, 0)), Mem.one g_5 (.cells ([.int .i64 x_110.Inc, .int .i64 x_110.Prom, .int .i64 x_110.Inst] : List Value).toArray 28 (0, 0)), M_102, M_106] Z := hS
    replace hm : Fr 110 a [(0, p0_0), (1, .int .i64 x1), (2, .int .i64 x2), (6, .bool false), (7, .pointer (some ⟨g_2, 0, none⟩)), (8, .pointer (some ⟨g_5, 0, none⟩)), (9, .int .i64 x_100), (24, .bool (decide (x_100 < 10)))] := hm.keep [0, 1, 2, 6, 7, 8, 9, 24]
    exact x_then_n (hJ_j_120 (decide (x_100 < 10)) H _ _ ⟨N_99, hm, (Sep.sel hS [0, 1, 2, 3, 4] (by decide)), (Mem.le.refl _)⟩)
  · rw [if_neg hc_148] at H
    refine s_off hm rfl rfl rfl (decide_eq_false hc_148) ?_
    clear hm a; intro a hm
    refine s_off hm rfl rfl rfl (decide_eq_false hc_148) ?_
    clear hm a; intro a hm
    refine s_pick_f hm rfl rfl (decide_eq_false hc_148) rfl ?_
    clear hm a; intro a hm
    refine wpList_nil ?_
    replace hm : Fr 110 a [(0, p0_0), (1, .int .i64 x1), (2, .int .i64 x2), (6, .bool false), (7, .pointer (some ⟨g_2, 0, none⟩)), (8, .pointer (some ⟨g_5, 0, none⟩)), (9, .int .i64 x_100), (24, .bool false)] := hm.keep [0, 1, 2, 6, 7, 8, 9, 24]
    replace hS : Sep w0 w_111 [N_99, Mem.one g_2 (.cells ([v_104, v_108] : List Value).toArray 25 (0, 0)), Mem.one g_5 (.cells ([.int .i64 x_110.Inc, .int .i64 x_110.Prom, .int .i64 x_110.Inst] : List Value).toArray 28 (0, 0)), M_102, M_106] Z := hS
    replace hm : Fr 110 a [(0, p0_0), (1, .int .i64 x1), (2, .int .i64 x2), (6, .bool false), (7, .pointer (some ⟨g_2, 0, none⟩)), (8, .pointer (some ⟨g_5, 0, none⟩)), (9, .int .i64 x_100), (24, .bool false)] := hm.keep [0, 1, 2, 6, 7, 8, 9, 24]
    exact x_then_n (hJ_j_120 false H _ _ ⟨N_99, hm, (Sep.sel hS [0, 1, 2, 3, 4] (by decide)), (Mem.le.refl _)⟩)


end Go.Proofs
