/- What the calls do: each function once. -/
import Derived.Test.YtlofhblfdkjloaaDiskTurnsc0
namespace Go.Proofs
open Go.Gp
set_option linter.unusedVariables false
set_option maxHeartbeats 4000000 in
set_option maxRecDepth 20000 in
theorem hocketlaw13_awake.calls (K : Nat) (r : Unit) (w0 w : World) (Z A : Mem) (hA : A.le Z) (hS : Sep w0 w [] Z)
    (H : hocketlaw13_awake.f K = some r) :
    Calls Try.prog 13 [].toArray w (Ret fun v w' => ∃ (N : Mem), v = .bool true ∧ Sep w0 w' [N] Z) := by
  unfold hocketlaw13_awake.f at H
  refine f_enter _ Try.func13 rfl Try.ntmps13 rfl fun a hm => ?_
  replace hm : Fr 70 a [] := hm
  replace hS := hS.start
  replace hS : Sep w0 w [Mem.no] Z := hS
  refine wp_seq ?_
  refine wp_region_lit ?_
  refine s_assign hm rfl rfl ?_
  clear hm a; intro a hm
  refine wpList_nil ?_
  replace hm : Fr 70 a [(0, .bool false)] := hm.keep [0]
  refine x_then_n ?_
  refine wp_seq ?_
  refine wp_region_lit ?_
  refine s_build hm rfl ti25 pl25 rfl .nil (cs := [.slice none 0 0, .slice none 0 0]) rfl ?_
  clear hm a; intro a hm
  refine s_build hm rfl ti28 pl28 rfl (.cons rfl .nil) (cs := [.int .i64 1, .int .i64 0, .int .i64 0]) rfl ?_
  clear hm a; intro a hm
  obtain ⟨t_1, et_1, H⟩ := Option.bind_eq_some_iff.1 H
  refine s_call hm rfl Try.call11 rfl (disk_Write.calls K (⟨([] : List UInt8), ([] : List UInt8)⟩ : api_Disk) _ _ (⟨1, 0, 0⟩ : api_Record) (-1) t_1 w0 _ _ _ (Mem.le.refl _) (hS.enter [] (by decide)) (Rd.nil _ _) (Rd.nil _ _) et_1) ?_
  rintro _ w_2 ⟨v_5, v_9, N_3, M_7, M_11, rfl, hS', hr_6, hr_10⟩
  clear hm a; intro a hm
  obtain ⟨N_4, hS'', le_4, ln_4⟩ := hS.call [] (by decide) rfl (l' := []) (ow := [M_7, M_11]) rfl hS'
  replace hS : Sep w0 w_2 [N_4, M_7, M_11] Z := hS''
  clear hS' hS''
  refine v_alloc hm rfl ti25 hS ?_
  intro w_13 g_14 hS'
  clear hm a; intro a hm
  replace hS : Sep w0 w_13 [N_4, M_7, M_11, Mem.one g_14 (.cells ([.slice none 0 0, .slice none 0 0] : List Value).toArray 25 (0, 0))] Z := hS'
  clear hS'
  obtain ⟨w_15, hs', hS'⟩ := hS.store (P := Try.prog) (p := 3) (o := 0) (t := 25) (v := .agg [v_5, v_9].toArray) (vs := [v_5, v_9]) rfl ti25 rfl rfl rfl (by intro u hu; simp only [List.mem_cons, List.not_mem_nil, or_false] at hu; rcases hu with rfl | rfl <;> first | rfl | exact hr_6.one | exact hr_10.one)
  refine s_store hm rfl rfl hs' ?_
  replace hS : Sep w0 w_15 [N_4, M_7, M_11, Mem.one g_14 (.cells ([v_5, v_9] : List Value).toArray 25 (0, 0))] Z := hS'
  clear hs' hS'
  refine wpList_nil ?_
  replace hm : Fr 70 a [(0, .bool false), (1, .pointer (some ⟨g_14, 0, none⟩))] := hm.keep [0, 1]
  refine x_then_n ?_
  refine wp_seq ?_
  refine wp_region_lit ?_
  refine s_load hm rfl rfl (hS.load_agg (p := 3) (us := [v_5, v_9]) rfl Try.underlying25 rfl ti25 rfl rfl) ?_
  clear hm a; intro a hm
  refine s_build hm rfl ti28 pl28 rfl (.cons rfl (.cons rfl .nil)) (cs := [.int .i64 2, .int .i64 8, .int .i64 0]) rfl ?_
  clear hm a; intro a hm
  obtain ⟨t_16, et_16, H⟩ := Option.bind_eq_some_iff.1 H
  refine s_call hm rfl Try.call11 rfl (disk_Write.calls K t_1 _ _ (⟨2, 8, 0⟩ : api_Record) (-1) t_16 w0 _ _ _ (Mem.le.refl _) (hS.enter [] (by decide)) (hr_6.rd (hS.own_zed [] 0 (by decide)) (Mem.no_le _)) (hr_10.rd (hS.own_zed [] 1 (by decide)) (Mem.no_le _)) et_16) ?_
  rintro _ w_17 ⟨v_20, v_24, N_18, M_22, M_26, rfl, hS', hr_21, hr_25⟩
  clear hm a; intro a hm
  obtain ⟨N_19, hS'', le_19, ln_19⟩ := hS.call [] (by decide) rfl (l' := []) (ow := [M_22, M_26]) rfl hS'
  replace hS : Sep w0 w_17 [N_19, M_7, M_11, Mem.one g_14 (.cells ([v_5, v_9] : List Value).toArray 25 (0, 0)), M_22, M_26] Z := hS''
  clear hS' hS''
  refine v_alloc hm rfl ti25 hS ?_
  intro w_28 g_29 hS'
  clear hm a; intro a hm
  replace hS : Sep w0 w_28 [N_19, M_7, M_11, Mem.one g_14 (.cells ([v_5, v_9] : List Value).toArray 25 (0, 0)), M_22, M_26, Mem.one g_29 (.cells ([.slice none 0 0, .slice none 0 0] : List Value).toArray 25 (0, 0))] Z := hS'
  clear hS'
  obtain ⟨w_30, hs', hS'⟩ := hS.store (P := Try.prog) (p := 6) (o := 0) (t := 25) (v := .agg [v_20, v_24].toArray) (vs := [v_20, v_24]) rfl ti25 rfl rfl rfl (by intro u hu; simp only [List.mem_cons, List.not_mem_nil, or_false] at hu; rcases hu with rfl | rfl <;> first | rfl | exact hr_21.one | exact hr_25.one)
  refine s_store hm rfl rfl hs' ?_
  replace hS : Sep w0 w_30 [N_19, M_7, M_11, Mem.one g_14 (.cells ([v_5, v_9] : List Value).toArray 25 (0, 0)), M_22, M_26, Mem.one g_29 (.cells ([v_20, v_24] : List Value).toArray 25 (0, 0))] Z := hS'
  clear hs' hS'
  refine wpList_nil ?_
  replace hm : Fr 70 a [(0, .bool false), (1, .pointer (some ⟨g_14, 0, none⟩)), (2, .pointer (some ⟨g_29, 0, none⟩))] := hm.keep [0, 1, 2]
  refine x_then_n ?_
  refine wp_seq ?_
  refine wp_region_lit ?_
  refine s_load hm rfl rfl (hS.load_agg (p := 6) (us := [v_20, v_24]) rfl Try.underlying25 rfl ti25 rfl rfl) ?_
  clear hm a; intro a hm
  refine s_build hm rfl ti28 pl28 rfl (.cons rfl .nil) (cs := [.int .i64 3, .int .i64 0, .int .i64 0]) rfl ?_
  clear hm a; intro a hm
  obtain ⟨t_31, et_31, H⟩ := Option.bind_eq_some_iff.1 H
  refine s_call hm rfl Try.call11 rfl (disk_Write.calls K t_16 _ _ (⟨3, 0, 0⟩ : api_Record) 5 t_31 w0 _ _ _ (Mem.le.refl _) (hS.enter [] (by decide)) (hr_21.rd (hS.own_zed [] 3 (by decide)) (Mem.no_le _)) (hr_25.rd (hS.own_zed [] 4 (by decide)) (Mem.no_le _)) et_31) ?_
  rintro _ w_32 ⟨v_35, v_39, N_33, M_37, M_41, rfl, hS', hr_36, hr_40⟩
  clear hm a; intro a hm
  obtain ⟨N_34, hS'', le_34, ln_34⟩ := hS.call [] (by decide) rfl (l' := []) (ow := [M_37, M_41]) rfl hS'
  replace hS : Sep w0 w_32 [N_34, M_7, M_11, Mem.one g_14 (.cells ([v_5, v_9] : List Value).toArray 25 (0, 0)), M_22, M_26, Mem.one g_29 (.cells ([v_20, v_24] : List Value).toArray 25 (0, 0)), M_37, M_41] Z := hS''
  clear hS' hS''
  refine v_alloc hm rfl ti25 hS ?_
  intro w_43 g_44 hS'
  clear hm a; intro a hm
  replace hS : Sep w0 w_43 [N_34, M_7, M_11, Mem.one g_14 (.cells ([v_5, v_9] : List Value).toArray 25 (0, 0)), M_22, M_26, Mem.one g_29 (.cells ([v_20, v_24] : List Value).toArray 25 (0, 0)), M_37, M_41, Mem.one g_44 (.cells ([.slice none 0 0, .slice none 0 0] : List Value).toArray 25 (0, 0))] Z := hS'
  clear hS'
  obtain ⟨w_45, hs', hS'⟩ := hS.store (P := Try.prog) (p := 9) (o := 0) (t := 25) (v := .agg [v_35, v_39].toArray) (vs := [v_35, v_39]) rfl ti25 rfl rfl rfl (by intro u hu; simp only [List.mem_cons, List.not_mem_nil, or_false] at hu; rcases hu with rfl | rfl <;> first | rfl | exact hr_36.one | exact hr_40.one)
  refine s_store hm rfl rfl hs' ?_
  replace hS : Sep w0 w_45 [N_34, M_7, M_11, Mem.one g_14 (.cells ([v_5, v_9] : List Value).toArray 25 (0, 0)), M_22, M_26, Mem.one g_29 (.cells ([v_20, v_24] : List Value).toArray 25 (0, 0)), M_37, M_41, Mem.one g_44 (.cells ([v_35, v_39] : List Value).toArray 25 (0, 0))] Z := hS'
  clear hs' hS'
  refine wpList_nil ?_
  replace hm : Fr 70 a [(0, .bool false), (1, .pointer (some ⟨g_14, 0, none⟩)), (2, .pointer (some ⟨g_29, 0, none⟩)), (3, .pointer (some ⟨g_44, 0, none⟩))] := hm.keep [0, 1, 2, 3]
  refine x_then_n ?_
  refine wp_seq ?_
  refine wp_region_lit ?_
  refine s_load hm rfl rfl (hS.load_agg (p := 6) (us := [v_20, v_24]) rfl Try.underlying25 rfl ti25 rfl rfl) ?_
  clear hm a; intro a hm
  obtain ⟨t_46, et_46, H⟩ := Option.bind_eq_some_iff.1 H
  refine s_call hm rfl Try.call12 rfl (disk_Read.calls K t_16 _ _ t_46 w0 _ _ _ (Mem.le.refl _) (hS.enter [] (by decide)) (hr_21.rd (hS.own_zed [] 3 (by decide)) (Mem.no_le _)) (hr_25.rd (hS.own_zed [] 4 (by decide)) (Mem.no_le _)) et_46) ?_
  rintro _ w_47 ⟨N_48, rfl, hS'⟩
  clear hm a; intro a hm
  obtain ⟨N_49, hS'', le_49, ln_49⟩ := hS.call [] (by decide) rfl (l' := []) (ow := []) rfl hS'
  replace hS : Sep w0 w_47 [N_49, M_7, M_11, Mem.one g_14 (.cells ([v_5, v_9] : List Value).toArray 25 (0, 0)), M_22, M_26, Mem.one g_29 (.cells ([v_20, v_24] : List Value).toArray 25 (0, 0)), M_37, M_41, Mem.one g_44 (.cells ([v_35, v_39] : List Value).toArray 25 (0, 0))] Z := hS''
  clear hS' hS''
  refine s_move hm rfl rfl ?_
  clear hm a; intro a hm
  refine s_extract hm rfl rfl rfl ?_
  clear hm a; intro a hm
  refine s_extract hm rfl rfl rfl ?_
  clear hm a; intro a hm
  refine v_alloc hm rfl ti28 hS ?_
  intro w_50 g_51 hS'
  clear hm a; intro a hm
  replace hS : Sep w0 w_50 [N_49, M_7, M_11, Mem.one g_14 (.cells ([v_5, v_9] : List Value).toArray 25 (0, 0)), M_22, M_26, Mem.one g_29 (.cells ([v_20, v_24] : List Value).toArray 25 (0, 0)), M_37, M_41, Mem.one g_44 (.cells ([v_35, v_39] : List Value).toArray 25 (0, 0)), Mem.one g_51 (.cells ([.int .i64 0, .int .i64 0, .int .i64 0] : List Value).toArray 28 (0, 0))] Z := hS'
  clear hS'
  obtain ⟨w_52, hs', hS'⟩ := hS.store (P := Try.prog) (p := 10) (o := 0) (t := 28) (v := .agg [.int .i64 t_46.1.Inc, .int .i64 t_46.1.Prom, .int .i64 t_46.1.Inst].toArray) (vs := [.int .i64 t_46.1.Inc, .int .i64 t_46.1.Prom, .int .i64 t_46.1.Inst]) rfl ti28 rfl rfl rfl (by intro u hu; simp only [List.mem_cons, List.not_mem_nil, or_false] at hu; rcases hu with rfl | rfl | rfl <;> rfl)
  refine s_store hm rfl rfl hs' ?_
  replace hS : Sep w0 w_52 [N_49, M_7, M_11, Mem.one g_14 (.cells ([v_5, v_9] : List Value).toArray 25 (0, 0)), M_22, M_26, Mem.one g_29 (.cells ([v_20, v_24] : List Value).toArray 25 (0, 0)), M_37, M_41, Mem.one g_44 (.cells ([v_35, v_39] : List Value).toArray 25 (0, 0)), Mem.one g_51 (.cells ([.int .i64 t_46.1.Inc, .int .i64 t_46.1.Prom, .int .i64 t_46.1.Inst] : List Value).toArray 28 (0, 0))] Z := hS'
  clear hs' hS'
  refine s_assign hm rfl rfl ?_
  clear hm a; intro a hm
  refine wpList_nil ?_
  replace hm : Fr 70 a [(0, .bool false), (1, .pointer (some ⟨g_14, 0, none⟩)), (3, .pointer (some ⟨g_44, 0, none⟩)), (4, .pointer (some ⟨g_51, 0, none⟩)), (5, .bool t_46.2)] := hm.keep [0, 1, 3, 4, 5]
  refine x_then_n ?_
  refine wp_seq ?_
  refine wp_region_lit ?_
  refine s_load hm rfl rfl (hS.load_agg (p := 9) (us := [v_35, v_39]) rfl Try.underlying25 rfl ti25 rfl rfl) ?_
  clear hm a; intro a hm
  obtain ⟨t_53, et_53, H⟩ := Option.bind_eq_some_iff.1 H
  refine s_call hm rfl Try.call12 rfl (disk_Read.calls K t_31 _ _ t_53 w0 _ _ _ (Mem.le.refl _) (hS.enter [] (by decide)) (hr_36.rd (hS.own_zed [] 6 (by decide)) (Mem.no_le _)) (hr_40.rd (hS.own_zed [] 7 (by decide)) (Mem.no_le _)) et_53) ?_
  rintro _ w_54 ⟨N_55, rfl, hS'⟩
  clear hm a; intro a hm
  obtain ⟨N_56, hS'', le_56, ln_56⟩ := hS.call [] (by decide) rfl (l' := []) (ow := []) rfl hS'
  replace hS : Sep w0 w_54 [N_56, M_7, M_11, Mem.one g_14 (.cells ([v_5, v_9] : List Value).toArray 25 (0, 0)), M_22, M_26, Mem.one g_29 (.cells ([v_20, v_24] : List Value).toArray 25 (0, 0)), M_37, M_41, Mem.one g_44 (.cells ([v_35, v_39] : List Value).toArray 25 (0, 0)), Mem.one g_51 (.cells ([.int .i64 t_46.1.Inc, .int .i64 t_46.1.Prom, .int .i64 t_46.1.Inst] : List Value).toArray 28 (0, 0))] Z := hS''
  clear hS' hS''
  refine s_move hm rfl rfl ?_
  clear hm a; intro a hm
  refine s_extract hm rfl rfl rfl ?_
  clear hm a; intro a hm
  refine s_extract hm rfl rfl rfl ?_
  clear hm a; intro a hm
  refine v_alloc hm rfl ti28 hS ?_
  intro w_57 g_58 hS'
  clear hm a; intro a hm
  replace hS : Sep w0 w_57 [N_56, M_7, M_11, Mem.one g_14 (.cells ([v_5, v_9] : List Value).toArray 25 (0, 0)), M_22, M_26, Mem.one g_29 (.cells ([v_20, v_24] : List Value).toArray 25 (0, 0)), M_37, M_41, Mem.one g_44 (.cells ([v_35, v_39] : List Value).toArray 25 (0, 0)), Mem.one g_51 (.cells ([.int .i64 t_46.1.Inc, .int .i64 t_46.1.Prom, .int .i64 t_46.1.Inst] : List Value).toArray 28 (0, 0)), Mem.one g_58 (.cells ([.int .i64 0, .int .i64 0, .int .i64 0] : List Value).toArray 28 (0, 0))] Z := hS'
  clear hS'
  obtain ⟨w_59, hs', hS'⟩ := hS.store (P := Try.prog) (p := 11) (o := 0) (t := 28) (v := .agg [.int .i64 t_53.1.Inc, .int .i64 t_53.1.Prom, .int .i64 t_53.1.Inst].toArray) (vs := [.int .i64 t_53.1.Inc, .int .i64 t_53.1.Prom, .int .i64 t_53.1.Inst]) rfl ti28 rfl rfl rfl (by intro u hu; simp only [List.mem_cons, List.not_mem_nil, or_false] at hu; rcases hu with rfl | rfl | rfl <;> rfl)
  refine s_store hm rfl rfl hs' ?_
  replace hS : Sep w0 w_59 [N_56, M_7, M_11, Mem.one g_14 (.cells ([v_5, v_9] : List Value).toArray 25 (0, 0)), M_22, M_26, Mem.one g_29 (.cells ([v_20, v_24] : List Value).toArray 25 (0, 0)), M_37, M_41, Mem.one g_44 (.cells ([v_35, v_39] : List Value).toArray 25 (0, 0)), Mem.one g_51 (.cells ([.int .i64 t_46.1.Inc, .int .i64 t_46.1.Prom, .int .i64 t_46.1.Inst] : List Value).toArray 28 (0, 0)), Mem.one g_58 (.cells ([.int .i64 t_53.1.Inc, .int .i64 t_53.1.Prom, .int .i64 t_53.1.Inst] : List Value).toArray 28 (0, 0))] Z := hS'
  clear hs' hS'
  refine s_assign hm rfl rfl ?_
  clear hm a; intro a hm
  refine wpList_nil ?_
  replace hm : Fr 70 a [(0, .bool false), (1, .pointer (some ⟨g_14, 0, none⟩)), (3, .pointer (some ⟨g_44, 0, none⟩)), (4, .pointer (some ⟨g_51, 0, none⟩)), (5, .bool t_46.2), (6, .pointer (some ⟨g_58, 0, none⟩)), (7, .bool t_53.2)] := hm.keep [0, 1, 3, 4, 5, 6, 7]
  refine x_then_n ?_
  refine wp_seq ?_
  refine wp_region_lit ?_
  refine s_build hm rfl ti25 pl25 rfl .nil (cs := [.slice none 0 0, .slice none 0 0]) rfl ?_
  clear hm a; intro a hm
  obtain ⟨t_60, et_60, H⟩ := Option.bind_eq_some_iff.1 H
  refine s_call hm rfl Try.call12 rfl (disk_Read.calls K (⟨([] : List UInt8), ([] : List UInt8)⟩ : api_Disk) _ _ t_60 w0 _ _ _ (Mem.le.refl _) (hS.enter [] (by decide)) (Rd.nil _ _) (Rd.nil _ _) et_60) ?_
  rintro _ w_61 ⟨N_62, rfl, hS'⟩
  clear hm a; intro a hm
  obtain ⟨N_63, hS'', le_63, ln_63⟩ := hS.call [] (by decide) rfl (l' := []) (ow := []) rfl hS'
  replace hS : Sep w0 w_61 [N_63, M_7, M_11, Mem.one g_14 (.cells ([v_5, v_9] : List Value).toArray 25 (0, 0)), M_22, M_26, Mem.one g_29 (.cells ([v_20, v_24] : List Value).toArray 25 (0, 0)), M_37, M_41, Mem.one g_44 (.cells ([v_35, v_39] : List Value).toArray 25 (0, 0)), Mem.one g_51 (.cells ([.int .i64 t_46.1.Inc, .int .i64 t_46.1.Prom, .int .i64 t_46.1.Inst] : List Value).toArray 28 (0, 0)), Mem.one g_58 (.cells ([.int .i64 t_53.1.Inc, .int .i64 t_53.1.Prom, .int .i64 t_53.1.Inst] : List Value).toArray 28 (0, 0))] Z := hS''
  clear hS' hS''
  refine s_move hm rfl rfl ?_
  clear hm a; intro a hm
  refine s_extract hm rfl rfl rfl ?_
  clear hm a; intro a hm
  refine s_extract hm rfl rfl rfl ?_
  clear hm a; intro a hm
  refine v_alloc hm rfl ti28 hS ?_
  intro w_64 g_65 hS'
  clear hm a; intro a hm
  replace hS : Sep w0 w_64 [N_63, M_7, M_11, Mem.one g_14 (.cells ([v_5, v_9] : List Value).toArray 25 (0, 0)), M_22, M_26, Mem.one g_29 (.cells ([v_20, v_24] : List Value).toArray 25 (0, 0)), M_37, M_41, Mem.one g_44 (.cells ([v_35, v_39] : List Value).toArray 25 (0, 0)), Mem.one g_51 (.cells ([.int .i64 t_46.1.Inc, .int .i64 t_46.1.Prom, .int .i64 t_46.1.Inst] : List Value).toArray 28 (0, 0)), Mem.one g_58 (.cells ([.int .i64 t_53.1.Inc, .int .i64 t_53.1.Prom, .int .i64 t_53.1.Inst] : List Value).toArray 28 (0, 0)), Mem.one g_65 (.cells ([.int .i64 0, .int .i64 0, .int .i64 0] : List Value).toArray 28 (0, 0))] Z := hS'
  clear hS'
  obtain ⟨w_66, hs', hS'⟩ := hS.store (P := Try.prog) (p := 12) (o := 0) (t := 28) (v := .agg [.int .i64 t_60.1.Inc, .int .i64 t_60.1.Prom, .int .i64 t_60.1.Inst].toArray) (vs := [.int .i64 t_60.1.Inc, .int .i64 t_60.1.Prom, .int .i64 t_60.1.Inst]) rfl ti28 rfl rfl rfl (by intro u hu; simp only [List.mem_cons, List.not_mem_nil, or_false] at hu; rcases hu with rfl | rfl | rfl <;> rfl)
  refine s_store hm rfl rfl hs' ?_
  replace hS : Sep w0 w_66 [N_63, M_7, M_11, Mem.one g_14 (.cells ([v_5, v_9] : List Value).toArray 25 (0, 0)), M_22, M_26, Mem.one g_29 (.cells ([v_20, v_24] : List Value).toArray 25 (0, 0)), M_37, M_41, Mem.one g_44 (.cells ([v_35, v_39] : List Value).toArray 25 (0, 0)), Mem.one g_51 (.cells ([.int .i64 t_46.1.Inc, .int .i64 t_46.1.Prom, .int .i64 t_46.1.Inst] : List Value).toArray 28 (0, 0)), Mem.one g_58 (.cells ([.int .i64 t_53.1.Inc, .int .i64 t_53.1.Prom, .int .i64 t_53.1.Inst] : List Value).toArray 28 (0, 0)), Mem.one g_65 (.cells ([.int .i64 t_60.1.Inc, .int .i64 t_60.1.Prom, .int .i64 t_60.1.Inst] : List Value).toArray 28 (0, 0))] Z := hS'
  clear hs' hS'
  refine s_assign hm rfl rfl ?_
  clear hm a; intro a hm
  refine wpList_nil ?_
  replace hm : Fr 70 a [(0, .bool false), (1, .pointer (some ⟨g_14, 0, none⟩)), (3, .pointer (some ⟨g_44, 0, none⟩)), (4, .pointer (some ⟨g_51, 0, none⟩)), (5, .bool t_46.2), (6, .pointer (some ⟨g_58, 0, none⟩)), (7, .bool t_53.2), (9, .bool t_60.2)] := hm.keep [0, 1, 3, 4, 5, 6, 7, 9]
  refine x_then_n ?_
  refine c_seq fun KJ_67 hKJ_67 => ?_
  refine wp_region_lit ?_
  refine s_move hm rfl rfl ?_
  clear hm a; intro a hm
  refine s_move hm rfl rfl ?_
  clear hm a; intro a hm
  by_cases hc_68 : t_46.2 = true
  · rw [if_pos hc_68] at H
    refine s_on hm rfl rfl hc_68 ?_
    refine s_load hm rfl rfl (hS.load_agg (p := 10) (us := [.int .i64 t_46.1.Inc, .int .i64 t_46.1.Prom, .int .i64 t_46.1.Inst]) rfl Try.underlying28 rfl ti28 rfl rfl) ?_
    clear hm a; intro a hm
    refine s_on hm rfl rfl hc_68 ?_
    refine s_build hm rfl ti28 pl28 rfl (.cons rfl (.cons rfl .nil)) (cs := [.int .i64 2, .int .i64 8, .int .i64 0]) rfl ?_
    clear hm a; intro a hm
    refine s_on hm rfl rfl hc_68 ?_
    refine s_structEq (xs := [t_46.1.Inc, t_46.1.Prom, t_46.1.Inst]) (ys := [2, 8, 0]) (b := ([t_46.1.Inc, t_46.1.Prom, t_46.1.Inst] == [2, 8, 0])) hm rfl Try.underlying28 (by kernel_rfl) (by kernel_rfl) ⟨rfl, rfl, Try.underlying3, rfl, rfl, Try.underlying3, rfl, rfl, Try.underlying3, trivial⟩ rfl rfl rfl rfl (.inl ⟨rfl, rfl⟩) ?_
    clear hm a; intro a hm
    refine s_pick_t hm rfl rfl hc_68 rfl ?_
    clear hm a; intro a hm
    refine s_move hm rfl rfl ?_
    clear hm a; intro a hm
    by_cases hc_69 : [t_46.1.Inc, t_46.1.Prom, t_46.1.Inst] = [2, 8, 0]
    · rw [if_pos hc_69] at H
      refine s_on hm rfl rfl (beq_iff_eq.2 hc_69) ?_
      refine s_move hm rfl rfl ?_
      clear hm a; intro a hm
      refine s_pick_t hm rfl rfl (beq_iff_eq.2 hc_69) rfl ?_
      clear hm a; intro a hm
      refine s_move hm rfl rfl ?_
      clear hm a; intro a hm
      by_cases hc_70 : t_53.2 = true
      · rw [if_pos hc_70] at H
        refine s_on hm rfl rfl hc_70 ?_
        refine s_load hm rfl rfl (hS.load_agg (p := 11) (us := [.int .i64 t_53.1.Inc, .int .i64 t_53.1.Prom, .int .i64 t_53.1.Inst]) rfl Try.underlying28 rfl ti28 rfl rfl) ?_
        clear hm a; intro a hm
        refine s_on hm rfl rfl hc_70 ?_
        refine s_load hm rfl rfl (hS.load_agg (p := 10) (us := [.int .i64 t_46.1.Inc, .int .i64 t_46.1.Prom, .int .i64 t_46.1.Inst]) rfl Try.underlying28 rfl ti28 rfl rfl) ?_
        clear hm a; intro a hm
        refine s_on hm rfl rfl hc_70 ?_
        refine s_structEq (xs := [t_53.1.Inc, t_53.1.Prom, t_53.1.Inst]) (ys := [t_46.1.Inc, t_46.1.Prom, t_46.1.Inst]) (b := ([t_53.1.Inc, t_53.1.Prom, t_53.1.Inst] == [t_46.1.Inc, t_46.1.Prom, t_46.1.Inst])) hm rfl Try.underlying28 (by kernel_rfl) (by kernel_rfl) ⟨rfl, rfl, Try.underlying3, rfl, rfl, Try.underlying3, rfl, rfl, Try.underlying3, trivial⟩ rfl rfl rfl rfl (.inl ⟨rfl, rfl⟩) ?_
        clear hm a; intro a hm
        refine s_pick_t hm rfl rfl hc_70 rfl ?_
        clear hm a; intro a hm
        refine s_move hm rfl rfl ?_
        clear hm a; intro a hm
        by_cases hc_71 : [t_53.1.Inc, t_53.1.Prom, t_53.1.Inst] = [t_46.1.Inc, t_46.1.Prom, t_46.1.Inst]
        · rw [if_pos hc_71] at H
          refine s_on hm rfl rfl (beq_iff_eq.2 hc_71) ?_
          refine s_move hm rfl rfl ?_
          clear hm a; intro a hm
          refine s_on hm rfl rfl (beq_iff_eq.2 hc_71) ?_
          refine s_not hm rfl rfl ?_
          clear hm a; intro a hm
          refine s_pick_t hm rfl rfl (beq_iff_eq.2 hc_71) rfl ?_
          clear hm a; intro a hm
          refine s_move hm rfl rfl ?_
          clear hm a; intro a hm
          by_cases hc_72 : t_60.2 = true
          · rw [if_pos hc_72] at H
            cases H
          · rw [if_neg hc_72] at H
            refine s_on hm rfl rfl (nt (Bool.eq_false_iff.2 hc_72)) ?_
            refine s_fieldAddr hm rfl Try.underlying25 rfl ti23 rfl rfl ?_
            clear hm a; intro a hm
            refine s_on hm rfl rfl (nt (Bool.eq_false_iff.2 hc_72)) ?_
            refine s_load hm rfl rfl (hS.load_one (p := 3) rfl Try.underlying23 rfl rfl) ?_
            clear hm a; intro a hm
            refine s_on hm rfl rfl (nt (Bool.eq_false_iff.2 hc_72)) ?_
            refine s_lenO hm rfl Try.underlying23 rfl hr_6 ?_
            clear hm a; intro a hm
            refine s_on hm rfl rfl (nt (Bool.eq_false_iff.2 hc_72)) ?_
            refine s_cmp (b := decide ((t_1.A.length : Int) > 0)) hm rfl rfl rfl (.inr (.inr (.inr (.inr (.inl ⟨rfl, rfl⟩))))) ?_
            clear hm a; intro a hm
            refine s_pick_t hm rfl rfl (nt (Bool.eq_false_iff.2 hc_72)) rfl ?_
            clear hm a; intro a hm
            refine s_move hm rfl rfl ?_
            clear hm a; intro a hm
            by_cases hc_73 : (t_1.A.length : Int) > 0
            · rw [if_pos hc_73] at H
              refine s_on hm rfl rfl (decide_eq_true hc_73) ?_
              refine s_fieldAddr hm rfl Try.underlying25 rfl ti23 rfl rfl ?_
              clear hm a; intro a hm
              refine s_on hm rfl rfl (decide_eq_true hc_73) ?_
              refine s_load hm rfl rfl (hS.load_one (p := 3) rfl Try.underlying23 rfl rfl) ?_
              clear hm a; intro a hm
              refine s_on hm rfl rfl (decide_eq_true hc_73) ?_
              refine s_lenO hm rfl Try.underlying23 rfl hr_10 ?_
              clear hm a; intro a hm
              refine s_on hm rfl rfl (decide_eq_true hc_73) ?_
              refine s_cmp (b := ((t_1.B.length : Int) == 0)) hm rfl rfl rfl (.inl ⟨rfl, rfl⟩) ?_
              clear hm a; intro a hm
              refine s_pick_t hm rfl rfl (decide_eq_true hc_73) rfl ?_
              clear hm a; intro a hm
              refine s_move hm rfl rfl ?_
              clear hm a; intro a hm
              by_cases hc_74 : (t_1.B.length : Int) = 0
              · rw [if_pos hc_74] at H
                refine s_on hm rfl rfl (beq_iff_eq.2 hc_74) ?_
                refine s_fieldAddr hm rfl Try.underlying25 rfl ti23 rfl rfl ?_
                clear hm a; intro a hm
                refine s_on hm rfl rfl (beq_iff_eq.2 hc_74) ?_
                refine s_load hm rfl rfl (hS.load_one (p := 9) rfl Try.underlying23 rfl rfl) ?_
                clear hm a; intro a hm
                refine s_on hm rfl rfl (beq_iff_eq.2 hc_74) ?_
                refine s_lenO hm rfl Try.underlying23 rfl hr_36 ?_
                clear hm a; intro a hm
                refine s_on hm rfl rfl (beq_iff_eq.2 hc_74) ?_
                refine s_cmp (b := ((t_31.A.length : Int) == 5)) hm rfl rfl rfl (.inl ⟨rfl, rfl⟩) ?_
                clear hm a; intro a hm
                refine s_pick_t hm rfl rfl (beq_iff_eq.2 hc_74) rfl ?_
                clear hm a; intro a hm
                refine s_assign hm rfl rfl ?_
                clear hm a; intro a hm
                refine wpList_nil ?_
                replace hm : Fr 70 a [(0, .bool ((t_31.A.length : Int) == 5))] := hm.keep [0]
                refine x_then_n (hKJ_67 _ _ ?_)
                refine wp_ret ?_
                by_cases hc_75 : (t_31.A.length : Int) = 5
                · rw [if_pos hc_75] at H
                  exact f_ret hm (rs := [.tmp 0]) rfl (.tmp rfl .nil) ⟨_, rfl, N_63, (by rw [(beq_iff_eq.2 hc_75)]; rfl), (Sep.sel hS [0] (by decide))⟩
                · rw [if_neg hc_75] at H
                  cases H
              · rw [if_neg hc_74] at H
                cases H
            · rw [if_neg hc_73] at H
              cases H
        · rw [if_neg hc_71] at H
          cases H
      · rw [if_neg hc_70] at H
        cases H
    · rw [if_neg hc_69] at H
      cases H
  · rw [if_neg hc_68] at H
    cases H

set_option maxHeartbeats 4000000 in
set_option maxRecDepth 20000 in
theorem hocketlaw13_DiskTurns.calls (K : Nat) (x0 : List Int) (p0_0 : Value) (r : Unit) (w0 w : World) (Z A : Mem) (hA : A.le Z) (hS : Sep w0 w [] Z) (hp0_0 : Rd (Kd.int .i64) A p0_0 x0)
    (H : hocketlaw13_DiskTurns.f K x0 = some r) :
    Calls Try.prog 3 [p0_0].toArray w (Ret fun v w' => ∃ (N : Mem), v = .bool true ∧ Sep w0 w' [N] Z) := by
  unfold hocketlaw13_DiskTurns.f at H
  refine f_enter _ Try.func3 rfl Try.ntmps3 rfl fun a hm => ?_
  replace hm : Fr 105 a [(0, p0_0)] := hm
  replace hS := hS.start
  replace hS : Sep w0 w [Mem.no] Z := hS
  refine wp_seq ?_
  refine wp_region_lit ?_
  refine s_assign hm rfl rfl ?_
  clear hm a; intro a hm
  refine wpList_nil ?_
  replace hm : Fr 105 a [(0, p0_0), (2, .bool false)] := hm.keep [0, 2]
  refine x_then_n ?_
  refine wp_seq ?_
  refine wp_region_lit ?_
  refine s_build hm rfl ti25 pl25 rfl .nil (cs := [.slice none 0 0, .slice none 0 0]) rfl ?_
  clear hm a; intro a hm
  refine v_alloc hm rfl ti25 hS ?_
  intro w_1 g_2 hS'
  clear hm a; intro a hm
  replace hS : Sep w0 w_1 [Mem.no, Mem.one g_2 (.cells ([.slice none 0 0, .slice none 0 0] : List Value).toArray 25 (0, 0))] Z := hS'
  clear hS'
  obtain ⟨w_3, hs', hS'⟩ := hS.store (P := Try.prog) (p := 1) (o := 0) (t := 25) (v := .agg [.slice none 0 0, .slice none 0 0].toArray) (vs := [.slice none 0 0, .slice none 0 0]) rfl ti25 rfl rfl rfl (by intro u hu; simp only [List.mem_cons, List.not_mem_nil, or_false] at hu; rcases hu with rfl | rfl <;> rfl)
  refine s_store hm rfl rfl hs' ?_
  replace hS : Sep w0 w_3 [Mem.no, Mem.one g_2 (.cells ([.slice none 0 0, .slice none 0 0] : List Value).toArray 25 (0, 0))] Z := hS'
  clear hs' hS'
  refine wpList_nil ?_
  replace hm : Fr 105 a [(0, p0_0), (2, .bool false), (3, .pointer (some ⟨g_2, 0, none⟩))] := hm.keep [0, 2, 3]
  refine x_then_n ?_
  refine c_seq fun KJ_4 hKJ_4 => ?_
  refine wp_seq ?_
  refine wp_region_lit ?_
  refine s_assign hm rfl rfl ?_
  clear hm a; intro a hm
  refine wpList_nil ?_
  replace hm : Fr 105 a [(0, p0_0), (2, .bool false), (3, .pointer (some ⟨g_2, 0, none⟩)), (4, .int .i64 0)] := hm.keep [0, 2, 3, 4]
  refine x_then_n ?_
  have hJ_j_7 : hocketlaw13_DiskTurns.J1 K = some r → ∀ (a : Act) (w_6 : World), (∃ (N_5 : Mem), Fr 105 a [(2, .bool false)] ∧ Sep w0 w_6 [N_5, Mem.no] Z ∧ Mem.no.le N_5) → KJ_4 a w_6 := by
    clear H hm hS a
    rintro H a w_6 ⟨N_5, hm, hS, le_5⟩
    unfold hocketlaw13_DiskTurns.J1 at H
    refine hKJ_4 _ _ ?_
    refine wp_seq ?_
    refine wp_region_lit ?_
    obtain ⟨t_8, et_8, H⟩ := Option.bind_eq_some_iff.1 H
    refine s_call hm rfl Try.call13 rfl (hocketlaw13_awake.calls K  t_8 w0 _ _ _ (Mem.le.refl _) (hS.enter [] (by decide))  et_8) ?_
    rintro _ w_9 ⟨N_10, rfl, hS'⟩
    clear hm a; intro a hm
    obtain ⟨N_11, hS'', le_11, ln_11⟩ := hS.call [] (by decide) rfl (l' := []) (ow := []) rfl hS'
    replace hS : Sep w0 w_9 [N_11, Mem.no] Z := hS''
    clear hS' hS''
    refine s_assign hm rfl rfl ?_
    clear hm a; intro a hm
    refine wpList_nil ?_
    replace hm : Fr 105 a [(2, .bool true)] := hm.keep [2]
    refine x_then_n ?_
    refine wp_ret ?_
    exact f_ret hm (rs := [.tmp 2]) rfl (.tmp rfl .nil) ⟨_, rfl, N_11, rfl, (Sep.sel hS [0] (by decide))⟩
  clear hKJ_4
  have hS' := hS.room
  replace hS : Sep w0 w_3 [Mem.no, Mem.one g_2 (.cells ([.slice none 0 0, .slice none 0 0] : List Value).toArray 25 (0, 0)), Mem.no] Z := hS'
  clear hS'
  have hS' := hS.room
  replace hS : Sep w0 w_3 [Mem.no, Mem.one g_2 (.cells ([.slice none 0 0, .slice none 0 0] : List Value).toArray 25 (0, 0)), Mem.no, Mem.no] Z := hS'
  clear hS'
  replace hS : Sep w0 w_3 [Mem.no, Mem.one g_2 (.cells ([.slice none 0 0, .slice none 0 0] : List Value).toArray 25 (0, 0)), Mem.no, Mem.no] Z := hS
  replace hm : Fr 105 a [(0, p0_0), (2, .bool false), (3, .pointer (some ⟨g_2, 0, none⟩)), (4, .int .i64 0)] := hm.keep [0, 2, 3, 4]
  refine c_block ?_
  refine c_loop (fun k_23 a w_23 => ∃ (x_13 : Int) (x_14 : api_Disk) (v_17 : Value) (v_21 : Value) (N_12 : Mem) (M_15 : Mem) (M_19 : Mem), hocketlaw13_DiskTurns.L1 K x0 (fun v => hocketlaw13_DiskTurns.J1 K) k_23 (x_13, x_14) = some r ∧ Fr 105 a [(0, p0_0), (2, .bool false), (3, .pointer (some ⟨g_2, 0, none⟩)), (4, .int .i64 x_13)] ∧ Sep w0 w_23 [N_12, Mem.one g_2 (.cells ([v_17, v_21] : List Value).toArray 25 (0, 0)), M_15, M_19] Z ∧ Mem.no.le N_12 ∧ Own Kd.u8 5 M_15 Mem.no v_17 x_14.A ∧ Own Kd.u8 5 M_19 Mem.no v_21 x_14.B) K ⟨0, (⟨([] : List UInt8), ([] : List UInt8)⟩ : api_Disk), .slice none 0 0, .slice none 0 0, Mem.no, Mem.no, Mem.no, H, hm, (Sep.sel hS [0, 1, 2, 3] (by decide)), (Mem.le.refl _), (Own.nil Kd.u8 5 Mem.no), (Own.nil Kd.u8 5 Mem.no)⟩ (fun a w h => by obtain ⟨_, _, _, _, _, _, _, H, _⟩ := h; cases (show (none : Option (Unit)) = some r from H)) ?_
  clear hm hS a H
  rintro k_23 a w_23 KL_23 hKL_23 ⟨x_13, x_14, v_17, v_21, N_12, M_15, M_19, H, hm, hS, le_12, ho_18, ho_22⟩
  replace H : hocketlaw13_DiskTurns.B1 K x0 (fun v => hocketlaw13_DiskTurns.J1 K) (hocketlaw13_DiskTurns.L1 K x0 (fun v => hocketlaw13_DiskTurns.J1 K) k_23) x_13 x_14 = some r := H
  unfold hocketlaw13_DiskTurns.B1 at H
  refine c_seq fun KJ_27 hKJ_27 => ?_
  refine c_seq fun KJ_28 hKJ_28 => ?_
  have hJ_j_32 : ∀ (x_30 : Bool), hocketlaw13_DiskTurns.J2 K x0 x_13 x_14 (hocketlaw13_DiskTurns.L1 K x0 (fun v => hocketlaw13_DiskTurns.J1 K) k_23) (fun v => hocketlaw13_DiskTurns.J1 K) x_30 = some r → ∀ (a : Act) (w_31 : World), (∃ (N_29 : Mem), Fr 105 a [(0, p0_0), (2, .bool false), (3, .pointer (some ⟨g_2, 0, none⟩)), (4, .int .i64 x_13), (24, .bool x_30)] ∧ Sep w0 w_31 [N_29, Mem.one g_2 (.cells ([v_17, v_21] : List Value).toArray 25 (0, 0)), M_15, M_19] Z ∧ N_12.le N_29) → KJ_28 a w_31 := by
    clear H hm hS a
    rintro x_30 H a w_31 ⟨N_29, hm, hS, le_29⟩
    unfold hocketlaw13_DiskTurns.J2 at H
    refine hKJ_28 _ _ ?_
    by_cases hc_33 : x_30 = true
    · rw [if_pos hc_33] at H
      refine c_cond_t hm rfl hc_33 ?_
      refine wp_skip ?_
      refine x_then_n (hKJ_27 _ _ ?_)
      refine wp_seq ?_
      refine c_block ?_
      refine c_seq fun KJ_34 hKJ_34 => ?_
      refine h_begin (S := fun w => Sep w0 w [N_29, Mem.one g_2 (.cells ([v_17, v_21] : List Value).toArray 25 (0, 0)), M_15, M_19] Z) 16 (by kernel_rfl) rfl [false, false, false, false, false, false, false, false, false, false, false, false, false, false, false, false].toArray rfl hS fun w_35 hS => ?_
      replace hS : Sep w0 w_35 [N_29, Mem.one g_2 (.cells ([v_17, v_21] : List Value).toArray 25 (0, 0)), M_15, M_19] Z := hS
      refine h_take 0 [true, false, false, false, false, false, false, false, false, false, false, false, false, false, false, false].toArray rfl (by kernel_rfl) (by kernel_rfl) (by kernel_rfl) (fun _ _ _ _ h => h) rfl rfl rfl rfl hm (hS.sub (.cons (Mem.le.refl _) (.cons (Mem.le.refl _) (.cons (Mem.le.refl _) (.cons (Mem.le.refl _) (Sub.nil _)))))) (v := .int .i64 x_13) (fun w hS => r_move hm rfl) ?_
      clear hm a; intro a hm
      refine h_take 1 [true, true, false, false, false, false, false, false, false, false, false, false, false, false, false, false].toArray rfl (by kernel_rfl) (by kernel_rfl) (by kernel_rfl) (fun _ _ _ _ h => h) rfl rfl rfl rfl hm (hS.sub (.cons (Mem.le.refl _) (.cons (Mem.le.refl _) (.cons (Mem.le.refl _) (.cons (Mem.le.refl _) (Sub.nil _)))))) (v := .int .i64 (w64 (x_13 + 1))) (fun w hS => r_arith (r := w64 (x_13 + 1)) hm rfl rfl (.inl ⟨rfl, rfl⟩)) ?_
      clear hm a; intro a hm
      refine h_take 2 [true, true, true, false, false, false, false, false, false, false, false, false, false, false, false, false].toArray rfl (by kernel_rfl) (by kernel_rfl) (by kernel_rfl) (fun _ _ _ _ h => h) rfl rfl rfl rfl hm (hS.sub (.cons (Mem.le.refl _) (.cons (Mem.le.refl _) (.cons (Mem.le.refl _) (.cons (Mem.le.refl _) (Sub.nil _)))))) (v := p0_0) (fun w hS => r_move hm rfl) ?_
      clear hm a; intro a hm
      refine h_take 3 [true, true, true, true, false, false, false, false, false, false, false, false, false, false, false, false].toArray rfl (by kernel_rfl) (by kernel_rfl) (by kernel_rfl) (fun _ _ _ _ h => h) rfl rfl rfl rfl hm (hS.sub (.cons (Mem.le.refl _) (.cons (Mem.le.refl _) (.cons (Mem.le.refl _) (.cons (Mem.le.refl _) (Sub.nil _)))))) (v := .int .i64 x_13) (fun w hS => r_move hm rfl) ?_
      clear hm a; intro a hm
      obtain ⟨t_36, et_36, H⟩ := Option.bind_eq_some_iff.1 H
      refine h_takeE 4 [true, true, true, true, true, false, false, false, false, false, false, false, false, false, false, false].toArray rfl (by kernel_rfl) (by kernel_rfl) (by kernel_rfl) (fun _ _ _ _ h => h) rfl rfl rfl rfl hm (hS.sub (.cons (Mem.le.refl _) (.cons (Mem.le.refl _) (.cons (Mem.le.refl _) (.cons (Mem.le.refl _) (Sub.nil _)))))) (f := fun ad => .pointer (some ad)) (r_index hm Try.underlying22 ti3 rfl rfl rfl hp0_0 et_36) ?_
      rintro ad_37 ⟨cs_38, hk_39, hc_40⟩
      obtain rfl := (show cs_38 = [.int .i64 t_36] from hk_39)
      clear hm a; intro a hm
      refine h_take 5 [true, true, true, true, true, true, false, false, false, false, false, false, false, false, false, false].toArray rfl (by kernel_rfl) (by kernel_rfl) (by kernel_rfl) (fun _ _ _ _ h => h) rfl rfl rfl rfl hm (hS.sub (.cons (Mem.le.refl _) (.cons (Mem.le.refl _) (.cons (Mem.le.refl _) (.cons (Mem.le.refl _) (Sub.nil _)))))) (v := .int .i64 t_36) (fun w hS => r_load hm rfl (el_one (o := 0) (fun j c h => Mem.cell_le (hA.trans hS.old) (hc_40 j c h)) Try.underlying3 rfl rfl)) ?_
      clear hm a; intro a hm
      refine h_take 6 [true, true, true, true, true, true, true, false, false, false, false, false, false, false, false, false].toArray rfl (by kernel_rfl) (by kernel_rfl) (by kernel_rfl) (fun _ _ _ _ h => h) rfl rfl rfl rfl hm (hS.sub (.cons (Mem.le.refl _) (.cons (Mem.le.refl _) (.cons (Mem.le.refl _) (.cons (Mem.le.refl _) (Sub.nil _)))))) (v := .int .i64 (band .i64 t_36 65535)) (fun w hS => r_bits (i := t_36) (j := 65535) (r := band .i64 t_36 65535) hm rfl rfl (.inl ⟨rfl, rfl⟩)) ?_
      clear hm a; intro a hm
      refine h_take 7 [true, true, true, true, true, true, true, true, false, false, false, false, false, false, false, false].toArray rfl (by kernel_rfl) (by kernel_rfl) (by kernel_rfl) (fun _ _ _ _ h => h) rfl rfl rfl rfl hm (hS.sub (.cons (Mem.le.refl _) (.cons (Mem.le.refl _) (.cons (Mem.le.refl _) (.cons (Mem.le.refl _) (Sub.nil _)))))) (v := p0_0) (fun w hS => r_move hm rfl) ?_
      clear hm a; intro a hm
      refine h_take 8 [true, true, true, true, true, true, true, true, true, false, false, false, false, false, false, false].toArray rfl (by kernel_rfl) (by kernel_rfl) (by kernel_rfl) (fun _ _ _ _ h => h) rfl rfl rfl rfl hm (hS.sub (.cons (Mem.le.refl _) (.cons (Mem.le.refl _) (.cons (Mem.le.refl _) (.cons (Mem.le.refl _) (Sub.nil _)))))) (v := .int .i64 x_13) (fun w hS => r_move hm rfl) ?_
      clear hm a; intro a hm
      obtain ⟨t_41, et_41, H⟩ := Option.bind_eq_some_iff.1 H
      refine h_takeE 9 [true, true, true, true, true, true, true, true, true, true, false, false, false, false, false, false].toArray rfl (by kernel_rfl) (by kernel_rfl) (by kernel_rfl) (fun _ _ _ _ h => h) rfl rfl rfl rfl hm (hS.sub (.cons (Mem.le.refl _) (.cons (Mem.le.refl _) (.cons (Mem.le.refl _) (.cons (Mem.le.refl _) (Sub.nil _)))))) (f := fun ad => .pointer (some ad)) (r_index hm Try.underlying22 ti3 rfl rfl rfl hp0_0 et_41) ?_
      rintro ad_42 ⟨cs_43, hk_44, hc_45⟩
      obtain rfl := (show cs_43 = [.int .i64 t_41] from hk_44)
      clear hm a; intro a hm
      refine h_take 10 [true, true, true, true, true, true, true, true, true, true, true, false, false, false, false, false].toArray rfl (by kernel_rfl) (by kernel_rfl) (by kernel_rfl) (fun _ _ _ _ h => h) rfl rfl rfl rfl hm (hS.sub (.cons (Mem.le.refl _) (.cons (Mem.le.refl _) (.cons (Mem.le.refl _) (.cons (Mem.le.refl _) (Sub.nil _)))))) (v := .int .i64 t_41) (fun w hS => r_load hm rfl (el_one (o := 0) (fun j c h => Mem.cell_le (hA.trans hS.old) (hc_45 j c h)) Try.underlying3 rfl rfl)) ?_
      clear hm a; intro a hm
      refine h_take 11 [true, true, true, true, true, true, true, true, true, true, true, true, false, false, false, false].toArray rfl (by kernel_rfl) (by kernel_rfl) (by kernel_rfl) (fun _ _ _ _ h => h) rfl rfl rfl rfl hm (hS.sub (.cons (Mem.le.refl _) (.cons (Mem.le.refl _) (.cons (Mem.le.refl _) (.cons (Mem.le.refl _) (Sub.nil _)))))) (v := .int .i64 (shr .i64 t_41 16)) (fun w hS => r_shift (r := shr .i64 t_41 16) hm rfl rfl (by decide) (.inr ⟨rfl, rfl⟩)) ?_
      clear hm a; intro a hm
      refine h_take 12 [true, true, true, true, true, true, true, true, true, true, true, true, true, false, false, false].toArray rfl (by kernel_rfl) (by kernel_rfl) (by kernel_rfl) (fun _ _ _ _ h => h) rfl rfl rfl rfl hm (hS.sub (.cons (Mem.le.refl _) (.cons (Mem.le.refl _) (.cons (Mem.le.refl _) (.cons (Mem.le.refl _) (Sub.nil _)))))) (v := .int .i64 (band .i64 (shr .i64 t_41 16) 255)) (fun w hS => r_bits (i := shr .i64 t_41 16) (j := 255) (r := band .i64 (shr .i64 t_41 16) 255) hm rfl rfl (.inl ⟨rfl, rfl⟩)) ?_
      clear hm a; intro a hm
      refine h_take 13 [true, true, true, true, true, true, true, true, true, true, true, true, true, true, false, false].toArray rfl (by kernel_rfl) (by kernel_rfl) (by kernel_rfl) (fun _ _ _ _ h => h) rfl rfl rfl rfl hm (hS.sub (.cons (Mem.le.refl _) (.cons (Mem.le.refl _) (.cons (Mem.le.refl _) (.cons (Mem.le.refl _) (Sub.nil _)))))) (v := .agg [.int .i64 (w64 (x_13 + 1)), .int .i64 (band .i64 t_36 65535), .int .i64 (band .i64 (shr .i64 t_41 16) 255)].toArray) (fun w hS => r_build hm ti28 pl28 rfl (.cons rfl (.cons rfl (.cons rfl .nil))) (cs := [.int .i64 (w64 (x_13 + 1)), .int .i64 (band .i64 t_36 65535), .int .i64 (band .i64 (shr .i64 t_41 16) 255)]) rfl) ?_
      clear hm a; intro a hm
      refine h_event 14 [true, true, true, true, true, true, true, true, true, true, true, true, true, true, true, false].toArray rfl (by kernel_rfl) rfl ?_
      refine v_alloc hm rfl ti28 hS ?_
      intro w_46 g_47 hS'
      clear hm a; intro a hm
      replace hS : Sep w0 w_46 [N_29, Mem.one g_2 (.cells ([v_17, v_21] : List Value).toArray 25 (0, 0)), M_15, M_19, Mem.one g_47 (.cells ([.int .i64 0, .int .i64 0, .int .i64 0] : List Value).toArray 28 (0, 0))] Z := hS'
      clear hS'
      refine wpList_nil ?_
      refine x_then_n ⟨(hS.sub (.cons (Mem.le.refl _) (.cons (Mem.le.refl _) (.cons (Mem.le.refl _) (.cons (Mem.le.refl _) (Sub.nil _)))))), ?_⟩
      refine h_event 15 [true, true, true, true, true, true, true, true, true, true, true, true, true, true, true, true].toArray rfl (by kernel_rfl) rfl ?_
      obtain ⟨w_48, hs', hS'⟩ := hS.store (P := Try.prog) (p := 4) (o := 0) (t := 28) (v := .agg [.int .i64 (w64 (x_13 + 1)), .int .i64 (band .i64 t_36 65535), .int .i64 (band .i64 (shr .i64 t_41 16) 255)].toArray) (vs := [.int .i64 (w64 (x_13 + 1)), .int .i64 (band .i64 t_36 65535), .int .i64 (band .i64 (shr .i64 t_41 16) 255)]) rfl ti28 rfl rfl rfl (by intro u hu; simp only [List.mem_cons, List.not_mem_nil, or_false] at hu; rcases hu with rfl | rfl | rfl <;> rfl)
      refine s_store hm rfl rfl hs' ?_
      replace hS : Sep w0 w_48 [N_29, Mem.one g_2 (.cells ([v_17, v_21] : List Value).toArray 25 (0, 0)), M_15, M_19, Mem.one g_47 (.cells ([.int .i64 (w64 (x_13 + 1)), .int .i64 (band .i64 t_36 65535), .int .i64 (band .i64 (shr .i64 t_41 16) 255)] : List Value).toArray 28 (0, 0))] Z := hS'
      clear hs' hS'
      refine wpList_nil ?_
      refine x_then_n ⟨(hS.sub (.cons (Mem.le.refl _) (.cons (Mem.le.refl _) (.cons (Mem.le.refl _) (.cons (Mem.le.refl _) (Sub.nil _)))))), ?_⟩
      refine h_done (by kernel_rfl) ?_
      replace hm : Fr 105 a [(0, p0_0), (2, .bool false), (3, .pointer (some ⟨g_2, 0, none⟩)), (4, .int .i64 x_13), (5, .pointer (some ⟨g_47, 0, none⟩))] := hm.keep [0, 2, 3, 4, 5]
      refine x_then_n (hKJ_34 _ _ ?_)
      refine wp_seq ?_
      refine wp_region_lit ?_
      refine s_load hm rfl rfl (hS.load_agg (p := 1) (us := [v_17, v_21]) rfl Try.underlying25 rfl ti25 rfl rfl) ?_
      clear hm a; intro a hm
      refine s_load hm rfl rfl (hS.load_agg (p := 4) (us := [.int .i64 (w64 (x_13 + 1)), .int .i64 (band .i64 t_36 65535), .int .i64 (band .i64 (shr .i64 t_41 16) 255)]) rfl Try.underlying28 rfl ti28 rfl rfl) ?_
      clear hm a; intro a hm
      obtain ⟨t_49, et_49, H⟩ := Option.bind_eq_some_iff.1 H
      refine s_call hm rfl Try.call11 rfl (disk_Write.calls K x_14 _ _ (⟨w64 (x_13 + 1), band .i64 t_36 65535, band .i64 (shr .i64 t_41 16) 255⟩ : api_Record) (-1) t_49 w0 _ _ _ (Mem.le.refl _) (hS.enter [] (by decide)) (ho_18.rd (hS.own_zed [] 1 (by decide)) (Mem.no_le _)) (ho_22.rd (hS.own_zed [] 2 (by decide)) (Mem.no_le _)) et_49) ?_
      rintro _ w_50 ⟨v_53, v_57, N_51, M_55, M_59, rfl, hS', hr_54, hr_58⟩
      clear hm a; intro a hm
      obtain ⟨N_52, hS'', le_52, ln_52⟩ := hS.call [] (by decide) rfl (l' := []) (ow := [M_55, M_59]) rfl hS'
      replace hS : Sep w0 w_50 [N_52, Mem.one g_2 (.cells ([v_17, v_21] : List Value).toArray 25 (0, 0)), M_15, M_19, Mem.one g_47 (.cells ([.int .i64 (w64 (x_13 + 1)), .int .i64 (band .i64 t_36 65535), .int .i64 (band .i64 (shr .i64 t_41 16) 255)] : List Value).toArray 28 (0, 0)), M_55, M_59] Z := hS''
      clear hS' hS''
      refine v_alloc hm rfl ti25 hS ?_
      intro w_61 g_62 hS'
      clear hm a; intro a hm
      replace hS : Sep w0 w_61 [N_52, Mem.one g_2 (.cells ([v_17, v_21] : List Value).toArray 25 (0, 0)), M_15, M_19, Mem.one g_47 (.cells ([.int .i64 (w64 (x_13 + 1)), .int .i64 (band .i64 t_36 65535), .int .i64 (band .i64 (shr .i64 t_41 16) 255)] : List Value).toArray 28 (0, 0)), M_55, M_59, Mem.one g_62 (.cells ([.slice none 0 0, .slice none 0 0] : List Value).toArray 25 (0, 0))] Z := hS'
      clear hS'
      obtain ⟨w_63, hs', hS'⟩ := hS.store (P := Try.prog) (p := 7) (o := 0) (t := 25) (v := .agg [v_53, v_57].toArray) (vs := [v_53, v_57]) rfl ti25 rfl rfl rfl (by intro u hu; simp only [List.mem_cons, List.not_mem_nil, or_false] at hu; rcases hu with rfl | rfl <;> first | rfl | exact hr_54.one | exact hr_58.one)
      refine s_store hm rfl rfl hs' ?_
      replace hS : Sep w0 w_63 [N_52, Mem.one g_2 (.cells ([v_17, v_21] : List Value).toArray 25 (0, 0)), M_15, M_19, Mem.one g_47 (.cells ([.int .i64 (w64 (x_13 + 1)), .int .i64 (band .i64 t_36 65535), .int .i64 (band .i64 (shr .i64 t_41 16) 255)] : List Value).toArray 28 (0, 0)), M_55, M_59, Mem.one g_62 (.cells ([v_53, v_57] : List Value).toArray 25 (0, 0))] Z := hS'
      clear hs' hS'
      refine wpList_nil ?_
      replace hm : Fr 105 a [(0, p0_0), (2, .bool false), (3, .pointer (some ⟨g_2, 0, none⟩)), (4, .int .i64 x_13), (5, .pointer (some ⟨g_47, 0, none⟩)), (6, .pointer (some ⟨g_62, 0, none⟩))] := hm.keep [0, 2, 3, 4, 5, 6]
      refine x_then_n ?_
      refine c_seq fun KJ_64 hKJ_64 => ?_
      refine h_begin (S := fun w => Sep w0 w [N_52, Mem.one g_2 (.cells ([v_17, v_21] : List Value).toArray 25 (0, 0)), M_15, M_19, Mem.one g_47 (.cells ([.int .i64 (w64 (x_13 + 1)), .int .i64 (band .i64 t_36 65535), .int .i64 (band .i64 (shr .i64 t_41 16) 255)] : List Value).toArray 28 (0, 0)), M_55, M_59, Mem.one g_62 (.cells ([v_53, v_57] : List Value).toArray 25 (0, 0))] Z) 16 (by kernel_rfl) rfl [false, false, false, false, false, false, false, false, false, false, false, false, false, false, false, false].toArray rfl hS fun w_65 hS => ?_
      replace hS : Sep w0 w_65 [N_52, Mem.one g_2 (.cells ([v_17, v_21] : List Value).toArray 25 (0, 0)), M_15, M_19, Mem.one g_47 (.cells ([.int .i64 (w64 (x_13 + 1)), .int .i64 (band .i64 t_36 65535), .int .i64 (band .i64 (shr .i64 t_41 16) 255)] : List Value).toArray 28 (0, 0)), M_55, M_59, Mem.one g_62 (.cells ([v_53, v_57] : List Value).toArray 25 (0, 0))] Z := hS
      refine h_take 0 [true, false, false, false, false, false, false, false, false, false, false, false, false, false, false, false].toArray rfl (by kernel_rfl) (by kernel_rfl) (by kernel_rfl) (fun _ _ _ _ h => h) rfl rfl rfl rfl hm (hS.sub (.cons (Mem.le.refl _) (.cons (Mem.le.refl _) (.cons (Mem.le.refl _) (.cons (Mem.le.refl _) (.cons (Mem.le.refl _) (.cons (Mem.le.refl _) (.cons (Mem.le.refl _) (.cons (Mem.le.refl _) (Sub.nil _)))))))))) (v := .pointer (some ⟨g_62, 0, none⟩)) (fun w hS => r_fieldAddr hm Try.underlying25 rfl ti23 rfl rfl rfl) ?_
      clear hm a; intro a hm
      refine h_take 1 [true, true, false, false, false, false, false, false, false, false, false, false, false, false, false, false].toArray rfl (by kernel_rfl) (by kernel_rfl) (by kernel_rfl) (fun _ _ _ _ h => h) rfl rfl rfl rfl hm (hS.sub (.cons (Mem.le.refl _) (.cons (Mem.le.refl _) (.cons (Mem.le.refl _) (.cons (Mem.le.refl _) (.cons (Mem.le.refl _) (.cons (Mem.le.refl _) (.cons (Mem.le.refl _) (.cons (Mem.le.refl _) (Sub.nil _)))))))))) (v := v_53) (fun w hS => r_load hm rfl (hS.load_one (p := 7) rfl Try.underlying23 rfl rfl)) ?_
      clear hm a; intro a hm
      refine h_take 2 [true, true, true, false, false, false, false, false, false, false, false, false, false, false, false, false].toArray rfl (by kernel_rfl) (by kernel_rfl) (by kernel_rfl) (fun _ _ _ _ h => h) rfl rfl rfl rfl hm (hS.sub (.cons (Mem.le.refl _) (.cons (Mem.le.refl _) (.cons (Mem.le.refl _) (.cons (Mem.le.refl _) (.cons (Mem.le.refl _) (.cons (Mem.le.refl _) (.cons (Mem.le.refl _) (.cons (Mem.le.refl _) (Sub.nil _)))))))))) (v := .string ⟨t_49.A.toArray⟩) (fun w hS => r_b2s hm Try.underlying23 Try.underlying5 Try.underlying9 rfl (hr_54.rd (J := hp w) (hS.own 5) (Mem.no_le _)) (Mem.le.refl _)) ?_
      clear hm a; intro a hm
      refine h_take 3 [true, true, true, true, false, false, false, false, false, false, false, false, false, false, false, false].toArray rfl (by kernel_rfl) (by kernel_rfl) (by kernel_rfl) (fun _ _ _ _ h => h) rfl rfl rfl rfl hm (hS.sub (.cons (Mem.le.refl _) (.cons (Mem.le.refl _) (.cons (Mem.le.refl _) (.cons (Mem.le.refl _) (.cons (Mem.le.refl _) (.cons (Mem.le.refl _) (.cons (Mem.le.refl _) (.cons (Mem.le.refl _) (Sub.nil _)))))))))) (v := .pointer (some ⟨g_2, 0, none⟩)) (fun w hS => r_fieldAddr hm Try.underlying25 rfl ti23 rfl rfl rfl) ?_
      clear hm a; intro a hm
      refine h_take 4 [true, true, true, true, true, false, false, false, false, false, false, false, false, false, false, false].toArray rfl (by kernel_rfl) (by kernel_rfl) (by kernel_rfl) (fun _ _ _ _ h => h) rfl rfl rfl rfl hm (hS.sub (.cons (Mem.le.refl _) (.cons (Mem.le.refl _) (.cons (Mem.le.refl _) (.cons (Mem.le.refl _) (.cons (Mem.le.refl _) (.cons (Mem.le.refl _) (.cons (Mem.le.refl _) (.cons (Mem.le.refl _) (Sub.nil _)))))))))) (v := v_17) (fun w hS => r_load hm rfl (hS.load_one (p := 1) rfl Try.underlying23 rfl rfl)) ?_
      clear hm a; intro a hm
      refine h_take 5 [true, true, true, true, true, true, false, false, false, false, false, false, false, false, false, false].toArray rfl (by kernel_rfl) (by kernel_rfl) (by kernel_rfl) (fun _ _ _ _ h => h) rfl rfl rfl rfl hm (hS.sub (.cons (Mem.le.refl _) (.cons (Mem.le.refl _) (.cons (Mem.le.refl _) (.cons (Mem.le.refl _) (.cons (Mem.le.refl _) (.cons (Mem.le.refl _) (.cons (Mem.le.refl _) (.cons (Mem.le.refl _) (Sub.nil _)))))))))) (v := .string ⟨x_14.A.toArray⟩) (fun w hS => r_b2s hm Try.underlying23 Try.underlying5 Try.underlying9 rfl (ho_18.rd (J := hp w) (hS.own 2) (Mem.no_le _)) (Mem.le.refl _)) ?_
      clear hm a; intro a hm
      refine h_take 6 [true, true, true, true, true, true, true, false, false, false, false, false, false, false, false, false].toArray rfl (by kernel_rfl) (by kernel_rfl) (by kernel_rfl) (fun _ _ _ _ h => h) rfl rfl rfl rfl hm (hS.sub (.cons (Mem.le.refl _) (.cons (Mem.le.refl _) (.cons (Mem.le.refl _) (.cons (Mem.le.refl _) (.cons (Mem.le.refl _) (.cons (Mem.le.refl _) (.cons (Mem.le.refl _) (.cons (Mem.le.refl _) (Sub.nil _)))))))))) (v := .bool (t_49.A == x_14.A)) (fun w hS => r_strEq (b := (t_49.A == x_14.A)) hm rfl rfl (.inl ⟨rfl, rfl⟩)) ?_
      clear hm a; intro a hm
      refine h_take 7 [true, true, true, true, true, true, true, true, false, false, false, false, false, false, false, false].toArray rfl (by kernel_rfl) (by kernel_rfl) (by kernel_rfl) (fun _ _ _ _ h => h) rfl rfl rfl rfl hm (hS.sub (.cons (Mem.le.refl _) (.cons (Mem.le.refl _) (.cons (Mem.le.refl _) (.cons (Mem.le.refl _) (.cons (Mem.le.refl _) (.cons (Mem.le.refl _) (.cons (Mem.le.refl _) (.cons (Mem.le.refl _) (Sub.nil _)))))))))) (v := .pointer (some ⟨g_62, 1, none⟩)) (fun w hS => r_fieldAddr hm Try.underlying25 rfl ti23 rfl rfl rfl) ?_
      clear hm a; intro a hm
      refine h_take 8 [true, true, true, true, true, true, true, true, true, false, false, false, false, false, false, false].toArray rfl (by kernel_rfl) (by kernel_rfl) (by kernel_rfl) (fun _ _ _ _ h => h) rfl rfl rfl rfl hm (hS.sub (.cons (Mem.le.refl _) (.cons (Mem.le.refl _) (.cons (Mem.le.refl _) (.cons (Mem.le.refl _) (.cons (Mem.le.refl _) (.cons (Mem.le.refl _) (.cons (Mem.le.refl _) (.cons (Mem.le.refl _) (Sub.nil _)))))))))) (v := v_57) (fun w hS => r_load hm rfl (hS.load_one (p := 7) rfl Try.underlying23 rfl rfl)) ?_
      clear hm a; intro a hm
      refine h_take 9 [true, true, true, true, true, true, true, true, true, true, false, false, false, false, false, false].toArray rfl (by kernel_rfl) (by kernel_rfl) (by kernel_rfl) (fun _ _ _ _ h => h) rfl rfl rfl rfl hm (hS.sub (.cons (Mem.le.refl _) (.cons (Mem.le.refl _) (.cons (Mem.le.refl _) (.cons (Mem.le.refl _) (.cons (Mem.le.refl _) (.cons (Mem.le.refl _) (.cons (Mem.le.refl _) (.cons (Mem.le.refl _) (Sub.nil _)))))))))) (v := .string ⟨t_49.B.toArray⟩) (fun w hS => r_b2s hm Try.underlying23 Try.underlying5 Try.underlying9 rfl (hr_58.rd (J := hp w) (hS.own 6) (Mem.no_le _)) (Mem.le.refl _)) ?_
      clear hm a; intro a hm
      refine h_take 10 [true, true, true, true, true, true, true, true, true, true, true, false, false, false, false, false].toArray rfl (by kernel_rfl) (by kernel_rfl) (by kernel_rfl) (fun _ _ _ _ h => h) rfl rfl rfl rfl hm (hS.sub (.cons (Mem.le.refl _) (.cons (Mem.le.refl _) (.cons (Mem.le.refl _) (.cons (Mem.le.refl _) (.cons (Mem.le.refl _) (.cons (Mem.le.refl _) (.cons (Mem.le.refl _) (.cons (Mem.le.refl _) (Sub.nil _)))))))))) (v := .pointer (some ⟨g_2, 1, none⟩)) (fun w hS => r_fieldAddr hm Try.underlying25 rfl ti23 rfl rfl rfl) ?_
      clear hm a; intro a hm
      refine h_take 11 [true, true, true, true, true, true, true, true, true, true, true, true, false, false, false, false].toArray rfl (by kernel_rfl) (by kernel_rfl) (by kernel_rfl) (fun _ _ _ _ h => h) rfl rfl rfl rfl hm (hS.sub (.cons (Mem.le.refl _) (.cons (Mem.le.refl _) (.cons (Mem.le.refl _) (.cons (Mem.le.refl _) (.cons (Mem.le.refl _) (.cons (Mem.le.refl _) (.cons (Mem.le.refl _) (.cons (Mem.le.refl _) (Sub.nil _)))))))))) (v := v_21) (fun w hS => r_load hm rfl (hS.load_one (p := 1) rfl Try.underlying23 rfl rfl)) ?_
      clear hm a; intro a hm
      refine h_take 12 [true, true, true, true, true, true, true, true, true, true, true, true, true, false, false, false].toArray rfl (by kernel_rfl) (by kernel_rfl) (by kernel_rfl) (fun _ _ _ _ h => h) rfl rfl rfl rfl hm (hS.sub (.cons (Mem.le.refl _) (.cons (Mem.le.refl _) (.cons (Mem.le.refl _) (.cons (Mem.le.refl _) (.cons (Mem.le.refl _) (.cons (Mem.le.refl _) (.cons (Mem.le.refl _) (.cons (Mem.le.refl _) (Sub.nil _)))))))))) (v := .string ⟨x_14.B.toArray⟩) (fun w hS => r_b2s hm Try.underlying23 Try.underlying5 Try.underlying9 rfl (ho_22.rd (J := hp w) (hS.own 3) (Mem.no_le _)) (Mem.le.refl _)) ?_
      clear hm a; intro a hm
      refine h_take 13 [true, true, true, true, true, true, true, true, true, true, true, true, true, true, false, false].toArray rfl (by kernel_rfl) (by kernel_rfl) (by kernel_rfl) (fun _ _ _ _ h => h) rfl rfl rfl rfl hm (hS.sub (.cons (Mem.le.refl _) (.cons (Mem.le.refl _) (.cons (Mem.le.refl _) (.cons (Mem.le.refl _) (.cons (Mem.le.refl _) (.cons (Mem.le.refl _) (.cons (Mem.le.refl _) (.cons (Mem.le.refl _) (Sub.nil _)))))))))) (v := .bool (t_49.B == x_14.B)) (fun w hS => r_strEq (b := (t_49.B == x_14.B)) hm rfl rfl (.inl ⟨rfl, rfl⟩)) ?_
      clear hm a; intro a hm
      refine h_take 14 [true, true, true, true, true, true, true, true, true, true, true, true, true, true, true, false].toArray rfl (by kernel_rfl) (by kernel_rfl) (by kernel_rfl) (fun _ _ _ _ h => h) rfl rfl rfl rfl hm (hS.sub (.cons (Mem.le.refl _) (.cons (Mem.le.refl _) (.cons (Mem.le.refl _) (.cons (Mem.le.refl _) (.cons (Mem.le.refl _) (.cons (Mem.le.refl _) (.cons (Mem.le.refl _) (.cons (Mem.le.refl _) (Sub.nil _)))))))))) (v := .bool (t_49.A == x_14.A)) (fun w hS => r_assign hm rfl) ?_
      clear hm a; intro a hm
      refine h_take 15 [true, true, true, true, true, true, true, true, true, true, true, true, true, true, true, true].toArray rfl (by kernel_rfl) (by kernel_rfl) (by kernel_rfl) (fun _ _ _ _ h => h) rfl rfl rfl rfl hm (hS.sub (.cons (Mem.le.refl _) (.cons (Mem.le.refl _) (.cons (Mem.le.refl _) (.cons (Mem.le.refl _) (.cons (Mem.le.refl _) (.cons (Mem.le.refl _) (.cons (Mem.le.refl _) (.cons (Mem.le.refl _) (Sub.nil _)))))))))) (v := .bool (t_49.B == x_14.B)) (fun w hS => r_assign hm rfl) ?_
      clear hm a; intro a hm
      refine h_done (by kernel_rfl) ?_
      replace hm : Fr 105 a [(0, p0_0), (2, .bool false), (3, .pointer (some ⟨g_2, 0, none⟩)), (4, .int .i64 x_13), (5, .pointer (some ⟨g_47, 0, none⟩)), (6, .pointer (some ⟨g_62, 0, none⟩)), (7, .bool (t_49.A == x_14.A)), (8, .bool (t_49.B == x_14.B))] := hm.keep [0, 2, 3, 4, 5, 6, 7, 8]
      refine x_then_n (hKJ_64 _ _ ?_)
      refine wp_seq ?_
      refine wp_region_lit ?_
      refine s_load hm rfl rfl (hS.load_agg (p := 7) (us := [v_53, v_57]) rfl Try.underlying25 rfl ti25 rfl rfl) ?_
      clear hm a; intro a hm
      obtain ⟨t_66, et_66, H⟩ := Option.bind_eq_some_iff.1 H
      refine s_call hm rfl Try.call12 rfl (disk_Read.calls K t_49 _ _ t_66 w0 _ _ _ (Mem.le.refl _) (hS.enter [] (by decide)) (hr_54.rd (hS.own_zed [] 4 (by decide)) (Mem.no_le _)) (hr_58.rd (hS.own_zed [] 5 (by decide)) (Mem.no_le _)) et_66) ?_
      rintro _ w_67 ⟨N_68, rfl, hS'⟩
      clear hm a; intro a hm
      obtain ⟨N_69, hS'', le_69, ln_69⟩ := hS.call [] (by decide) rfl (l' := []) (ow := []) rfl hS'
      replace hS : Sep w0 w_67 [N_69, Mem.one g_2 (.cells ([v_17, v_21] : List Value).toArray 25 (0, 0)), M_15, M_19, Mem.one g_47 (.cells ([.int .i64 (w64 (x_13 + 1)), .int .i64 (band .i64 t_36 65535), .int .i64 (band .i64 (shr .i64 t_41 16) 255)] : List Value).toArray 28 (0, 0)), M_55, M_59, Mem.one g_62 (.cells ([v_53, v_57] : List Value).toArray 25 (0, 0))] Z := hS''
      clear hS' hS''
      refine s_move hm rfl rfl ?_
      clear hm a; intro a hm
      refine s_extract hm rfl rfl rfl ?_
      clear hm a; intro a hm
      refine s_extract hm rfl rfl rfl ?_
      clear hm a; intro a hm
      refine v_alloc hm rfl ti28 hS ?_
      intro w_70 g_71 hS'
      clear hm a; intro a hm
      replace hS : Sep w0 w_70 [N_69, Mem.one g_2 (.cells ([v_17, v_21] : List Value).toArray 25 (0, 0)), M_15, M_19, Mem.one g_47 (.cells ([.int .i64 (w64 (x_13 + 1)), .int .i64 (band .i64 t_36 65535), .int .i64 (band .i64 (shr .i64 t_41 16) 255)] : List Value).toArray 28 (0, 0)), M_55, M_59, Mem.one g_62 (.cells ([v_53, v_57] : List Value).toArray 25 (0, 0)), Mem.one g_71 (.cells ([.int .i64 0, .int .i64 0, .int .i64 0] : List Value).toArray 28 (0, 0))] Z := hS'
      clear hS'
      obtain ⟨w_72, hs', hS'⟩ := hS.store (P := Try.prog) (p := 8) (o := 0) (t := 28) (v := .agg [.int .i64 t_66.1.Inc, .int .i64 t_66.1.Prom, .int .i64 t_66.1.Inst].toArray) (vs := [.int .i64 t_66.1.Inc, .int .i64 t_66.1.Prom, .int .i64 t_66.1.Inst]) rfl ti28 rfl rfl rfl (by intro u hu; simp only [List.mem_cons, List.not_mem_nil, or_false] at hu; rcases hu with rfl | rfl | rfl <;> rfl)
      refine s_store hm rfl rfl hs' ?_
      replace hS : Sep w0 w_72 [N_69, Mem.one g_2 (.cells ([v_17, v_21] : List Value).toArray 25 (0, 0)), M_15, M_19, Mem.one g_47 (.cells ([.int .i64 (w64 (x_13 + 1)), .int .i64 (band .i64 t_36 65535), .int .i64 (band .i64 (shr .i64 t_41 16) 255)] : List Value).toArray 28 (0, 0)), M_55, M_59, Mem.one g_62 (.cells ([v_53, v_57] : List Value).toArray 25 (0, 0)), Mem.one g_71 (.cells ([.int .i64 t_66.1.Inc, .int .i64 t_66.1.Prom, .int .i64 t_66.1.Inst] : List Value).toArray 28 (0, 0))] Z := hS'
      clear hs' hS'
      refine s_assign hm rfl rfl ?_
      clear hm a; intro a hm
      refine wpList_nil ?_
      replace hm : Fr 105 a [(0, p0_0), (2, .bool false), (3, .pointer (some ⟨g_2, 0, none⟩)), (4, .int .i64 x_13), (5, .pointer (some ⟨g_47, 0, none⟩)), (6, .pointer (some ⟨g_62, 0, none⟩)), (7, .bool (t_49.A == x_14.A)), (8, .bool (t_49.B == x_14.B)), (9, .pointer (some ⟨g_71, 0, none⟩)), (10, .bool t_66.2)] := hm.keep [0, 2, 3, 4, 5, 6, 7, 8, 9, 10]
      refine x_then_n ?_
      refine c_seq fun KJ_73 hKJ_73 => ?_
      refine c_seq fun KJ_74 hKJ_74 => ?_
      have hJ_j_78 : ∀ (x_76 : Bool), hocketlaw13_DiskTurns.J3 K x_14 x_13 t_36 t_41 (hocketlaw13_DiskTurns.L1 K x0 (fun v => hocketlaw13_DiskTurns.J1 K) k_23) t_49 x_76 = some r → ∀ (a : Act) (w_77 : World), (∃ (N_75 : Mem), Fr 105 a [(0, p0_0), (2, .bool false), (3, .pointer (some ⟨g_2, 0, none⟩)), (4, .int .i64 x_13), (5, .pointer (some ⟨g_47, 0, none⟩)), (6, .pointer (some ⟨g_62, 0, none⟩)), (81, .bool x_76)] ∧ Sep w0 w_77 [N_75, Mem.one g_2 (.cells ([v_17, v_21] : List Value).toArray 25 (0, 0)), M_15, M_19, Mem.one g_47 (.cells ([.int .i64 (w64 (x_13 + 1)), .int .i64 (band .i64 t_36 65535), .int .i64 (band .i64 (shr .i64 t_41 16) 255)] : List Value).toArray 28 (0, 0)), M_55, M_59, Mem.one g_62 (.cells ([v_53, v_57] : List Value).toArray 25 (0, 0)), Mem.no] Z ∧ N_69.le N_75) → KJ_74 a w_77 := by
        clear H hm hS a
        rintro x_76 H a w_77 ⟨N_75, hm, hS, le_75⟩
        unfold hocketlaw13_DiskTurns.J3 at H
        refine hKJ_74 _ _ ?_
        by_cases hc_79 : x_76 = true
        · rw [if_pos hc_79] at H
          cases H
        · rw [if_neg hc_79] at H
          refine c_cond_f hm rfl (Bool.eq_false_iff.2 hc_79) ?_
          refine wp_skip ?_
          refine x_then_n (hKJ_73 _ _ ?_)
          refine wp_seq ?_
          refine wp_region_lit ?_
          refine s_load hm rfl rfl (hS.load_agg (p := 1) (us := [v_17, v_21]) rfl Try.underlying25 rfl ti25 rfl rfl) ?_
          clear hm a; intro a hm
          refine s_load hm rfl rfl (hS.load_agg (p := 4) (us := [.int .i64 (w64 (x_13 + 1)), .int .i64 (band .i64 t_36 65535), .int .i64 (band .i64 (shr .i64 t_41 16) 255)]) rfl Try.underlying28 rfl ti28 rfl rfl) ?_
          clear hm a; intro a hm
          obtain ⟨t_80, et_80, H⟩ := Option.bind_eq_some_iff.1 H
          refine s_call hm rfl Try.call11 rfl (disk_Write.calls K x_14 _ _ (⟨w64 (x_13 + 1), band .i64 t_36 65535, band .i64 (shr .i64 t_41 16) 255⟩ : api_Record) 4 t_80 w0 _ _ _ (Mem.le.refl _) (hS.enter [] (by decide)) (ho_18.rd (hS.own_zed [] 1 (by decide)) (Mem.no_le _)) (ho_22.rd (hS.own_zed [] 2 (by decide)) (Mem.no_le _)) et_80) ?_
          rintro _ w_81 ⟨v_84, v_88, N_82, M_86, M_90, rfl, hS', hr_85, hr_89⟩
          clear hm a; intro a hm
          obtain ⟨N_83, hS'', le_83, ln_83⟩ := hS.call [] (by decide) rfl (l' := []) (ow := [M_86, M_90]) rfl hS'
          replace hS : Sep w0 w_81 [N_83, Mem.one g_2 (.cells ([v_17, v_21] : List Value).toArray 25 (0, 0)), M_15, M_19, Mem.one g_47 (.cells ([.int .i64 (w64 (x_13 + 1)), .int .i64 (band .i64 t_36 65535), .int .i64 (band .i64 (shr .i64 t_41 16) 255)] : List Value).toArray 28 (0, 0)), M_55, M_59, Mem.one g_62 (.cells ([v_53, v_57] : List Value).toArray 25 (0, 0)), Mem.no, M_86, M_90] Z := hS''
          clear hS' hS''
          refine v_alloc hm rfl ti25 hS ?_
          intro w_92 g_93 hS'
          clear hm a; intro a hm
          replace hS : Sep w0 w_92 [N_83, Mem.one g_2 (.cells ([v_17, v_21] : List Value).toArray 25 (0, 0)), M_15, M_19, Mem.one g_47 (.cells ([.int .i64 (w64 (x_13 + 1)), .int .i64 (band .i64 t_36 65535), .int .i64 (band .i64 (shr .i64 t_41 16) 255)] : List Value).toArray 28 (0, 0)), M_55, M_59, Mem.one g_62 (.cells ([v_53, v_57] : List Value).toArray 25 (0, 0)), Mem.no, M_86, M_90, Mem.one g_93 (.cells ([.slice none 0 0, .slice none 0 0] : List Value).toArray 25 (0, 0))] Z := hS'
          clear hS'
          obtain ⟨w_94, hs', hS'⟩ := hS.store (P := Try.prog) (p := 11) (o := 0) (t := 25) (v := .agg [v_84, v_88].toArray) (vs := [v_84, v_88]) rfl ti25 rfl rfl rfl (by intro u hu; simp only [List.mem_cons, List.not_mem_nil, or_false] at hu; rcases hu with rfl | rfl <;> first | rfl | exact hr_85.one | exact hr_89.one)
          refine s_store hm rfl rfl hs' ?_
          replace hS : Sep w0 w_94 [N_83, Mem.one g_2 (.cells ([v_17, v_21] : List Value).toArray 25 (0, 0)), M_15, M_19, Mem.one g_47 (.cells ([.int .i64 (w64 (x_13 + 1)), .int .i64 (band .i64 t_36 65535), .int .i64 (band .i64 (shr .i64 t_41 16) 255)] : List Value).toArray 28 (0, 0)), M_55, M_59, Mem.one g_62 (.cells ([v_53, v_57] : List Value).toArray 25 (0, 0)), Mem.no, M_86, M_90, Mem.one g_93 (.cells ([v_84, v_88] : List Value).toArray 25 (0, 0))] Z := hS'
          clear hs' hS'
          refine wpList_nil ?_
          replace hm : Fr 105 a [(0, p0_0), (2, .bool false), (3, .pointer (some ⟨g_2, 0, none⟩)), (4, .int .i64 x_13), (6, .pointer (some ⟨g_62, 0, none⟩)), (11, .pointer (some ⟨g_93, 0, none⟩))] := hm.keep [0, 2, 3, 4, 6, 11]
          refine x_then_n ?_
          refine wp_seq ?_
          refine wp_region_lit ?_
          refine s_load hm rfl rfl (hS.load_agg (p := 11) (us := [v_84, v_88]) rfl Try.underlying25 rfl ti25 rfl rfl) ?_
          clear hm a; intro a hm
          obtain ⟨t_95, et_95, H⟩ := Option.bind_eq_some_iff.1 H
          refine s_call hm rfl Try.call12 rfl (disk_Read.calls K t_80 _ _ t_95 w0 _ _ _ (Mem.le.refl _) (hS.enter [] (by decide)) (hr_85.rd (hS.own_zed [] 8 (by decide)) (Mem.no_le _)) (hr_89.rd (hS.own_zed [] 9 (by decide)) (Mem.no_le _)) et_95) ?_
          rintro _ w_96 ⟨N_97, rfl, hS'⟩
          clear hm a; intro a hm
          obtain ⟨N_98, hS'', le_98, ln_98⟩ := hS.call [] (by decide) rfl (l' := []) (ow := []) rfl hS'
          replace hS : Sep w0 w_96 [N_98, Mem.one g_2 (.cells ([v_17, v_21] : List Value).toArray 25 (0, 0)), M_15, M_19, Mem.one g_47 (.cells ([.int .i64 (w64 (x_13 + 1)), .int .i64 (band .i64 t_36 65535), .int .i64 (band .i64 (shr .i64 t_41 16) 255)] : List Value).toArray 28 (0, 0)), M_55, M_59, Mem.one g_62 (.cells ([v_53, v_57] : List Value).toArray 25 (0, 0)), Mem.no, M_86, M_90, Mem.one g_93 (.cells ([v_84, v_88] : List Value).toArray 25 (0, 0))] Z := hS''
          clear hS' hS''
          refine s_move hm rfl rfl ?_
          clear hm a; intro a hm
          refine s_extract hm rfl rfl rfl ?_
          clear hm a; intro a hm
          refine s_extract hm rfl rfl rfl ?_
          clear hm a; intro a hm
          refine v_alloc hm rfl ti28 hS ?_
          intro w_99 g_100 hS'
          clear hm a; intro a hm
          replace hS : Sep w0 w_99 [N_98, Mem.one g_2 (.cells ([v_17, v_21] : List Value).toArray 25 (0, 0)), M_15, M_19, Mem.one g_47 (.cells ([.int .i64 (w64 (x_13 + 1)), .int .i64 (band .i64 t_36 65535), .int .i64 (band .i64 (shr .i64 t_41 16) 255)] : List Value).toArray 28 (0, 0)), M_55, M_59, Mem.one g_62 (.cells ([v_53, v_57] : List Value).toArray 25 (0, 0)), Mem.no, M_86, M_90, Mem.one g_93 (.cells ([v_84, v_88] : List Value).toArray 25 (0, 0)), Mem.one g_100 (.cells ([.int .i64 0, .int .i64 0, .int .i64 0] : List Value).toArray 28 (0, 0))] Z := hS'
          clear hS'
          obtain ⟨w_101, hs', hS'⟩ := hS.store (P := Try.prog) (p := 12) (o := 0) (t := 28) (v := .agg [.int .i64 t_95.1.Inc, .int .i64 t_95.1.Prom, .int .i64 t_95.1.Inst].toArray) (vs := [.int .i64 t_95.1.Inc, .int .i64 t_95.1.Prom, .int .i64 t_95.1.Inst]) rfl ti28 rfl rfl rfl (by intro u hu; simp only [List.mem_cons, List.not_mem_nil, or_false] at hu; rcases hu with rfl | rfl | rfl <;> rfl)
          refine s_store hm rfl rfl hs' ?_
          replace hS : Sep w0 w_101 [N_98, Mem.one g_2 (.cells ([v_17, v_21] : List Value).toArray 25 (0, 0)), M_15, M_19, Mem.one g_47 (.cells ([.int .i64 (w64 (x_13 + 1)), .int .i64 (band .i64 t_36 65535), .int .i64 (band .i64 (shr .i64 t_41 16) 255)] : List Value).toArray 28 (0, 0)), M_55, M_59, Mem.one g_62 (.cells ([v_53, v_57] : List Value).toArray 25 (0, 0)), Mem.no, M_86, M_90, Mem.one g_93 (.cells ([v_84, v_88] : List Value).toArray 25 (0, 0)), Mem.one g_100 (.cells ([.int .i64 t_95.1.Inc, .int .i64 t_95.1.Prom, .int .i64 t_95.1.Inst] : List Value).toArray 28 (0, 0))] Z := hS'
          clear hs' hS'
          refine s_assign hm rfl rfl ?_
          clear hm a; intro a hm
          refine wpList_nil ?_
          replace hm : Fr 105 a [(0, p0_0), (2, .bool false), (3, .pointer (some ⟨g_2, 0, none⟩)), (4, .int .i64 x_13), (6, .pointer (some ⟨g_62, 0, none⟩)), (12, .pointer (some ⟨g_100, 0, none⟩)), (13, .bool t_95.2)] := hm.keep [0, 2, 3, 4, 6, 12, 13]
          refine x_then_n ?_
          refine wp_seq ?_
          refine wp_region_lit ?_
          refine s_load hm rfl rfl (hS.load_agg (p := 1) (us := [v_17, v_21]) rfl Try.underlying25 rfl ti25 rfl rfl) ?_
          clear hm a; intro a hm
          obtain ⟨t_102, et_102, H⟩ := Option.bind_eq_some_iff.1 H
          refine s_call hm rfl Try.call12 rfl (disk_Read.calls K x_14 _ _ t_102 w0 _ _ _ (Mem.le.refl _) (hS.enter [] (by decide)) (ho_18.rd (hS.own_zed [] 1 (by decide)) (Mem.no_le _)) (ho_22.rd (hS.own_zed [] 2 (by decide)) (Mem.no_le _)) et_102) ?_
          rintro _ w_103 ⟨N_104, rfl, hS'⟩
          clear hm a; intro a hm
          obtain ⟨N_105, hS'', le_105, ln_105⟩ := hS.call [] (by decide) rfl (l' := []) (ow := []) rfl hS'
          replace hS : Sep w0 w_103 [N_105, Mem.one g_2 (.cells ([v_17, v_21] : List Value).toArray 25 (0, 0)), M_15, M_19, Mem.one g_47 (.cells ([.int .i64 (w64 (x_13 + 1)), .int .i64 (band .i64 t_36 65535), .int .i64 (band .i64 (shr .i64 t_41 16) 255)] : List Value).toArray 28 (0, 0)), M_55, M_59, Mem.one g_62 (.cells ([v_53, v_57] : List Value).toArray 25 (0, 0)), Mem.no, M_86, M_90, Mem.one g_93 (.cells ([v_84, v_88] : List Value).toArray 25 (0, 0)), Mem.one g_100 (.cells ([.int .i64 t_95.1.Inc, .int .i64 t_95.1.Prom, .int .i64 t_95.1.Inst] : List Value).toArray 28 (0, 0))] Z := hS''
          clear hS' hS''
          refine s_move hm rfl rfl ?_
          clear hm a; intro a hm
          refine s_extract hm rfl rfl rfl ?_
          clear hm a; intro a hm
          refine s_extract hm rfl rfl rfl ?_
          clear hm a; intro a hm
          refine v_alloc hm rfl ti28 hS ?_
          intro w_106 g_107 hS'
          clear hm a; intro a hm
          replace hS : Sep w0 w_106 [N_105, Mem.one g_2 (.cells ([v_17, v_21] : List Value).toArray 25 (0, 0)), M_15, M_19, Mem.one g_47 (.cells ([.int .i64 (w64 (x_13 + 1)), .int .i64 (band .i64 t_36 65535), .int .i64 (band .i64 (shr .i64 t_41 16) 255)] : List Value).toArray 28 (0, 0)), M_55, M_59, Mem.one g_62 (.cells ([v_53, v_57] : List Value).toArray 25 (0, 0)), Mem.no, M_86, M_90, Mem.one g_93 (.cells ([v_84, v_88] : List Value).toArray 25 (0, 0)), Mem.one g_100 (.cells ([.int .i64 t_95.1.Inc, .int .i64 t_95.1.Prom, .int .i64 t_95.1.Inst] : List Value).toArray 28 (0, 0)), Mem.one g_107 (.cells ([.int .i64 0, .int .i64 0, .int .i64 0] : List Value).toArray 28 (0, 0))] Z := hS'
          clear hS'
          obtain ⟨w_108, hs', hS'⟩ := hS.store (P := Try.prog) (p := 13) (o := 0) (t := 28) (v := .agg [.int .i64 t_102.1.Inc, .int .i64 t_102.1.Prom, .int .i64 t_102.1.Inst].toArray) (vs := [.int .i64 t_102.1.Inc, .int .i64 t_102.1.Prom, .int .i64 t_102.1.Inst]) rfl ti28 rfl rfl rfl (by intro u hu; simp only [List.mem_cons, List.not_mem_nil, or_false] at hu; rcases hu with rfl | rfl | rfl <;> rfl)
          refine s_store hm rfl rfl hs' ?_
          replace hS : Sep w0 w_108 [N_105, Mem.one g_2 (.cells ([v_17, v_21] : List Value).toArray 25 (0, 0)), M_15, M_19, Mem.one g_47 (.cells ([.int .i64 (w64 (x_13 + 1)), .int .i64 (band .i64 t_36 65535), .int .i64 (band .i64 (shr .i64 t_41 16) 255)] : List Value).toArray 28 (0, 0)), M_55, M_59, Mem.one g_62 (.cells ([v_53, v_57] : List Value).toArray 25 (0, 0)), Mem.no, M_86, M_90, Mem.one g_93 (.cells ([v_84, v_88] : List Value).toArray 25 (0, 0)), Mem.one g_100 (.cells ([.int .i64 t_95.1.Inc, .int .i64 t_95.1.Prom, .int .i64 t_95.1.Inst] : List Value).toArray 28 (0, 0)), Mem.one g_107 (.cells ([.int .i64 t_102.1.Inc, .int .i64 t_102.1.Prom, .int .i64 t_102.1.Inst] : List Value).toArray 28 (0, 0))] Z := hS'
          clear hs' hS'
          refine s_assign hm rfl rfl ?_
          clear hm a; intro a hm
          refine wpList_nil ?_
          replace hm : Fr 105 a [(0, p0_0), (2, .bool false), (3, .pointer (some ⟨g_2, 0, none⟩)), (4, .int .i64 x_13), (6, .pointer (some ⟨g_62, 0, none⟩)), (12, .pointer (some ⟨g_100, 0, none⟩)), (13, .bool t_95.2), (14, .pointer (some ⟨g_107, 0, none⟩)), (15, .bool t_102.2)] := hm.keep [0, 2, 3, 4, 6, 12, 13, 14, 15]
          refine x_then_n ?_
          refine c_seq fun KJ_109 hKJ_109 => ?_
          refine c_seq fun KJ_110 hKJ_110 => ?_
          have hJ_j_114 : ∀ (x_112 : Bool), hocketlaw13_DiskTurns.J4 K (hocketlaw13_DiskTurns.L1 K x0 (fun v => hocketlaw13_DiskTurns.J1 K) k_23) x_13 t_49 x_112 = some r → ∀ (a : Act) (w_113 : World), (∃ (N_111 : Mem), Fr 105 a [(0, p0_0), (2, .bool false), (3, .pointer (some ⟨g_2, 0, none⟩)), (4, .int .i64 x_13), (6, .pointer (some ⟨g_62, 0, none⟩)), (102, .bool x_112)] ∧ Sep w0 w_113 [N_111, Mem.one g_2 (.cells ([v_17, v_21] : List Value).toArray 25 (0, 0)), M_15, M_19, Mem.no, M_55, M_59, Mem.one g_62 (.cells ([v_53, v_57] : List Value).toArray 25 (0, 0)), Mem.no, Mem.no, Mem.no, Mem.no, Mem.no, Mem.no] Z ∧ N_105.le N_111) → KJ_110 a w_113 := by
            clear H hm hS a
            rintro x_112 H a w_113 ⟨N_111, hm, hS, le_111⟩
            unfold hocketlaw13_DiskTurns.J4 at H
            refine hKJ_110 _ _ ?_
            by_cases hc_115 : x_112 = true
            · rw [if_pos hc_115] at H
              cases H
            · rw [if_neg hc_115] at H
              refine c_cond_f hm rfl (Bool.eq_false_iff.2 hc_115) ?_
              refine wp_skip ?_
              refine x_then_n (hKJ_109 _ _ ?_)
              refine wp_region_lit ?_
              refine s_load hm rfl rfl (hS.load_agg (p := 7) (us := [v_53, v_57]) rfl Try.underlying25 rfl ti25 rfl rfl) ?_
              clear hm a; intro a hm
              obtain ⟨w_116, hs', hS'⟩ := hS.store (P := Try.prog) (p := 1) (o := 0) (t := 25) (v := .agg [v_53, v_57].toArray) (vs := [v_53, v_57]) rfl ti25 rfl rfl rfl (by intro u hu; simp only [List.mem_cons, List.not_mem_nil, or_false] at hu; rcases hu with rfl | rfl <;> first | rfl | exact hr_54.one | exact hr_58.one)
              refine s_store hm rfl rfl hs' ?_
              replace hS : Sep w0 w_116 [N_111, Mem.one g_2 (.cells ([v_53, v_57] : List Value).toArray 25 (0, 0)), M_15, M_19, Mem.no, M_55, M_59, Mem.one g_62 (.cells ([v_53, v_57] : List Value).toArray 25 (0, 0)), Mem.no, Mem.no, Mem.no, Mem.no, Mem.no, Mem.no] Z := hS'
              clear hs' hS'
              refine wpList_nil ?_
              replace hm : Fr 105 a [(0, p0_0), (2, .bool false), (3, .pointer (some ⟨g_2, 0, none⟩)), (4, .int .i64 x_13)] := hm.keep [0, 2, 3, 4]
              refine x_block_n ?_
              refine x_then_n ?_
              refine wp_region_lit ?_
              refine s_move hm rfl rfl ?_
              clear hm a; intro a hm
              refine s_arith (r := w64 (x_13 + 1)) hm rfl rfl rfl (.inl ⟨rfl, rfl⟩) ?_
              clear hm a; intro a hm
              refine s_assign hm rfl rfl ?_
              clear hm a; intro a hm
              refine wpList_nil ?_
              replace hm : Fr 105 a [(0, p0_0), (2, .bool false), (3, .pointer (some ⟨g_2, 0, none⟩)), (4, .int .i64 (w64 (x_13 + 1)))] := hm.keep [0, 2, 3, 4]
              refine x_then_n (hKL_23 _ _ ?_)
              replace hS : Sep w0 w_116 [N_111, Mem.one g_2 (.cells ([v_53, v_57] : List Value).toArray 25 (0, 0)), M_15, M_19, Mem.no, M_55, M_59, Mem.one g_62 (.cells ([v_53, v_57] : List Value).toArray 25 (0, 0)), Mem.no, Mem.no, Mem.no, Mem.no, Mem.no, Mem.no] Z := hS
              replace hm : Fr 105 a [(0, p0_0), (2, .bool false), (3, .pointer (some ⟨g_2, 0, none⟩)), (4, .int .i64 (w64 (x_13 + 1)))] := hm.keep [0, 2, 3, 4]
              exact ⟨w64 (x_13 + 1), t_49, v_53, v_57, N_111, M_55, M_59, H, hm, (Sep.sel hS [0, 1, 5, 6] (by decide)), (le_12.trans (le_29.trans (le_52.trans (le_69.trans (le_75.trans (le_83.trans (le_98.trans (le_105.trans le_111)))))))), hr_54, hr_58⟩
          clear hKJ_110
          refine wp_region_lit ?_
          refine s_move hm rfl rfl ?_
          clear hm a; intro a hm
          refine s_move hm rfl rfl ?_
          clear hm a; intro a hm
          refine s_beq (b := !(t_95.2 == t_102.2)) hm rfl Try.underlying4 rfl rfl (.inr ⟨rfl, rfl⟩) ?_
          clear hm a; intro a hm
          refine s_move hm rfl rfl ?_
          clear hm a; intro a hm
          by_cases hc_117 : t_95.2 = t_102.2
          · rw [if_pos hc_117] at H
            refine s_on hm rfl rfl (nf (beq_iff_eq.2 hc_117)) ?_
            refine s_load hm rfl rfl (hS.load_agg (p := 12) (us := [.int .i64 t_95.1.Inc, .int .i64 t_95.1.Prom, .int .i64 t_95.1.Inst]) rfl Try.underlying28 rfl ti28 rfl rfl) ?_
            clear hm a; intro a hm
            refine s_on hm rfl rfl (nf (beq_iff_eq.2 hc_117)) ?_
            refine s_load hm rfl rfl (hS.load_agg (p := 13) (us := [.int .i64 t_102.1.Inc, .int .i64 t_102.1.Prom, .int .i64 t_102.1.Inst]) rfl Try.underlying28 rfl ti28 rfl rfl) ?_
            clear hm a; intro a hm
            refine s_on hm rfl rfl (nf (beq_iff_eq.2 hc_117)) ?_
            refine s_structEq (xs := [t_95.1.Inc, t_95.1.Prom, t_95.1.Inst]) (ys := [t_102.1.Inc, t_102.1.Prom, t_102.1.Inst]) (b := !([t_95.1.Inc, t_95.1.Prom, t_95.1.Inst] == [t_102.1.Inc, t_102.1.Prom, t_102.1.Inst])) hm rfl Try.underlying28 (by kernel_rfl) (by kernel_rfl) ⟨rfl, rfl, Try.underlying3, rfl, rfl, Try.underlying3, rfl, rfl, Try.underlying3, trivial⟩ rfl rfl rfl rfl (.inr ⟨rfl, rfl⟩) ?_
            clear hm a; intro a hm
            refine s_pick_f hm rfl rfl (nf (beq_iff_eq.2 hc_117)) rfl ?_
            clear hm a; intro a hm
            refine wpList_nil ?_
            replace hm : Fr 105 a [(0, p0_0), (2, .bool false), (3, .pointer (some ⟨g_2, 0, none⟩)), (4, .int .i64 x_13), (6, .pointer (some ⟨g_62, 0, none⟩)), (102, .bool (!([t_95.1.Inc, t_95.1.Prom, t_95.1.Inst] == [t_102.1.Inc, t_102.1.Prom, t_102.1.Inst])))] := hm.keep [0, 2, 3, 4, 6, 102]
            replace hS : Sep w0 w_108 [N_105, Mem.one g_2 (.cells ([v_17, v_21] : List Value).toArray 25 (0, 0)), M_15, M_19, Mem.one g_47 (.cells ([.int .i64 (w64 (x_13 + 1)), .int .i64 (band .i64 t_36 65535), .int .i64 (band .i64 (shr .i64 t_41 16) 255)] : List Value).toArray 28 (0, 0)), M_55, M_59, Mem.one g_62 (.cells ([v_53, v_57] : List Value).toArray 25 (0, 0)), Mem.no, M_86, M_90, Mem.one g_93 (.cells ([v_84, v_88] : List Value).toArray 25 (0, 0)), Mem.one g_100 (.cells ([.int .i64 t_95.1.Inc, .int .i64 t_95.1.Prom, .int .i64 t_95.1.Inst] : List Value).toArray 28 (0, 0)), Mem.one g_107 (.cells ([.int .i64 t_102.1.Inc, .int .i64 t_102.1.Prom, .int .i64 t_102.1.Inst] : List Value).toArray 28 (0, 0))] Z := hS
            replace hm : Fr 105 a [(0, p0_0), (2, .bool false), (3, .pointer (some ⟨g_2, 0, none⟩)), (4, .int .i64 x_13), (6, .pointer (some ⟨g_62, 0, none⟩)), (102, .bool (!([t_95.1.Inc, t_95.1.Prom, t_95.1.Inst] == [t_102.1.Inc, t_102.1.Prom, t_102.1.Inst])))] := hm.keep [0, 2, 3, 4, 6, 102]
            exact x_then_n (hJ_j_114 (!([t_95.1.Inc, t_95.1.Prom, t_95.1.Inst] == [t_102.1.Inc, t_102.1.Prom, t_102.1.Inst])) H _ _ ⟨N_105, hm, (Sep.sel hS [0, 1, 2, 3, 1003, 5, 6, 7, 1007, 1008, 1009, 1010, 1011, 1012] (by decide)), (Mem.le.refl _)⟩)
          · rw [if_neg hc_117] at H
            refine s_off hm rfl rfl rfl (nt (beq_eq_false_iff_ne.2 hc_117)) ?_
            clear hm a; intro a hm
            refine s_off hm rfl rfl rfl (nt (beq_eq_false_iff_ne.2 hc_117)) ?_
            clear hm a; intro a hm
            refine s_off hm rfl rfl rfl (nt (beq_eq_false_iff_ne.2 hc_117)) ?_
            clear hm a; intro a hm
            refine s_pick_t hm rfl rfl (nt (beq_eq_false_iff_ne.2 hc_117)) rfl ?_
            clear hm a; intro a hm
            refine wpList_nil ?_
            replace hm : Fr 105 a [(0, p0_0), (2, .bool false), (3, .pointer (some ⟨g_2, 0, none⟩)), (4, .int .i64 x_13), (6, .pointer (some ⟨g_62, 0, none⟩)), (102, .bool true)] := hm.keep [0, 2, 3, 4, 6, 102]
            replace hS : Sep w0 w_108 [N_105, Mem.one g_2 (.cells ([v_17, v_21] : List Value).toArray 25 (0, 0)), M_15, M_19, Mem.one g_47 (.cells ([.int .i64 (w64 (x_13 + 1)), .int .i64 (band .i64 t_36 65535), .int .i64 (band .i64 (shr .i64 t_41 16) 255)] : List Value).toArray 28 (0, 0)), M_55, M_59, Mem.one g_62 (.cells ([v_53, v_57] : List Value).toArray 25 (0, 0)), Mem.no, M_86, M_90, Mem.one g_93 (.cells ([v_84, v_88] : List Value).toArray 25 (0, 0)), Mem.one g_100 (.cells ([.int .i64 t_95.1.Inc, .int .i64 t_95.1.Prom, .int .i64 t_95.1.Inst] : List Value).toArray 28 (0, 0)), Mem.one g_107 (.cells ([.int .i64 t_102.1.Inc, .int .i64 t_102.1.Prom, .int .i64 t_102.1.Inst] : List Value).toArray 28 (0, 0))] Z := hS
            replace hm : Fr 105 a [(0, p0_0), (2, .bool false), (3, .pointer (some ⟨g_2, 0, none⟩)), (4, .int .i64 x_13), (6, .pointer (some ⟨g_62, 0, none⟩)), (102, .bool true)] := hm.keep [0, 2, 3, 4, 6, 102]
            exact x_then_n (hJ_j_114 true H _ _ ⟨N_105, hm, (Sep.sel hS [0, 1, 2, 3, 1003, 5, 6, 7, 1007, 1008, 1009, 1010, 1011, 1012] (by decide)), (Mem.le.refl _)⟩)
      clear hKJ_74
      refine wp_region_lit ?_
      refine s_move hm rfl rfl ?_
      clear hm a; intro a hm
      refine s_move hm rfl rfl ?_
      clear hm a; intro a hm
      refine s_beq (b := ((t_49.A == x_14.A) == (t_49.B == x_14.B))) hm rfl Try.underlying4 rfl rfl (.inl ⟨rfl, rfl⟩) ?_
      clear hm a; intro a hm
      refine s_move hm rfl rfl ?_
      clear hm a; intro a hm
      by_cases hc_118 : (t_49.A == x_14.A) = (t_49.B == x_14.B)
      · rw [if_pos hc_118] at H
        refine s_off hm rfl rfl rfl (beq_iff_eq.2 hc_118) ?_
        clear hm a; intro a hm
        refine s_off hm rfl rfl rfl (beq_iff_eq.2 hc_118) ?_
        clear hm a; intro a hm
        refine s_off hm rfl rfl rfl (beq_iff_eq.2 hc_118) ?_
        clear hm a; intro a hm
        refine s_off hm rfl rfl rfl (beq_iff_eq.2 hc_118) ?_
        clear hm a; intro a hm
        refine s_off hm rfl rfl rfl (beq_iff_eq.2 hc_118) ?_
        clear hm a; intro a hm
        refine s_pick_t hm rfl rfl (beq_iff_eq.2 hc_118) rfl ?_
        clear hm a; intro a hm
        refine s_move hm rfl rfl ?_
        clear hm a; intro a hm
        refine s_off hm rfl rfl rfl rfl ?_
        clear hm a; intro a hm
        refine s_off hm rfl rfl rfl rfl ?_
        clear hm a; intro a hm
        refine s_pick_t hm rfl rfl rfl rfl ?_
        clear hm a; intro a hm
        refine s_move hm rfl rfl ?_
        clear hm a; intro a hm
        refine s_off hm rfl rfl rfl rfl ?_
        clear hm a; intro a hm
        refine s_off hm rfl rfl rfl rfl ?_
        clear hm a; intro a hm
        refine s_off hm rfl rfl rfl rfl ?_
        clear hm a; intro a hm
        refine s_pick_t hm rfl rfl rfl rfl ?_
        clear hm a; intro a hm
        refine wpList_nil ?_
        replace hm : Fr 105 a [(0, p0_0), (2, .bool false), (3, .pointer (some ⟨g_2, 0, none⟩)), (4, .int .i64 x_13), (5, .pointer (some ⟨g_47, 0, none⟩)), (6, .pointer (some ⟨g_62, 0, none⟩)), (81, .bool true)] := hm.keep [0, 2, 3, 4, 5, 6, 81]
        replace hS : Sep w0 w_72 [N_69, Mem.one g_2 (.cells ([v_17, v_21] : List Value).toArray 25 (0, 0)), M_15, M_19, Mem.one g_47 (.cells ([.int .i64 (w64 (x_13 + 1)), .int .i64 (band .i64 t_36 65535), .int .i64 (band .i64 (shr .i64 t_41 16) 255)] : List Value).toArray 28 (0, 0)), M_55, M_59, Mem.one g_62 (.cells ([v_53, v_57] : List Value).toArray 25 (0, 0)), Mem.one g_71 (.cells ([.int .i64 t_66.1.Inc, .int .i64 t_66.1.Prom, .int .i64 t_66.1.Inst] : List Value).toArray 28 (0, 0))] Z := hS
        replace hm : Fr 105 a [(0, p0_0), (2, .bool false), (3, .pointer (some ⟨g_2, 0, none⟩)), (4, .int .i64 x_13), (5, .pointer (some ⟨g_47, 0, none⟩)), (6, .pointer (some ⟨g_62, 0, none⟩)), (81, .bool true)] := hm.keep [0, 2, 3, 4, 5, 6, 81]
        exact x_then_n (hJ_j_78 true H _ _ ⟨N_69, hm, (Sep.sel hS [0, 1, 2, 3, 4, 5, 6, 7, 1007] (by decide)), (Mem.le.refl _)⟩)
      · rw [if_neg hc_118] at H
        refine s_on hm rfl rfl (beq_eq_false_iff_ne.2 hc_118) ?_
        refine s_move hm rfl rfl ?_
        clear hm a; intro a hm
        refine s_on hm rfl rfl (beq_eq_false_iff_ne.2 hc_118) ?_
        refine s_move hm rfl rfl ?_
        clear hm a; intro a hm
        refine s_on hm rfl rfl (beq_eq_false_iff_ne.2 hc_118) ?_
        refine s_bits (i := x_13) (j := 1) (r := band .i64 x_13 1) hm rfl rfl rfl (.inl ⟨rfl, rfl⟩) ?_
        clear hm a; intro a hm
        refine s_on hm rfl rfl (beq_eq_false_iff_ne.2 hc_118) ?_
        refine s_cmp (b := ((band .i64 x_13 1) == 1)) hm rfl rfl rfl (.inl ⟨rfl, rfl⟩) ?_
        clear hm a; intro a hm
        refine s_on hm rfl rfl (beq_eq_false_iff_ne.2 hc_118) ?_
        refine s_beq (b := !((t_49.A == x_14.A) == ((band .i64 x_13 1) == 1))) hm rfl Try.underlying4 rfl rfl (.inr ⟨rfl, rfl⟩) ?_
        clear hm a; intro a hm
        refine s_pick_f hm rfl rfl (beq_eq_false_iff_ne.2 hc_118) rfl ?_
        clear hm a; intro a hm
        refine s_move hm rfl rfl ?_
        clear hm a; intro a hm
        by_cases hc_119 : (t_49.A == x_14.A) = ((band .i64 x_13 1) == 1)
        · rw [if_pos hc_119] at H
          refine s_on hm rfl rfl (nf (beq_iff_eq.2 hc_119)) ?_
          refine s_move hm rfl rfl ?_
          clear hm a; intro a hm
          refine s_on hm rfl rfl (nf (beq_iff_eq.2 hc_119)) ?_
          refine s_not hm rfl rfl ?_
          clear hm a; intro a hm
          refine s_pick_f hm rfl rfl (nf (beq_iff_eq.2 hc_119)) rfl ?_
          clear hm a; intro a hm
          refine s_move hm rfl rfl ?_
          clear hm a; intro a hm
          by_cases hc_120 : t_66.2 = true
          · rw [if_pos hc_120] at H
            refine s_on hm rfl rfl (nf hc_120) ?_
            refine s_load hm rfl rfl (hS.load_agg (p := 8) (us := [.int .i64 t_66.1.Inc, .int .i64 t_66.1.Prom, .int .i64 t_66.1.Inst]) rfl Try.underlying28 rfl ti28 rfl rfl) ?_
            clear hm a; intro a hm
            refine s_on hm rfl rfl (nf hc_120) ?_
            refine s_load hm rfl rfl (hS.load_agg (p := 4) (us := [.int .i64 (w64 (x_13 + 1)), .int .i64 (band .i64 t_36 65535), .int .i64 (band .i64 (shr .i64 t_41 16) 255)]) rfl Try.underlying28 rfl ti28 rfl rfl) ?_
            clear hm a; intro a hm
            refine s_on hm rfl rfl (nf hc_120) ?_
            refine s_structEq (xs := [t_66.1.Inc, t_66.1.Prom, t_66.1.Inst]) (ys := [w64 (x_13 + 1), band .i64 t_36 65535, band .i64 (shr .i64 t_41 16) 255]) (b := !([t_66.1.Inc, t_66.1.Prom, t_66.1.Inst] == [w64 (x_13 + 1), band .i64 t_36 65535, band .i64 (shr .i64 t_41 16) 255])) hm rfl Try.underlying28 (by kernel_rfl) (by kernel_rfl) ⟨rfl, rfl, Try.underlying3, rfl, rfl, Try.underlying3, rfl, rfl, Try.underlying3, trivial⟩ rfl rfl rfl rfl (.inr ⟨rfl, rfl⟩) ?_
            clear hm a; intro a hm
            refine s_pick_f hm rfl rfl (nf hc_120) rfl ?_
            clear hm a; intro a hm
            refine wpList_nil ?_
            replace hm : Fr 105 a [(0, p0_0), (2, .bool false), (3, .pointer (some ⟨g_2, 0, none⟩)), (4, .int .i64 x_13), (5, .pointer (some ⟨g_47, 0, none⟩)), (6, .pointer (some ⟨g_62, 0, none⟩)), (81, .bool (!([t_66.1.Inc, t_66.1.Prom, t_66.1.Inst] == [w64 (x_13 + 1), band .i64 t_36 65535, band .i64 (shr .i64 t_41 16) 255])))] := hm.keep [0, 2, 3, 4, 5, 6, 81]
            replace hS : Sep w0 w_72 [N_69, Mem.one g_2 (.cells ([v_17, v_21] : List Value).toArray 25 (0, 0)), M_15, M_19, Mem.one g_47 (.cells ([.int .i64 (w64 (x_13 + 1)), .int .i64 (band .i64 t_36 65535), .int .i64 (band .i64 (shr .i64 t_41 16) 255)] : List Value).toArray 28 (0, 0)), M_55, M_59, Mem.one g_62 (.cells ([v_53, v_57] : List Value).toArray 25 (0, 0)), Mem.one g_71 (.cells ([.int .i64 t_66.1.Inc, .int .i64 t_66.1.Prom, .int .i64 t_66.1.Inst] : List Value).toArray 28 (0, 0))] Z := hS
            replace hm : Fr 105 a [(0, p0_0), (2, .bool false), (3, .pointer (some ⟨g_2, 0, none⟩)), (4, .int .i64 x_13), (5, .pointer (some ⟨g_47, 0, none⟩)), (6, .pointer (some ⟨g_62, 0, none⟩)), (81, .bool (!([t_66.1.Inc, t_66.1.Prom, t_66.1.Inst] == [w64 (x_13 + 1), band .i64 t_36 65535, band .i64 (shr .i64 t_41 16) 255])))] := hm.keep [0, 2, 3, 4, 5, 6, 81]
            exact x_then_n (hJ_j_78 (!([t_66.1.Inc, t_66.1.Prom, t_66.1.Inst] == [w64 (x_13 + 1), band .i64 t_36 65535, band .i64 (shr .i64 t_41 16) 255])) H _ _ ⟨N_69, hm, (Sep.sel hS [0, 1, 2, 3, 4, 5, 6, 7, 1007] (by decide)), (Mem.le.refl _)⟩)
          · rw [if_neg hc_120] at H
            refine s_off hm rfl rfl rfl (nt (Bool.eq_false_iff.2 hc_120)) ?_
            clear hm a; intro a hm
            refine s_off hm rfl rfl rfl (nt (Bool.eq_false_iff.2 hc_120)) ?_
            clear hm a; intro a hm
            refine s_off hm rfl rfl rfl (nt (Bool.eq_false_iff.2 hc_120)) ?_
            clear hm a; intro a hm
            refine s_pick_t hm rfl rfl (nt (Bool.eq_false_iff.2 hc_120)) rfl ?_
            clear hm a; intro a hm
            refine wpList_nil ?_
            replace hm : Fr 105 a [(0, p0_0), (2, .bool false), (3, .pointer (some ⟨g_2, 0, none⟩)), (4, .int .i64 x_13), (5, .pointer (some ⟨g_47, 0, none⟩)), (6, .pointer (some ⟨g_62, 0, none⟩)), (81, .bool true)] := hm.keep [0, 2, 3, 4, 5, 6, 81]
            replace hS : Sep w0 w_72 [N_69, Mem.one g_2 (.cells ([v_17, v_21] : List Value).toArray 25 (0, 0)), M_15, M_19, Mem.one g_47 (.cells ([.int .i64 (w64 (x_13 + 1)), .int .i64 (band .i64 t_36 65535), .int .i64 (band .i64 (shr .i64 t_41 16) 255)] : List Value).toArray 28 (0, 0)), M_55, M_59, Mem.one g_62 (.cells ([v_53, v_57] : List Value).toArray 25 (0, 0)), Mem.one g_71 (.cells ([.int .i64 t_66.1.Inc, .int .i64 t_66.1.Prom, .int .i64 t_66.1.Inst] : List Value).toArray 28 (0, 0))] Z := hS
            replace hm : Fr 105 a [(0, p0_0), (2, .bool false), (3, .pointer (some ⟨g_2, 0, none⟩)), (4, .int .i64 x_13), (5, .pointer (some ⟨g_47, 0, none⟩)), (6, .pointer (some ⟨g_62, 0, none⟩)), (81, .bool true)] := hm.keep [0, 2, 3, 4, 5, 6, 81]
            exact x_then_n (hJ_j_78 true H _ _ ⟨N_69, hm, (Sep.sel hS [0, 1, 2, 3, 4, 5, 6, 7, 1007] (by decide)), (Mem.le.refl _)⟩)
        · rw [if_neg hc_119] at H
          refine s_off hm rfl rfl rfl (nt (beq_eq_false_iff_ne.2 hc_119)) ?_
          clear hm a; intro a hm
          refine s_off hm rfl rfl rfl (nt (beq_eq_false_iff_ne.2 hc_119)) ?_
          clear hm a; intro a hm
          refine s_pick_t hm rfl rfl (nt (beq_eq_false_iff_ne.2 hc_119)) rfl ?_
          clear hm a; intro a hm
          refine s_move hm rfl rfl ?_
          clear hm a; intro a hm
          refine s_off hm rfl rfl rfl rfl ?_
          clear hm a; intro a hm
          refine s_off hm rfl rfl rfl rfl ?_
          clear hm a; intro a hm
          refine s_off hm rfl rfl rfl rfl ?_
          clear hm a; intro a hm
          refine s_pick_t hm rfl rfl rfl rfl ?_
          clear hm a; intro a hm
          refine wpList_nil ?_
          replace hm : Fr 105 a [(0, p0_0), (2, .bool false), (3, .pointer (some ⟨g_2, 0, none⟩)), (4, .int .i64 x_13), (5, .pointer (some ⟨g_47, 0, none⟩)), (6, .pointer (some ⟨g_62, 0, none⟩)), (81, .bool true)] := hm.keep [0, 2, 3, 4, 5, 6, 81]
          replace hS : Sep w0 w_72 [N_69, Mem.one g_2 (.cells ([v_17, v_21] : List Value).toArray 25 (0, 0)), M_15, M_19, Mem.one g_47 (.cells ([.int .i64 (w64 (x_13 + 1)), .int .i64 (band .i64 t_36 65535), .int .i64 (band .i64 (shr .i64 t_41 16) 255)] : List Value).toArray 28 (0, 0)), M_55, M_59, Mem.one g_62 (.cells ([v_53, v_57] : List Value).toArray 25 (0, 0)), Mem.one g_71 (.cells ([.int .i64 t_66.1.Inc, .int .i64 t_66.1.Prom, .int .i64 t_66.1.Inst] : List Value).toArray 28 (0, 0))] Z := hS
          replace hm : Fr 105 a [(0, p0_0), (2, .bool false), (3, .pointer (some ⟨g_2, 0, none⟩)), (4, .int .i64 x_13), (5, .pointer (some ⟨g_47, 0, none⟩)), (6, .pointer (some ⟨g_62, 0, none⟩)), (81, .bool true)] := hm.keep [0, 2, 3, 4, 5, 6, 81]
          exact x_then_n (hJ_j_78 true H _ _ ⟨N_69, hm, (Sep.sel hS [0, 1, 2, 3, 4, 5, 6, 7, 1007] (by decide)), (Mem.le.refl _)⟩)
    · rw [if_neg hc_33] at H
      refine c_cond_f hm rfl (Bool.eq_false_iff.2 hc_33) ?_
      refine wp_exit (x_then_x (x_then_x (x_block_t ?_)))
      replace hS : Sep w0 w_31 [N_29, Mem.one g_2 (.cells ([v_17, v_21] : List Value).toArray 25 (0, 0)), M_15, M_19] Z := hS
      replace hm : Fr 105 a [(2, .bool false)] := hm.keep [2]
      exact x_then_n (hJ_j_7  H _ _ ⟨N_29, hm, (Sep.sel hS [0, 1000] (by decide)), (le_12.trans le_29)⟩)
  clear hKJ_28
  refine wp_region_lit ?_
  refine s_move hm rfl rfl ?_
  clear hm a; intro a hm
  refine s_move hm rfl rfl ?_
  clear hm a; intro a hm
  refine s_len hm rfl Try.underlying22 rfl hp0_0 ?_
  clear hm a; intro a hm
  refine s_cmp (b := decide (x_13 < (x0.length : Int))) hm rfl rfl rfl (.inr (.inr (.inl ⟨rfl, rfl⟩))) ?_
  clear hm a; intro a hm
  refine s_move hm rfl rfl ?_
  clear hm a; intro a hm
  by_cases hc_121 : x_13 < (x0.length : Int)
  · rw [if_pos hc_121] at H
    refine s_on hm rfl rfl (decide_eq_true hc_121) ?_
    refine s_move hm rfl rfl ?_
    clear hm a; intro a hm
    refine s_on hm rfl rfl (decide_eq_true hc_121) ?_
    refine s_cmp (b := decide (x_13 < 20)) hm rfl rfl rfl (.inr (.inr (.inl ⟨rfl, rfl⟩))) ?_
    clear hm a; intro a hm
    refine s_pick_t hm rfl rfl (decide_eq_true hc_121) rfl ?_
    clear hm a; intro a hm
    refine wpList_nil ?_
    replace hm : Fr 105 a [(0, p0_0), (2, .bool false), (3, .pointer (some ⟨g_2, 0, none⟩)), (4, .int .i64 x_13), (24, .bool (decide (x_13 < 20)))] := hm.keep [0, 2, 3, 4, 24]
    replace hS : Sep w0 w_23 [N_12, Mem.one g_2 (.cells ([v_17, v_21] : List Value).toArray 25 (0, 0)), M_15, M_19] Z := hS
    replace hm : Fr 105 a [(0, p0_0), (2, .bool false), (3, .pointer (some ⟨g_2, 0, none⟩)), (4, .int .i64 x_13), (24, .bool (decide (x_13 < 20)))] := hm.keep [0, 2, 3, 4, 24]
    exact x_then_n (hJ_j_32 (decide (x_13 < 20)) H _ _ ⟨N_12, hm, (Sep.sel hS [0, 1, 2, 3] (by decide)), (Mem.le.refl _)⟩)
  · rw [if_neg hc_121] at H
    refine s_off hm rfl rfl rfl (decide_eq_false hc_121) ?_
    clear hm a; intro a hm
    refine s_off hm rfl rfl rfl (decide_eq_false hc_121) ?_
    clear hm a; intro a hm
    refine s_pick_f hm rfl rfl (decide_eq_false hc_121) rfl ?_
    clear hm a; intro a hm
    refine wpList_nil ?_
    replace hm : Fr 105 a [(0, p0_0), (2, .bool false), (3, .pointer (some ⟨g_2, 0, none⟩)), (4, .int .i64 x_13), (24, .bool false)] := hm.keep [0, 2, 3, 4, 24]
    replace hS : Sep w0 w_23 [N_12, Mem.one g_2 (.cells ([v_17, v_21] : List Value).toArray 25 (0, 0)), M_15, M_19] Z := hS
    replace hm : Fr 105 a [(0, p0_0), (2, .bool false), (3, .pointer (some ⟨g_2, 0, none⟩)), (4, .int .i64 x_13), (24, .bool false)] := hm.keep [0, 2, 3, 4, 24]
    exact x_then_n (hJ_j_32 false H _ _ ⟨N_12, hm, (Sep.sel hS [0, 1, 2, 3] (by decide)), (Mem.le.refl _)⟩)


end Go.Proofs
