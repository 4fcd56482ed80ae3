/- What the calls do: each function once. -/
import Derived.Test.YtlofhblfdkjloaaDiskPrefixc0
namespace Go.Proofs
open Go.Gp
set_option linter.unusedVariables false
set_option maxHeartbeats 4000000 in
set_option maxRecDepth 20000 in
theorem hocketlaw13_awake.calls (K : Nat) (r : Unit) (w0 w : World) (Z A : Mem) (hA : A.le Z) (hS : Sep w0 w [] Z)
    (H : hocketlaw13_awake.f K = some r) :
    Calls Try.prog 13 [].toArray w (Ret fun v w' => ∃ (N : Mem), v = .bool true ∧ Sep w0 w' [N] Z) := by
  unfold hocketlaw13_awake.f at H
  refine f_enter _ Try.func13 rfl Try.ntmps13 rfl fun a hm => ?_
  replace hm : Fr 70 a [] := hm
  replace hS := hS.start
  replace hS : Sep w0 w [Mem.no] Z := hS
  refine wp_seq ?_
  refine wp_region_lit ?_
  refine s_assign hm rfl rfl ?_
  clear hm a; intro a hm
  refine wpList_nil ?_
  replace hm : Fr 70 a [(0, .bool false)] := hm.keep [0]
  refine x_then_n ?_
  refine wp_seq ?_
  refine wp_region_lit ?_
  refine s_build hm rfl ti25 pl25 rfl .nil (cs := [.slice none 0 0, .slice none 0 0]) rfl ?_
  clear hm a; intro a hm
  refine s_build hm rfl ti28 pl28 rfl (.cons rfl .nil) (cs := [.int .i64 1, .int .i64 0, .int .i64 0]) rfl ?_
  clear hm a; intro a hm
  obtain ⟨t_1, et_1, H⟩ := Option.bind_eq_some_iff.1 H
  refine s_call hm rfl Try.call11 rfl (disk_Write.calls K (⟨([] : List UInt8), ([] : List UInt8)⟩ : api_Disk) _ _ (⟨1, 0, 0⟩ : api_Record) (-1) t_1 w0 _ _ _ (Mem.le.refl _) (hS.enter [] (by decide)) (Rd.nil _ _) (Rd.nil _ _) et_1) ?_
  rintro _ w_2 ⟨v_5, v_9, N_3, M_7, M_11, rfl, hS', hr_6, hr_10⟩
  clear hm a; intro a hm
  obtain ⟨N_4, hS'', le_4, ln_4⟩ := hS.call [] (by decide) rfl (l' := []) (ow := [M_7, M_11]) rfl hS'
  replace hS : Sep w0 w_2 [N_4, M_7, M_11] Z := hS''
  clear hS' hS''
  refine v_alloc hm rfl ti25 hS ?_
  intro w_13 g_14 hS'
  clear hm a; intro a hm
  replace hS : Sep w0 w_13 [N_4, M_7, M_11, Mem.one g_14 (.cells ([.slice none 0 0, .slice none 0 0] : List Value).toArray 25 (0, 0))] Z := hS'
  clear hS'
  obtain ⟨w_15, hs', hS'⟩ := hS.store (P := Try.prog) (p := 3) (o := 0) (t := 25) (v := .agg [v_5, v_9].toArray) (vs := [v_5, v_9]) rfl ti25 rfl rfl rfl (by intro u hu; simp only [List.mem_cons, List.not_mem_nil, or_false] at hu; rcases hu with rfl | rfl <;> first | rfl | exact hr_6.one | exact hr_10.one)
  refine s_store hm rfl rfl hs' ?_
  replace hS : Sep w0 w_15 [N_4, M_7, M_11, Mem.one g_14 (.cells ([v_5, v_9] : List Value).toArray 25 (0, 0))] Z := hS'
  clear hs' hS'
  refine wpList_nil ?_
  replace hm : Fr 70 a [(0, .bool false), (1, .pointer (some ⟨g_14, 0, none⟩))] := hm.keep [0, 1]
  refine x_then_n ?_
  refine wp_seq ?_
  refine wp_region_lit ?_
  refine s_load hm rfl rfl (hS.load_agg (p := 3) (us := [v_5, v_9]) rfl Try.underlying25 rfl ti25 rfl rfl) ?_
  clear hm a; intro a hm
  refine s_build hm rfl ti28 pl28 rfl (.cons rfl (.cons rfl .nil)) (cs := [.int .i64 2, .int .i64 8, .int .i64 0]) rfl ?_
  clear hm a; intro a hm
  obtain ⟨t_16, et_16, H⟩ := Option.bind_eq_some_iff.1 H
  refine s_call hm rfl Try.call11 rfl (disk_Write.calls K t_1 _ _ (⟨2, 8, 0⟩ : api_Record) (-1) t_16 w0 _ _ _ (Mem.le.refl _) (hS.enter [] (by decide)) (hr_6.rd (hS.own_zed [] 0 (by decide)) (Mem.no_le _)) (hr_10.rd (hS.own_zed [] 1 (by decide)) (Mem.no_le _)) et_16) ?_
  rintro _ w_17 ⟨v_20, v_24, N_18, M_22, M_26, rfl, hS', hr_21, hr_25⟩
  clear hm a; intro a hm
  obtain ⟨N_19, hS'', le_19, ln_19⟩ := hS.call [] (by decide) rfl (l' := []) (ow := [M_22, M_26]) rfl hS'
  replace hS : Sep w0 w_17 [N_19, M_7, M_11, Mem.one g_14 (.cells ([v_5, v_9] : List Value).toArray 25 (0, 0)), M_22, M_26] Z := hS''
  clear hS' hS''
  refine v_alloc hm rfl ti25 hS ?_
  intro w_28 g_29 hS'
  clear hm a; intro a hm
  replace hS : Sep w0 w_28 [N_19, M_7, M_11, Mem.one g_14 (.cells ([v_5, v_9] : List Value).toArray 25 (0, 0)), M_22, M_26, Mem.one g_29 (.cells ([.slice none 0 0, .slice none 0 0] : List Value).toArray 25 (0, 0))] Z := hS'
  clear hS'
  obtain ⟨w_30, hs', hS'⟩ := hS.store (P := Try.prog) (p := 6) (o := 0) (t := 25) (v := .agg [v_20, v_24].toArray) (vs := [v_20, v_24]) rfl ti25 rfl rfl rfl (by intro u hu; simp only [List.mem_cons, List.not_mem_nil, or_false] at hu; rcases hu with rfl | rfl <;> first | rfl | exact hr_21.one | exact hr_25.one)
  refine s_store hm rfl rfl hs' ?_
  replace hS : Sep w0 w_30 [N_19, M_7, M_11, Mem.one g_14 (.cells ([v_5, v_9] : List Value).toArray 25 (0, 0)), M_22, M_26, Mem.one g_29 (.cells ([v_20, v_24] : List Value).toArray 25 (0, 0))] Z := hS'
  clear hs' hS'
  refine wpList_nil ?_
  replace hm : Fr 70 a [(0, .bool false), (1, .pointer (some ⟨g_14, 0, none⟩)), (2, .pointer (some ⟨g_29, 0, none⟩))] := hm.keep [0, 1, 2]
  refine x_then_n ?_
  refine wp_seq ?_
  refine wp_region_lit ?_
  refine s_load hm rfl rfl (hS.load_agg (p := 6) (us := [v_20, v_24]) rfl Try.underlying25 rfl ti25 rfl rfl) ?_
  clear hm a; intro a hm
  refine s_build hm rfl ti28 pl28 rfl (.cons rfl .nil) (cs := [.int .i64 3, .int .i64 0, .int .i64 0]) rfl ?_
  clear hm a; intro a hm
  obtain ⟨t_31, et_31, H⟩ := Option.bind_eq_some_iff.1 H
  refine s_call hm rfl Try.call11 rfl (disk_Write.calls K t_16 _ _ (⟨3, 0, 0⟩ : api_Record) 5 t_31 w0 _ _ _ (Mem.le.refl _) (hS.enter [] (by decide)) (hr_21.rd (hS.own_zed [] 3 (by decide)) (Mem.no_le _)) (hr_25.rd (hS.own_zed [] 4 (by decide)) (Mem.no_le _)) et_31) ?_
  rintro _ w_32 ⟨v_35, v_39, N_33, M_37, M_41, rfl, hS', hr_36, hr_40⟩
  clear hm a; intro a hm
  obtain ⟨N_34, hS'', le_34, ln_34⟩ := hS.call [] (by decide) rfl (l' := []) (ow := [M_37, M_41]) rfl hS'
  replace hS : Sep w0 w_32 [N_34, M_7, M_11, Mem.one g_14 (.cells ([v_5, v_9] : List Value).toArray 25 (0, 0)), M_22, M_26, Mem.one g_29 (.cells ([v_20, v_24] : List Value).toArray 25 (0, 0)), M_37, M_41] Z := hS''
  clear hS' hS''
  refine v_alloc hm rfl ti25 hS ?_
  intro w_43 g_44 hS'
  clear hm a; intro a hm
  replace hS : Sep w0 w_43 [N_34, M_7, M_11, Mem.one g_14 (.cells ([v_5, v_9] : List Value).toArray 25 (0, 0)), M_22, M_26, Mem.one g_29 (.cells ([v_20, v_24] : List Value).toArray 25 (0, 0)), M_37, M_41, Mem.one g_44 (.cells ([.slice none 0 0, .slice none 0 0] : List Value).toArray 25 (0, 0))] Z := hS'
  clear hS'
  obtain ⟨w_45, hs', hS'⟩ := hS.store (P := Try.prog) (p := 9) (o := 0) (t := 25) (v := .agg [v_35, v_39].toArray) (vs := [v_35, v_39]) rfl ti25 rfl rfl rfl (by intro u hu; simp only [List.mem_cons, List.not_mem_nil, or_false] at hu; rcases hu with rfl | rfl <;> first | rfl | exact hr_36.one | exact hr_40.one)
  refine s_store hm rfl rfl hs' ?_
  replace hS : Sep w0 w_45 [N_34, M_7, M_11, Mem.one g_14 (.cells ([v_5, v_9] : List Value).toArray 25 (0, 0)), M_22, M_26, Mem.one g_29 (.cells ([v_20, v_24] : List Value).toArray 25 (0, 0)), M_37, M_41, Mem.one g_44 (.cells ([v_35, v_39] : List Value).toArray 25 (0, 0))] Z := hS'
  clear hs' hS'
  refine wpList_nil ?_
  replace hm : Fr 70 a [(0, .bool false), (1, .pointer (some ⟨g_14, 0, none⟩)), (2, .pointer (some ⟨g_29, 0, none⟩)), (3, .pointer (some ⟨g_44, 0, none⟩))] := hm.keep [0, 1, 2, 3]
  refine x_then_n ?_
  refine wp_seq ?_
  refine wp_region_lit ?_
  refine s_load hm rfl rfl (hS.load_agg (p := 6) (us := [v_20, v_24]) rfl Try.underlying25 rfl ti25 rfl rfl) ?_
  clear hm a; intro a hm
  obtain ⟨t_46, et_46, H⟩ := Option.bind_eq_some_iff.1 H
  refine s_call hm rfl Try.call12 rfl (disk_Read.calls K t_16 _ _ t_46 w0 _ _ _ (Mem.le.refl _) (hS.enter [] (by decide)) (hr_21.rd (hS.own_zed [] 3 (by decide)) (Mem.no_le _)) (hr_25.rd (hS.own_zed [] 4 (by decide)) (Mem.no_le _)) et_46) ?_
  rintro _ w_47 ⟨N_48, rfl, hS'⟩
  clear hm a; intro a hm
  obtain ⟨N_49, hS'', le_49, ln_49⟩ := hS.call [] (by decide) rfl (l' := []) (ow := []) rfl hS'
  replace hS : Sep w0 w_47 [N_49, M_7, M_11, Mem.one g_14 (.cells ([v_5, v_9] : List Value).toArray 25 (0, 0)), M_22, M_26, Mem.one g_29 (.cells ([v_20, v_24] : List Value).toArray 25 (0, 0)), M_37, M_41, Mem.one g_44 (.cells ([v_35, v_39] : List Value).toArray 25 (0, 0))] Z := hS''
  clear hS' hS''
  refine s_move hm rfl rfl ?_
  clear hm a; intro a hm
  refine s_extract hm rfl rfl rfl ?_
  clear hm a; intro a hm
  refine s_extract hm rfl rfl rfl ?_
  clear hm a; intro a hm
  refine v_alloc hm rfl ti28 hS ?_
  intro w_50 g_51 hS'
  clear hm a; intro a hm
  replace hS : Sep w0 w_50 [N_49, M_7, M_11, Mem.one g_14 (.cells ([v_5, v_9] : List Value).toArray 25 (0, 0)), M_22, M_26, Mem.one g_29 (.cells ([v_20, v_24] : List Value).toArray 25 (0, 0)), M_37, M_41, Mem.one g_44 (.cells ([v_35, v_39] : List Value).toArray 25 (0, 0)), Mem.one g_51 (.cells ([.int .i64 0, .int .i64 0, .int .i64 0] : List Value).toArray 28 (0, 0))] Z := hS'
  clear hS'
  obtain ⟨w_52, hs', hS'⟩ := hS.store (P := Try.prog) (p := 10) (o := 0) (t := 28) (v := .agg [.int .i64 t_46.1.Inc, .int .i64 t_46.1.Prom, .int .i64 t_46.1.Inst].toArray) (vs := [.int .i64 t_46.1.Inc, .int .i64 t_46.1.Prom, .int .i64 t_46.1.Inst]) rfl ti28 rfl rfl rfl (by intro u hu; simp only [List.mem_cons, List.not_mem_nil, or_false] at hu; rcases hu with rfl | rfl | rfl <;> rfl)
  refine s_store hm rfl rfl hs' ?_
  replace hS : Sep w0 w_52 [N_49, M_7, M_11, Mem.one g_14 (.cells ([v_5, v_9] : List Value).toArray 25 (0, 0)), M_22, M_26, Mem.one g_29 (.cells ([v_20, v_24] : List Value).toArray 25 (0, 0)), M_37, M_41, Mem.one g_44 (.cells ([v_35, v_39] : List Value).toArray 25 (0, 0)), Mem.one g_51 (.cells ([.int .i64 t_46.1.Inc, .int .i64 t_46.1.Prom, .int .i64 t_46.1.Inst] : List Value).toArray 28 (0, 0))] Z := hS'
  clear hs' hS'
  refine s_assign hm rfl rfl ?_
  clear hm a; intro a hm
  refine wpList_nil ?_
  replace hm : Fr 70 a [(0, .bool false), (1, .pointer (some ⟨g_14, 0, none⟩)), (3, .pointer (some ⟨g_44, 0, none⟩)), (4, .pointer (some ⟨g_51, 0, none⟩)), (5, .bool t_46.2)] := hm.keep [0, 1, 3, 4, 5]
  refine x_then_n ?_
  refine wp_seq ?_
  refine wp_region_lit ?_
  refine s_load hm rfl rfl (hS.load_agg (p := 9) (us := [v_35, v_39]) rfl Try.underlying25 rfl ti25 rfl rfl) ?_
  clear hm a; intro a hm
  obtain ⟨t_53, et_53, H⟩ := Option.bind_eq_some_iff.1 H
  refine s_call hm rfl Try.call12 rfl (disk_Read.calls K t_31 _ _ t_53 w0 _ _ _ (Mem.le.refl _) (hS.enter [] (by decide)) (hr_36.rd (hS.own_zed [] 6 (by decide)) (Mem.no_le _)) (hr_40.rd (hS.own_zed [] 7 (by decide)) (Mem.no_le _)) et_53) ?_
  rintro _ w_54 ⟨N_55, rfl, hS'⟩
  clear hm a; intro a hm
  obtain ⟨N_56, hS'', le_56, ln_56⟩ := hS.call [] (by decide) rfl (l' := []) (ow := []) rfl hS'
  replace hS : Sep w0 w_54 [N_56, M_7, M_11, Mem.one g_14 (.cells ([v_5, v_9] : List Value).toArray 25 (0, 0)), M_22, M_26, Mem.one g_29 (.cells ([v_20, v_24] : List Value).toArray 25 (0, 0)), M_37, M_41, Mem.one g_44 (.cells ([v_35, v_39] : List Value).toArray 25 (0, 0)), Mem.one g_51 (.cells ([.int .i64 t_46.1.Inc, .int .i64 t_46.1.Prom, .int .i64 t_46.1.Inst] : List Value).toArray 28 (0, 0))] Z := hS''
  clear hS' hS''
  refine s_move hm rfl rfl ?_
  clear hm a; intro a hm
  refine s_extract hm rfl rfl rfl ?_
  clear hm a; intro a hm
  refine s_extract hm rfl rfl rfl ?_
  clear hm a; intro a hm
  refine v_alloc hm rfl ti28 hS ?_
  intro w_57 g_58 hS'
  clear hm a; intro a hm
  replace hS : Sep w0 w_57 [N_56, M_7, M_11, Mem.one g_14 (.cells ([v_5, v_9] : List Value).toArray 25 (0, 0)), M_22, M_26, Mem.one g_29 (.cells ([v_20, v_24] : List Value).toArray 25 (0, 0)), M_37, M_41, Mem.one g_44 (.cells ([v_35, v_39] : List Value).toArray 25 (0, 0)), Mem.one g_51 (.cells ([.int .i64 t_46.1.Inc, .int .i64 t_46.1.Prom, .int .i64 t_46.1.Inst] : List Value).toArray 28 (0, 0)), Mem.one g_58 (.cells ([.int .i64 0, .int .i64 0, .int .i64 0] : List Value).toArray 28 (0, 0))] Z := hS'
  clear hS'
  obtain ⟨w_59, hs', hS'⟩ := hS.store (P := Try.prog) (p := 11) (o := 0) (t := 28) (v := .agg [.int .i64 t_53.1.Inc, .int .i64 t_53.1.Prom, .int .i64 t_53.1.Inst].toArray) (vs := [.int .i64 t_53.1.Inc, .int .i64 t_53.1.Prom, .int .i64 t_53.1.Inst]) rfl ti28 rfl rfl rfl (by intro u hu; simp only [List.mem_cons, List.not_mem_nil, or_false] at hu; rcases hu with rfl | rfl | rfl <;> rfl)
  refine s_store hm rfl rfl hs' ?_
  replace hS : Sep w0 w_59 [N_56, M_7, M_11, Mem.one g_14 (.cells ([v_5, v_9] : List Value).toArray 25 (0, 0)), M_22, M_26, Mem.one g_29 (.cells ([v_20, v_24] : List Value).toArray 25 (0, 0)), M_37, M_41, Mem.one g_44 (.cells ([v_35, v_39] : List Value).toArray 25 (0, 0)), Mem.one g_51 (.cells ([.int .i64 t_46.1.Inc, .int .i64 t_46.1.Prom, .int .i64 t_46.1.Inst] : List Value).toArray 28 (0, 0)), Mem.one g_58 (.cells ([.int .i64 t_53.1.Inc, .int .i64 t_53.1.Prom, .int .i64 t_53.1.Inst] : List Value).toArray 28 (0, 0))] Z := hS'
  clear hs' hS'
  refine s_assign hm rfl rfl ?_
  clear hm a; intro a hm
  refine wpList_nil ?_
  replace hm : Fr 70 a [(0, .bool false), (1, .pointer (some ⟨g_14, 0, none⟩)), (3, .pointer (some ⟨g_44, 0, none⟩)), (4, .pointer (some ⟨g_51, 0, none⟩)), (5, .bool t_46.2), (6, .pointer (some ⟨g_58, 0, none⟩)), (7, .bool t_53.2)] := hm.keep [0, 1, 3, 4, 5, 6, 7]
  refine x_then_n ?_
  refine wp_seq ?_
  refine wp_region_lit ?_
  refine s_build hm rfl ti25 pl25 rfl .nil (cs := [.slice none 0 0, .slice none 0 0]) rfl ?_
  clear hm a; intro a hm
  obtain ⟨t_60, et_60, H⟩ := Option.bind_eq_some_iff.1 H
  refine s_call hm rfl Try.call12 rfl (disk_Read.calls K (⟨([] : List UInt8), ([] : List UInt8)⟩ : api_Disk) _ _ t_60 w0 _ _ _ (Mem.le.refl _) (hS.enter [] (by decide)) (Rd.nil _ _) (Rd.nil _ _) et_60) ?_
  rintro _ w_61 ⟨N_62, rfl, hS'⟩
  clear hm a; intro a hm
  obtain ⟨N_63, hS'', le_63, ln_63⟩ := hS.call [] (by decide) rfl (l' := []) (ow := []) rfl hS'
  replace hS : Sep w0 w_61 [N_63, M_7, M_11, Mem.one g_14 (.cells ([v_5, v_9] : List Value).toArray 25 (0, 0)), M_22, M_26, Mem.one g_29 (.cells ([v_20, v_24] : List Value).toArray 25 (0, 0)), M_37, M_41, Mem.one g_44 (.cells ([v_35, v_39] : List Value).toArray 25 (0, 0)), Mem.one g_51 (.cells ([.int .i64 t_46.1.Inc, .int .i64 t_46.1.Prom, .int .i64 t_46.1.Inst] : List Value).toArray 28 (0, 0)), Mem.one g_58 (.cells ([.int .i64 t_53.1.Inc, .int .i64 t_53.1.Prom, .int .i64 t_53.1.Inst] : List Value).toArray 28 (0, 0))] Z := hS''
  clear hS' hS''
  refine s_move hm rfl rfl ?_
  clear hm a; intro a hm
  refine s_extract hm rfl rfl rfl ?_
  clear hm a; intro a hm
  refine s_extract hm rfl rfl rfl ?_
  clear hm a; intro a hm
  refine v_alloc hm rfl ti28 hS ?_
  intro w_64 g_65 hS'
  clear hm a; intro a hm
  replace hS : Sep w0 w_64 [N_63, M_7, M_11, Mem.one g_14 (.cells ([v_5, v_9] : List Value).toArray 25 (0, 0)), M_22, M_26, Mem.one g_29 (.cells ([v_20, v_24] : List Value).toArray 25 (0, 0)), M_37, M_41, Mem.one g_44 (.cells ([v_35, v_39] : List Value).toArray 25 (0, 0)), Mem.one g_51 (.cells ([.int .i64 t_46.1.Inc, .int .i64 t_46.1.Prom, .int .i64 t_46.1.Inst] : List Value).toArray 28 (0, 0)), Mem.one g_58 (.cells ([.int .i64 t_53.1.Inc, .int .i64 t_53.1.Prom, .int .i64 t_53.1.Inst] : List Value).toArray 28 (0, 0)), Mem.one g_65 (.cells ([.int .i64 0, .int .i64 0, .int .i64 0] : List Value).toArray 28 (0, 0))] Z := hS'
  clear hS'
  obtain ⟨w_66, hs', hS'⟩ := hS.store (P := Try.prog) (p := 12) (o := 0) (t := 28) (v := .agg [.int .i64 t_60.1.Inc, .int .i64 t_60.1.Prom, .int .i64 t_60.1.Inst].toArray) (vs := [.int .i64 t_60.1.Inc, .int .i64 t_60.1.Prom, .int .i64 t_60.1.Inst]) rfl ti28 rfl rfl rfl (by intro u hu; simp only [List.mem_cons, List.not_mem_nil, or_false] at hu; rcases hu with rfl | rfl | rfl <;> rfl)
  refine s_store hm rfl rfl hs' ?_
  replace hS : Sep w0 w_66 [N_63, M_7, M_11, Mem.one g_14 (.cells ([v_5, v_9] : List Value).toArray 25 (0, 0)), M_22, M_26, Mem.one g_29 (.cells ([v_20, v_24] : List Value).toArray 25 (0, 0)), M_37, M_41, Mem.one g_44 (.cells ([v_35, v_39] : List Value).toArray 25 (0, 0)), Mem.one g_51 (.cells ([.int .i64 t_46.1.Inc, .int .i64 t_46.1.Prom, .int .i64 t_46.1.Inst] : List Value).toArray 28 (0, 0)), Mem.one g_58 (.cells ([.int .i64 t_53.1.Inc, .int .i64 t_53.1.Prom, .int .i64 t_53.1.Inst] : List Value).toArray 28 (0, 0)), Mem.one g_65 (.cells ([.int .i64 t_60.1.Inc, .int .i64 t_60.1.Prom, .int .i64 t_60.1.Inst] : List Value).toArray 28 (0, 0))] Z := hS'
  clear hs' hS'
  refine s_assign hm rfl rfl ?_
  clear hm a; intro a hm
  refine wpList_nil ?_
  replace hm : Fr 70 a [(0, .bool false), (1, .pointer (some ⟨g_14, 0, none⟩)), (3, .pointer (some ⟨g_44, 0, none⟩)), (4, .pointer (some ⟨g_51, 0, none⟩)), (5, .bool t_46.2), (6, .pointer (some ⟨g_58, 0, none⟩)), (7, .bool t_53.2), (9, .bool t_60.2)] := hm.keep [0, 1, 3, 4, 5, 6, 7, 9]
  refine x_then_n ?_
  refine c_seq fun KJ_67 hKJ_67 => ?_
  refine wp_region_lit ?_
  refine s_move hm rfl rfl ?_
  clear hm a; intro a hm
  refine s_move hm rfl rfl ?_
  clear hm a; intro a hm
  by_cases hc_68 : t_46.2 = true
  · rw [if_pos hc_68] at H
    refine s_on hm rfl rfl hc_68 ?_
    refine s_load hm rfl rfl (hS.load_agg (p := 10) (us := [.int .i64 t_46.1.Inc, .int .i64 t_46.1.Prom, .int .i64 t_46.1.Inst]) rfl Try.underlying28 rfl ti28 rfl rfl) ?_
    clear hm a; intro a hm
    refine s_on hm rfl rfl hc_68 ?_
    refine s_build hm rfl ti28 pl28 rfl (.cons rfl (.cons rfl .nil)) (cs := [.int .i64 2, .int .i64 8, .int .i64 0]) rfl ?_
    clear hm a; intro a hm
    refine s_on hm rfl rfl hc_68 ?_
    refine s_structEq (xs := [t_46.1.Inc, t_46.1.Prom, t_46.1.Inst]) (ys := [2, 8, 0]) (b := ([t_46.1.Inc, t_46.1.Prom, t_46.1.Inst] == [2, 8, 0])) hm rfl Try.underlying28 (by kernel_rfl) (by kernel_rfl) ⟨rfl, rfl, Try.underlying3, rfl, rfl, Try.underlying3, rfl, rfl, Try.underlying3, trivial⟩ rfl rfl rfl rfl (.inl ⟨rfl, rfl⟩) ?_
    clear hm a; intro a hm
    refine s_pick_t hm rfl rfl hc_68 rfl ?_
    clear hm a; intro a hm
    refine s_move hm rfl rfl ?_
    clear hm a; intro a hm
    by_cases hc_69 : [t_46.1.Inc, t_46.1.Prom, t_46.1.Inst] = [2, 8, 0]
    · rw [if_pos hc_69] at H
      refine s_on hm rfl rfl (beq_iff_eq.2 hc_69) ?_
      refine s_move hm rfl rfl ?_
      clear hm a; intro a hm
      refine s_pick_t hm rfl rfl (beq_iff_eq.2 hc_69) rfl ?_
      clear hm a; intro a hm
      refine s_move hm rfl rfl ?_
      clear hm a; intro a hm
      by_cases hc_70 : t_53.2 = true
      · rw [if_pos hc_70] at H
        refine s_on hm rfl rfl hc_70 ?_
        refine s_load hm rfl rfl (hS.load_agg (p := 11) (us := [.int .i64 t_53.1.Inc, .int .i64 t_53.1.Prom, .int .i64 t_53.1.Inst]) rfl Try.underlying28 rfl ti28 rfl rfl) ?_
        clear hm a; intro a hm
        refine s_on hm rfl rfl hc_70 ?_
        refine s_load hm rfl rfl (hS.load_agg (p := 10) (us := [.int .i64 t_46.1.Inc, .int .i64 t_46.1.Prom, .int .i64 t_46.1.Inst]) rfl Try.underlying28 rfl ti28 rfl rfl) ?_
        clear hm a; intro a hm
        refine s_on hm rfl rfl hc_70 ?_
        refine s_structEq (xs := [t_53.1.Inc, t_53.1.Prom, t_53.1.Inst]) (ys := [t_46.1.Inc, t_46.1.Prom, t_46.1.Inst]) (b := ([t_53.1.Inc, t_53.1.Prom, t_53.1.Inst] == [t_46.1.Inc, t_46.1.Prom, t_46.1.Inst])) hm rfl Try.underlying28 (by kernel_rfl) (by kernel_rfl) ⟨rfl, rfl, Try.underlying3, rfl, rfl, Try.underlying3, rfl, rfl, Try.underlying3, trivial⟩ rfl rfl rfl rfl (.inl ⟨rfl, rfl⟩) ?_
        clear hm a; intro a hm
        refine s_pick_t hm rfl rfl hc_70 rfl ?_
        clear hm a; intro a hm
        refine s_move hm rfl rfl ?_
        clear hm a; intro a hm
        by_cases hc_71 : [t_53.1.Inc, t_53.1.Prom, t_53.1.Inst] = [t_46.1.Inc, t_46.1.Prom, t_46.1.Inst]
        · rw [if_pos hc_71] at H
          refine s_on hm rfl rfl (beq_iff_eq.2 hc_71) ?_
          refine s_move hm rfl rfl ?_
          clear hm a; intro a hm
          refine s_on hm rfl rfl (beq_iff_eq.2 hc_71) ?_
          refine s_not hm rfl rfl ?_
          clear hm a; intro a hm
          refine s_pick_t hm rfl rfl (beq_iff_eq.2 hc_71) rfl ?_
          clear hm a; intro a hm
          refine s_move hm rfl rfl ?_
          clear hm a; intro a hm
          by_cases hc_72 : t_60.2 = true
          · rw [if_pos hc_72] at H
            cases H
          · rw [if_neg hc_72] at H
            refine s_on hm rfl rfl (nt (Bool.eq_false_iff.2 hc_72)) ?_
            refine s_fieldAddr hm rfl Try.underlying25 rfl ti23 rfl rfl ?_
            clear hm a; intro a hm
            refine s_on hm rfl rfl (nt (Bool.eq_false_iff.2 hc_72)) ?_
            refine s_load hm rfl rfl (hS.load_one (p := 3) rfl Try.underlying23 rfl rfl) ?_
            clear hm a; intro a hm
            refine s_on hm rfl rfl (nt (Bool.eq_false_iff.2 hc_72)) ?_
            refine s_lenO hm rfl Try.underlying23 rfl hr_6 ?_
            clear hm a; intro a hm
            refine s_on hm rfl rfl (nt (Bool.eq_false_iff.2 hc_72)) ?_
            refine s_cmp (b := decide ((t_1.A.length : Int) > 0)) hm rfl rfl rfl (.inr (.inr (.inr (.inr (.inl ⟨rfl, rfl⟩))))) ?_
            clear hm a; intro a hm
            refine s_pick_t hm rfl rfl (nt (Bool.eq_false_iff.2 hc_72)) rfl ?_
            clear hm a; intro a hm
            refine s_move hm rfl rfl ?_
            clear hm a; intro a hm
            by_cases hc_73 : (t_1.A.length : Int) > 0
            · rw [if_pos hc_73] at H
              refine s_on hm rfl rfl (decide_eq_true hc_73) ?_
              refine s_fieldAddr hm rfl Try.underlying25 rfl ti23 rfl rfl ?_
              clear hm a; intro a hm
              refine s_on hm rfl rfl (decide_eq_true hc_73) ?_
              refine s_load hm rfl rfl (hS.load_one (p := 3) rfl Try.underlying23 rfl rfl) ?_
              clear hm a; intro a hm
              refine s_on hm rfl rfl (decide_eq_true hc_73) ?_
              refine s_lenO hm rfl Try.underlying23 rfl hr_10 ?_
              clear hm a; intro a hm
              refine s_on hm rfl rfl (decide_eq_true hc_73) ?_
              refine s_cmp (b := ((t_1.B.length : Int) == 0)) hm rfl rfl rfl (.inl ⟨rfl, rfl⟩) ?_
              clear hm a; intro a hm
              refine s_pick_t hm rfl rfl (decide_eq_true hc_73) rfl ?_
              clear hm a; intro a hm
              refine s_move hm rfl rfl ?_
              clear hm a; intro a hm
              by_cases hc_74 : (t_1.B.length : Int) = 0
              · rw [if_pos hc_74] at H
                refine s_on hm rfl rfl (beq_iff_eq.2 hc_74) ?_
                refine s_fieldAddr hm rfl Try.underlying25 rfl ti23 rfl rfl ?_
                clear hm a; intro a hm
                refine s_on hm rfl rfl (beq_iff_eq.2 hc_74) ?_
                refine s_load hm rfl rfl (hS.load_one (p := 9) rfl Try.underlying23 rfl rfl) ?_
                clear hm a; intro a hm
                refine s_on hm rfl rfl (beq_iff_eq.2 hc_74) ?_
                refine s_lenO hm rfl Try.underlying23 rfl hr_36 ?_
                clear hm a; intro a hm
                refine s_on hm rfl rfl (beq_iff_eq.2 hc_74) ?_
                refine s_cmp (b := ((t_31.A.length : Int) == 5)) hm rfl rfl rfl (.inl ⟨rfl, rfl⟩) ?_
                clear hm a; intro a hm
                refine s_pick_t hm rfl rfl (beq_iff_eq.2 hc_74) rfl ?_
                clear hm a; intro a hm
                refine s_assign hm rfl rfl ?_
                clear hm a; intro a hm
                refine wpList_nil ?_
                replace hm : Fr 70 a [(0, .bool ((t_31.A.length : Int) == 5))] := hm.keep [0]
                refine x_then_n (hKJ_67 _ _ ?_)
                refine wp_ret ?_
                by_cases hc_75 : (t_31.A.length : Int) = 5
                · rw [if_pos hc_75] at H
                  exact f_ret hm (rs := [.tmp 0]) rfl (.tmp rfl .nil) ⟨_, rfl, N_63, (by rw [(beq_iff_eq.2 hc_75)]; rfl), (Sep.sel hS [0] (by decide))⟩
                · rw [if_neg hc_75] at H
                  cases H
              · rw [if_neg hc_74] at H
                cases H
            · rw [if_neg hc_73] at H
              cases H
        · rw [if_neg hc_71] at H
          cases H
      · rw [if_neg hc_70] at H
        cases H
    · rw [if_neg hc_69] at H
      cases H
  · rw [if_neg hc_68] at H
    cases H

set_option maxHeartbeats 4000000 in
set_option maxRecDepth 20000 in
theorem hocketlaw13_DiskPrefix.calls (K : Nat) (x0 : Int) (x1 : Int) (x2 : Int) (x3 : Int) (x4 : Int) (r : Unit) (w0 w : World) (Z A : Mem) (hA : A.le Z) (hS : Sep w0 w [] Z)
    (H : hocketlaw13_DiskPrefix.f K x0 x1 x2 x3 x4 = some r) :
    Calls Try.prog 4 [.int .i64 x0, .int .i64 x1, .int .i64 x2, .int .i64 x3, .int .i64 x4].toArray w (Ret fun v w' => ∃ (N : Mem), v = .bool true ∧ Sep w0 w' [N] Z) := by
  unfold hocketlaw13_DiskPrefix.f at H
  refine f_enter _ Try.func4 rfl Try.ntmps4 rfl fun a hm => ?_
  replace hm : Fr 111 a [(0, .int .i64 x0), (1, .int .i64 x1), (2, .int .i64 x2), (3, .int .i64 x3), (4, .int .i64 x4)] := hm
  replace hS := hS.start
  replace hS : Sep w0 w [Mem.no] Z := hS
  refine wp_seq ?_
  refine wp_region_lit ?_
  refine s_assign hm rfl rfl ?_
  clear hm a; intro a hm
  refine wpList_nil ?_
  replace hm : Fr 111 a [(0, .int .i64 x0), (1, .int .i64 x1), (2, .int .i64 x2), (3, .int .i64 x3), (4, .int .i64 x4), (10, .bool false)] := hm.keep [0, 1, 2, 3, 4, 10]
  refine x_then_n ?_
  refine wp_seq ?_
  refine wp_region_lit ?_
  refine s_move hm rfl rfl ?_
  clear hm a; intro a hm
  refine s_bits (i := x1) (j := 16777215) (r := band .i64 x1 16777215) hm rfl rfl rfl (.inl ⟨rfl, rfl⟩) ?_
  clear hm a; intro a hm
  refine s_move hm rfl rfl ?_
  clear hm a; intro a hm
  refine s_bits (i := x2) (j := 16777215) (r := band .i64 x2 16777215) hm rfl rfl rfl (.inl ⟨rfl, rfl⟩) ?_
  clear hm a; intro a hm
  refine s_move hm rfl rfl ?_
  clear hm a; intro a hm
  refine s_bits (i := x3) (j := 16777215) (r := band .i64 x3 16777215) hm rfl rfl rfl (.inl ⟨rfl, rfl⟩) ?_
  clear hm a; intro a hm
  refine s_build hm rfl ti28 pl28 rfl (.cons rfl (.cons rfl (.cons rfl .nil))) (cs := [.int .i64 (band .i64 x1 16777215), .int .i64 (band .i64 x2 16777215), .int .i64 (band .i64 x3 16777215)]) rfl ?_
  clear hm a; intro a hm
  refine v_alloc hm rfl ti28 hS ?_
  intro w_1 g_2 hS'
  clear hm a; intro a hm
  replace hS : Sep w0 w_1 [Mem.no, Mem.one g_2 (.cells ([.int .i64 0, .int .i64 0, .int .i64 0] : List Value).toArray 28 (0, 0))] Z := hS'
  clear hS'
  obtain ⟨w_3, hs', hS'⟩ := hS.store (P := Try.prog) (p := 1) (o := 0) (t := 28) (v := .agg [.int .i64 (band .i64 x1 16777215), .int .i64 (band .i64 x2 16777215), .int .i64 (band .i64 x3 16777215)].toArray) (vs := [.int .i64 (band .i64 x1 16777215), .int .i64 (band .i64 x2 16777215), .int .i64 (band .i64 x3 16777215)]) rfl ti28 rfl rfl rfl (by intro u hu; simp only [List.mem_cons, List.not_mem_nil, or_false] at hu; rcases hu with rfl | rfl | rfl <;> rfl)
  refine s_store hm rfl rfl hs' ?_
  replace hS : Sep w0 w_3 [Mem.no, Mem.one g_2 (.cells ([.int .i64 (band .i64 x1 16777215), .int .i64 (band .i64 x2 16777215), .int .i64 (band .i64 x3 16777215)] : List Value).toArray 28 (0, 0))] Z := hS'
  clear hs' hS'
  refine wpList_nil ?_
  replace hm : Fr 111 a [(0, .int .i64 x0), (4, .int .i64 x4), (10, .bool false), (11, .pointer (some ⟨g_2, 0, none⟩))] := hm.keep [0, 4, 10, 11]
  refine x_then_n ?_
  refine wp_seq ?_
  refine wp_region_lit ?_
  refine s_move hm rfl rfl ?_
  clear hm a; intro a hm
  refine s_bits (i := x0) (j := 65535) (r := band .i64 x0 65535) hm rfl rfl rfl (.inl ⟨rfl, rfl⟩) ?_
  clear hm a; intro a hm
  refine s_load hm rfl rfl (hS.load_agg (p := 1) (us := [.int .i64 (band .i64 x1 16777215), .int .i64 (band .i64 x2 16777215), .int .i64 (band .i64 x3 16777215)]) rfl Try.underlying28 rfl ti28 rfl rfl) ?_
  clear hm a; intro a hm
  obtain ⟨t_4, et_4, H⟩ := Option.bind_eq_some_iff.1 H
  refine s_call hm rfl Try.call14 rfl (disk_Slot.calls K (band .i64 x0 65535) (⟨band .i64 x1 16777215, band .i64 x2 16777215, band .i64 x3 16777215⟩ : api_Record) t_4 w0 _ _ _ (Mem.le.refl _) (hS.enter [] (by decide))  et_4) ?_
  rintro v_8 w_5 ⟨_, N_6, M_10, rfl, hS', hr_9⟩
  clear hm a; intro a hm
  obtain ⟨N_7, hS'', le_7, ln_7⟩ := hS.call [] (by decide) rfl (l' := []) (ow := [M_10]) rfl hS'
  replace hS : Sep w0 w_5 [N_7, Mem.one g_2 (.cells ([.int .i64 (band .i64 x1 16777215), .int .i64 (band .i64 x2 16777215), .int .i64 (band .i64 x3 16777215)] : List Value).toArray 28 (0, 0)), M_10] Z := hS''
  clear hS' hS''
  refine s_assign hm rfl rfl ?_
  clear hm a; intro a hm
  refine wpList_nil ?_
  replace hm : Fr 111 a [(4, .int .i64 x4), (10, .bool false), (11, .pointer (some ⟨g_2, 0, none⟩)), (12, v_8)] := hm.keep [4, 10, 11, 12]
  refine x_then_n ?_
  refine wp_seq ?_
  refine wp_region_lit ?_
  refine s_move hm rfl rfl ?_
  clear hm a; intro a hm
  refine s_build hm rfl ti25 pl25 rfl (.cons hr_9.cells .nil) (cs := [.slice none 0 0, v_8]) rfl ?_
  clear hm a; intro a hm
  obtain ⟨t_12, et_12, H⟩ := Option.bind_eq_some_iff.1 H
  refine s_call hm rfl Try.call12 rfl (disk_Read.calls K (⟨([] : List UInt8), t_4⟩ : api_Disk) _ _ t_12 w0 _ _ _ (Mem.le.refl _) (hS.enter [] (by decide)) (Rd.nil _ _) (hr_9.rd (hS.own_zed [] 1 (by decide)) (Mem.no_le _)) et_12) ?_
  rintro _ w_13 ⟨N_14, rfl, hS'⟩
  clear hm a; intro a hm
  obtain ⟨N_15, hS'', le_15, ln_15⟩ := hS.call [] (by decide) rfl (l' := []) (ow := []) rfl hS'
  replace hS : Sep w0 w_13 [N_15, Mem.one g_2 (.cells ([.int .i64 (band .i64 x1 16777215), .int .i64 (band .i64 x2 16777215), .int .i64 (band .i64 x3 16777215)] : List Value).toArray 28 (0, 0)), M_10] Z := hS''
  clear hS' hS''
  refine s_move hm rfl rfl ?_
  clear hm a; intro a hm
  refine s_extract hm rfl rfl rfl ?_
  clear hm a; intro a hm
  refine s_extract hm rfl rfl rfl ?_
  clear hm a; intro a hm
  refine v_alloc hm rfl ti28 hS ?_
  intro w_16 g_17 hS'
  clear hm a; intro a hm
  replace hS : Sep w0 w_16 [N_15, Mem.one g_2 (.cells ([.int .i64 (band .i64 x1 16777215), .int .i64 (band .i64 x2 16777215), .int .i64 (band .i64 x3 16777215)] : List Value).toArray 28 (0, 0)), M_10, Mem.one g_17 (.cells ([.int .i64 0, .int .i64 0, .int .i64 0] : List Value).toArray 28 (0, 0))] Z := hS'
  clear hS'
  obtain ⟨w_18, hs', hS'⟩ := hS.store (P := Try.prog) (p := 3) (o := 0) (t := 28) (v := .agg [.int .i64 t_12.1.Inc, .int .i64 t_12.1.Prom, .int .i64 t_12.1.Inst].toArray) (vs := [.int .i64 t_12.1.Inc, .int .i64 t_12.1.Prom, .int .i64 t_12.1.Inst]) rfl ti28 rfl rfl rfl (by intro u hu; simp only [List.mem_cons, List.not_mem_nil, or_false] at hu; rcases hu with rfl | rfl | rfl <;> rfl)
  refine s_store hm rfl rfl hs' ?_
  replace hS : Sep w0 w_18 [N_15, Mem.one g_2 (.cells ([.int .i64 (band .i64 x1 16777215), .int .i64 (band .i64 x2 16777215), .int .i64 (band .i64 x3 16777215)] : List Value).toArray 28 (0, 0)), M_10, Mem.one g_17 (.cells ([.int .i64 t_12.1.Inc, .int .i64 t_12.1.Prom, .int .i64 t_12.1.Inst] : List Value).toArray 28 (0, 0))] Z := hS'
  clear hs' hS'
  refine s_assign hm rfl rfl ?_
  clear hm a; intro a hm
  refine wpList_nil ?_
  replace hm : Fr 111 a [(4, .int .i64 x4), (10, .bool false), (11, .pointer (some ⟨g_2, 0, none⟩)), (12, v_8), (13, .pointer (some ⟨g_17, 0, none⟩)), (14, .bool t_12.2)] := hm.keep [4, 10, 11, 12, 13, 14]
  refine x_then_n ?_
  refine c_seq fun KJ_19 hKJ_19 => ?_
  refine c_seq fun KJ_20 hKJ_20 => ?_
  have hJ_j_24 : ∀ (x_22 : Bool), hocketlaw13_DiskPrefix.J1 K x4 t_4 x_22 = some r → ∀ (a : Act) (w_23 : World), (∃ (N_21 : Mem), Fr 111 a [(4, .int .i64 x4), (10, .bool false), (12, v_8), (47, .bool x_22)] ∧ Sep w0 w_23 [N_21, Mem.no, M_10, Mem.no] Z ∧ N_15.le N_21) → KJ_20 a w_23 := by
    clear H hm hS a
    rintro x_22 H a w_23 ⟨N_21, hm, hS, le_21⟩
    unfold hocketlaw13_DiskPrefix.J1 at H
    refine hKJ_20 _ _ ?_
    by_cases hc_25 : x_22 = true
    · rw [if_pos hc_25] at H
      cases H
    · rw [if_neg hc_25] at H
      refine c_cond_f hm rfl (Bool.eq_false_iff.2 hc_25) ?_
      refine wp_skip ?_
      refine x_then_n (hKJ_19 _ _ ?_)
      refine c_seq fun KJ_26 hKJ_26 => ?_
      refine wp_seq ?_
      refine wp_region_lit ?_
      refine s_assign hm rfl rfl ?_
      clear hm a; intro a hm
      refine wpList_nil ?_
      replace hm : Fr 111 a [(4, .int .i64 x4), (10, .bool false), (12, v_8), (15, .int .i64 0)] := hm.keep [4, 10, 12, 15]
      refine x_then_n ?_
      have hJ_j_32 : ∀ (x_28 : List UInt8), hocketlaw13_DiskPrefix.J2 K x4 x_28 = some r → ∀ (a : Act) (w_31 : World), (∃ (v_29 : Value) (N_27 : Mem), Fr 111 a [(4, .int .i64 x4), (10, .bool false), (12, v_29)] ∧ Sep w0 w_31 [N_27, Mem.no, Mem.no, Mem.no] Z ∧ N_21.le N_27 ∧ Rd Kd.u8 N_27 v_29 x_28) → KJ_26 a w_31 := by
        clear H hm hS a
        rintro x_28 H a w_31 ⟨v_29, N_27, hm, hS, le_27, hr_30⟩
        unfold hocketlaw13_DiskPrefix.J2 at H
        refine hKJ_26 _ _ ?_
        refine wp_seq ?_
        refine wp_region_lit ?_
        have hq_37 : Reps Kd.u8 Mem.no ([] : List UInt8) _ := (Reps.nil Kd.u8 _)
        refine s_buildSlice hm rfl Try.underlying23 ti5 rfl rfl rfl .nil rfl rfl rfl hS hq_37 rfl ?_
        intro w_33 v_34 M_35 hS' ho_36
        clear hm a; intro a hm
        replace hS : Sep w0 w_33 [N_27, Mem.no, Mem.no, Mem.no, M_35] Z := hS'
        clear hS' hq_37
        refine s_move hm rfl rfl ?_
        clear hm a; intro a hm
        obtain ⟨t_39, et_39, H⟩ := Option.bind_eq_some_iff.1 H
        refine s_append (J := Mem.no) (I' := Mem.no) (p := 4) 140737488355328 hm rfl rfl rfl Try.underlying23 ti5 rfl rfl rfl rfl hS rfl ho_36 (Src.flat flat_u8 (hr_30.src ((Mem.le.refl _).trans (hS.own 0)))) (Mem.le.refl _) (Mem.le.refl _) et_39 ?_
        intro w_40 v_41 M_42 hS' ho_43
        clear hm a; intro a hm
        replace hS : Sep w0 w_40 [N_27, Mem.no, Mem.no, Mem.no, M_42] Z := hS'
        clear hS'
        refine s_assign hm rfl rfl ?_
        clear hm a; intro a hm
        refine wpList_nil ?_
        replace hm : Fr 111 a [(4, .int .i64 x4), (10, .bool false), (12, v_29), (18, v_41)] := hm.keep [4, 10, 12, 18]
        refine x_then_n ?_
        refine wp_seq ?_
        refine wp_region_lit ?_
        refine s_move hm rfl rfl ?_
        clear hm a; intro a hm
        refine s_bits (i := x4) (j := 65535) (r := band .i64 x4 65535) hm rfl rfl rfl (.inl ⟨rfl, rfl⟩) ?_
        clear hm a; intro a hm
        refine s_move hm rfl rfl ?_
        clear hm a; intro a hm
        refine s_lenO hm rfl Try.underlying23 rfl ho_43 ?_
        clear hm a; intro a hm
        refine s_arith (r := w64 (8 * (t_39.length : Int))) hm rfl rfl rfl (.inr (.inr ⟨rfl, rfl⟩)) ?_
        clear hm a; intro a hm
        obtain ⟨t_45, et_45, H⟩ := Option.bind_eq_some_iff.1 H
        refine s_div (r := t_45) hm rfl rfl rfl (rem_some et_45).1 (.inr ⟨rfl, (rem_some et_45).2⟩) ?_
        clear hm a; intro a hm
        refine s_assign hm rfl rfl ?_
        clear hm a; intro a hm
        refine wpList_nil ?_
        replace hm : Fr 111 a [(10, .bool false), (12, v_29), (18, v_41), (19, .int .i64 t_45)] := hm.keep [10, 12, 18, 19]
        refine x_then_n ?_
        refine wp_seq ?_
        refine wp_region_lit ?_
        refine s_move hm rfl rfl ?_
        clear hm a; intro a hm
        refine s_move hm rfl rfl ?_
        clear hm a; intro a hm
        refine s_div (r := w64 (Int.tdiv t_45 8)) hm rfl rfl rfl (by decide) (.inl ⟨rfl, rfl⟩) ?_
        clear hm a; intro a hm
        refine s_move hm rfl rfl ?_
        clear hm a; intro a hm
        refine s_move hm rfl rfl ?_
        clear hm a; intro a hm
        refine s_div (r := w64 (Int.tdiv t_45 8)) hm rfl rfl rfl (by decide) (.inl ⟨rfl, rfl⟩) ?_
        clear hm a; intro a hm
        obtain ⟨t_46, et_46, H⟩ := Option.bind_eq_some_iff.1 H
        refine v_indexO hm rfl Try.underlying23 ti5 rfl rfl rfl ho_43 (hS.own 4) et_46 ?_
        intro ad_47 cs_48 hk_49 hc_50
        obtain rfl := (show cs_48 = [.int .u8 (t_46.toNat : Int)] from hk_49)
        clear hm a; intro a hm
        refine s_load hm rfl rfl (el_one (o := 0) hc_50 Try.underlying5 rfl rfl) ?_
        clear hm a; intro a hm
        refine s_move hm rfl rfl ?_
        clear hm a; intro a hm
        refine s_bits (i := t_45) (j := 7) (r := band .i64 t_45 7) hm rfl rfl rfl (.inl ⟨rfl, rfl⟩) ?_
        clear hm a; intro a hm
        refine s_conv (wu64 (band .i64 t_45 7)) hm rfl Try.underlying3 Try.underlying26 rfl rfl ?_
        clear hm a; intro a hm
        refine s_shift (r := ((toU8 (((1 : UInt8).toNat : Int) * 2 ^ (min (wu64 (band .i64 t_45 7) : Int).toNat 8))).toNat : Int)) hm rfl rfl rfl (wu64_nn _) (.inl ⟨rfl, (wrap_u8 _).symm⟩) ?_
        clear hm a; intro a hm
        refine s_bits (i := (t_46.toNat : Int)) (j := ((toU8 (((1 : UInt8).toNat : Int) * 2 ^ (min (wu64 (band .i64 t_45 7) : Int).toNat 8))).toNat : Int)) (r := ((t_46 ^^^ (toU8 (((1 : UInt8).toNat : Int) * 2 ^ (min (wu64 (band .i64 t_45 7) : Int).toNat 8)))).toNat : Int)) hm rfl rfl rfl (.inr (.inr (.inl ⟨rfl, (bxor8 _ _).symm⟩))) ?_
        clear hm a; intro a hm
        obtain ⟨t_51, et_51, H⟩ := Option.bind_eq_some_iff.1 H
        refine s_indexOwn hm rfl Try.underlying23 ti5 rfl rfl rfl ho_43 et_51 ?_
        intro g_52 cur_53 hM_54
        clear hm a; intro a hm
        obtain ⟨w_55, M_56, hs', hS', ho_57⟩ := Own.stored (P := Try.prog) (p := 4) (t := 5) (o := 0) (nv := .int .u8 ((t_46 ^^^ (toU8 (((1 : UInt8).toNat : Int) * 2 ^ (min (wu64 (band .i64 t_45 7) : Int).toNat 8)))).toNat : Int)) (vs := [.int .u8 ((t_46 ^^^ (toU8 (((1 : UInt8).toNat : Int) * 2 ^ (min (wu64 (band .i64 t_45 7) : Int).toNat 8)))).toNat : Int)]) (u' := t_46 ^^^ (toU8 (((1 : UInt8).toNat : Int) * 2 ^ (min (wu64 (band .i64 t_45 7) : Int).toNat 8)))) hS rfl ho_43 hM_54 et_51 ti5 rfl rfl rfl (by intro u hu; simp only [List.mem_cons, List.not_mem_nil, or_false] at hu; rcases hu with rfl <;> rfl) (fun cs hk => by obtain rfl := (show cs = [_] from hk); rfl)
        refine s_store hm rfl rfl hs' ?_
        replace hS : Sep w0 w_55 [N_27, Mem.no, Mem.no, Mem.no, M_56] Z := hS'
        clear hs' hS'
        refine wpList_nil ?_
        replace hm : Fr 111 a [(10, .bool false), (12, v_29), (18, v_41)] := hm.keep [10, 12, 18]
        refine x_then_n ?_
        refine wp_seq ?_
        refine wp_region_lit ?_
        refine s_move hm rfl rfl ?_
        clear hm a; intro a hm
        refine s_build hm rfl ti25 pl25 rfl (.cons ho_57.cells .nil) (cs := [v_41, .slice none 0 0]) rfl ?_
        clear hm a; intro a hm
        obtain ⟨t_58, et_58, H⟩ := Option.bind_eq_some_iff.1 H
        refine s_call hm rfl Try.call12 rfl (disk_Read.calls K (⟨(t_39.set ((w64 (Int.tdiv t_45 8))).toNat (t_46 ^^^ (toU8 (((1 : UInt8).toNat : Int) * 2 ^ (min (wu64 (band .i64 t_45 7) : Int).toNat 8))))), ([] : List UInt8)⟩ : api_Disk) _ _ t_58 w0 _ _ _ (Mem.le.refl _) (hS.enter [] (by decide)) (ho_57.rd (hS.own_zed [] 3 (by decide)) (Mem.no_le _)) (Rd.nil _ _) et_58) ?_
        rintro _ w_59 ⟨N_60, rfl, hS'⟩
        clear hm a; intro a hm
        obtain ⟨N_61, hS'', le_61, ln_61⟩ := hS.call [] (by decide) rfl (l' := []) (ow := []) rfl hS'
        replace hS : Sep w0 w_59 [N_61, Mem.no, Mem.no, Mem.no, M_56] Z := hS''
        clear hS' hS''
        refine s_move hm rfl rfl ?_
        clear hm a; intro a hm
        refine s_extract hm rfl rfl rfl ?_
        clear hm a; intro a hm
        refine s_extract hm rfl rfl rfl ?_
        clear hm a; intro a hm
        refine v_alloc hm rfl ti28 hS ?_
        intro w_62 g_63 hS'
        clear hm a; intro a hm
        replace hS : Sep w0 w_62 [N_61, Mem.no, Mem.no, Mem.no, M_56, Mem.one g_63 (.cells ([.int .i64 0, .int .i64 0, .int .i64 0] : List Value).toArray 28 (0, 0))] Z := hS'
        clear hS'
        obtain ⟨w_64, hs', hS'⟩ := hS.store (P := Try.prog) (p := 5) (o := 0) (t := 28) (v := .agg [.int .i64 t_58.1.Inc, .int .i64 t_58.1.Prom, .int .i64 t_58.1.Inst].toArray) (vs := [.int .i64 t_58.1.Inc, .int .i64 t_58.1.Prom, .int .i64 t_58.1.Inst]) rfl ti28 rfl rfl rfl (by intro u hu; simp only [List.mem_cons, List.not_mem_nil, or_false] at hu; rcases hu with rfl | rfl | rfl <;> rfl)
        refine s_store hm rfl rfl hs' ?_
        replace hS : Sep w0 w_64 [N_61, Mem.no, Mem.no, Mem.no, M_56, Mem.one g_63 (.cells ([.int .i64 t_58.1.Inc, .int .i64 t_58.1.Prom, .int .i64 t_58.1.Inst] : List Value).toArray 28 (0, 0))] Z := hS'
        clear hs' hS'
        refine s_assign hm rfl rfl ?_
        clear hm a; intro a hm
        refine wpList_nil ?_
        replace hm : Fr 111 a [(10, .bool false), (12, v_29), (21, .bool t_58.2)] := hm.keep [10, 12, 21]
        refine x_then_n ?_
        refine wp_seq ?_
        refine wp_region_lit ?_
        have hq_69 : Reps Kd.u8 Mem.no ([] : List UInt8) _ := (Reps.nil Kd.u8 _)
        refine s_buildSlice hm rfl Try.underlying23 ti5 rfl rfl rfl .nil rfl rfl rfl hS hq_69 rfl ?_
        intro w_65 v_66 M_67 hS' ho_68
        clear hm a; intro a hm
        replace hS : Sep w0 w_65 [N_61, Mem.no, Mem.no, Mem.no, M_56, Mem.one g_63 (.cells ([.int .i64 t_58.1.Inc, .int .i64 t_58.1.Prom, .int .i64 t_58.1.Inst] : List Value).toArray 28 (0, 0)), M_67] Z := hS'
        clear hS' hq_69
        refine s_move hm rfl rfl ?_
        clear hm a; intro a hm
        obtain ⟨t_71, et_71, H⟩ := Option.bind_eq_some_iff.1 H
        refine s_append (J := Mem.no) (I' := Mem.no) (p := 6) 140737488355328 hm rfl rfl rfl Try.underlying23 ti5 rfl rfl rfl rfl hS rfl ho_68 (Src.flat flat_u8 (hr_30.src (le_61.trans (hS.own 0)))) (Mem.le.refl _) (Mem.le.refl _) et_71 ?_
        intro w_72 v_73 M_74 hS' ho_75
        clear hm a; intro a hm
        replace hS : Sep w0 w_72 [N_61, Mem.no, Mem.no, Mem.no, M_56, Mem.one g_63 (.cells ([.int .i64 t_58.1.Inc, .int .i64 t_58.1.Prom, .int .i64 t_58.1.Inst] : List Value).toArray 28 (0, 0)), M_74] Z := hS'
        clear hS'
        have hq_81 : Reps Kd.u8 Mem.no ([(0 : UInt8)] : List UInt8) _ := ((Reps.one (d := Kd.u8) (x := (0 : UInt8)) (show Kd.u8.K _ _ [.int .u8 ((0 : UInt8).toNat : Int)] from rfl)).append (Reps.nil Kd.u8 _))
        refine s_buildSlice hm rfl Try.underlying23 ti5 rfl rfl rfl (.cons rfl .nil) rfl rfl rfl hS hq_81 rfl ?_
        intro w_77 v_78 M_79 hS' ho_80
        clear hm a; intro a hm
        replace hS : Sep w0 w_77 [N_61, Mem.no, Mem.no, Mem.no, M_56, Mem.one g_63 (.cells ([.int .i64 t_58.1.Inc, .int .i64 t_58.1.Prom, .int .i64 t_58.1.Inst] : List Value).toArray 28 (0, 0)), M_74, M_79] Z := hS'
        clear hS' hq_81
        obtain ⟨t_83, et_83, H⟩ := Option.bind_eq_some_iff.1 H
        refine s_append (J := Mem.no) (I' := Mem.no) (p := 6) 140737488355328 hm rfl rfl rfl Try.underlying23 ti5 rfl rfl rfl rfl hS rfl ho_75 (Src.flat flat_u8 (ho_80.src (hS.own 7))) (Mem.le.refl _) (Mem.le.refl _) et_83 ?_
        intro w_84 v_85 M_86 hS' ho_87
        clear hm a; intro a hm
        replace hS : Sep w0 w_84 [N_61, Mem.no, Mem.no, Mem.no, M_56, Mem.one g_63 (.cells ([.int .i64 t_58.1.Inc, .int .i64 t_58.1.Prom, .int .i64 t_58.1.Inst] : List Value).toArray 28 (0, 0)), M_86, M_79] Z := hS'
        clear hS'
        refine s_build hm rfl ti25 pl25 rfl (.cons ho_87.cells .nil) (cs := [v_85, .slice none 0 0]) rfl ?_
        clear hm a; intro a hm
        obtain ⟨t_89, et_89, H⟩ := Option.bind_eq_some_iff.1 H
        refine s_call hm rfl Try.call12 rfl (disk_Read.calls K (⟨t_83, ([] : List UInt8)⟩ : api_Disk) _ _ t_89 w0 _ _ _ (Mem.le.refl _) (hS.enter [] (by decide)) (ho_87.rd (hS.own_zed [] 5 (by decide)) (Mem.no_le _)) (Rd.nil _ _) et_89) ?_
        rintro _ w_90 ⟨N_91, rfl, hS'⟩
        clear hm a; intro a hm
        obtain ⟨N_92, hS'', le_92, ln_92⟩ := hS.call [] (by decide) rfl (l' := []) (ow := []) rfl hS'
        replace hS : Sep w0 w_90 [N_92, Mem.no, Mem.no, Mem.no, M_56, Mem.one g_63 (.cells ([.int .i64 t_58.1.Inc, .int .i64 t_58.1.Prom, .int .i64 t_58.1.Inst] : List Value).toArray 28 (0, 0)), M_86, M_79] Z := hS''
        clear hS' hS''
        refine s_move hm rfl rfl ?_
        clear hm a; intro a hm
        refine s_extract hm rfl rfl rfl ?_
        clear hm a; intro a hm
        refine s_extract hm rfl rfl rfl ?_
        clear hm a; intro a hm
        refine v_alloc hm rfl ti28 hS ?_
        intro w_93 g_94 hS'
        clear hm a; intro a hm
        replace hS : Sep w0 w_93 [N_92, Mem.no, Mem.no, Mem.no, M_56, Mem.one g_63 (.cells ([.int .i64 t_58.1.Inc, .int .i64 t_58.1.Prom, .int .i64 t_58.1.Inst] : List Value).toArray 28 (0, 0)), M_86, M_79, Mem.one g_94 (.cells ([.int .i64 0, .int .i64 0, .int .i64 0] : List Value).toArray 28 (0, 0))] Z := hS'
        clear hS'
        obtain ⟨w_95, hs', hS'⟩ := hS.store (P := Try.prog) (p := 8) (o := 0) (t := 28) (v := .agg [.int .i64 t_89.1.Inc, .int .i64 t_89.1.Prom, .int .i64 t_89.1.Inst].toArray) (vs := [.int .i64 t_89.1.Inc, .int .i64 t_89.1.Prom, .int .i64 t_89.1.Inst]) rfl ti28 rfl rfl rfl (by intro u hu; simp only [List.mem_cons, List.not_mem_nil, or_false] at hu; rcases hu with rfl | rfl | rfl <;> rfl)
        refine s_store hm rfl rfl hs' ?_
        replace hS : Sep w0 w_95 [N_92, Mem.no, Mem.no, Mem.no, M_56, Mem.one g_63 (.cells ([.int .i64 t_58.1.Inc, .int .i64 t_58.1.Prom, .int .i64 t_58.1.Inst] : List Value).toArray 28 (0, 0)), M_86, M_79, Mem.one g_94 (.cells ([.int .i64 t_89.1.Inc, .int .i64 t_89.1.Prom, .int .i64 t_89.1.Inst] : List Value).toArray 28 (0, 0))] Z := hS'
        clear hs' hS'
        refine s_assign hm rfl rfl ?_
        clear hm a; intro a hm
        refine wpList_nil ?_
        replace hm : Fr 111 a [(10, .bool false), (21, .bool t_58.2), (23, .bool t_89.2)] := hm.keep [10, 21, 23]
        refine x_then_n ?_
        refine c_seq fun KJ_96 hKJ_96 => ?_
        refine wp_region_lit ?_
        refine s_move hm rfl rfl ?_
        clear hm a; intro a hm
        refine s_not hm rfl rfl ?_
        clear hm a; intro a hm
        refine s_move hm rfl rfl ?_
        clear hm a; intro a hm
        by_cases hc_97 : t_58.2 = true
        · rw [if_pos hc_97] at H
          cases H
        · rw [if_neg hc_97] at H
          refine s_on hm rfl rfl (nt (Bool.eq_false_iff.2 hc_97)) ?_
          refine s_move hm rfl rfl ?_
          clear hm a; intro a hm
          refine s_on hm rfl rfl (nt (Bool.eq_false_iff.2 hc_97)) ?_
          refine s_not hm rfl rfl ?_
          clear hm a; intro a hm
          refine s_pick_t hm rfl rfl (nt (Bool.eq_false_iff.2 hc_97)) rfl ?_
          clear hm a; intro a hm
          refine s_move hm rfl rfl ?_
          clear hm a; intro a hm
          by_cases hc_98 : t_89.2 = true
          · rw [if_pos hc_98] at H
            cases H
          · rw [if_neg hc_98] at H
            refine s_on hm rfl rfl (nt (Bool.eq_false_iff.2 hc_98)) ?_
            obtain ⟨t_99, et_99, H⟩ := Option.bind_eq_some_iff.1 H
            refine s_call hm rfl Try.call13 rfl (hocketlaw13_awake.calls K  t_99 w0 _ _ _ (Mem.le.refl _) (hS.enter [] (by decide))  et_99) ?_
            rintro _ w_100 ⟨N_101, rfl, hS'⟩
            clear hm a; intro a hm
            obtain ⟨N_102, hS'', le_102, ln_102⟩ := hS.call [] (by decide) rfl (l' := []) (ow := []) rfl hS'
            replace hS : Sep w0 w_100 [N_102, Mem.no, Mem.no, Mem.no, M_56, Mem.one g_63 (.cells ([.int .i64 t_58.1.Inc, .int .i64 t_58.1.Prom, .int .i64 t_58.1.Inst] : List Value).toArray 28 (0, 0)), M_86, M_79, Mem.one g_94 (.cells ([.int .i64 t_89.1.Inc, .int .i64 t_89.1.Prom, .int .i64 t_89.1.Inst] : List Value).toArray 28 (0, 0))] Z := hS''
            clear hS' hS''
            refine s_pick_t hm rfl rfl (nt (Bool.eq_false_iff.2 hc_98)) rfl ?_
            clear hm a; intro a hm
            refine s_assign hm rfl rfl ?_
            clear hm a; intro a hm
            refine wpList_nil ?_
            replace hm : Fr 111 a [(10, .bool true)] := hm.keep [10]
            refine x_then_n (hKJ_96 _ _ ?_)
            refine wp_ret ?_
            exact f_ret hm (rs := [.tmp 10]) rfl (.tmp rfl .nil) ⟨_, rfl, N_102, rfl, (Sep.sel hS [0] (by decide))⟩
      clear hKJ_26
      obtain ⟨N_110, hS', le_110, lo_110⟩ := hS.freeze 1 rfl
      replace hS : Sep w0 w_23 [N_110, Mem.no, Mem.no, Mem.no] Z := hS'
      clear hS'
      replace hS : Sep w0 w_23 [N_110, Mem.no, Mem.no, Mem.no] Z := hS
      replace hm : Fr 111 a [(4, .int .i64 x4), (10, .bool false), (12, v_8), (15, .int .i64 0)] := hm.keep [4, 10, 12, 15]
      refine c_block ?_
      refine c_loop (fun k_108 a w_108 => ∃ (x_104 : List UInt8) (x_107 : Int) (v_105 : Value) (N_103 : Mem), hocketlaw13_DiskPrefix.L1 K (fun v => hocketlaw13_DiskPrefix.J2 K x4 v) k_108 (x_104, x_107) = some r ∧ Fr 111 a [(4, .int .i64 x4), (10, .bool false), (12, v_105), (15, .int .i64 x_107)] ∧ Sep w0 w_108 [N_103, Mem.no, Mem.no, Mem.no] Z ∧ N_21.le N_103 ∧ Rd Kd.u8 N_103 v_105 x_104) K ⟨t_4, 0, v_8, N_110, H, hm, (Sep.sel hS [0, 1000, 1001, 1002] (by decide)), le_110, (hr_9.rd lo_110 (Mem.no_le _))⟩ (fun a w h => by obtain ⟨_, _, _, _, H, _⟩ := h; cases (show (none : Option (Unit)) = some r from H)) ?_
      clear hm hS a H
      rintro k_108 a w_108 KL_108 hKL_108 ⟨x_104, x_107, v_105, N_103, H, hm, hS, le_103, hr_106⟩
      replace H : hocketlaw13_DiskPrefix.B1 K (fun v => hocketlaw13_DiskPrefix.J2 K x4 v) (hocketlaw13_DiskPrefix.L1 K (fun v => hocketlaw13_DiskPrefix.J2 K x4 v) k_108) x_104 x_107 = some r := H
      unfold hocketlaw13_DiskPrefix.B1 at H
      refine c_seq fun KJ_111 hKJ_111 => ?_
      refine wp_seq ?_
      refine wp_region_lit ?_
      refine s_move hm rfl rfl ?_
      clear hm a; intro a hm
      refine s_move hm rfl rfl ?_
      clear hm a; intro a hm
      refine s_len hm rfl Try.underlying23 rfl hr_106 ?_
      clear hm a; intro a hm
      refine s_cmp (b := decide (x_107 < (x_104.length : Int))) hm rfl rfl rfl (.inr (.inr (.inl ⟨rfl, rfl⟩))) ?_
      clear hm a; intro a hm
      refine wpList_nil ?_
      replace hm : Fr 111 a [(4, .int .i64 x4), (10, .bool false), (12, v_105), (15, .int .i64 x_107), (51, .bool (decide (x_107 < (x_104.length : Int))))] := hm.keep [4, 10, 12, 15, 51]
      refine x_then_n ?_
      by_cases hc_112 : x_107 < (x_104.length : Int)
      · rw [if_pos hc_112] at H
        refine c_cond_t hm rfl (decide_eq_true hc_112) ?_
        refine wp_skip ?_
        refine x_then_n (hKJ_111 _ _ ?_)
        refine c_seq fun KJ_113 hKJ_113 => ?_
        refine c_block ?_
        refine wp_seq ?_
        refine wp_region_lit ?_
        refine s_move hm rfl rfl ?_
        clear hm a; intro a hm
        refine s_move hm rfl rfl ?_
        clear hm a; intro a hm
        obtain ⟨t_114, et_114, H⟩ := Option.bind_eq_some_iff.1 H
        refine s_slice hm rfl Try.underlying23 ti5 rfl rfl hr_106 rfl rfl et_114 ?_
        intro v_115 hr_116
        clear hm a; intro a hm
        refine s_build hm rfl ti25 pl25 rfl (.cons hr_116.cells .nil) (cs := [v_115, .slice none 0 0]) rfl ?_
        clear hm a; intro a hm
        obtain ⟨t_117, et_117, H⟩ := Option.bind_eq_some_iff.1 H
        refine s_call hm rfl Try.call12 rfl (disk_Read.calls K (⟨t_114, ([] : List UInt8)⟩ : api_Disk) _ _ t_117 w0 _ _ _ (Mem.le.refl _) (hS.enter [] (by decide)) (hr_116.mono ((Mem.le.refl _).trans (hS.new_zed []))) (Rd.nil _ _) et_117) ?_
        rintro _ w_118 ⟨N_119, rfl, hS'⟩
        clear hm a; intro a hm
        obtain ⟨N_120, hS'', le_120, ln_120⟩ := hS.call [] (by decide) rfl (l' := []) (ow := []) rfl hS'
        replace hS : Sep w0 w_118 [N_120, Mem.no, Mem.no, Mem.no] Z := hS''
        clear hS' hS''
        refine s_move hm rfl rfl ?_
        clear hm a; intro a hm
        refine s_extract hm rfl rfl rfl ?_
        clear hm a; intro a hm
        refine s_extract hm rfl rfl rfl ?_
        clear hm a; intro a hm
        refine v_alloc hm rfl ti28 hS ?_
        intro w_121 g_122 hS'
        clear hm a; intro a hm
        replace hS : Sep w0 w_121 [N_120, Mem.no, Mem.no, Mem.no, Mem.one g_122 (.cells ([.int .i64 0, .int .i64 0, .int .i64 0] : List Value).toArray 28 (0, 0))] Z := hS'
        clear hS'
        obtain ⟨w_123, hs', hS'⟩ := hS.store (P := Try.prog) (p := 4) (o := 0) (t := 28) (v := .agg [.int .i64 t_117.1.Inc, .int .i64 t_117.1.Prom, .int .i64 t_117.1.Inst].toArray) (vs := [.int .i64 t_117.1.Inc, .int .i64 t_117.1.Prom, .int .i64 t_117.1.Inst]) rfl ti28 rfl rfl rfl (by intro u hu; simp only [List.mem_cons, List.not_mem_nil, or_false] at hu; rcases hu with rfl | rfl | rfl <;> rfl)
        refine s_store hm rfl rfl hs' ?_
        replace hS : Sep w0 w_123 [N_120, Mem.no, Mem.no, Mem.no, Mem.one g_122 (.cells ([.int .i64 t_117.1.Inc, .int .i64 t_117.1.Prom, .int .i64 t_117.1.Inst] : List Value).toArray 28 (0, 0))] Z := hS'
        clear hs' hS'
        refine s_assign hm rfl rfl ?_
        clear hm a; intro a hm
        refine wpList_nil ?_
        replace hm : Fr 111 a [(4, .int .i64 x4), (10, .bool false), (12, v_105), (15, .int .i64 x_107), (17, .bool t_117.2)] := hm.keep [4, 10, 12, 15, 17]
        refine x_then_n ?_
        refine wp_seq ?_
        refine wp_region_lit ?_
        refine s_move hm rfl rfl ?_
        clear hm a; intro a hm
        refine wpList_nil ?_
        replace hm : Fr 111 a [(4, .int .i64 x4), (10, .bool false), (12, v_105), (15, .int .i64 x_107), (62, .bool t_117.2)] := hm.keep [4, 10, 12, 15, 62]
        refine x_then_n ?_
        by_cases hc_124 : t_117.2 = true
        · rw [if_pos hc_124] at H
          cases H
        · rw [if_neg hc_124] at H
          refine c_cond_f hm rfl (Bool.eq_false_iff.2 hc_124) ?_
          refine wp_skip ?_
          refine x_block_n ?_
          refine x_then_n (hKJ_113 _ _ ?_)
          refine wp_region_lit ?_
          refine s_move hm rfl rfl ?_
          clear hm a; intro a hm
          refine s_arith (r := w64 (x_107 + 1)) hm rfl rfl rfl (.inl ⟨rfl, rfl⟩) ?_
          clear hm a; intro a hm
          refine s_assign hm rfl rfl ?_
          clear hm a; intro a hm
          refine wpList_nil ?_
          replace hm : Fr 111 a [(4, .int .i64 x4), (10, .bool false), (12, v_105), (15, .int .i64 (w64 (x_107 + 1)))] := hm.keep [4, 10, 12, 15]
          refine x_then_n (hKL_108 _ _ ?_)
          replace hS : Sep w0 w_123 [N_120, Mem.no, Mem.no, Mem.no, Mem.one g_122 (.cells ([.int .i64 t_117.1.Inc, .int .i64 t_117.1.Prom, .int .i64 t_117.1.Inst] : List Value).toArray 28 (0, 0))] Z := hS
          replace hm : Fr 111 a [(4, .int .i64 x4), (10, .bool false), (12, v_105), (15, .int .i64 (w64 (x_107 + 1)))] := hm.keep [4, 10, 12, 15]
          exact ⟨x_104, w64 (x_107 + 1), v_105, N_120, H, hm, (Sep.sel hS [0, 1000, 1001, 1002] (by decide)), (le_103.trans le_120), (hr_106.mono le_120)⟩
      · rw [if_neg hc_112] at H
        refine c_cond_f hm rfl (decide_eq_false hc_112) ?_
        refine wp_exit (x_then_x (x_then_x (x_block_t ?_)))
        replace hS : Sep w0 w_108 [N_103, Mem.no, Mem.no, Mem.no] Z := hS
        replace hm : Fr 111 a [(4, .int .i64 x4), (10, .bool false), (12, v_105)] := hm.keep [4, 10, 12]
        exact x_then_n (hJ_j_32 x_104 H _ _ ⟨v_105, N_103, hm, (Sep.sel hS [0, 1000, 1001, 1002] (by decide)), le_103, hr_106⟩)
  clear hKJ_20
  refine wp_region_lit ?_
  refine s_move hm rfl rfl ?_
  clear hm a; intro a hm
  refine s_not hm rfl rfl ?_
  clear hm a; intro a hm
  refine s_move hm rfl rfl ?_
  clear hm a; intro a hm
  by_cases hc_125 : t_12.2 = true
  · rw [if_pos hc_125] at H
    refine s_on hm rfl rfl (nf hc_125) ?_
    refine s_load hm rfl rfl (hS.load_agg (p := 3) (us := [.int .i64 t_12.1.Inc, .int .i64 t_12.1.Prom, .int .i64 t_12.1.Inst]) rfl Try.underlying28 rfl ti28 rfl rfl) ?_
    clear hm a; intro a hm
    refine s_on hm rfl rfl (nf hc_125) ?_
    refine s_load hm rfl rfl (hS.load_agg (p := 1) (us := [.int .i64 (band .i64 x1 16777215), .int .i64 (band .i64 x2 16777215), .int .i64 (band .i64 x3 16777215)]) rfl Try.underlying28 rfl ti28 rfl rfl) ?_
    clear hm a; intro a hm
    refine s_on hm rfl rfl (nf hc_125) ?_
    refine s_structEq (xs := [t_12.1.Inc, t_12.1.Prom, t_12.1.Inst]) (ys := [band .i64 x1 16777215, band .i64 x2 16777215, band .i64 x3 16777215]) (b := !([t_12.1.Inc, t_12.1.Prom, t_12.1.Inst] == [band .i64 x1 16777215, band .i64 x2 16777215, band .i64 x3 16777215])) hm rfl Try.underlying28 (by kernel_rfl) (by kernel_rfl) ⟨rfl, rfl, Try.underlying3, rfl, rfl, Try.underlying3, rfl, rfl, Try.underlying3, trivial⟩ rfl rfl rfl rfl (.inr ⟨rfl, rfl⟩) ?_
    clear hm a; intro a hm
    refine s_pick_f hm rfl rfl (nf hc_125) rfl ?_
    clear hm a; intro a hm
    refine wpList_nil ?_
    replace hm : Fr 111 a [(4, .int .i64 x4), (10, .bool false), (12, v_8), (47, .bool (!([t_12.1.Inc, t_12.1.Prom, t_12.1.Inst] == [band .i64 x1 16777215, band .i64 x2 16777215, band .i64 x3 16777215])))] := hm.keep [4, 10, 12, 47]
    replace hS : Sep w0 w_18 [N_15, Mem.one g_2 (.cells ([.int .i64 (band .i64 x1 16777215), .int .i64 (band .i64 x2 16777215), .int .i64 (band .i64 x3 16777215)] : List Value).toArray 28 (0, 0)), M_10, Mem.one g_17 (.cells ([.int .i64 t_12.1.Inc, .int .i64 t_12.1.Prom, .int .i64 t_12.1.Inst] : List Value).toArray 28 (0, 0))] Z := hS
    replace hm : Fr 111 a [(4, .int .i64 x4), (10, .bool false), (12, v_8), (47, .bool (!([t_12.1.Inc, t_12.1.Prom, t_12.1.Inst] == [band .i64 x1 16777215, band .i64 x2 16777215, band .i64 x3 16777215])))] := hm.keep [4, 10, 12, 47]
    exact x_then_n (hJ_j_24 (!([t_12.1.Inc, t_12.1.Prom, t_12.1.Inst] == [band .i64 x1 16777215, band .i64 x2 16777215, band .i64 x3 16777215])) H _ _ ⟨N_15, hm, (Sep.sel hS [0, 1000, 2, 1002] (by decide)), (Mem.le.refl _)⟩)
  · rw [if_neg hc_125] at H
    refine s_off hm rfl rfl rfl (nt (Bool.eq_false_iff.2 hc_125)) ?_
    clear hm a; intro a hm
    refine s_off hm rfl rfl rfl (nt (Bool.eq_false_iff.2 hc_125)) ?_
    clear hm a; intro a hm
    refine s_off hm rfl rfl rfl (nt (Bool.eq_false_iff.2 hc_125)) ?_
    clear hm a; intro a hm
    refine s_pick_t hm rfl rfl (nt (Bool.eq_false_iff.2 hc_125)) rfl ?_
    clear hm a; intro a hm
    refine wpList_nil ?_
    replace hm : Fr 111 a [(4, .int .i64 x4), (10, .bool false), (12, v_8), (47, .bool true)] := hm.keep [4, 10, 12, 47]
    replace hS : Sep w0 w_18 [N_15, Mem.one g_2 (.cells ([.int .i64 (band .i64 x1 16777215), .int .i64 (band .i64 x2 16777215), .int .i64 (band .i64 x3 16777215)] : List Value).toArray 28 (0, 0)), M_10, Mem.one g_17 (.cells ([.int .i64 t_12.1.Inc, .int .i64 t_12.1.Prom, .int .i64 t_12.1.Inst] : List Value).toArray 28 (0, 0))] Z := hS
    replace hm : Fr 111 a [(4, .int .i64 x4), (10, .bool false), (12, v_8), (47, .bool true)] := hm.keep [4, 10, 12, 47]
    exact x_then_n (hJ_j_24 true H _ _ ⟨N_15, hm, (Sep.sel hS [0, 1000, 2, 1002] (by decide)), (Mem.le.refl _)⟩)


end Go.Proofs
