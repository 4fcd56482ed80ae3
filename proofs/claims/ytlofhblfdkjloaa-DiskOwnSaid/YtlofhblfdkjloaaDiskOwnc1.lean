/- What the calls do: each function once. -/
import Derived.Test.YtlofhblfdkjloaaDiskOwnc0
namespace Go.Proofs
open Go.Gp
set_option linter.unusedVariables false
set_option maxHeartbeats 4000000 in
set_option maxRecDepth 20000 in
theorem hocketlaw13_awake.calls (K : Nat) (r : Unit) (w0 w : World) (Z A : Mem) (hA : A.le Z) (hS : Sep w0 w [] Z)
    (H : hocketlaw13_awake.f K = some r) :
    Calls Try.prog 13 [].toArray w (Ret fun v w' => ∃ (N : Mem), v = .bool true ∧ Sep w0 w' [N] Z) := by
  unfold hocketlaw13_awake.f at H
  refine f_enter _ Try.func13 rfl Try.ntmps13 rfl fun a hm => ?_
  replace hm : Fr 70 a [] := hm
  replace hS := hS.start
  replace hS : Sep w0 w [Mem.no] Z := hS
  refine wp_seq ?_
  refine wp_region_lit ?_
  refine s_assign hm rfl rfl ?_
  clear hm a; intro a hm
  refine wpList_nil ?_
  replace hm : Fr 70 a [(0, .bool false)] := hm.keep [0]
  refine x_then_n ?_
  refine wp_seq ?_
  refine wp_region_lit ?_
  refine s_build hm rfl ti25 pl25 rfl .nil (cs := [.slice none 0 0, .slice none 0 0]) rfl ?_
  clear hm a; intro a hm
  refine s_build hm rfl ti28 pl28 rfl (.cons rfl .nil) (cs := [.int .i64 1, .int .i64 0, .int .i64 0]) rfl ?_
  clear hm a; intro a hm
  obtain ⟨t_1, et_1, H⟩ := Option.bind_eq_some_iff.1 H
  refine s_call hm rfl Try.call11 rfl (disk_Write.calls K (⟨([] : List UInt8), ([] : List UInt8)⟩ : api_Disk) _ _ (⟨1, 0, 0⟩ : api_Record) (-1) t_1 w0 _ _ _ (Mem.le.refl _) (hS.enter [] (by decide)) (Rd.nil _ _) (Rd.nil _ _) et_1) ?_
  rintro _ w_2 ⟨v_5, v_9, N_3, M_7, M_11, rfl, hS', hr_6, hr_10⟩
  clear hm a; intro a hm
  obtain ⟨N_4, hS'', le_4, ln_4⟩ := hS.call [] (by decide) rfl (l' := []) (ow := [M_7, M_11]) rfl hS'
  replace hS : Sep w0 w_2 [N_4, M_7, M_11] Z := hS''
  clear hS' hS''
  refine v_alloc hm rfl ti25 hS ?_
  intro w_13 g_14 hS'
  clear hm a; intro a hm
  replace hS : Sep w0 w_13 [N_4, M_7, M_11, Mem.one g_14 (.cells ([.slice none 0 0, .slice none 0 0] : List Value).toArray 25 (0, 0))] Z := hS'
  clear hS'
  obtain ⟨w_15, hs', hS'⟩ := hS.store (P := Try.prog) (p := 3) (o := 0) (t := 25) (v := .agg [v_5, v_9].toArray) (vs := [v_5, v_9]) rfl ti25 rfl rfl rfl (by intro u hu; simp only [List.mem_cons, List.not_mem_nil, or_false] at hu; rcases hu with rfl | rfl <;> first | rfl | exact hr_6.one | exact hr_10.one)
  refine s_store hm rfl rfl hs' ?_
  replace hS : Sep w0 w_15 [N_4, M_7, M_11, Mem.one g_14 (.cells ([v_5, v_9] : List Value).toArray 25 (0, 0))] Z := hS'
  clear hs' hS'
  refine wpList_nil ?_
  replace hm : Fr 70 a [(0, .bool false), (1, .pointer (some ⟨g_14, 0, none⟩))] := hm.keep [0, 1]
  refine x_then_n ?_
  refine wp_seq ?_
  refine wp_region_lit ?_
  refine s_load hm rfl rfl (hS.load_agg (p := 3) (us := [v_5, v_9]) rfl Try.underlying25 rfl ti25 rfl rfl) ?_
  clear hm a; intro a hm
  refine s_build hm rfl ti28 pl28 rfl (.cons rfl (.cons rfl .nil)) (cs := [.int .i64 2, .int .i64 8, .int .i64 0]) rfl ?_
  clear hm a; intro a hm
  obtain ⟨t_16, et_16, H⟩ := Option.bind_eq_some_iff.1 H
  refine s_call hm rfl Try.call11 rfl (disk_Write.calls K t_1 _ _ (⟨2, 8, 0⟩ : api_Record) (-1) t_16 w0 _ _ _ (Mem.le.refl _) (hS.enter [] (by decide)) (hr_6.rd (hS.own_zed [] 0 (by decide)) (Mem.no_le _)) (hr_10.rd (hS.own_zed [] 1 (by decide)) (Mem.no_le _)) et_16) ?_
  rintro _ w_17 ⟨v_20, v_24, N_18, M_22, M_26, rfl, hS', hr_21, hr_25⟩
  clear hm a; intro a hm
  obtain ⟨N_19, hS'', le_19, ln_19⟩ := hS.call [] (by decide) rfl (l' := []) (ow := [M_22, M_26]) rfl hS'
  replace hS : Sep w0 w_17 [N_19, M_7, M_11, Mem.one g_14 (.cells ([v_5, v_9] : List Value).toArray 25 (0, 0)), M_22, M_26] Z := hS''
  clear hS' hS''
  refine v_alloc hm rfl ti25 hS ?_
  intro w_28 g_29 hS'
  clear hm a; intro a hm
  replace hS : Sep w0 w_28 [N_19, M_7, M_11, Mem.one g_14 (.cells ([v_5, v_9] : List Value).toArray 25 (0, 0)), M_22, M_26, Mem.one g_29 (.cells ([.slice none 0 0, .slice none 0 0] : List Value).toArray 25 (0, 0))] Z := hS'
  clear hS'
  obtain ⟨w_30, hs', hS'⟩ := hS.store (P := Try.prog) (p := 6) (o := 0) (t := 25) (v := .agg [v_20, v_24].toArray) (vs := [v_20, v_24]) rfl ti25 rfl rfl rfl (by intro u hu; simp only [List.mem_cons, List.not_mem_nil, or_false] at hu; rcases hu with rfl | rfl <;> first | rfl | exact hr_21.one | exact hr_25.one)
  refine s_store hm rfl rfl hs' ?_
  replace hS : Sep w0 w_30 [N_19, M_7, M_11, Mem.one g_14 (.cells ([v_5, v_9] : List Value).toArray 25 (0, 0)), M_22, M_26, Mem.one g_29 (.cells ([v_20, v_24] : List Value).toArray 25 (0, 0))] Z := hS'
  clear hs' hS'
  refine wpList_nil ?_
  replace hm : Fr 70 a [(0, .bool false), (1, .pointer (some ⟨g_14, 0, none⟩)), (2, .pointer (some ⟨g_29, 0, none⟩))] := hm.keep [0, 1, 2]
  refine x_then_n ?_
  refine wp_seq ?_
  refine wp_region_lit ?_
  refine s_load hm rfl rfl (hS.load_agg (p := 6) (us := [v_20, v_24]) rfl Try.underlying25 rfl ti25 rfl rfl) ?_
  clear hm a; intro a hm
  refine s_build hm rfl ti28 pl28 rfl (.cons rfl .nil) (cs := [.int .i64 3, .int .i64 0, .int .i64 0]) rfl ?_
  clear hm a; intro a hm
  obtain ⟨t_31, et_31, H⟩ := Option.bind_eq_some_iff.1 H
  refine s_call hm rfl Try.call11 rfl (disk_Write.calls K t_16 _ _ (⟨3, 0, 0⟩ : api_Record) 5 t_31 w0 _ _ _ (Mem.le.refl _) (hS.enter [] (by decide)) (hr_21.rd (hS.own_zed [] 3 (by decide)) (Mem.no_le _)) (hr_25.rd (hS.own_zed [] 4 (by decide)) (Mem.no_le _)) et_31) ?_
  rintro _ w_32 ⟨v_35, v_39, N_33, M_37, M_41, rfl, hS', hr_36, hr_40⟩
  clear hm a; intro a hm
  obtain ⟨N_34, hS'', le_34, ln_34⟩ := hS.call [] (by decide) rfl (l' := []) (ow := [M_37, M_41]) rfl hS'
  replace hS : Sep w0 w_32 [N_34, M_7, M_11, Mem.one g_14 (.cells ([v_5, v_9] : List Value).toArray 25 (0, 0)), M_22, M_26, Mem.one g_29 (.cells ([v_20, v_24] : List Value).toArray 25 (0, 0)), M_37, M_41] Z := hS''
  clear hS' hS''
  refine v_alloc hm rfl ti25 hS ?_
  intro w_43 g_44 hS'
  clear hm a; intro a hm
  replace hS : Sep w0 w_43 [N_34, M_7, M_11, Mem.one g_14 (.cells ([v_5, v_9] : List Value).toArray 25 (0, 0)), M_22, M_26, Mem.one g_29 (.cells ([v_20, v_24] : List Value).toArray 25 (0, 0)), M_37, M_41, Mem.one g_44 (.cells ([.slice none 0 0, .slice none 0 0] : List Value).toArray 25 (0, 0))] Z := hS'
  clear hS'
  obtain ⟨w_45, hs', hS'⟩ := hS.store (P := Try.prog) (p := 9) (o := 0) (t := 25) (v := .agg [v_35, v_39].toArray) (vs := [v_35, v_39]) rfl ti25 rfl rfl rfl (by intro u hu; simp only [List.mem_cons, List.not_mem_nil, or_false] at hu; rcases hu with rfl | rfl <;> first | rfl | exact hr_36.one | exact hr_40.one)
  refine s_store hm rfl rfl hs' ?_
  replace hS : Sep w0 w_45 [N_34, M_7, M_11, Mem.one g_14 (.cells ([v_5, v_9] : List Value).toArray 25 (0, 0)), M_22, M_26, Mem.one g_29 (.cells ([v_20, v_24] : List Value).toArray 25 (0, 0)), M_37, M_41, Mem.one g_44 (.cells ([v_35, v_39] : List Value).toArray 25 (0, 0))] Z := hS'
  clear hs' hS'
  refine wpList_nil ?_
  replace hm : Fr 70 a [(0, .bool false), (1, .pointer (some ⟨g_14, 0, none⟩)), (2, .pointer (some ⟨g_29, 0, none⟩)), (3, .pointer (some ⟨g_44, 0, none⟩))] := hm.keep [0, 1, 2, 3]
  refine x_then_n ?_
  refine wp_seq ?_
  refine wp_region_lit ?_
  refine s_load hm rfl rfl (hS.load_agg (p := 6) (us := [v_20, v_24]) rfl Try.underlying25 rfl ti25 rfl rfl) ?_
  clear hm a; intro a hm
  obtain ⟨t_46, et_46, H⟩ := Option.bind_eq_some_iff.1 H
  refine s_call hm rfl Try.call12 rfl (disk_Read.calls K t_16 _ _ t_46 w0 _ _ _ (Mem.le.refl _) (hS.enter [] (by decide)) (hr_21.rd (hS.own_zed [] 3 (by decide)) (Mem.no_le _)) (hr_25.rd (hS.own_zed [] 4 (by decide)) (Mem.no_le _)) et_46) ?_
  rintro _ w_47 ⟨N_48, rfl, hS'⟩
  clear hm a; intro a hm
  obtain ⟨N_49, hS'', le_49, ln_49⟩ := hS.call [] (by decide) rfl (l' := []) (ow := []) rfl hS'
  replace hS : Sep w0 w_47 [N_49, M_7, M_11, Mem.one g_14 (.cells ([v_5, v_9] : List Value).toArray 25 (0, 0)), M_22, M_26, Mem.one g_29 (.cells ([v_20, v_24] : List Value).toArray 25 (0, 0)), M_37, M_41, Mem.one g_44 (.cells ([v_35, v_39] : List Value).toArray 25 (0, 0))] Z := hS''
  clear hS' hS''
  refine s_move hm rfl rfl ?_
  clear hm a; intro a hm
  refine s_extract hm rfl rfl rfl ?_
  clear hm a; intro a hm
  refine s_extract hm rfl rfl rfl ?_
  clear hm a; intro a hm
  refine v_alloc hm rfl ti28 hS ?_
  intro w_50 g_51 hS'
  clear hm a; intro a hm
  replace hS : Sep w0 w_50 [N_49, M_7, M_11, Mem.one g_14 (.cells ([v_5, v_9] : List Value).toArray 25 (0, 0)), M_22, M_26, Mem.one g_29 (.cells ([v_20, v_24] : List Value).toArray 25 (0, 0)), M_37, M_41, Mem.one g_44 (.cells ([v_35, v_39] : List Value).toArray 25 (0, 0)), Mem.one g_51 (.cells ([.int .i64 0, .int .i64 0, .int .i64 0] : List Value).toArray 28 (0, 0))] Z := hS'
  clear hS'
  obtain ⟨w_52, hs', hS'⟩ := hS.store (P := Try.prog) (p := 10) (o := 0) (t := 28) (v := .agg [.int .i64 t_46.1.Inc, .int .i64 t_46.1.Prom, .int .i64 t_46.1.Inst].toArray) (vs := [.int .i64 t_46.1.Inc, .int .i64 t_46.1.Prom, .int .i64 t_46.1.Inst]) rfl ti28 rfl rfl rfl (by intro u hu; simp only [List.mem_cons, List.not_mem_nil, or_false] at hu; rcases hu with rfl | rfl | rfl <;> rfl)
  refine s_store hm rfl rfl hs' ?_
  replace hS : Sep w0 w_52 [N_49, M_7, M_11, Mem.one g_14 (.cells ([v_5, v_9] : List Value).toArray 25 (0, 0)), M_22, M_26, Mem.one g_29 (.cells ([v_20, v_24] : List Value).toArray 25 (0, 0)), M_37, M_41, Mem.one g_44 (.cells ([v_35, v_39] : List Value).toArray 25 (0, 0)), Mem.one g_51 (.cells ([.int .i64 t_46.1.Inc, .int .i64 t_46.1.Prom, .int .i64 t_46.1.Inst] : List Value).toArray 28 (0, 0))] Z := hS'
  clear hs' hS'
  refine s_assign hm rfl rfl ?_
  clear hm a; intro a hm
  refine wpList_nil ?_
  replace hm : Fr 70 a [(0, .bool false), (1, .pointer (some ⟨g_14, 0, none⟩)), (3, .pointer (some ⟨g_44, 0, none⟩)), (4, .pointer (some ⟨g_51, 0, none⟩)), (5, .bool t_46.2)] := hm.keep [0, 1, 3, 4, 5]
  refine x_then_n ?_
  refine wp_seq ?_
  refine wp_region_lit ?_
  refine s_load hm rfl rfl (hS.load_agg (p := 9) (us := [v_35, v_39]) rfl Try.underlying25 rfl ti25 rfl rfl) ?_
  clear hm a; intro a hm
  obtain ⟨t_53, et_53, H⟩ := Option.bind_eq_some_iff.1 H
  refine s_call hm rfl Try.call12 rfl (disk_Read.calls K t_31 _ _ t_53 w0 _ _ _ (Mem.le.refl _) (hS.enter [] (by decide)) (hr_36.rd (hS.own_zed [] 6 (by decide)) (Mem.no_le _)) (hr_40.rd (hS.own_zed [] 7 (by decide)) (Mem.no_le _)) et_53) ?_
  rintro _ w_54 ⟨N_55, rfl, hS'⟩
  clear hm a; intro a hm
  obtain ⟨N_56, hS'', le_56, ln_56⟩ := hS.call [] (by decide) rfl (l' := []) (ow := []) rfl hS'
  replace hS : Sep w0 w_54 [N_56, M_7, M_11, Mem.one g_14 (.cells ([v_5, v_9] : List Value).toArray 25 (0, 0)), M_22, M_26, Mem.one g_29 (.cells ([v_20, v_24] : List Value).toArray 25 (0, 0)), M_37, M_41, Mem.one g_44 (.cells ([v_35, v_39] : List Value).toArray 25 (0, 0)), Mem.one g_51 (.cells ([.int .i64 t_46.1.Inc, .int .i64 t_46.1.Prom, .int .i64 t_46.1.Inst] : List Value).toArray 28 (0, 0))] Z := hS''
  clear hS' hS''
  refine s_move hm rfl rfl ?_
  clear hm a; intro a hm
  refine s_extract hm rfl rfl rfl ?_
  clear hm a; intro a hm
  refine s_extract hm rfl rfl rfl ?_
  clear hm a; intro a hm
  refine v_alloc hm rfl ti28 hS ?_
  intro w_57 g_58 hS'
  clear hm a; intro a hm
  replace hS : Sep w0 w_57 [N_56, M_7, M_11, Mem.one g_14 (.cells ([v_5, v_9] : List Value).toArray 25 (0, 0)), M_22, M_26, Mem.one g_29 (.cells ([v_20, v_24] : List Value).toArray 25 (0, 0)), M_37, M_41, Mem.one g_44 (.cells ([v_35, v_39] : List Value).toArray 25 (0, 0)), Mem.one g_51 (.cells ([.int .i64 t_46.1.Inc, .int .i64 t_46.1.Prom, .int .i64 t_46.1.Inst] : List Value).toArray 28 (0, 0)), Mem.one g_58 (.cells ([.int .i64 0, .int .i64 0, .int .i64 0] : List Value).toArray 28 (0, 0))] Z := hS'
  clear hS'
  obtain ⟨w_59, hs', hS'⟩ := hS.store (P := Try.prog) (p := 11) (o := 0) (t := 28) (v := .agg [.int .i64 t_53.1.Inc, .int .i64 t_53.1.Prom, .int .i64 t_53.1.Inst].toArray) (vs := [.int .i64 t_53.1.Inc, .int .i64 t_53.1.Prom, .int .i64 t_53.1.Inst]) rfl ti28 rfl rfl rfl (by intro u hu; simp only [List.mem_cons, List.not_mem_nil, or_false] at hu; rcases hu with rfl | rfl | rfl <;> rfl)
  refine s_store hm rfl rfl hs' ?_
  replace hS : Sep w0 w_59 [N_56, M_7, M_11, Mem.one g_14 (.cells ([v_5, v_9] : List Value).toArray 25 (0, 0)), M_22, M_26, Mem.one g_29 (.cells ([v_20, v_24] : List Value).toArray 25 (0, 0)), M_37, M_41, Mem.one g_44 (.cells ([v_35, v_39] : List Value).toArray 25 (0, 0)), Mem.one g_51 (.cells ([.int .i64 t_46.1.Inc, .int .i64 t_46.1.Prom, .int .i64 t_46.1.Inst] : List Value).toArray 28 (0, 0)), Mem.one g_58 (.cells ([.int .i64 t_53.1.Inc, .int .i64 t_53.1.Prom, .int .i64 t_53.1.Inst] : List Value).toArray 28 (0, 0))] Z := hS'
  clear hs' hS'
  refine s_assign hm rfl rfl ?_
  clear hm a; intro a hm
  refine wpList_nil ?_
  replace hm : Fr 70 a [(0, .bool false), (1, .pointer (some ⟨g_14, 0, none⟩)), (3, .pointer (some ⟨g_44, 0, none⟩)), (4, .pointer (some ⟨g_51, 0, none⟩)), (5, .bool t_46.2), (6, .pointer (some ⟨g_58, 0, none⟩)), (7, .bool t_53.2)] := hm.keep [0, 1, 3, 4, 5, 6, 7]
  refine x_then_n ?_
  refine wp_seq ?_
  refine wp_region_lit ?_
  refine s_build hm rfl ti25 pl25 rfl .nil (cs := [.slice none 0 0, .slice none 0 0]) rfl ?_
  clear hm a; intro a hm
  obtain ⟨t_60, et_60, H⟩ := Option.bind_eq_some_iff.1 H
  refine s_call hm rfl Try.call12 rfl (disk_Read.calls K (⟨([] : List UInt8), ([] : List UInt8)⟩ : api_Disk) _ _ t_60 w0 _ _ _ (Mem.le.refl _) (hS.enter [] (by decide)) (Rd.nil _ _) (Rd.nil _ _) et_60) ?_
  rintro _ w_61 ⟨N_62, rfl, hS'⟩
  clear hm a; intro a hm
  obtain ⟨N_63, hS'', le_63, ln_63⟩ := hS.call [] (by decide) rfl (l' := []) (ow := []) rfl hS'
  replace hS : Sep w0 w_61 [N_63, M_7, M_11, Mem.one g_14 (.cells ([v_5, v_9] : List Value).toArray 25 (0, 0)), M_22, M_26, Mem.one g_29 (.cells ([v_20, v_24] : List Value).toArray 25 (0, 0)), M_37, M_41, Mem.one g_44 (.cells ([v_35, v_39] : List Value).toArray 25 (0, 0)), Mem.one g_51 (.cells ([.int .i64 t_46.1.Inc, .int .i64 t_46.1.Prom, .int .i64 t_46.1.Inst] : List Value).toArray 28 (0, 0)), Mem.one g_58 (.cells ([.int .i64 t_53.1.Inc, .int .i64 t_53.1.Prom, .int .i64 t_53.1.Inst] : List Value).toArray 28 (0, 0))] Z := hS''
  clear hS' hS''
  refine s_move hm rfl rfl ?_
  clear hm a; intro a hm
  refine s_extract hm rfl rfl rfl ?_
  clear hm a; intro a hm
  refine s_extract hm rfl rfl rfl ?_
  clear hm a; intro a hm
  refine v_alloc hm rfl ti28 hS ?_
  intro w_64 g_65 hS'
  clear hm a; intro a hm
  replace hS : Sep w0 w_64 [N_63, M_7, M_11, Mem.one g_14 (.cells ([v_5, v_9] : List Value).toArray 25 (0, 0)), M_22, M_26, Mem.one g_29 (.cells ([v_20, v_24] : List Value).toArray 25 (0, 0)), M_37, M_41, Mem.one g_44 (.cells ([v_35, v_39] : List Value).toArray 25 (0, 0)), Mem.one g_51 (.cells ([.int .i64 t_46.1.Inc, .int .i64 t_46.1.Prom, .int .i64 t_46.1.Inst] : List Value).toArray 28 (0, 0)), Mem.one g_58 (.cells ([.int .i64 t_53.1.Inc, .int .i64 t_53.1.Prom, .int .i64 t_53.1.Inst] : List Value).toArray 28 (0, 0)), Mem.one g_65 (.cells ([.int .i64 0, .int .i64 0, .int .i64 0] : List Value).toArray 28 (0, 0))] Z := hS'
  clear hS'
  obtain ⟨w_66, hs', hS'⟩ := hS.store (P := Try.prog) (p := 12) (o := 0) (t := 28) (v := .agg [.int .i64 t_60.1.Inc, .int .i64 t_60.1.Prom, .int .i64 t_60.1.Inst].toArray) (vs := [.int .i64 t_60.1.Inc, .int .i64 t_60.1.Prom, .int .i64 t_60.1.Inst]) rfl ti28 rfl rfl rfl (by intro u hu; simp only [List.mem_cons, List.not_mem_nil, or_false] at hu; rcases hu with rfl | rfl | rfl <;> rfl)
  refine s_store hm rfl rfl hs' ?_
  replace hS : Sep w0 w_66 [N_63, M_7, M_11, Mem.one g_14 (.cells ([v_5, v_9] : List Value).toArray 25 (0, 0)), M_22, M_26, Mem.one g_29 (.cells ([v_20, v_24] : List Value).toArray 25 (0, 0)), M_37, M_41, Mem.one g_44 (.cells ([v_35, v_39] : List Value).toArray 25 (0, 0)), Mem.one g_51 (.cells ([.int .i64 t_46.1.Inc, .int .i64 t_46.1.Prom, .int .i64 t_46.1.Inst] : List Value).toArray 28 (0, 0)), Mem.one g_58 (.cells ([.int .i64 t_53.1.Inc, .int .i64 t_53.1.Prom, .int .i64 t_53.1.Inst] : List Value).toArray 28 (0, 0)), Mem.one g_65 (.cells ([.int .i64 t_60.1.Inc, .int .i64 t_60.1.Prom, .int .i64 t_60.1.Inst] : List Value).toArray 28 (0, 0))] Z := hS'
  clear hs' hS'
  refine s_assign hm rfl rfl ?_
  clear hm a; intro a hm
  refine wpList_nil ?_
  replace hm : Fr 70 a [(0, .bool false), (1, .pointer (some ⟨g_14, 0, none⟩)), (3, .pointer (some ⟨g_44, 0, none⟩)), (4, .pointer (some ⟨g_51, 0, none⟩)), (5, .bool t_46.2), (6, .pointer (some ⟨g_58, 0, none⟩)), (7, .bool t_53.2), (9, .bool t_60.2)] := hm.keep [0, 1, 3, 4, 5, 6, 7, 9]
  refine x_then_n ?_
  refine c_seq fun KJ_67 hKJ_67 => ?_
  refine wp_region_lit ?_
  refine s_move hm rfl rfl ?_
  clear hm a; intro a hm
  refine s_move hm rfl rfl ?_
  clear hm a; intro a hm
  by_cases hc_68 : t_46.2 = true
  · rw [if_pos hc_68] at H
    refine s_on hm rfl rfl hc_68 ?_
    refine s_load hm rfl rfl (hS.load_agg (p := 10) (us := [.int .i64 t_46.1.Inc, .int .i64 t_46.1.Prom, .int .i64 t_46.1.Inst]) rfl Try.underlying28 rfl ti28 rfl rfl) ?_
    clear hm a; intro a hm
    refine s_on hm rfl rfl hc_68 ?_
    refine s_build hm rfl ti28 pl28 rfl (.cons rfl (.cons rfl .nil)) (cs := [.int .i64 2, .int .i64 8, .int .i64 0]) rfl ?_
    clear hm a; intro a hm
    refine s_on hm rfl rfl hc_68 ?_
    refine s_structEq (xs := [t_46.1.Inc, t_46.1.Prom, t_46.1.Inst]) (ys := [2, 8, 0]) (b := ([t_46.1.Inc, t_46.1.Prom, t_46.1.Inst] == [2, 8, 0])) hm rfl Try.underlying28 (by kernel_rfl) (by kernel_rfl) ⟨rfl, rfl, Try.underlying3, rfl, rfl, Try.underlying3, rfl, rfl, Try.underlying3, trivial⟩ rfl rfl rfl rfl (.inl ⟨rfl, rfl⟩) ?_
    clear hm a; intro a hm
    refine s_pick_t hm rfl rfl hc_68 rfl ?_
    clear hm a; intro a hm
    refine s_move hm rfl rfl ?_
    clear hm a; intro a hm
    by_cases hc_69 : [t_46.1.Inc, t_46.1.Prom, t_46.1.Inst] = [2, 8, 0]
    · rw [if_pos hc_69] at H
      refine s_on hm rfl rfl (beq_iff_eq.2 hc_69) ?_
      refine s_move hm rfl rfl ?_
      clear hm a; intro a hm
      refine s_pick_t hm rfl rfl (beq_iff_eq.2 hc_69) rfl ?_
      clear hm a; intro a hm
      refine s_move hm rfl rfl ?_
      clear hm a; intro a hm
      by_cases hc_70 : t_53.2 = true
      · rw [if_pos hc_70] at H
        refine s_on hm rfl rfl hc_70 ?_
        refine s_load hm rfl rfl (hS.load_agg (p := 11) (us := [.int .i64 t_53.1.Inc, .int .i64 t_53.1.Prom, .int .i64 t_53.1.Inst]) rfl Try.underlying28 rfl ti28 rfl rfl) ?_
        clear hm a; intro a hm
        refine s_on hm rfl rfl hc_70 ?_
        refine s_load hm rfl rfl (hS.load_agg (p := 10) (us := [.int .i64 t_46.1.Inc, .int .i64 t_46.1.Prom, .int .i64 t_46.1.Inst]) rfl Try.underlying28 rfl ti28 rfl rfl) ?_
        clear hm a; intro a hm
        refine s_on hm rfl rfl hc_70 ?_
        refine s_structEq (xs := [t_53.1.Inc, t_53.1.Prom, t_53.1.Inst]) (ys := [t_46.1.Inc, t_46.1.Prom, t_46.1.Inst]) (b := ([t_53.1.Inc, t_53.1.Prom, t_53.1.Inst] == [t_46.1.Inc, t_46.1.Prom, t_46.1.Inst])) hm rfl Try.underlying28 (by kernel_rfl) (by kernel_rfl) ⟨rfl, rfl, Try.underlying3, rfl, rfl, Try.underlying3, rfl, rfl, Try.underlying3, trivial⟩ rfl rfl rfl rfl (.inl ⟨rfl, rfl⟩) ?_
        clear hm a; intro a hm
        refine s_pick_t hm rfl rfl hc_70 rfl ?_
        clear hm a; intro a hm
        refine s_move hm rfl rfl ?_
        clear hm a; intro a hm
        by_cases hc_71 : [t_53.1.Inc, t_53.1.Prom, t_53.1.Inst] = [t_46.1.Inc, t_46.1.Prom, t_46.1.Inst]
        · rw [if_pos hc_71] at H
          refine s_on hm rfl rfl (beq_iff_eq.2 hc_71) ?_
          refine s_move hm rfl rfl ?_
          clear hm a; intro a hm
          refine s_on hm rfl rfl (beq_iff_eq.2 hc_71) ?_
          refine s_not hm rfl rfl ?_
          clear hm a; intro a hm
          refine s_pick_t hm rfl rfl (beq_iff_eq.2 hc_71) rfl ?_
          clear hm a; intro a hm
          refine s_move hm rfl rfl ?_
          clear hm a; intro a hm
          by_cases hc_72 : t_60.2 = true
          · rw [if_pos hc_72] at H
            cases H
          · rw [if_neg hc_72] at H
            refine s_on hm rfl rfl (nt (Bool.eq_false_iff.2 hc_72)) ?_
            refine s_fieldAddr hm rfl Try.underlying25 rfl ti23 rfl rfl ?_
            clear hm a; intro a hm
            refine s_on hm rfl rfl (nt (Bool.eq_false_iff.2 hc_72)) ?_
            refine s_load hm rfl rfl (hS.load_one (p := 3) rfl Try.underlying23 rfl rfl) ?_
            clear hm a; intro a hm
            refine s_on hm rfl rfl (nt (Bool.eq_false_iff.2 hc_72)) ?_
            refine s_lenO hm rfl Try.underlying23 rfl hr_6 ?_
            clear hm a; intro a hm
            refine s_on hm rfl rfl (nt (Bool.eq_false_iff.2 hc_72)) ?_
            refine s_cmp (b := decide ((t_1.A.length : Int) > 0)) hm rfl rfl rfl (.inr (.inr (.inr (.inr (.inl ⟨rfl, rfl⟩))))) ?_
            clear hm a; intro a hm
            refine s_pick_t hm rfl rfl (nt (Bool.eq_false_iff.2 hc_72)) rfl ?_
            clear hm a; intro a hm
            refine s_move hm rfl rfl ?_
            clear hm a; intro a hm
            by_cases hc_73 : (t_1.A.length : Int) > 0
            · rw [if_pos hc_73] at H
              refine s_on hm rfl rfl (decide_eq_true hc_73) ?_
              refine s_fieldAddr hm rfl Try.underlying25 rfl ti23 rfl rfl ?_
              clear hm a; intro a hm
              refine s_on hm rfl rfl (decide_eq_true hc_73) ?_
              refine s_load hm rfl rfl (hS.load_one (p := 3) rfl Try.underlying23 rfl rfl) ?_
              clear hm a; intro a hm
              refine s_on hm rfl rfl (decide_eq_true hc_73) ?_
              refine s_lenO hm rfl Try.underlying23 rfl hr_10 ?_
              clear hm a; intro a hm
              refine s_on hm rfl rfl (decide_eq_true hc_73) ?_
              refine s_cmp (b := ((t_1.B.length : Int) == 0)) hm rfl rfl rfl (.inl ⟨rfl, rfl⟩) ?_
              clear hm a; intro a hm
              refine s_pick_t hm rfl rfl (decide_eq_true hc_73) rfl ?_
              clear hm a; intro a hm
              refine s_move hm rfl rfl ?_
              clear hm a; intro a hm
              by_cases hc_74 : (t_1.B.length : Int) = 0
              · rw [if_pos hc_74] at H
                refine s_on hm rfl rfl (beq_iff_eq.2 hc_74) ?_
                refine s_fieldAddr hm rfl Try.underlying25 rfl ti23 rfl rfl ?_
                clear hm a; intro a hm
                refine s_on hm rfl rfl (beq_iff_eq.2 hc_74) ?_
                refine s_load hm rfl rfl (hS.load_one (p := 9) rfl Try.underlying23 rfl rfl) ?_
                clear hm a; intro a hm
                refine s_on hm rfl rfl (beq_iff_eq.2 hc_74) ?_
                refine s_lenO hm rfl Try.underlying23 rfl hr_36 ?_
                clear hm a; intro a hm
                refine s_on hm rfl rfl (beq_iff_eq.2 hc_74) ?_
                refine s_cmp (b := ((t_31.A.length : Int) == 5)) hm rfl rfl rfl (.inl ⟨rfl, rfl⟩) ?_
                clear hm a; intro a hm
                refine s_pick_t hm rfl rfl (beq_iff_eq.2 hc_74) rfl ?_
                clear hm a; intro a hm
                refine s_assign hm rfl rfl ?_
                clear hm a; intro a hm
                refine wpList_nil ?_
                replace hm : Fr 70 a [(0, .bool ((t_31.A.length : Int) == 5))] := hm.keep [0]
                refine x_then_n (hKJ_67 _ _ ?_)
                refine wp_ret ?_
                by_cases hc_75 : (t_31.A.length : Int) = 5
                · rw [if_pos hc_75] at H
                  exact f_ret hm (rs := [.tmp 0]) rfl (.tmp rfl .nil) ⟨_, rfl, N_63, (by rw [(beq_iff_eq.2 hc_75)]; rfl), (Sep.sel hS [0] (by decide))⟩
                · rw [if_neg hc_75] at H
                  cases H
              · rw [if_neg hc_74] at H
                cases H
            · rw [if_neg hc_73] at H
              cases H
        · rw [if_neg hc_71] at H
          cases H
      · rw [if_neg hc_70] at H
        cases H
    · rw [if_neg hc_69] at H
      cases H
  · rw [if_neg hc_68] at H
    cases H

set_option maxHeartbeats 4000000 in
set_option maxRecDepth 20000 in
theorem hocketlaw13_DiskOwn.calls (K : Nat) (x0 : Int) (x1 : Int) (x2 : Int) (r : Unit) (w0 w : World) (Z A : Mem) (hA : A.le Z) (hS : Sep w0 w [] Z)
    (H : hocketlaw13_DiskOwn.f K x0 x1 x2 = some r) :
    Calls Try.prog 5 [.int .i64 x0, .int .i64 x1, .int .i64 x2].toArray w (Ret fun v w' => ∃ (N : Mem), v = .bool true ∧ Sep w0 w' [N] Z) := by
  unfold hocketlaw13_DiskOwn.f at H
  refine f_enter _ Try.func5 rfl Try.ntmps5 rfl fun a hm => ?_
  replace hm : Fr 92 a [(0, .int .i64 x0), (1, .int .i64 x1), (2, .int .i64 x2)] := hm
  replace hS := hS.start
  replace hS : Sep w0 w [Mem.no] Z := hS
  refine wp_seq ?_
  refine wp_region_lit ?_
  refine s_assign hm rfl rfl ?_
  clear hm a; intro a hm
  refine wpList_nil ?_
  replace hm : Fr 92 a [(0, .int .i64 x0), (1, .int .i64 x1), (2, .int .i64 x2), (6, .bool false)] := hm.keep [0, 1, 2, 6]
  refine x_then_n ?_
  refine wp_seq ?_
  refine wp_region_lit ?_
  refine s_build hm rfl ti25 pl25 rfl .nil (cs := [.slice none 0 0, .slice none 0 0]) rfl ?_
  clear hm a; intro a hm
  refine s_move hm rfl rfl ?_
  clear hm a; intro a hm
  refine s_bits (i := x0) (j := 65535) (r := band .i64 x0 65535) hm rfl rfl rfl (.inl ⟨rfl, rfl⟩) ?_
  clear hm a; intro a hm
  refine s_build hm rfl ti28 pl28 rfl (.cons rfl (.cons rfl .nil)) (cs := [.int .i64 1, .int .i64 (band .i64 x0 65535), .int .i64 0]) rfl ?_
  clear hm a; intro a hm
  obtain ⟨t_1, et_1, H⟩ := Option.bind_eq_some_iff.1 H
  refine s_call hm rfl Try.call11 rfl (disk_Write.calls K (⟨([] : List UInt8), ([] : List UInt8)⟩ : api_Disk) _ _ (⟨1, band .i64 x0 65535, 0⟩ : api_Record) (-1) t_1 w0 _ _ _ (Mem.le.refl _) (hS.enter [] (by decide)) (Rd.nil _ _) (Rd.nil _ _) et_1) ?_
  rintro _ w_2 ⟨v_5, v_9, N_3, M_7, M_11, rfl, hS', hr_6, hr_10⟩
  clear hm a; intro a hm
  obtain ⟨N_4, hS'', le_4, ln_4⟩ := hS.call [] (by decide) rfl (l' := []) (ow := [M_7, M_11]) rfl hS'
  replace hS : Sep w0 w_2 [N_4, M_7, M_11] Z := hS''
  clear hS' hS''
  refine v_alloc hm rfl ti25 hS ?_
  intro w_13 g_14 hS'
  clear hm a; intro a hm
  replace hS : Sep w0 w_13 [N_4, M_7, M_11, Mem.one g_14 (.cells ([.slice none 0 0, .slice none 0 0] : List Value).toArray 25 (0, 0))] Z := hS'
  clear hS'
  obtain ⟨w_15, hs', hS'⟩ := hS.store (P := Try.prog) (p := 3) (o := 0) (t := 25) (v := .agg [v_5, v_9].toArray) (vs := [v_5, v_9]) rfl ti25 rfl rfl rfl (by intro u hu; simp only [List.mem_cons, List.not_mem_nil, or_false] at hu; rcases hu with rfl | rfl <;> first | rfl | exact hr_6.one | exact hr_10.one)
  refine s_store hm rfl rfl hs' ?_
  replace hS : Sep w0 w_15 [N_4, M_7, M_11, Mem.one g_14 (.cells ([v_5, v_9] : List Value).toArray 25 (0, 0))] Z := hS'
  clear hs' hS'
  refine wpList_nil ?_
  replace hm : Fr 92 a [(1, .int .i64 x1), (2, .int .i64 x2), (6, .bool false), (7, .pointer (some ⟨g_14, 0, none⟩))] := hm.keep [1, 2, 6, 7]
  refine x_then_n ?_
  refine wp_seq ?_
  refine wp_region_lit ?_
  refine s_load hm rfl rfl (hS.load_agg (p := 3) (us := [v_5, v_9]) rfl Try.underlying25 rfl ti25 rfl rfl) ?_
  clear hm a; intro a hm
  refine s_move hm rfl rfl ?_
  clear hm a; intro a hm
  refine s_bits (i := x1) (j := 65535) (r := band .i64 x1 65535) hm rfl rfl rfl (.inl ⟨rfl, rfl⟩) ?_
  clear hm a; intro a hm
  refine s_build hm rfl ti28 pl28 rfl (.cons rfl (.cons rfl .nil)) (cs := [.int .i64 2, .int .i64 (band .i64 x1 65535), .int .i64 0]) rfl ?_
  clear hm a; intro a hm
  obtain ⟨t_16, et_16, H⟩ := Option.bind_eq_some_iff.1 H
  refine s_call hm rfl Try.call11 rfl (disk_Write.calls K t_1 _ _ (⟨2, band .i64 x1 65535, 0⟩ : api_Record) (-1) t_16 w0 _ _ _ (Mem.le.refl _) (hS.enter [] (by decide)) (hr_6.rd (hS.own_zed [] 0 (by decide)) (Mem.no_le _)) (hr_10.rd (hS.own_zed [] 1 (by decide)) (Mem.no_le _)) et_16) ?_
  rintro _ w_17 ⟨v_20, v_24, N_18, M_22, M_26, rfl, hS', hr_21, hr_25⟩
  clear hm a; intro a hm
  obtain ⟨N_19, hS'', le_19, ln_19⟩ := hS.call [] (by decide) rfl (l' := []) (ow := [M_22, M_26]) rfl hS'
  replace hS : Sep w0 w_17 [N_19, M_7, M_11, Mem.one g_14 (.cells ([v_5, v_9] : List Value).toArray 25 (0, 0)), M_22, M_26] Z := hS''
  clear hS' hS''
  refine v_alloc hm rfl ti25 hS ?_
  intro w_28 g_29 hS'
  clear hm a; intro a hm
  replace hS : Sep w0 w_28 [N_19, M_7, M_11, Mem.one g_14 (.cells ([v_5, v_9] : List Value).toArray 25 (0, 0)), M_22, M_26, Mem.one g_29 (.cells ([.slice none 0 0, .slice none 0 0] : List Value).toArray 25 (0, 0))] Z := hS'
  clear hS'
  obtain ⟨w_30, hs', hS'⟩ := hS.store (P := Try.prog) (p := 6) (o := 0) (t := 25) (v := .agg [v_20, v_24].toArray) (vs := [v_20, v_24]) rfl ti25 rfl rfl rfl (by intro u hu; simp only [List.mem_cons, List.not_mem_nil, or_false] at hu; rcases hu with rfl | rfl <;> first | rfl | exact hr_21.one | exact hr_25.one)
  refine s_store hm rfl rfl hs' ?_
  replace hS : Sep w0 w_30 [N_19, M_7, M_11, Mem.one g_14 (.cells ([v_5, v_9] : List Value).toArray 25 (0, 0)), M_22, M_26, Mem.one g_29 (.cells ([v_20, v_24] : List Value).toArray 25 (0, 0))] Z := hS'
  clear hs' hS'
  refine wpList_nil ?_
  replace hm : Fr 92 a [(2, .int .i64 x2), (6, .bool false), (8, .pointer (some ⟨g_29, 0, none⟩))] := hm.keep [2, 6, 8]
  refine x_then_n ?_
  refine wp_seq ?_
  refine wp_region_lit ?_
  refine s_fieldAddr hm rfl Try.underlying25 rfl ti23 rfl rfl ?_
  clear hm a; intro a hm
  refine s_load hm rfl rfl (hS.load_one (p := 6) rfl Try.underlying23 rfl rfl) ?_
  clear hm a; intro a hm
  refine s_b2s hm rfl Try.underlying23 Try.underlying5 Try.underlying9 rfl (hr_21.rd (J := hp w_30) (hS.own 4) (Mem.no_le _)) (Mem.le.refl _) ?_
  clear hm a; intro a hm
  obtain ⟨t_31, et_31, H⟩ := Option.bind_eq_some_iff.1 H
  refine s_strCat hm rfl rfl rfl et_31 ?_
  clear hm a; intro a hm
  refine s_fieldAddr hm rfl Try.underlying25 rfl ti23 rfl rfl ?_
  clear hm a; intro a hm
  refine s_load hm rfl rfl (hS.load_one (p := 6) rfl Try.underlying23 rfl rfl) ?_
  clear hm a; intro a hm
  refine s_b2s hm rfl Try.underlying23 Try.underlying5 Try.underlying9 rfl (hr_25.rd (J := hp w_30) (hS.own 5) (Mem.no_le _)) (Mem.le.refl _) ?_
  clear hm a; intro a hm
  obtain ⟨t_32, et_32, H⟩ := Option.bind_eq_some_iff.1 H
  refine s_strCat hm rfl rfl rfl et_32 ?_
  clear hm a; intro a hm
  refine s_assign hm rfl rfl ?_
  clear hm a; intro a hm
  refine wpList_nil ?_
  replace hm : Fr 92 a [(2, .int .i64 x2), (6, .bool false), (8, .pointer (some ⟨g_29, 0, none⟩)), (9, .string ⟨t_32.toArray⟩)] := hm.keep [2, 6, 8, 9]
  refine x_then_n ?_
  refine wp_seq ?_
  refine wp_region_lit ?_
  refine s_load hm rfl rfl (hS.load_agg (p := 6) (us := [v_20, v_24]) rfl Try.underlying25 rfl ti25 rfl rfl) ?_
  clear hm a; intro a hm
  refine s_build hm rfl ti28 pl28 rfl (.cons rfl .nil) (cs := [.int .i64 3, .int .i64 0, .int .i64 0]) rfl ?_
  clear hm a; intro a hm
  refine s_move hm rfl rfl ?_
  clear hm a; intro a hm
  refine s_bits (i := x2) (j := 31) (r := band .i64 x2 31) hm rfl rfl rfl (.inl ⟨rfl, rfl⟩) ?_
  clear hm a; intro a hm
  obtain ⟨t_33, et_33, H⟩ := Option.bind_eq_some_iff.1 H
  refine s_call hm rfl Try.call11 rfl (disk_Write.calls K t_16 _ _ (⟨3, 0, 0⟩ : api_Record) (band .i64 x2 31) t_33 w0 _ _ _ (Mem.le.refl _) (hS.enter [] (by decide)) (hr_21.rd (hS.own_zed [] 3 (by decide)) (Mem.no_le _)) (hr_25.rd (hS.own_zed [] 4 (by decide)) (Mem.no_le _)) et_33) ?_
  rintro _ w_34 ⟨v_37, v_41, N_35, M_39, M_43, rfl, hS', hr_38, hr_42⟩
  clear hm a; intro a hm
  obtain ⟨N_36, hS'', le_36, ln_36⟩ := hS.call [] (by decide) rfl (l' := []) (ow := [M_39, M_43]) rfl hS'
  replace hS : Sep w0 w_34 [N_36, M_7, M_11, Mem.one g_14 (.cells ([v_5, v_9] : List Value).toArray 25 (0, 0)), M_22, M_26, Mem.one g_29 (.cells ([v_20, v_24] : List Value).toArray 25 (0, 0)), M_39, M_43] Z := hS''
  clear hS' hS''
  refine v_alloc hm rfl ti25 hS ?_
  intro w_45 g_46 hS'
  clear hm a; intro a hm
  replace hS : Sep w0 w_45 [N_36, M_7, M_11, Mem.one g_14 (.cells ([v_5, v_9] : List Value).toArray 25 (0, 0)), M_22, M_26, Mem.one g_29 (.cells ([v_20, v_24] : List Value).toArray 25 (0, 0)), M_39, M_43, Mem.one g_46 (.cells ([.slice none 0 0, .slice none 0 0] : List Value).toArray 25 (0, 0))] Z := hS'
  clear hS'
  obtain ⟨w_47, hs', hS'⟩ := hS.store (P := Try.prog) (p := 9) (o := 0) (t := 25) (v := .agg [v_37, v_41].toArray) (vs := [v_37, v_41]) rfl ti25 rfl rfl rfl (by intro u hu; simp only [List.mem_cons, List.not_mem_nil, or_false] at hu; rcases hu with rfl | rfl <;> first | rfl | exact hr_38.one | exact hr_42.one)
  refine s_store hm rfl rfl hs' ?_
  replace hS : Sep w0 w_47 [N_36, M_7, M_11, Mem.one g_14 (.cells ([v_5, v_9] : List Value).toArray 25 (0, 0)), M_22, M_26, Mem.one g_29 (.cells ([v_20, v_24] : List Value).toArray 25 (0, 0)), M_39, M_43, Mem.one g_46 (.cells ([v_37, v_41] : List Value).toArray 25 (0, 0))] Z := hS'
  clear hs' hS'
  refine wpList_nil ?_
  replace hm : Fr 92 a [(6, .bool false), (8, .pointer (some ⟨g_29, 0, none⟩)), (9, .string ⟨t_32.toArray⟩), (10, .pointer (some ⟨g_46, 0, none⟩))] := hm.keep [6, 8, 9, 10]
  refine x_then_n ?_
  refine c_seq fun KJ_48 hKJ_48 => ?_
  refine wp_seq ?_
  refine wp_region_lit ?_
  refine s_fieldAddr hm rfl Try.underlying25 rfl ti23 rfl rfl ?_
  clear hm a; intro a hm
  refine s_load hm rfl rfl (hS.load_one (p := 9) rfl Try.underlying23 rfl rfl) ?_
  clear hm a; intro a hm
  refine s_lenO hm rfl Try.underlying23 rfl hr_38 ?_
  clear hm a; intro a hm
  refine s_move hm rfl rfl ?_
  clear hm a; intro a hm
  refine wpList_nil ?_
  replace hm : Fr 92 a [(6, .bool false), (8, .pointer (some ⟨g_29, 0, none⟩)), (9, .string ⟨t_32.toArray⟩), (10, .pointer (some ⟨g_46, 0, none⟩)), (40, .int .i64 (t_33.A.length : Int)), (41, .int .i64 0)] := hm.keep [6, 8, 9, 10, 40, 41]
  refine x_then_n ?_
  have hJ_j_56 : ∀ (x_50 : List UInt8), hocketlaw13_DiskOwn.J1 K t_33 t_16 t_32 x_50 = some r → ∀ (a : Act) (w_55 : World), (∃ (v_53 : Value) (N_49 : Mem) (M_51 : Mem), Fr 92 a [(6, .bool false), (8, .pointer (some ⟨g_29, 0, none⟩)), (9, .string ⟨t_32.toArray⟩), (10, .pointer (some ⟨g_46, 0, none⟩))] ∧ Sep w0 w_55 [N_49, Mem.no, Mem.no, Mem.no, M_22, M_26, Mem.one g_29 (.cells ([v_20, v_24] : List Value).toArray 25 (0, 0)), M_51, M_43, Mem.one g_46 (.cells ([v_53, v_41] : List Value).toArray 25 (0, 0))] Z ∧ N_36.le N_49 ∧ Own Kd.u8 5 M_51 Mem.no v_53 x_50) → KJ_48 a w_55 := by
    clear H hm hS a
    rintro x_50 H a w_55 ⟨v_53, N_49, M_51, hm, hS, le_49, ho_54⟩
    unfold hocketlaw13_DiskOwn.J1 at H
    refine hKJ_48 _ _ ?_
    refine c_seq fun KJ_57 hKJ_57 => ?_
    refine wp_seq ?_
    refine wp_region_lit ?_
    refine s_fieldAddr hm rfl Try.underlying25 rfl ti23 rfl rfl ?_
    clear hm a; intro a hm
    refine s_load hm rfl rfl (hS.load_one (p := 9) rfl Try.underlying23 rfl rfl) ?_
    clear hm a; intro a hm
    refine s_lenO hm rfl Try.underlying23 rfl hr_42 ?_
    clear hm a; intro a hm
    refine s_move hm rfl rfl ?_
    clear hm a; intro a hm
    refine wpList_nil ?_
    replace hm : Fr 92 a [(6, .bool false), (8, .pointer (some ⟨g_29, 0, none⟩)), (9, .string ⟨t_32.toArray⟩), (10, .pointer (some ⟨g_46, 0, none⟩)), (54, .int .i64 (t_33.B.length : Int)), (55, .int .i64 0)] := hm.keep [6, 8, 9, 10, 54, 55]
    refine x_then_n ?_
    have hJ_j_60 : hocketlaw13_DiskOwn.J2 K t_16 t_32 = some r → ∀ (a : Act) (w_59 : World), (∃ (N_58 : Mem), Fr 92 a [(6, .bool false), (8, .pointer (some ⟨g_29, 0, none⟩)), (9, .string ⟨t_32.toArray⟩)] ∧ Sep w0 w_59 [N_58, Mem.no, Mem.no, Mem.no, M_22, M_26, Mem.one g_29 (.cells ([v_20, v_24] : List Value).toArray 25 (0, 0)), Mem.no, Mem.no, Mem.no] Z ∧ N_49.le N_58) → KJ_57 a w_59 := by
      clear H hm hS a
      rintro H a w_59 ⟨N_58, hm, hS, le_58⟩
      unfold hocketlaw13_DiskOwn.J2 at H
      refine hKJ_57 _ _ ?_
      refine wp_seq ?_
      refine wp_region_lit ?_
      refine s_load hm rfl rfl (hS.load_agg (p := 6) (us := [v_20, v_24]) rfl Try.underlying25 rfl ti25 rfl rfl) ?_
      clear hm a; intro a hm
      obtain ⟨t_61, et_61, H⟩ := Option.bind_eq_some_iff.1 H
      refine s_call hm rfl Try.call12 rfl (disk_Read.calls K t_16 _ _ t_61 w0 _ _ _ (Mem.le.refl _) (hS.enter [] (by decide)) (hr_21.rd (hS.own_zed [] 3 (by decide)) (Mem.no_le _)) (hr_25.rd (hS.own_zed [] 4 (by decide)) (Mem.no_le _)) et_61) ?_
      rintro _ w_62 ⟨N_63, rfl, hS'⟩
      clear hm a; intro a hm
      obtain ⟨N_64, hS'', le_64, ln_64⟩ := hS.call [] (by decide) rfl (l' := []) (ow := []) rfl hS'
      replace hS : Sep w0 w_62 [N_64, Mem.no, Mem.no, Mem.no, M_22, M_26, Mem.one g_29 (.cells ([v_20, v_24] : List Value).toArray 25 (0, 0)), Mem.no, Mem.no, Mem.no] Z := hS''
      clear hS' hS''
      refine s_move hm rfl rfl ?_
      clear hm a; intro a hm
      refine s_extract hm rfl rfl rfl ?_
      clear hm a; intro a hm
      refine s_extract hm rfl rfl rfl ?_
      clear hm a; intro a hm
      refine v_alloc hm rfl ti28 hS ?_
      intro w_65 g_66 hS'
      clear hm a; intro a hm
      replace hS : Sep w0 w_65 [N_64, Mem.no, Mem.no, Mem.no, M_22, M_26, Mem.one g_29 (.cells ([v_20, v_24] : List Value).toArray 25 (0, 0)), Mem.no, Mem.no, Mem.no, Mem.one g_66 (.cells ([.int .i64 0, .int .i64 0, .int .i64 0] : List Value).toArray 28 (0, 0))] Z := hS'
      clear hS'
      obtain ⟨w_67, hs', hS'⟩ := hS.store (P := Try.prog) (p := 10) (o := 0) (t := 28) (v := .agg [.int .i64 t_61.1.Inc, .int .i64 t_61.1.Prom, .int .i64 t_61.1.Inst].toArray) (vs := [.int .i64 t_61.1.Inc, .int .i64 t_61.1.Prom, .int .i64 t_61.1.Inst]) rfl ti28 rfl rfl rfl (by intro u hu; simp only [List.mem_cons, List.not_mem_nil, or_false] at hu; rcases hu with rfl | rfl | rfl <;> rfl)
      refine s_store hm rfl rfl hs' ?_
      replace hS : Sep w0 w_67 [N_64, Mem.no, Mem.no, Mem.no, M_22, M_26, Mem.one g_29 (.cells ([v_20, v_24] : List Value).toArray 25 (0, 0)), Mem.no, Mem.no, Mem.no, Mem.one g_66 (.cells ([.int .i64 t_61.1.Inc, .int .i64 t_61.1.Prom, .int .i64 t_61.1.Inst] : List Value).toArray 28 (0, 0))] Z := hS'
      clear hs' hS'
      refine s_assign hm rfl rfl ?_
      clear hm a; intro a hm
      refine wpList_nil ?_
      replace hm : Fr 92 a [(6, .bool false), (8, .pointer (some ⟨g_29, 0, none⟩)), (9, .string ⟨t_32.toArray⟩), (13, .pointer (some ⟨g_66, 0, none⟩)), (14, .bool t_61.2)] := hm.keep [6, 8, 9, 13, 14]
      refine x_then_n ?_
      refine c_seq fun KJ_68 hKJ_68 => ?_
      refine wp_region_lit ?_
      refine s_fieldAddr hm rfl Try.underlying25 rfl ti23 rfl rfl ?_
      clear hm a; intro a hm
      refine s_load hm rfl rfl (hS.load_one (p := 6) rfl Try.underlying23 rfl rfl) ?_
      clear hm a; intro a hm
      refine s_b2s hm rfl Try.underlying23 Try.underlying5 Try.underlying9 rfl (hr_21.rd (J := hp w_67) (hS.own 4) (Mem.no_le _)) (Mem.le.refl _) ?_
      clear hm a; intro a hm
      obtain ⟨t_69, et_69, H⟩ := Option.bind_eq_some_iff.1 H
      refine s_strCat hm rfl rfl rfl et_69 ?_
      clear hm a; intro a hm
      refine s_fieldAddr hm rfl Try.underlying25 rfl ti23 rfl rfl ?_
      clear hm a; intro a hm
      refine s_load hm rfl rfl (hS.load_one (p := 6) rfl Try.underlying23 rfl rfl) ?_
      clear hm a; intro a hm
      refine s_b2s hm rfl Try.underlying23 Try.underlying5 Try.underlying9 rfl (hr_25.rd (J := hp w_67) (hS.own 5) (Mem.no_le _)) (Mem.le.refl _) ?_
      clear hm a; intro a hm
      obtain ⟨t_70, et_70, H⟩ := Option.bind_eq_some_iff.1 H
      refine s_strCat hm rfl rfl rfl et_70 ?_
      clear hm a; intro a hm
      refine s_move hm rfl rfl ?_
      clear hm a; intro a hm
      refine s_strEq (b := (t_70 == t_32)) hm rfl rfl rfl (.inl ⟨rfl, rfl⟩) ?_
      clear hm a; intro a hm
      refine s_move hm rfl rfl ?_
      clear hm a; intro a hm
      by_cases hc_71 : t_70 = t_32
      · rw [if_pos hc_71] at H
        refine s_on hm rfl rfl (beq_iff_eq.2 hc_71) ?_
        refine s_move hm rfl rfl ?_
        clear hm a; intro a hm
        refine s_pick_t hm rfl rfl (beq_iff_eq.2 hc_71) rfl ?_
        clear hm a; intro a hm
        refine s_move hm rfl rfl ?_
        clear hm a; intro a hm
        by_cases hc_72 : t_61.2 = true
        · rw [if_pos hc_72] at H
          refine s_on hm rfl rfl hc_72 ?_
          refine s_fieldAddr hm rfl Try.underlying28 rfl ti3 rfl rfl ?_
          clear hm a; intro a hm
          refine s_on hm rfl rfl hc_72 ?_
          refine s_load hm rfl rfl (hS.load_one (p := 10) rfl Try.underlying3 rfl rfl) ?_
          clear hm a; intro a hm
          refine s_on hm rfl rfl hc_72 ?_
          refine s_cmp (b := (t_61.1.Inc == 2)) hm rfl rfl rfl (.inl ⟨rfl, rfl⟩) ?_
          clear hm a; intro a hm
          refine s_pick_t hm rfl rfl hc_72 rfl ?_
          clear hm a; intro a hm
          refine s_move hm rfl rfl ?_
          clear hm a; intro a hm
          by_cases hc_73 : t_61.1.Inc = 2
          · rw [if_pos hc_73] at H
            refine s_on hm rfl rfl (beq_iff_eq.2 hc_73) ?_
            obtain ⟨t_74, et_74, H⟩ := Option.bind_eq_some_iff.1 H
            refine s_call hm rfl Try.call13 rfl (hocketlaw13_awake.calls K  t_74 w0 _ _ _ (Mem.le.refl _) (hS.enter [] (by decide))  et_74) ?_
            rintro _ w_75 ⟨N_76, rfl, hS'⟩
            clear hm a; intro a hm
            obtain ⟨N_77, hS'', le_77, ln_77⟩ := hS.call [] (by decide) rfl (l' := []) (ow := []) rfl hS'
            replace hS : Sep w0 w_75 [N_77, Mem.no, Mem.no, Mem.no, M_22, M_26, Mem.one g_29 (.cells ([v_20, v_24] : List Value).toArray 25 (0, 0)), Mem.no, Mem.no, Mem.no, Mem.one g_66 (.cells ([.int .i64 t_61.1.Inc, .int .i64 t_61.1.Prom, .int .i64 t_61.1.Inst] : List Value).toArray 28 (0, 0))] Z := hS''
            clear hS' hS''
            refine s_pick_t hm rfl rfl (beq_iff_eq.2 hc_73) rfl ?_
            clear hm a; intro a hm
            refine s_assign hm rfl rfl ?_
            clear hm a; intro a hm
            refine wpList_nil ?_
            replace hm : Fr 92 a [(6, .bool true)] := hm.keep [6]
            refine x_then_n (hKJ_68 _ _ ?_)
            refine wp_ret ?_
            exact f_ret hm (rs := [.tmp 6]) rfl (.tmp rfl .nil) ⟨_, rfl, N_77, rfl, (Sep.sel hS [0] (by decide))⟩
          · rw [if_neg hc_73] at H
            cases H
        · rw [if_neg hc_72] at H
          cases H
      · rw [if_neg hc_71] at H
        cases H
    clear hKJ_57
    replace hS : Sep w0 w_55 [N_49, Mem.no, Mem.no, Mem.no, M_22, M_26, Mem.one g_29 (.cells ([v_20, v_24] : List Value).toArray 25 (0, 0)), M_51, M_43, Mem.one g_46 (.cells ([v_53, v_41] : List Value).toArray 25 (0, 0))] Z := hS
    replace hm : Fr 92 a [(6, .bool false), (8, .pointer (some ⟨g_29, 0, none⟩)), (9, .string ⟨t_32.toArray⟩), (10, .pointer (some ⟨g_46, 0, none⟩)), (54, .int .i64 (t_33.B.length : Int)), (55, .int .i64 0)] := hm.keep [6, 8, 9, 10, 54, 55]
    refine c_block ?_
    refine c_loop (fun k_85 a w_85 => ∃ (x_79 : Int) (x_80 : List UInt8) (v_83 : Value) (N_78 : Mem) (M_81 : Mem), hocketlaw13_DiskOwn.L1 K t_33 (fun v => hocketlaw13_DiskOwn.J2 K t_16 t_32) k_85 (x_79, x_80) = some r ∧ Fr 92 a [(6, .bool false), (8, .pointer (some ⟨g_29, 0, none⟩)), (9, .string ⟨t_32.toArray⟩), (10, .pointer (some ⟨g_46, 0, none⟩)), (54, .int .i64 (t_33.B.length : Int)), (55, .int .i64 x_79)] ∧ Sep w0 w_85 [N_78, Mem.no, Mem.no, Mem.no, M_22, M_26, Mem.one g_29 (.cells ([v_20, v_24] : List Value).toArray 25 (0, 0)), M_51, M_81, Mem.one g_46 (.cells ([v_53, v_83] : List Value).toArray 25 (0, 0))] Z ∧ N_49.le N_78 ∧ Own Kd.u8 5 M_81 Mem.no v_83 x_80) K ⟨0, t_33.B, v_41, N_49, M_43, H, hm, (Sep.sel hS [0, 1000, 1001, 1002, 4, 5, 6, 7, 8, 9] (by decide)), (Mem.le.refl _), hr_42⟩ (fun a w h => by obtain ⟨_, _, _, _, _, H, _⟩ := h; cases (show (none : Option (Unit)) = some r from H)) ?_
    clear hm hS a H
    rintro k_85 a w_85 KL_85 hKL_85 ⟨x_79, x_80, v_83, N_78, M_81, H, hm, hS, le_78, ho_84⟩
    replace H : hocketlaw13_DiskOwn.B1 K t_33 (fun v => hocketlaw13_DiskOwn.J2 K t_16 t_32) (hocketlaw13_DiskOwn.L1 K t_33 (fun v => hocketlaw13_DiskOwn.J2 K t_16 t_32) k_85) x_79 x_80 = some r := H
    unfold hocketlaw13_DiskOwn.B1 at H
    refine wp_seq ?_
    refine wp_region_lit ?_
    refine s_cmp (b := decide (x_79 < (t_33.B.length : Int))) hm rfl rfl rfl (.inr (.inr (.inl ⟨rfl, rfl⟩))) ?_
    clear hm a; intro a hm
    refine wpList_nil ?_
    replace hm : Fr 92 a [(6, .bool false), (8, .pointer (some ⟨g_29, 0, none⟩)), (9, .string ⟨t_32.toArray⟩), (10, .pointer (some ⟨g_46, 0, none⟩)), (54, .int .i64 (t_33.B.length : Int)), (55, .int .i64 x_79), (56, .bool (decide (x_79 < (t_33.B.length : Int))))] := hm.keep [6, 8, 9, 10, 54, 55, 56]
    refine x_then_n ?_
    refine c_seq fun KJ_87 hKJ_87 => ?_
    by_cases hc_88 : x_79 < (t_33.B.length : Int)
    · rw [if_pos hc_88] at H
      refine c_cond_t hm rfl (decide_eq_true hc_88) ?_
      refine wp_skip ?_
      refine x_then_n (hKJ_87 _ _ ?_)
      refine wp_seq ?_
      refine c_block ?_
      refine wp_seq ?_
      refine wp_region_lit ?_
      refine s_move hm rfl rfl ?_
      clear hm a; intro a hm
      refine s_assign hm rfl rfl ?_
      clear hm a; intro a hm
      refine wpList_nil ?_
      replace hm : Fr 92 a [(6, .bool false), (8, .pointer (some ⟨g_29, 0, none⟩)), (9, .string ⟨t_32.toArray⟩), (10, .pointer (some ⟨g_46, 0, none⟩)), (12, .int .i64 x_79), (54, .int .i64 (t_33.B.length : Int)), (55, .int .i64 x_79)] := hm.keep [6, 8, 9, 10, 12, 54, 55]
      refine x_then_n ?_
      refine wp_region_lit ?_
      refine s_fieldAddr hm rfl Try.underlying25 rfl ti23 rfl rfl ?_
      clear hm a; intro a hm
      refine s_load hm rfl rfl (hS.load_one (p := 9) rfl Try.underlying23 rfl rfl) ?_
      clear hm a; intro a hm
      refine s_move hm rfl rfl ?_
      clear hm a; intro a hm
      obtain ⟨t_89, et_89, H⟩ := Option.bind_eq_some_iff.1 H
      refine v_indexO hm rfl Try.underlying23 ti5 rfl rfl rfl ho_84 (hS.own 8) et_89 ?_
      intro ad_90 cs_91 hk_92 hc_93
      obtain rfl := (show cs_91 = [.int .u8 (t_89.toNat : Int)] from hk_92)
      clear hm a; intro a hm
      refine s_load hm rfl rfl (el_one (o := 0) hc_93 Try.underlying5 rfl rfl) ?_
      clear hm a; intro a hm
      refine s_arith (r := ((toU8 ((t_89.toNat : Int) + ((1 : UInt8).toNat : Int))).toNat : Int)) hm rfl rfl rfl (.inl ⟨rfl, (wrap_u8 _).symm⟩) ?_
      clear hm a; intro a hm
      obtain ⟨t_94, et_94, H⟩ := Option.bind_eq_some_iff.1 H
      refine s_indexOwn hm rfl Try.underlying23 ti5 rfl rfl rfl ho_84 et_94 ?_
      intro g_95 cur_96 hM_97
      clear hm a; intro a hm
      obtain ⟨w_98, M_99, hs', hS', ho_100⟩ := Own.stored (P := Try.prog) (p := 8) (t := 5) (o := 0) (nv := .int .u8 ((toU8 ((t_89.toNat : Int) + ((1 : UInt8).toNat : Int))).toNat : Int)) (vs := [.int .u8 ((toU8 ((t_89.toNat : Int) + ((1 : UInt8).toNat : Int))).toNat : Int)]) (u' := toU8 ((t_89.toNat : Int) + ((1 : UInt8).toNat : Int))) hS rfl ho_84 hM_97 et_94 ti5 rfl rfl rfl (by intro u hu; simp only [List.mem_cons, List.not_mem_nil, or_false] at hu; rcases hu with rfl <;> rfl) (fun cs hk => by obtain rfl := (show cs = [_] from hk); rfl)
      refine s_store hm rfl rfl hs' ?_
      replace hS : Sep w0 w_98 [N_78, Mem.no, Mem.no, Mem.no, M_22, M_26, Mem.one g_29 (.cells ([v_20, v_24] : List Value).toArray 25 (0, 0)), M_51, M_99, Mem.one g_46 (.cells ([v_53, v_83] : List Value).toArray 25 (0, 0))] Z := hS'
      clear hs' hS'
      refine wpList_nil ?_
      replace hm : Fr 92 a [(6, .bool false), (8, .pointer (some ⟨g_29, 0, none⟩)), (9, .string ⟨t_32.toArray⟩), (10, .pointer (some ⟨g_46, 0, none⟩)), (54, .int .i64 (t_33.B.length : Int)), (55, .int .i64 x_79)] := hm.keep [6, 8, 9, 10, 54, 55]
      refine x_block_n ?_
      refine x_then_n ?_
      refine wp_region_lit ?_
      refine s_arith (r := w64 (x_79 + 1)) hm rfl rfl rfl (.inl ⟨rfl, rfl⟩) ?_
      clear hm a; intro a hm
      refine s_move hm rfl rfl ?_
      clear hm a; intro a hm
      refine wpList_nil ?_
      replace hm : Fr 92 a [(6, .bool false), (8, .pointer (some ⟨g_29, 0, none⟩)), (9, .string ⟨t_32.toArray⟩), (10, .pointer (some ⟨g_46, 0, none⟩)), (54, .int .i64 (t_33.B.length : Int)), (55, .int .i64 (w64 (x_79 + 1)))] := hm.keep [6, 8, 9, 10, 54, 55]
      refine x_then_n (hKL_85 _ _ ?_)
      replace hS : Sep w0 w_98 [N_78, Mem.no, Mem.no, Mem.no, M_22, M_26, Mem.one g_29 (.cells ([v_20, v_24] : List Value).toArray 25 (0, 0)), M_51, M_99, Mem.one g_46 (.cells ([v_53, v_83] : List Value).toArray 25 (0, 0))] Z := hS
      replace hm : Fr 92 a [(6, .bool false), (8, .pointer (some ⟨g_29, 0, none⟩)), (9, .string ⟨t_32.toArray⟩), (10, .pointer (some ⟨g_46, 0, none⟩)), (54, .int .i64 (t_33.B.length : Int)), (55, .int .i64 (w64 (x_79 + 1)))] := hm.keep [6, 8, 9, 10, 54, 55]
      exact ⟨w64 (x_79 + 1), (x_80.set (x_79).toNat (toU8 ((t_89.toNat : Int) + ((1 : UInt8).toNat : Int)))), v_83, N_78, M_99, H, hm, (Sep.sel hS [0, 1000, 1001, 1002, 4, 5, 6, 7, 8, 9] (by decide)), le_78, ho_100⟩
    · rw [if_neg hc_88] at H
      refine c_cond_f hm rfl (decide_eq_false hc_88) ?_
      refine wp_exit (x_then_x (x_then_x (x_block_t ?_)))
      replace hS : Sep w0 w_85 [N_78, Mem.no, Mem.no, Mem.no, M_22, M_26, Mem.one g_29 (.cells ([v_20, v_24] : List Value).toArray 25 (0, 0)), M_51, M_81, Mem.one g_46 (.cells ([v_53, v_83] : List Value).toArray 25 (0, 0))] Z := hS
      replace hm : Fr 92 a [(6, .bool false), (8, .pointer (some ⟨g_29, 0, none⟩)), (9, .string ⟨t_32.toArray⟩)] := hm.keep [6, 8, 9]
      exact x_then_n (hJ_j_60  H _ _ ⟨N_78, hm, (Sep.sel hS [0, 1000, 1001, 1002, 4, 5, 6, 1006, 1007, 1008] (by decide)), le_78⟩)
  clear hKJ_48
  replace hS : Sep w0 w_47 [N_36, M_7, M_11, Mem.one g_14 (.cells ([v_5, v_9] : List Value).toArray 25 (0, 0)), M_22, M_26, Mem.one g_29 (.cells ([v_20, v_24] : List Value).toArray 25 (0, 0)), M_39, M_43, Mem.one g_46 (.cells ([v_37, v_41] : List Value).toArray 25 (0, 0))] Z := hS
  replace hm : Fr 92 a [(6, .bool false), (8, .pointer (some ⟨g_29, 0, none⟩)), (9, .string ⟨t_32.toArray⟩), (10, .pointer (some ⟨g_46, 0, none⟩)), (40, .int .i64 (t_33.A.length : Int)), (41, .int .i64 0)] := hm.keep [6, 8, 9, 10, 40, 41]
  refine c_block ?_
  refine c_loop (fun k_108 a w_108 => ∃ (x_102 : Int) (x_103 : List UInt8) (v_106 : Value) (N_101 : Mem) (M_104 : Mem), hocketlaw13_DiskOwn.L2 K t_33 (fun v => hocketlaw13_DiskOwn.J1 K t_33 t_16 t_32 v) k_108 (x_102, x_103) = some r ∧ Fr 92 a [(6, .bool false), (8, .pointer (some ⟨g_29, 0, none⟩)), (9, .string ⟨t_32.toArray⟩), (10, .pointer (some ⟨g_46, 0, none⟩)), (40, .int .i64 (t_33.A.length : Int)), (41, .int .i64 x_102)] ∧ Sep w0 w_108 [N_101, Mem.no, Mem.no, Mem.no, M_22, M_26, Mem.one g_29 (.cells ([v_20, v_24] : List Value).toArray 25 (0, 0)), M_104, M_43, Mem.one g_46 (.cells ([v_106, v_41] : List Value).toArray 25 (0, 0))] Z ∧ N_36.le N_101 ∧ Own Kd.u8 5 M_104 Mem.no v_106 x_103) K ⟨0, t_33.A, v_37, N_36, M_39, H, hm, (Sep.sel hS [0, 1000, 1001, 1002, 4, 5, 6, 7, 8, 9] (by decide)), (Mem.le.refl _), hr_38⟩ (fun a w h => by obtain ⟨_, _, _, _, _, H, _⟩ := h; cases (show (none : Option (Unit)) = some r from H)) ?_
  clear hm hS a H
  rintro k_108 a w_108 KL_108 hKL_108 ⟨x_102, x_103, v_106, N_101, M_104, H, hm, hS, le_101, ho_107⟩
  replace H : hocketlaw13_DiskOwn.B2 K t_33 (fun v => hocketlaw13_DiskOwn.J1 K t_33 t_16 t_32 v) (hocketlaw13_DiskOwn.L2 K t_33 (fun v => hocketlaw13_DiskOwn.J1 K t_33 t_16 t_32 v) k_108) x_102 x_103 = some r := H
  unfold hocketlaw13_DiskOwn.B2 at H
  refine wp_seq ?_
  refine wp_region_lit ?_
  refine s_cmp (b := decide (x_102 < (t_33.A.length : Int))) hm rfl rfl rfl (.inr (.inr (.inl ⟨rfl, rfl⟩))) ?_
  clear hm a; intro a hm
  refine wpList_nil ?_
  replace hm : Fr 92 a [(6, .bool false), (8, .pointer (some ⟨g_29, 0, none⟩)), (9, .string ⟨t_32.toArray⟩), (10, .pointer (some ⟨g_46, 0, none⟩)), (40, .int .i64 (t_33.A.length : Int)), (41, .int .i64 x_102), (42, .bool (decide (x_102 < (t_33.A.length : Int))))] := hm.keep [6, 8, 9, 10, 40, 41, 42]
  refine x_then_n ?_
  refine c_seq fun KJ_110 hKJ_110 => ?_
  by_cases hc_111 : x_102 < (t_33.A.length : Int)
  · rw [if_pos hc_111] at H
    refine c_cond_t hm rfl (decide_eq_true hc_111) ?_
    refine wp_skip ?_
    refine x_then_n (hKJ_110 _ _ ?_)
    refine wp_seq ?_
    refine c_block ?_
    refine wp_seq ?_
    refine wp_region_lit ?_
    refine s_move hm rfl rfl ?_
    clear hm a; intro a hm
    refine s_assign hm rfl rfl ?_
    clear hm a; intro a hm
    refine wpList_nil ?_
    replace hm : Fr 92 a [(6, .bool false), (8, .pointer (some ⟨g_29, 0, none⟩)), (9, .string ⟨t_32.toArray⟩), (10, .pointer (some ⟨g_46, 0, none⟩)), (11, .int .i64 x_102), (40, .int .i64 (t_33.A.length : Int)), (41, .int .i64 x_102)] := hm.keep [6, 8, 9, 10, 11, 40, 41]
    refine x_then_n ?_
    refine wp_region_lit ?_
    refine s_fieldAddr hm rfl Try.underlying25 rfl ti23 rfl rfl ?_
    clear hm a; intro a hm
    refine s_load hm rfl rfl (hS.load_one (p := 9) rfl Try.underlying23 rfl rfl) ?_
    clear hm a; intro a hm
    refine s_move hm rfl rfl ?_
    clear hm a; intro a hm
    obtain ⟨t_112, et_112, H⟩ := Option.bind_eq_some_iff.1 H
    refine v_indexO hm rfl Try.underlying23 ti5 rfl rfl rfl ho_107 (hS.own 7) et_112 ?_
    intro ad_113 cs_114 hk_115 hc_116
    obtain rfl := (show cs_114 = [.int .u8 (t_112.toNat : Int)] from hk_115)
    clear hm a; intro a hm
    refine s_load hm rfl rfl (el_one (o := 0) hc_116 Try.underlying5 rfl rfl) ?_
    clear hm a; intro a hm
    refine s_arith (r := ((toU8 ((t_112.toNat : Int) + ((1 : UInt8).toNat : Int))).toNat : Int)) hm rfl rfl rfl (.inl ⟨rfl, (wrap_u8 _).symm⟩) ?_
    clear hm a; intro a hm
    obtain ⟨t_117, et_117, H⟩ := Option.bind_eq_some_iff.1 H
    refine s_indexOwn hm rfl Try.underlying23 ti5 rfl rfl rfl ho_107 et_117 ?_
    intro g_118 cur_119 hM_120
    clear hm a; intro a hm
    obtain ⟨w_121, M_122, hs', hS', ho_123⟩ := Own.stored (P := Try.prog) (p := 7) (t := 5) (o := 0) (nv := .int .u8 ((toU8 ((t_112.toNat : Int) + ((1 : UInt8).toNat : Int))).toNat : Int)) (vs := [.int .u8 ((toU8 ((t_112.toNat : Int) + ((1 : UInt8).toNat : Int))).toNat : Int)]) (u' := toU8 ((t_112.toNat : Int) + ((1 : UInt8).toNat : Int))) hS rfl ho_107 hM_120 et_117 ti5 rfl rfl rfl (by intro u hu; simp only [List.mem_cons, List.not_mem_nil, or_false] at hu; rcases hu with rfl <;> rfl) (fun cs hk => by obtain rfl := (show cs = [_] from hk); rfl)
    refine s_store hm rfl rfl hs' ?_
    replace hS : Sep w0 w_121 [N_101, Mem.no, Mem.no, Mem.no, M_22, M_26, Mem.one g_29 (.cells ([v_20, v_24] : List Value).toArray 25 (0, 0)), M_122, M_43, Mem.one g_46 (.cells ([v_106, v_41] : List Value).toArray 25 (0, 0))] Z := hS'
    clear hs' hS'
    refine wpList_nil ?_
    replace hm : Fr 92 a [(6, .bool false), (8, .pointer (some ⟨g_29, 0, none⟩)), (9, .string ⟨t_32.toArray⟩), (10, .pointer (some ⟨g_46, 0, none⟩)), (40, .int .i64 (t_33.A.length : Int)), (41, .int .i64 x_102)] := hm.keep [6, 8, 9, 10, 40, 41]
    refine x_block_n ?_
    refine x_then_n ?_
    refine wp_region_lit ?_
    refine s_arith (r := w64 (x_102 + 1)) hm rfl rfl rfl (.inl ⟨rfl, rfl⟩) ?_
    clear hm a; intro a hm
    refine s_move hm rfl rfl ?_
    clear hm a; intro a hm
    refine wpList_nil ?_
    replace hm : Fr 92 a [(6, .bool false), (8, .pointer (some ⟨g_29, 0, none⟩)), (9, .string ⟨t_32.toArray⟩), (10, .pointer (some ⟨g_46, 0, none⟩)), (40, .int .i64 (t_33.A.length : Int)), (41, .int .i64 (w64 (x_102 + 1)))] := hm.keep [6, 8, 9, 10, 40, 41]
    refine x_then_n (hKL_108 _ _ ?_)
    replace hS : Sep w0 w_121 [N_101, Mem.no, Mem.no, Mem.no, M_22, M_26, Mem.one g_29 (.cells ([v_20, v_24] : List Value).toArray 25 (0, 0)), M_122, M_43, Mem.one g_46 (.cells ([v_106, v_41] : List Value).toArray 25 (0, 0))] Z := hS
    replace hm : Fr 92 a [(6, .bool false), (8, .pointer (some ⟨g_29, 0, none⟩)), (9, .string ⟨t_32.toArray⟩), (10, .pointer (some ⟨g_46, 0, none⟩)), (40, .int .i64 (t_33.A.length : Int)), (41, .int .i64 (w64 (x_102 + 1)))] := hm.keep [6, 8, 9, 10, 40, 41]
    exact ⟨w64 (x_102 + 1), (x_103.set (x_102).toNat (toU8 ((t_112.toNat : Int) + ((1 : UInt8).toNat : Int)))), v_106, N_101, M_122, H, hm, (Sep.sel hS [0, 1000, 1001, 1002, 4, 5, 6, 7, 8, 9] (by decide)), le_101, ho_123⟩
  · rw [if_neg hc_111] at H
    refine c_cond_f hm rfl (decide_eq_false hc_111) ?_
    refine wp_exit (x_then_x (x_then_x (x_block_t ?_)))
    replace hS : Sep w0 w_108 [N_101, Mem.no, Mem.no, Mem.no, M_22, M_26, Mem.one g_29 (.cells ([v_20, v_24] : List Value).toArray 25 (0, 0)), M_104, M_43, Mem.one g_46 (.cells ([v_106, v_41] : List Value).toArray 25 (0, 0))] Z := hS
    replace hm : Fr 92 a [(6, .bool false), (8, .pointer (some ⟨g_29, 0, none⟩)), (9, .string ⟨t_32.toArray⟩), (10, .pointer (some ⟨g_46, 0, none⟩))] := hm.keep [6, 8, 9, 10]
    exact x_then_n (hJ_j_56 x_103 H _ _ ⟨v_106, N_101, M_104, hm, (Sep.sel hS [0, 1000, 1001, 1002, 4, 5, 6, 7, 8, 9] (by decide)), le_101, ho_107⟩)


end Go.Proofs
