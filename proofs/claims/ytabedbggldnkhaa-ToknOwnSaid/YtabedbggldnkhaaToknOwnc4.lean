/- What the calls do: each function once. -/
import Derived.Test.YtabedbggldnkhaaToknOwnc3
namespace Go.Proofs
open Go.Gp
set_option linter.unusedVariables false
set_option maxHeartbeats 4000000 in
set_option maxRecDepth 20000 in
theorem hocketlaw17_ToknOwn.calls (K : Nat) (x0 : List Int) (p0_0 : Value) (x1 : Int) (r : Unit) (w0 w : World) (Z A : Mem) (hA : A.le Z) (hS : Sep w0 w [] Z) (hp0_0 : Rd (Kd.int .i64) A p0_0 x0)
    (H : hocketlaw17_ToknOwn.f K x0 x1 = some r) :
    Calls Try.prog 8 [p0_0, .int .i64 x1].toArray w (Ret fun v w' => ∃ (N : Mem), v = .bool true ∧ Sep w0 w' [N] Z) := by
  unfold hocketlaw17_ToknOwn.f at H
  refine f_enter _ Try.func8 rfl Try.ntmps8 rfl fun a hm => ?_
  replace hm : Fr 63 a [(0, p0_0), (1, .int .i64 x1)] := hm
  replace hS := hS.start
  replace hS : Sep w0 w [Mem.no] Z := hS
  refine wp_seq ?_
  refine wp_region_lit ?_
  refine s_assign hm rfl rfl ?_
  clear hm a; intro a hm
  refine wpList_nil ?_
  replace hm : Fr 63 a [(0, p0_0), (1, .int .i64 x1), (4, .bool false)] := hm.keep [0, 1, 4]
  refine x_then_n ?_
  refine wp_seq ?_
  refine wp_region_lit ?_
  refine s_move hm rfl rfl ?_
  clear hm a; intro a hm
  obtain ⟨t_1, et_1, H⟩ := Option.bind_eq_some_iff.1 H
  refine s_call hm rfl Try.call38 rfl (hocketlaw17_Token.calls K x0 _ t_1 w0 _ _ _ (Mem.le.refl _) (hS.enter [] (by decide)) (hp0_0.mono (hA.trans (hS.le_zed []))) et_1) ?_
  rintro _ w_2 ⟨v_5, v_9, v_13, v_17, v_21, v_25, N_3, M_7, M_11, M_15, M_19, M_23, M_27, rfl, hS', hr_6, hr_10, hr_14, hr_18, hr_22, hr_26⟩
  clear hm a; intro a hm
  obtain ⟨N_4, hS'', le_4, ln_4⟩ := hS.call [] (by decide) rfl (l' := []) (ow := [M_7, M_11, M_15, M_19, M_23, M_27]) rfl hS'
  replace hS : Sep w0 w_2 [N_4, M_7, M_11, M_15, M_19, M_23, M_27] Z := hS''
  clear hS' hS''
  refine s_move hm rfl rfl ?_
  clear hm a; intro a hm
  obtain ⟨t_29, et_29, H⟩ := Option.bind_eq_some_iff.1 H
  refine s_call hm rfl Try.call38 rfl (hocketlaw17_Token.calls K x0 _ t_29 w0 _ _ _ (Mem.le.refl _) (hS.enter [] (by decide)) (hp0_0.mono (hA.trans (hS.le_zed []))) et_29) ?_
  rintro _ w_30 ⟨v_33, v_37, v_41, v_45, v_49, v_53, N_31, M_35, M_39, M_43, M_47, M_51, M_55, rfl, hS', hr_34, hr_38, hr_42, hr_46, hr_50, hr_54⟩
  clear hm a; intro a hm
  obtain ⟨N_32, hS'', le_32, ln_32⟩ := hS.call [] (by decide) rfl (l' := []) (ow := [M_35, M_39, M_43, M_47, M_51, M_55]) rfl hS'
  replace hS : Sep w0 w_30 [N_32, M_7, M_11, M_15, M_19, M_23, M_27, M_35, M_39, M_43, M_47, M_51, M_55] Z := hS''
  clear hS' hS''
  refine v_alloc hm rfl ti29 hS ?_
  intro w_57 g_58 hS'
  clear hm a; intro a hm
  replace hS : Sep w0 w_57 [N_32, M_7, M_11, M_15, M_19, M_23, M_27, M_35, M_39, M_43, M_47, M_51, M_55, Mem.one g_58 (.cells ([.int .i64 0, .int .i64 0, .int .i64 0, .int .i64 0, .int .i64 0, .int .i64 0, .bool false, .int .i64 0, .int .i64 0, .int .i64 0, .int .i64 0, .slice none 0 0, .int .i64 0, .int .i64 0, .slice none 0 0, .slice none 0 0, .int .i64 0, .int .i64 0, .int .i64 0, .int .i64 0, .int .i64 0, .slice none 0 0, .slice none 0 0, .slice none 0 0] : List Value).toArray 29 (0, 0))] Z := hS'
  clear hS'
  refine v_alloc hm rfl ti29 hS ?_
  intro w_59 g_60 hS'
  clear hm a; intro a hm
  replace hS : Sep w0 w_59 [N_32, M_7, M_11, M_15, M_19, M_23, M_27, M_35, M_39, M_43, M_47, M_51, M_55, Mem.one g_58 (.cells ([.int .i64 0, .int .i64 0, .int .i64 0, .int .i64 0, .int .i64 0, .int .i64 0, .bool false, .int .i64 0, .int .i64 0, .int .i64 0, .int .i64 0, .slice none 0 0, .int .i64 0, .int .i64 0, .slice none 0 0, .slice none 0 0, .int .i64 0, .int .i64 0, .int .i64 0, .int .i64 0, .int .i64 0, .slice none 0 0, .slice none 0 0, .slice none 0 0] : List Value).toArray 29 (0, 0)), Mem.one g_60 (.cells ([.int .i64 0, .int .i64 0, .int .i64 0, .int .i64 0, .int .i64 0, .int .i64 0, .bool false, .int .i64 0, .int .i64 0, .int .i64 0, .int .i64 0, .slice none 0 0, .int .i64 0, .int .i64 0, .slice none 0 0, .slice none 0 0, .int .i64 0, .int .i64 0, .int .i64 0, .int .i64 0, .int .i64 0, .slice none 0 0, .slice none 0 0, .slice none 0 0] : List Value).toArray 29 (0, 0))] Z := hS'
  clear hS'
  obtain ⟨w_61, hs', hS'⟩ := hS.store (P := Try.prog) (p := 13) (o := 0) (t := 29) (v := .agg ([.int .i64 t_1.Kind, .int .i64 t_1.From, .int .i64 t_1.To, .int .i64 t_1.View, .int .i64 t_1.Inst, .int .i64 t_1.Len, .bool t_1.Has, .int .i64 t_1.Members, .int .i64 t_1.Source, .int .i64 t_1.At, .int .i64 t_1.Total, v_5, .int .i64 t_1.Hop, .int .i64 t_1.Seq, v_9, v_13, .int .i64 t_1.Index, .int .i64 t_1.Entry.Sess, .int .i64 t_1.Entry.Seq, .int .i64 t_1.Entry.Cmd.Kind, .int .i64 t_1.Entry.Cmd.Who, v_17, v_21, v_25] : List Value).toArray) (vs := [.int .i64 t_1.Kind, .int .i64 t_1.From, .int .i64 t_1.To, .int .i64 t_1.View, .int .i64 t_1.Inst, .int .i64 t_1.Len, .bool t_1.Has, .int .i64 t_1.Members, .int .i64 t_1.Source, .int .i64 t_1.At, .int .i64 t_1.Total, v_5, .int .i64 t_1.Hop, .int .i64 t_1.Seq, v_9, v_13, .int .i64 t_1.Index, .int .i64 t_1.Entry.Sess, .int .i64 t_1.Entry.Seq, .int .i64 t_1.Entry.Cmd.Kind, .int .i64 t_1.Entry.Cmd.Who, v_17, v_21, v_25]) rfl ti29 rfl rfl rfl (by intro u hu; simp only [List.mem_cons, List.not_mem_nil, or_false] at hu; rcases hu with rfl | rfl | rfl | rfl | rfl | rfl | rfl | rfl | rfl | rfl | rfl | rfl | rfl | rfl | rfl | rfl | rfl | rfl | rfl | rfl | rfl | rfl | rfl | rfl <;> first | rfl | exact hr_6.one | exact hr_10.one | exact hr_14.one | exact hr_18.one | exact hr_22.one | exact hr_26.one)
  refine s_store hm rfl rfl hs' ?_
  replace hS : Sep w0 w_61 [N_32, M_7, M_11, M_15, M_19, M_23, M_27, M_35, M_39, M_43, M_47, M_51, M_55, Mem.one g_58 (.cells ([.int .i64 t_1.Kind, .int .i64 t_1.From, .int .i64 t_1.To, .int .i64 t_1.View, .int .i64 t_1.Inst, .int .i64 t_1.Len, .bool t_1.Has, .int .i64 t_1.Members, .int .i64 t_1.Source, .int .i64 t_1.At, .int .i64 t_1.Total, v_5, .int .i64 t_1.Hop, .int .i64 t_1.Seq, v_9, v_13, .int .i64 t_1.Index, .int .i64 t_1.Entry.Sess, .int .i64 t_1.Entry.Seq, .int .i64 t_1.Entry.Cmd.Kind, .int .i64 t_1.Entry.Cmd.Who, v_17, v_21, v_25] : List Value).toArray 29 (0, 0)), Mem.one g_60 (.cells ([.int .i64 0, .int .i64 0, .int .i64 0, .int .i64 0, .int .i64 0, .int .i64 0, .bool false, .int .i64 0, .int .i64 0, .int .i64 0, .int .i64 0, .slice none 0 0, .int .i64 0, .int .i64 0, .slice none 0 0, .slice none 0 0, .int .i64 0, .int .i64 0, .int .i64 0, .int .i64 0, .int .i64 0, .slice none 0 0, .slice none 0 0, .slice none 0 0] : List Value).toArray 29 (0, 0))] Z := hS'
  clear hs' hS'
  obtain ⟨w_62, hs', hS'⟩ := hS.store (P := Try.prog) (p := 14) (o := 0) (t := 29) (v := .agg ([.int .i64 t_29.Kind, .int .i64 t_29.From, .int .i64 t_29.To, .int .i64 t_29.View, .int .i64 t_29.Inst, .int .i64 t_29.Len, .bool t_29.Has, .int .i64 t_29.Members, .int .i64 t_29.Source, .int .i64 t_29.At, .int .i64 t_29.Total, v_33, .int .i64 t_29.Hop, .int .i64 t_29.Seq, v_37, v_41, .int .i64 t_29.Index, .int .i64 t_29.Entry.Sess, .int .i64 t_29.Entry.Seq, .int .i64 t_29.Entry.Cmd.Kind, .int .i64 t_29.Entry.Cmd.Who, v_45, v_49, v_53] : List Value).toArray) (vs := [.int .i64 t_29.Kind, .int .i64 t_29.From, .int .i64 t_29.To, .int .i64 t_29.View, .int .i64 t_29.Inst, .int .i64 t_29.Len, .bool t_29.Has, .int .i64 t_29.Members, .int .i64 t_29.Source, .int .i64 t_29.At, .int .i64 t_29.Total, v_33, .int .i64 t_29.Hop, .int .i64 t_29.Seq, v_37, v_41, .int .i64 t_29.Index, .int .i64 t_29.Entry.Sess, .int .i64 t_29.Entry.Seq, .int .i64 t_29.Entry.Cmd.Kind, .int .i64 t_29.Entry.Cmd.Who, v_45, v_49, v_53]) rfl ti29 rfl rfl rfl (by intro u hu; simp only [List.mem_cons, List.not_mem_nil, or_false] at hu; rcases hu with rfl | rfl | rfl | rfl | rfl | rfl | rfl | rfl | rfl | rfl | rfl | rfl | rfl | rfl | rfl | rfl | rfl | rfl | rfl | rfl | rfl | rfl | rfl | rfl <;> first | rfl | exact hr_34.one | exact hr_38.one | exact hr_42.one | exact hr_46.one | exact hr_50.one | exact hr_54.one)
  refine s_store hm rfl rfl hs' ?_
  replace hS : Sep w0 w_62 [N_32, M_7, M_11, M_15, M_19, M_23, M_27, M_35, M_39, M_43, M_47, M_51, M_55, Mem.one g_58 (.cells ([.int .i64 t_1.Kind, .int .i64 t_1.From, .int .i64 t_1.To, .int .i64 t_1.View, .int .i64 t_1.Inst, .int .i64 t_1.Len, .bool t_1.Has, .int .i64 t_1.Members, .int .i64 t_1.Source, .int .i64 t_1.At, .int .i64 t_1.Total, v_5, .int .i64 t_1.Hop, .int .i64 t_1.Seq, v_9, v_13, .int .i64 t_1.Index, .int .i64 t_1.Entry.Sess, .int .i64 t_1.Entry.Seq, .int .i64 t_1.Entry.Cmd.Kind, .int .i64 t_1.Entry.Cmd.Who, v_17, v_21, v_25] : List Value).toArray 29 (0, 0)), Mem.one g_60 (.cells ([.int .i64 t_29.Kind, .int .i64 t_29.From, .int .i64 t_29.To, .int .i64 t_29.View, .int .i64 t_29.Inst, .int .i64 t_29.Len, .bool t_29.Has, .int .i64 t_29.Members, .int .i64 t_29.Source, .int .i64 t_29.At, .int .i64 t_29.Total, v_33, .int .i64 t_29.Hop, .int .i64 t_29.Seq, v_37, v_41, .int .i64 t_29.Index, .int .i64 t_29.Entry.Sess, .int .i64 t_29.Entry.Seq, .int .i64 t_29.Entry.Cmd.Kind, .int .i64 t_29.Entry.Cmd.Who, v_45, v_49, v_53] : List Value).toArray 29 (0, 0))] Z := hS'
  clear hs' hS'
  refine wpList_nil ?_
  replace hm : Fr 63 a [(1, .int .i64 x1), (4, .bool false), (5, .pointer (some ⟨g_58, 0, none⟩)), (6, .pointer (some ⟨g_60, 0, none⟩))] := hm.keep [1, 4, 5, 6]
  refine x_then_n ?_
  refine wp_seq ?_
  refine wp_region_lit ?_
  refine s_load hm rfl rfl (hS.load_agg (p := 13) (us := [.int .i64 t_1.Kind, .int .i64 t_1.From, .int .i64 t_1.To, .int .i64 t_1.View, .int .i64 t_1.Inst, .int .i64 t_1.Len, .bool t_1.Has, .int .i64 t_1.Members, .int .i64 t_1.Source, .int .i64 t_1.At, .int .i64 t_1.Total, v_5, .int .i64 t_1.Hop, .int .i64 t_1.Seq, v_9, v_13, .int .i64 t_1.Index, .int .i64 t_1.Entry.Sess, .int .i64 t_1.Entry.Seq, .int .i64 t_1.Entry.Cmd.Kind, .int .i64 t_1.Entry.Cmd.Who, v_17, v_21, v_25]) rfl Try.underlying29 rfl ti29 rfl rfl) ?_
  clear hm a; intro a hm
  refine s_move hm rfl rfl ?_
  clear hm a; intro a hm
  refine s_bits (i := x1) (j := 63) (r := band .i64 x1 63) hm rfl rfl rfl (.inl ⟨rfl, rfl⟩) ?_
  clear hm a; intro a hm
  refine s_fieldAddr hm rfl Try.underlying29 rfl ti23 rfl rfl ?_
  clear hm a; intro a hm
  refine s_load hm rfl rfl (hS.load_one (p := 13) rfl Try.underlying23 rfl rfl) ?_
  clear hm a; intro a hm
  have hq_67 : Reps (Kd.int .i64) Mem.no ([99] : List Int) _ := ((Reps.one (d := (Kd.int .i64)) (x := 99) (show (Kd.int .i64).K _ _ [.int .i64 99] from rfl)).append (Reps.nil (Kd.int .i64) _))
  refine s_buildSlice hm rfl Try.underlying23 ti3 rfl rfl rfl (.cons rfl .nil) rfl rfl rfl hS hq_67 rfl ?_
  intro w_63 v_64 M_65 hS' ho_66
  clear hm a; intro a hm
  replace hS : Sep w0 w_63 [N_32, M_7, M_11, M_15, M_19, M_23, M_27, M_35, M_39, M_43, M_47, M_51, M_55, Mem.one g_58 (.cells ([.int .i64 t_1.Kind, .int .i64 t_1.From, .int .i64 t_1.To, .int .i64 t_1.View, .int .i64 t_1.Inst, .int .i64 t_1.Len, .bool t_1.Has, .int .i64 t_1.Members, .int .i64 t_1.Source, .int .i64 t_1.At, .int .i64 t_1.Total, v_5, .int .i64 t_1.Hop, .int .i64 t_1.Seq, v_9, v_13, .int .i64 t_1.Index, .int .i64 t_1.Entry.Sess, .int .i64 t_1.Entry.Seq, .int .i64 t_1.Entry.Cmd.Kind, .int .i64 t_1.Entry.Cmd.Who, v_17, v_21, v_25] : List Value).toArray 29 (0, 0)), Mem.one g_60 (.cells ([.int .i64 t_29.Kind, .int .i64 t_29.From, .int .i64 t_29.To, .int .i64 t_29.View, .int .i64 t_29.Inst, .int .i64 t_29.Len, .bool t_29.Has, .int .i64 t_29.Members, .int .i64 t_29.Source, .int .i64 t_29.At, .int .i64 t_29.Total, v_33, .int .i64 t_29.Hop, .int .i64 t_29.Seq, v_37, v_41, .int .i64 t_29.Index, .int .i64 t_29.Entry.Sess, .int .i64 t_29.Entry.Seq, .int .i64 t_29.Entry.Cmd.Kind, .int .i64 t_29.Entry.Cmd.Who, v_45, v_49, v_53] : List Value).toArray 29 (0, 0)), M_65] Z := hS'
  clear hS' hq_67
  obtain ⟨N_69, hS', le_69, lo_69⟩ := hS.freeze 0 rfl
  replace hS : Sep w0 w_63 [N_69, Mem.no, M_11, M_15, M_19, M_23, M_27, M_35, M_39, M_43, M_47, M_51, M_55, Mem.one g_58 (.cells ([.int .i64 t_1.Kind, .int .i64 t_1.From, .int .i64 t_1.To, .int .i64 t_1.View, .int .i64 t_1.Inst, .int .i64 t_1.Len, .bool t_1.Has, .int .i64 t_1.Members, .int .i64 t_1.Source, .int .i64 t_1.At, .int .i64 t_1.Total, v_5, .int .i64 t_1.Hop, .int .i64 t_1.Seq, v_9, v_13, .int .i64 t_1.Index, .int .i64 t_1.Entry.Sess, .int .i64 t_1.Entry.Seq, .int .i64 t_1.Entry.Cmd.Kind, .int .i64 t_1.Entry.Cmd.Who, v_17, v_21, v_25] : List Value).toArray 29 (0, 0)), Mem.one g_60 (.cells ([.int .i64 t_29.Kind, .int .i64 t_29.From, .int .i64 t_29.To, .int .i64 t_29.View, .int .i64 t_29.Inst, .int .i64 t_29.Len, .bool t_29.Has, .int .i64 t_29.Members, .int .i64 t_29.Source, .int .i64 t_29.At, .int .i64 t_29.Total, v_33, .int .i64 t_29.Hop, .int .i64 t_29.Seq, v_37, v_41, .int .i64 t_29.Index, .int .i64 t_29.Entry.Sess, .int .i64 t_29.Entry.Seq, .int .i64 t_29.Entry.Cmd.Kind, .int .i64 t_29.Entry.Cmd.Who, v_45, v_49, v_53] : List Value).toArray 29 (0, 0)), M_65] Z := hS'
  clear hS'
  obtain ⟨N_70, hS', le_70, lo_70⟩ := hS.freeze 1 rfl
  replace hS : Sep w0 w_63 [N_70, Mem.no, Mem.no, M_15, M_19, M_23, M_27, M_35, M_39, M_43, M_47, M_51, M_55, Mem.one g_58 (.cells ([.int .i64 t_1.Kind, .int .i64 t_1.From, .int .i64 t_1.To, .int .i64 t_1.View, .int .i64 t_1.Inst, .int .i64 t_1.Len, .bool t_1.Has, .int .i64 t_1.Members, .int .i64 t_1.Source, .int .i64 t_1.At, .int .i64 t_1.Total, v_5, .int .i64 t_1.Hop, .int .i64 t_1.Seq, v_9, v_13, .int .i64 t_1.Index, .int .i64 t_1.Entry.Sess, .int .i64 t_1.Entry.Seq, .int .i64 t_1.Entry.Cmd.Kind, .int .i64 t_1.Entry.Cmd.Who, v_17, v_21, v_25] : List Value).toArray 29 (0, 0)), Mem.one g_60 (.cells ([.int .i64 t_29.Kind, .int .i64 t_29.From, .int .i64 t_29.To, .int .i64 t_29.View, .int .i64 t_29.Inst, .int .i64 t_29.Len, .bool t_29.Has, .int .i64 t_29.Members, .int .i64 t_29.Source, .int .i64 t_29.At, .int .i64 t_29.Total, v_33, .int .i64 t_29.Hop, .int .i64 t_29.Seq, v_37, v_41, .int .i64 t_29.Index, .int .i64 t_29.Entry.Sess, .int .i64 t_29.Entry.Seq, .int .i64 t_29.Entry.Cmd.Kind, .int .i64 t_29.Entry.Cmd.Who, v_45, v_49, v_53] : List Value).toArray 29 (0, 0)), M_65] Z := hS'
  clear hS'
  obtain ⟨N_71, hS', le_71, lo_71⟩ := hS.freeze 2 rfl
  replace hS : Sep w0 w_63 [N_71, Mem.no, Mem.no, Mem.no, M_19, M_23, M_27, M_35, M_39, M_43, M_47, M_51, M_55, Mem.one g_58 (.cells ([.int .i64 t_1.Kind, .int .i64 t_1.From, .int .i64 t_1.To, .int .i64 t_1.View, .int .i64 t_1.Inst, .int .i64 t_1.Len, .bool t_1.Has, .int .i64 t_1.Members, .int .i64 t_1.Source, .int .i64 t_1.At, .int .i64 t_1.Total, v_5, .int .i64 t_1.Hop, .int .i64 t_1.Seq, v_9, v_13, .int .i64 t_1.Index, .int .i64 t_1.Entry.Sess, .int .i64 t_1.Entry.Seq, .int .i64 t_1.Entry.Cmd.Kind, .int .i64 t_1.Entry.Cmd.Who, v_17, v_21, v_25] : List Value).toArray 29 (0, 0)), Mem.one g_60 (.cells ([.int .i64 t_29.Kind, .int .i64 t_29.From, .int .i64 t_29.To, .int .i64 t_29.View, .int .i64 t_29.Inst, .int .i64 t_29.Len, .bool t_29.Has, .int .i64 t_29.Members, .int .i64 t_29.Source, .int .i64 t_29.At, .int .i64 t_29.Total, v_33, .int .i64 t_29.Hop, .int .i64 t_29.Seq, v_37, v_41, .int .i64 t_29.Index, .int .i64 t_29.Entry.Sess, .int .i64 t_29.Entry.Seq, .int .i64 t_29.Entry.Cmd.Kind, .int .i64 t_29.Entry.Cmd.Who, v_45, v_49, v_53] : List Value).toArray 29 (0, 0)), M_65] Z := hS'
  clear hS'
  obtain ⟨N_72, hS', le_72, lo_72⟩ := hS.freeze 3 rfl
  replace hS : Sep w0 w_63 [N_72, Mem.no, Mem.no, Mem.no, Mem.no, M_23, M_27, M_35, M_39, M_43, M_47, M_51, M_55, Mem.one g_58 (.cells ([.int .i64 t_1.Kind, .int .i64 t_1.From, .int .i64 t_1.To, .int .i64 t_1.View, .int .i64 t_1.Inst, .int .i64 t_1.Len, .bool t_1.Has, .int .i64 t_1.Members, .int .i64 t_1.Source, .int .i64 t_1.At, .int .i64 t_1.Total, v_5, .int .i64 t_1.Hop, .int .i64 t_1.Seq, v_9, v_13, .int .i64 t_1.Index, .int .i64 t_1.Entry.Sess, .int .i64 t_1.Entry.Seq, .int .i64 t_1.Entry.Cmd.Kind, .int .i64 t_1.Entry.Cmd.Who, v_17, v_21, v_25] : List Value).toArray 29 (0, 0)), Mem.one g_60 (.cells ([.int .i64 t_29.Kind, .int .i64 t_29.From, .int .i64 t_29.To, .int .i64 t_29.View, .int .i64 t_29.Inst, .int .i64 t_29.Len, .bool t_29.Has, .int .i64 t_29.Members, .int .i64 t_29.Source, .int .i64 t_29.At, .int .i64 t_29.Total, v_33, .int .i64 t_29.Hop, .int .i64 t_29.Seq, v_37, v_41, .int .i64 t_29.Index, .int .i64 t_29.Entry.Sess, .int .i64 t_29.Entry.Seq, .int .i64 t_29.Entry.Cmd.Kind, .int .i64 t_29.Entry.Cmd.Who, v_45, v_49, v_53] : List Value).toArray 29 (0, 0)), M_65] Z := hS'
  clear hS'
  obtain ⟨N_73, hS', le_73, lo_73⟩ := hS.freeze 4 rfl
  replace hS : Sep w0 w_63 [N_73, Mem.no, Mem.no, Mem.no, Mem.no, Mem.no, M_27, M_35, M_39, M_43, M_47, M_51, M_55, Mem.one g_58 (.cells ([.int .i64 t_1.Kind, .int .i64 t_1.From, .int .i64 t_1.To, .int .i64 t_1.View, .int .i64 t_1.Inst, .int .i64 t_1.Len, .bool t_1.Has, .int .i64 t_1.Members, .int .i64 t_1.Source, .int .i64 t_1.At, .int .i64 t_1.Total, v_5, .int .i64 t_1.Hop, .int .i64 t_1.Seq, v_9, v_13, .int .i64 t_1.Index, .int .i64 t_1.Entry.Sess, .int .i64 t_1.Entry.Seq, .int .i64 t_1.Entry.Cmd.Kind, .int .i64 t_1.Entry.Cmd.Who, v_17, v_21, v_25] : List Value).toArray 29 (0, 0)), Mem.one g_60 (.cells ([.int .i64 t_29.Kind, .int .i64 t_29.From, .int .i64 t_29.To, .int .i64 t_29.View, .int .i64 t_29.Inst, .int .i64 t_29.Len, .bool t_29.Has, .int .i64 t_29.Members, .int .i64 t_29.Source, .int .i64 t_29.At, .int .i64 t_29.Total, v_33, .int .i64 t_29.Hop, .int .i64 t_29.Seq, v_37, v_41, .int .i64 t_29.Index, .int .i64 t_29.Entry.Sess, .int .i64 t_29.Entry.Seq, .int .i64 t_29.Entry.Cmd.Kind, .int .i64 t_29.Entry.Cmd.Who, v_45, v_49, v_53] : List Value).toArray 29 (0, 0)), M_65] Z := hS'
  clear hS'
  obtain ⟨N_74, hS', le_74, lo_74⟩ := hS.freeze 5 rfl
  replace hS : Sep w0 w_63 [N_74, Mem.no, Mem.no, Mem.no, Mem.no, Mem.no, Mem.no, M_35, M_39, M_43, M_47, M_51, M_55, Mem.one g_58 (.cells ([.int .i64 t_1.Kind, .int .i64 t_1.From, .int .i64 t_1.To, .int .i64 t_1.View, .int .i64 t_1.Inst, .int .i64 t_1.Len, .bool t_1.Has, .int .i64 t_1.Members, .int .i64 t_1.Source, .int .i64 t_1.At, .int .i64 t_1.Total, v_5, .int .i64 t_1.Hop, .int .i64 t_1.Seq, v_9, v_13, .int .i64 t_1.Index, .int .i64 t_1.Entry.Sess, .int .i64 t_1.Entry.Seq, .int .i64 t_1.Entry.Cmd.Kind, .int .i64 t_1.Entry.Cmd.Who, v_17, v_21, v_25] : List Value).toArray 29 (0, 0)), Mem.one g_60 (.cells ([.int .i64 t_29.Kind, .int .i64 t_29.From, .int .i64 t_29.To, .int .i64 t_29.View, .int .i64 t_29.Inst, .int .i64 t_29.Len, .bool t_29.Has, .int .i64 t_29.Members, .int .i64 t_29.Source, .int .i64 t_29.At, .int .i64 t_29.Total, v_33, .int .i64 t_29.Hop, .int .i64 t_29.Seq, v_37, v_41, .int .i64 t_29.Index, .int .i64 t_29.Entry.Sess, .int .i64 t_29.Entry.Seq, .int .i64 t_29.Entry.Cmd.Kind, .int .i64 t_29.Entry.Cmd.Who, v_45, v_49, v_53] : List Value).toArray 29 (0, 0)), M_65] Z := hS'
  clear hS'
  obtain ⟨N_75, hS', le_75, lo_75⟩ := hS.freeze 14 rfl
  replace hS : Sep w0 w_63 [N_75, Mem.no, Mem.no, Mem.no, Mem.no, Mem.no, Mem.no, M_35, M_39, M_43, M_47, M_51, M_55, Mem.one g_58 (.cells ([.int .i64 t_1.Kind, .int .i64 t_1.From, .int .i64 t_1.To, .int .i64 t_1.View, .int .i64 t_1.Inst, .int .i64 t_1.Len, .bool t_1.Has, .int .i64 t_1.Members, .int .i64 t_1.Source, .int .i64 t_1.At, .int .i64 t_1.Total, v_5, .int .i64 t_1.Hop, .int .i64 t_1.Seq, v_9, v_13, .int .i64 t_1.Index, .int .i64 t_1.Entry.Sess, .int .i64 t_1.Entry.Seq, .int .i64 t_1.Entry.Cmd.Kind, .int .i64 t_1.Entry.Cmd.Who, v_17, v_21, v_25] : List Value).toArray 29 (0, 0)), Mem.one g_60 (.cells ([.int .i64 t_29.Kind, .int .i64 t_29.From, .int .i64 t_29.To, .int .i64 t_29.View, .int .i64 t_29.Inst, .int .i64 t_29.Len, .bool t_29.Has, .int .i64 t_29.Members, .int .i64 t_29.Source, .int .i64 t_29.At, .int .i64 t_29.Total, v_33, .int .i64 t_29.Hop, .int .i64 t_29.Seq, v_37, v_41, .int .i64 t_29.Index, .int .i64 t_29.Entry.Sess, .int .i64 t_29.Entry.Seq, .int .i64 t_29.Entry.Cmd.Kind, .int .i64 t_29.Entry.Cmd.Who, v_45, v_49, v_53] : List Value).toArray 29 (0, 0)), Mem.no] Z := hS'
  clear hS'
  obtain ⟨t_76, et_76, H⟩ := Option.bind_eq_some_iff.1 H
  refine s_call hm rfl Try.call34 rfl (tokn_Pass.calls K t_1 _ _ _ _ _ _ 1 0 2 (band .i64 x1 63) 1 t_1.Need _ ([99] : List Int) _ t_76 w0 _ _ N_75 (hS.new_zed []) (hS.enter [] (by decide)) ((hr_6.rd lo_69 (Mem.no_le _)).mono (le_70.trans (le_71.trans (le_72.trans (le_73.trans (le_74.trans le_75)))))) ((hr_10.rd lo_70 (Mem.no_le _)).mono (le_71.trans (le_72.trans (le_73.trans (le_74.trans le_75))))) ((hr_14.rd lo_71 (Mem.no_le _)).mono (le_72.trans (le_73.trans (le_74.trans le_75)))) ((hr_18.rd lo_72 (Mem.no_le _)).mono (le_73.trans (le_74.trans le_75))) ((hr_22.rd lo_73 (Mem.no_le _)).mono (le_74.trans le_75)) ((hr_26.rd lo_74 (Mem.no_le _)).mono le_75) ((hr_14.rd lo_71 (Mem.no_le _)).mono (le_72.trans (le_73.trans (le_74.trans le_75)))) (ho_66.rd lo_75 (Mem.no_le _)) et_76) ?_
  rintro _ w_77 ⟨v_80, v_82, v_86, v_90, v_92, v_94, v_96, N_78, M_84, M_88, M_98, rfl, hS', hr_81, hr_83, hr_87, hr_91, hr_93, hr_95, hr_97⟩
  clear hm a; intro a hm
  obtain ⟨N_79, hS'', le_79, ln_79⟩ := hS.call [] (by decide) rfl (l' := []) (ow := [M_84, M_88, M_98]) rfl hS'
  replace hS : Sep w0 w_77 [N_79, Mem.no, Mem.no, Mem.no, Mem.no, Mem.no, Mem.no, M_35, M_39, M_43, M_47, M_51, M_55, Mem.one g_58 (.cells ([.int .i64 t_1.Kind, .int .i64 t_1.From, .int .i64 t_1.To, .int .i64 t_1.View, .int .i64 t_1.Inst, .int .i64 t_1.Len, .bool t_1.Has, .int .i64 t_1.Members, .int .i64 t_1.Source, .int .i64 t_1.At, .int .i64 t_1.Total, v_5, .int .i64 t_1.Hop, .int .i64 t_1.Seq, v_9, v_13, .int .i64 t_1.Index, .int .i64 t_1.Entry.Sess, .int .i64 t_1.Entry.Seq, .int .i64 t_1.Entry.Cmd.Kind, .int .i64 t_1.Entry.Cmd.Who, v_17, v_21, v_25] : List Value).toArray 29 (0, 0)), Mem.one g_60 (.cells ([.int .i64 t_29.Kind, .int .i64 t_29.From, .int .i64 t_29.To, .int .i64 t_29.View, .int .i64 t_29.Inst, .int .i64 t_29.Len, .bool t_29.Has, .int .i64 t_29.Members, .int .i64 t_29.Source, .int .i64 t_29.At, .int .i64 t_29.Total, v_33, .int .i64 t_29.Hop, .int .i64 t_29.Seq, v_37, v_41, .int .i64 t_29.Index, .int .i64 t_29.Entry.Sess, .int .i64 t_29.Entry.Seq, .int .i64 t_29.Entry.Cmd.Kind, .int .i64 t_29.Entry.Cmd.Who, v_45, v_49, v_53] : List Value).toArray 29 (0, 0)), Mem.no, M_84, M_88, M_98] Z := hS''
  clear hS' hS''
  replace hS : Sep w0 w_77 [N_79, M_35, M_39, M_43, M_47, M_51, M_55, Mem.one g_58 (.cells ([.int .i64 t_1.Kind, .int .i64 t_1.From, .int .i64 t_1.To, .int .i64 t_1.View, .int .i64 t_1.Inst, .int .i64 t_1.Len, .bool t_1.Has, .int .i64 t_1.Members, .int .i64 t_1.Source, .int .i64 t_1.At, .int .i64 t_1.Total, v_5, .int .i64 t_1.Hop, .int .i64 t_1.Seq, v_9, v_13, .int .i64 t_1.Index, .int .i64 t_1.Entry.Sess, .int .i64 t_1.Entry.Seq, .int .i64 t_1.Entry.Cmd.Kind, .int .i64 t_1.Entry.Cmd.Who, v_17, v_21, v_25] : List Value).toArray 29 (0, 0)), Mem.one g_60 (.cells ([.int .i64 t_29.Kind, .int .i64 t_29.From, .int .i64 t_29.To, .int .i64 t_29.View, .int .i64 t_29.Inst, .int .i64 t_29.Len, .bool t_29.Has, .int .i64 t_29.Members, .int .i64 t_29.Source, .int .i64 t_29.At, .int .i64 t_29.Total, v_33, .int .i64 t_29.Hop, .int .i64 t_29.Seq, v_37, v_41, .int .i64 t_29.Index, .int .i64 t_29.Entry.Sess, .int .i64 t_29.Entry.Seq, .int .i64 t_29.Entry.Cmd.Kind, .int .i64 t_29.Entry.Cmd.Who, v_45, v_49, v_53] : List Value).toArray 29 (0, 0)), M_84, M_88, M_98] Z := hS.sel [0, 7, 8, 9, 10, 11, 12, 13, 14, 16, 17, 18] (by decide)
  refine s_move hm rfl rfl ?_
  clear hm a; intro a hm
  refine s_extract hm rfl rfl rfl ?_
  clear hm a; intro a hm
  refine s_extract hm rfl rfl rfl ?_
  clear hm a; intro a hm
  refine v_alloc hm rfl ti29 hS ?_
  intro w_100 g_101 hS'
  clear hm a; intro a hm
  replace hS : Sep w0 w_100 [N_79, M_35, M_39, M_43, M_47, M_51, M_55, Mem.one g_58 (.cells ([.int .i64 t_1.Kind, .int .i64 t_1.From, .int .i64 t_1.To, .int .i64 t_1.View, .int .i64 t_1.Inst, .int .i64 t_1.Len, .bool t_1.Has, .int .i64 t_1.Members, .int .i64 t_1.Source, .int .i64 t_1.At, .int .i64 t_1.Total, v_5, .int .i64 t_1.Hop, .int .i64 t_1.Seq, v_9, v_13, .int .i64 t_1.Index, .int .i64 t_1.Entry.Sess, .int .i64 t_1.Entry.Seq, .int .i64 t_1.Entry.Cmd.Kind, .int .i64 t_1.Entry.Cmd.Who, v_17, v_21, v_25] : List Value).toArray 29 (0, 0)), Mem.one g_60 (.cells ([.int .i64 t_29.Kind, .int .i64 t_29.From, .int .i64 t_29.To, .int .i64 t_29.View, .int .i64 t_29.Inst, .int .i64 t_29.Len, .bool t_29.Has, .int .i64 t_29.Members, .int .i64 t_29.Source, .int .i64 t_29.At, .int .i64 t_29.Total, v_33, .int .i64 t_29.Hop, .int .i64 t_29.Seq, v_37, v_41, .int .i64 t_29.Index, .int .i64 t_29.Entry.Sess, .int .i64 t_29.Entry.Seq, .int .i64 t_29.Entry.Cmd.Kind, .int .i64 t_29.Entry.Cmd.Who, v_45, v_49, v_53] : List Value).toArray 29 (0, 0)), M_84, M_88, M_98, Mem.one g_101 (.cells ([.int .i64 0, .int .i64 0, .int .i64 0, .int .i64 0, .int .i64 0, .int .i64 0, .bool false, .int .i64 0, .int .i64 0, .int .i64 0, .int .i64 0, .slice none 0 0, .int .i64 0, .int .i64 0, .slice none 0 0, .slice none 0 0, .int .i64 0, .int .i64 0, .int .i64 0, .int .i64 0, .int .i64 0, .slice none 0 0, .slice none 0 0, .slice none 0 0] : List Value).toArray 29 (0, 0))] Z := hS'
  clear hS'
  obtain ⟨w_102, hs', hS'⟩ := hS.store (P := Try.prog) (p := 12) (o := 0) (t := 29) (v := .agg ([.int .i64 t_76.1.Kind, .int .i64 t_76.1.From, .int .i64 t_76.1.To, .int .i64 t_76.1.View, .int .i64 t_76.1.Inst, .int .i64 t_76.1.Len, .bool t_76.1.Has, .int .i64 t_76.1.Members, .int .i64 t_76.1.Source, .int .i64 t_76.1.At, .int .i64 t_76.1.Total, v_80, .int .i64 t_76.1.Hop, .int .i64 t_76.1.Seq, v_82, v_86, .int .i64 t_76.1.Index, .int .i64 t_76.1.Entry.Sess, .int .i64 t_76.1.Entry.Seq, .int .i64 t_76.1.Entry.Cmd.Kind, .int .i64 t_76.1.Entry.Cmd.Who, v_90, v_92, v_94] : List Value).toArray) (vs := [.int .i64 t_76.1.Kind, .int .i64 t_76.1.From, .int .i64 t_76.1.To, .int .i64 t_76.1.View, .int .i64 t_76.1.Inst, .int .i64 t_76.1.Len, .bool t_76.1.Has, .int .i64 t_76.1.Members, .int .i64 t_76.1.Source, .int .i64 t_76.1.At, .int .i64 t_76.1.Total, v_80, .int .i64 t_76.1.Hop, .int .i64 t_76.1.Seq, v_82, v_86, .int .i64 t_76.1.Index, .int .i64 t_76.1.Entry.Sess, .int .i64 t_76.1.Entry.Seq, .int .i64 t_76.1.Entry.Cmd.Kind, .int .i64 t_76.1.Entry.Cmd.Who, v_90, v_92, v_94]) rfl ti29 rfl rfl rfl (by intro u hu; simp only [List.mem_cons, List.not_mem_nil, or_false] at hu; rcases hu with rfl | rfl | rfl | rfl | rfl | rfl | rfl | rfl | rfl | rfl | rfl | rfl | rfl | rfl | rfl | rfl | rfl | rfl | rfl | rfl | rfl | rfl | rfl | rfl <;> first | rfl | exact (hr_81.mono (Mem.un_le le_79 ln_79)).one | exact hr_83.one | exact hr_87.one | exact (hr_91.mono (Mem.un_le le_79 ln_79)).one | exact (hr_93.mono (Mem.un_le le_79 ln_79)).one | exact (hr_95.mono (Mem.un_le le_79 ln_79)).one)
  refine s_store hm rfl rfl hs' ?_
  replace hS : Sep w0 w_102 [N_79, M_35, M_39, M_43, M_47, M_51, M_55, Mem.one g_58 (.cells ([.int .i64 t_1.Kind, .int .i64 t_1.From, .int .i64 t_1.To, .int .i64 t_1.View, .int .i64 t_1.Inst, .int .i64 t_1.Len, .bool t_1.Has, .int .i64 t_1.Members, .int .i64 t_1.Source, .int .i64 t_1.At, .int .i64 t_1.Total, v_5, .int .i64 t_1.Hop, .int .i64 t_1.Seq, v_9, v_13, .int .i64 t_1.Index, .int .i64 t_1.Entry.Sess, .int .i64 t_1.Entry.Seq, .int .i64 t_1.Entry.Cmd.Kind, .int .i64 t_1.Entry.Cmd.Who, v_17, v_21, v_25] : List Value).toArray 29 (0, 0)), Mem.one g_60 (.cells ([.int .i64 t_29.Kind, .int .i64 t_29.From, .int .i64 t_29.To, .int .i64 t_29.View, .int .i64 t_29.Inst, .int .i64 t_29.Len, .bool t_29.Has, .int .i64 t_29.Members, .int .i64 t_29.Source, .int .i64 t_29.At, .int .i64 t_29.Total, v_33, .int .i64 t_29.Hop, .int .i64 t_29.Seq, v_37, v_41, .int .i64 t_29.Index, .int .i64 t_29.Entry.Sess, .int .i64 t_29.Entry.Seq, .int .i64 t_29.Entry.Cmd.Kind, .int .i64 t_29.Entry.Cmd.Who, v_45, v_49, v_53] : List Value).toArray 29 (0, 0)), M_84, M_88, M_98, Mem.one g_101 (.cells ([.int .i64 t_76.1.Kind, .int .i64 t_76.1.From, .int .i64 t_76.1.To, .int .i64 t_76.1.View, .int .i64 t_76.1.Inst, .int .i64 t_76.1.Len, .bool t_76.1.Has, .int .i64 t_76.1.Members, .int .i64 t_76.1.Source, .int .i64 t_76.1.At, .int .i64 t_76.1.Total, v_80, .int .i64 t_76.1.Hop, .int .i64 t_76.1.Seq, v_82, v_86, .int .i64 t_76.1.Index, .int .i64 t_76.1.Entry.Sess, .int .i64 t_76.1.Entry.Seq, .int .i64 t_76.1.Entry.Cmd.Kind, .int .i64 t_76.1.Entry.Cmd.Who, v_90, v_92, v_94] : List Value).toArray 29 (0, 0))] Z := hS'
  clear hs' hS'
  refine s_assign hm rfl rfl ?_
  clear hm a; intro a hm
  refine wpList_nil ?_
  replace hm : Fr 63 a [(4, .bool false), (5, .pointer (some ⟨g_58, 0, none⟩)), (6, .pointer (some ⟨g_60, 0, none⟩)), (7, .pointer (some ⟨g_101, 0, none⟩)), (8, v_96)] := hm.keep [4, 5, 6, 7, 8]
  refine x_then_n ?_
  refine c_seq fun KJ_103 hKJ_103 => ?_
  refine wp_seq ?_
  refine wp_region_lit ?_
  refine s_fieldAddr hm rfl Try.underlying29 rfl ti23 rfl rfl ?_
  clear hm a; intro a hm
  refine s_load hm rfl rfl (hS.load_one (p := 12) rfl Try.underlying23 rfl rfl) ?_
  clear hm a; intro a hm
  refine s_lenO hm rfl Try.underlying23 rfl hr_83 ?_
  clear hm a; intro a hm
  refine s_move hm rfl rfl ?_
  clear hm a; intro a hm
  refine wpList_nil ?_
  replace hm : Fr 63 a [(4, .bool false), (5, .pointer (some ⟨g_58, 0, none⟩)), (6, .pointer (some ⟨g_60, 0, none⟩)), (7, .pointer (some ⟨g_101, 0, none⟩)), (8, v_96), (28, .int .i64 (t_76.1.Have.length : Int)), (29, .int .i64 0)] := hm.keep [4, 5, 6, 7, 8, 28, 29]
  refine x_then_n ?_
  have hJ_j_111 : ∀ (x_105 : List Int), hocketlaw17_ToknOwn.J1 K t_76 t_1 t_29 x_105 = some r → ∀ (a : Act) (w_110 : World), (∃ (v_108 : Value) (N_104 : Mem) (M_106 : Mem), Fr 63 a [(4, .bool false), (5, .pointer (some ⟨g_58, 0, none⟩)), (6, .pointer (some ⟨g_60, 0, none⟩)), (7, .pointer (some ⟨g_101, 0, none⟩)), (8, v_96)] ∧ Sep w0 w_110 [N_104, M_35, M_39, M_43, M_47, M_51, M_55, Mem.one g_58 (.cells ([.int .i64 t_1.Kind, .int .i64 t_1.From, .int .i64 t_1.To, .int .i64 t_1.View, .int .i64 t_1.Inst, .int .i64 t_1.Len, .bool t_1.Has, .int .i64 t_1.Members, .int .i64 t_1.Source, .int .i64 t_1.At, .int .i64 t_1.Total, v_5, .int .i64 t_1.Hop, .int .i64 t_1.Seq, v_9, v_13, .int .i64 t_1.Index, .int .i64 t_1.Entry.Sess, .int .i64 t_1.Entry.Seq, .int .i64 t_1.Entry.Cmd.Kind, .int .i64 t_1.Entry.Cmd.Who, v_17, v_21, v_25] : List Value).toArray 29 (0, 0)), Mem.one g_60 (.cells ([.int .i64 t_29.Kind, .int .i64 t_29.From, .int .i64 t_29.To, .int .i64 t_29.View, .int .i64 t_29.Inst, .int .i64 t_29.Len, .bool t_29.Has, .int .i64 t_29.Members, .int .i64 t_29.Source, .int .i64 t_29.At, .int .i64 t_29.Total, v_33, .int .i64 t_29.Hop, .int .i64 t_29.Seq, v_37, v_41, .int .i64 t_29.Index, .int .i64 t_29.Entry.Sess, .int .i64 t_29.Entry.Seq, .int .i64 t_29.Entry.Cmd.Kind, .int .i64 t_29.Entry.Cmd.Who, v_45, v_49, v_53] : List Value).toArray 29 (0, 0)), M_106, M_88, M_98, Mem.one g_101 (.cells ([.int .i64 t_76.1.Kind, .int .i64 t_76.1.From, .int .i64 t_76.1.To, .int .i64 t_76.1.View, .int .i64 t_76.1.Inst, .int .i64 t_76.1.Len, .bool t_76.1.Has, .int .i64 t_76.1.Members, .int .i64 t_76.1.Source, .int .i64 t_76.1.At, .int .i64 t_76.1.Total, v_80, .int .i64 t_76.1.Hop, .int .i64 t_76.1.Seq, v_108, v_86, .int .i64 t_76.1.Index, .int .i64 t_76.1.Entry.Sess, .int .i64 t_76.1.Entry.Seq, .int .i64 t_76.1.Entry.Cmd.Kind, .int .i64 t_76.1.Entry.Cmd.Who, v_90, v_92, v_94] : List Value).toArray 29 (0, 0))] Z ∧ N_79.le N_104 ∧ Own (Kd.int .i64) 3 M_106 Mem.no v_108 x_105) → KJ_103 a w_110 := by
    clear H hm hS a
    rintro x_105 H a w_110 ⟨v_108, N_104, M_106, hm, hS, le_104, ho_109⟩
    unfold hocketlaw17_ToknOwn.J1 at H
    refine hKJ_103 _ _ ?_
    refine c_seq fun KJ_112 hKJ_112 => ?_
    refine wp_seq ?_
    refine wp_region_lit ?_
    refine s_fieldAddr hm rfl Try.underlying29 rfl ti23 rfl rfl ?_
    clear hm a; intro a hm
    refine s_load hm rfl rfl (hS.load_one (p := 12) rfl Try.underlying23 rfl rfl) ?_
    clear hm a; intro a hm
    refine s_lenO hm rfl Try.underlying23 rfl hr_87 ?_
    clear hm a; intro a hm
    refine s_move hm rfl rfl ?_
    clear hm a; intro a hm
    refine wpList_nil ?_
    replace hm : Fr 63 a [(4, .bool false), (5, .pointer (some ⟨g_58, 0, none⟩)), (6, .pointer (some ⟨g_60, 0, none⟩)), (7, .pointer (some ⟨g_101, 0, none⟩)), (8, v_96), (39, .int .i64 (t_76.1.Need.length : Int)), (40, .int .i64 0)] := hm.keep [4, 5, 6, 7, 8, 39, 40]
    refine x_then_n ?_
    have hJ_j_115 : hocketlaw17_ToknOwn.J2 K t_76 t_1 t_29 = some r → ∀ (a : Act) (w_114 : World), (∃ (N_113 : Mem), Fr 63 a [(4, .bool false), (5, .pointer (some ⟨g_58, 0, none⟩)), (6, .pointer (some ⟨g_60, 0, none⟩)), (8, v_96)] ∧ Sep w0 w_114 [N_113, M_35, M_39, M_43, M_47, M_51, M_55, Mem.one g_58 (.cells ([.int .i64 t_1.Kind, .int .i64 t_1.From, .int .i64 t_1.To, .int .i64 t_1.View, .int .i64 t_1.Inst, .int .i64 t_1.Len, .bool t_1.Has, .int .i64 t_1.Members, .int .i64 t_1.Source, .int .i64 t_1.At, .int .i64 t_1.Total, v_5, .int .i64 t_1.Hop, .int .i64 t_1.Seq, v_9, v_13, .int .i64 t_1.Index, .int .i64 t_1.Entry.Sess, .int .i64 t_1.Entry.Seq, .int .i64 t_1.Entry.Cmd.Kind, .int .i64 t_1.Entry.Cmd.Who, v_17, v_21, v_25] : List Value).toArray 29 (0, 0)), Mem.one g_60 (.cells ([.int .i64 t_29.Kind, .int .i64 t_29.From, .int .i64 t_29.To, .int .i64 t_29.View, .int .i64 t_29.Inst, .int .i64 t_29.Len, .bool t_29.Has, .int .i64 t_29.Members, .int .i64 t_29.Source, .int .i64 t_29.At, .int .i64 t_29.Total, v_33, .int .i64 t_29.Hop, .int .i64 t_29.Seq, v_37, v_41, .int .i64 t_29.Index, .int .i64 t_29.Entry.Sess, .int .i64 t_29.Entry.Seq, .int .i64 t_29.Entry.Cmd.Kind, .int .i64 t_29.Entry.Cmd.Who, v_45, v_49, v_53] : List Value).toArray 29 (0, 0)), Mem.no, Mem.no, M_98, Mem.no] Z ∧ N_104.le N_113) → KJ_112 a w_114 := by
      clear H hm hS a
      rintro H a w_114 ⟨N_113, hm, hS, le_113⟩
      unfold hocketlaw17_ToknOwn.J2 at H
      refine hKJ_112 _ _ ?_
      refine c_seq fun KJ_116 hKJ_116 => ?_
      refine wp_seq ?_
      refine wp_region_lit ?_
      refine s_move hm rfl rfl ?_
      clear hm a; intro a hm
      refine s_lenO hm rfl Try.underlying23 rfl hr_97 ?_
      clear hm a; intro a hm
      refine s_move hm rfl rfl ?_
      clear hm a; intro a hm
      refine wpList_nil ?_
      replace hm : Fr 63 a [(4, .bool false), (5, .pointer (some ⟨g_58, 0, none⟩)), (6, .pointer (some ⟨g_60, 0, none⟩)), (8, v_96), (49, .int .i64 (t_76.2.length : Int)), (50, .int .i64 0)] := hm.keep [4, 5, 6, 8, 49, 50]
      refine x_then_n ?_
      have hJ_j_119 : hocketlaw17_ToknOwn.J3 K t_1 t_29 = some r → ∀ (a : Act) (w_118 : World), (∃ (N_117 : Mem), Fr 63 a [(4, .bool false), (5, .pointer (some ⟨g_58, 0, none⟩)), (6, .pointer (some ⟨g_60, 0, none⟩))] ∧ Sep w0 w_118 [N_117, M_35, M_39, M_43, M_47, M_51, M_55, Mem.one g_58 (.cells ([.int .i64 t_1.Kind, .int .i64 t_1.From, .int .i64 t_1.To, .int .i64 t_1.View, .int .i64 t_1.Inst, .int .i64 t_1.Len, .bool t_1.Has, .int .i64 t_1.Members, .int .i64 t_1.Source, .int .i64 t_1.At, .int .i64 t_1.Total, v_5, .int .i64 t_1.Hop, .int .i64 t_1.Seq, v_9, v_13, .int .i64 t_1.Index, .int .i64 t_1.Entry.Sess, .int .i64 t_1.Entry.Seq, .int .i64 t_1.Entry.Cmd.Kind, .int .i64 t_1.Entry.Cmd.Who, v_17, v_21, v_25] : List Value).toArray 29 (0, 0)), Mem.one g_60 (.cells ([.int .i64 t_29.Kind, .int .i64 t_29.From, .int .i64 t_29.To, .int .i64 t_29.View, .int .i64 t_29.Inst, .int .i64 t_29.Len, .bool t_29.Has, .int .i64 t_29.Members, .int .i64 t_29.Source, .int .i64 t_29.At, .int .i64 t_29.Total, v_33, .int .i64 t_29.Hop, .int .i64 t_29.Seq, v_37, v_41, .int .i64 t_29.Index, .int .i64 t_29.Entry.Sess, .int .i64 t_29.Entry.Seq, .int .i64 t_29.Entry.Cmd.Kind, .int .i64 t_29.Entry.Cmd.Who, v_45, v_49, v_53] : List Value).toArray 29 (0, 0)), Mem.no, Mem.no, Mem.no, Mem.no] Z ∧ N_113.le N_117) → KJ_116 a w_118 := by
        clear H hm hS a
        rintro H a w_118 ⟨N_117, hm, hS, le_117⟩
        unfold hocketlaw17_ToknOwn.J3 at H
        refine hKJ_116 _ _ ?_
        refine c_seq fun KJ_120 hKJ_120 => ?_
        refine wp_region_lit ?_
        refine s_load hm rfl rfl (hS.load_agg (p := 7) (us := [.int .i64 t_1.Kind, .int .i64 t_1.From, .int .i64 t_1.To, .int .i64 t_1.View, .int .i64 t_1.Inst, .int .i64 t_1.Len, .bool t_1.Has, .int .i64 t_1.Members, .int .i64 t_1.Source, .int .i64 t_1.At, .int .i64 t_1.Total, v_5, .int .i64 t_1.Hop, .int .i64 t_1.Seq, v_9, v_13, .int .i64 t_1.Index, .int .i64 t_1.Entry.Sess, .int .i64 t_1.Entry.Seq, .int .i64 t_1.Entry.Cmd.Kind, .int .i64 t_1.Entry.Cmd.Who, v_17, v_21, v_25]) rfl Try.underlying29 rfl ti29 rfl rfl) ?_
        clear hm a; intro a hm
        refine s_load hm rfl rfl (hS.load_agg (p := 8) (us := [.int .i64 t_29.Kind, .int .i64 t_29.From, .int .i64 t_29.To, .int .i64 t_29.View, .int .i64 t_29.Inst, .int .i64 t_29.Len, .bool t_29.Has, .int .i64 t_29.Members, .int .i64 t_29.Source, .int .i64 t_29.At, .int .i64 t_29.Total, v_33, .int .i64 t_29.Hop, .int .i64 t_29.Seq, v_37, v_41, .int .i64 t_29.Index, .int .i64 t_29.Entry.Sess, .int .i64 t_29.Entry.Seq, .int .i64 t_29.Entry.Cmd.Kind, .int .i64 t_29.Entry.Cmd.Who, v_45, v_49, v_53]) rfl Try.underlying29 rfl ti29 rfl rfl) ?_
        clear hm a; intro a hm
        obtain ⟨t_121, et_121, H⟩ := Option.bind_eq_some_iff.1 H
        refine s_call hm rfl Try.call39 rfl (hocketref11_Same.calls K t_1 _ _ _ _ _ _ t_29 _ _ _ _ _ _ t_121 w0 _ _ _ (Mem.le.refl _) (hS.enter [] (by decide)) ((hr_6.rd lo_69 (Mem.no_le _)).mono ((le_70.trans (le_71.trans (le_72.trans (le_73.trans (le_74.trans (le_75.trans (le_79.trans (le_104.trans (le_113.trans le_117))))))))).trans (hS.new_zed []))) ((hr_10.rd lo_70 (Mem.no_le _)).mono ((le_71.trans (le_72.trans (le_73.trans (le_74.trans (le_75.trans (le_79.trans (le_104.trans (le_113.trans le_117)))))))).trans (hS.new_zed []))) ((hr_14.rd lo_71 (Mem.no_le _)).mono ((le_72.trans (le_73.trans (le_74.trans (le_75.trans (le_79.trans (le_104.trans (le_113.trans le_117))))))).trans (hS.new_zed []))) ((hr_18.rd lo_72 (Mem.no_le _)).mono ((le_73.trans (le_74.trans (le_75.trans (le_79.trans (le_104.trans (le_113.trans le_117)))))).trans (hS.new_zed []))) ((hr_22.rd lo_73 (Mem.no_le _)).mono ((le_74.trans (le_75.trans (le_79.trans (le_104.trans (le_113.trans le_117))))).trans (hS.new_zed []))) ((hr_26.rd lo_74 (Mem.no_le _)).mono ((le_75.trans (le_79.trans (le_104.trans (le_113.trans le_117)))).trans (hS.new_zed []))) (hr_34.rd (hS.own_zed [] 0 (by decide)) (Mem.no_le _)) (hr_38.rd (hS.own_zed [] 1 (by decide)) (Mem.no_le _)) (hr_42.rd (hS.own_zed [] 2 (by decide)) (Mem.no_le _)) (hr_46.rd (hS.own_zed [] 3 (by decide)) (Mem.no_le _)) (hr_50.rd (hS.own_zed [] 4 (by decide)) (Mem.no_le _)) (hr_54.rd (hS.own_zed [] 5 (by decide)) (Mem.no_le _)) et_121) ?_
        rintro _ w_122 ⟨N_123, rfl, hS'⟩
        clear hm a; intro a hm
        obtain ⟨N_124, hS'', le_124, ln_124⟩ := hS.call [] (by decide) rfl (l' := []) (ow := []) rfl hS'
        replace hS : Sep w0 w_122 [N_124, M_35, M_39, M_43, M_47, M_51, M_55, Mem.one g_58 (.cells ([.int .i64 t_1.Kind, .int .i64 t_1.From, .int .i64 t_1.To, .int .i64 t_1.View, .int .i64 t_1.Inst, .int .i64 t_1.Len, .bool t_1.Has, .int .i64 t_1.Members, .int .i64 t_1.Source, .int .i64 t_1.At, .int .i64 t_1.Total, v_5, .int .i64 t_1.Hop, .int .i64 t_1.Seq, v_9, v_13, .int .i64 t_1.Index, .int .i64 t_1.Entry.Sess, .int .i64 t_1.Entry.Seq, .int .i64 t_1.Entry.Cmd.Kind, .int .i64 t_1.Entry.Cmd.Who, v_17, v_21, v_25] : List Value).toArray 29 (0, 0)), Mem.one g_60 (.cells ([.int .i64 t_29.Kind, .int .i64 t_29.From, .int .i64 t_29.To, .int .i64 t_29.View, .int .i64 t_29.Inst, .int .i64 t_29.Len, .bool t_29.Has, .int .i64 t_29.Members, .int .i64 t_29.Source, .int .i64 t_29.At, .int .i64 t_29.Total, v_33, .int .i64 t_29.Hop, .int .i64 t_29.Seq, v_37, v_41, .int .i64 t_29.Index, .int .i64 t_29.Entry.Sess, .int .i64 t_29.Entry.Seq, .int .i64 t_29.Entry.Cmd.Kind, .int .i64 t_29.Entry.Cmd.Who, v_45, v_49, v_53] : List Value).toArray 29 (0, 0)), Mem.no, Mem.no, Mem.no, Mem.no] Z := hS''
        clear hS' hS''
        refine s_move hm rfl rfl ?_
        clear hm a; intro a hm
        by_cases hc_125 : t_121 = true
        · rw [if_pos hc_125] at H
          refine s_on hm rfl rfl hc_125 ?_
          obtain ⟨t_126, et_126, H⟩ := Option.bind_eq_some_iff.1 H
          refine s_call hm rfl Try.call37 rfl (hocketlaw17_awake.calls K  t_126 w0 _ _ _ (Mem.le.refl _) (hS.enter [] (by decide))  et_126) ?_
          rintro _ w_127 ⟨N_128, rfl, hS'⟩
          clear hm a; intro a hm
          obtain ⟨N_129, hS'', le_129, ln_129⟩ := hS.call [] (by decide) rfl (l' := []) (ow := []) rfl hS'
          replace hS : Sep w0 w_127 [N_129, M_35, M_39, M_43, M_47, M_51, M_55, Mem.one g_58 (.cells ([.int .i64 t_1.Kind, .int .i64 t_1.From, .int .i64 t_1.To, .int .i64 t_1.View, .int .i64 t_1.Inst, .int .i64 t_1.Len, .bool t_1.Has, .int .i64 t_1.Members, .int .i64 t_1.Source, .int .i64 t_1.At, .int .i64 t_1.Total, v_5, .int .i64 t_1.Hop, .int .i64 t_1.Seq, v_9, v_13, .int .i64 t_1.Index, .int .i64 t_1.Entry.Sess, .int .i64 t_1.Entry.Seq, .int .i64 t_1.Entry.Cmd.Kind, .int .i64 t_1.Entry.Cmd.Who, v_17, v_21, v_25] : List Value).toArray 29 (0, 0)), Mem.one g_60 (.cells ([.int .i64 t_29.Kind, .int .i64 t_29.From, .int .i64 t_29.To, .int .i64 t_29.View, .int .i64 t_29.Inst, .int .i64 t_29.Len, .bool t_29.Has, .int .i64 t_29.Members, .int .i64 t_29.Source, .int .i64 t_29.At, .int .i64 t_29.Total, v_33, .int .i64 t_29.Hop, .int .i64 t_29.Seq, v_37, v_41, .int .i64 t_29.Index, .int .i64 t_29.Entry.Sess, .int .i64 t_29.Entry.Seq, .int .i64 t_29.Entry.Cmd.Kind, .int .i64 t_29.Entry.Cmd.Who, v_45, v_49, v_53] : List Value).toArray 29 (0, 0)), Mem.no, Mem.no, Mem.no, Mem.no] Z := hS''
          clear hS' hS''
          refine s_pick_t hm rfl rfl hc_125 rfl ?_
          clear hm a; intro a hm
          refine s_assign hm rfl rfl ?_
          clear hm a; intro a hm
          refine wpList_nil ?_
          replace hm : Fr 63 a [(4, .bool true)] := hm.keep [4]
          refine x_then_n (hKJ_120 _ _ ?_)
          refine wp_ret ?_
          exact f_ret hm (rs := [.tmp 4]) rfl (.tmp rfl .nil) ⟨_, rfl, N_129, rfl, (Sep.sel hS [0] (by decide))⟩
        · rw [if_neg hc_125] at H
          cases H
      clear hKJ_116
      replace hS : Sep w0 w_114 [N_113, M_35, M_39, M_43, M_47, M_51, M_55, Mem.one g_58 (.cells ([.int .i64 t_1.Kind, .int .i64 t_1.From, .int .i64 t_1.To, .int .i64 t_1.View, .int .i64 t_1.Inst, .int .i64 t_1.Len, .bool t_1.Has, .int .i64 t_1.Members, .int .i64 t_1.Source, .int .i64 t_1.At, .int .i64 t_1.Total, v_5, .int .i64 t_1.Hop, .int .i64 t_1.Seq, v_9, v_13, .int .i64 t_1.Index, .int .i64 t_1.Entry.Sess, .int .i64 t_1.Entry.Seq, .int .i64 t_1.Entry.Cmd.Kind, .int .i64 t_1.Entry.Cmd.Who, v_17, v_21, v_25] : List Value).toArray 29 (0, 0)), Mem.one g_60 (.cells ([.int .i64 t_29.Kind, .int .i64 t_29.From, .int .i64 t_29.To, .int .i64 t_29.View, .int .i64 t_29.Inst, .int .i64 t_29.Len, .bool t_29.Has, .int .i64 t_29.Members, .int .i64 t_29.Source, .int .i64 t_29.At, .int .i64 t_29.Total, v_33, .int .i64 t_29.Hop, .int .i64 t_29.Seq, v_37, v_41, .int .i64 t_29.Index, .int .i64 t_29.Entry.Sess, .int .i64 t_29.Entry.Seq, .int .i64 t_29.Entry.Cmd.Kind, .int .i64 t_29.Entry.Cmd.Who, v_45, v_49, v_53] : List Value).toArray 29 (0, 0)), Mem.no, Mem.no, M_98, Mem.no] Z := hS
      replace hm : Fr 63 a [(4, .bool false), (5, .pointer (some ⟨g_58, 0, none⟩)), (6, .pointer (some ⟨g_60, 0, none⟩)), (8, v_96), (49, .int .i64 (t_76.2.length : Int)), (50, .int .i64 0)] := hm.keep [4, 5, 6, 8, 49, 50]
      refine c_block ?_
      refine c_loop (fun k_137 a w_137 => ∃ (x_131 : List Int) (x_136 : Int) (v_134 : Value) (N_130 : Mem) (M_132 : Mem), hocketlaw17_ToknOwn.L1 K t_76 (fun v => hocketlaw17_ToknOwn.J3 K t_1 t_29) k_137 (x_131, x_136) = some r ∧ Fr 63 a [(4, .bool false), (5, .pointer (some ⟨g_58, 0, none⟩)), (6, .pointer (some ⟨g_60, 0, none⟩)), (8, v_134), (49, .int .i64 (t_76.2.length : Int)), (50, .int .i64 x_136)] ∧ Sep w0 w_137 [N_130, M_35, M_39, M_43, M_47, M_51, M_55, Mem.one g_58 (.cells ([.int .i64 t_1.Kind, .int .i64 t_1.From, .int .i64 t_1.To, .int .i64 t_1.View, .int .i64 t_1.Inst, .int .i64 t_1.Len, .bool t_1.Has, .int .i64 t_1.Members, .int .i64 t_1.Source, .int .i64 t_1.At, .int .i64 t_1.Total, v_5, .int .i64 t_1.Hop, .int .i64 t_1.Seq, v_9, v_13, .int .i64 t_1.Index, .int .i64 t_1.Entry.Sess, .int .i64 t_1.Entry.Seq, .int .i64 t_1.Entry.Cmd.Kind, .int .i64 t_1.Entry.Cmd.Who, v_17, v_21, v_25] : List Value).toArray 29 (0, 0)), Mem.one g_60 (.cells ([.int .i64 t_29.Kind, .int .i64 t_29.From, .int .i64 t_29.To, .int .i64 t_29.View, .int .i64 t_29.Inst, .int .i64 t_29.Len, .bool t_29.Has, .int .i64 t_29.Members, .int .i64 t_29.Source, .int .i64 t_29.At, .int .i64 t_29.Total, v_33, .int .i64 t_29.Hop, .int .i64 t_29.Seq, v_37, v_41, .int .i64 t_29.Index, .int .i64 t_29.Entry.Sess, .int .i64 t_29.Entry.Seq, .int .i64 t_29.Entry.Cmd.Kind, .int .i64 t_29.Entry.Cmd.Who, v_45, v_49, v_53] : List Value).toArray 29 (0, 0)), Mem.no, Mem.no, M_132, Mem.no] Z ∧ N_113.le N_130 ∧ Own (Kd.int .i64) 3 M_132 Mem.no v_134 x_131) K ⟨t_76.2, 0, v_96, N_113, M_98, H, hm, (Sep.sel hS [0, 1, 2, 3, 4, 5, 6, 7, 8, 1008, 1009, 11, 1011] (by decide)), (Mem.le.refl _), hr_97⟩ (fun a w h => by obtain ⟨_, _, _, _, _, H, _⟩ := h; cases (show (none : Option (Unit)) = some r from H)) ?_
      clear hm hS a H
      rintro k_137 a w_137 KL_137 hKL_137 ⟨x_131, x_136, v_134, N_130, M_132, H, hm, hS, le_130, ho_135⟩
      replace H : hocketlaw17_ToknOwn.B1 K t_76 (fun v => hocketlaw17_ToknOwn.J3 K t_1 t_29) (hocketlaw17_ToknOwn.L1 K t_76 (fun v => hocketlaw17_ToknOwn.J3 K t_1 t_29) k_137) x_131 x_136 = some r := H
      unfold hocketlaw17_ToknOwn.B1 at H
      refine wp_seq ?_
      refine wp_region_lit ?_
      refine s_cmp (b := decide (x_136 < (t_76.2.length : Int))) hm rfl rfl rfl (.inr (.inr (.inl ⟨rfl, rfl⟩))) ?_
      clear hm a; intro a hm
      refine wpList_nil ?_
      replace hm : Fr 63 a [(4, .bool false), (5, .pointer (some ⟨g_58, 0, none⟩)), (6, .pointer (some ⟨g_60, 0, none⟩)), (8, v_134), (49, .int .i64 (t_76.2.length : Int)), (50, .int .i64 x_136), (51, .bool (decide (x_136 < (t_76.2.length : Int))))] := hm.keep [4, 5, 6, 8, 49, 50, 51]
      refine x_then_n ?_
      refine c_seq fun KJ_139 hKJ_139 => ?_
      by_cases hc_140 : x_136 < (t_76.2.length : Int)
      · rw [if_pos hc_140] at H
        refine c_cond_t hm rfl (decide_eq_true hc_140) ?_
        refine wp_skip ?_
        refine x_then_n (hKJ_139 _ _ ?_)
        refine wp_seq ?_
        refine c_block ?_
        refine wp_seq ?_
        refine wp_region_lit ?_
        refine s_move hm rfl rfl ?_
        clear hm a; intro a hm
        refine s_assign hm rfl rfl ?_
        clear hm a; intro a hm
        refine wpList_nil ?_
        replace hm : Fr 63 a [(4, .bool false), (5, .pointer (some ⟨g_58, 0, none⟩)), (6, .pointer (some ⟨g_60, 0, none⟩)), (8, v_134), (11, .int .i64 x_136), (49, .int .i64 (t_76.2.length : Int)), (50, .int .i64 x_136)] := hm.keep [4, 5, 6, 8, 11, 49, 50]
        refine x_then_n ?_
        refine wp_region_lit ?_
        refine s_move hm rfl rfl ?_
        clear hm a; intro a hm
        refine s_move hm rfl rfl ?_
        clear hm a; intro a hm
        obtain ⟨t_141, et_141, H⟩ := Option.bind_eq_some_iff.1 H
        refine s_indexOwn hm rfl Try.underlying23 ti3 rfl rfl rfl ho_135 et_141 ?_
        intro g_142 cur_143 hM_144
        clear hm a; intro a hm
        obtain ⟨w_145, M_146, hs', hS', ho_147⟩ := Own.stored (P := Try.prog) (p := 11) (t := 3) (o := 0) (nv := .int .i64 777) (vs := [.int .i64 777]) (u' := 777) hS rfl ho_135 hM_144 et_141 ti3 rfl rfl rfl (by intro u hu; simp only [List.mem_cons, List.not_mem_nil, or_false] at hu; rcases hu with rfl <;> rfl) (fun cs hk => by obtain rfl := (show cs = [_] from hk); rfl)
        refine s_store hm rfl rfl hs' ?_
        replace hS : Sep w0 w_145 [N_130, M_35, M_39, M_43, M_47, M_51, M_55, Mem.one g_58 (.cells ([.int .i64 t_1.Kind, .int .i64 t_1.From, .int .i64 t_1.To, .int .i64 t_1.View, .int .i64 t_1.Inst, .int .i64 t_1.Len, .bool t_1.Has, .int .i64 t_1.Members, .int .i64 t_1.Source, .int .i64 t_1.At, .int .i64 t_1.Total, v_5, .int .i64 t_1.Hop, .int .i64 t_1.Seq, v_9, v_13, .int .i64 t_1.Index, .int .i64 t_1.Entry.Sess, .int .i64 t_1.Entry.Seq, .int .i64 t_1.Entry.Cmd.Kind, .int .i64 t_1.Entry.Cmd.Who, v_17, v_21, v_25] : List Value).toArray 29 (0, 0)), Mem.one g_60 (.cells ([.int .i64 t_29.Kind, .int .i64 t_29.From, .int .i64 t_29.To, .int .i64 t_29.View, .int .i64 t_29.Inst, .int .i64 t_29.Len, .bool t_29.Has, .int .i64 t_29.Members, .int .i64 t_29.Source, .int .i64 t_29.At, .int .i64 t_29.Total, v_33, .int .i64 t_29.Hop, .int .i64 t_29.Seq, v_37, v_41, .int .i64 t_29.Index, .int .i64 t_29.Entry.Sess, .int .i64 t_29.Entry.Seq, .int .i64 t_29.Entry.Cmd.Kind, .int .i64 t_29.Entry.Cmd.Who, v_45, v_49, v_53] : List Value).toArray 29 (0, 0)), Mem.no, Mem.no, M_146, Mem.no] Z := hS'
        clear hs' hS'
        refine wpList_nil ?_
        replace hm : Fr 63 a [(4, .bool false), (5, .pointer (some ⟨g_58, 0, none⟩)), (6, .pointer (some ⟨g_60, 0, none⟩)), (8, v_134), (49, .int .i64 (t_76.2.length : Int)), (50, .int .i64 x_136)] := hm.keep [4, 5, 6, 8, 49, 50]
        refine x_block_n ?_
        refine x_then_n ?_
        refine wp_region_lit ?_
        refine s_arith (r := w64 (x_136 + 1)) hm rfl rfl rfl (.inl ⟨rfl, rfl⟩) ?_
        clear hm a; intro a hm
        refine s_move hm rfl rfl ?_
        clear hm a; intro a hm
        refine wpList_nil ?_
        replace hm : Fr 63 a [(4, .bool false), (5, .pointer (some ⟨g_58, 0, none⟩)), (6, .pointer (some ⟨g_60, 0, none⟩)), (8, v_134), (49, .int .i64 (t_76.2.length : Int)), (50, .int .i64 (w64 (x_136 + 1)))] := hm.keep [4, 5, 6, 8, 49, 50]
        refine x_then_n (hKL_137 _ _ ?_)
        replace hS : Sep w0 w_145 [N_130, M_35, M_39, M_43, M_47, M_51, M_55, Mem.one g_58 (.cells ([.int .i64 t_1.Kind, .int .i64 t_1.From, .int .i64 t_1.To, .int .i64 t_1.View, .int .i64 t_1.Inst, .int .i64 t_1.Len, .bool t_1.Has, .int .i64 t_1.Members, .int .i64 t_1.Source, .int .i64 t_1.At, .int .i64 t_1.Total, v_5, .int .i64 t_1.Hop, .int .i64 t_1.Seq, v_9, v_13, .int .i64 t_1.Index, .int .i64 t_1.Entry.Sess, .int .i64 t_1.Entry.Seq, .int .i64 t_1.Entry.Cmd.Kind, .int .i64 t_1.Entry.Cmd.Who, v_17, v_21, v_25] : List Value).toArray 29 (0, 0)), Mem.one g_60 (.cells ([.int .i64 t_29.Kind, .int .i64 t_29.From, .int .i64 t_29.To, .int .i64 t_29.View, .int .i64 t_29.Inst, .int .i64 t_29.Len, .bool t_29.Has, .int .i64 t_29.Members, .int .i64 t_29.Source, .int .i64 t_29.At, .int .i64 t_29.Total, v_33, .int .i64 t_29.Hop, .int .i64 t_29.Seq, v_37, v_41, .int .i64 t_29.Index, .int .i64 t_29.Entry.Sess, .int .i64 t_29.Entry.Seq, .int .i64 t_29.Entry.Cmd.Kind, .int .i64 t_29.Entry.Cmd.Who, v_45, v_49, v_53] : List Value).toArray 29 (0, 0)), Mem.no, Mem.no, M_146, Mem.no] Z := hS
        replace hm : Fr 63 a [(4, .bool false), (5, .pointer (some ⟨g_58, 0, none⟩)), (6, .pointer (some ⟨g_60, 0, none⟩)), (8, v_134), (49, .int .i64 (t_76.2.length : Int)), (50, .int .i64 (w64 (x_136 + 1)))] := hm.keep [4, 5, 6, 8, 49, 50]
        exact ⟨(x_131.set (x_136).toNat 777), w64 (x_136 + 1), v_134, N_130, M_146, H, hm, (Sep.sel hS [0, 1, 2, 3, 4, 5, 6, 7, 8, 1008, 1009, 11, 1011] (by decide)), le_130, ho_147⟩
      · rw [if_neg hc_140] at H
        refine c_cond_f hm rfl (decide_eq_false hc_140) ?_
        refine wp_exit (x_then_x (x_then_x (x_block_t ?_)))
        replace hS : Sep w0 w_137 [N_130, M_35, M_39, M_43, M_47, M_51, M_55, Mem.one g_58 (.cells ([.int .i64 t_1.Kind, .int .i64 t_1.From, .int .i64 t_1.To, .int .i64 t_1.View, .int .i64 t_1.Inst, .int .i64 t_1.Len, .bool t_1.Has, .int .i64 t_1.Members, .int .i64 t_1.Source, .int .i64 t_1.At, .int .i64 t_1.Total, v_5, .int .i64 t_1.Hop, .int .i64 t_1.Seq, v_9, v_13, .int .i64 t_1.Index, .int .i64 t_1.Entry.Sess, .int .i64 t_1.Entry.Seq, .int .i64 t_1.Entry.Cmd.Kind, .int .i64 t_1.Entry.Cmd.Who, v_17, v_21, v_25] : List Value).toArray 29 (0, 0)), Mem.one g_60 (.cells ([.int .i64 t_29.Kind, .int .i64 t_29.From, .int .i64 t_29.To, .int .i64 t_29.View, .int .i64 t_29.Inst, .int .i64 t_29.Len, .bool t_29.Has, .int .i64 t_29.Members, .int .i64 t_29.Source, .int .i64 t_29.At, .int .i64 t_29.Total, v_33, .int .i64 t_29.Hop, .int .i64 t_29.Seq, v_37, v_41, .int .i64 t_29.Index, .int .i64 t_29.Entry.Sess, .int .i64 t_29.Entry.Seq, .int .i64 t_29.Entry.Cmd.Kind, .int .i64 t_29.Entry.Cmd.Who, v_45, v_49, v_53] : List Value).toArray 29 (0, 0)), Mem.no, Mem.no, M_132, Mem.no] Z := hS
        replace hm : Fr 63 a [(4, .bool false), (5, .pointer (some ⟨g_58, 0, none⟩)), (6, .pointer (some ⟨g_60, 0, none⟩))] := hm.keep [4, 5, 6]
        exact x_then_n (hJ_j_119  H _ _ ⟨N_130, hm, (Sep.sel hS [0, 1, 2, 3, 4, 5, 6, 7, 8, 1008, 1009, 1010, 1011] (by decide)), le_130⟩)
    clear hKJ_112
    replace hS : Sep w0 w_110 [N_104, M_35, M_39, M_43, M_47, M_51, M_55, Mem.one g_58 (.cells ([.int .i64 t_1.Kind, .int .i64 t_1.From, .int .i64 t_1.To, .int .i64 t_1.View, .int .i64 t_1.Inst, .int .i64 t_1.Len, .bool t_1.Has, .int .i64 t_1.Members, .int .i64 t_1.Source, .int .i64 t_1.At, .int .i64 t_1.Total, v_5, .int .i64 t_1.Hop, .int .i64 t_1.Seq, v_9, v_13, .int .i64 t_1.Index, .int .i64 t_1.Entry.Sess, .int .i64 t_1.Entry.Seq, .int .i64 t_1.Entry.Cmd.Kind, .int .i64 t_1.Entry.Cmd.Who, v_17, v_21, v_25] : List Value).toArray 29 (0, 0)), Mem.one g_60 (.cells ([.int .i64 t_29.Kind, .int .i64 t_29.From, .int .i64 t_29.To, .int .i64 t_29.View, .int .i64 t_29.Inst, .int .i64 t_29.Len, .bool t_29.Has, .int .i64 t_29.Members, .int .i64 t_29.Source, .int .i64 t_29.At, .int .i64 t_29.Total, v_33, .int .i64 t_29.Hop, .int .i64 t_29.Seq, v_37, v_41, .int .i64 t_29.Index, .int .i64 t_29.Entry.Sess, .int .i64 t_29.Entry.Seq, .int .i64 t_29.Entry.Cmd.Kind, .int .i64 t_29.Entry.Cmd.Who, v_45, v_49, v_53] : List Value).toArray 29 (0, 0)), M_106, M_88, M_98, Mem.one g_101 (.cells ([.int .i64 t_76.1.Kind, .int .i64 t_76.1.From, .int .i64 t_76.1.To, .int .i64 t_76.1.View, .int .i64 t_76.1.Inst, .int .i64 t_76.1.Len, .bool t_76.1.Has, .int .i64 t_76.1.Members, .int .i64 t_76.1.Source, .int .i64 t_76.1.At, .int .i64 t_76.1.Total, v_80, .int .i64 t_76.1.Hop, .int .i64 t_76.1.Seq, v_108, v_86, .int .i64 t_76.1.Index, .int .i64 t_76.1.Entry.Sess, .int .i64 t_76.1.Entry.Seq, .int .i64 t_76.1.Entry.Cmd.Kind, .int .i64 t_76.1.Entry.Cmd.Who, v_90, v_92, v_94] : List Value).toArray 29 (0, 0))] Z := hS
    replace hm : Fr 63 a [(4, .bool false), (5, .pointer (some ⟨g_58, 0, none⟩)), (6, .pointer (some ⟨g_60, 0, none⟩)), (7, .pointer (some ⟨g_101, 0, none⟩)), (8, v_96), (39, .int .i64 (t_76.1.Need.length : Int)), (40, .int .i64 0)] := hm.keep [4, 5, 6, 7, 8, 39, 40]
    refine c_block ?_
    refine c_loop (fun k_155 a w_155 => ∃ (x_149 : Int) (x_150 : List Int) (v_153 : Value) (N_148 : Mem) (M_151 : Mem), hocketlaw17_ToknOwn.L2 K t_76 (fun v => hocketlaw17_ToknOwn.J2 K t_76 t_1 t_29) k_155 (x_149, x_150) = some r ∧ Fr 63 a [(4, .bool false), (5, .pointer (some ⟨g_58, 0, none⟩)), (6, .pointer (some ⟨g_60, 0, none⟩)), (7, .pointer (some ⟨g_101, 0, none⟩)), (8, v_96), (39, .int .i64 (t_76.1.Need.length : Int)), (40, .int .i64 x_149)] ∧ Sep w0 w_155 [N_148, M_35, M_39, M_43, M_47, M_51, M_55, Mem.one g_58 (.cells ([.int .i64 t_1.Kind, .int .i64 t_1.From, .int .i64 t_1.To, .int .i64 t_1.View, .int .i64 t_1.Inst, .int .i64 t_1.Len, .bool t_1.Has, .int .i64 t_1.Members, .int .i64 t_1.Source, .int .i64 t_1.At, .int .i64 t_1.Total, v_5, .int .i64 t_1.Hop, .int .i64 t_1.Seq, v_9, v_13, .int .i64 t_1.Index, .int .i64 t_1.Entry.Sess, .int .i64 t_1.Entry.Seq, .int .i64 t_1.Entry.Cmd.Kind, .int .i64 t_1.Entry.Cmd.Who, v_17, v_21, v_25] : List Value).toArray 29 (0, 0)), Mem.one g_60 (.cells ([.int .i64 t_29.Kind, .int .i64 t_29.From, .int .i64 t_29.To, .int .i64 t_29.View, .int .i64 t_29.Inst, .int .i64 t_29.Len, .bool t_29.Has, .int .i64 t_29.Members, .int .i64 t_29.Source, .int .i64 t_29.At, .int .i64 t_29.Total, v_33, .int .i64 t_29.Hop, .int .i64 t_29.Seq, v_37, v_41, .int .i64 t_29.Index, .int .i64 t_29.Entry.Sess, .int .i64 t_29.Entry.Seq, .int .i64 t_29.Entry.Cmd.Kind, .int .i64 t_29.Entry.Cmd.Who, v_45, v_49, v_53] : List Value).toArray 29 (0, 0)), M_106, M_151, M_98, Mem.one g_101 (.cells ([.int .i64 t_76.1.Kind, .int .i64 t_76.1.From, .int .i64 t_76.1.To, .int .i64 t_76.1.View, .int .i64 t_76.1.Inst, .int .i64 t_76.1.Len, .bool t_76.1.Has, .int .i64 t_76.1.Members, .int .i64 t_76.1.Source, .int .i64 t_76.1.At, .int .i64 t_76.1.Total, v_80, .int .i64 t_76.1.Hop, .int .i64 t_76.1.Seq, v_108, v_153, .int .i64 t_76.1.Index, .int .i64 t_76.1.Entry.Sess, .int .i64 t_76.1.Entry.Seq, .int .i64 t_76.1.Entry.Cmd.Kind, .int .i64 t_76.1.Entry.Cmd.Who, v_90, v_92, v_94] : List Value).toArray 29 (0, 0))] Z ∧ N_104.le N_148 ∧ Own (Kd.int .i64) 3 M_151 Mem.no v_153 x_150) K ⟨0, t_76.1.Need, v_86, N_104, M_88, H, hm, (Sep.sel hS [0, 1, 2, 3, 4, 5, 6, 7, 8, 9, 10, 11, 12] (by decide)), (Mem.le.refl _), hr_87⟩ (fun a w h => by obtain ⟨_, _, _, _, _, H, _⟩ := h; cases (show (none : Option (Unit)) = some r from H)) ?_
    clear hm hS a H
    rintro k_155 a w_155 KL_155 hKL_155 ⟨x_149, x_150, v_153, N_148, M_151, H, hm, hS, le_148, ho_154⟩
    replace H : hocketlaw17_ToknOwn.B2 K t_76 (fun v => hocketlaw17_ToknOwn.J2 K t_76 t_1 t_29) (hocketlaw17_ToknOwn.L2 K t_76 (fun v => hocketlaw17_ToknOwn.J2 K t_76 t_1 t_29) k_155) x_149 x_150 = some r := H
    unfold hocketlaw17_ToknOwn.B2 at H
    refine wp_seq ?_
    refine wp_region_lit ?_
    refine s_cmp (b := decide (x_149 < (t_76.1.Need.length : Int))) hm rfl rfl rfl (.inr (.inr (.inl ⟨rfl, rfl⟩))) ?_
    clear hm a; intro a hm
    refine wpList_nil ?_
    replace hm : Fr 63 a [(4, .bool false), (5, .pointer (some ⟨g_58, 0, none⟩)), (6, .pointer (some ⟨g_60, 0, none⟩)), (7, .pointer (some ⟨g_101, 0, none⟩)), (8, v_96), (39, .int .i64 (t_76.1.Need.length : Int)), (40, .int .i64 x_149), (41, .bool (decide (x_149 < (t_76.1.Need.length : Int))))] := hm.keep [4, 5, 6, 7, 8, 39, 40, 41]
    refine x_then_n ?_
    refine c_seq fun KJ_157 hKJ_157 => ?_
    by_cases hc_158 : x_149 < (t_76.1.Need.length : Int)
    · rw [if_pos hc_158] at H
      refine c_cond_t hm rfl (decide_eq_true hc_158) ?_
      refine wp_skip ?_
      refine x_then_n (hKJ_157 _ _ ?_)
      refine wp_seq ?_
      refine c_block ?_
      refine wp_seq ?_
      refine wp_region_lit ?_
      refine s_move hm rfl rfl ?_
      clear hm a; intro a hm
      refine s_assign hm rfl rfl ?_
      clear hm a; intro a hm
      refine wpList_nil ?_
      replace hm : Fr 63 a [(4, .bool false), (5, .pointer (some ⟨g_58, 0, none⟩)), (6, .pointer (some ⟨g_60, 0, none⟩)), (7, .pointer (some ⟨g_101, 0, none⟩)), (8, v_96), (10, .int .i64 x_149), (39, .int .i64 (t_76.1.Need.length : Int)), (40, .int .i64 x_149)] := hm.keep [4, 5, 6, 7, 8, 10, 39, 40]
      refine x_then_n ?_
      refine wp_region_lit ?_
      refine s_fieldAddr hm rfl Try.underlying29 rfl ti23 rfl rfl ?_
      clear hm a; intro a hm
      refine s_load hm rfl rfl (hS.load_one (p := 12) rfl Try.underlying23 rfl rfl) ?_
      clear hm a; intro a hm
      refine s_move hm rfl rfl ?_
      clear hm a; intro a hm
      obtain ⟨t_159, et_159, H⟩ := Option.bind_eq_some_iff.1 H
      refine s_indexOwn hm rfl Try.underlying23 ti3 rfl rfl rfl ho_154 et_159 ?_
      intro g_160 cur_161 hM_162
      clear hm a; intro a hm
      obtain ⟨w_163, M_164, hs', hS', ho_165⟩ := Own.stored (P := Try.prog) (p := 10) (t := 3) (o := 0) (nv := .int .i64 777) (vs := [.int .i64 777]) (u' := 777) hS rfl ho_154 hM_162 et_159 ti3 rfl rfl rfl (by intro u hu; simp only [List.mem_cons, List.not_mem_nil, or_false] at hu; rcases hu with rfl <;> rfl) (fun cs hk => by obtain rfl := (show cs = [_] from hk); rfl)
      refine s_store hm rfl rfl hs' ?_
      replace hS : Sep w0 w_163 [N_148, M_35, M_39, M_43, M_47, M_51, M_55, Mem.one g_58 (.cells ([.int .i64 t_1.Kind, .int .i64 t_1.From, .int .i64 t_1.To, .int .i64 t_1.View, .int .i64 t_1.Inst, .int .i64 t_1.Len, .bool t_1.Has, .int .i64 t_1.Members, .int .i64 t_1.Source, .int .i64 t_1.At, .int .i64 t_1.Total, v_5, .int .i64 t_1.Hop, .int .i64 t_1.Seq, v_9, v_13, .int .i64 t_1.Index, .int .i64 t_1.Entry.Sess, .int .i64 t_1.Entry.Seq, .int .i64 t_1.Entry.Cmd.Kind, .int .i64 t_1.Entry.Cmd.Who, v_17, v_21, v_25] : List Value).toArray 29 (0, 0)), Mem.one g_60 (.cells ([.int .i64 t_29.Kind, .int .i64 t_29.From, .int .i64 t_29.To, .int .i64 t_29.View, .int .i64 t_29.Inst, .int .i64 t_29.Len, .bool t_29.Has, .int .i64 t_29.Members, .int .i64 t_29.Source, .int .i64 t_29.At, .int .i64 t_29.Total, v_33, .int .i64 t_29.Hop, .int .i64 t_29.Seq, v_37, v_41, .int .i64 t_29.Index, .int .i64 t_29.Entry.Sess, .int .i64 t_29.Entry.Seq, .int .i64 t_29.Entry.Cmd.Kind, .int .i64 t_29.Entry.Cmd.Who, v_45, v_49, v_53] : List Value).toArray 29 (0, 0)), M_106, M_164, M_98, Mem.one g_101 (.cells ([.int .i64 t_76.1.Kind, .int .i64 t_76.1.From, .int .i64 t_76.1.To, .int .i64 t_76.1.View, .int .i64 t_76.1.Inst, .int .i64 t_76.1.Len, .bool t_76.1.Has, .int .i64 t_76.1.Members, .int .i64 t_76.1.Source, .int .i64 t_76.1.At, .int .i64 t_76.1.Total, v_80, .int .i64 t_76.1.Hop, .int .i64 t_76.1.Seq, v_108, v_153, .int .i64 t_76.1.Index, .int .i64 t_76.1.Entry.Sess, .int .i64 t_76.1.Entry.Seq, .int .i64 t_76.1.Entry.Cmd.Kind, .int .i64 t_76.1.Entry.Cmd.Who, v_90, v_92, v_94] : List Value).toArray 29 (0, 0))] Z := hS'
      clear hs' hS'
      refine wpList_nil ?_
      replace hm : Fr 63 a [(4, .bool false), (5, .pointer (some ⟨g_58, 0, none⟩)), (6, .pointer (some ⟨g_60, 0, none⟩)), (7, .pointer (some ⟨g_101, 0, none⟩)), (8, v_96), (39, .int .i64 (t_76.1.Need.length : Int)), (40, .int .i64 x_149)] := hm.keep [4, 5, 6, 7, 8, 39, 40]
      refine x_block_n ?_
      refine x_then_n ?_
      refine wp_region_lit ?_
      refine s_arith (r := w64 (x_149 + 1)) hm rfl rfl rfl (.inl ⟨rfl, rfl⟩) ?_
      clear hm a; intro a hm
      refine s_move hm rfl rfl ?_
      clear hm a; intro a hm
      refine wpList_nil ?_
      replace hm : Fr 63 a [(4, .bool false), (5, .pointer (some ⟨g_58, 0, none⟩)), (6, .pointer (some ⟨g_60, 0, none⟩)), (7, .pointer (some ⟨g_101, 0, none⟩)), (8, v_96), (39, .int .i64 (t_76.1.Need.length : Int)), (40, .int .i64 (w64 (x_149 + 1)))] := hm.keep [4, 5, 6, 7, 8, 39, 40]
      refine x_then_n (hKL_155 _ _ ?_)
      replace hS : Sep w0 w_163 [N_148, M_35, M_39, M_43, M_47, M_51, M_55, Mem.one g_58 (.cells ([.int .i64 t_1.Kind, .int .i64 t_1.From, .int .i64 t_1.To, .int .i64 t_1.View, .int .i64 t_1.Inst, .int .i64 t_1.Len, .bool t_1.Has, .int .i64 t_1.Members, .int .i64 t_1.Source, .int .i64 t_1.At, .int .i64 t_1.Total, v_5, .int .i64 t_1.Hop, .int .i64 t_1.Seq, v_9, v_13, .int .i64 t_1.Index, .int .i64 t_1.Entry.Sess, .int .i64 t_1.Entry.Seq, .int .i64 t_1.Entry.Cmd.Kind, .int .i64 t_1.Entry.Cmd.Who, v_17, v_21, v_25] : List Value).toArray 29 (0, 0)), Mem.one g_60 (.cells ([.int .i64 t_29.Kind, .int .i64 t_29.From, .int .i64 t_29.To, .int .i64 t_29.View, .int .i64 t_29.Inst, .int .i64 t_29.Len, .bool t_29.Has, .int .i64 t_29.Members, .int .i64 t_29.Source, .int .i64 t_29.At, .int .i64 t_29.Total, v_33, .int .i64 t_29.Hop, .int .i64 t_29.Seq, v_37, v_41, .int .i64 t_29.Index, .int .i64 t_29.Entry.Sess, .int .i64 t_29.Entry.Seq, .int .i64 t_29.Entry.Cmd.Kind, .int .i64 t_29.Entry.Cmd.Who, v_45, v_49, v_53] : List Value).toArray 29 (0, 0)), M_106, M_164, M_98, Mem.one g_101 (.cells ([.int .i64 t_76.1.Kind, .int .i64 t_76.1.From, .int .i64 t_76.1.To, .int .i64 t_76.1.View, .int .i64 t_76.1.Inst, .int .i64 t_76.1.Len, .bool t_76.1.Has, .int .i64 t_76.1.Members, .int .i64 t_76.1.Source, .int .i64 t_76.1.At, .int .i64 t_76.1.Total, v_80, .int .i64 t_76.1.Hop, .int .i64 t_76.1.Seq, v_108, v_153, .int .i64 t_76.1.Index, .int .i64 t_76.1.Entry.Sess, .int .i64 t_76.1.Entry.Seq, .int .i64 t_76.1.Entry.Cmd.Kind, .int .i64 t_76.1.Entry.Cmd.Who, v_90, v_92, v_94] : List Value).toArray 29 (0, 0))] Z := hS
      replace hm : Fr 63 a [(4, .bool false), (5, .pointer (some ⟨g_58, 0, none⟩)), (6, .pointer (some ⟨g_60, 0, none⟩)), (7, .pointer (some ⟨g_101, 0, none⟩)), (8, v_96), (39, .int .i64 (t_76.1.Need.length : Int)), (40, .int .i64 (w64 (x_149 + 1)))] := hm.keep [4, 5, 6, 7, 8, 39, 40]
      exact ⟨w64 (x_149 + 1), (x_150.set (x_149).toNat 777), v_153, N_148, M_164, H, hm, (Sep.sel hS [0, 1, 2, 3, 4, 5, 6, 7, 8, 9, 10, 11, 12] (by decide)), le_148, ho_165⟩
    · rw [if_neg hc_158] at H
      refine c_cond_f hm rfl (decide_eq_false hc_158) ?_
      refine wp_exit (x_then_x (x_then_x (x_block_t ?_)))
      replace hS : Sep w0 w_155 [N_148, M_35, M_39, M_43, M_47, M_51, M_55, Mem.one g_58 (.cells ([.int .i64 t_1.Kind, .int .i64 t_1.From, .int .i64 t_1.To, .int .i64 t_1.View, .int .i64 t_1.Inst, .int .i64 t_1.Len, .bool t_1.Has, .int .i64 t_1.Members, .int .i64 t_1.Source, .int .i64 t_1.At, .int .i64 t_1.Total, v_5, .int .i64 t_1.Hop, .int .i64 t_1.Seq, v_9, v_13, .int .i64 t_1.Index, .int .i64 t_1.Entry.Sess, .int .i64 t_1.Entry.Seq, .int .i64 t_1.Entry.Cmd.Kind, .int .i64 t_1.Entry.Cmd.Who, v_17, v_21, v_25] : List Value).toArray 29 (0, 0)), Mem.one g_60 (.cells ([.int .i64 t_29.Kind, .int .i64 t_29.From, .int .i64 t_29.To, .int .i64 t_29.View, .int .i64 t_29.Inst, .int .i64 t_29.Len, .bool t_29.Has, .int .i64 t_29.Members, .int .i64 t_29.Source, .int .i64 t_29.At, .int .i64 t_29.Total, v_33, .int .i64 t_29.Hop, .int .i64 t_29.Seq, v_37, v_41, .int .i64 t_29.Index, .int .i64 t_29.Entry.Sess, .int .i64 t_29.Entry.Seq, .int .i64 t_29.Entry.Cmd.Kind, .int .i64 t_29.Entry.Cmd.Who, v_45, v_49, v_53] : List Value).toArray 29 (0, 0)), M_106, M_151, M_98, Mem.one g_101 (.cells ([.int .i64 t_76.1.Kind, .int .i64 t_76.1.From, .int .i64 t_76.1.To, .int .i64 t_76.1.View, .int .i64 t_76.1.Inst, .int .i64 t_76.1.Len, .bool t_76.1.Has, .int .i64 t_76.1.Members, .int .i64 t_76.1.Source, .int .i64 t_76.1.At, .int .i64 t_76.1.Total, v_80, .int .i64 t_76.1.Hop, .int .i64 t_76.1.Seq, v_108, v_153, .int .i64 t_76.1.Index, .int .i64 t_76.1.Entry.Sess, .int .i64 t_76.1.Entry.Seq, .int .i64 t_76.1.Entry.Cmd.Kind, .int .i64 t_76.1.Entry.Cmd.Who, v_90, v_92, v_94] : List Value).toArray 29 (0, 0))] Z := hS
      replace hm : Fr 63 a [(4, .bool false), (5, .pointer (some ⟨g_58, 0, none⟩)), (6, .pointer (some ⟨g_60, 0, none⟩)), (8, v_96)] := hm.keep [4, 5, 6, 8]
      exact x_then_n (hJ_j_115  H _ _ ⟨N_148, hm, (Sep.sel hS [0, 1, 2, 3, 4, 5, 6, 7, 8, 1008, 1009, 11, 1011] (by decide)), le_148⟩)
  clear hKJ_103
  replace hS : Sep w0 w_102 [N_79, M_35, M_39, M_43, M_47, M_51, M_55, Mem.one g_58 (.cells ([.int .i64 t_1.Kind, .int .i64 t_1.From, .int .i64 t_1.To, .int .i64 t_1.View, .int .i64 t_1.Inst, .int .i64 t_1.Len, .bool t_1.Has, .int .i64 t_1.Members, .int .i64 t_1.Source, .int .i64 t_1.At, .int .i64 t_1.Total, v_5, .int .i64 t_1.Hop, .int .i64 t_1.Seq, v_9, v_13, .int .i64 t_1.Index, .int .i64 t_1.Entry.Sess, .int .i64 t_1.Entry.Seq, .int .i64 t_1.Entry.Cmd.Kind, .int .i64 t_1.Entry.Cmd.Who, v_17, v_21, v_25] : List Value).toArray 29 (0, 0)), Mem.one g_60 (.cells ([.int .i64 t_29.Kind, .int .i64 t_29.From, .int .i64 t_29.To, .int .i64 t_29.View, .int .i64 t_29.Inst, .int .i64 t_29.Len, .bool t_29.Has, .int .i64 t_29.Members, .int .i64 t_29.Source, .int .i64 t_29.At, .int .i64 t_29.Total, v_33, .int .i64 t_29.Hop, .int .i64 t_29.Seq, v_37, v_41, .int .i64 t_29.Index, .int .i64 t_29.Entry.Sess, .int .i64 t_29.Entry.Seq, .int .i64 t_29.Entry.Cmd.Kind, .int .i64 t_29.Entry.Cmd.Who, v_45, v_49, v_53] : List Value).toArray 29 (0, 0)), M_84, M_88, M_98, Mem.one g_101 (.cells ([.int .i64 t_76.1.Kind, .int .i64 t_76.1.From, .int .i64 t_76.1.To, .int .i64 t_76.1.View, .int .i64 t_76.1.Inst, .int .i64 t_76.1.Len, .bool t_76.1.Has, .int .i64 t_76.1.Members, .int .i64 t_76.1.Source, .int .i64 t_76.1.At, .int .i64 t_76.1.Total, v_80, .int .i64 t_76.1.Hop, .int .i64 t_76.1.Seq, v_82, v_86, .int .i64 t_76.1.Index, .int .i64 t_76.1.Entry.Sess, .int .i64 t_76.1.Entry.Seq, .int .i64 t_76.1.Entry.Cmd.Kind, .int .i64 t_76.1.Entry.Cmd.Who, v_90, v_92, v_94] : List Value).toArray 29 (0, 0))] Z := hS
  replace hm : Fr 63 a [(4, .bool false), (5, .pointer (some ⟨g_58, 0, none⟩)), (6, .pointer (some ⟨g_60, 0, none⟩)), (7, .pointer (some ⟨g_101, 0, none⟩)), (8, v_96), (28, .int .i64 (t_76.1.Have.length : Int)), (29, .int .i64 0)] := hm.keep [4, 5, 6, 7, 8, 28, 29]
  refine c_block ?_
  refine c_loop (fun k_173 a w_173 => ∃ (x_167 : Int) (x_168 : List Int) (v_171 : Value) (N_166 : Mem) (M_169 : Mem), hocketlaw17_ToknOwn.L3 K t_76 (fun v => hocketlaw17_ToknOwn.J1 K t_76 t_1 t_29 v) k_173 (x_167, x_168) = some r ∧ Fr 63 a [(4, .bool false), (5, .pointer (some ⟨g_58, 0, none⟩)), (6, .pointer (some ⟨g_60, 0, none⟩)), (7, .pointer (some ⟨g_101, 0, none⟩)), (8, v_96), (28, .int .i64 (t_76.1.Have.length : Int)), (29, .int .i64 x_167)] ∧ Sep w0 w_173 [N_166, M_35, M_39, M_43, M_47, M_51, M_55, Mem.one g_58 (.cells ([.int .i64 t_1.Kind, .int .i64 t_1.From, .int .i64 t_1.To, .int .i64 t_1.View, .int .i64 t_1.Inst, .int .i64 t_1.Len, .bool t_1.Has, .int .i64 t_1.Members, .int .i64 t_1.Source, .int .i64 t_1.At, .int .i64 t_1.Total, v_5, .int .i64 t_1.Hop, .int .i64 t_1.Seq, v_9, v_13, .int .i64 t_1.Index, .int .i64 t_1.Entry.Sess, .int .i64 t_1.Entry.Seq, .int .i64 t_1.Entry.Cmd.Kind, .int .i64 t_1.Entry.Cmd.Who, v_17, v_21, v_25] : List Value).toArray 29 (0, 0)), Mem.one g_60 (.cells ([.int .i64 t_29.Kind, .int .i64 t_29.From, .int .i64 t_29.To, .int .i64 t_29.View, .int .i64 t_29.Inst, .int .i64 t_29.Len, .bool t_29.Has, .int .i64 t_29.Members, .int .i64 t_29.Source, .int .i64 t_29.At, .int .i64 t_29.Total, v_33, .int .i64 t_29.Hop, .int .i64 t_29.Seq, v_37, v_41, .int .i64 t_29.Index, .int .i64 t_29.Entry.Sess, .int .i64 t_29.Entry.Seq, .int .i64 t_29.Entry.Cmd.Kind, .int .i64 t_29.Entry.Cmd.Who, v_45, v_49, v_53] : List Value).toArray 29 (0, 0)), M_169, M_88, M_98, Mem.one g_101 (.cells ([.int .i64 t_76.1.Kind, .int .i64 t_76.1.From, .int .i64 t_76.1.To, .int .i64 t_76.1.View, .int .i64 t_76.1.Inst, .int .i64 t_76.1.Len, .bool t_76.1.Has, .int .i64 t_76.1.Members, .int .i64 t_76.1.Source, .int .i64 t_76.1.At, .int .i64 t_76.1.Total, v_80, .int .i64 t_76.1.Hop, .int .i64 t_76.1.Seq, v_171, v_86, .int .i64 t_76.1.Index, .int .i64 t_76.1.Entry.Sess, .int .i64 t_76.1.Entry.Seq, .int .i64 t_76.1.Entry.Cmd.Kind, .int .i64 t_76.1.Entry.Cmd.Who, v_90, v_92, v_94] : List Value).toArray 29 (0, 0))] Z ∧ N_79.le N_166 ∧ Own (Kd.int .i64) 3 M_169 Mem.no v_171 x_168) K ⟨0, t_76.1.Have, v_82, N_79, M_84, H, hm, (Sep.sel hS [0, 1, 2, 3, 4, 5, 6, 7, 8, 9, 10, 11, 12] (by decide)), (Mem.le.refl _), hr_83⟩ (fun a w h => by obtain ⟨_, _, _, _, _, H, _⟩ := h; cases (show (none : Option (Unit)) = some r from H)) ?_
  clear hm hS a H
  rintro k_173 a w_173 KL_173 hKL_173 ⟨x_167, x_168, v_171, N_166, M_169, H, hm, hS, le_166, ho_172⟩
  replace H : hocketlaw17_ToknOwn.B3 K t_76 (fun v => hocketlaw17_ToknOwn.J1 K t_76 t_1 t_29 v) (hocketlaw17_ToknOwn.L3 K t_76 (fun v => hocketlaw17_ToknOwn.J1 K t_76 t_1 t_29 v) k_173) x_167 x_168 = some r := H
  unfold hocketlaw17_ToknOwn.B3 at H
  refine wp_seq ?_
  refine wp_region_lit ?_
  refine s_cmp (b := decide (x_167 < (t_76.1.Have.length : Int))) hm rfl rfl rfl (.inr (.inr (.inl ⟨rfl, rfl⟩))) ?_
  clear hm a; intro a hm
  refine wpList_nil ?_
  replace hm : Fr 63 a [(4, .bool false), (5, .pointer (some ⟨g_58, 0, none⟩)), (6, .pointer (some ⟨g_60, 0, none⟩)), (7, .pointer (some ⟨g_101, 0, none⟩)), (8, v_96), (28, .int .i64 (t_76.1.Have.length : Int)), (29, .int .i64 x_167), (30, .bool (decide (x_167 < (t_76.1.Have.length : Int))))] := hm.keep [4, 5, 6, 7, 8, 28, 29, 30]
  refine x_then_n ?_
  refine c_seq fun KJ_175 hKJ_175 => ?_
  by_cases hc_176 : x_167 < (t_76.1.Have.length : Int)
  · rw [if_pos hc_176] at H
    refine c_cond_t hm rfl (decide_eq_true hc_176) ?_
    refine wp_skip ?_
    refine x_then_n (hKJ_175 _ _ ?_)
    refine wp_seq ?_
    refine c_block ?_
    refine wp_seq ?_
    refine wp_region_lit ?_
    refine s_move hm rfl rfl ?_
    clear hm a; intro a hm
    refine s_assign hm rfl rfl ?_
    clear hm a; intro a hm
    refine wpList_nil ?_
    replace hm : Fr 63 a [(4, .bool false), (5, .pointer (some ⟨g_58, 0, none⟩)), (6, .pointer (some ⟨g_60, 0, none⟩)), (7, .pointer (some ⟨g_101, 0, none⟩)), (8, v_96), (9, .int .i64 x_167), (28, .int .i64 (t_76.1.Have.length : Int)), (29, .int .i64 x_167)] := hm.keep [4, 5, 6, 7, 8, 9, 28, 29]
    refine x_then_n ?_
    refine wp_region_lit ?_
    refine s_fieldAddr hm rfl Try.underlying29 rfl ti23 rfl rfl ?_
    clear hm a; intro a hm
    refine s_load hm rfl rfl (hS.load_one (p := 12) rfl Try.underlying23 rfl rfl) ?_
    clear hm a; intro a hm
    refine s_move hm rfl rfl ?_
    clear hm a; intro a hm
    obtain ⟨t_177, et_177, H⟩ := Option.bind_eq_some_iff.1 H
    refine s_indexOwn hm rfl Try.underlying23 ti3 rfl rfl rfl ho_172 et_177 ?_
    intro g_178 cur_179 hM_180
    clear hm a; intro a hm
    obtain ⟨w_181, M_182, hs', hS', ho_183⟩ := Own.stored (P := Try.prog) (p := 9) (t := 3) (o := 0) (nv := .int .i64 777) (vs := [.int .i64 777]) (u' := 777) hS rfl ho_172 hM_180 et_177 ti3 rfl rfl rfl (by intro u hu; simp only [List.mem_cons, List.not_mem_nil, or_false] at hu; rcases hu with rfl <;> rfl) (fun cs hk => by obtain rfl := (show cs = [_] from hk); rfl)
    refine s_store hm rfl rfl hs' ?_
    replace hS : Sep w0 w_181 [N_166, M_35, M_39, M_43, M_47, M_51, M_55, Mem.one g_58 (.cells ([.int .i64 t_1.Kind, .int .i64 t_1.From, .int .i64 t_1.To, .int .i64 t_1.View, .int .i64 t_1.Inst, .int .i64 t_1.Len, .bool t_1.Has, .int .i64 t_1.Members, .int .i64 t_1.Source, .int .i64 t_1.At, .int .i64 t_1.Total, v_5, .int .i64 t_1.Hop, .int .i64 t_1.Seq, v_9, v_13, .int .i64 t_1.Index, .int .i64 t_1.Entry.Sess, .int .i64 t_1.Entry.Seq, .int .i64 t_1.Entry.Cmd.Kind, .int .i64 t_1.Entry.Cmd.Who, v_17, v_21, v_25] : List Value).toArray 29 (0, 0)), Mem.one g_60 (.cells ([.int .i64 t_29.Kind, .int .i64 t_29.From, .int .i64 t_29.To, .int .i64 t_29.View, .int .i64 t_29.Inst, .int .i64 t_29.Len, .bool t_29.Has, .int .i64 t_29.Members, .int .i64 t_29.Source, .int .i64 t_29.At, .int .i64 t_29.Total, v_33, .int .i64 t_29.Hop, .int .i64 t_29.Seq, v_37, v_41, .int .i64 t_29.Index, .int .i64 t_29.Entry.Sess, .int .i64 t_29.Entry.Seq, .int .i64 t_29.Entry.Cmd.Kind, .int .i64 t_29.Entry.Cmd.Who, v_45, v_49, v_53] : List Value).toArray 29 (0, 0)), M_182, M_88, M_98, Mem.one g_101 (.cells ([.int .i64 t_76.1.Kind, .int .i64 t_76.1.From, .int .i64 t_76.1.To, .int .i64 t_76.1.View, .int .i64 t_76.1.Inst, .int .i64 t_76.1.Len, .bool t_76.1.Has, .int .i64 t_76.1.Members, .int .i64 t_76.1.Source, .int .i64 t_76.1.At, .int .i64 t_76.1.Total, v_80, .int .i64 t_76.1.Hop, .int .i64 t_76.1.Seq, v_171, v_86, .int .i64 t_76.1.Index, .int .i64 t_76.1.Entry.Sess, .int .i64 t_76.1.Entry.Seq, .int .i64 t_76.1.Entry.Cmd.Kind, .int .i64 t_76.1.Entry.Cmd.Who, v_90, v_92, v_94] : List Value).toArray 29 (0, 0))] Z := hS'
    clear hs' hS'
    refine wpList_nil ?_
    replace hm : Fr 63 a [(4, .bool false), (5, .pointer (some ⟨g_58, 0, none⟩)), (6, .pointer (some ⟨g_60, 0, none⟩)), (7, .pointer (some ⟨g_101, 0, none⟩)), (8, v_96), (28, .int .i64 (t_76.1.Have.length : Int)), (29, .int .i64 x_167)] := hm.keep [4, 5, 6, 7, 8, 28, 29]
    refine x_block_n ?_
    refine x_then_n ?_
    refine wp_region_lit ?_
    refine s_arith (r := w64 (x_167 + 1)) hm rfl rfl rfl (.inl ⟨rfl, rfl⟩) ?_
    clear hm a; intro a hm
    refine s_move hm rfl rfl ?_
    clear hm a; intro a hm
    refine wpList_nil ?_
    replace hm : Fr 63 a [(4, .bool false), (5, .pointer (some ⟨g_58, 0, none⟩)), (6, .pointer (some ⟨g_60, 0, none⟩)), (7, .pointer (some ⟨g_101, 0, none⟩)), (8, v_96), (28, .int .i64 (t_76.1.Have.length : Int)), (29, .int .i64 (w64 (x_167 + 1)))] := hm.keep [4, 5, 6, 7, 8, 28, 29]
    refine x_then_n (hKL_173 _ _ ?_)
    replace hS : Sep w0 w_181 [N_166, M_35, M_39, M_43, M_47, M_51, M_55, Mem.one g_58 (.cells ([.int .i64 t_1.Kind, .int .i64 t_1.From, .int .i64 t_1.To, .int .i64 t_1.View, .int .i64 t_1.Inst, .int .i64 t_1.Len, .bool t_1.Has, .int .i64 t_1.Members, .int .i64 t_1.Source, .int .i64 t_1.At, .int .i64 t_1.Total, v_5, .int .i64 t_1.Hop, .int .i64 t_1.Seq, v_9, v_13, .int .i64 t_1.Index, .int .i64 t_1.Entry.Sess, .int .i64 t_1.Entry.Seq, .int .i64 t_1.Entry.Cmd.Kind, .int .i64 t_1.Entry.Cmd.Who, v_17, v_21, v_25] : List Value).toArray 29 (0, 0)), Mem.one g_60 (.cells ([.int .i64 t_29.Kind, .int .i64 t_29.From, .int .i64 t_29.To, .int .i64 t_29.View, .int .i64 t_29.Inst, .int .i64 t_29.Len, .bool t_29.Has, .int .i64 t_29.Members, .int .i64 t_29.Source, .int .i64 t_29.At, .int .i64 t_29.Total, v_33, .int .i64 t_29.Hop, .int .i64 t_29.Seq, v_37, v_41, .int .i64 t_29.Index, .int .i64 t_29.Entry.Sess, .int .i64 t_29.Entry.Seq, .int .i64 t_29.Entry.Cmd.Kind, .int .i64 t_29.Entry.Cmd.Who, v_45, v_49, v_53] : List Value).toArray 29 (0, 0)), M_182, M_88, M_98, Mem.one g_101 (.cells ([.int .i64 t_76.1.Kind, .int .i64 t_76.1.From, .int .i64 t_76.1.To, .int .i64 t_76.1.View, .int .i64 t_76.1.Inst, .int .i64 t_76.1.Len, .bool t_76.1.Has, .int .i64 t_76.1.Members, .int .i64 t_76.1.Source, .int .i64 t_76.1.At, .int .i64 t_76.1.Total, v_80, .int .i64 t_76.1.Hop, .int .i64 t_76.1.Seq, v_171, v_86, .int .i64 t_76.1.Index, .int .i64 t_76.1.Entry.Sess, .int .i64 t_76.1.Entry.Seq, .int .i64 t_76.1.Entry.Cmd.Kind, .int .i64 t_76.1.Entry.Cmd.Who, v_90, v_92, v_94] : List Value).toArray 29 (0, 0))] Z := hS
    replace hm : Fr 63 a [(4, .bool false), (5, .pointer (some ⟨g_58, 0, none⟩)), (6, .pointer (some ⟨g_60, 0, none⟩)), (7, .pointer (some ⟨g_101, 0, none⟩)), (8, v_96), (28, .int .i64 (t_76.1.Have.length : Int)), (29, .int .i64 (w64 (x_167 + 1)))] := hm.keep [4, 5, 6, 7, 8, 28, 29]
    exact ⟨w64 (x_167 + 1), (x_168.set (x_167).toNat 777), v_171, N_166, M_182, H, hm, (Sep.sel hS [0, 1, 2, 3, 4, 5, 6, 7, 8, 9, 10, 11, 12] (by decide)), le_166, ho_183⟩
  · rw [if_neg hc_176] at H
    refine c_cond_f hm rfl (decide_eq_false hc_176) ?_
    refine wp_exit (x_then_x (x_then_x (x_block_t ?_)))
    replace hS : Sep w0 w_173 [N_166, M_35, M_39, M_43, M_47, M_51, M_55, Mem.one g_58 (.cells ([.int .i64 t_1.Kind, .int .i64 t_1.From, .int .i64 t_1.To, .int .i64 t_1.View, .int .i64 t_1.Inst, .int .i64 t_1.Len, .bool t_1.Has, .int .i64 t_1.Members, .int .i64 t_1.Source, .int .i64 t_1.At, .int .i64 t_1.Total, v_5, .int .i64 t_1.Hop, .int .i64 t_1.Seq, v_9, v_13, .int .i64 t_1.Index, .int .i64 t_1.Entry.Sess, .int .i64 t_1.Entry.Seq, .int .i64 t_1.Entry.Cmd.Kind, .int .i64 t_1.Entry.Cmd.Who, v_17, v_21, v_25] : List Value).toArray 29 (0, 0)), Mem.one g_60 (.cells ([.int .i64 t_29.Kind, .int .i64 t_29.From, .int .i64 t_29.To, .int .i64 t_29.View, .int .i64 t_29.Inst, .int .i64 t_29.Len, .bool t_29.Has, .int .i64 t_29.Members, .int .i64 t_29.Source, .int .i64 t_29.At, .int .i64 t_29.Total, v_33, .int .i64 t_29.Hop, .int .i64 t_29.Seq, v_37, v_41, .int .i64 t_29.Index, .int .i64 t_29.Entry.Sess, .int .i64 t_29.Entry.Seq, .int .i64 t_29.Entry.Cmd.Kind, .int .i64 t_29.Entry.Cmd.Who, v_45, v_49, v_53] : List Value).toArray 29 (0, 0)), M_169, M_88, M_98, Mem.one g_101 (.cells ([.int .i64 t_76.1.Kind, .int .i64 t_76.1.From, .int .i64 t_76.1.To, .int .i64 t_76.1.View, .int .i64 t_76.1.Inst, .int .i64 t_76.1.Len, .bool t_76.1.Has, .int .i64 t_76.1.Members, .int .i64 t_76.1.Source, .int .i64 t_76.1.At, .int .i64 t_76.1.Total, v_80, .int .i64 t_76.1.Hop, .int .i64 t_76.1.Seq, v_171, v_86, .int .i64 t_76.1.Index, .int .i64 t_76.1.Entry.Sess, .int .i64 t_76.1.Entry.Seq, .int .i64 t_76.1.Entry.Cmd.Kind, .int .i64 t_76.1.Entry.Cmd.Who, v_90, v_92, v_94] : List Value).toArray 29 (0, 0))] Z := hS
    replace hm : Fr 63 a [(4, .bool false), (5, .pointer (some ⟨g_58, 0, none⟩)), (6, .pointer (some ⟨g_60, 0, none⟩)), (7, .pointer (some ⟨g_101, 0, none⟩)), (8, v_96)] := hm.keep [4, 5, 6, 7, 8]
    exact x_then_n (hJ_j_111 x_168 H _ _ ⟨v_171, N_166, M_169, hm, (Sep.sel hS [0, 1, 2, 3, 4, 5, 6, 7, 8, 9, 10, 11, 12] (by decide)), le_166, ho_172⟩)


end Go.Proofs
