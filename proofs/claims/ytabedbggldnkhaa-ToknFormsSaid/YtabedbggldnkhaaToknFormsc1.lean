/- What the calls do: each function once. -/
import Derived.Test.YtabedbggldnkhaaToknFormsc0
namespace Go.Proofs
open Go.Gp
set_option linter.unusedVariables false
set_option maxHeartbeats 4000000 in
set_option maxRecDepth 20000 in
theorem hocketlaw17_awake.calls (K : Nat) (r : Unit) (w0 w : World) (Z A : Mem) (hA : A.le Z) (hS : Sep w0 w [] Z)
    (H : hocketlaw17_awake.f K = some r) :
    Calls Try.prog 37 [].toArray w (Ret fun v w' => ∃ (N : Mem), v = .bool true ∧ Sep w0 w' [N] Z) := by
  unfold hocketlaw17_awake.f at H
  refine f_enter _ Try.func37 rfl Try.ntmps37 rfl fun a hm => ?_
  replace hm : Fr 80 a [] := hm
  replace hS := hS.start
  replace hS : Sep w0 w [Mem.no] Z := hS
  refine wp_seq ?_
  refine wp_region_lit ?_
  refine s_assign hm rfl rfl ?_
  clear hm a; intro a hm
  refine wpList_nil ?_
  replace hm : Fr 80 a [(0, .bool false)] := hm.keep [0]
  refine x_then_n ?_
  refine wp_seq ?_
  refine wp_region_lit ?_
  obtain ⟨t_1, et_1, H⟩ := Option.bind_eq_some_iff.1 H
  refine s_call hm rfl Try.call40 rfl (tokn_First.calls K 16 3 5 t_1 w0 _ _ _ (Mem.le.refl _) (hS.enter [] (by decide))  et_1) ?_
  rintro _ w_2 ⟨v_5, v_9, v_13, v_17, v_21, v_25, N_3, M_7, M_11, M_15, M_19, M_23, M_27, rfl, hS', hr_6, hr_10, hr_14, hr_18, hr_22, hr_26⟩
  clear hm a; intro a hm
  obtain ⟨N_4, hS'', le_4, ln_4⟩ := hS.call [] (by decide) rfl (l' := []) (ow := [M_7, M_11, M_15, M_19, M_23, M_27]) rfl hS'
  replace hS : Sep w0 w_2 [N_4, M_7, M_11, M_15, M_19, M_23, M_27] Z := hS''
  clear hS' hS''
  refine v_alloc hm rfl ti29 hS ?_
  intro w_29 g_30 hS'
  clear hm a; intro a hm
  replace hS : Sep w0 w_29 [N_4, M_7, M_11, M_15, M_19, M_23, M_27, Mem.one g_30 (.cells ([.int .i64 0, .int .i64 0, .int .i64 0, .int .i64 0, .int .i64 0, .int .i64 0, .bool false, .int .i64 0, .int .i64 0, .int .i64 0, .int .i64 0, .slice none 0 0, .int .i64 0, .int .i64 0, .slice none 0 0, .slice none 0 0, .int .i64 0, .int .i64 0, .int .i64 0, .int .i64 0, .int .i64 0, .slice none 0 0, .slice none 0 0, .slice none 0 0] : List Value).toArray 29 (0, 0))] Z := hS'
  clear hS'
  obtain ⟨w_31, hs', hS'⟩ := hS.store (P := Try.prog) (p := 7) (o := 0) (t := 29) (v := .agg ([.int .i64 t_1.Kind, .int .i64 t_1.From, .int .i64 t_1.To, .int .i64 t_1.View, .int .i64 t_1.Inst, .int .i64 t_1.Len, .bool t_1.Has, .int .i64 t_1.Members, .int .i64 t_1.Source, .int .i64 t_1.At, .int .i64 t_1.Total, v_5, .int .i64 t_1.Hop, .int .i64 t_1.Seq, v_9, v_13, .int .i64 t_1.Index, .int .i64 t_1.Entry.Sess, .int .i64 t_1.Entry.Seq, .int .i64 t_1.Entry.Cmd.Kind, .int .i64 t_1.Entry.Cmd.Who, v_17, v_21, v_25] : List Value).toArray) (vs := [.int .i64 t_1.Kind, .int .i64 t_1.From, .int .i64 t_1.To, .int .i64 t_1.View, .int .i64 t_1.Inst, .int .i64 t_1.Len, .bool t_1.Has, .int .i64 t_1.Members, .int .i64 t_1.Source, .int .i64 t_1.At, .int .i64 t_1.Total, v_5, .int .i64 t_1.Hop, .int .i64 t_1.Seq, v_9, v_13, .int .i64 t_1.Index, .int .i64 t_1.Entry.Sess, .int .i64 t_1.Entry.Seq, .int .i64 t_1.Entry.Cmd.Kind, .int .i64 t_1.Entry.Cmd.Who, v_17, v_21, v_25]) rfl ti29 rfl rfl rfl (by intro u hu; simp only [List.mem_cons, List.not_mem_nil, or_false] at hu; rcases hu with rfl | rfl | rfl | rfl | rfl | rfl | rfl | rfl | rfl | rfl | rfl | rfl | rfl | rfl | rfl | rfl | rfl | rfl | rfl | rfl | rfl | rfl | rfl | rfl <;> first | rfl | exact hr_6.one | exact hr_10.one | exact hr_14.one | exact hr_18.one | exact hr_22.one | exact hr_26.one)
  refine s_store hm rfl rfl hs' ?_
  replace hS : Sep w0 w_31 [N_4, M_7, M_11, M_15, M_19, M_23, M_27, Mem.one g_30 (.cells ([.int .i64 t_1.Kind, .int .i64 t_1.From, .int .i64 t_1.To, .int .i64 t_1.View, .int .i64 t_1.Inst, .int .i64 t_1.Len, .bool t_1.Has, .int .i64 t_1.Members, .int .i64 t_1.Source, .int .i64 t_1.At, .int .i64 t_1.Total, v_5, .int .i64 t_1.Hop, .int .i64 t_1.Seq, v_9, v_13, .int .i64 t_1.Index, .int .i64 t_1.Entry.Sess, .int .i64 t_1.Entry.Seq, .int .i64 t_1.Entry.Cmd.Kind, .int .i64 t_1.Entry.Cmd.Who, v_17, v_21, v_25] : List Value).toArray 29 (0, 0))] Z := hS'
  clear hs' hS'
  refine wpList_nil ?_
  replace hm : Fr 80 a [(0, .bool false), (1, .pointer (some ⟨g_30, 0, none⟩))] := hm.keep [0, 1]
  refine x_then_n ?_
  refine wp_seq ?_
  refine wp_region_lit ?_
  have hq_36 : Reps (Kd.int .i64) Mem.no ([7, 9, 8] : List Int) _ := ((Reps.one (d := (Kd.int .i64)) (x := 7) (show (Kd.int .i64).K _ _ [.int .i64 7] from rfl)).append ((Reps.one (d := (Kd.int .i64)) (x := 9) (show (Kd.int .i64).K _ _ [.int .i64 9] from rfl)).append ((Reps.one (d := (Kd.int .i64)) (x := 8) (show (Kd.int .i64).K _ _ [.int .i64 8] from rfl)).append (Reps.nil (Kd.int .i64) _))))
  refine s_buildSlice hm rfl Try.underlying23 ti3 rfl rfl rfl (.cons rfl (.cons rfl (.cons rfl .nil))) rfl rfl rfl hS hq_36 rfl ?_
  intro w_32 v_33 M_34 hS' ho_35
  clear hm a; intro a hm
  replace hS : Sep w0 w_32 [N_4, M_7, M_11, M_15, M_19, M_23, M_27, Mem.one g_30 (.cells ([.int .i64 t_1.Kind, .int .i64 t_1.From, .int .i64 t_1.To, .int .i64 t_1.View, .int .i64 t_1.Inst, .int .i64 t_1.Len, .bool t_1.Has, .int .i64 t_1.Members, .int .i64 t_1.Source, .int .i64 t_1.At, .int .i64 t_1.Total, v_5, .int .i64 t_1.Hop, .int .i64 t_1.Seq, v_9, v_13, .int .i64 t_1.Index, .int .i64 t_1.Entry.Sess, .int .i64 t_1.Entry.Seq, .int .i64 t_1.Entry.Cmd.Kind, .int .i64 t_1.Entry.Cmd.Who, v_17, v_21, v_25] : List Value).toArray 29 (0, 0)), M_34] Z := hS'
  clear hS' hq_36
  have hq_42 : Reps (Kd.int .i64) Mem.no ([8, 9] : List Int) _ := ((Reps.one (d := (Kd.int .i64)) (x := 8) (show (Kd.int .i64).K _ _ [.int .i64 8] from rfl)).append ((Reps.one (d := (Kd.int .i64)) (x := 9) (show (Kd.int .i64).K _ _ [.int .i64 9] from rfl)).append (Reps.nil (Kd.int .i64) _)))
  refine s_buildSlice hm rfl Try.underlying23 ti3 rfl rfl rfl (.cons rfl (.cons rfl .nil)) rfl rfl rfl hS hq_42 rfl ?_
  intro w_38 v_39 M_40 hS' ho_41
  clear hm a; intro a hm
  replace hS : Sep w0 w_38 [N_4, M_7, M_11, M_15, M_19, M_23, M_27, Mem.one g_30 (.cells ([.int .i64 t_1.Kind, .int .i64 t_1.From, .int .i64 t_1.To, .int .i64 t_1.View, .int .i64 t_1.Inst, .int .i64 t_1.Len, .bool t_1.Has, .int .i64 t_1.Members, .int .i64 t_1.Source, .int .i64 t_1.At, .int .i64 t_1.Total, v_5, .int .i64 t_1.Hop, .int .i64 t_1.Seq, v_9, v_13, .int .i64 t_1.Index, .int .i64 t_1.Entry.Sess, .int .i64 t_1.Entry.Seq, .int .i64 t_1.Entry.Cmd.Kind, .int .i64 t_1.Entry.Cmd.Who, v_17, v_21, v_25] : List Value).toArray 29 (0, 0)), M_34, M_40] Z := hS'
  clear hS' hq_42
  refine s_build hm rfl ti29 pl29 rfl (.cons rfl (.cons rfl (.cons rfl (.cons rfl (.cons ho_35.cells (.cons ho_41.cells .nil)))))) (cs := [.int .i64 7, .int .i64 0, .int .i64 0, .int .i64 16, .int .i64 0, .int .i64 0, .bool false, .int .i64 0, .int .i64 0, .int .i64 0, .int .i64 0, .slice none 0 0, .int .i64 4, .int .i64 9, v_33, v_39, .int .i64 0, .int .i64 0, .int .i64 0, .int .i64 0, .int .i64 0, .slice none 0 0, .slice none 0 0, .slice none 0 0]) (by kernel_rfl) ?_
  clear hm a; intro a hm
  have hq_48 : Reps (Kd.int .i64) Mem.no ([9] : List Int) _ := ((Reps.one (d := (Kd.int .i64)) (x := 9) (show (Kd.int .i64).K _ _ [.int .i64 9] from rfl)).append (Reps.nil (Kd.int .i64) _))
  refine s_buildSlice hm rfl Try.underlying23 ti3 rfl rfl rfl (.cons rfl .nil) rfl rfl rfl hS hq_48 rfl ?_
  intro w_44 v_45 M_46 hS' ho_47
  clear hm a; intro a hm
  replace hS : Sep w0 w_44 [N_4, M_7, M_11, M_15, M_19, M_23, M_27, Mem.one g_30 (.cells ([.int .i64 t_1.Kind, .int .i64 t_1.From, .int .i64 t_1.To, .int .i64 t_1.View, .int .i64 t_1.Inst, .int .i64 t_1.Len, .bool t_1.Has, .int .i64 t_1.Members, .int .i64 t_1.Source, .int .i64 t_1.At, .int .i64 t_1.Total, v_5, .int .i64 t_1.Hop, .int .i64 t_1.Seq, v_9, v_13, .int .i64 t_1.Index, .int .i64 t_1.Entry.Sess, .int .i64 t_1.Entry.Seq, .int .i64 t_1.Entry.Cmd.Kind, .int .i64 t_1.Entry.Cmd.Who, v_17, v_21, v_25] : List Value).toArray 29 (0, 0)), M_34, M_40, M_46] Z := hS'
  clear hS' hq_48
  have hq_54 : Reps (Kd.int .i64) Mem.no ([9, 10] : List Int) _ := ((Reps.one (d := (Kd.int .i64)) (x := 9) (show (Kd.int .i64).K _ _ [.int .i64 9] from rfl)).append ((Reps.one (d := (Kd.int .i64)) (x := 10) (show (Kd.int .i64).K _ _ [.int .i64 10] from rfl)).append (Reps.nil (Kd.int .i64) _)))
  refine s_buildSlice hm rfl Try.underlying23 ti3 rfl rfl rfl (.cons rfl (.cons rfl .nil)) rfl rfl rfl hS hq_54 rfl ?_
  intro w_50 v_51 M_52 hS' ho_53
  clear hm a; intro a hm
  replace hS : Sep w0 w_50 [N_4, M_7, M_11, M_15, M_19, M_23, M_27, Mem.one g_30 (.cells ([.int .i64 t_1.Kind, .int .i64 t_1.From, .int .i64 t_1.To, .int .i64 t_1.View, .int .i64 t_1.Inst, .int .i64 t_1.Len, .bool t_1.Has, .int .i64 t_1.Members, .int .i64 t_1.Source, .int .i64 t_1.At, .int .i64 t_1.Total, v_5, .int .i64 t_1.Hop, .int .i64 t_1.Seq, v_9, v_13, .int .i64 t_1.Index, .int .i64 t_1.Entry.Sess, .int .i64 t_1.Entry.Seq, .int .i64 t_1.Entry.Cmd.Kind, .int .i64 t_1.Entry.Cmd.Who, v_17, v_21, v_25] : List Value).toArray 29 (0, 0)), M_34, M_40, M_46, M_52] Z := hS'
  clear hS' hq_54
  obtain ⟨N_56, hS', le_56, lo_56⟩ := hS.freeze 7 rfl
  replace hS : Sep w0 w_50 [N_56, M_7, M_11, M_15, M_19, M_23, M_27, Mem.one g_30 (.cells ([.int .i64 t_1.Kind, .int .i64 t_1.From, .int .i64 t_1.To, .int .i64 t_1.View, .int .i64 t_1.Inst, .int .i64 t_1.Len, .bool t_1.Has, .int .i64 t_1.Members, .int .i64 t_1.Source, .int .i64 t_1.At, .int .i64 t_1.Total, v_5, .int .i64 t_1.Hop, .int .i64 t_1.Seq, v_9, v_13, .int .i64 t_1.Index, .int .i64 t_1.Entry.Sess, .int .i64 t_1.Entry.Seq, .int .i64 t_1.Entry.Cmd.Kind, .int .i64 t_1.Entry.Cmd.Who, v_17, v_21, v_25] : List Value).toArray 29 (0, 0)), Mem.no, M_40, M_46, M_52] Z := hS'
  clear hS'
  obtain ⟨N_57, hS', le_57, lo_57⟩ := hS.freeze 8 rfl
  replace hS : Sep w0 w_50 [N_57, M_7, M_11, M_15, M_19, M_23, M_27, Mem.one g_30 (.cells ([.int .i64 t_1.Kind, .int .i64 t_1.From, .int .i64 t_1.To, .int .i64 t_1.View, .int .i64 t_1.Inst, .int .i64 t_1.Len, .bool t_1.Has, .int .i64 t_1.Members, .int .i64 t_1.Source, .int .i64 t_1.At, .int .i64 t_1.Total, v_5, .int .i64 t_1.Hop, .int .i64 t_1.Seq, v_9, v_13, .int .i64 t_1.Index, .int .i64 t_1.Entry.Sess, .int .i64 t_1.Entry.Seq, .int .i64 t_1.Entry.Cmd.Kind, .int .i64 t_1.Entry.Cmd.Who, v_17, v_21, v_25] : List Value).toArray 29 (0, 0)), Mem.no, Mem.no, M_46, M_52] Z := hS'
  clear hS'
  obtain ⟨N_58, hS', le_58, lo_58⟩ := hS.freeze 9 rfl
  replace hS : Sep w0 w_50 [N_58, M_7, M_11, M_15, M_19, M_23, M_27, Mem.one g_30 (.cells ([.int .i64 t_1.Kind, .int .i64 t_1.From, .int .i64 t_1.To, .int .i64 t_1.View, .int .i64 t_1.Inst, .int .i64 t_1.Len, .bool t_1.Has, .int .i64 t_1.Members, .int .i64 t_1.Source, .int .i64 t_1.At, .int .i64 t_1.Total, v_5, .int .i64 t_1.Hop, .int .i64 t_1.Seq, v_9, v_13, .int .i64 t_1.Index, .int .i64 t_1.Entry.Sess, .int .i64 t_1.Entry.Seq, .int .i64 t_1.Entry.Cmd.Kind, .int .i64 t_1.Entry.Cmd.Who, v_17, v_21, v_25] : List Value).toArray 29 (0, 0)), Mem.no, Mem.no, Mem.no, M_52] Z := hS'
  clear hS'
  obtain ⟨N_59, hS', le_59, lo_59⟩ := hS.freeze 10 rfl
  replace hS : Sep w0 w_50 [N_59, M_7, M_11, M_15, M_19, M_23, M_27, Mem.one g_30 (.cells ([.int .i64 t_1.Kind, .int .i64 t_1.From, .int .i64 t_1.To, .int .i64 t_1.View, .int .i64 t_1.Inst, .int .i64 t_1.Len, .bool t_1.Has, .int .i64 t_1.Members, .int .i64 t_1.Source, .int .i64 t_1.At, .int .i64 t_1.Total, v_5, .int .i64 t_1.Hop, .int .i64 t_1.Seq, v_9, v_13, .int .i64 t_1.Index, .int .i64 t_1.Entry.Sess, .int .i64 t_1.Entry.Seq, .int .i64 t_1.Entry.Cmd.Kind, .int .i64 t_1.Entry.Cmd.Who, v_17, v_21, v_25] : List Value).toArray 29 (0, 0)), Mem.no, Mem.no, Mem.no, Mem.no] Z := hS'
  clear hS'
  obtain ⟨t_60, et_60, H⟩ := Option.bind_eq_some_iff.1 H
  refine s_call hm rfl Try.call34 rfl (tokn_Pass.calls K (⟨7, 0, 0, 16, 0, 0, false, 0, 0, 0, 0, ([] : List UInt8), 4, 9, ([7, 9, 8] : List Int), ([8, 9] : List Int), 0, (⟨0, 0, (⟨0, 0, ([] : List UInt8), ([] : List UInt8), ([] : List UInt8)⟩ : api_Cmd)⟩ : api_Entry)⟩ : api_Msg) _ _ _ _ _ _ 2 0 1 8 2 ([9] : List Int) _ ([9, 10] : List Int) _ t_60 w0 _ _ N_59 (hS.new_zed []) (hS.enter [] (by decide)) (Rd.nil _ _) ((ho_35.rd lo_56 (Mem.no_le _)).mono (le_57.trans (le_58.trans le_59))) ((ho_41.rd lo_57 (Mem.no_le _)).mono (le_58.trans le_59)) (Rd.nil _ _) (Rd.nil _ _) (Rd.nil _ _) ((ho_47.rd lo_58 (Mem.no_le _)).mono le_59) (ho_53.rd lo_59 (Mem.no_le _)) et_60) ?_
  rintro _ w_61 ⟨v_64, v_66, v_70, v_74, v_76, v_78, v_80, N_62, M_68, M_72, M_82, rfl, hS', hr_65, hr_67, hr_71, hr_75, hr_77, hr_79, hr_81⟩
  clear hm a; intro a hm
  obtain ⟨N_63, hS'', le_63, ln_63⟩ := hS.call [] (by decide) rfl (l' := []) (ow := [M_68, M_72, M_82]) rfl hS'
  replace hS : Sep w0 w_61 [N_63, M_7, M_11, M_15, M_19, M_23, M_27, Mem.one g_30 (.cells ([.int .i64 t_1.Kind, .int .i64 t_1.From, .int .i64 t_1.To, .int .i64 t_1.View, .int .i64 t_1.Inst, .int .i64 t_1.Len, .bool t_1.Has, .int .i64 t_1.Members, .int .i64 t_1.Source, .int .i64 t_1.At, .int .i64 t_1.Total, v_5, .int .i64 t_1.Hop, .int .i64 t_1.Seq, v_9, v_13, .int .i64 t_1.Index, .int .i64 t_1.Entry.Sess, .int .i64 t_1.Entry.Seq, .int .i64 t_1.Entry.Cmd.Kind, .int .i64 t_1.Entry.Cmd.Who, v_17, v_21, v_25] : List Value).toArray 29 (0, 0)), Mem.no, Mem.no, Mem.no, Mem.no, M_68, M_72, M_82] Z := hS''
  clear hS' hS''
  refine s_move hm rfl rfl ?_
  clear hm a; intro a hm
  refine s_extract hm rfl rfl rfl ?_
  clear hm a; intro a hm
  refine s_extract hm rfl rfl rfl ?_
  clear hm a; intro a hm
  refine v_alloc hm rfl ti29 hS ?_
  intro w_84 g_85 hS'
  clear hm a; intro a hm
  replace hS : Sep w0 w_84 [N_63, M_7, M_11, M_15, M_19, M_23, M_27, Mem.one g_30 (.cells ([.int .i64 t_1.Kind, .int .i64 t_1.From, .int .i64 t_1.To, .int .i64 t_1.View, .int .i64 t_1.Inst, .int .i64 t_1.Len, .bool t_1.Has, .int .i64 t_1.Members, .int .i64 t_1.Source, .int .i64 t_1.At, .int .i64 t_1.Total, v_5, .int .i64 t_1.Hop, .int .i64 t_1.Seq, v_9, v_13, .int .i64 t_1.Index, .int .i64 t_1.Entry.Sess, .int .i64 t_1.Entry.Seq, .int .i64 t_1.Entry.Cmd.Kind, .int .i64 t_1.Entry.Cmd.Who, v_17, v_21, v_25] : List Value).toArray 29 (0, 0)), Mem.no, Mem.no, Mem.no, Mem.no, M_68, M_72, M_82, Mem.one g_85 (.cells ([.int .i64 0, .int .i64 0, .int .i64 0, .int .i64 0, .int .i64 0, .int .i64 0, .bool false, .int .i64 0, .int .i64 0, .int .i64 0, .int .i64 0, .slice none 0 0, .int .i64 0, .int .i64 0, .slice none 0 0, .slice none 0 0, .int .i64 0, .int .i64 0, .int .i64 0, .int .i64 0, .int .i64 0, .slice none 0 0, .slice none 0 0, .slice none 0 0] : List Value).toArray 29 (0, 0))] Z := hS'
  clear hS'
  obtain ⟨w_86, hs', hS'⟩ := hS.store (P := Try.prog) (p := 15) (o := 0) (t := 29) (v := .agg ([.int .i64 t_60.1.Kind, .int .i64 t_60.1.From, .int .i64 t_60.1.To, .int .i64 t_60.1.View, .int .i64 t_60.1.Inst, .int .i64 t_60.1.Len, .bool t_60.1.Has, .int .i64 t_60.1.Members, .int .i64 t_60.1.Source, .int .i64 t_60.1.At, .int .i64 t_60.1.Total, v_64, .int .i64 t_60.1.Hop, .int .i64 t_60.1.Seq, v_66, v_70, .int .i64 t_60.1.Index, .int .i64 t_60.1.Entry.Sess, .int .i64 t_60.1.Entry.Seq, .int .i64 t_60.1.Entry.Cmd.Kind, .int .i64 t_60.1.Entry.Cmd.Who, v_74, v_76, v_78] : List Value).toArray) (vs := [.int .i64 t_60.1.Kind, .int .i64 t_60.1.From, .int .i64 t_60.1.To, .int .i64 t_60.1.View, .int .i64 t_60.1.Inst, .int .i64 t_60.1.Len, .bool t_60.1.Has, .int .i64 t_60.1.Members, .int .i64 t_60.1.Source, .int .i64 t_60.1.At, .int .i64 t_60.1.Total, v_64, .int .i64 t_60.1.Hop, .int .i64 t_60.1.Seq, v_66, v_70, .int .i64 t_60.1.Index, .int .i64 t_60.1.Entry.Sess, .int .i64 t_60.1.Entry.Seq, .int .i64 t_60.1.Entry.Cmd.Kind, .int .i64 t_60.1.Entry.Cmd.Who, v_74, v_76, v_78]) rfl ti29 rfl rfl rfl (by intro u hu; simp only [List.mem_cons, List.not_mem_nil, or_false] at hu; rcases hu with rfl | rfl | rfl | rfl | rfl | rfl | rfl | rfl | rfl | rfl | rfl | rfl | rfl | rfl | rfl | rfl | rfl | rfl | rfl | rfl | rfl | rfl | rfl | rfl <;> first | rfl | exact (hr_65.mono (Mem.un_le le_63 ln_63)).one | exact hr_67.one | exact hr_71.one | exact (hr_75.mono (Mem.un_le le_63 ln_63)).one | exact (hr_77.mono (Mem.un_le le_63 ln_63)).one | exact (hr_79.mono (Mem.un_le le_63 ln_63)).one)
  refine s_store hm rfl rfl hs' ?_
  replace hS : Sep w0 w_86 [N_63, M_7, M_11, M_15, M_19, M_23, M_27, Mem.one g_30 (.cells ([.int .i64 t_1.Kind, .int .i64 t_1.From, .int .i64 t_1.To, .int .i64 t_1.View, .int .i64 t_1.Inst, .int .i64 t_1.Len, .bool t_1.Has, .int .i64 t_1.Members, .int .i64 t_1.Source, .int .i64 t_1.At, .int .i64 t_1.Total, v_5, .int .i64 t_1.Hop, .int .i64 t_1.Seq, v_9, v_13, .int .i64 t_1.Index, .int .i64 t_1.Entry.Sess, .int .i64 t_1.Entry.Seq, .int .i64 t_1.Entry.Cmd.Kind, .int .i64 t_1.Entry.Cmd.Who, v_17, v_21, v_25] : List Value).toArray 29 (0, 0)), Mem.no, Mem.no, Mem.no, Mem.no, M_68, M_72, M_82, Mem.one g_85 (.cells ([.int .i64 t_60.1.Kind, .int .i64 t_60.1.From, .int .i64 t_60.1.To, .int .i64 t_60.1.View, .int .i64 t_60.1.Inst, .int .i64 t_60.1.Len, .bool t_60.1.Has, .int .i64 t_60.1.Members, .int .i64 t_60.1.Source, .int .i64 t_60.1.At, .int .i64 t_60.1.Total, v_64, .int .i64 t_60.1.Hop, .int .i64 t_60.1.Seq, v_66, v_70, .int .i64 t_60.1.Index, .int .i64 t_60.1.Entry.Sess, .int .i64 t_60.1.Entry.Seq, .int .i64 t_60.1.Entry.Cmd.Kind, .int .i64 t_60.1.Entry.Cmd.Who, v_74, v_76, v_78] : List Value).toArray 29 (0, 0))] Z := hS'
  clear hs' hS'
  refine s_assign hm rfl rfl ?_
  clear hm a; intro a hm
  refine wpList_nil ?_
  replace hm : Fr 80 a [(0, .bool false), (1, .pointer (some ⟨g_30, 0, none⟩)), (2, .pointer (some ⟨g_85, 0, none⟩)), (3, v_80)] := hm.keep [0, 1, 2, 3]
  refine x_then_n ?_
  refine c_seq fun KJ_87 hKJ_87 => ?_
  refine wp_region_lit ?_
  refine s_fieldAddr hm rfl Try.underlying29 rfl ti23 rfl rfl ?_
  clear hm a; intro a hm
  refine s_load hm rfl rfl (hS.load_one (p := 7) rfl Try.underlying23 rfl rfl) ?_
  clear hm a; intro a hm
  have hq_92 : Reps (Kd.int .i64) Mem.no ([5, 5, 5] : List Int) _ := ((Reps.one (d := (Kd.int .i64)) (x := 5) (show (Kd.int .i64).K _ _ [.int .i64 5] from rfl)).append ((Reps.one (d := (Kd.int .i64)) (x := 5) (show (Kd.int .i64).K _ _ [.int .i64 5] from rfl)).append ((Reps.one (d := (Kd.int .i64)) (x := 5) (show (Kd.int .i64).K _ _ [.int .i64 5] from rfl)).append (Reps.nil (Kd.int .i64) _))))
  refine s_buildSlice hm rfl Try.underlying23 ti3 rfl rfl rfl (.cons rfl (.cons rfl (.cons rfl .nil))) rfl rfl rfl hS hq_92 rfl ?_
  intro w_88 v_89 M_90 hS' ho_91
  clear hm a; intro a hm
  replace hS : Sep w0 w_88 [N_63, M_7, M_11, M_15, M_19, M_23, M_27, Mem.one g_30 (.cells ([.int .i64 t_1.Kind, .int .i64 t_1.From, .int .i64 t_1.To, .int .i64 t_1.View, .int .i64 t_1.Inst, .int .i64 t_1.Len, .bool t_1.Has, .int .i64 t_1.Members, .int .i64 t_1.Source, .int .i64 t_1.At, .int .i64 t_1.Total, v_5, .int .i64 t_1.Hop, .int .i64 t_1.Seq, v_9, v_13, .int .i64 t_1.Index, .int .i64 t_1.Entry.Sess, .int .i64 t_1.Entry.Seq, .int .i64 t_1.Entry.Cmd.Kind, .int .i64 t_1.Entry.Cmd.Who, v_17, v_21, v_25] : List Value).toArray 29 (0, 0)), Mem.no, Mem.no, Mem.no, Mem.no, M_68, M_72, M_82, Mem.one g_85 (.cells ([.int .i64 t_60.1.Kind, .int .i64 t_60.1.From, .int .i64 t_60.1.To, .int .i64 t_60.1.View, .int .i64 t_60.1.Inst, .int .i64 t_60.1.Len, .bool t_60.1.Has, .int .i64 t_60.1.Members, .int .i64 t_60.1.Source, .int .i64 t_60.1.At, .int .i64 t_60.1.Total, v_64, .int .i64 t_60.1.Hop, .int .i64 t_60.1.Seq, v_66, v_70, .int .i64 t_60.1.Index, .int .i64 t_60.1.Entry.Sess, .int .i64 t_60.1.Entry.Seq, .int .i64 t_60.1.Entry.Cmd.Kind, .int .i64 t_60.1.Entry.Cmd.Who, v_74, v_76, v_78] : List Value).toArray 29 (0, 0)), M_90] Z := hS'
  clear hS' hq_92
  obtain ⟨t_94, et_94, H⟩ := Option.bind_eq_some_iff.1 H
  refine s_call hm rfl Try.call25 rfl (hocketref1_SameInts.calls K t_1.Have _ ([5, 5, 5] : List Int) _ t_94 w0 _ _ _ (Mem.le.refl _) (hS.enter [] (by decide)) (hr_10.rd (hS.own_zed [] 1 (by decide)) (Mem.no_le _)) (ho_91.rd (hS.own_zed [] 15 (by decide)) (Mem.no_le _)) et_94) ?_
  rintro _ w_95 ⟨N_96, rfl, hS'⟩
  clear hm a; intro a hm
  obtain ⟨N_97, hS'', le_97, ln_97⟩ := hS.call [] (by decide) rfl (l' := []) (ow := []) rfl hS'
  replace hS : Sep w0 w_95 [N_97, M_7, M_11, M_15, M_19, M_23, M_27, Mem.one g_30 (.cells ([.int .i64 t_1.Kind, .int .i64 t_1.From, .int .i64 t_1.To, .int .i64 t_1.View, .int .i64 t_1.Inst, .int .i64 t_1.Len, .bool t_1.Has, .int .i64 t_1.Members, .int .i64 t_1.Source, .int .i64 t_1.At, .int .i64 t_1.Total, v_5, .int .i64 t_1.Hop, .int .i64 t_1.Seq, v_9, v_13, .int .i64 t_1.Index, .int .i64 t_1.Entry.Sess, .int .i64 t_1.Entry.Seq, .int .i64 t_1.Entry.Cmd.Kind, .int .i64 t_1.Entry.Cmd.Who, v_17, v_21, v_25] : List Value).toArray 29 (0, 0)), Mem.no, Mem.no, Mem.no, Mem.no, M_68, M_72, M_82, Mem.one g_85 (.cells ([.int .i64 t_60.1.Kind, .int .i64 t_60.1.From, .int .i64 t_60.1.To, .int .i64 t_60.1.View, .int .i64 t_60.1.Inst, .int .i64 t_60.1.Len, .bool t_60.1.Has, .int .i64 t_60.1.Members, .int .i64 t_60.1.Source, .int .i64 t_60.1.At, .int .i64 t_60.1.Total, v_64, .int .i64 t_60.1.Hop, .int .i64 t_60.1.Seq, v_66, v_70, .int .i64 t_60.1.Index, .int .i64 t_60.1.Entry.Sess, .int .i64 t_60.1.Entry.Seq, .int .i64 t_60.1.Entry.Cmd.Kind, .int .i64 t_60.1.Entry.Cmd.Who, v_74, v_76, v_78] : List Value).toArray 29 (0, 0)), M_90] Z := hS''
  clear hS' hS''
  refine s_move hm rfl rfl ?_
  clear hm a; intro a hm
  by_cases hc_98 : t_94 = true
  · rw [if_pos hc_98] at H
    refine s_on hm rfl rfl hc_98 ?_
    refine s_fieldAddr hm rfl Try.underlying29 rfl ti3 rfl rfl ?_
    clear hm a; intro a hm
    refine s_on hm rfl rfl hc_98 ?_
    refine s_load hm rfl rfl (hS.load_one (p := 7) rfl Try.underlying3 rfl rfl) ?_
    clear hm a; intro a hm
    refine s_on hm rfl rfl hc_98 ?_
    refine s_cmp (b := (t_1.Hop == 1)) hm rfl rfl rfl (.inl ⟨rfl, rfl⟩) ?_
    clear hm a; intro a hm
    refine s_pick_t hm rfl rfl hc_98 rfl ?_
    clear hm a; intro a hm
    refine s_move hm rfl rfl ?_
    clear hm a; intro a hm
    by_cases hc_99 : t_1.Hop = 1
    · rw [if_pos hc_99] at H
      refine s_on hm rfl rfl (beq_iff_eq.2 hc_99) ?_
      refine s_fieldAddr hm rfl Try.underlying29 rfl ti3 rfl rfl ?_
      clear hm a; intro a hm
      refine s_on hm rfl rfl (beq_iff_eq.2 hc_99) ?_
      refine s_load hm rfl rfl (hS.load_one (p := 7) rfl Try.underlying3 rfl rfl) ?_
      clear hm a; intro a hm
      refine s_on hm rfl rfl (beq_iff_eq.2 hc_99) ?_
      refine s_cmp (b := (t_1.Seq == 5)) hm rfl rfl rfl (.inl ⟨rfl, rfl⟩) ?_
      clear hm a; intro a hm
      refine s_pick_t hm rfl rfl (beq_iff_eq.2 hc_99) rfl ?_
      clear hm a; intro a hm
      refine s_move hm rfl rfl ?_
      clear hm a; intro a hm
      by_cases hc_100 : t_1.Seq = 5
      · rw [if_pos hc_100] at H
        refine s_on hm rfl rfl (beq_iff_eq.2 hc_100) ?_
        refine s_fieldAddr hm rfl Try.underlying29 rfl ti3 rfl rfl ?_
        clear hm a; intro a hm
        refine s_on hm rfl rfl (beq_iff_eq.2 hc_100) ?_
        refine s_load hm rfl rfl (hS.load_one (p := 7) rfl Try.underlying3 rfl rfl) ?_
        clear hm a; intro a hm
        refine s_on hm rfl rfl (beq_iff_eq.2 hc_100) ?_
        refine s_cmp (b := (t_1.View == 16)) hm rfl rfl rfl (.inl ⟨rfl, rfl⟩) ?_
        clear hm a; intro a hm
        refine s_pick_t hm rfl rfl (beq_iff_eq.2 hc_100) rfl ?_
        clear hm a; intro a hm
        refine s_move hm rfl rfl ?_
        clear hm a; intro a hm
        by_cases hc_101 : t_1.View = 16
        · rw [if_pos hc_101] at H
          refine s_on hm rfl rfl (beq_iff_eq.2 hc_101) ?_
          refine s_load hm rfl rfl (hS.load_agg (p := 7) (us := [.int .i64 t_1.Kind, .int .i64 t_1.From, .int .i64 t_1.To, .int .i64 t_1.View, .int .i64 t_1.Inst, .int .i64 t_1.Len, .bool t_1.Has, .int .i64 t_1.Members, .int .i64 t_1.Source, .int .i64 t_1.At, .int .i64 t_1.Total, v_5, .int .i64 t_1.Hop, .int .i64 t_1.Seq, v_9, v_13, .int .i64 t_1.Index, .int .i64 t_1.Entry.Sess, .int .i64 t_1.Entry.Seq, .int .i64 t_1.Entry.Cmd.Kind, .int .i64 t_1.Entry.Cmd.Who, v_17, v_21, v_25]) rfl Try.underlying29 rfl ti29 rfl rfl) ?_
          clear hm a; intro a hm
          refine s_on hm rfl rfl (beq_iff_eq.2 hc_101) ?_
          obtain ⟨t_102, et_102, H⟩ := Option.bind_eq_some_iff.1 H
          refine s_call hm rfl Try.call35 rfl (tokn_Safe.calls K t_1 _ _ _ _ _ _ t_102 w0 _ _ _ (Mem.le.refl _) (hS.enter [] (by decide)) (hr_6.rd (hS.own_zed [] 0 (by decide)) (Mem.no_le _)) (hr_10.rd (hS.own_zed [] 1 (by decide)) (Mem.no_le _)) (hr_14.rd (hS.own_zed [] 2 (by decide)) (Mem.no_le _)) (hr_18.rd (hS.own_zed [] 3 (by decide)) (Mem.no_le _)) (hr_22.rd (hS.own_zed [] 4 (by decide)) (Mem.no_le _)) (hr_26.rd (hS.own_zed [] 5 (by decide)) (Mem.no_le _)) et_102) ?_
          rintro _ w_103 ⟨N_104, rfl, hS'⟩
          clear hm a; intro a hm
          obtain ⟨N_105, hS'', le_105, ln_105⟩ := hS.call [] (by decide) rfl (l' := []) (ow := []) rfl hS'
          replace hS : Sep w0 w_103 [N_105, M_7, M_11, M_15, M_19, M_23, M_27, Mem.one g_30 (.cells ([.int .i64 t_1.Kind, .int .i64 t_1.From, .int .i64 t_1.To, .int .i64 t_1.View, .int .i64 t_1.Inst, .int .i64 t_1.Len, .bool t_1.Has, .int .i64 t_1.Members, .int .i64 t_1.Source, .int .i64 t_1.At, .int .i64 t_1.Total, v_5, .int .i64 t_1.Hop, .int .i64 t_1.Seq, v_9, v_13, .int .i64 t_1.Index, .int .i64 t_1.Entry.Sess, .int .i64 t_1.Entry.Seq, .int .i64 t_1.Entry.Cmd.Kind, .int .i64 t_1.Entry.Cmd.Who, v_17, v_21, v_25] : List Value).toArray 29 (0, 0)), Mem.no, Mem.no, Mem.no, Mem.no, M_68, M_72, M_82, Mem.one g_85 (.cells ([.int .i64 t_60.1.Kind, .int .i64 t_60.1.From, .int .i64 t_60.1.To, .int .i64 t_60.1.View, .int .i64 t_60.1.Inst, .int .i64 t_60.1.Len, .bool t_60.1.Has, .int .i64 t_60.1.Members, .int .i64 t_60.1.Source, .int .i64 t_60.1.At, .int .i64 t_60.1.Total, v_64, .int .i64 t_60.1.Hop, .int .i64 t_60.1.Seq, v_66, v_70, .int .i64 t_60.1.Index, .int .i64 t_60.1.Entry.Sess, .int .i64 t_60.1.Entry.Seq, .int .i64 t_60.1.Entry.Cmd.Kind, .int .i64 t_60.1.Entry.Cmd.Who, v_74, v_76, v_78] : List Value).toArray 29 (0, 0)), M_90] Z := hS''
          clear hS' hS''
          refine s_on hm rfl rfl (beq_iff_eq.2 hc_101) ?_
          refine s_cmp (b := (t_102 == 5)) hm rfl rfl rfl (.inl ⟨rfl, rfl⟩) ?_
          clear hm a; intro a hm
          refine s_pick_t hm rfl rfl (beq_iff_eq.2 hc_101) rfl ?_
          clear hm a; intro a hm
          refine s_move hm rfl rfl ?_
          clear hm a; intro a hm
          by_cases hc_106 : t_102 = 5
          · rw [if_pos hc_106] at H
            refine s_on hm rfl rfl (beq_iff_eq.2 hc_106) ?_
            refine s_load hm rfl rfl (hS.load_agg (p := 7) (us := [.int .i64 t_1.Kind, .int .i64 t_1.From, .int .i64 t_1.To, .int .i64 t_1.View, .int .i64 t_1.Inst, .int .i64 t_1.Len, .bool t_1.Has, .int .i64 t_1.Members, .int .i64 t_1.Source, .int .i64 t_1.At, .int .i64 t_1.Total, v_5, .int .i64 t_1.Hop, .int .i64 t_1.Seq, v_9, v_13, .int .i64 t_1.Index, .int .i64 t_1.Entry.Sess, .int .i64 t_1.Entry.Seq, .int .i64 t_1.Entry.Cmd.Kind, .int .i64 t_1.Entry.Cmd.Who, v_17, v_21, v_25]) rfl Try.underlying29 rfl ti29 rfl rfl) ?_
            clear hm a; intro a hm
            refine s_on hm rfl rfl (beq_iff_eq.2 hc_106) ?_
            obtain ⟨t_107, et_107, H⟩ := Option.bind_eq_some_iff.1 H
            refine s_call hm rfl Try.call36 rfl (tokn_Room.calls K t_1 _ _ _ _ _ _ t_107 w0 _ _ _ (Mem.le.refl _) (hS.enter [] (by decide)) (hr_6.rd (hS.own_zed [] 0 (by decide)) (Mem.no_le _)) (hr_10.rd (hS.own_zed [] 1 (by decide)) (Mem.no_le _)) (hr_14.rd (hS.own_zed [] 2 (by decide)) (Mem.no_le _)) (hr_18.rd (hS.own_zed [] 3 (by decide)) (Mem.no_le _)) (hr_22.rd (hS.own_zed [] 4 (by decide)) (Mem.no_le _)) (hr_26.rd (hS.own_zed [] 5 (by decide)) (Mem.no_le _)) et_107) ?_
            rintro _ w_108 ⟨N_109, rfl, hS'⟩
            clear hm a; intro a hm
            obtain ⟨N_110, hS'', le_110, ln_110⟩ := hS.call [] (by decide) rfl (l' := []) (ow := []) rfl hS'
            replace hS : Sep w0 w_108 [N_110, M_7, M_11, M_15, M_19, M_23, M_27, Mem.one g_30 (.cells ([.int .i64 t_1.Kind, .int .i64 t_1.From, .int .i64 t_1.To, .int .i64 t_1.View, .int .i64 t_1.Inst, .int .i64 t_1.Len, .bool t_1.Has, .int .i64 t_1.Members, .int .i64 t_1.Source, .int .i64 t_1.At, .int .i64 t_1.Total, v_5, .int .i64 t_1.Hop, .int .i64 t_1.Seq, v_9, v_13, .int .i64 t_1.Index, .int .i64 t_1.Entry.Sess, .int .i64 t_1.Entry.Seq, .int .i64 t_1.Entry.Cmd.Kind, .int .i64 t_1.Entry.Cmd.Who, v_17, v_21, v_25] : List Value).toArray 29 (0, 0)), Mem.no, Mem.no, Mem.no, Mem.no, M_68, M_72, M_82, Mem.one g_85 (.cells ([.int .i64 t_60.1.Kind, .int .i64 t_60.1.From, .int .i64 t_60.1.To, .int .i64 t_60.1.View, .int .i64 t_60.1.Inst, .int .i64 t_60.1.Len, .bool t_60.1.Has, .int .i64 t_60.1.Members, .int .i64 t_60.1.Source, .int .i64 t_60.1.At, .int .i64 t_60.1.Total, v_64, .int .i64 t_60.1.Hop, .int .i64 t_60.1.Seq, v_66, v_70, .int .i64 t_60.1.Index, .int .i64 t_60.1.Entry.Sess, .int .i64 t_60.1.Entry.Seq, .int .i64 t_60.1.Entry.Cmd.Kind, .int .i64 t_60.1.Entry.Cmd.Who, v_74, v_76, v_78] : List Value).toArray 29 (0, 0)), M_90] Z := hS''
            clear hS' hS''
            refine s_on hm rfl rfl (beq_iff_eq.2 hc_106) ?_
            refine s_cmp (b := (t_107 == 4)) hm rfl rfl rfl (.inl ⟨rfl, rfl⟩) ?_
            clear hm a; intro a hm
            refine s_pick_t hm rfl rfl (beq_iff_eq.2 hc_106) rfl ?_
            clear hm a; intro a hm
            refine s_move hm rfl rfl ?_
            clear hm a; intro a hm
            by_cases hc_111 : t_107 = 4
            · rw [if_pos hc_111] at H
              refine s_on hm rfl rfl (beq_iff_eq.2 hc_111) ?_
              refine s_move hm rfl rfl ?_
              clear hm a; intro a hm
              refine s_on hm rfl rfl (beq_iff_eq.2 hc_111) ?_
              have hq_116 : Reps (Kd.int .i64) Mem.no ([9] : List Int) _ := ((Reps.one (d := (Kd.int .i64)) (x := 9) (show (Kd.int .i64).K _ _ [.int .i64 9] from rfl)).append (Reps.nil (Kd.int .i64) _))
              refine s_buildSlice hm rfl Try.underlying23 ti3 rfl rfl rfl (.cons rfl .nil) rfl rfl rfl hS hq_116 rfl ?_
              intro w_112 v_113 M_114 hS' ho_115
              clear hm a; intro a hm
              replace hS : Sep w0 w_112 [N_110, M_7, M_11, M_15, M_19, M_23, M_27, Mem.one g_30 (.cells ([.int .i64 t_1.Kind, .int .i64 t_1.From, .int .i64 t_1.To, .int .i64 t_1.View, .int .i64 t_1.Inst, .int .i64 t_1.Len, .bool t_1.Has, .int .i64 t_1.Members, .int .i64 t_1.Source, .int .i64 t_1.At, .int .i64 t_1.Total, v_5, .int .i64 t_1.Hop, .int .i64 t_1.Seq, v_9, v_13, .int .i64 t_1.Index, .int .i64 t_1.Entry.Sess, .int .i64 t_1.Entry.Seq, .int .i64 t_1.Entry.Cmd.Kind, .int .i64 t_1.Entry.Cmd.Who, v_17, v_21, v_25] : List Value).toArray 29 (0, 0)), Mem.no, Mem.no, Mem.no, Mem.no, M_68, M_72, M_82, Mem.one g_85 (.cells ([.int .i64 t_60.1.Kind, .int .i64 t_60.1.From, .int .i64 t_60.1.To, .int .i64 t_60.1.View, .int .i64 t_60.1.Inst, .int .i64 t_60.1.Len, .bool t_60.1.Has, .int .i64 t_60.1.Members, .int .i64 t_60.1.Source, .int .i64 t_60.1.At, .int .i64 t_60.1.Total, v_64, .int .i64 t_60.1.Hop, .int .i64 t_60.1.Seq, v_66, v_70, .int .i64 t_60.1.Index, .int .i64 t_60.1.Entry.Sess, .int .i64 t_60.1.Entry.Seq, .int .i64 t_60.1.Entry.Cmd.Kind, .int .i64 t_60.1.Entry.Cmd.Who, v_74, v_76, v_78] : List Value).toArray 29 (0, 0)), M_90, M_114] Z := hS'
              clear hS' hq_116
              refine s_on hm rfl rfl (beq_iff_eq.2 hc_111) ?_
              obtain ⟨t_118, et_118, H⟩ := Option.bind_eq_some_iff.1 H
              refine s_call hm rfl Try.call25 rfl (hocketref1_SameInts.calls K t_60.2 _ ([9] : List Int) _ t_118 w0 _ _ _ (Mem.le.refl _) (hS.enter [] (by decide)) (hr_81.rd (hS.own_zed [] 13 (by decide)) (Mem.no_le _)) (ho_115.rd (hS.own_zed [] 16 (by decide)) (Mem.no_le _)) et_118) ?_
              rintro _ w_119 ⟨N_120, rfl, hS'⟩
              clear hm a; intro a hm
              obtain ⟨N_121, hS'', le_121, ln_121⟩ := hS.call [] (by decide) rfl (l' := []) (ow := []) rfl hS'
              replace hS : Sep w0 w_119 [N_121, M_7, M_11, M_15, M_19, M_23, M_27, Mem.one g_30 (.cells ([.int .i64 t_1.Kind, .int .i64 t_1.From, .int .i64 t_1.To, .int .i64 t_1.View, .int .i64 t_1.Inst, .int .i64 t_1.Len, .bool t_1.Has, .int .i64 t_1.Members, .int .i64 t_1.Source, .int .i64 t_1.At, .int .i64 t_1.Total, v_5, .int .i64 t_1.Hop, .int .i64 t_1.Seq, v_9, v_13, .int .i64 t_1.Index, .int .i64 t_1.Entry.Sess, .int .i64 t_1.Entry.Seq, .int .i64 t_1.Entry.Cmd.Kind, .int .i64 t_1.Entry.Cmd.Who, v_17, v_21, v_25] : List Value).toArray 29 (0, 0)), Mem.no, Mem.no, Mem.no, Mem.no, M_68, M_72, M_82, Mem.one g_85 (.cells ([.int .i64 t_60.1.Kind, .int .i64 t_60.1.From, .int .i64 t_60.1.To, .int .i64 t_60.1.View, .int .i64 t_60.1.Inst, .int .i64 t_60.1.Len, .bool t_60.1.Has, .int .i64 t_60.1.Members, .int .i64 t_60.1.Source, .int .i64 t_60.1.At, .int .i64 t_60.1.Total, v_64, .int .i64 t_60.1.Hop, .int .i64 t_60.1.Seq, v_66, v_70, .int .i64 t_60.1.Index, .int .i64 t_60.1.Entry.Sess, .int .i64 t_60.1.Entry.Seq, .int .i64 t_60.1.Entry.Cmd.Kind, .int .i64 t_60.1.Entry.Cmd.Who, v_74, v_76, v_78] : List Value).toArray 29 (0, 0)), M_90, M_114] Z := hS''
              clear hS' hS''
              refine s_pick_t hm rfl rfl (beq_iff_eq.2 hc_111) rfl ?_
              clear hm a; intro a hm
              refine s_move hm rfl rfl ?_
              clear hm a; intro a hm
              by_cases hc_122 : t_118 = true
              · rw [if_pos hc_122] at H
                refine s_on hm rfl rfl hc_122 ?_
                refine s_fieldAddr hm rfl Try.underlying29 rfl ti3 rfl rfl ?_
                clear hm a; intro a hm
                refine s_on hm rfl rfl hc_122 ?_
                refine s_load hm rfl rfl (hS.load_one (p := 15) rfl Try.underlying3 rfl rfl) ?_
                clear hm a; intro a hm
                refine s_on hm rfl rfl hc_122 ?_
                refine s_cmp (b := (t_60.1.From == 2)) hm rfl rfl rfl (.inl ⟨rfl, rfl⟩) ?_
                clear hm a; intro a hm
                refine s_pick_t hm rfl rfl hc_122 rfl ?_
                clear hm a; intro a hm
                refine s_move hm rfl rfl ?_
                clear hm a; intro a hm
                by_cases hc_123 : t_60.1.From = 2
                · rw [if_pos hc_123] at H
                  refine s_on hm rfl rfl (beq_iff_eq.2 hc_123) ?_
                  refine s_fieldAddr hm rfl Try.underlying29 rfl ti3 rfl rfl ?_
                  clear hm a; intro a hm
                  refine s_on hm rfl rfl (beq_iff_eq.2 hc_123) ?_
                  refine s_load hm rfl rfl (hS.load_one (p := 15) rfl Try.underlying3 rfl rfl) ?_
                  clear hm a; intro a hm
                  refine s_on hm rfl rfl (beq_iff_eq.2 hc_123) ?_
                  refine s_cmp (b := (t_60.1.To == 1)) hm rfl rfl rfl (.inl ⟨rfl, rfl⟩) ?_
                  clear hm a; intro a hm
                  refine s_pick_t hm rfl rfl (beq_iff_eq.2 hc_123) rfl ?_
                  clear hm a; intro a hm
                  refine s_move hm rfl rfl ?_
                  clear hm a; intro a hm
                  by_cases hc_124 : t_60.1.To = 1
                  · rw [if_pos hc_124] at H
                    refine s_on hm rfl rfl (beq_iff_eq.2 hc_124) ?_
                    refine s_fieldAddr hm rfl Try.underlying29 rfl ti3 rfl rfl ?_
                    clear hm a; intro a hm
                    refine s_on hm rfl rfl (beq_iff_eq.2 hc_124) ?_
                    refine s_load hm rfl rfl (hS.load_one (p := 15) rfl Try.underlying3 rfl rfl) ?_
                    clear hm a; intro a hm
                    refine s_on hm rfl rfl (beq_iff_eq.2 hc_124) ?_
                    refine s_cmp (b := (t_60.1.Hop == 5)) hm rfl rfl rfl (.inl ⟨rfl, rfl⟩) ?_
                    clear hm a; intro a hm
                    refine s_pick_t hm rfl rfl (beq_iff_eq.2 hc_124) rfl ?_
                    clear hm a; intro a hm
                    refine s_move hm rfl rfl ?_
                    clear hm a; intro a hm
                    by_cases hc_125 : t_60.1.Hop = 5
                    · rw [if_pos hc_125] at H
                      refine s_on hm rfl rfl (beq_iff_eq.2 hc_125) ?_
                      refine s_fieldAddr hm rfl Try.underlying29 rfl ti3 rfl rfl ?_
                      clear hm a; intro a hm
                      refine s_on hm rfl rfl (beq_iff_eq.2 hc_125) ?_
                      refine s_load hm rfl rfl (hS.load_one (p := 15) rfl Try.underlying3 rfl rfl) ?_
                      clear hm a; intro a hm
                      refine s_on hm rfl rfl (beq_iff_eq.2 hc_125) ?_
                      refine s_cmp (b := (t_60.1.Seq == 11)) hm rfl rfl rfl (.inl ⟨rfl, rfl⟩) ?_
                      clear hm a; intro a hm
                      refine s_pick_t hm rfl rfl (beq_iff_eq.2 hc_125) rfl ?_
                      clear hm a; intro a hm
                      refine s_move hm rfl rfl ?_
                      clear hm a; intro a hm
                      by_cases hc_126 : t_60.1.Seq = 11
                      · rw [if_pos hc_126] at H
                        refine s_on hm rfl rfl (beq_iff_eq.2 hc_126) ?_
                        refine s_fieldAddr hm rfl Try.underlying29 rfl ti23 rfl rfl ?_
                        clear hm a; intro a hm
                        refine s_on hm rfl rfl (beq_iff_eq.2 hc_126) ?_
                        refine s_load hm rfl rfl (hS.load_one (p := 15) rfl Try.underlying23 rfl rfl) ?_
                        clear hm a; intro a hm
                        refine s_on hm rfl rfl (beq_iff_eq.2 hc_126) ?_
                        have hq_131 : Reps (Kd.int .i64) Mem.no ([8, 9, 8] : List Int) _ := ((Reps.one (d := (Kd.int .i64)) (x := 8) (show (Kd.int .i64).K _ _ [.int .i64 8] from rfl)).append ((Reps.one (d := (Kd.int .i64)) (x := 9) (show (Kd.int .i64).K _ _ [.int .i64 9] from rfl)).append ((Reps.one (d := (Kd.int .i64)) (x := 8) (show (Kd.int .i64).K _ _ [.int .i64 8] from rfl)).append (Reps.nil (Kd.int .i64) _))))
                        refine s_buildSlice hm rfl Try.underlying23 ti3 rfl rfl rfl (.cons rfl (.cons rfl (.cons rfl .nil))) rfl rfl rfl hS hq_131 rfl ?_
                        intro w_127 v_128 M_129 hS' ho_130
                        clear hm a; intro a hm
                        replace hS : Sep w0 w_127 [N_121, M_7, M_11, M_15, M_19, M_23, M_27, Mem.one g_30 (.cells ([.int .i64 t_1.Kind, .int .i64 t_1.From, .int .i64 t_1.To, .int .i64 t_1.View, .int .i64 t_1.Inst, .int .i64 t_1.Len, .bool t_1.Has, .int .i64 t_1.Members, .int .i64 t_1.Source, .int .i64 t_1.At, .int .i64 t_1.Total, v_5, .int .i64 t_1.Hop, .int .i64 t_1.Seq, v_9, v_13, .int .i64 t_1.Index, .int .i64 t_1.Entry.Sess, .int .i64 t_1.Entry.Seq, .int .i64 t_1.Entry.Cmd.Kind, .int .i64 t_1.Entry.Cmd.Who, v_17, v_21, v_25] : List Value).toArray 29 (0, 0)), Mem.no, Mem.no, Mem.no, Mem.no, M_68, M_72, M_82, Mem.one g_85 (.cells ([.int .i64 t_60.1.Kind, .int .i64 t_60.1.From, .int .i64 t_60.1.To, .int .i64 t_60.1.View, .int .i64 t_60.1.Inst, .int .i64 t_60.1.Len, .bool t_60.1.Has, .int .i64 t_60.1.Members, .int .i64 t_60.1.Source, .int .i64 t_60.1.At, .int .i64 t_60.1.Total, v_64, .int .i64 t_60.1.Hop, .int .i64 t_60.1.Seq, v_66, v_70, .int .i64 t_60.1.Index, .int .i64 t_60.1.Entry.Sess, .int .i64 t_60.1.Entry.Seq, .int .i64 t_60.1.Entry.Cmd.Kind, .int .i64 t_60.1.Entry.Cmd.Who, v_74, v_76, v_78] : List Value).toArray 29 (0, 0)), M_90, M_114, M_129] Z := hS'
                        clear hS' hq_131
                        refine s_on hm rfl rfl (beq_iff_eq.2 hc_126) ?_
                        obtain ⟨t_133, et_133, H⟩ := Option.bind_eq_some_iff.1 H
                        refine s_call hm rfl Try.call25 rfl (hocketref1_SameInts.calls K t_60.1.Have _ ([8, 9, 8] : List Int) _ t_133 w0 _ _ _ (Mem.le.refl _) (hS.enter [] (by decide)) (hr_67.rd (hS.own_zed [] 11 (by decide)) (Mem.no_le _)) (ho_130.rd (hS.own_zed [] 17 (by decide)) (Mem.no_le _)) et_133) ?_
                        rintro _ w_134 ⟨N_135, rfl, hS'⟩
                        clear hm a; intro a hm
                        obtain ⟨N_136, hS'', le_136, ln_136⟩ := hS.call [] (by decide) rfl (l' := []) (ow := []) rfl hS'
                        replace hS : Sep w0 w_134 [N_136, M_7, M_11, M_15, M_19, M_23, M_27, Mem.one g_30 (.cells ([.int .i64 t_1.Kind, .int .i64 t_1.From, .int .i64 t_1.To, .int .i64 t_1.View, .int .i64 t_1.Inst, .int .i64 t_1.Len, .bool t_1.Has, .int .i64 t_1.Members, .int .i64 t_1.Source, .int .i64 t_1.At, .int .i64 t_1.Total, v_5, .int .i64 t_1.Hop, .int .i64 t_1.Seq, v_9, v_13, .int .i64 t_1.Index, .int .i64 t_1.Entry.Sess, .int .i64 t_1.Entry.Seq, .int .i64 t_1.Entry.Cmd.Kind, .int .i64 t_1.Entry.Cmd.Who, v_17, v_21, v_25] : List Value).toArray 29 (0, 0)), Mem.no, Mem.no, Mem.no, Mem.no, M_68, M_72, M_82, Mem.one g_85 (.cells ([.int .i64 t_60.1.Kind, .int .i64 t_60.1.From, .int .i64 t_60.1.To, .int .i64 t_60.1.View, .int .i64 t_60.1.Inst, .int .i64 t_60.1.Len, .bool t_60.1.Has, .int .i64 t_60.1.Members, .int .i64 t_60.1.Source, .int .i64 t_60.1.At, .int .i64 t_60.1.Total, v_64, .int .i64 t_60.1.Hop, .int .i64 t_60.1.Seq, v_66, v_70, .int .i64 t_60.1.Index, .int .i64 t_60.1.Entry.Sess, .int .i64 t_60.1.Entry.Seq, .int .i64 t_60.1.Entry.Cmd.Kind, .int .i64 t_60.1.Entry.Cmd.Who, v_74, v_76, v_78] : List Value).toArray 29 (0, 0)), M_90, M_114, M_129] Z := hS''
                        clear hS' hS''
                        refine s_pick_t hm rfl rfl (beq_iff_eq.2 hc_126) rfl ?_
                        clear hm a; intro a hm
                        refine s_move hm rfl rfl ?_
                        clear hm a; intro a hm
                        by_cases hc_137 : t_133 = true
                        · rw [if_pos hc_137] at H
                          refine s_on hm rfl rfl hc_137 ?_
                          refine s_fieldAddr hm rfl Try.underlying29 rfl ti23 rfl rfl ?_
                          clear hm a; intro a hm
                          refine s_on hm rfl rfl hc_137 ?_
                          refine s_load hm rfl rfl (hS.load_one (p := 15) rfl Try.underlying23 rfl rfl) ?_
                          clear hm a; intro a hm
                          refine s_on hm rfl rfl hc_137 ?_
                          have hq_142 : Reps (Kd.int .i64) Mem.no ([9, 10] : List Int) _ := ((Reps.one (d := (Kd.int .i64)) (x := 9) (show (Kd.int .i64).K _ _ [.int .i64 9] from rfl)).append ((Reps.one (d := (Kd.int .i64)) (x := 10) (show (Kd.int .i64).K _ _ [.int .i64 10] from rfl)).append (Reps.nil (Kd.int .i64) _)))
                          refine s_buildSlice hm rfl Try.underlying23 ti3 rfl rfl rfl (.cons rfl (.cons rfl .nil)) rfl rfl rfl hS hq_142 rfl ?_
                          intro w_138 v_139 M_140 hS' ho_141
                          clear hm a; intro a hm
                          replace hS : Sep w0 w_138 [N_136, M_7, M_11, M_15, M_19, M_23, M_27, Mem.one g_30 (.cells ([.int .i64 t_1.Kind, .int .i64 t_1.From, .int .i64 t_1.To, .int .i64 t_1.View, .int .i64 t_1.Inst, .int .i64 t_1.Len, .bool t_1.Has, .int .i64 t_1.Members, .int .i64 t_1.Source, .int .i64 t_1.At, .int .i64 t_1.Total, v_5, .int .i64 t_1.Hop, .int .i64 t_1.Seq, v_9, v_13, .int .i64 t_1.Index, .int .i64 t_1.Entry.Sess, .int .i64 t_1.Entry.Seq, .int .i64 t_1.Entry.Cmd.Kind, .int .i64 t_1.Entry.Cmd.Who, v_17, v_21, v_25] : List Value).toArray 29 (0, 0)), Mem.no, Mem.no, Mem.no, Mem.no, M_68, M_72, M_82, Mem.one g_85 (.cells ([.int .i64 t_60.1.Kind, .int .i64 t_60.1.From, .int .i64 t_60.1.To, .int .i64 t_60.1.View, .int .i64 t_60.1.Inst, .int .i64 t_60.1.Len, .bool t_60.1.Has, .int .i64 t_60.1.Members, .int .i64 t_60.1.Source, .int .i64 t_60.1.At, .int .i64 t_60.1.Total, v_64, .int .i64 t_60.1.Hop, .int .i64 t_60.1.Seq, v_66, v_70, .int .i64 t_60.1.Index, .int .i64 t_60.1.Entry.Sess, .int .i64 t_60.1.Entry.Seq, .int .i64 t_60.1.Entry.Cmd.Kind, .int .i64 t_60.1.Entry.Cmd.Who, v_74, v_76, v_78] : List Value).toArray 29 (0, 0)), M_90, M_114, M_129, M_140] Z := hS'
                          clear hS' hq_142
                          refine s_on hm rfl rfl hc_137 ?_
                          obtain ⟨t_144, et_144, H⟩ := Option.bind_eq_some_iff.1 H
                          refine s_call hm rfl Try.call25 rfl (hocketref1_SameInts.calls K t_60.1.Need _ ([9, 10] : List Int) _ t_144 w0 _ _ _ (Mem.le.refl _) (hS.enter [] (by decide)) (hr_71.rd (hS.own_zed [] 12 (by decide)) (Mem.no_le _)) (ho_141.rd (hS.own_zed [] 18 (by decide)) (Mem.no_le _)) et_144) ?_
                          rintro _ w_145 ⟨N_146, rfl, hS'⟩
                          clear hm a; intro a hm
                          obtain ⟨N_147, hS'', le_147, ln_147⟩ := hS.call [] (by decide) rfl (l' := []) (ow := []) rfl hS'
                          replace hS : Sep w0 w_145 [N_147, M_7, M_11, M_15, M_19, M_23, M_27, Mem.one g_30 (.cells ([.int .i64 t_1.Kind, .int .i64 t_1.From, .int .i64 t_1.To, .int .i64 t_1.View, .int .i64 t_1.Inst, .int .i64 t_1.Len, .bool t_1.Has, .int .i64 t_1.Members, .int .i64 t_1.Source, .int .i64 t_1.At, .int .i64 t_1.Total, v_5, .int .i64 t_1.Hop, .int .i64 t_1.Seq, v_9, v_13, .int .i64 t_1.Index, .int .i64 t_1.Entry.Sess, .int .i64 t_1.Entry.Seq, .int .i64 t_1.Entry.Cmd.Kind, .int .i64 t_1.Entry.Cmd.Who, v_17, v_21, v_25] : List Value).toArray 29 (0, 0)), Mem.no, Mem.no, Mem.no, Mem.no, M_68, M_72, M_82, Mem.one g_85 (.cells ([.int .i64 t_60.1.Kind, .int .i64 t_60.1.From, .int .i64 t_60.1.To, .int .i64 t_60.1.View, .int .i64 t_60.1.Inst, .int .i64 t_60.1.Len, .bool t_60.1.Has, .int .i64 t_60.1.Members, .int .i64 t_60.1.Source, .int .i64 t_60.1.At, .int .i64 t_60.1.Total, v_64, .int .i64 t_60.1.Hop, .int .i64 t_60.1.Seq, v_66, v_70, .int .i64 t_60.1.Index, .int .i64 t_60.1.Entry.Sess, .int .i64 t_60.1.Entry.Seq, .int .i64 t_60.1.Entry.Cmd.Kind, .int .i64 t_60.1.Entry.Cmd.Who, v_74, v_76, v_78] : List Value).toArray 29 (0, 0)), M_90, M_114, M_129, M_140] Z := hS''
                          clear hS' hS''
                          refine s_pick_t hm rfl rfl hc_137 rfl ?_
                          clear hm a; intro a hm
                          refine s_assign hm rfl rfl ?_
                          clear hm a; intro a hm
                          refine wpList_nil ?_
                          replace hm : Fr 80 a [(0, .bool t_144)] := hm.keep [0]
                          refine x_then_n (hKJ_87 _ _ ?_)
                          refine wp_ret ?_
                          by_cases hc_148 : t_144 = true
                          · rw [if_pos hc_148] at H
                            exact f_ret hm (rs := [.tmp 0]) rfl (.tmp rfl .nil) ⟨_, rfl, N_147, (by rw [hc_148]; rfl), (Sep.sel hS [0] (by decide))⟩
                          · rw [if_neg hc_148] at H
                            cases H
                        · rw [if_neg hc_137] at H
                          cases H
                      · rw [if_neg hc_126] at H
                        cases H
                    · rw [if_neg hc_125] at H
                      cases H
                  · rw [if_neg hc_124] at H
                    cases H
                · rw [if_neg hc_123] at H
                  cases H
              · rw [if_neg hc_122] at H
                cases H
            · rw [if_neg hc_111] at H
              cases H
          · rw [if_neg hc_106] at H
            cases H
        · rw [if_neg hc_101] at H
          cases H
      · rw [if_neg hc_100] at H
        cases H
    · rw [if_neg hc_99] at H
      cases H
  · rw [if_neg hc_98] at H
    cases H

set_option maxHeartbeats 4000000 in
set_option maxRecDepth 20000 in
theorem hocketlaw17_ToknForms_1.calls (x0 : Int) (x1 : List Int) (p1_0 : Value) (x2 : List Int) (p2_1 : Value) (r : api_Msg) (w0 w : World) (Z A : Mem) (hA : A.le Z) (hS : Sep w0 w [] Z) (hp1_0 : Rd (Kd.int .i64) A p1_0 x1) (hp2_1 : Rd (Kd.int .i64) A p2_1 x2)
    (H : hocketlaw17_ToknForms_1.f x0 x1 x2 = some r) :
    Calls Try.prog 33 [.int .i64 x0, p1_0, p2_1].toArray w (Ret fun v w' => ∃ (u0 : Value) (u1 : Value) (u2 : Value) (u3 : Value) (u4 : Value) (u5 : Value) (N : Mem) (M0 : Mem) (M1 : Mem) (M2 : Mem) (M3 : Mem), v = .agg [.int .i64 r.Kind, .int .i64 r.From, .int .i64 r.To, .int .i64 r.View, .int .i64 r.Inst, .int .i64 r.Len, .bool r.Has, .int .i64 r.Members, .int .i64 r.Source, .int .i64 r.At, .int .i64 r.Total, u0, .int .i64 r.Hop, .int .i64 r.Seq, u1, u2, .int .i64 r.Index, .int .i64 r.Entry.Sess, .int .i64 r.Entry.Seq, .int .i64 r.Entry.Cmd.Kind, .int .i64 r.Entry.Cmd.Who, u3, u4, u5].toArray ∧ Sep w0 w' [N, M0, M1, M2, M3] Z ∧ Own Kd.u8 5 M0 Mem.no u0 r.Data ∧ Rd (Kd.int .i64) (A.un N) u1 r.Have ∧ Rd (Kd.int .i64) (A.un N) u2 r.Need ∧ Own Kd.u8 5 M1 Mem.no u3 r.Entry.Cmd.Key ∧ Own Kd.u8 5 M2 Mem.no u4 r.Entry.Cmd.Val ∧ Own Kd.u8 5 M3 Mem.no u5 r.Entry.Cmd.Old) := by
  unfold hocketlaw17_ToknForms_1.f at H
  refine f_enter _ Try.func33 rfl Try.ntmps33 rfl fun a hm => ?_
  replace hm : Fr 11 a [(0, .int .i64 x0), (1, p1_0), (2, p2_1)] := hm
  replace hS := hS.start
  replace hS : Sep w0 w [Mem.no] Z := hS
  refine wp_seq ?_
  refine wp_region_lit ?_
  refine v_alloc hm rfl ti29 hS ?_
  intro w_1 g_2 hS'
  clear hm a; intro a hm
  replace hS : Sep w0 w_1 [Mem.no, Mem.one g_2 (.cells ([.int .i64 0, .int .i64 0, .int .i64 0, .int .i64 0, .int .i64 0, .int .i64 0, .bool false, .int .i64 0, .int .i64 0, .int .i64 0, .int .i64 0, .slice none 0 0, .int .i64 0, .int .i64 0, .slice none 0 0, .slice none 0 0, .int .i64 0, .int .i64 0, .int .i64 0, .int .i64 0, .int .i64 0, .slice none 0 0, .slice none 0 0, .slice none 0 0] : List Value).toArray 29 (0, 0))] Z := hS'
  clear hS'
  refine wpList_nil ?_
  replace hm : Fr 11 a [(0, .int .i64 x0), (1, p1_0), (2, p2_1), (6, .pointer (some ⟨g_2, 0, none⟩))] := hm.keep [0, 1, 2, 6]
  refine x_then_n ?_
  refine wp_seq ?_
  refine wp_region_lit ?_
  refine s_move hm rfl rfl ?_
  clear hm a; intro a hm
  refine s_move hm rfl rfl ?_
  clear hm a; intro a hm
  refine s_move hm rfl rfl ?_
  clear hm a; intro a hm
  refine s_build hm rfl ti29 pl29 rfl (.cons rfl (.cons rfl (.cons rfl (.cons rfl (.cons hp1_0.cells (.cons hp2_1.cells .nil)))))) (cs := [.int .i64 7, .int .i64 0, .int .i64 0, .int .i64 8, .int .i64 0, .int .i64 0, .bool false, .int .i64 0, .int .i64 0, .int .i64 0, .int .i64 0, .slice none 0 0, .int .i64 3, .int .i64 x0, p1_0, p2_1, .int .i64 0, .int .i64 0, .int .i64 0, .int .i64 0, .int .i64 0, .slice none 0 0, .slice none 0 0, .slice none 0 0]) (by kernel_rfl) ?_
  clear hm a; intro a hm
  obtain ⟨w_3, hs', hS'⟩ := hS.store (P := Try.prog) (p := 1) (o := 0) (t := 29) (v := .agg ([.int .i64 7, .int .i64 0, .int .i64 0, .int .i64 8, .int .i64 0, .int .i64 0, .bool false, .int .i64 0, .int .i64 0, .int .i64 0, .int .i64 0, .slice none 0 0, .int .i64 3, .int .i64 x0, p1_0, p2_1, .int .i64 0, .int .i64 0, .int .i64 0, .int .i64 0, .int .i64 0, .slice none 0 0, .slice none 0 0, .slice none 0 0] : List Value).toArray) (vs := [.int .i64 7, .int .i64 0, .int .i64 0, .int .i64 8, .int .i64 0, .int .i64 0, .bool false, .int .i64 0, .int .i64 0, .int .i64 0, .int .i64 0, .slice none 0 0, .int .i64 3, .int .i64 x0, p1_0, p2_1, .int .i64 0, .int .i64 0, .int .i64 0, .int .i64 0, .int .i64 0, .slice none 0 0, .slice none 0 0, .slice none 0 0]) rfl ti29 rfl rfl rfl (by intro u hu; simp only [List.mem_cons, List.not_mem_nil, or_false] at hu; rcases hu with rfl | rfl | rfl | rfl | rfl | rfl | rfl | rfl | rfl | rfl | rfl | rfl | rfl | rfl | rfl | rfl | rfl | rfl | rfl | rfl | rfl | rfl | rfl | rfl <;> first | rfl | exact hp1_0.one | exact hp2_1.one)
  refine s_store hm rfl rfl hs' ?_
  replace hS : Sep w0 w_3 [Mem.no, Mem.one g_2 (.cells ([.int .i64 7, .int .i64 0, .int .i64 0, .int .i64 8, .int .i64 0, .int .i64 0, .bool false, .int .i64 0, .int .i64 0, .int .i64 0, .int .i64 0, .slice none 0 0, .int .i64 3, .int .i64 x0, p1_0, p2_1, .int .i64 0, .int .i64 0, .int .i64 0, .int .i64 0, .int .i64 0, .slice none 0 0, .slice none 0 0, .slice none 0 0] : List Value).toArray 29 (0, 0))] Z := hS'
  clear hs' hS'
  refine wpList_nil ?_
  replace hm : Fr 11 a [(6, .pointer (some ⟨g_2, 0, none⟩))] := hm.keep [6]
  refine x_then_n ?_
  refine wp_ret ?_
  have hS' := hS.room
  replace hS : Sep w0 w_3 [Mem.no, Mem.one g_2 (.cells ([.int .i64 7, .int .i64 0, .int .i64 0, .int .i64 8, .int .i64 0, .int .i64 0, .bool false, .int .i64 0, .int .i64 0, .int .i64 0, .int .i64 0, .slice none 0 0, .int .i64 3, .int .i64 x0, p1_0, p2_1, .int .i64 0, .int .i64 0, .int .i64 0, .int .i64 0, .int .i64 0, .slice none 0 0, .slice none 0 0, .slice none 0 0] : List Value).toArray 29 (0, 0)), Mem.no] Z := hS'
  clear hS'
  replace hS : Sep w0 w_3 [Mem.no, Mem.one g_2 (.cells ([.int .i64 7, .int .i64 0, .int .i64 0, .int .i64 8, .int .i64 0, .int .i64 0, .bool false, .int .i64 0, .int .i64 0, .int .i64 0, .int .i64 0, .slice none 0 0, .int .i64 3, .int .i64 x0, p1_0, p2_1, .int .i64 0, .int .i64 0, .int .i64 0, .int .i64 0, .int .i64 0, .slice none 0 0, .slice none 0 0, .slice none 0 0] : List Value).toArray 29 (0, 0)), Mem.no] Z := hS
  have hS' := hS.room
  replace hS : Sep w0 w_3 [Mem.no, Mem.one g_2 (.cells ([.int .i64 7, .int .i64 0, .int .i64 0, .int .i64 8, .int .i64 0, .int .i64 0, .bool false, .int .i64 0, .int .i64 0, .int .i64 0, .int .i64 0, .slice none 0 0, .int .i64 3, .int .i64 x0, p1_0, p2_1, .int .i64 0, .int .i64 0, .int .i64 0, .int .i64 0, .int .i64 0, .slice none 0 0, .slice none 0 0, .slice none 0 0] : List Value).toArray 29 (0, 0)), Mem.no, Mem.no] Z := hS'
  clear hS'
  replace hS : Sep w0 w_3 [Mem.no, Mem.one g_2 (.cells ([.int .i64 7, .int .i64 0, .int .i64 0, .int .i64 8, .int .i64 0, .int .i64 0, .bool false, .int .i64 0, .int .i64 0, .int .i64 0, .int .i64 0, .slice none 0 0, .int .i64 3, .int .i64 x0, p1_0, p2_1, .int .i64 0, .int .i64 0, .int .i64 0, .int .i64 0, .int .i64 0, .slice none 0 0, .slice none 0 0, .slice none 0 0] : List Value).toArray 29 (0, 0)), Mem.no, Mem.no] Z := hS
  have hS' := hS.room
  replace hS : Sep w0 w_3 [Mem.no, Mem.one g_2 (.cells ([.int .i64 7, .int .i64 0, .int .i64 0, .int .i64 8, .int .i64 0, .int .i64 0, .bool false, .int .i64 0, .int .i64 0, .int .i64 0, .int .i64 0, .slice none 0 0, .int .i64 3, .int .i64 x0, p1_0, p2_1, .int .i64 0, .int .i64 0, .int .i64 0, .int .i64 0, .int .i64 0, .slice none 0 0, .slice none 0 0, .slice none 0 0] : List Value).toArray 29 (0, 0)), Mem.no, Mem.no, Mem.no] Z := hS'
  clear hS'
  replace hS : Sep w0 w_3 [Mem.no, Mem.one g_2 (.cells ([.int .i64 7, .int .i64 0, .int .i64 0, .int .i64 8, .int .i64 0, .int .i64 0, .bool false, .int .i64 0, .int .i64 0, .int .i64 0, .int .i64 0, .slice none 0 0, .int .i64 3, .int .i64 x0, p1_0, p2_1, .int .i64 0, .int .i64 0, .int .i64 0, .int .i64 0, .int .i64 0, .slice none 0 0, .slice none 0 0, .slice none 0 0] : List Value).toArray 29 (0, 0)), Mem.no, Mem.no, Mem.no] Z := hS
  have hS' := hS.room
  replace hS : Sep w0 w_3 [Mem.no, Mem.one g_2 (.cells ([.int .i64 7, .int .i64 0, .int .i64 0, .int .i64 8, .int .i64 0, .int .i64 0, .bool false, .int .i64 0, .int .i64 0, .int .i64 0, .int .i64 0, .slice none 0 0, .int .i64 3, .int .i64 x0, p1_0, p2_1, .int .i64 0, .int .i64 0, .int .i64 0, .int .i64 0, .int .i64 0, .slice none 0 0, .slice none 0 0, .slice none 0 0] : List Value).toArray 29 (0, 0)), Mem.no, Mem.no, Mem.no, Mem.no] Z := hS'
  clear hS'
  replace hS : Sep w0 w_3 [Mem.no, Mem.one g_2 (.cells ([.int .i64 7, .int .i64 0, .int .i64 0, .int .i64 8, .int .i64 0, .int .i64 0, .bool false, .int .i64 0, .int .i64 0, .int .i64 0, .int .i64 0, .slice none 0 0, .int .i64 3, .int .i64 x0, p1_0, p2_1, .int .i64 0, .int .i64 0, .int .i64 0, .int .i64 0, .int .i64 0, .slice none 0 0, .slice none 0 0, .slice none 0 0] : List Value).toArray 29 (0, 0)), Mem.no, Mem.no, Mem.no, Mem.no] Z := hS
  obtain rfl := Option.some.inj H
  exact f_ret hm (rs := [.cell 6 29]) rfl (.cell rfl (hS.load_agg (p := 1) (us := [.int .i64 7, .int .i64 0, .int .i64 0, .int .i64 8, .int .i64 0, .int .i64 0, .bool false, .int .i64 0, .int .i64 0, .int .i64 0, .int .i64 0, .slice none 0 0, .int .i64 3, .int .i64 x0, p1_0, p2_1, .int .i64 0, .int .i64 0, .int .i64 0, .int .i64 0, .int .i64 0, .slice none 0 0, .slice none 0 0, .slice none 0 0]) rfl Try.underlying29 rfl ti29 rfl rfl) .nil) ⟨_, rfl, .slice none 0 0, p1_0, p2_1, .slice none 0 0, .slice none 0 0, .slice none 0 0, Mem.no, Mem.no, Mem.no, Mem.no, Mem.no, rfl, (Sep.sel hS [0, 2, 3, 4, 5] (by decide)), (Own.nil Kd.u8 5 Mem.no), (hp1_0.mono (Mem.le_un _ _)), (hp2_1.mono (Mem.le_un _ _)), (Own.nil Kd.u8 5 Mem.no), (Own.nil Kd.u8 5 Mem.no), (Own.nil Kd.u8 5 Mem.no)⟩


end Go.Proofs
