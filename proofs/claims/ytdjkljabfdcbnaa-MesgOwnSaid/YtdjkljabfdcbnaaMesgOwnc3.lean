/- What the calls do: each function once. -/
import Derived.Test.YtdjkljabfdcbnaaMesgOwnc2
namespace Go.Proofs
open Go.Gp
set_option linter.unusedVariables false
set_option maxHeartbeats 4000000 in
set_option maxRecDepth 20000 in
theorem hocketlaw11_awake.calls (K : Nat) (r : Unit) (w0 w : World) (Z A : Mem) (hA : A.le Z) (hS : Sep w0 w [] Z)
    (H : hocketlaw11_awake.f K = some r) :
    Calls Try.prog 13 [].toArray w (Ret fun v w' => ∃ (N : Mem), v = .bool true ∧ Sep w0 w' [N] Z) := by
 unfold hocketlaw11_awake.f at H
 refine f_enter _ Try.func13 rfl Try.ntmps13 rfl fun a h=>?_
 replace h : Fr 57 a [] := h
 replace hS := hS.start
 replace hS : Sep w0 w [_] Z := hS
 refine wp_seq <| wp_region_lit <| s_assign h rfl rfl fun a h=>wpList_nil <| x_then_n <| wp_seq <| wp_region_lit ?_
 have hq_5 : Reps (Kd.int .i64) Mem.no ([5, 4] : List Int) _ := ((Reps.one (d := (Kd.int .i64)) (x := 5) (show (Kd.int .i64).K _ _ [iV 5] from rfl)).append ((Reps.one (d := (Kd.int .i64)) (x := 4) (show (Kd.int .i64).K _ _ [iV 4] from rfl)).append (Reps.nil (Kd.int .i64) _)))
 refine s_buildSlice h rfl U22 ti3 rfl rfl rfl (.cons rfl (.cons rfl .nil)) rfl rfl rfl hS hq_5 rfl fun w_1 v_2 M_3 hS' ho_4 a h => ?_
 replace hS : Sep w0 w_1 [_, M_3] Z := hS'
 clear hS' hq_5
 have hq_11 : Reps (Kd.int .i64) Mem.no ([5] : List Int) _ := ((Reps.one (d := (Kd.int .i64)) (x := 5) (show (Kd.int .i64).K _ _ [iV 5] from rfl)).append (Reps.nil (Kd.int .i64) _))
 refine s_buildSlice h rfl U22 ti3 rfl rfl rfl (.cons rfl .nil) rfl rfl rfl hS hq_11 rfl fun w_7 v_8 M_9 hS' ho_10 a h => ?_
 replace hS : Sep w0 w_7 [_, _, M_9] Z := hS'
 clear hS' hq_11
 refine s_build h rfl ti29 pl29 rfl (.cons rfl (.cons rfl (.cons rfl (.cons rfl (.cons rfl (.cons rfl (.cons ho_4.cells (.cons ho_10.cells .nil)))))))) (cs := [iV 7, iV 1, iV 2, iV 300, iV 0, iV 0, .bool false, iV 0, iV 0, iV 0, iV 0, nS, iV 4, iV 5, v_2, v_8, iV 0, iV 0, iV 0, iV 0, iV 0, nS, nS, nS]) (by kernel_rfl) fun a h=>v_alloc h rfl ti29 hS fun w_13 g_14 hS' a h => ?_
 replace hS : Sep w0 w_13 [_, _, _, Mem.one g_14 (.cells ([iV 0, iV 0, iV 0, iV 0, iV 0, iV 0, .bool false, iV 0, iV 0, iV 0, iV 0, nS, iV 0, iV 0, nS, nS, iV 0, iV 0, iV 0, iV 0, iV 0, nS, nS, nS] : List Value).toArray 29 (0, 0))] Z := hS'
 clear hS'
 obtain ⟨w_15, hs', hS'⟩ := hS.store (P := Try.prog) (p := 3) (o := 0) (t := 29) (v := .agg ([iV 7, iV 1, iV 2, iV 300, iV 0, iV 0, .bool false, iV 0, iV 0, iV 0, iV 0, nS, iV 4, iV 5, v_2, v_8, iV 0, iV 0, iV 0, iV 0, iV 0, nS, nS, nS] : List Value).toArray) (vs := [iV 7, iV 1, iV 2, iV 300, iV 0, iV 0, .bool false, iV 0, iV 0, iV 0, iV 0, nS, iV 4, iV 5, v_2, v_8, iV 0, iV 0, iV 0, iV 0, iV 0, nS, nS, nS]) rfl ti29 rfl rfl rfl (by intro u hu; simp only [List.mem_cons, List.not_mem_nil, or_false] at hu; rcases hu with rfl | rfl | rfl | rfl | rfl | rfl | rfl | rfl | rfl | rfl | rfl | rfl | rfl | rfl | rfl | rfl | rfl | rfl | rfl | rfl | rfl | rfl | rfl | rfl <;> first | rfl | exact ho_4.one | exact ho_10.one)
 refine s_store h rfl rfl hs' ?_
 replace hS : Sep w0 w_15 [_, _, _, Mem.one g_14 (.cells ([iV 7, iV 1, iV 2, iV 300, _, _, _, _, _, _, _, _, iV 4, iV 5, v_2, v_8, _, _, _, _, _, _, _, _] : List Value).toArray 29 (0, 0))] Z := hS'
 clear hs' hS'
 refine wpList_nil <| x_then_n <| wp_seq <| wp_region_lit <| s_load h rfl rfl (hS.load_agg (p := 3) (us := [iV 7, iV 1, iV 2, iV 300, iV 0, iV 0, .bool false, iV 0, iV 0, iV 0, iV 0, nS, iV 4, iV 5, v_2, v_8, iV 0, iV 0, iV 0, iV 0, iV 0, nS, nS, nS]) rfl U29 rfl ti29 rfl rfl) fun a h=>?_
 obtain ⟨t_16, et_16, H⟩ := Option.bind_eq_some_iff.1 H
 refine s_call h rfl Try.call11 rfl (mesg_Encode.calls K (⟨7, 1, 2, 300, 0, 0, false, 0, 0, 0, 0, ([] : List UInt8), 4, 5, ([5, 4] : List Int), ([5] : List Int), 0, (⟨0, 0, (⟨0, 0, ([] : List UInt8), ([] : List UInt8), ([] : List UInt8)⟩ : api_Cmd)⟩ : api_Entry)⟩ : api_Msg) _ _ _ _ _ _ t_16 w0 _ _ _ (Mem.le.refl _) (hS.enter [] (by decide)) (Rd.nil _ _) (ho_4.rd (hS.own_zed [] 0 (by decide)) (Mem.no_le _)) (ho_10.rd (hS.own_zed [] 1 (by decide)) (Mem.no_le _)) (Rd.nil _ _) (Rd.nil _ _) (Rd.nil _ _) et_16) ?_
 rintro v_20 w_17 ⟨_, N_18, M_22, rfl, hS', hr_21⟩
 intro a h
 obtain ⟨N_19, hS'', le_19, ln_19⟩ := hS.call [] (by decide) rfl (l' := []) (ow := [M_22]) rfl hS'
 replace hS : Sep w0 w_17 [N_19, _, _, _, M_22] Z := hS''
 clear hS' hS''
 refine s_assign h rfl rfl fun a h=>wpList_nil <| x_then_n <| wp_seq <| wp_region_lit <| s_move h rfl rfl fun a h=>?_
 obtain ⟨t_24, et_24, H⟩ := Option.bind_eq_some_iff.1 H
 refine s_call h rfl Try.call12 rfl (mesg_Decode.calls K t_16 _ t_24 w0 _ _ _ (Mem.le.refl _) (hS.enter [] (by decide)) (hr_21.rd (hS.own_zed [] 3 (by decide)) (Mem.no_le _)) et_24) ?_
 rintro _ w_25 ⟨v_28, v_32, v_36, v_40, v_44, v_48, N_26, M_30, M_34, M_38, M_42, M_46, M_50, rfl, hS', hr_29, hr_33, hr_37, hr_41, hr_45, hr_49⟩
 intro a h
 obtain ⟨N_27, hS'', le_27, ln_27⟩ := hS.call [] (by decide) rfl (l' := []) (ow := [M_30, M_34, M_38, M_42, M_46, M_50]) rfl hS'
 replace hS : Sep w0 w_25 [N_27, _, _, _, _, M_30, M_34, M_38, M_42, M_46, M_50] Z := hS''
 clear hS' hS''
 refine s_move h rfl rfl fun a h=>s_extract h rfl rfl rfl fun a h=>s_extract h rfl rfl rfl fun a h=>v_alloc h rfl ti29 hS fun w_52 g_53 hS' a h => ?_
 replace hS : Sep w0 w_52 [_, _, _, _, _, _, _, _, _, _, _, Mem.one g_53 (.cells ([iV 0, iV 0, iV 0, iV 0, iV 0, iV 0, .bool false, iV 0, iV 0, iV 0, iV 0, nS, iV 0, iV 0, nS, nS, iV 0, iV 0, iV 0, iV 0, iV 0, nS, nS, nS] : List Value).toArray 29 (0, 0))] Z := hS'
 clear hS'
 obtain ⟨w_54, hs', hS'⟩ := hS.store (P := Try.prog) (p := 11) (o := 0) (t := 29) (v := .agg ([iV t_24.1.Kind, iV t_24.1.From, iV t_24.1.To, iV t_24.1.View, iV t_24.1.Inst, iV t_24.1.Len, .bool t_24.1.Has, iV t_24.1.Members, iV t_24.1.Source, iV t_24.1.At, iV t_24.1.Total, v_28, iV t_24.1.Hop, iV t_24.1.Seq, v_32, v_36, iV t_24.1.Index, iV t_24.1.Entry.Sess, iV t_24.1.Entry.Seq, iV t_24.1.Entry.Cmd.Kind, iV t_24.1.Entry.Cmd.Who, v_40, v_44, v_48] : List Value).toArray) (vs := [iV t_24.1.Kind, iV t_24.1.From, iV t_24.1.To, iV t_24.1.View, iV t_24.1.Inst, iV t_24.1.Len, .bool t_24.1.Has, iV t_24.1.Members, iV t_24.1.Source, iV t_24.1.At, iV t_24.1.Total, v_28, iV t_24.1.Hop, iV t_24.1.Seq, v_32, v_36, iV t_24.1.Index, iV t_24.1.Entry.Sess, iV t_24.1.Entry.Seq, iV t_24.1.Entry.Cmd.Kind, iV t_24.1.Entry.Cmd.Who, v_40, v_44, v_48]) rfl ti29 rfl rfl rfl (by intro u hu; simp only [List.mem_cons, List.not_mem_nil, or_false] at hu; rcases hu with rfl | rfl | rfl | rfl | rfl | rfl | rfl | rfl | rfl | rfl | rfl | rfl | rfl | rfl | rfl | rfl | rfl | rfl | rfl | rfl | rfl | rfl | rfl | rfl <;> first | rfl | exact hr_29.one | exact hr_33.one | exact hr_37.one | exact hr_41.one | exact hr_45.one | exact hr_49.one)
 refine s_store h rfl rfl hs' ?_
 replace hS : Sep w0 w_54 [_, _, _, _, _, _, _, _, _, _, _, Mem.one g_53 (.cells ([iV t_24.1.Kind, iV t_24.1.From, iV t_24.1.To, iV t_24.1.View, iV t_24.1.Inst, iV t_24.1.Len, .bool t_24.1.Has, iV t_24.1.Members, iV t_24.1.Source, iV t_24.1.At, iV t_24.1.Total, v_28, iV t_24.1.Hop, iV t_24.1.Seq, v_32, v_36, iV t_24.1.Index, iV t_24.1.Entry.Sess, iV t_24.1.Entry.Seq, iV t_24.1.Entry.Cmd.Kind, iV t_24.1.Entry.Cmd.Who, v_40, v_44, v_48] : List Value).toArray 29 (0, 0))] Z := hS'
 clear hs' hS'
 refine s_assign h rfl rfl fun a h=>wpList_nil ?_
 replace h : Fr 57 a [(0, .bool false), (1, .pointer (some ⟨g_14, 0, none⟩)), (2, v_20), (3, .pointer (some ⟨g_53, 0, none⟩)), (4, .bool t_24.2)] := h.keep [0, 1, 2, 3, 4]
 refine x_then_n <| wp_seq <| wp_region_lit <| s_move h rfl rfl fun a h=>?_
 have hq_59 : Reps Kd.u8 Mem.no ([(0 : UInt8)] : List UInt8) _ := ((Reps.one (d := Kd.u8) (x := (0 : UInt8)) (show Kd.u8.K _ _ [.int .u8 ((0 : UInt8).toNat : Int)] from rfl)).append (Reps.nil Kd.u8 _))
 refine s_buildSlice h rfl U23 ti5 rfl rfl rfl (.cons rfl .nil) rfl rfl rfl hS hq_59 rfl fun w_55 v_56 M_57 hS' ho_58 a h => ?_
 replace hS : Sep w0 w_55 [_, _, _, _, _, _, _, _, _, _, _, _, M_57] Z := hS'
 clear hS' hq_59
 obtain ⟨t_61, et_61, H⟩ := Option.bind_eq_some_iff.1 H
 refine s_appendK (J := Mem.no) (I' := Mem.no) (p := 4) 140737488355328 h rfl rfl rfl U23 ti5 rfl rfl rfl rfl hS rfl rfl hr_21 (Src.flat flat_u8 (ho_58.src (hS.own 12))) (Mem.le.refl _) (Mem.le.refl _) et_61 fun w_62 v_63 M_64 M_66 hS' ho_65 hk_67 a h => ?_
 replace hS : Sep w0 w_62 [_, _, _, _, M_64, _, _, _, _, _, _, _, _, M_66] Z := hS'
 clear hS'
 obtain ⟨N_69, hS', le_69, lo_69⟩ := hS.freeze 3 rfl
 replace hS : Sep w0 w_62 [N_69, _, _, _, Mem.no, _, _, _, _, _, _, _, _, _] Z := hS'
 clear hS'
 obtain ⟨N_70, hS', le_70, lo_70⟩ := hS.freeze 12 rfl
 replace hS : Sep w0 w_62 [N_70, _, _, _, _, _, _, _, _, _, _, _, _, Mem.no] Z := hS'
 clear hS'
 have hr_71 : Rd Kd.u8 N_70 v_20 t_16 := hk_67 _ (lo_69.trans le_70) lo_70 (Mem.no_le _)
 obtain ⟨t_72, et_72, H⟩ := Option.bind_eq_some_iff.1 H
 refine s_call h rfl Try.call12 rfl (mesg_Decode.calls K t_61 _ t_72 w0 _ _ _ (Mem.le.refl _) (hS.enter [] (by decide)) ((ho_65.rd lo_69 (Mem.no_le _)).mono (le_70.trans (hS.new_zed []))) et_72) ?_
 rintro _ w_73 ⟨v_76, v_80, v_84, v_88, v_92, v_96, N_74, M_78, M_82, M_86, M_90, M_94, M_98, rfl, hS', hr_77, hr_81, hr_85, hr_89, hr_93, hr_97⟩
 intro a h
 obtain ⟨N_75, hS'', le_75, ln_75⟩ := hS.call [] (by decide) rfl (l' := []) (ow := [M_78, M_82, M_86, M_90, M_94, M_98]) rfl hS'
 replace hS : Sep w0 w_73 [N_75, _, _, _, _, _, _, _, _, _, _, _, _, _, M_78, M_82, M_86, M_90, M_94, M_98] Z := hS''
 clear hS' hS''
 refine s_move h rfl rfl fun a h=>s_extract h rfl rfl rfl fun a h=>s_extract h rfl rfl rfl fun a h=>v_alloc h rfl ti29 hS fun w_100 g_101 hS' a h => ?_
 replace hS : Sep w0 w_100 [_, _, _, _, _, _, _, _, _, _, _, _, _, _, _, _, _, _, _, _, Mem.one g_101 (.cells ([iV 0, iV 0, iV 0, iV 0, iV 0, iV 0, .bool false, iV 0, iV 0, iV 0, iV 0, nS, iV 0, iV 0, nS, nS, iV 0, iV 0, iV 0, iV 0, iV 0, nS, nS, nS] : List Value).toArray 29 (0, 0))] Z := hS'
 clear hS'
 obtain ⟨w_102, hs', hS'⟩ := hS.store (P := Try.prog) (p := 20) (o := 0) (t := 29) (v := .agg ([iV t_72.1.Kind, iV t_72.1.From, iV t_72.1.To, iV t_72.1.View, iV t_72.1.Inst, iV t_72.1.Len, .bool t_72.1.Has, iV t_72.1.Members, iV t_72.1.Source, iV t_72.1.At, iV t_72.1.Total, v_76, iV t_72.1.Hop, iV t_72.1.Seq, v_80, v_84, iV t_72.1.Index, iV t_72.1.Entry.Sess, iV t_72.1.Entry.Seq, iV t_72.1.Entry.Cmd.Kind, iV t_72.1.Entry.Cmd.Who, v_88, v_92, v_96] : List Value).toArray) (vs := [iV t_72.1.Kind, iV t_72.1.From, iV t_72.1.To, iV t_72.1.View, iV t_72.1.Inst, iV t_72.1.Len, .bool t_72.1.Has, iV t_72.1.Members, iV t_72.1.Source, iV t_72.1.At, iV t_72.1.Total, v_76, iV t_72.1.Hop, iV t_72.1.Seq, v_80, v_84, iV t_72.1.Index, iV t_72.1.Entry.Sess, iV t_72.1.Entry.Seq, iV t_72.1.Entry.Cmd.Kind, iV t_72.1.Entry.Cmd.Who, v_88, v_92, v_96]) rfl ti29 rfl rfl rfl (by intro u hu; simp only [List.mem_cons, List.not_mem_nil, or_false] at hu; rcases hu with rfl | rfl | rfl | rfl | rfl | rfl | rfl | rfl | rfl | rfl | rfl | rfl | rfl | rfl | rfl | rfl | rfl | rfl | rfl | rfl | rfl | rfl | rfl | rfl <;> first | rfl | exact hr_77.one | exact hr_81.one | exact hr_85.one | exact hr_89.one | exact hr_93.one | exact hr_97.one)
 refine s_store h rfl rfl hs' ?_
 replace hS : Sep w0 w_102 [_, _, _, _, _, _, _, _, _, _, _, _, _, _, _, _, _, _, _, _, Mem.one g_101 (.cells ([iV t_72.1.Kind, iV t_72.1.From, iV t_72.1.To, iV t_72.1.View, iV t_72.1.Inst, iV t_72.1.Len, .bool t_72.1.Has, iV t_72.1.Members, iV t_72.1.Source, iV t_72.1.At, iV t_72.1.Total, v_76, iV t_72.1.Hop, iV t_72.1.Seq, v_80, v_84, iV t_72.1.Index, iV t_72.1.Entry.Sess, iV t_72.1.Entry.Seq, iV t_72.1.Entry.Cmd.Kind, iV t_72.1.Entry.Cmd.Who, v_88, v_92, v_96] : List Value).toArray 29 (0, 0))] Z := hS'
 clear hs' hS'
 refine s_assign h rfl rfl fun a h=>wpList_nil <| x_then_n <| c_seq fun KJ_103 hKJ_103 => wp_region_lit <| s_move h rfl rfl fun a h=>s_b2s h rfl U23 U5 U9 rfl hr_71 (le_75.trans (hS.own 0)) fun a h=>s_strEq (b := (t_16 == ([7, 1, 2, 172, 2, 4, 5, 2, 5, 4, 1, 5] : List UInt8))) h rfl rfl rfl (.inl ⟨rfl, rfl⟩) fun a h=>s_move h rfl rfl fun a h=>?_
 by_cases hc_104 : t_16 = ([7, 1, 2, 172, 2, 4, 5, 2, 5, 4, 1, 5] : List UInt8)
 ·rw [if_pos hc_104] at H
  refine s_on h rfl rfl (beq_iff_eq.2 hc_104) <| s_move h rfl rfl fun a h=>s_pick_t h rfl rfl (beq_iff_eq.2 hc_104) rfl fun a h=>s_move h rfl rfl fun a h=>?_
  by_cases hc_105 : t_24.2 = true
  ·rw [if_pos hc_105] at H
   refine s_on h rfl rfl hc_105 <| s_load h rfl rfl (hS.load_agg (p := 11) (us := [iV t_24.1.Kind, iV t_24.1.From, iV t_24.1.To, iV t_24.1.View, iV t_24.1.Inst, iV t_24.1.Len, .bool t_24.1.Has, iV t_24.1.Members, iV t_24.1.Source, iV t_24.1.At, iV t_24.1.Total, v_28, iV t_24.1.Hop, iV t_24.1.Seq, v_32, v_36, iV t_24.1.Index, iV t_24.1.Entry.Sess, iV t_24.1.Entry.Seq, iV t_24.1.Entry.Cmd.Kind, iV t_24.1.Entry.Cmd.Who, v_40, v_44, v_48]) rfl U29 rfl ti29 rfl rfl) fun a h=>s_on h rfl rfl hc_105 <| s_load h rfl rfl (hS.load_agg (p := 3) (us := [iV 7, iV 1, iV 2, iV 300, iV 0, iV 0, .bool false, iV 0, iV 0, iV 0, iV 0, nS, iV 4, iV 5, v_2, v_8, iV 0, iV 0, iV 0, iV 0, iV 0, nS, nS, nS]) rfl U29 rfl ti29 rfl rfl) fun a h=>s_on h rfl rfl hc_105 ?_
   obtain ⟨t_106, et_106, H⟩ := Option.bind_eq_some_iff.1 H
   refine s_call h rfl Try.call17 rfl (mesg_Same.calls K t_24.1 _ _ _ _ _ _ (⟨7, 1, 2, 300, 0, 0, false, 0, 0, 0, 0, ([] : List UInt8), 4, 5, ([5, 4] : List Int), ([5] : List Int), 0, (⟨0, 0, (⟨0, 0, ([] : List UInt8), ([] : List UInt8), ([] : List UInt8)⟩ : api_Cmd)⟩ : api_Entry)⟩ : api_Msg) _ _ _ _ _ _ t_106 w0 _ _ _ (Mem.le.refl _) (hS.enter [] (by decide)) (hr_29.rd (hS.own_zed [] 4 (by decide)) (Mem.no_le _)) (hr_33.rd (hS.own_zed [] 5 (by decide)) (Mem.no_le _)) (hr_37.rd (hS.own_zed [] 6 (by decide)) (Mem.no_le _)) (hr_41.rd (hS.own_zed [] 7 (by decide)) (Mem.no_le _)) (hr_45.rd (hS.own_zed [] 8 (by decide)) (Mem.no_le _)) (hr_49.rd (hS.own_zed [] 9 (by decide)) (Mem.no_le _)) (Rd.nil _ _) (ho_4.rd (hS.own_zed [] 0 (by decide)) (Mem.no_le _)) (ho_10.rd (hS.own_zed [] 1 (by decide)) (Mem.no_le _)) (Rd.nil _ _) (Rd.nil _ _) (Rd.nil _ _) et_106) ?_
   rintro _ w_107 ⟨N_108, rfl, hS'⟩
   intro a h
   obtain ⟨N_109, hS'', le_109, ln_109⟩ := hS.call [] (by decide) rfl (l' := []) (ow := []) rfl hS'
   replace hS : Sep w0 w_107 [N_109, _, _, _, _, _, _, _, _, _, _, _, _, _, _, _, _, _, _, _, _] Z := hS''
   clear hS' hS''
   refine s_pick_t h rfl rfl hc_105 rfl fun a h=>s_move h rfl rfl fun a h=>?_
   by_cases hc_110 : t_106 = true
   ·rw [if_pos hc_110] at H
    refine s_on h rfl rfl hc_110 <| s_move h rfl rfl fun a h=>s_on h rfl rfl hc_110 <| s_not h rfl rfl fun a h=>s_pick_t h rfl rfl hc_110 rfl fun a h=>s_move h rfl rfl fun a h=>?_
    by_cases hc_111 : t_72.2 = true
    ·rw [if_pos hc_111] at H
     cases H
    ·rw [if_neg hc_111] at H
     refine s_on h rfl rfl (nt (Bool.eq_false_iff.2 hc_111)) <| s_build h rfl ti29 pl29 rfl .nil (cs := [iV 0, iV 0, iV 0, iV 0, iV 0, iV 0, .bool false, iV 0, iV 0, iV 0, iV 0, nS, iV 0, iV 0, nS, nS, iV 0, iV 0, iV 0, iV 0, iV 0, nS, nS, nS]) (by kernel_rfl) fun a h=>s_on h rfl rfl (nt (Bool.eq_false_iff.2 hc_111)) ?_
     obtain ⟨t_112, et_112, H⟩ := Option.bind_eq_some_iff.1 H
     refine s_call h rfl Try.call11 rfl (mesg_Encode.calls K (⟨0, 0, 0, 0, 0, 0, false, 0, 0, 0, 0, ([] : List UInt8), 0, 0, ([] : List Int), ([] : List Int), 0, (⟨0, 0, (⟨0, 0, ([] : List UInt8), ([] : List UInt8), ([] : List UInt8)⟩ : api_Cmd)⟩ : api_Entry)⟩ : api_Msg) _ _ _ _ _ _ t_112 w0 _ _ _ (Mem.le.refl _) (hS.enter [] (by decide)) (Rd.nil _ _) (Rd.nil _ _) (Rd.nil _ _) (Rd.nil _ _) (Rd.nil _ _) (Rd.nil _ _) et_112) ?_
     rintro v_116 w_113 ⟨_, N_114, M_118, rfl, hS', hr_117⟩
     intro a h
     obtain ⟨N_115, hS'', le_115, ln_115⟩ := hS.call [] (by decide) rfl (l' := []) (ow := [M_118]) rfl hS'
     replace hS : Sep w0 w_113 [N_115, _, _, _, _, _, _, _, _, _, _, _, _, _, _, _, _, _, _, _, _, M_118] Z := hS''
     clear hS' hS''
     refine s_on h rfl rfl (nt (Bool.eq_false_iff.2 hc_111)) <| s_lenO h rfl U23 rfl hr_117 fun a h=>s_on h rfl rfl (nt (Bool.eq_false_iff.2 hc_111)) <| s_cmp (b := ((t_112.length : Int) == 0)) h rfl rfl rfl (.inl ⟨rfl, rfl⟩) fun a h=>s_pick_t h rfl rfl (nt (Bool.eq_false_iff.2 hc_111)) rfl fun a h=>s_move h rfl rfl fun a h=>?_
     by_cases hc_120 : (t_112.length : Int) = 0
     ·rw [if_pos hc_120] at H
      refine s_on h rfl rfl (beq_iff_eq.2 hc_120) <| s_build h rfl ti29 pl29 rfl (.cons rfl (.cons rfl .nil)) (cs := [iV 1, iV 7, iV 0, iV 0, iV 0, iV 0, .bool false, iV 0, iV 0, iV 0, iV 0, nS, iV 0, iV 0, nS, nS, iV 0, iV 0, iV 0, iV 0, iV 0, nS, nS, nS]) (by kernel_rfl) fun a h=>s_on h rfl rfl (beq_iff_eq.2 hc_120) ?_
      obtain ⟨t_121, et_121, H⟩ := Option.bind_eq_some_iff.1 H
      refine s_call h rfl Try.call11 rfl (mesg_Encode.calls K (⟨1, 7, 0, 0, 0, 0, false, 0, 0, 0, 0, ([] : List UInt8), 0, 0, ([] : List Int), ([] : List Int), 0, (⟨0, 0, (⟨0, 0, ([] : List UInt8), ([] : List UInt8), ([] : List UInt8)⟩ : api_Cmd)⟩ : api_Entry)⟩ : api_Msg) _ _ _ _ _ _ t_121 w0 _ _ _ (Mem.le.refl _) (hS.enter [] (by decide)) (Rd.nil _ _) (Rd.nil _ _) (Rd.nil _ _) (Rd.nil _ _) (Rd.nil _ _) (Rd.nil _ _) et_121) ?_
      rintro v_125 w_122 ⟨_, N_123, M_127, rfl, hS', hr_126⟩
      intro a h
      obtain ⟨N_124, hS'', le_124, ln_124⟩ := hS.call [] (by decide) rfl (l' := []) (ow := [M_127]) rfl hS'
      replace hS : Sep w0 w_122 [N_124, _, _, _, _, _, _, _, _, _, _, _, _, _, _, _, _, _, _, _, _, _, M_127] Z := hS''
      clear hS' hS''
      refine s_on h rfl rfl (beq_iff_eq.2 hc_120) <| s_lenO h rfl U23 rfl hr_126 fun a h=>s_on h rfl rfl (beq_iff_eq.2 hc_120) <| s_cmp (b := ((t_121.length : Int) == 0)) h rfl rfl rfl (.inl ⟨rfl, rfl⟩) fun a h=>s_pick_t h rfl rfl (beq_iff_eq.2 hc_120) rfl fun a h=>s_move h rfl rfl fun a h=>?_
      by_cases hc_129 : (t_121.length : Int) = 0
      ·rw [if_pos hc_129] at H
       refine s_on h rfl rfl (beq_iff_eq.2 hc_129) <| s_load h rfl rfl (hS.load_agg (p := 3) (us := [iV 7, iV 1, iV 2, iV 300, iV 0, iV 0, .bool false, iV 0, iV 0, iV 0, iV 0, nS, iV 4, iV 5, v_2, v_8, iV 0, iV 0, iV 0, iV 0, iV 0, nS, nS, nS]) rfl U29 rfl ti29 rfl rfl) fun a h=>s_on h rfl rfl (beq_iff_eq.2 hc_129) <| s_build h rfl ti29 pl29 rfl .nil (cs := [iV 0, iV 0, iV 0, iV 0, iV 0, iV 0, .bool false, iV 0, iV 0, iV 0, iV 0, nS, iV 0, iV 0, nS, nS, iV 0, iV 0, iV 0, iV 0, iV 0, nS, nS, nS]) (by kernel_rfl) fun a h=>s_on h rfl rfl (beq_iff_eq.2 hc_129) ?_
       obtain ⟨t_130, et_130, H⟩ := Option.bind_eq_some_iff.1 H
       refine s_call h rfl Try.call17 rfl (mesg_Same.calls K (⟨7, 1, 2, 300, 0, 0, false, 0, 0, 0, 0, ([] : List UInt8), 4, 5, ([5, 4] : List Int), ([5] : List Int), 0, (⟨0, 0, (⟨0, 0, ([] : List UInt8), ([] : List UInt8), ([] : List UInt8)⟩ : api_Cmd)⟩ : api_Entry)⟩ : api_Msg) _ _ _ _ _ _ (⟨0, 0, 0, 0, 0, 0, false, 0, 0, 0, 0, ([] : List UInt8), 0, 0, ([] : List Int), ([] : List Int), 0, (⟨0, 0, (⟨0, 0, ([] : List UInt8), ([] : List UInt8), ([] : List UInt8)⟩ : api_Cmd)⟩ : api_Entry)⟩ : api_Msg) _ _ _ _ _ _ t_130 w0 _ _ _ (Mem.le.refl _) (hS.enter [] (by decide)) (Rd.nil _ _) (ho_4.rd (hS.own_zed [] 0 (by decide)) (Mem.no_le _)) (ho_10.rd (hS.own_zed [] 1 (by decide)) (Mem.no_le _)) (Rd.nil _ _) (Rd.nil _ _) (Rd.nil _ _) (Rd.nil _ _) (Rd.nil _ _) (Rd.nil _ _) (Rd.nil _ _) (Rd.nil _ _) (Rd.nil _ _) et_130) ?_
       rintro _ w_131 ⟨N_132, rfl, hS'⟩
       intro a h
       obtain ⟨N_133, hS'', le_133, ln_133⟩ := hS.call [] (by decide) rfl (l' := []) (ow := []) rfl hS'
       replace hS : Sep w0 w_131 [N_133, _, _, _, _, _, _, _, _, _, _, _, _, _, _, _, _, _, _, _, _, _, _] Z := hS''
       clear hS' hS''
       refine s_on h rfl rfl (beq_iff_eq.2 hc_129) <| s_not h rfl rfl fun a h=>s_pick_t h rfl rfl (beq_iff_eq.2 hc_129) rfl fun a h=>s_assign h rfl rfl fun a h=>wpList_nil <| x_then_n (hKJ_103 _ _ ?_)
       refine wp_ret ?_
       by_cases hc_134 : t_130 = true
       ·rw [if_pos hc_134] at H
        cases H
       ·rw [if_neg hc_134] at H
        exact f_ret h (rs := [.tmp 0]) rfl (.tmp rfl .nil) ⟨_, rfl, N_133, (by rw [(nt (Bool.eq_false_iff.2 hc_134))]; rfl), (Sep.sel hS [0] (by decide))⟩
      ·rw [if_neg hc_129] at H
       cases H
     ·rw [if_neg hc_120] at H
      cases H
   ·rw [if_neg hc_110] at H
    cases H
  ·rw [if_neg hc_105] at H
   cases H
 ·rw [if_neg hc_104] at H
  cases H

set_option maxHeartbeats 4000000 in
set_option maxRecDepth 20000 in
theorem hocketlaw11_MesgOwn.calls (K : Nat) (x0 : Int) (x1 : Int) (r : Unit) (w0 w : World) (Z A : Mem) (hA : A.le Z) (hS : Sep w0 w [] Z)
    (H : hocketlaw11_MesgOwn.f K x0 x1 = some r) :
    Calls Try.prog 4 [iV x0, iV x1].toArray w (Ret fun v w' => ∃ (N : Mem), v = .bool true ∧ Sep w0 w' [N] Z) := by
 unfold hocketlaw11_MesgOwn.f at H
 refine f_enter _ Try.func4 rfl Try.ntmps4 rfl fun a h=>?_
 replace h : Fr 97 a [(0, iV x0), (1, iV x1)] := h
 replace hS := hS.start
 replace hS : Sep w0 w [_] Z := hS
 refine wp_seq <| wp_region_lit <| s_assign h rfl rfl fun a h=>wpList_nil <| x_then_n <| wp_seq <| wp_region_lit <| s_move h rfl rfl fun a h=>s_move h rfl rfl fun a h=>?_
 obtain ⟨t_1, et_1, H⟩ := Option.bind_eq_some_iff.1 H
 refine s_call h rfl Try.call14 rfl (hocketlaw11_Msg.calls K x0 x1 t_1 w0 _ _ _ (Mem.le.refl _) (hS.enter [] (by decide))  et_1) ?_
 rintro _ w_2 ⟨v_5, v_9, v_13, v_17, v_19, v_21, N_3, M_7, M_11, M_15, rfl, hS', hr_6, hr_10, hr_14, hr_18, hr_20, hr_22⟩
 intro a h
 obtain ⟨N_4, hS'', le_4, ln_4⟩ := hS.call [] (by decide) rfl (l' := []) (ow := [M_7, M_11, M_15]) rfl hS'
 replace hS : Sep w0 w_2 [N_4, M_7, M_11, M_15] Z := hS''
 clear hS' hS''
 refine s_move h rfl rfl fun a h=>s_move h rfl rfl fun a h=>?_
 obtain ⟨t_23, et_23, H⟩ := Option.bind_eq_some_iff.1 H
 refine s_call h rfl Try.call14 rfl (hocketlaw11_Msg.calls K x0 x1 t_23 w0 _ _ _ (Mem.le.refl _) (hS.enter [] (by decide))  et_23) ?_
 rintro _ w_24 ⟨v_27, v_31, v_35, v_39, v_41, v_43, N_25, M_29, M_33, M_37, rfl, hS', hr_28, hr_32, hr_36, hr_40, hr_42, hr_44⟩
 intro a h
 obtain ⟨N_26, hS'', le_26, ln_26⟩ := hS.call [] (by decide) rfl (l' := []) (ow := [M_29, M_33, M_37]) rfl hS'
 replace hS : Sep w0 w_24 [N_26, _, _, _, M_29, M_33, M_37] Z := hS''
 clear hS' hS''
 refine v_alloc h rfl ti29 hS fun w_45 g_46 hS' a h => ?_
 replace hS : Sep w0 w_45 [_, _, _, _, _, _, _, Mem.one g_46 (.cells ([iV 0, iV 0, iV 0, iV 0, iV 0, iV 0, .bool false, iV 0, iV 0, iV 0, iV 0, nS, iV 0, iV 0, nS, nS, iV 0, iV 0, iV 0, iV 0, iV 0, nS, nS, nS] : List Value).toArray 29 (0, 0))] Z := hS'
 clear hS'
 refine v_alloc h rfl ti29 hS fun w_47 g_48 hS' a h => ?_
 replace hS : Sep w0 w_47 [_, _, _, _, _, _, _, _, Mem.one g_48 (.cells ([iV 0, iV 0, iV 0, iV 0, iV 0, iV 0, .bool false, iV 0, iV 0, iV 0, iV 0, nS, iV 0, iV 0, nS, nS, iV 0, iV 0, iV 0, iV 0, iV 0, nS, nS, nS] : List Value).toArray 29 (0, 0))] Z := hS'
 clear hS'
 obtain ⟨w_49, hs', hS'⟩ := hS.store (P := Try.prog) (p := 7) (o := 0) (t := 29) (v := .agg ([iV t_1.Kind, iV t_1.From, iV t_1.To, iV t_1.View, iV t_1.Inst, iV t_1.Len, .bool t_1.Has, iV t_1.Members, iV t_1.Source, iV t_1.At, iV t_1.Total, v_5, iV t_1.Hop, iV t_1.Seq, v_9, v_13, iV t_1.Index, iV t_1.Entry.Sess, iV t_1.Entry.Seq, iV t_1.Entry.Cmd.Kind, iV t_1.Entry.Cmd.Who, v_17, v_19, v_21] : List Value).toArray) (vs := [iV t_1.Kind, iV t_1.From, iV t_1.To, iV t_1.View, iV t_1.Inst, iV t_1.Len, .bool t_1.Has, iV t_1.Members, iV t_1.Source, iV t_1.At, iV t_1.Total, v_5, iV t_1.Hop, iV t_1.Seq, v_9, v_13, iV t_1.Index, iV t_1.Entry.Sess, iV t_1.Entry.Seq, iV t_1.Entry.Cmd.Kind, iV t_1.Entry.Cmd.Who, v_17, v_19, v_21]) rfl ti29 rfl rfl rfl (by intro u hu; simp only [List.mem_cons, List.not_mem_nil, or_false] at hu; rcases hu with rfl | rfl | rfl | rfl | rfl | rfl | rfl | rfl | rfl | rfl | rfl | rfl | rfl | rfl | rfl | rfl | rfl | rfl | rfl | rfl | rfl | rfl | rfl | rfl <;> first | rfl | exact hr_6.one | exact hr_10.one | exact hr_14.one | exact (hr_18.mono ln_4).one | exact (hr_20.mono ln_4).one | exact (hr_22.mono ln_4).one)
 refine s_store h rfl rfl hs' ?_
 replace hS : Sep w0 w_49 [_, _, _, _, _, _, _, Mem.one g_46 (.cells ([iV t_1.Kind, iV t_1.From, iV t_1.To, iV t_1.View, iV t_1.Inst, iV t_1.Len, .bool t_1.Has, iV t_1.Members, iV t_1.Source, iV t_1.At, iV t_1.Total, v_5, iV t_1.Hop, iV t_1.Seq, v_9, v_13, iV t_1.Index, iV t_1.Entry.Sess, iV t_1.Entry.Seq, iV t_1.Entry.Cmd.Kind, iV t_1.Entry.Cmd.Who, v_17, v_19, v_21] : List Value).toArray 29 (0, 0)), _] Z := hS'
 clear hs' hS'
 obtain ⟨w_50, hs', hS'⟩ := hS.store (P := Try.prog) (p := 8) (o := 0) (t := 29) (v := .agg ([iV t_23.Kind, iV t_23.From, iV t_23.To, iV t_23.View, iV t_23.Inst, iV t_23.Len, .bool t_23.Has, iV t_23.Members, iV t_23.Source, iV t_23.At, iV t_23.Total, v_27, iV t_23.Hop, iV t_23.Seq, v_31, v_35, iV t_23.Index, iV t_23.Entry.Sess, iV t_23.Entry.Seq, iV t_23.Entry.Cmd.Kind, iV t_23.Entry.Cmd.Who, v_39, v_41, v_43] : List Value).toArray) (vs := [iV t_23.Kind, iV t_23.From, iV t_23.To, iV t_23.View, iV t_23.Inst, iV t_23.Len, .bool t_23.Has, iV t_23.Members, iV t_23.Source, iV t_23.At, iV t_23.Total, v_27, iV t_23.Hop, iV t_23.Seq, v_31, v_35, iV t_23.Index, iV t_23.Entry.Sess, iV t_23.Entry.Seq, iV t_23.Entry.Cmd.Kind, iV t_23.Entry.Cmd.Who, v_39, v_41, v_43]) rfl ti29 rfl rfl rfl (by intro u hu; simp only [List.mem_cons, List.not_mem_nil, or_false] at hu; rcases hu with rfl | rfl | rfl | rfl | rfl | rfl | rfl | rfl | rfl | rfl | rfl | rfl | rfl | rfl | rfl | rfl | rfl | rfl | rfl | rfl | rfl | rfl | rfl | rfl <;> first | rfl | exact hr_28.one | exact hr_32.one | exact hr_36.one | exact (hr_40.mono ln_26).one | exact (hr_42.mono ln_26).one | exact (hr_44.mono ln_26).one)
 refine s_store h rfl rfl hs' ?_
 replace hS : Sep w0 w_50 [_, _, _, _, _, _, _, _, Mem.one g_48 (.cells ([iV t_23.Kind, iV t_23.From, iV t_23.To, iV t_23.View, iV t_23.Inst, iV t_23.Len, .bool t_23.Has, iV t_23.Members, iV t_23.Source, iV t_23.At, iV t_23.Total, v_27, iV t_23.Hop, iV t_23.Seq, v_31, v_35, iV t_23.Index, iV t_23.Entry.Sess, iV t_23.Entry.Seq, iV t_23.Entry.Cmd.Kind, iV t_23.Entry.Cmd.Who, v_39, v_41, v_43] : List Value).toArray 29 (0, 0))] Z := hS'
 clear hs' hS'
 refine wpList_nil <| x_then_n <| wp_seq <| wp_region_lit <| s_load h rfl rfl (hS.load_agg (p := 7) (us := [iV t_1.Kind, iV t_1.From, iV t_1.To, iV t_1.View, iV t_1.Inst, iV t_1.Len, .bool t_1.Has, iV t_1.Members, iV t_1.Source, iV t_1.At, iV t_1.Total, v_5, iV t_1.Hop, iV t_1.Seq, v_9, v_13, iV t_1.Index, iV t_1.Entry.Sess, iV t_1.Entry.Seq, iV t_1.Entry.Cmd.Kind, iV t_1.Entry.Cmd.Who, v_17, v_19, v_21]) rfl U29 rfl ti29 rfl rfl) fun a h=>?_
 obtain ⟨t_51, et_51, H⟩ := Option.bind_eq_some_iff.1 H
 refine s_call h rfl Try.call11 rfl (mesg_Encode.calls K t_1 _ _ _ _ _ _ t_51 w0 _ _ _ (Mem.le.refl _) (hS.enter [] (by decide)) (hr_6.rd (hS.own_zed [] 0 (by decide)) (Mem.no_le _)) (hr_10.rd (hS.own_zed [] 1 (by decide)) (Mem.no_le _)) (hr_14.rd (hS.own_zed [] 2 (by decide)) (Mem.no_le _)) ((hr_18.mono ln_4).mono (le_26.trans (hS.new_zed []))) ((hr_20.mono ln_4).mono (le_26.trans (hS.new_zed []))) ((hr_22.mono ln_4).mono (le_26.trans (hS.new_zed []))) et_51) ?_
 rintro v_55 w_52 ⟨_, N_53, M_57, rfl, hS', hr_56⟩
 intro a h
 obtain ⟨N_54, hS'', le_54, ln_54⟩ := hS.call [] (by decide) rfl (l' := []) (ow := [M_57]) rfl hS'
 replace hS : Sep w0 w_52 [N_54, _, _, _, _, _, _, _, _, M_57] Z := hS''
 clear hS' hS''
 refine s_assign h rfl rfl fun a h=>wpList_nil <| x_then_n <| wp_seq <| wp_region_lit <| s_move h rfl rfl fun a h=>s_b2s h rfl U23 U5 U9 rfl (hr_56.rd (J := hp w_52) (hS.own 9) (Mem.no_le _)) (Mem.le.refl _) fun a h=>s_assign h rfl rfl fun a h=>wpList_nil ?_
 replace h : Fr 97 a [(4, .bool false), (5, .pointer (some ⟨g_46, 0, none⟩)), (6, .pointer (some ⟨g_48, 0, none⟩)), (7, v_55), (8, .string ⟨t_51.toArray⟩)] := h.keep [4, 5, 6, 7, 8]
 refine x_then_n <| wp_seq <| wp_region_lit <| s_move h rfl rfl fun a h=>?_
 obtain ⟨t_59, et_59, H⟩ := Option.bind_eq_some_iff.1 H
 refine s_call h rfl Try.call12 rfl (mesg_Decode.calls K t_51 _ t_59 w0 _ _ _ (Mem.le.refl _) (hS.enter [] (by decide)) (hr_56.rd (hS.own_zed [] 8 (by decide)) (Mem.no_le _)) et_59) ?_
 rintro _ w_60 ⟨v_63, v_67, v_71, v_75, v_79, v_83, N_61, M_65, M_69, M_73, M_77, M_81, M_85, rfl, hS', hr_64, hr_68, hr_72, hr_76, hr_80, hr_84⟩
 intro a h
 obtain ⟨N_62, hS'', le_62, ln_62⟩ := hS.call [] (by decide) rfl (l' := []) (ow := [M_65, M_69, M_73, M_77, M_81, M_85]) rfl hS'
 replace hS : Sep w0 w_60 [N_62, _, _, _, _, _, _, _, _, _, M_65, M_69, M_73, M_77, M_81, M_85] Z := hS''
 clear hS' hS''
 refine s_move h rfl rfl fun a h=>s_extract h rfl rfl rfl fun a h=>s_extract h rfl rfl rfl fun a h=>v_alloc h rfl ti29 hS fun w_87 g_88 hS' a h => ?_
 replace hS : Sep w0 w_87 [_, _, _, _, _, _, _, _, _, _, _, _, _, _, _, _, Mem.one g_88 (.cells ([iV 0, iV 0, iV 0, iV 0, iV 0, iV 0, .bool false, iV 0, iV 0, iV 0, iV 0, nS, iV 0, iV 0, nS, nS, iV 0, iV 0, iV 0, iV 0, iV 0, nS, nS, nS] : List Value).toArray 29 (0, 0))] Z := hS'
 clear hS'
 obtain ⟨w_89, hs', hS'⟩ := hS.store (P := Try.prog) (p := 16) (o := 0) (t := 29) (v := .agg ([iV t_59.1.Kind, iV t_59.1.From, iV t_59.1.To, iV t_59.1.View, iV t_59.1.Inst, iV t_59.1.Len, .bool t_59.1.Has, iV t_59.1.Members, iV t_59.1.Source, iV t_59.1.At, iV t_59.1.Total, v_63, iV t_59.1.Hop, iV t_59.1.Seq, v_67, v_71, iV t_59.1.Index, iV t_59.1.Entry.Sess, iV t_59.1.Entry.Seq, iV t_59.1.Entry.Cmd.Kind, iV t_59.1.Entry.Cmd.Who, v_75, v_79, v_83] : List Value).toArray) (vs := [iV t_59.1.Kind, iV t_59.1.From, iV t_59.1.To, iV t_59.1.View, iV t_59.1.Inst, iV t_59.1.Len, .bool t_59.1.Has, iV t_59.1.Members, iV t_59.1.Source, iV t_59.1.At, iV t_59.1.Total, v_63, iV t_59.1.Hop, iV t_59.1.Seq, v_67, v_71, iV t_59.1.Index, iV t_59.1.Entry.Sess, iV t_59.1.Entry.Seq, iV t_59.1.Entry.Cmd.Kind, iV t_59.1.Entry.Cmd.Who, v_75, v_79, v_83]) rfl ti29 rfl rfl rfl (by intro u hu; simp only [List.mem_cons, List.not_mem_nil, or_false] at hu; rcases hu with rfl | rfl | rfl | rfl | rfl | rfl | rfl | rfl | rfl | rfl | rfl | rfl | rfl | rfl | rfl | rfl | rfl | rfl | rfl | rfl | rfl | rfl | rfl | rfl <;> first | rfl | exact hr_64.one | exact hr_68.one | exact hr_72.one | exact hr_76.one | exact hr_80.one | exact hr_84.one)
 refine s_store h rfl rfl hs' ?_
 replace hS : Sep w0 w_89 [_, _, _, _, _, _, _, _, _, _, _, _, _, _, _, _, Mem.one g_88 (.cells ([iV t_59.1.Kind, iV t_59.1.From, iV t_59.1.To, iV t_59.1.View, iV t_59.1.Inst, iV t_59.1.Len, .bool t_59.1.Has, iV t_59.1.Members, iV t_59.1.Source, iV t_59.1.At, iV t_59.1.Total, v_63, iV t_59.1.Hop, iV t_59.1.Seq, v_67, v_71, iV t_59.1.Index, iV t_59.1.Entry.Sess, iV t_59.1.Entry.Seq, iV t_59.1.Entry.Cmd.Kind, iV t_59.1.Entry.Cmd.Who, v_75, v_79, v_83] : List Value).toArray 29 (0, 0))] Z := hS'
 clear hs' hS'
 refine s_assign h rfl rfl fun a h=>wpList_nil <| x_then_n <| c_seq fun KJ_90 hKJ_90 => wp_seq <| wp_region_lit <| s_move h rfl rfl fun a h=>s_lenO h rfl U23 rfl hr_56 fun a h=>s_move h rfl rfl fun a h=>wpList_nil <| x_then_n ?_
 have hJ_j_93 : hocketlaw11_MesgOwn.J1 K t_59 t_1 t_23 t_51 = some r → ∀ (a : Act) (w_92 : World), (∃ (N_91 : Mem), Fr 97 a [(4, .bool false), (5, .pointer (some ⟨g_46, 0, none⟩)), (6, .pointer (some ⟨g_48, 0, none⟩)), (8, .string ⟨t_51.toArray⟩), (9, .pointer (some ⟨g_88, 0, none⟩)), (10, .bool t_59.2)] ∧ Sep w0 w_92 [N_91, M_7, M_11, M_15, M_29, M_33, M_37, Mem.one g_46 (.cells ([iV t_1.Kind, iV t_1.From, iV t_1.To, iV t_1.View, iV t_1.Inst, iV t_1.Len, .bool t_1.Has, iV t_1.Members, iV t_1.Source, iV t_1.At, iV t_1.Total, v_5, iV t_1.Hop, iV t_1.Seq, v_9, v_13, iV t_1.Index, iV t_1.Entry.Sess, iV t_1.Entry.Seq, iV t_1.Entry.Cmd.Kind, iV t_1.Entry.Cmd.Who, v_17, v_19, v_21] : List Value).toArray 29 (0, 0)), Mem.one g_48 (.cells ([iV t_23.Kind, iV t_23.From, iV t_23.To, iV t_23.View, iV t_23.Inst, iV t_23.Len, .bool t_23.Has, iV t_23.Members, iV t_23.Source, iV t_23.At, iV t_23.Total, v_27, iV t_23.Hop, iV t_23.Seq, v_31, v_35, iV t_23.Index, iV t_23.Entry.Sess, iV t_23.Entry.Seq, iV t_23.Entry.Cmd.Kind, iV t_23.Entry.Cmd.Who, v_39, v_41, v_43] : List Value).toArray 29 (0, 0)), Mem.no, M_65, M_69, M_73, M_77, M_81, M_85, Mem.one g_88 (.cells ([iV t_59.1.Kind, iV t_59.1.From, iV t_59.1.To, iV t_59.1.View, iV t_59.1.Inst, iV t_59.1.Len, .bool t_59.1.Has, iV t_59.1.Members, iV t_59.1.Source, iV t_59.1.At, iV t_59.1.Total, v_63, iV t_59.1.Hop, iV t_59.1.Seq, v_67, v_71, iV t_59.1.Index, iV t_59.1.Entry.Sess, iV t_59.1.Entry.Seq, iV t_59.1.Entry.Cmd.Kind, iV t_59.1.Entry.Cmd.Who, v_75, v_79, v_83] : List Value).toArray 29 (0, 0))] Z ∧ N_62.le N_91) → KJ_90 a w_92 := by
  clear H h hS a
  rintro H a w_92 ⟨N_91, h, hS, le_91⟩
  unfold hocketlaw11_MesgOwn.J1 at H
  refine hKJ_90 _ _ <| c_seq fun KJ_94 hKJ_94 => c_seq fun KJ_95 hKJ_95 => ?_
  have hJ_j_99 : ∀ (x_97 : Bool), hocketlaw11_MesgOwn.J2 K t_59 t_1 t_23 t_51 x_97 = some r → ∀ (a : Act) (w_98 : World), (∃ (N_96 : Mem), Fr 97 a [(4, .bool false), (5, .pointer (some ⟨g_46, 0, none⟩)), (6, .pointer (some ⟨g_48, 0, none⟩)), (8, .string ⟨t_51.toArray⟩), (9, .pointer (some ⟨g_88, 0, none⟩)), (47, .bool x_97)] ∧ Sep w0 w_98 [N_96, M_7, M_11, M_15, M_29, M_33, M_37, Mem.one g_46 (.cells ([iV t_1.Kind, iV t_1.From, iV t_1.To, iV t_1.View, iV t_1.Inst, iV t_1.Len, .bool t_1.Has, iV t_1.Members, iV t_1.Source, iV t_1.At, iV t_1.Total, v_5, iV t_1.Hop, iV t_1.Seq, v_9, v_13, iV t_1.Index, iV t_1.Entry.Sess, iV t_1.Entry.Seq, iV t_1.Entry.Cmd.Kind, iV t_1.Entry.Cmd.Who, v_17, v_19, v_21] : List Value).toArray 29 (0, 0)), Mem.one g_48 (.cells ([iV t_23.Kind, iV t_23.From, iV t_23.To, iV t_23.View, iV t_23.Inst, iV t_23.Len, .bool t_23.Has, iV t_23.Members, iV t_23.Source, iV t_23.At, iV t_23.Total, v_27, iV t_23.Hop, iV t_23.Seq, v_31, v_35, iV t_23.Index, iV t_23.Entry.Sess, iV t_23.Entry.Seq, iV t_23.Entry.Cmd.Kind, iV t_23.Entry.Cmd.Who, v_39, v_41, v_43] : List Value).toArray 29 (0, 0)), Mem.no, M_65, M_69, M_73, M_77, M_81, M_85, Mem.one g_88 (.cells ([iV t_59.1.Kind, iV t_59.1.From, iV t_59.1.To, iV t_59.1.View, iV t_59.1.Inst, iV t_59.1.Len, .bool t_59.1.Has, iV t_59.1.Members, iV t_59.1.Source, iV t_59.1.At, iV t_59.1.Total, v_63, iV t_59.1.Hop, iV t_59.1.Seq, v_67, v_71, iV t_59.1.Index, iV t_59.1.Entry.Sess, iV t_59.1.Entry.Seq, iV t_59.1.Entry.Cmd.Kind, iV t_59.1.Entry.Cmd.Who, v_75, v_79, v_83] : List Value).toArray 29 (0, 0))] Z ∧ N_91.le N_96) → KJ_95 a w_98 := by
   clear H h hS a
   rintro x_97 H a w_98 ⟨N_96, h, hS, le_96⟩
   unfold hocketlaw11_MesgOwn.J2 at H
   refine hKJ_95 _ _ ?_
   by_cases hc_100 : x_97 = true
   ·rw [if_pos hc_100] at H
    cases H
   ·rw [if_neg hc_100] at H
    refine c_cond_f h rfl (Bool.eq_false_iff.2 hc_100) <| wp_skip <| x_then_n (hKJ_94 _ _ ?_)
    refine c_seq fun KJ_101 hKJ_101 => wp_seq <| wp_region_lit <| s_fieldAddr h rfl U29 rfl ti22 rfl rfl fun a h=>s_load h rfl rfl (hS.load_one (p := 16) rfl U22 rfl rfl) fun a h=>s_lenO h rfl U22 rfl hr_68 fun a h=>s_move h rfl rfl fun a h=>wpList_nil <| x_then_n ?_
    have hJ_j_109 : ∀ (x_103 : List Int), hocketlaw11_MesgOwn.J3 K t_59 t_1 t_23 t_51 x_103 = some r → ∀ (a : Act) (w_108 : World), (∃ (v_106 : Value) (N_102 : Mem) (M_104 : Mem), Fr 97 a [(4, .bool false), (5, .pointer (some ⟨g_46, 0, none⟩)), (6, .pointer (some ⟨g_48, 0, none⟩)), (8, .string ⟨t_51.toArray⟩), (9, .pointer (some ⟨g_88, 0, none⟩))] ∧ Sep w0 w_108 [N_102, M_7, M_11, M_15, M_29, M_33, M_37, Mem.one g_46 (.cells ([iV t_1.Kind, iV t_1.From, iV t_1.To, iV t_1.View, iV t_1.Inst, iV t_1.Len, .bool t_1.Has, iV t_1.Members, iV t_1.Source, iV t_1.At, iV t_1.Total, v_5, iV t_1.Hop, iV t_1.Seq, v_9, v_13, iV t_1.Index, iV t_1.Entry.Sess, iV t_1.Entry.Seq, iV t_1.Entry.Cmd.Kind, iV t_1.Entry.Cmd.Who, v_17, v_19, v_21] : List Value).toArray 29 (0, 0)), Mem.one g_48 (.cells ([iV t_23.Kind, iV t_23.From, iV t_23.To, iV t_23.View, iV t_23.Inst, iV t_23.Len, .bool t_23.Has, iV t_23.Members, iV t_23.Source, iV t_23.At, iV t_23.Total, v_27, iV t_23.Hop, iV t_23.Seq, v_31, v_35, iV t_23.Index, iV t_23.Entry.Sess, iV t_23.Entry.Seq, iV t_23.Entry.Cmd.Kind, iV t_23.Entry.Cmd.Who, v_39, v_41, v_43] : List Value).toArray 29 (0, 0)), Mem.no, M_65, M_104, M_73, M_77, M_81, M_85, Mem.one g_88 (.cells ([iV t_59.1.Kind, iV t_59.1.From, iV t_59.1.To, iV t_59.1.View, iV t_59.1.Inst, iV t_59.1.Len, .bool t_59.1.Has, iV t_59.1.Members, iV t_59.1.Source, iV t_59.1.At, iV t_59.1.Total, v_63, iV t_59.1.Hop, iV t_59.1.Seq, v_106, v_71, iV t_59.1.Index, iV t_59.1.Entry.Sess, iV t_59.1.Entry.Seq, iV t_59.1.Entry.Cmd.Kind, iV t_59.1.Entry.Cmd.Who, v_75, v_79, v_83] : List Value).toArray 29 (0, 0))] Z ∧ N_96.le N_102 ∧ Own (Kd.int .i64) 3 M_104 Mem.no v_106 x_103) → KJ_101 a w_108 := by
     clear H h hS a
     rintro x_103 H a w_108 ⟨v_106, N_102, M_104, h, hS, le_102, ho_107⟩
     unfold hocketlaw11_MesgOwn.J3 at H
     refine hKJ_101 _ _ <| c_seq fun KJ_110 hKJ_110 => wp_seq <| wp_region_lit <| s_fieldAddr h rfl U29 rfl ti22 rfl rfl fun a h=>s_load h rfl rfl (hS.load_one (p := 16) rfl U22 rfl rfl) fun a h=>s_lenO h rfl U22 rfl hr_72 fun a h=>s_move h rfl rfl fun a h=>wpList_nil ?_
     replace h : Fr 97 a [(4, _), (5, _), (6, _), (8, _), (9, _), (61, iV (t_59.1.Need.length : Int)), (62, iV 0)] := h.keep [4, 5, 6, 8, 9, 61, 62]
     refine x_then_n ?_
     have hJ_j_118 : ∀ (x_112 : List Int), hocketlaw11_MesgOwn.J4 K t_59 t_1 t_23 t_51 x_112 = some r → ∀ (a : Act) (w_117 : World), (∃ (v_115 : Value) (N_111 : Mem) (M_113 : Mem), Fr 97 a [(4, .bool false), (5, .pointer (some ⟨g_46, 0, none⟩)), (6, .pointer (some ⟨g_48, 0, none⟩)), (8, .string ⟨t_51.toArray⟩), (9, .pointer (some ⟨g_88, 0, none⟩))] ∧ Sep w0 w_117 [N_111, M_7, M_11, M_15, M_29, M_33, M_37, Mem.one g_46 (.cells ([iV t_1.Kind, iV t_1.From, iV t_1.To, iV t_1.View, iV t_1.Inst, iV t_1.Len, .bool t_1.Has, iV t_1.Members, iV t_1.Source, iV t_1.At, iV t_1.Total, v_5, iV t_1.Hop, iV t_1.Seq, v_9, v_13, iV t_1.Index, iV t_1.Entry.Sess, iV t_1.Entry.Seq, iV t_1.Entry.Cmd.Kind, iV t_1.Entry.Cmd.Who, v_17, v_19, v_21] : List Value).toArray 29 (0, 0)), Mem.one g_48 (.cells ([iV t_23.Kind, iV t_23.From, iV t_23.To, iV t_23.View, iV t_23.Inst, iV t_23.Len, .bool t_23.Has, iV t_23.Members, iV t_23.Source, iV t_23.At, iV t_23.Total, v_27, iV t_23.Hop, iV t_23.Seq, v_31, v_35, iV t_23.Index, iV t_23.Entry.Sess, iV t_23.Entry.Seq, iV t_23.Entry.Cmd.Kind, iV t_23.Entry.Cmd.Who, v_39, v_41, v_43] : List Value).toArray 29 (0, 0)), Mem.no, M_65, M_104, M_113, M_77, M_81, M_85, Mem.one g_88 (.cells ([iV t_59.1.Kind, iV t_59.1.From, iV t_59.1.To, iV t_59.1.View, iV t_59.1.Inst, iV t_59.1.Len, .bool t_59.1.Has, iV t_59.1.Members, iV t_59.1.Source, iV t_59.1.At, iV t_59.1.Total, v_63, iV t_59.1.Hop, iV t_59.1.Seq, v_106, v_115, iV t_59.1.Index, iV t_59.1.Entry.Sess, iV t_59.1.Entry.Seq, iV t_59.1.Entry.Cmd.Kind, iV t_59.1.Entry.Cmd.Who, v_75, v_79, v_83] : List Value).toArray 29 (0, 0))] Z ∧ N_102.le N_111 ∧ Own (Kd.int .i64) 3 M_113 Mem.no v_115 x_112) → KJ_110 a w_117 := by
      clear H h hS a
      rintro x_112 H a w_117 ⟨v_115, N_111, M_113, h, hS, le_111, ho_116⟩
      unfold hocketlaw11_MesgOwn.J4 at H
      refine hKJ_110 _ _ <| c_seq fun KJ_119 hKJ_119 => wp_seq <| wp_region_lit <| s_fieldAddr h rfl U29 rfl ti23 rfl rfl fun a h=>s_load h rfl rfl (hS.load_one (p := 16) rfl U23 rfl rfl) fun a h=>s_lenO h rfl U23 rfl hr_64 fun a h=>s_move h rfl rfl fun a h=>wpList_nil <| x_then_n ?_
      have hJ_j_122 : hocketlaw11_MesgOwn.J5 K t_1 t_23 t_51 = some r → ∀ (a : Act) (w_121 : World), (∃ (N_120 : Mem), Fr 97 a [(4, .bool false), (5, .pointer (some ⟨g_46, 0, none⟩)), (6, .pointer (some ⟨g_48, 0, none⟩)), (8, .string ⟨t_51.toArray⟩)] ∧ Sep w0 w_121 [N_120, M_7, M_11, M_15, M_29, M_33, M_37, Mem.one g_46 (.cells ([iV t_1.Kind, iV t_1.From, iV t_1.To, iV t_1.View, iV t_1.Inst, iV t_1.Len, .bool t_1.Has, iV t_1.Members, iV t_1.Source, iV t_1.At, iV t_1.Total, v_5, iV t_1.Hop, iV t_1.Seq, v_9, v_13, iV t_1.Index, iV t_1.Entry.Sess, iV t_1.Entry.Seq, iV t_1.Entry.Cmd.Kind, iV t_1.Entry.Cmd.Who, v_17, v_19, v_21] : List Value).toArray 29 (0, 0)), Mem.one g_48 (.cells ([iV t_23.Kind, iV t_23.From, iV t_23.To, iV t_23.View, iV t_23.Inst, iV t_23.Len, .bool t_23.Has, iV t_23.Members, iV t_23.Source, iV t_23.At, iV t_23.Total, v_27, iV t_23.Hop, iV t_23.Seq, v_31, v_35, iV t_23.Index, iV t_23.Entry.Sess, iV t_23.Entry.Seq, iV t_23.Entry.Cmd.Kind, iV t_23.Entry.Cmd.Who, v_39, v_41, v_43] : List Value).toArray 29 (0, 0)), Mem.no, Mem.no, Mem.no, Mem.no, Mem.no, Mem.no, Mem.no, Mem.no] Z ∧ N_111.le N_120) → KJ_119 a w_121 := by
       clear H h hS a
       rintro H a w_121 ⟨N_120, h, hS, le_120⟩
       unfold hocketlaw11_MesgOwn.J5 at H
       refine hKJ_119 _ _ <| c_seq fun KJ_123 hKJ_123 => ?_
       replace hS : Sep w0 w_121 [N_120, M_7, M_11, M_15, M_29, M_33, M_37, Mem.one g_46 (.cells ([iV t_1.Kind, iV t_1.From, iV t_1.To, iV t_1.View, iV t_1.Inst, iV t_1.Len, .bool t_1.Has, iV t_1.Members, iV t_1.Source, iV t_1.At, iV t_1.Total, v_5, iV t_1.Hop, iV t_1.Seq, v_9, v_13, iV t_1.Index, iV t_1.Entry.Sess, iV t_1.Entry.Seq, iV t_1.Entry.Cmd.Kind, iV t_1.Entry.Cmd.Who, v_17, v_19, v_21] : List Value).toArray 29 (0, 0)), Mem.one g_48 (.cells ([iV t_23.Kind, iV t_23.From, iV t_23.To, iV t_23.View, iV t_23.Inst, iV t_23.Len, .bool t_23.Has, iV t_23.Members, iV t_23.Source, iV t_23.At, iV t_23.Total, v_27, iV t_23.Hop, iV t_23.Seq, v_31, v_35, iV t_23.Index, iV t_23.Entry.Sess, iV t_23.Entry.Seq, iV t_23.Entry.Cmd.Kind, iV t_23.Entry.Cmd.Who, v_39, v_41, v_43] : List Value).toArray 29 (0, 0))] Z := hS.sel [0, 1, 2, 3, 4, 5, 6, 7, 8] (by decide)
       refine wp_region_lit <| s_load h rfl rfl (hS.load_agg (p := 7) (us := [iV t_1.Kind, iV t_1.From, iV t_1.To, iV t_1.View, iV t_1.Inst, iV t_1.Len, .bool t_1.Has, iV t_1.Members, iV t_1.Source, iV t_1.At, iV t_1.Total, v_5, iV t_1.Hop, iV t_1.Seq, v_9, v_13, iV t_1.Index, iV t_1.Entry.Sess, iV t_1.Entry.Seq, iV t_1.Entry.Cmd.Kind, iV t_1.Entry.Cmd.Who, v_17, v_19, v_21]) rfl U29 rfl ti29 rfl rfl) fun a h=>s_load h rfl rfl (hS.load_agg (p := 8) (us := [iV t_23.Kind, iV t_23.From, iV t_23.To, iV t_23.View, iV t_23.Inst, iV t_23.Len, .bool t_23.Has, iV t_23.Members, iV t_23.Source, iV t_23.At, iV t_23.Total, v_27, iV t_23.Hop, iV t_23.Seq, v_31, v_35, iV t_23.Index, iV t_23.Entry.Sess, iV t_23.Entry.Seq, iV t_23.Entry.Cmd.Kind, iV t_23.Entry.Cmd.Who, v_39, v_41, v_43]) rfl U29 rfl ti29 rfl rfl) fun a h=>?_
       obtain ⟨t_124, et_124, H⟩ := Option.bind_eq_some_iff.1 H
       refine s_call h rfl Try.call15 rfl (hocketref11_Same.calls K t_1 _ _ _ _ _ _ t_23 _ _ _ _ _ _ t_124 w0 _ _ _ (Mem.le.refl _) (hS.enter [] (by decide)) (hr_6.rd (hS.own_zed [] 0 (by decide)) (Mem.no_le _)) (hr_10.rd (hS.own_zed [] 1 (by decide)) (Mem.no_le _)) (hr_14.rd (hS.own_zed [] 2 (by decide)) (Mem.no_le _)) ((hr_18.mono ln_4).mono ((le_26.trans (le_54.trans (le_62.trans (le_91.trans (le_96.trans (le_102.trans (le_111.trans le_120))))))).trans (hS.new_zed []))) ((hr_20.mono ln_4).mono ((le_26.trans (le_54.trans (le_62.trans (le_91.trans (le_96.trans (le_102.trans (le_111.trans le_120))))))).trans (hS.new_zed []))) ((hr_22.mono ln_4).mono ((le_26.trans (le_54.trans (le_62.trans (le_91.trans (le_96.trans (le_102.trans (le_111.trans le_120))))))).trans (hS.new_zed []))) (hr_28.rd (hS.own_zed [] 3 (by decide)) (Mem.no_le _)) (hr_32.rd (hS.own_zed [] 4 (by decide)) (Mem.no_le _)) (hr_36.rd (hS.own_zed [] 5 (by decide)) (Mem.no_le _)) ((hr_40.mono ln_26).mono ((le_54.trans (le_62.trans (le_91.trans (le_96.trans (le_102.trans (le_111.trans le_120)))))).trans (hS.new_zed []))) ((hr_42.mono ln_26).mono ((le_54.trans (le_62.trans (le_91.trans (le_96.trans (le_102.trans (le_111.trans le_120)))))).trans (hS.new_zed []))) ((hr_44.mono ln_26).mono ((le_54.trans (le_62.trans (le_91.trans (le_96.trans (le_102.trans (le_111.trans le_120)))))).trans (hS.new_zed []))) et_124) ?_
       rintro _ w_125 ⟨N_126, rfl, hS'⟩
       intro a h
       obtain ⟨N_127, hS'', le_127, ln_127⟩ := hS.call [] (by decide) rfl (l' := []) (ow := []) rfl hS'
       replace hS : Sep w0 w_125 [N_127, _, _, _, _, _, _, _, _] Z := hS''
       clear hS' hS''
       refine s_move h rfl rfl fun a h=>?_
       by_cases hc_128 : t_124 = true
       ·rw [if_pos hc_128] at H
        refine s_on h rfl rfl hc_128 <| s_load h rfl rfl (hS.load_agg (p := 7) (us := [iV t_1.Kind, iV t_1.From, iV t_1.To, iV t_1.View, iV t_1.Inst, iV t_1.Len, .bool t_1.Has, iV t_1.Members, iV t_1.Source, iV t_1.At, iV t_1.Total, v_5, iV t_1.Hop, iV t_1.Seq, v_9, v_13, iV t_1.Index, iV t_1.Entry.Sess, iV t_1.Entry.Seq, iV t_1.Entry.Cmd.Kind, iV t_1.Entry.Cmd.Who, v_17, v_19, v_21]) rfl U29 rfl ti29 rfl rfl) fun a h=>s_on h rfl rfl hc_128 ?_
        obtain ⟨t_129, et_129, H⟩ := Option.bind_eq_some_iff.1 H
        refine s_call h rfl Try.call11 rfl (mesg_Encode.calls K t_1 _ _ _ _ _ _ t_129 w0 _ _ _ (Mem.le.refl _) (hS.enter [] (by decide)) (hr_6.rd (hS.own_zed [] 0 (by decide)) (Mem.no_le _)) (hr_10.rd (hS.own_zed [] 1 (by decide)) (Mem.no_le _)) (hr_14.rd (hS.own_zed [] 2 (by decide)) (Mem.no_le _)) ((hr_18.mono ln_4).mono ((le_26.trans (le_54.trans (le_62.trans (le_91.trans (le_96.trans (le_102.trans (le_111.trans (le_120.trans le_127)))))))).trans (hS.new_zed []))) ((hr_20.mono ln_4).mono ((le_26.trans (le_54.trans (le_62.trans (le_91.trans (le_96.trans (le_102.trans (le_111.trans (le_120.trans le_127)))))))).trans (hS.new_zed []))) ((hr_22.mono ln_4).mono ((le_26.trans (le_54.trans (le_62.trans (le_91.trans (le_96.trans (le_102.trans (le_111.trans (le_120.trans le_127)))))))).trans (hS.new_zed []))) et_129) ?_
        rintro v_133 w_130 ⟨_, N_131, M_135, rfl, hS', hr_134⟩
        intro a h
        obtain ⟨N_132, hS'', le_132, ln_132⟩ := hS.call [] (by decide) rfl (l' := []) (ow := [M_135]) rfl hS'
        replace hS : Sep w0 w_130 [N_132, _, _, _, _, _, _, _, _, M_135] Z := hS''
        clear hS' hS''
        refine s_on h rfl rfl hc_128 <| s_b2s h rfl U23 U5 U9 rfl (hr_134.rd (J := hp w_130) (hS.own 9) (Mem.no_le _)) (Mem.le.refl _) fun a h=>s_on h rfl rfl hc_128 <| s_move h rfl rfl fun a h=>s_on h rfl rfl hc_128 <| s_strEq (b := (t_129 == t_51)) h rfl rfl rfl (.inl ⟨rfl, rfl⟩) fun a h=>s_pick_t h rfl rfl hc_128 rfl fun a h=>s_move h rfl rfl fun a h=>?_
        by_cases hc_137 : t_129 = t_51
        ·rw [if_pos hc_137] at H
         refine s_on h rfl rfl (beq_iff_eq.2 hc_137) ?_
         obtain ⟨t_138, et_138, H⟩ := Option.bind_eq_some_iff.1 H
         refine s_call h rfl Try.call13 rfl (hocketlaw11_awake.calls K  t_138 w0 _ _ _ (Mem.le.refl _) (hS.enter [] (by decide))  et_138) ?_
         rintro _ w_139 ⟨N_140, rfl, hS'⟩
         intro a h
         obtain ⟨N_141, hS'', le_141, ln_141⟩ := hS.call [] (by decide) rfl (l' := []) (ow := []) rfl hS'
         replace hS : Sep w0 w_139 [N_141, _, _, _, _, _, _, _, _, _] Z := hS''
         clear hS' hS''
         refine s_pick_t h rfl rfl (beq_iff_eq.2 hc_137) rfl fun a h=>s_assign h rfl rfl fun a h=>wpList_nil <| x_then_n (hKJ_123 _ _ ?_)
         refine wp_ret ?_
         exact f_ret h (rs := [.tmp 4]) rfl (.tmp rfl .nil) ⟨_, rfl, N_141, rfl, (Sep.sel hS [0] (by decide))⟩
        ·rw [if_neg hc_137] at H
         cases H
       ·rw [if_neg hc_128] at H
        cases H
      clear hKJ_119
      replace hS : Sep w0 w_117 [_, _, _, _, _, _, _, _, _, _, _, _, _, _, _, _, _] Z := hS
      replace h : Fr 97 a [(4, _), (5, _), (6, _), (8, _), (9, _), (72, iV (t_59.1.Data.length : Int)), (73, iV 0)] := h.keep [4, 5, 6, 8, 9, 72, 73]
      refine c_block <| c_loop (fun k_149 a w_149 => ∃ (x_143 : Int) (x_144 : List UInt8) (v_147 : Value) (N_142 : Mem) (M_145 : Mem), hocketlaw11_MesgOwn.L1 K t_59 (fun v => hocketlaw11_MesgOwn.J5 K t_1 t_23 t_51) k_149 (x_143, x_144) = some r ∧ Fr 97 a [(4, .bool false), (5, .pointer (some ⟨g_46, 0, none⟩)), (6, .pointer (some ⟨g_48, 0, none⟩)), (8, .string ⟨t_51.toArray⟩), (9, .pointer (some ⟨g_88, 0, none⟩)), (72, iV (t_59.1.Data.length : Int)), (73, iV x_143)] ∧ Sep w0 w_149 [N_142, M_7, M_11, M_15, M_29, M_33, M_37, Mem.one g_46 (.cells ([iV t_1.Kind, iV t_1.From, iV t_1.To, iV t_1.View, iV t_1.Inst, iV t_1.Len, .bool t_1.Has, iV t_1.Members, iV t_1.Source, iV t_1.At, iV t_1.Total, v_5, iV t_1.Hop, iV t_1.Seq, v_9, v_13, iV t_1.Index, iV t_1.Entry.Sess, iV t_1.Entry.Seq, iV t_1.Entry.Cmd.Kind, iV t_1.Entry.Cmd.Who, v_17, v_19, v_21] : List Value).toArray 29 (0, 0)), Mem.one g_48 (.cells ([iV t_23.Kind, iV t_23.From, iV t_23.To, iV t_23.View, iV t_23.Inst, iV t_23.Len, .bool t_23.Has, iV t_23.Members, iV t_23.Source, iV t_23.At, iV t_23.Total, v_27, iV t_23.Hop, iV t_23.Seq, v_31, v_35, iV t_23.Index, iV t_23.Entry.Sess, iV t_23.Entry.Seq, iV t_23.Entry.Cmd.Kind, iV t_23.Entry.Cmd.Who, v_39, v_41, v_43] : List Value).toArray 29 (0, 0)), Mem.no, M_145, M_104, M_113, M_77, M_81, M_85, Mem.one g_88 (.cells ([iV t_59.1.Kind, iV t_59.1.From, iV t_59.1.To, iV t_59.1.View, iV t_59.1.Inst, iV t_59.1.Len, .bool t_59.1.Has, iV t_59.1.Members, iV t_59.1.Source, iV t_59.1.At, iV t_59.1.Total, v_147, iV t_59.1.Hop, iV t_59.1.Seq, v_106, v_115, iV t_59.1.Index, iV t_59.1.Entry.Sess, iV t_59.1.Entry.Seq, iV t_59.1.Entry.Cmd.Kind, iV t_59.1.Entry.Cmd.Who, v_75, v_79, v_83] : List Value).toArray 29 (0, 0))] Z ∧ N_111.le N_142 ∧ Own Kd.u8 5 M_145 Mem.no v_147 x_144) K ⟨0, t_59.1.Data, v_63, N_111, M_65, H, h, (Sep.sel hS [0, 1, 2, 3, 4, 5, 6, 7, 8, 1008, 10, 11, 12, 13, 14, 15, 16] (by decide)), (Mem.le.refl _), hr_64⟩ (fun a w h => by obtain ⟨_, _, _, _, _, H, _⟩ := h; cases (show (none : Option (Unit)) = some r from H)) ?_
      clear h hS a H
      rintro k_149 a w_149 KL_149 hKL_149 ⟨x_143, x_144, v_147, N_142, M_145, H, h, hS, le_142, ho_148⟩
      replace H : hocketlaw11_MesgOwn.B1 K t_59 (fun v => hocketlaw11_MesgOwn.J5 K t_1 t_23 t_51) (hocketlaw11_MesgOwn.L1 K t_59 (fun v => hocketlaw11_MesgOwn.J5 K t_1 t_23 t_51) k_149) x_143 x_144 = some r := H
      unfold hocketlaw11_MesgOwn.B1 at H
      refine wp_seq <| wp_region_lit <| s_cmp (b := decide (x_143 < (t_59.1.Data.length : Int))) h rfl rfl rfl (.inr (.inr (.inl ⟨rfl, rfl⟩))) fun a h=>wpList_nil <| x_then_n <| c_seq fun KJ_151 hKJ_151 => ?_
      by_cases hc_152 : x_143 < (t_59.1.Data.length : Int)
      ·rw [if_pos hc_152] at H
       refine c_cond_t h rfl (decide_eq_true hc_152) <| wp_skip <| x_then_n (hKJ_151 _ _ ?_)
       refine wp_seq <| c_block <| wp_seq <| wp_region_lit <| s_move h rfl rfl fun a h=>s_assign h rfl rfl fun a h=>wpList_nil <| x_then_n <| wp_region_lit <| s_fieldAddr h rfl U29 rfl ti23 rfl rfl fun a h=>s_load h rfl rfl (hS.load_one (p := 16) rfl U23 rfl rfl) fun a h=>s_move h rfl rfl fun a h=>?_
       obtain ⟨t_153, et_153, H⟩ := Option.bind_eq_some_iff.1 H
       refine v_indexO h rfl U23 ti5 rfl rfl rfl ho_148 (hS.own 10) et_153 fun ad_154 cs_155 hk_156 hc_157 => ?_
       obtain rfl := (show cs_155 = [.int .u8 (t_153.toNat : Int)] from hk_156)
       intro a h
       refine s_load h rfl rfl (el_one (o := 0) hc_157 U5 rfl rfl) fun a h=>s_arith (r := ((toU8 ((t_153.toNat : Int) + ((1 : UInt8).toNat : Int))).toNat : Int)) h rfl rfl rfl (.inl ⟨rfl, (wrap_u8 _).symm⟩) fun a h=>?_
       obtain ⟨t_158, et_158, H⟩ := Option.bind_eq_some_iff.1 H
       refine s_indexOwn h rfl U23 ti5 rfl rfl rfl ho_148 et_158 fun g_159 cur_160 hM_161 a h => ?_
       obtain ⟨w_162, M_163, hs', hS', ho_164⟩ := Own.stored (P := Try.prog) (p := 10) (t := 5) (o := 0) (nv := .int .u8 ((toU8 ((t_153.toNat : Int) + ((1 : UInt8).toNat : Int))).toNat : Int)) (vs := [.int .u8 ((toU8 ((t_153.toNat : Int) + ((1 : UInt8).toNat : Int))).toNat : Int)]) (u' := toU8 ((t_153.toNat : Int) + ((1 : UInt8).toNat : Int))) hS rfl ho_148 hM_161 et_158 ti5 rfl rfl rfl (by intro u hu; simp only [List.mem_cons, List.not_mem_nil, or_false] at hu; rcases hu with rfl <;> rfl) (fun cs hk => by obtain rfl := (show cs = [_] from hk); rfl)
       refine s_store h rfl rfl hs' ?_
       replace hS : Sep w0 w_162 [_, _, _, _, _, _, _, _, _, _, M_163, _, _, _, _, _, _] Z := hS'
       clear hs' hS'
       refine wpList_nil ?_
       replace h : Fr 97 a [(4, _), (5, _), (6, _), (8, _), (9, _), (72, _), (73, _)] := h.keep [4, 5, 6, 8, 9, 72, 73]
       refine x_block_n <| x_then_n <| wp_region_lit <| s_arith (r := w64 (x_143 + 1)) h rfl rfl rfl (.inl ⟨rfl, rfl⟩) fun a h=>s_move h rfl rfl fun a h=>wpList_nil <| x_then_n (hKL_149 _ _ ?_)
       replace hS : Sep w0 w_162 [_, _, _, _, _, _, _, _, _, _, _, _, _, _, _, _, _] Z := hS
       replace h : Fr 97 a [(4, _), (5, _), (6, _), (8, _), (9, _), (72, _), (73, iV (w64 (x_143 + 1)))] := h.keep [4, 5, 6, 8, 9, 72, 73]
       exact ⟨w64 (x_143 + 1), (x_144.set (x_143).toNat (toU8 ((t_153.toNat : Int) + ((1 : UInt8).toNat : Int)))), v_147, N_142, M_163, H, h, (Sep.sel hS [0, 1, 2, 3, 4, 5, 6, 7, 8, 1008, 10, 11, 12, 13, 14, 15, 16] (by decide)), le_142, ho_164⟩
      ·rw [if_neg hc_152] at H
       refine c_cond_f h rfl (decide_eq_false hc_152) <| wp_exit (x_then_x (x_then_x (x_block_t ?_)))
       replace hS : Sep w0 w_149 [_, _, _, _, _, _, _, _, _, _, _, _, _, _, _, _, _] Z := hS
       replace h : Fr 97 a [(4, _), (5, _), (6, _), (8, _)] := h.keep [4, 5, 6, 8]
       exact x_then_n (hJ_j_122  H _ _ ⟨N_142, h, (Sep.sel hS [0, 1, 2, 3, 4, 5, 6, 7, 8, 1008, 1009, 1010, 1011, 1012, 1013, 1014, 1015] (by decide)), le_142⟩)
     clear hKJ_110
     replace hS : Sep w0 w_108 [_, _, _, _, _, _, _, _, _, _, _, _, _, _, _, _, _] Z := hS
     replace h : Fr 97 a [(4, _), (5, _), (6, _), (8, _), (9, _), (61, _), (62, _)] := h.keep [4, 5, 6, 8, 9, 61, 62]
     refine c_block <| c_loop (fun k_172 a w_172 => ∃ (x_166 : Int) (x_167 : List Int) (v_170 : Value) (N_165 : Mem) (M_168 : Mem), hocketlaw11_MesgOwn.L2 K t_59 (fun v => hocketlaw11_MesgOwn.J4 K t_59 t_1 t_23 t_51 v) k_172 (x_166, x_167) = some r ∧ Fr 97 a [(4, .bool false), (5, .pointer (some ⟨g_46, 0, none⟩)), (6, .pointer (some ⟨g_48, 0, none⟩)), (8, .string ⟨t_51.toArray⟩), (9, .pointer (some ⟨g_88, 0, none⟩)), (61, iV (t_59.1.Need.length : Int)), (62, iV x_166)] ∧ Sep w0 w_172 [N_165, M_7, M_11, M_15, M_29, M_33, M_37, Mem.one g_46 (.cells ([iV t_1.Kind, iV t_1.From, iV t_1.To, iV t_1.View, iV t_1.Inst, iV t_1.Len, .bool t_1.Has, iV t_1.Members, iV t_1.Source, iV t_1.At, iV t_1.Total, v_5, iV t_1.Hop, iV t_1.Seq, v_9, v_13, iV t_1.Index, iV t_1.Entry.Sess, iV t_1.Entry.Seq, iV t_1.Entry.Cmd.Kind, iV t_1.Entry.Cmd.Who, v_17, v_19, v_21] : List Value).toArray 29 (0, 0)), Mem.one g_48 (.cells ([iV t_23.Kind, iV t_23.From, iV t_23.To, iV t_23.View, iV t_23.Inst, iV t_23.Len, .bool t_23.Has, iV t_23.Members, iV t_23.Source, iV t_23.At, iV t_23.Total, v_27, iV t_23.Hop, iV t_23.Seq, v_31, v_35, iV t_23.Index, iV t_23.Entry.Sess, iV t_23.Entry.Seq, iV t_23.Entry.Cmd.Kind, iV t_23.Entry.Cmd.Who, v_39, v_41, v_43] : List Value).toArray 29 (0, 0)), Mem.no, M_65, M_104, M_168, M_77, M_81, M_85, Mem.one g_88 (.cells ([iV t_59.1.Kind, iV t_59.1.From, iV t_59.1.To, iV t_59.1.View, iV t_59.1.Inst, iV t_59.1.Len, .bool t_59.1.Has, iV t_59.1.Members, iV t_59.1.Source, iV t_59.1.At, iV t_59.1.Total, v_63, iV t_59.1.Hop, iV t_59.1.Seq, v_106, v_170, iV t_59.1.Index, iV t_59.1.Entry.Sess, iV t_59.1.Entry.Seq, iV t_59.1.Entry.Cmd.Kind, iV t_59.1.Entry.Cmd.Who, v_75, v_79, v_83] : List Value).toArray 29 (0, 0))] Z ∧ N_102.le N_165 ∧ Own (Kd.int .i64) 3 M_168 Mem.no v_170 x_167) K ⟨0, t_59.1.Need, v_71, N_102, M_73, H, h, (Sep.sel hS [0, 1, 2, 3, 4, 5, 6, 7, 8, 1008, 10, 11, 12, 13, 14, 15, 16] (by decide)), (Mem.le.refl _), hr_72⟩ (fun a w h => by obtain ⟨_, _, _, _, _, H, _⟩ := h; cases (show (none : Option (Unit)) = some r from H)) ?_
     clear h hS a H
     rintro k_172 a w_172 KL_172 hKL_172 ⟨x_166, x_167, v_170, N_165, M_168, H, h, hS, le_165, ho_171⟩
     replace H : hocketlaw11_MesgOwn.B2 K t_59 (fun v => hocketlaw11_MesgOwn.J4 K t_59 t_1 t_23 t_51 v) (hocketlaw11_MesgOwn.L2 K t_59 (fun v => hocketlaw11_MesgOwn.J4 K t_59 t_1 t_23 t_51 v) k_172) x_166 x_167 = some r := H
     unfold hocketlaw11_MesgOwn.B2 at H
     refine wp_seq <| wp_region_lit <| s_cmp (b := decide (x_166 < (t_59.1.Need.length : Int))) h rfl rfl rfl (.inr (.inr (.inl ⟨rfl, rfl⟩))) fun a h=>wpList_nil <| x_then_n <| c_seq fun KJ_174 hKJ_174 => ?_
     by_cases hc_175 : x_166 < (t_59.1.Need.length : Int)
     ·rw [if_pos hc_175] at H
      refine c_cond_t h rfl (decide_eq_true hc_175) <| wp_skip <| x_then_n (hKJ_174 _ _ ?_)
      refine wp_seq <| c_block <| wp_seq <| wp_region_lit <| s_move h rfl rfl fun a h=>s_assign h rfl rfl fun a h=>wpList_nil <| x_then_n <| wp_region_lit <| s_fieldAddr h rfl U29 rfl ti22 rfl rfl fun a h=>s_load h rfl rfl (hS.load_one (p := 16) rfl U22 rfl rfl) fun a h=>s_move h rfl rfl fun a h=>?_
      obtain ⟨t_176, et_176, H⟩ := Option.bind_eq_some_iff.1 H
      refine s_indexOwn h rfl U22 ti3 rfl rfl rfl ho_171 et_176 fun g_177 cur_178 hM_179 a h => ?_
      obtain ⟨w_180, M_181, hs', hS', ho_182⟩ := Own.stored (P := Try.prog) (p := 12) (t := 3) (o := 0) (nv := iV 77) (vs := [iV 77]) (u' := 77) hS rfl ho_171 hM_179 et_176 ti3 rfl rfl rfl (by intro u hu; simp only [List.mem_cons, List.not_mem_nil, or_false] at hu; rcases hu with rfl <;> rfl) (fun cs hk => by obtain rfl := (show cs = [_] from hk); rfl)
      refine s_store h rfl rfl hs' ?_
      replace hS : Sep w0 w_180 [_, _, _, _, _, _, _, _, _, _, _, _, M_181, _, _, _, _] Z := hS'
      clear hs' hS'
      refine wpList_nil <| x_block_n <| x_then_n <| wp_region_lit <| s_arith (r := w64 (x_166 + 1)) h rfl rfl rfl (.inl ⟨rfl, rfl⟩) fun a h=>s_move h rfl rfl fun a h=>wpList_nil ?_
      replace h : Fr 97 a [(4, _), (5, _), (6, _), (8, _), (9, _), (61, _), (62, iV (w64 (x_166 + 1)))] := h.keep [4, 5, 6, 8, 9, 61, 62]
      refine x_then_n (hKL_172 _ _ ?_)
      replace hS : Sep w0 w_180 [_, _, _, _, _, _, _, _, _, _, _, _, _, _, _, _, _] Z := hS
      replace h : Fr 97 a [(4, _), (5, _), (6, _), (8, _), (9, _), (61, _), (62, _)] := h.keep [4, 5, 6, 8, 9, 61, 62]
      exact ⟨w64 (x_166 + 1), (x_167.set (x_166).toNat 77), v_170, N_165, M_181, H, h, (Sep.sel hS [0, 1, 2, 3, 4, 5, 6, 7, 8, 1008, 10, 11, 12, 13, 14, 15, 16] (by decide)), le_165, ho_182⟩
     ·rw [if_neg hc_175] at H
      refine c_cond_f h rfl (decide_eq_false hc_175) <| wp_exit (x_then_x (x_then_x (x_block_t ?_)))
      replace hS : Sep w0 w_172 [_, _, _, _, _, _, _, _, _, _, _, _, _, _, _, _, _] Z := hS
      replace h : Fr 97 a [(4, _), (5, _), (6, _), (8, _), (9, _)] := h.keep [4, 5, 6, 8, 9]
      exact x_then_n (hJ_j_118 x_167 H _ _ ⟨v_170, N_165, M_168, h, (Sep.sel hS [0, 1, 2, 3, 4, 5, 6, 7, 8, 1008, 10, 11, 12, 13, 14, 15, 16] (by decide)), le_165, ho_171⟩)
    clear hKJ_101
    replace hS : Sep w0 w_98 [_, _, _, _, _, _, _, _, _, _, _, _, _, _, _, _, _] Z := hS
    replace h : Fr 97 a [(4, _), (5, _), (6, _), (8, _), (9, _), (50, iV (t_59.1.Have.length : Int)), (51, iV 0)] := h.keep [4, 5, 6, 8, 9, 50, 51]
    refine c_block <| c_loop (fun k_190 a w_190 => ∃ (x_184 : Int) (x_185 : List Int) (v_188 : Value) (N_183 : Mem) (M_186 : Mem), hocketlaw11_MesgOwn.L3 K t_59 (fun v => hocketlaw11_MesgOwn.J3 K t_59 t_1 t_23 t_51 v) k_190 (x_184, x_185) = some r ∧ Fr 97 a [(4, .bool false), (5, .pointer (some ⟨g_46, 0, none⟩)), (6, .pointer (some ⟨g_48, 0, none⟩)), (8, .string ⟨t_51.toArray⟩), (9, .pointer (some ⟨g_88, 0, none⟩)), (50, iV (t_59.1.Have.length : Int)), (51, iV x_184)] ∧ Sep w0 w_190 [N_183, M_7, M_11, M_15, M_29, M_33, M_37, Mem.one g_46 (.cells ([iV t_1.Kind, iV t_1.From, iV t_1.To, iV t_1.View, iV t_1.Inst, iV t_1.Len, .bool t_1.Has, iV t_1.Members, iV t_1.Source, iV t_1.At, iV t_1.Total, v_5, iV t_1.Hop, iV t_1.Seq, v_9, v_13, iV t_1.Index, iV t_1.Entry.Sess, iV t_1.Entry.Seq, iV t_1.Entry.Cmd.Kind, iV t_1.Entry.Cmd.Who, v_17, v_19, v_21] : List Value).toArray 29 (0, 0)), Mem.one g_48 (.cells ([iV t_23.Kind, iV t_23.From, iV t_23.To, iV t_23.View, iV t_23.Inst, iV t_23.Len, .bool t_23.Has, iV t_23.Members, iV t_23.Source, iV t_23.At, iV t_23.Total, v_27, iV t_23.Hop, iV t_23.Seq, v_31, v_35, iV t_23.Index, iV t_23.Entry.Sess, iV t_23.Entry.Seq, iV t_23.Entry.Cmd.Kind, iV t_23.Entry.Cmd.Who, v_39, v_41, v_43] : List Value).toArray 29 (0, 0)), Mem.no, M_65, M_186, M_73, M_77, M_81, M_85, Mem.one g_88 (.cells ([iV t_59.1.Kind, iV t_59.1.From, iV t_59.1.To, iV t_59.1.View, iV t_59.1.Inst, iV t_59.1.Len, .bool t_59.1.Has, iV t_59.1.Members, iV t_59.1.Source, iV t_59.1.At, iV t_59.1.Total, v_63, iV t_59.1.Hop, iV t_59.1.Seq, v_188, v_71, iV t_59.1.Index, iV t_59.1.Entry.Sess, iV t_59.1.Entry.Seq, iV t_59.1.Entry.Cmd.Kind, iV t_59.1.Entry.Cmd.Who, v_75, v_79, v_83] : List Value).toArray 29 (0, 0))] Z ∧ N_96.le N_183 ∧ Own (Kd.int .i64) 3 M_186 Mem.no v_188 x_185) K ⟨0, t_59.1.Have, v_67, N_96, M_69, H, h, (Sep.sel hS [0, 1, 2, 3, 4, 5, 6, 7, 8, 1008, 10, 11, 12, 13, 14, 15, 16] (by decide)), (Mem.le.refl _), hr_68⟩ (fun a w h => by obtain ⟨_, _, _, _, _, H, _⟩ := h; cases (show (none : Option (Unit)) = some r from H)) ?_
    clear h hS a H
    rintro k_190 a w_190 KL_190 hKL_190 ⟨x_184, x_185, v_188, N_183, M_186, H, h, hS, le_183, ho_189⟩
    replace H : hocketlaw11_MesgOwn.B3 K t_59 (fun v => hocketlaw11_MesgOwn.J3 K t_59 t_1 t_23 t_51 v) (hocketlaw11_MesgOwn.L3 K t_59 (fun v => hocketlaw11_MesgOwn.J3 K t_59 t_1 t_23 t_51 v) k_190) x_184 x_185 = some r := H
    unfold hocketlaw11_MesgOwn.B3 at H
    refine wp_seq <| wp_region_lit <| s_cmp (b := decide (x_184 < (t_59.1.Have.length : Int))) h rfl rfl rfl (.inr (.inr (.inl ⟨rfl, rfl⟩))) fun a h=>wpList_nil ?_
    replace h : Fr 97 a [(4, _), (5, _), (6, _), (8, _), (9, _), (50, _), (51, _), (52, .bool (decide (x_184 < (t_59.1.Have.length : Int))))] := h.keep [4, 5, 6, 8, 9, 50, 51, 52]
    refine x_then_n <| c_seq fun KJ_192 hKJ_192 => ?_
    by_cases hc_193 : x_184 < (t_59.1.Have.length : Int)
    ·rw [if_pos hc_193] at H
     refine c_cond_t h rfl (decide_eq_true hc_193) <| wp_skip <| x_then_n (hKJ_192 _ _ ?_)
     refine wp_seq <| c_block <| wp_seq <| wp_region_lit <| s_move h rfl rfl fun a h=>s_assign h rfl rfl fun a h=>wpList_nil <| x_then_n <| wp_region_lit <| s_fieldAddr h rfl U29 rfl ti22 rfl rfl fun a h=>s_load h rfl rfl (hS.load_one (p := 16) rfl U22 rfl rfl) fun a h=>s_move h rfl rfl fun a h=>?_
     obtain ⟨t_194, et_194, H⟩ := Option.bind_eq_some_iff.1 H
     refine s_indexOwn h rfl U22 ti3 rfl rfl rfl ho_189 et_194 fun g_195 cur_196 hM_197 a h => ?_
     obtain ⟨w_198, M_199, hs', hS', ho_200⟩ := Own.stored (P := Try.prog) (p := 11) (t := 3) (o := 0) (nv := iV 77) (vs := [iV 77]) (u' := 77) hS rfl ho_189 hM_197 et_194 ti3 rfl rfl rfl (by intro u hu; simp only [List.mem_cons, List.not_mem_nil, or_false] at hu; rcases hu with rfl <;> rfl) (fun cs hk => by obtain rfl := (show cs = [_] from hk); rfl)
     refine s_store h rfl rfl hs' ?_
     replace hS : Sep w0 w_198 [_, _, _, _, _, _, _, _, _, _, _, M_199, _, _, _, _, _] Z := hS'
     clear hs' hS'
     refine wpList_nil <| x_block_n <| x_then_n <| wp_region_lit <| s_arith (r := w64 (x_184 + 1)) h rfl rfl rfl (.inl ⟨rfl, rfl⟩) fun a h=>s_move h rfl rfl fun a h=>wpList_nil <| x_then_n (hKL_190 _ _ ?_)
     replace hS : Sep w0 w_198 [_, _, _, _, _, _, _, _, _, _, _, _, _, _, _, _, _] Z := hS
     replace h : Fr 97 a [(4, _), (5, _), (6, _), (8, _), (9, _), (50, _), (51, iV (w64 (x_184 + 1)))] := h.keep [4, 5, 6, 8, 9, 50, 51]
     exact ⟨w64 (x_184 + 1), (x_185.set (x_184).toNat 77), v_188, N_183, M_199, H, h, (Sep.sel hS [0, 1, 2, 3, 4, 5, 6, 7, 8, 1008, 10, 11, 12, 13, 14, 15, 16] (by decide)), le_183, ho_200⟩
    ·rw [if_neg hc_193] at H
     refine c_cond_f h rfl (decide_eq_false hc_193) <| wp_exit (x_then_x (x_then_x (x_block_t ?_)))
     replace hS : Sep w0 w_190 [_, _, _, _, _, _, _, _, _, _, _, _, _, _, _, _, _] Z := hS
     replace h : Fr 97 a [(4, _), (5, _), (6, _), (8, _), (9, _)] := h.keep [4, 5, 6, 8, 9]
     exact x_then_n (hJ_j_109 x_185 H _ _ ⟨v_188, N_183, M_186, h, (Sep.sel hS [0, 1, 2, 3, 4, 5, 6, 7, 8, 1008, 10, 11, 12, 13, 14, 15, 16] (by decide)), le_183, ho_189⟩)
  clear hKJ_95
  refine wp_region_lit <| s_move h rfl rfl fun a h=>s_not h rfl rfl fun a h=>s_move h rfl rfl fun a h=>?_
  by_cases hc_201 : t_59.2 = true
  ·rw [if_pos hc_201] at H
   refine s_on h rfl rfl (nf hc_201) <| s_load h rfl rfl (hS.load_agg (p := 16) (us := [iV t_59.1.Kind, iV t_59.1.From, iV t_59.1.To, iV t_59.1.View, iV t_59.1.Inst, iV t_59.1.Len, .bool t_59.1.Has, iV t_59.1.Members, iV t_59.1.Source, iV t_59.1.At, iV t_59.1.Total, v_63, iV t_59.1.Hop, iV t_59.1.Seq, v_67, v_71, iV t_59.1.Index, iV t_59.1.Entry.Sess, iV t_59.1.Entry.Seq, iV t_59.1.Entry.Cmd.Kind, iV t_59.1.Entry.Cmd.Who, v_75, v_79, v_83]) rfl U29 rfl ti29 rfl rfl) fun a h=>s_on h rfl rfl (nf hc_201) ?_
   obtain ⟨t_202, et_202, H⟩ := Option.bind_eq_some_iff.1 H
   refine s_call h rfl Try.call11 rfl (mesg_Encode.calls K t_59.1 _ _ _ _ _ _ t_202 w0 _ _ _ (Mem.le.refl _) (hS.enter [] (by decide)) (hr_64.rd (hS.own_zed [] 9 (by decide)) (Mem.no_le _)) (hr_68.rd (hS.own_zed [] 10 (by decide)) (Mem.no_le _)) (hr_72.rd (hS.own_zed [] 11 (by decide)) (Mem.no_le _)) (hr_76.rd (hS.own_zed [] 12 (by decide)) (Mem.no_le _)) (hr_80.rd (hS.own_zed [] 13 (by decide)) (Mem.no_le _)) (hr_84.rd (hS.own_zed [] 14 (by decide)) (Mem.no_le _)) et_202) ?_
   rintro v_206 w_203 ⟨_, N_204, M_208, rfl, hS', hr_207⟩
   intro a h
   obtain ⟨N_205, hS'', le_205, ln_205⟩ := hS.call [] (by decide) rfl (l' := []) (ow := [M_208]) rfl hS'
   replace hS : Sep w0 w_203 [N_205, _, _, _, _, _, _, _, _, _, _, _, _, _, _, _, _, M_208] Z := hS''
   clear hS' hS''
   refine s_on h rfl rfl (nf hc_201) <| s_b2s h rfl U23 U5 U9 rfl (hr_207.rd (J := hp w_203) (hS.own 17) (Mem.no_le _)) (Mem.le.refl _) fun a h=>s_on h rfl rfl (nf hc_201) <| s_move h rfl rfl fun a h=>s_on h rfl rfl (nf hc_201) <| s_strEq (b := !(t_202 == t_51)) h rfl rfl rfl (.inr ⟨rfl, rfl⟩) fun a h=>s_pick_f h rfl rfl (nf hc_201) rfl fun a h=>wpList_nil ?_
   replace hS : Sep w0 w_203 [_, _, _, _, _, _, _, _, _, _, _, _, _, _, _, _, _, _] Z := hS
   replace h : Fr 97 a [(4, _), (5, _), (6, _), (8, _), (9, _), (47, .bool (!(t_202 == t_51)))] := h.keep [4, 5, 6, 8, 9, 47]
   exact x_then_n (hJ_j_99 (!(t_202 == t_51)) H _ _ ⟨N_205, h, (Sep.sel hS [0, 1, 2, 3, 4, 5, 6, 7, 8, 1008, 10, 11, 12, 13, 14, 15, 16] (by decide)), le_205⟩)
  ·rw [if_neg hc_201] at H
   refine s_off h rfl rfl rfl (nt (Bool.eq_false_iff.2 hc_201)) fun a h=>s_off h rfl rfl rfl (nt (Bool.eq_false_iff.2 hc_201)) fun a h=>s_off h rfl rfl rfl (nt (Bool.eq_false_iff.2 hc_201)) fun a h=>s_off h rfl rfl rfl (nt (Bool.eq_false_iff.2 hc_201)) fun a h=>s_off h rfl rfl rfl (nt (Bool.eq_false_iff.2 hc_201)) fun a h=>s_pick_t h rfl rfl (nt (Bool.eq_false_iff.2 hc_201)) rfl fun a h=>wpList_nil ?_
   replace hS : Sep w0 w_92 [_, _, _, _, _, _, _, _, _, _, _, _, _, _, _, _, _] Z := hS
   replace h : Fr 97 a [(4, _), (5, _), (6, _), (8, _), (9, _), (47, .bool true)] := h.keep [4, 5, 6, 8, 9, 47]
   exact x_then_n (hJ_j_99 true H _ _ ⟨N_91, h, (Sep.sel hS [0, 1, 2, 3, 4, 5, 6, 7, 8, 1008, 10, 11, 12, 13, 14, 15, 16] (by decide)), (Mem.le.refl _)⟩)
 clear hKJ_90
 replace hS : Sep w0 w_89 [_, _, _, _, _, _, _, _, _, _, _, _, _, _, _, _, _] Z := hS
 replace h : Fr 97 a [(4, _), (5, _), (6, _), (7, _), (8, _), (9, .pointer (some ⟨g_88, 0, none⟩)), (10, .bool t_59.2), (31, iV (t_51.length : Int)), (32, iV 0)] := h.keep [4, 5, 6, 7, 8, 9, 10, 31, 32]
 refine c_block <| c_loop (fun k_217 a w_217 => ∃ (x_211 : List UInt8) (x_216 : Int) (v_214 : Value) (N_210 : Mem) (M_212 : Mem), hocketlaw11_MesgOwn.L4 K t_51 (fun v => hocketlaw11_MesgOwn.J1 K t_59 t_1 t_23 t_51) k_217 (x_211, x_216) = some r ∧ Fr 97 a [(4, .bool false), (5, .pointer (some ⟨g_46, 0, none⟩)), (6, .pointer (some ⟨g_48, 0, none⟩)), (7, v_214), (8, .string ⟨t_51.toArray⟩), (9, .pointer (some ⟨g_88, 0, none⟩)), (10, .bool t_59.2), (31, iV (t_51.length : Int)), (32, iV x_216)] ∧ Sep w0 w_217 [N_210, M_7, M_11, M_15, M_29, M_33, M_37, Mem.one g_46 (.cells ([iV t_1.Kind, iV t_1.From, iV t_1.To, iV t_1.View, iV t_1.Inst, iV t_1.Len, .bool t_1.Has, iV t_1.Members, iV t_1.Source, iV t_1.At, iV t_1.Total, v_5, iV t_1.Hop, iV t_1.Seq, v_9, v_13, iV t_1.Index, iV t_1.Entry.Sess, iV t_1.Entry.Seq, iV t_1.Entry.Cmd.Kind, iV t_1.Entry.Cmd.Who, v_17, v_19, v_21] : List Value).toArray 29 (0, 0)), Mem.one g_48 (.cells ([iV t_23.Kind, iV t_23.From, iV t_23.To, iV t_23.View, iV t_23.Inst, iV t_23.Len, .bool t_23.Has, iV t_23.Members, iV t_23.Source, iV t_23.At, iV t_23.Total, v_27, iV t_23.Hop, iV t_23.Seq, v_31, v_35, iV t_23.Index, iV t_23.Entry.Sess, iV t_23.Entry.Seq, iV t_23.Entry.Cmd.Kind, iV t_23.Entry.Cmd.Who, v_39, v_41, v_43] : List Value).toArray 29 (0, 0)), M_212, M_65, M_69, M_73, M_77, M_81, M_85, Mem.one g_88 (.cells ([iV t_59.1.Kind, iV t_59.1.From, iV t_59.1.To, iV t_59.1.View, iV t_59.1.Inst, iV t_59.1.Len, .bool t_59.1.Has, iV t_59.1.Members, iV t_59.1.Source, iV t_59.1.At, iV t_59.1.Total, v_63, iV t_59.1.Hop, iV t_59.1.Seq, v_67, v_71, iV t_59.1.Index, iV t_59.1.Entry.Sess, iV t_59.1.Entry.Seq, iV t_59.1.Entry.Cmd.Kind, iV t_59.1.Entry.Cmd.Who, v_75, v_79, v_83] : List Value).toArray 29 (0, 0))] Z ∧ N_62.le N_210 ∧ Own Kd.u8 5 M_212 Mem.no v_214 x_211) K ⟨t_51, 0, v_55, N_62, M_57, H, h, (Sep.sel hS [0, 1, 2, 3, 4, 5, 6, 7, 8, 9, 10, 11, 12, 13, 14, 15, 16] (by decide)), (Mem.le.refl _), hr_56⟩ (fun a w h => by obtain ⟨_, _, _, _, _, H, _⟩ := h; cases (show (none : Option (Unit)) = some r from H)) ?_
 clear h hS a H
 rintro k_217 a w_217 KL_217 hKL_217 ⟨x_211, x_216, v_214, N_210, M_212, H, h, hS, le_210, ho_215⟩
 replace H : hocketlaw11_MesgOwn.B4 K t_51 (fun v => hocketlaw11_MesgOwn.J1 K t_59 t_1 t_23 t_51) (hocketlaw11_MesgOwn.L4 K t_51 (fun v => hocketlaw11_MesgOwn.J1 K t_59 t_1 t_23 t_51) k_217) x_211 x_216 = some r := H
 unfold hocketlaw11_MesgOwn.B4 at H
 refine wp_seq <| wp_region_lit <| s_cmp (b := decide (x_216 < (t_51.length : Int))) h rfl rfl rfl (.inr (.inr (.inl ⟨rfl, rfl⟩))) fun a h=>wpList_nil <| x_then_n <| c_seq fun KJ_219 hKJ_219 => ?_
 by_cases hc_220 : x_216 < (t_51.length : Int)
 ·rw [if_pos hc_220] at H
  refine c_cond_t h rfl (decide_eq_true hc_220) <| wp_skip <| x_then_n (hKJ_219 _ _ ?_)
  refine wp_seq <| c_block <| wp_seq <| wp_region_lit <| s_move h rfl rfl fun a h=>s_assign h rfl rfl fun a h=>wpList_nil ?_
  replace h : Fr 97 a [(4, _), (5, _), (6, _), (7, _), (8, _), (9, _), (10, _), (11, iV x_216), (31, _), (32, _)] := h.keep [4, 5, 6, 7, 8, 9, 10, 11, 31, 32]
  refine x_then_n <| wp_region_lit <| s_move h rfl rfl fun a h=>s_move h rfl rfl fun a h=>?_
  obtain ⟨t_221, et_221, H⟩ := Option.bind_eq_some_iff.1 H
  refine s_indexOwn h rfl U23 ti5 rfl rfl rfl ho_215 et_221 fun g_222 cur_223 hM_224 a h => ?_
  obtain ⟨w_225, M_226, hs', hS', ho_227⟩ := Own.stored (P := Try.prog) (p := 9) (t := 5) (o := 0) (nv := .int .u8 ((255 : UInt8).toNat : Int)) (vs := [.int .u8 ((255 : UInt8).toNat : Int)]) (u' := (255 : UInt8)) hS rfl ho_215 hM_224 et_221 ti5 rfl rfl rfl (by intro u hu; simp only [List.mem_cons, List.not_mem_nil, or_false] at hu; rcases hu with rfl <;> rfl) (fun cs hk => by obtain rfl := (show cs = [_] from hk); rfl)
  refine s_store h rfl rfl hs' ?_
  replace hS : Sep w0 w_225 [_, _, _, _, _, _, _, _, _, M_226, _, _, _, _, _, _, _] Z := hS'
  clear hs' hS'
  refine wpList_nil <| x_block_n <| x_then_n <| wp_region_lit <| s_arith (r := w64 (x_216 + 1)) h rfl rfl rfl (.inl ⟨rfl, rfl⟩) fun a h=>s_move h rfl rfl fun a h=>wpList_nil <| x_then_n (hKL_217 _ _ ?_)
  replace hS : Sep w0 w_225 [_, _, _, _, _, _, _, _, _, _, _, _, _, _, _, _, _] Z := hS
  replace h : Fr 97 a [(4, _), (5, _), (6, _), (7, _), (8, _), (9, _), (10, _), (31, _), (32, iV (w64 (x_216 + 1)))] := h.keep [4, 5, 6, 7, 8, 9, 10, 31, 32]
  exact ⟨(x_211.set (x_216).toNat (255 : UInt8)), w64 (x_216 + 1), v_214, N_210, M_226, H, h, (Sep.sel hS [0, 1, 2, 3, 4, 5, 6, 7, 8, 9, 10, 11, 12, 13, 14, 15, 16] (by decide)), le_210, ho_227⟩
 ·rw [if_neg hc_220] at H
  refine c_cond_f h rfl (decide_eq_false hc_220) <| wp_exit (x_then_x (x_then_x (x_block_t ?_)))
  replace hS : Sep w0 w_217 [_, _, _, _, _, _, _, _, _, _, _, _, _, _, _, _, _] Z := hS
  replace h : Fr 97 a [(4, _), (5, _), (6, _), (8, _), (9, _), (10, _)] := h.keep [4, 5, 6, 8, 9, 10]
  exact x_then_n (hJ_j_93  H _ _ ⟨N_210, h, (Sep.sel hS [0, 1, 2, 3, 4, 5, 6, 7, 8, 1008, 10, 11, 12, 13, 14, 15, 16] (by decide)), le_210⟩)


end Go.Proofs
