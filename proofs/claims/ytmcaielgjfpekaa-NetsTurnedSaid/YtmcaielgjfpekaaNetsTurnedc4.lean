/- What the calls do: each function once. -/
import Derived.Test.YtmcaielgjfpekaaNetsTurnedc3
namespace Go.Proofs
open Go.Gp
set_option linter.unusedVariables false
set_option maxHeartbeats 4000000 in
set_option maxRecDepth 20000 in
theorem hocketlaw23_NetsTurned.calls (K : Nat) (x0 : Int) (x1 : Int) (x2 : Int) (r : Unit) (w0 w : World) (Z A : Mem) (hA : A.le Z) (hS : Sep w0 w [] Z)
    (H : hocketlaw23_NetsTurned.f K x0 x1 x2 = some r) :
    Calls Try.prog 4 [iV x0, iV x1, iV x2].toArray w (Ret fun v w' => ∃ (N : Mem), v = .bool true ∧ Sep w0 w' [N] Z) := by
 unfold hocketlaw23_NetsTurned.f at H
 refine f_enter _ Try.func4 rfl Try.ntmps4 rfl fun a h=>?_
 replace h : Fr 125 a [(0, iV x0), (1, iV x1), (2, iV x2)] := h
 replace hS := hS.start
 replace hS : Sep w0 w [_] Z := hS
 refine wp_seq <| wp_region_lit <| s_assign h rfl rfl fun a h=>wpList_nil <| x_then_n <| wp_seq <| wp_region_lit ?_
 obtain ⟨t_1, et_1, H⟩ := Option.bind_eq_some_iff.1 H
 refine s_call h rfl Try.call9 rfl (nets_New.calls 7 t_1 w0 _ _ _ (Mem.le.refl _) (hS.enter [] (by decide))  et_1) ?_
 rintro _ w_2 ⟨g_5, v_6, N_3, M_8, rfl, hS', hr_7⟩
 intro a h
 obtain ⟨N_4, hS'', le_4, ln_4⟩ := hS.call [] (by decide) rfl (l' := []) (ow := [Mem.one g_5 (.cells ([iV t_1.1, iV t_1.2.1, v_6] : List Value).toArray 58 (0, 0)), M_8]) rfl hS'
 replace hS : Sep w0 w_2 [N_4, Mem.one g_5 (.cells ([iV t_1.1, iV t_1.2.1, v_6] : List Value).toArray 58 (0, 0)), M_8] Z := hS''
 clear hS' hS''
 refine s_assign h rfl rfl fun a h=>wpList_nil <| x_then_n <| wp_seq <| wp_region_lit <| s_move h rfl rfl fun a h=>s_move h rfl rfl fun a h=>?_
 obtain ⟨t_10, et_10, H⟩ := Option.bind_eq_some_iff.1 H
 refine s_call h rfl Try.call14 rfl (hocketlaw11_Msg.calls K x0 x1 t_10 w0 _ _ _ (Mem.le.refl _) (hS.enter [] (by decide))  et_10) ?_
 rintro _ w_11 ⟨v_14, v_18, v_22, v_26, v_28, v_30, N_12, M_16, M_20, M_24, rfl, hS', hr_15, hr_19, hr_23, hr_27, hr_29, hr_31⟩
 intro a h
 obtain ⟨N_13, hS'', le_13, ln_13⟩ := hS.call [] (by decide) rfl (l' := []) (ow := [M_16, M_20, M_24]) rfl hS'
 replace hS : Sep w0 w_11 [N_13, _, _, M_16, M_20, M_24] Z := hS''
 clear hS' hS''
 refine v_alloc h rfl ti32 hS fun w_32 g_33 hS' a h => ?_
 replace hS : Sep w0 w_32 [_, _, _, _, _, _, Mem.one g_33 (.cells ([iV 0, iV 0, iV 0, iV 0, iV 0, iV 0, .bool false, iV 0, iV 0, iV 0, iV 0, nS, iV 0, iV 0, nS, nS, iV 0, iV 0, iV 0, iV 0, iV 0, nS, nS, nS] : List Value).toArray 32 (0, 0))] Z := hS'
 clear hS'
 obtain ⟨w_34, hs', hS'⟩ := hS.store (P := Try.prog) (p := 6) (o := 0) (t := 32) (v := .agg ([iV t_10.Kind, iV t_10.From, iV t_10.To, iV t_10.View, iV t_10.Inst, iV t_10.Len, .bool t_10.Has, iV t_10.Members, iV t_10.Source, iV t_10.At, iV t_10.Total, v_14, iV t_10.Hop, iV t_10.Seq, v_18, v_22, iV t_10.Index, iV t_10.Entry.Sess, iV t_10.Entry.Seq, iV t_10.Entry.Cmd.Kind, iV t_10.Entry.Cmd.Who, v_26, v_28, v_30] : List Value).toArray) (vs := [iV t_10.Kind, iV t_10.From, iV t_10.To, iV t_10.View, iV t_10.Inst, iV t_10.Len, .bool t_10.Has, iV t_10.Members, iV t_10.Source, iV t_10.At, iV t_10.Total, v_14, iV t_10.Hop, iV t_10.Seq, v_18, v_22, iV t_10.Index, iV t_10.Entry.Sess, iV t_10.Entry.Seq, iV t_10.Entry.Cmd.Kind, iV t_10.Entry.Cmd.Who, v_26, v_28, v_30]) rfl ti32 rfl rfl rfl (by intro u hu; simp only [List.mem_cons, List.not_mem_nil, or_false] at hu; rcases hu with rfl | rfl | rfl | rfl | rfl | rfl | rfl | rfl | rfl | rfl | rfl | rfl | rfl | rfl | rfl | rfl | rfl | rfl | rfl | rfl | rfl | rfl | rfl | rfl <;> first | rfl | exact hr_15.one | exact hr_19.one | exact hr_23.one | exact (hr_27.mono ln_13).one | exact (hr_29.mono ln_13).one | exact (hr_31.mono ln_13).one)
 refine s_store h rfl rfl hs' ?_
 replace hS : Sep w0 w_34 [_, _, _, _, _, _, Mem.one g_33 (.cells ([iV t_10.Kind, iV t_10.From, iV t_10.To, iV t_10.View, iV t_10.Inst, iV t_10.Len, .bool t_10.Has, iV t_10.Members, iV t_10.Source, iV t_10.At, iV t_10.Total, v_14, iV t_10.Hop, iV t_10.Seq, v_18, v_22, iV t_10.Index, iV t_10.Entry.Sess, iV t_10.Entry.Seq, iV t_10.Entry.Cmd.Kind, iV t_10.Entry.Cmd.Who, v_26, v_28, v_30] : List Value).toArray 32 (0, 0))] Z := hS'
 clear hs' hS'
 refine wpList_nil <| x_then_n <| c_seq fun KJ_35 hKJ_35 => c_seq fun KJ_36 hKJ_36 => ?_
 have hJ_j_58 : ∀ (x_38 : Bool), ∀ (x_39 : nets_Net), ∀ (x_44 : api_Msg), hocketlaw23_NetsTurned.J1 K x2 x_38 x_39 x_44 = some r → ∀ (a : Act) (w_57 : World), (∃ (v_42 : Value) (v_45 : Value) (v_47 : Value) (v_49 : Value) (v_51 : Value) (v_53 : Value) (v_55 : Value) (N_37 : Mem) (M_40 : Mem), Fr 125 a [(2, iV x2), (6, .bool false), (7, .pointer (some ⟨g_5, 0, none⟩)), (8, .pointer (some ⟨g_33, 0, none⟩)), (38, .bool x_38)] ∧ Sep w0 w_57 [N_37, Mem.one g_5 (.cells ([iV x_39.n, iV x_39.mask, v_42] : List Value).toArray 58 (0, 0)), M_40, Mem.no, Mem.no, Mem.no, Mem.one g_33 (.cells ([iV x_44.Kind, iV x_44.From, iV x_44.To, iV x_44.View, iV x_44.Inst, iV x_44.Len, .bool x_44.Has, iV x_44.Members, iV x_44.Source, iV x_44.At, iV x_44.Total, v_45, iV x_44.Hop, iV x_44.Seq, v_47, v_49, iV x_44.Index, iV x_44.Entry.Sess, iV x_44.Entry.Seq, iV x_44.Entry.Cmd.Kind, iV x_44.Entry.Cmd.Who, v_51, v_53, v_55] : List Value).toArray 32 (0, 0))] Z ∧ N_13.le N_37 ∧ Own k_nets_frame 60 M_40 N_37 v_42 x_39.l ∧ Rd Kd.u8 N_37 v_45 x_44.Data ∧ Rd (Kd.int .i64) N_37 v_47 x_44.Have ∧ Rd (Kd.int .i64) N_37 v_49 x_44.Need ∧ Rd Kd.u8 N_37 v_51 x_44.Entry.Cmd.Key ∧ Rd Kd.u8 N_37 v_53 x_44.Entry.Cmd.Val ∧ Rd Kd.u8 N_37 v_55 x_44.Entry.Cmd.Old) → KJ_36 a w_57 := by
  clear H h hS a
  rintro x_38 x_39 x_44 H a w_57 ⟨v_42, v_45, v_47, v_49, v_51, v_53, v_55, N_37, M_40, h, hS, le_37, ho_43, hr_46, hr_48, hr_50, hr_52, hr_54, hr_56⟩
  unfold hocketlaw23_NetsTurned.J1 at H
  refine hKJ_36 _ _ ?_
  by_cases hc_59 : x_38 = true
  ·rw [if_pos hc_59] at H
   cases H
  ·rw [if_neg hc_59] at H
   refine c_cond_f h rfl (Bool.eq_false_iff.2 hc_59) <| wp_skip <| x_then_n (hKJ_35 _ _ ?_)
   refine wp_seq <| wp_region_lit <| s_move h rfl rfl fun a h=>s_bits (i := x2) (j := 65535) (r := band .i64 x2 65535) h rfl rfl rfl (.inl ⟨rfl, rfl⟩) fun a h=>s_assign h rfl rfl fun a h=>wpList_nil ?_
   replace h : Fr 125 a [(2, iV (band .i64 x2 65535)), (6, _), (7, _), (8, _)] := h.keep [2, 6, 7, 8]
   refine x_then_n <| c_seq fun KJ_60 hKJ_60 => c_seq fun KJ_61 hKJ_61 => ?_
   have hJ_j_70 : ∀ (x_63 : Bool), ∀ (x_64 : nets_Net), hocketlaw23_NetsTurned.J2 K x_44 x_63 x_64 = some r → ∀ (a : Act) (w_69 : World), (∃ (v_67 : Value) (N_62 : Mem) (M_65 : Mem), Fr 125 a [(6, .bool false), (7, .pointer (some ⟨g_5, 0, none⟩)), (8, .pointer (some ⟨g_33, 0, none⟩)), (74, .bool x_63)] ∧ Sep w0 w_69 [N_62, Mem.one g_5 (.cells ([iV x_64.n, iV x_64.mask, v_67] : List Value).toArray 58 (0, 0)), M_65, Mem.no, Mem.no, Mem.no, Mem.one g_33 (.cells ([iV x_44.Kind, iV x_44.From, iV x_44.To, iV x_44.View, iV x_44.Inst, iV x_44.Len, .bool x_44.Has, iV x_44.Members, iV x_44.Source, iV x_44.At, iV x_44.Total, v_45, iV x_44.Hop, iV x_44.Seq, v_47, v_49, iV x_44.Index, iV x_44.Entry.Sess, iV x_44.Entry.Seq, iV x_44.Entry.Cmd.Kind, iV x_44.Entry.Cmd.Who, v_51, v_53, v_55] : List Value).toArray 32 (0, 0))] Z ∧ N_37.le N_62 ∧ Own k_nets_frame 60 M_65 N_62 v_67 x_64.l) → KJ_61 a w_69 := by
    clear H h hS a
    rintro x_63 x_64 H a w_69 ⟨v_67, N_62, M_65, h, hS, le_62, ho_68⟩
    unfold hocketlaw23_NetsTurned.J2 at H
    refine hKJ_61 _ _ ?_
    by_cases hc_71 : x_63 = true
    ·rw [if_pos hc_71] at H
     cases H
    ·rw [if_neg hc_71] at H
     refine c_cond_f h rfl (Bool.eq_false_iff.2 hc_71) <| wp_skip <| x_then_n (hKJ_60 _ _ ?_)
     refine wp_seq <| wp_region_lit <| s_move h rfl rfl fun a h=>?_
     obtain ⟨t_72, et_72, H⟩ := Option.bind_eq_some_iff.1 H
     refine s_call h rfl Try.call11 rfl (nets_Net_Take.calls K _ x_64.n x_64.mask x_64.l _ _ 0 t_72 w0 _ _ N_62 (hS.new_zed [0, 1]) (hS.enter [0, 1] (by decide)) (ho_68.mono (Mem.le.refl _)) et_72) ?_
     rintro _ w_73 ⟨v_76, v_80, v_84, v_88, v_92, v_96, v_100, N_74, M_78, M_82, M_86, M_90, M_94, M_98, M_102, rfl, hS', hr_77, hr_81, hr_85, hr_89, hr_93, hr_97, hr_101⟩
     intro a h
     obtain ⟨N_75, hS'', le_75, ln_75⟩ := hS.call [0, 1] (by decide) rfl (l' := [Mem.one g_5 (.cells ([iV t_72.2.2.1, iV t_72.2.2.2.1, v_100] : List Value).toArray 58 (0, 0)), M_102]) (ow := [M_78, M_82, M_86, M_90, M_94, M_98]) rfl hS'
     replace hS : Sep w0 w_73 [N_75, Mem.one g_5 (.cells ([iV t_72.2.2.1, iV t_72.2.2.2.1, v_100] : List Value).toArray 58 (0, 0)), M_102, _, _, _, _, M_78, M_82, M_86, M_90, M_94, M_98] Z := hS''
     clear hS' hS''
     refine s_move h rfl rfl fun a h=>s_extract h rfl rfl rfl fun a h=>s_extract h rfl rfl rfl fun a h=>v_alloc h rfl ti32 hS fun w_104 g_105 hS' a h => ?_
     replace hS : Sep w0 w_104 [_, _, _, _, _, _, _, _, _, _, _, _, _, Mem.one g_105 (.cells ([iV 0, iV 0, iV 0, iV 0, iV 0, iV 0, .bool false, iV 0, iV 0, iV 0, iV 0, nS, iV 0, iV 0, nS, nS, iV 0, iV 0, iV 0, iV 0, iV 0, nS, nS, nS] : List Value).toArray 32 (0, 0))] Z := hS'
     clear hS'
     obtain ⟨w_106, hs', hS'⟩ := hS.store (P := Try.prog) (p := 13) (o := 0) (t := 32) (v := .agg ([iV t_72.1.Kind, iV t_72.1.From, iV t_72.1.To, iV t_72.1.View, iV t_72.1.Inst, iV t_72.1.Len, .bool t_72.1.Has, iV t_72.1.Members, iV t_72.1.Source, iV t_72.1.At, iV t_72.1.Total, v_76, iV t_72.1.Hop, iV t_72.1.Seq, v_80, v_84, iV t_72.1.Index, iV t_72.1.Entry.Sess, iV t_72.1.Entry.Seq, iV t_72.1.Entry.Cmd.Kind, iV t_72.1.Entry.Cmd.Who, v_88, v_92, v_96] : List Value).toArray) (vs := [iV t_72.1.Kind, iV t_72.1.From, iV t_72.1.To, iV t_72.1.View, iV t_72.1.Inst, iV t_72.1.Len, .bool t_72.1.Has, iV t_72.1.Members, iV t_72.1.Source, iV t_72.1.At, iV t_72.1.Total, v_76, iV t_72.1.Hop, iV t_72.1.Seq, v_80, v_84, iV t_72.1.Index, iV t_72.1.Entry.Sess, iV t_72.1.Entry.Seq, iV t_72.1.Entry.Cmd.Kind, iV t_72.1.Entry.Cmd.Who, v_88, v_92, v_96]) rfl ti32 rfl rfl rfl (by intro u hu; simp only [List.mem_cons, List.not_mem_nil, or_false] at hu; rcases hu with rfl | rfl | rfl | rfl | rfl | rfl | rfl | rfl | rfl | rfl | rfl | rfl | rfl | rfl | rfl | rfl | rfl | rfl | rfl | rfl | rfl | rfl | rfl | rfl <;> first | rfl | exact hr_77.one | exact hr_81.one | exact hr_85.one | exact hr_89.one | exact hr_93.one | exact hr_97.one)
     refine s_store h rfl rfl hs' ?_
     replace hS : Sep w0 w_106 [_, _, _, _, _, _, _, _, _, _, _, _, _, Mem.one g_105 (.cells ([iV t_72.1.Kind, iV t_72.1.From, iV t_72.1.To, iV t_72.1.View, iV t_72.1.Inst, iV t_72.1.Len, .bool t_72.1.Has, iV t_72.1.Members, iV t_72.1.Source, iV t_72.1.At, iV t_72.1.Total, v_76, iV t_72.1.Hop, iV t_72.1.Seq, v_80, v_84, iV t_72.1.Index, iV t_72.1.Entry.Sess, iV t_72.1.Entry.Seq, iV t_72.1.Entry.Cmd.Kind, iV t_72.1.Entry.Cmd.Who, v_88, v_92, v_96] : List Value).toArray 32 (0, 0))] Z := hS'
     clear hs' hS'
     refine s_assign h rfl rfl fun a h=>wpList_nil <| x_then_n <| wp_seq <| wp_region_lit <| s_move h rfl rfl fun a h=>?_
     obtain ⟨t_107, et_107, H⟩ := Option.bind_eq_some_iff.1 H
     refine s_call h rfl Try.call11 rfl (nets_Net_Take.calls K _ t_72.2.2.1 t_72.2.2.2.1 t_72.2.2.2.2 _ _ 0 t_107 w0 _ _ N_75 (hS.new_zed [0, 1]) (hS.enter [0, 1] (by decide)) ((hr_101.mono (Mem.un_le le_75 ln_75)).mono (Mem.le.refl _)) et_107) ?_
     rintro _ w_108 ⟨v_111, v_115, v_119, v_123, v_127, v_131, v_135, N_109, M_113, M_117, M_121, M_125, M_129, M_133, M_137, rfl, hS', hr_112, hr_116, hr_120, hr_124, hr_128, hr_132, hr_136⟩
     intro a h
     obtain ⟨N_110, hS'', le_110, ln_110⟩ := hS.call [0, 1] (by decide) rfl (l' := [Mem.one g_5 (.cells ([iV t_107.2.2.1, iV t_107.2.2.2.1, v_135] : List Value).toArray 58 (0, 0)), M_137]) (ow := [M_113, M_117, M_121, M_125, M_129, M_133]) rfl hS'
     replace hS : Sep w0 w_108 [N_110, Mem.one g_5 (.cells ([iV t_107.2.2.1, iV t_107.2.2.2.1, v_135] : List Value).toArray 58 (0, 0)), M_137, _, _, _, _, _, _, _, _, _, _, _, M_113, M_117, M_121, M_125, M_129, M_133] Z := hS''
     clear hS' hS''
     refine s_move h rfl rfl fun a h=>s_extract h rfl rfl rfl fun a h=>s_extract h rfl rfl rfl fun a h=>v_alloc h rfl ti32 hS fun w_139 g_140 hS' a h => ?_
     replace hS : Sep w0 w_139 [_, _, _, _, _, _, _, _, _, _, _, _, _, _, _, _, _, _, _, _, Mem.one g_140 (.cells ([iV 0, iV 0, iV 0, iV 0, iV 0, iV 0, .bool false, iV 0, iV 0, iV 0, iV 0, nS, iV 0, iV 0, nS, nS, iV 0, iV 0, iV 0, iV 0, iV 0, nS, nS, nS] : List Value).toArray 32 (0, 0))] Z := hS'
     clear hS'
     obtain ⟨w_141, hs', hS'⟩ := hS.store (P := Try.prog) (p := 20) (o := 0) (t := 32) (v := .agg ([iV t_107.1.Kind, iV t_107.1.From, iV t_107.1.To, iV t_107.1.View, iV t_107.1.Inst, iV t_107.1.Len, .bool t_107.1.Has, iV t_107.1.Members, iV t_107.1.Source, iV t_107.1.At, iV t_107.1.Total, v_111, iV t_107.1.Hop, iV t_107.1.Seq, v_115, v_119, iV t_107.1.Index, iV t_107.1.Entry.Sess, iV t_107.1.Entry.Seq, iV t_107.1.Entry.Cmd.Kind, iV t_107.1.Entry.Cmd.Who, v_123, v_127, v_131] : List Value).toArray) (vs := [iV t_107.1.Kind, iV t_107.1.From, iV t_107.1.To, iV t_107.1.View, iV t_107.1.Inst, iV t_107.1.Len, .bool t_107.1.Has, iV t_107.1.Members, iV t_107.1.Source, iV t_107.1.At, iV t_107.1.Total, v_111, iV t_107.1.Hop, iV t_107.1.Seq, v_115, v_119, iV t_107.1.Index, iV t_107.1.Entry.Sess, iV t_107.1.Entry.Seq, iV t_107.1.Entry.Cmd.Kind, iV t_107.1.Entry.Cmd.Who, v_123, v_127, v_131]) rfl ti32 rfl rfl rfl (by intro u hu; simp only [List.mem_cons, List.not_mem_nil, or_false] at hu; rcases hu with rfl | rfl | rfl | rfl | rfl | rfl | rfl | rfl | rfl | rfl | rfl | rfl | rfl | rfl | rfl | rfl | rfl | rfl | rfl | rfl | rfl | rfl | rfl | rfl <;> first | rfl | exact hr_112.one | exact hr_116.one | exact hr_120.one | exact hr_124.one | exact hr_128.one | exact hr_132.one)
     refine s_store h rfl rfl hs' ?_
     replace hS : Sep w0 w_141 [_, _, _, _, _, _, _, _, _, _, _, _, _, _, _, _, _, _, _, _, Mem.one g_140 (.cells ([iV t_107.1.Kind, iV t_107.1.From, iV t_107.1.To, iV t_107.1.View, iV t_107.1.Inst, iV t_107.1.Len, .bool t_107.1.Has, iV t_107.1.Members, iV t_107.1.Source, iV t_107.1.At, iV t_107.1.Total, v_111, iV t_107.1.Hop, iV t_107.1.Seq, v_115, v_119, iV t_107.1.Index, iV t_107.1.Entry.Sess, iV t_107.1.Entry.Seq, iV t_107.1.Entry.Cmd.Kind, iV t_107.1.Entry.Cmd.Who, v_123, v_127, v_131] : List Value).toArray 32 (0, 0))] Z := hS'
     clear hs' hS'
     refine s_assign h rfl rfl fun a h=>wpList_nil <| x_then_n <| wp_seq <| wp_region_lit <| s_move h rfl rfl fun a h=>?_
     obtain ⟨t_142, et_142, H⟩ := Option.bind_eq_some_iff.1 H
     refine s_call h rfl Try.call11 rfl (nets_Net_Take.calls K _ t_107.2.2.1 t_107.2.2.2.1 t_107.2.2.2.2 _ _ 0 t_142 w0 _ _ N_110 (hS.new_zed [0, 1]) (hS.enter [0, 1] (by decide)) ((hr_136.mono (Mem.un_le le_110 ln_110)).mono (Mem.le.refl _)) et_142) ?_
     rintro _ w_143 ⟨v_146, v_150, v_154, v_158, v_162, v_166, v_170, N_144, M_148, M_152, M_156, M_160, M_164, M_168, M_172, rfl, hS', hr_147, hr_151, hr_155, hr_159, hr_163, hr_167, hr_171⟩
     intro a h
     obtain ⟨N_145, hS'', le_145, ln_145⟩ := hS.call [0, 1] (by decide) rfl (l' := [Mem.one g_5 (.cells ([iV t_142.2.2.1, iV t_142.2.2.2.1, v_170] : List Value).toArray 58 (0, 0)), M_172]) (ow := [M_148, M_152, M_156, M_160, M_164, M_168]) rfl hS'
     replace hS : Sep w0 w_143 [N_145, Mem.one g_5 (.cells ([iV t_142.2.2.1, iV t_142.2.2.2.1, v_170] : List Value).toArray 58 (0, 0)), M_172, _, _, _, _, _, _, _, _, _, _, _, _, _, _, _, _, _, _, M_148, M_152, M_156, M_160, M_164, M_168] Z := hS''
     clear hS' hS''
     refine s_move h rfl rfl fun a h=>s_extract h rfl rfl rfl fun a h=>s_extract h rfl rfl rfl fun a h=>v_alloc h rfl ti32 hS fun w_174 g_175 hS' a h => ?_
     replace hS : Sep w0 w_174 [_, _, _, _, _, _, _, _, _, _, _, _, _, _, _, _, _, _, _, _, _, _, _, _, _, _, _, Mem.one g_175 (.cells ([iV 0, iV 0, iV 0, iV 0, iV 0, iV 0, .bool false, iV 0, iV 0, iV 0, iV 0, nS, iV 0, iV 0, nS, nS, iV 0, iV 0, iV 0, iV 0, iV 0, nS, nS, nS] : List Value).toArray 32 (0, 0))] Z := hS'
     clear hS'
     obtain ⟨w_176, hs', hS'⟩ := hS.store (P := Try.prog) (p := 27) (o := 0) (t := 32) (v := .agg ([iV t_142.1.Kind, iV t_142.1.From, iV t_142.1.To, iV t_142.1.View, iV t_142.1.Inst, iV t_142.1.Len, .bool t_142.1.Has, iV t_142.1.Members, iV t_142.1.Source, iV t_142.1.At, iV t_142.1.Total, v_146, iV t_142.1.Hop, iV t_142.1.Seq, v_150, v_154, iV t_142.1.Index, iV t_142.1.Entry.Sess, iV t_142.1.Entry.Seq, iV t_142.1.Entry.Cmd.Kind, iV t_142.1.Entry.Cmd.Who, v_158, v_162, v_166] : List Value).toArray) (vs := [iV t_142.1.Kind, iV t_142.1.From, iV t_142.1.To, iV t_142.1.View, iV t_142.1.Inst, iV t_142.1.Len, .bool t_142.1.Has, iV t_142.1.Members, iV t_142.1.Source, iV t_142.1.At, iV t_142.1.Total, v_146, iV t_142.1.Hop, iV t_142.1.Seq, v_150, v_154, iV t_142.1.Index, iV t_142.1.Entry.Sess, iV t_142.1.Entry.Seq, iV t_142.1.Entry.Cmd.Kind, iV t_142.1.Entry.Cmd.Who, v_158, v_162, v_166]) rfl ti32 rfl rfl rfl (by intro u hu; simp only [List.mem_cons, List.not_mem_nil, or_false] at hu; rcases hu with rfl | rfl | rfl | rfl | rfl | rfl | rfl | rfl | rfl | rfl | rfl | rfl | rfl | rfl | rfl | rfl | rfl | rfl | rfl | rfl | rfl | rfl | rfl | rfl <;> first | rfl | exact hr_147.one | exact hr_151.one | exact hr_155.one | exact hr_159.one | exact hr_163.one | exact hr_167.one)
     refine s_store h rfl rfl hs' ?_
     replace hS : Sep w0 w_176 [_, _, _, _, _, _, _, _, _, _, _, _, _, _, _, _, _, _, _, _, _, _, _, _, _, _, _, Mem.one g_175 (.cells ([iV t_142.1.Kind, iV t_142.1.From, iV t_142.1.To, iV t_142.1.View, iV t_142.1.Inst, iV t_142.1.Len, .bool t_142.1.Has, iV t_142.1.Members, iV t_142.1.Source, iV t_142.1.At, iV t_142.1.Total, v_146, iV t_142.1.Hop, iV t_142.1.Seq, v_150, v_154, iV t_142.1.Index, iV t_142.1.Entry.Sess, iV t_142.1.Entry.Seq, iV t_142.1.Entry.Cmd.Kind, iV t_142.1.Entry.Cmd.Who, v_158, v_162, v_166] : List Value).toArray 32 (0, 0))] Z := hS'
     clear hs' hS'
     refine s_assign h rfl rfl fun a h=>wpList_nil <| x_then_n <| wp_seq <| wp_region_lit <| s_move h rfl rfl fun a h=>?_
     obtain ⟨t_177, et_177, H⟩ := Option.bind_eq_some_iff.1 H
     refine s_call h rfl Try.call11 rfl (nets_Net_Take.calls K _ t_142.2.2.1 t_142.2.2.2.1 t_142.2.2.2.2 _ _ 0 t_177 w0 _ _ N_145 (hS.new_zed [0, 1]) (hS.enter [0, 1] (by decide)) ((hr_171.mono (Mem.un_le le_145 ln_145)).mono (Mem.le.refl _)) et_177) ?_
     rintro _ w_178 ⟨v_181, v_185, v_189, v_193, v_197, v_201, v_205, N_179, M_183, M_187, M_191, M_195, M_199, M_203, M_207, rfl, hS', hr_182, hr_186, hr_190, hr_194, hr_198, hr_202, hr_206⟩
     intro a h
     obtain ⟨N_180, hS'', le_180, ln_180⟩ := hS.call [0, 1] (by decide) rfl (l' := [Mem.one g_5 (.cells ([iV t_177.2.2.1, iV t_177.2.2.2.1, v_205] : List Value).toArray 58 (0, 0)), M_207]) (ow := [M_183, M_187, M_191, M_195, M_199, M_203]) rfl hS'
     replace hS : Sep w0 w_178 [N_180, Mem.one g_5 (.cells ([iV t_177.2.2.1, iV t_177.2.2.2.1, v_205] : List Value).toArray 58 (0, 0)), M_207, _, _, _, _, _, _, _, _, _, _, _, _, _, _, _, _, _, _, _, _, _, _, _, _, _, M_183, M_187, M_191, M_195, M_199, M_203] Z := hS''
     clear hS' hS''
     refine s_move h rfl rfl fun a h=>s_extract h rfl rfl rfl fun a h=>s_extract h rfl rfl rfl fun a h=>v_alloc h rfl ti32 hS fun w_209 g_210 hS' a h => ?_
     replace hS : Sep w0 w_209 [_, _, _, _, _, _, _, _, _, _, _, _, _, _, _, _, _, _, _, _, _, _, _, _, _, _, _, _, _, _, _, _, _, _, Mem.one g_210 (.cells ([iV 0, iV 0, iV 0, iV 0, iV 0, iV 0, .bool false, iV 0, iV 0, iV 0, iV 0, nS, iV 0, iV 0, nS, nS, iV 0, iV 0, iV 0, iV 0, iV 0, nS, nS, nS] : List Value).toArray 32 (0, 0))] Z := hS'
     clear hS'
     obtain ⟨w_211, hs', hS'⟩ := hS.store (P := Try.prog) (p := 34) (o := 0) (t := 32) (v := .agg ([iV t_177.1.Kind, iV t_177.1.From, iV t_177.1.To, iV t_177.1.View, iV t_177.1.Inst, iV t_177.1.Len, .bool t_177.1.Has, iV t_177.1.Members, iV t_177.1.Source, iV t_177.1.At, iV t_177.1.Total, v_181, iV t_177.1.Hop, iV t_177.1.Seq, v_185, v_189, iV t_177.1.Index, iV t_177.1.Entry.Sess, iV t_177.1.Entry.Seq, iV t_177.1.Entry.Cmd.Kind, iV t_177.1.Entry.Cmd.Who, v_193, v_197, v_201] : List Value).toArray) (vs := [iV t_177.1.Kind, iV t_177.1.From, iV t_177.1.To, iV t_177.1.View, iV t_177.1.Inst, iV t_177.1.Len, .bool t_177.1.Has, iV t_177.1.Members, iV t_177.1.Source, iV t_177.1.At, iV t_177.1.Total, v_181, iV t_177.1.Hop, iV t_177.1.Seq, v_185, v_189, iV t_177.1.Index, iV t_177.1.Entry.Sess, iV t_177.1.Entry.Seq, iV t_177.1.Entry.Cmd.Kind, iV t_177.1.Entry.Cmd.Who, v_193, v_197, v_201]) rfl ti32 rfl rfl rfl (by intro u hu; simp only [List.mem_cons, List.not_mem_nil, or_false] at hu; rcases hu with rfl | rfl | rfl | rfl | rfl | rfl | rfl | rfl | rfl | rfl | rfl | rfl | rfl | rfl | rfl | rfl | rfl | rfl | rfl | rfl | rfl | rfl | rfl | rfl <;> first | rfl | exact hr_182.one | exact hr_186.one | exact hr_190.one | exact hr_194.one | exact hr_198.one | exact hr_202.one)
     refine s_store h rfl rfl hs' ?_
     replace hS : Sep w0 w_211 [_, _, _, _, _, _, _, _, _, _, _, _, _, _, _, _, _, _, _, _, _, _, _, _, _, _, _, _, _, _, _, _, _, _, Mem.one g_210 (.cells ([iV t_177.1.Kind, iV t_177.1.From, iV t_177.1.To, iV t_177.1.View, iV t_177.1.Inst, iV t_177.1.Len, .bool t_177.1.Has, iV t_177.1.Members, iV t_177.1.Source, iV t_177.1.At, iV t_177.1.Total, v_181, iV t_177.1.Hop, iV t_177.1.Seq, v_185, v_189, iV t_177.1.Index, iV t_177.1.Entry.Sess, iV t_177.1.Entry.Seq, iV t_177.1.Entry.Cmd.Kind, iV t_177.1.Entry.Cmd.Who, v_193, v_197, v_201] : List Value).toArray 32 (0, 0))] Z := hS'
     clear hs' hS'
     refine s_assign h rfl rfl fun a h=>wpList_nil ?_
     replace h : Fr 125 a [(6, _), (7, _), (8, _), (10, .bool t_72.2.1), (11, .pointer (some ⟨g_140, 0, none⟩)), (12, .bool t_107.2.1), (13, .pointer (some ⟨g_175, 0, none⟩)), (14, .bool t_142.2.1), (16, .bool t_177.2.1)] := h.keep [6, 7, 8, 10, 11, 12, 13, 14, 16]
     refine x_then_n <| c_seq fun KJ_212 hKJ_212 => wp_region_lit <| s_move h rfl rfl fun a h=>s_not h rfl rfl fun a h=>s_move h rfl rfl fun a h=>?_
     by_cases hc_213 : t_72.2.1 = true
     ·rw [if_pos hc_213] at H
      cases H
     ·rw [if_neg hc_213] at H
      refine s_on h rfl rfl (nt (Bool.eq_false_iff.2 hc_213)) <| s_move h rfl rfl fun a h=>s_on h rfl rfl (nt (Bool.eq_false_iff.2 hc_213)) <| s_not h rfl rfl fun a h=>s_pick_t h rfl rfl (nt (Bool.eq_false_iff.2 hc_213)) rfl fun a h=>s_move h rfl rfl fun a h=>?_
      by_cases hc_214 : t_177.2.1 = true
      ·rw [if_pos hc_214] at H
       cases H
      ·rw [if_neg hc_214] at H
       refine s_on h rfl rfl (nt (Bool.eq_false_iff.2 hc_214)) <| s_move h rfl rfl fun a h=>s_pick_t h rfl rfl (nt (Bool.eq_false_iff.2 hc_214)) rfl fun a h=>s_move h rfl rfl fun a h=>?_
       by_cases hc_215 : t_107.2.1 = true
       ·rw [if_pos hc_215] at H
        refine s_on h rfl rfl hc_215 <| s_move h rfl rfl fun a h=>s_pick_t h rfl rfl hc_215 rfl fun a h=>s_move h rfl rfl fun a h=>?_
        by_cases hc_216 : t_142.2.1 = true
        ·rw [if_pos hc_216] at H
         refine s_on h rfl rfl hc_216 <| s_load h rfl rfl (hS.load_agg (p := 6) (us := [iV x_44.Kind, iV x_44.From, iV x_44.To, iV x_44.View, iV x_44.Inst, iV x_44.Len, .bool x_44.Has, iV x_44.Members, iV x_44.Source, iV x_44.At, iV x_44.Total, v_45, iV x_44.Hop, iV x_44.Seq, v_47, v_49, iV x_44.Index, iV x_44.Entry.Sess, iV x_44.Entry.Seq, iV x_44.Entry.Cmd.Kind, iV x_44.Entry.Cmd.Who, v_51, v_53, v_55]) rfl U32 rfl ti32 rfl rfl) fun a h=>s_on h rfl rfl hc_216 <| s_load h rfl rfl (hS.load_agg (p := 20) (us := [iV t_107.1.Kind, iV t_107.1.From, iV t_107.1.To, iV t_107.1.View, iV t_107.1.Inst, iV t_107.1.Len, .bool t_107.1.Has, iV t_107.1.Members, iV t_107.1.Source, iV t_107.1.At, iV t_107.1.Total, v_111, iV t_107.1.Hop, iV t_107.1.Seq, v_115, v_119, iV t_107.1.Index, iV t_107.1.Entry.Sess, iV t_107.1.Entry.Seq, iV t_107.1.Entry.Cmd.Kind, iV t_107.1.Entry.Cmd.Who, v_123, v_127, v_131]) rfl U32 rfl ti32 rfl rfl) fun a h=>?_
         refine s_on h rfl rfl hc_216 ?_
         obtain ⟨t_217, et_217, H⟩ := Option.bind_eq_some_iff.1 H
         refine s_call h rfl Try.call17 rfl (hocketref11_Same.calls K x_44 _ _ _ _ _ _ t_107.1 _ _ _ _ _ _ t_217 w0 _ _ _ (Mem.le.refl _) (hS.enter [] (by decide)) (hr_46.mono ((le_62.trans (le_75.trans (le_110.trans (le_145.trans le_180)))).trans (hS.new_zed []))) (hr_48.mono ((le_62.trans (le_75.trans (le_110.trans (le_145.trans le_180)))).trans (hS.new_zed []))) (hr_50.mono ((le_62.trans (le_75.trans (le_110.trans (le_145.trans le_180)))).trans (hS.new_zed []))) (hr_52.mono ((le_62.trans (le_75.trans (le_110.trans (le_145.trans le_180)))).trans (hS.new_zed []))) (hr_54.mono ((le_62.trans (le_75.trans (le_110.trans (le_145.trans le_180)))).trans (hS.new_zed []))) (hr_56.mono ((le_62.trans (le_75.trans (le_110.trans (le_145.trans le_180)))).trans (hS.new_zed []))) (hr_112.rd (hS.own_zed [] 13 (by decide)) (Mem.no_le _)) (hr_116.rd (hS.own_zed [] 14 (by decide)) (Mem.no_le _)) (hr_120.rd (hS.own_zed [] 15 (by decide)) (Mem.no_le _)) (hr_124.rd (hS.own_zed [] 16 (by decide)) (Mem.no_le _)) (hr_128.rd (hS.own_zed [] 17 (by decide)) (Mem.no_le _)) (hr_132.rd (hS.own_zed [] 18 (by decide)) (Mem.no_le _)) et_217) ?_
         rintro _ w_218 ⟨N_219, rfl, hS'⟩
         intro a h
         obtain ⟨N_220, hS'', le_220, ln_220⟩ := hS.call [] (by decide) rfl (l' := []) (ow := []) rfl hS'
         replace hS : Sep w0 w_218 [N_220, _, _, _, _, _, _, _, _, _, _, _, _, _, _, _, _, _, _, _, _, _, _, _, _, _, _, _, _, _, _, _, _, _, _] Z := hS''
         clear hS' hS''
         refine s_pick_t h rfl rfl hc_216 rfl fun a h=>s_move h rfl rfl fun a h=>?_
         by_cases hc_221 : t_217 = true
         ·rw [if_pos hc_221] at H
          refine s_on h rfl rfl hc_221 <| s_load h rfl rfl (hS.load_agg (p := 6) (us := [iV x_44.Kind, iV x_44.From, iV x_44.To, iV x_44.View, iV x_44.Inst, iV x_44.Len, .bool x_44.Has, iV x_44.Members, iV x_44.Source, iV x_44.At, iV x_44.Total, v_45, iV x_44.Hop, iV x_44.Seq, v_47, v_49, iV x_44.Index, iV x_44.Entry.Sess, iV x_44.Entry.Seq, iV x_44.Entry.Cmd.Kind, iV x_44.Entry.Cmd.Who, v_51, v_53, v_55]) rfl U32 rfl ti32 rfl rfl) fun a h=>s_on h rfl rfl hc_221 <| s_load h rfl rfl (hS.load_agg (p := 27) (us := [iV t_142.1.Kind, iV t_142.1.From, iV t_142.1.To, iV t_142.1.View, iV t_142.1.Inst, iV t_142.1.Len, .bool t_142.1.Has, iV t_142.1.Members, iV t_142.1.Source, iV t_142.1.At, iV t_142.1.Total, v_146, iV t_142.1.Hop, iV t_142.1.Seq, v_150, v_154, iV t_142.1.Index, iV t_142.1.Entry.Sess, iV t_142.1.Entry.Seq, iV t_142.1.Entry.Cmd.Kind, iV t_142.1.Entry.Cmd.Who, v_158, v_162, v_166]) rfl U32 rfl ti32 rfl rfl) fun a h=>?_
          refine s_on h rfl rfl hc_221 ?_
          obtain ⟨t_222, et_222, H⟩ := Option.bind_eq_some_iff.1 H
          refine s_call h rfl Try.call17 rfl (hocketref11_Same.calls K x_44 _ _ _ _ _ _ t_142.1 _ _ _ _ _ _ t_222 w0 _ _ _ (Mem.le.refl _) (hS.enter [] (by decide)) (hr_46.mono ((le_62.trans (le_75.trans (le_110.trans (le_145.trans (le_180.trans le_220))))).trans (hS.new_zed []))) (hr_48.mono ((le_62.trans (le_75.trans (le_110.trans (le_145.trans (le_180.trans le_220))))).trans (hS.new_zed []))) (hr_50.mono ((le_62.trans (le_75.trans (le_110.trans (le_145.trans (le_180.trans le_220))))).trans (hS.new_zed []))) (hr_52.mono ((le_62.trans (le_75.trans (le_110.trans (le_145.trans (le_180.trans le_220))))).trans (hS.new_zed []))) (hr_54.mono ((le_62.trans (le_75.trans (le_110.trans (le_145.trans (le_180.trans le_220))))).trans (hS.new_zed []))) (hr_56.mono ((le_62.trans (le_75.trans (le_110.trans (le_145.trans (le_180.trans le_220))))).trans (hS.new_zed []))) (hr_147.rd (hS.own_zed [] 20 (by decide)) (Mem.no_le _)) (hr_151.rd (hS.own_zed [] 21 (by decide)) (Mem.no_le _)) (hr_155.rd (hS.own_zed [] 22 (by decide)) (Mem.no_le _)) (hr_159.rd (hS.own_zed [] 23 (by decide)) (Mem.no_le _)) (hr_163.rd (hS.own_zed [] 24 (by decide)) (Mem.no_le _)) (hr_167.rd (hS.own_zed [] 25 (by decide)) (Mem.no_le _)) et_222) ?_
          rintro _ w_223 ⟨N_224, rfl, hS'⟩
          intro a h
          obtain ⟨N_225, hS'', le_225, ln_225⟩ := hS.call [] (by decide) rfl (l' := []) (ow := []) rfl hS'
          replace hS : Sep w0 w_223 [N_225, _, _, _, _, _, _, _, _, _, _, _, _, _, _, _, _, _, _, _, _, _, _, _, _, _, _, _, _, _, _, _, _, _, _] Z := hS''
          clear hS' hS''
          refine s_pick_t h rfl rfl hc_221 rfl fun a h=>s_move h rfl rfl fun a h=>?_
          by_cases hc_226 : t_222 = true
          ·rw [if_pos hc_226] at H
           refine s_on h rfl rfl hc_226 <| s_move h rfl rfl fun a h=>s_on h rfl rfl hc_226 ?_
           obtain ⟨t_227, et_227, H⟩ := Option.bind_eq_some_iff.1 H
           refine s_call h rfl Try.call12 rfl (nets_Net_Count.calls _ t_177.2.2.1 t_177.2.2.2.1 t_177.2.2.2.2 _ t_227 w0 _ _ _ (Mem.le.refl _) (hS.enter [0] (by decide)) ((hr_206.mono (Mem.un_le le_180 ln_180)).rd (hS.own_zed [0] 1 (by decide)) ((le_220.trans le_225).trans (hS.new_zed [0]))) et_227) ?_
           rintro _ w_228 ⟨N_229, rfl, hS'⟩
           intro a h
           obtain ⟨N_230, hS'', le_230, ln_230⟩ := hS.call [0] (by decide) rfl (l' := [Mem.one g_5 (.cells ([iV t_177.2.2.1, iV t_177.2.2.2.1, v_205] : List Value).toArray 58 (0, 0))]) (ow := []) rfl hS'
           replace hS : Sep w0 w_228 [N_230, _, _, _, _, _, _, _, _, _, _, _, _, _, _, _, _, _, _, _, _, _, _, _, _, _, _, _, _, _, _, _, _, _, _] Z := hS''
           clear hS' hS''
           refine s_on h rfl rfl hc_226 <| s_cmp (b := (t_227 == 0)) h rfl rfl rfl (.inl ⟨rfl, rfl⟩) fun a h=>s_pick_t h rfl rfl hc_226 rfl fun a h=>s_move h rfl rfl fun a h=>?_
           by_cases hc_231 : t_227 = 0
           ·rw [if_pos hc_231] at H
            refine s_on h rfl rfl (beq_iff_eq.2 hc_231) ?_
            obtain ⟨t_232, et_232, H⟩ := Option.bind_eq_some_iff.1 H
            refine s_call h rfl Try.call13 rfl (hocketlaw23_awake.calls K  t_232 w0 _ _ _ (Mem.le.refl _) (hS.enter [] (by decide))  et_232) ?_
            rintro _ w_233 ⟨N_234, rfl, hS'⟩
            intro a h
            obtain ⟨N_235, hS'', le_235, ln_235⟩ := hS.call [] (by decide) rfl (l' := []) (ow := []) rfl hS'
            replace hS : Sep w0 w_233 [N_235, _, _, _, _, _, _, _, _, _, _, _, _, _, _, _, _, _, _, _, _, _, _, _, _, _, _, _, _, _, _, _, _, _, _] Z := hS''
            clear hS' hS''
            refine s_pick_t h rfl rfl (beq_iff_eq.2 hc_231) rfl fun a h=>s_assign h rfl rfl fun a h=>wpList_nil <| x_then_n (hKJ_212 _ _ ?_)
            refine wp_ret ?_
            exact f_ret h (rs := [.tmp 6]) rfl (.tmp rfl .nil) ⟨_, rfl, N_235, rfl, (Sep.sel hS [0] (by decide))⟩
           ·rw [if_neg hc_231] at H
            cases H
          ·rw [if_neg hc_226] at H
           cases H
         ·rw [if_neg hc_221] at H
          cases H
        ·rw [if_neg hc_216] at H
         cases H
       ·rw [if_neg hc_215] at H
        cases H
   clear hKJ_61
   refine wp_region_lit <| s_move h rfl rfl fun a h=>?_
   obtain ⟨t_236, et_236, H⟩ := Option.bind_eq_some_iff.1 H
   refine s_call h rfl Try.call16 rfl (nets_Net_Flip.calls _ x_39.n x_39.mask x_39.l _ _ 0 (-1) t_236 w0 _ _ N_37 (hS.new_zed [0, 1]) (hS.enter [0, 1] (by decide)) (ho_43.mono (Mem.le.refl _)) et_236) ?_
   rintro _ w_237 ⟨v_240, N_238, M_242, rfl, hS', hr_241⟩
   intro a h
   obtain ⟨N_239, hS'', le_239, ln_239⟩ := hS.call [0, 1] (by decide) rfl (l' := [Mem.one g_5 (.cells ([iV t_236.2.1, iV t_236.2.2.1, v_240] : List Value).toArray 58 (0, 0)), M_242]) (ow := []) rfl hS'
   replace hS : Sep w0 w_237 [N_239, Mem.one g_5 (.cells ([iV t_236.2.1, iV t_236.2.2.1, v_240] : List Value).toArray 58 (0, 0)), M_242, _, _, _, _] Z := hS''
   clear hS' hS''
   refine s_move h rfl rfl fun a h=>?_
   by_cases hc_244 : t_236.1 = true
   ·rw [if_pos hc_244] at H
    refine s_off h rfl rfl rfl hc_244 fun a h=>s_off h rfl rfl rfl hc_244 fun a h=>s_off h rfl rfl rfl hc_244 fun a h=>s_off h rfl rfl rfl hc_244 fun a h=>s_pick_t h rfl rfl hc_244 rfl fun a h=>s_move h rfl rfl fun a h=>s_off h rfl rfl rfl rfl fun a h=>s_off h rfl rfl rfl rfl fun a h=>s_off h rfl rfl rfl rfl fun a h=>s_pick_t h rfl rfl rfl rfl fun a h=>s_move h rfl rfl fun a h=>s_off h rfl rfl rfl rfl fun a h=>?_
    refine s_off h rfl rfl rfl rfl fun a h=>s_off h rfl rfl rfl rfl fun a h=>s_off h rfl rfl rfl rfl fun a h=>s_pick_t h rfl rfl rfl rfl fun a h=>s_move h rfl rfl fun a h=>s_off h rfl rfl rfl rfl fun a h=>s_off h rfl rfl rfl rfl fun a h=>s_off h rfl rfl rfl rfl fun a h=>s_pick_t h rfl rfl rfl rfl fun a h=>s_move h rfl rfl fun a h=>s_off h rfl rfl rfl rfl fun a h=>s_off h rfl rfl rfl rfl fun a h=>?_
    refine s_off h rfl rfl rfl rfl fun a h=>s_pick_t h rfl rfl rfl rfl fun a h=>s_move h rfl rfl fun a h=>s_off h rfl rfl rfl rfl fun a h=>s_off h rfl rfl rfl rfl fun a h=>s_off h rfl rfl rfl rfl fun a h=>s_pick_t h rfl rfl rfl rfl fun a h=>wpList_nil ?_
    replace hS : Sep w0 w_237 [_, _, _, _, _, _, _] Z := hS
    replace h : Fr 125 a [(6, _), (7, _), (8, _), (74, .bool true)] := h.keep [6, 7, 8, 74]
    exact x_then_n (hJ_j_70 true (⟨t_236.2.1, t_236.2.2.1, t_236.2.2.2⟩ : nets_Net) H _ _ ⟨v_240, N_239, M_242, h, (Sep.sel hS [0, 1, 2, 1002, 1003, 1004, 6] (by decide)), le_239, ((hr_241.mono (Mem.un_le le_239 ln_239)).mono (Mem.le.refl _))⟩)
   ·rw [if_neg hc_244] at H
    refine s_on h rfl rfl (Bool.eq_false_iff.2 hc_244) <| s_move h rfl rfl fun a h=>s_on h rfl rfl (Bool.eq_false_iff.2 hc_244) <| s_move h rfl rfl fun a h=>s_on h rfl rfl (Bool.eq_false_iff.2 hc_244) ?_
    obtain ⟨t_245, et_245, H⟩ := Option.bind_eq_some_iff.1 H
    refine s_call h rfl Try.call16 rfl (nets_Net_Flip.calls _ t_236.2.1 t_236.2.2.1 t_236.2.2.2 _ _ 0 (band .i64 x2 65535) t_245 w0 _ _ N_239 (hS.new_zed [0, 1]) (hS.enter [0, 1] (by decide)) ((hr_241.mono (Mem.un_le le_239 ln_239)).mono (Mem.le.refl _)) et_245) ?_
    rintro _ w_246 ⟨v_249, N_247, M_251, rfl, hS', hr_250⟩
    intro a h
    obtain ⟨N_248, hS'', le_248, ln_248⟩ := hS.call [0, 1] (by decide) rfl (l' := [Mem.one g_5 (.cells ([iV t_245.2.1, iV t_245.2.2.1, v_249] : List Value).toArray 58 (0, 0)), M_251]) (ow := []) rfl hS'
    replace hS : Sep w0 w_246 [N_248, Mem.one g_5 (.cells ([iV t_245.2.1, iV t_245.2.2.1, v_249] : List Value).toArray 58 (0, 0)), M_251, _, _, _, _] Z := hS''
    clear hS' hS''
    refine s_on h rfl rfl (Bool.eq_false_iff.2 hc_244) <| s_not h rfl rfl fun a h=>s_pick_f h rfl rfl (Bool.eq_false_iff.2 hc_244) rfl fun a h=>s_move h rfl rfl fun a h=>?_
    by_cases hc_253 : t_245.1 = true
    ·rw [if_pos hc_253] at H
     refine s_on h rfl rfl (nf hc_253) <| s_move h rfl rfl fun a h=>s_on h rfl rfl (nf hc_253) <| s_move h rfl rfl fun a h=>s_on h rfl rfl (nf hc_253) ?_
     obtain ⟨t_254, et_254, H⟩ := Option.bind_eq_some_iff.1 H
     refine s_call h rfl Try.call16 rfl (nets_Net_Flip.calls _ t_245.2.1 t_245.2.2.1 t_245.2.2.2 _ _ 0 (band .i64 x2 65535) t_254 w0 _ _ N_248 (hS.new_zed [0, 1]) (hS.enter [0, 1] (by decide)) ((hr_250.mono (Mem.un_le le_248 ln_248)).mono (Mem.le.refl _)) et_254) ?_
     rintro _ w_255 ⟨v_258, N_256, M_260, rfl, hS', hr_259⟩
     intro a h
     obtain ⟨N_257, hS'', le_257, ln_257⟩ := hS.call [0, 1] (by decide) rfl (l' := [Mem.one g_5 (.cells ([iV t_254.2.1, iV t_254.2.2.1, v_258] : List Value).toArray 58 (0, 0)), M_260]) (ow := []) rfl hS'
     replace hS : Sep w0 w_255 [N_257, Mem.one g_5 (.cells ([iV t_254.2.1, iV t_254.2.2.1, v_258] : List Value).toArray 58 (0, 0)), M_260, _, _, _, _] Z := hS''
     clear hS' hS''
     refine s_pick_f h rfl rfl (nf hc_253) rfl fun a h=>s_move h rfl rfl fun a h=>?_
     by_cases hc_262 : t_254.1 = true
     ·rw [if_pos hc_262] at H
      refine s_off h rfl rfl rfl hc_262 fun a h=>s_off h rfl rfl rfl hc_262 fun a h=>s_off h rfl rfl rfl hc_262 fun a h=>s_off h rfl rfl rfl hc_262 fun a h=>s_pick_t h rfl rfl hc_262 rfl fun a h=>s_move h rfl rfl fun a h=>s_off h rfl rfl rfl rfl fun a h=>s_off h rfl rfl rfl rfl fun a h=>s_off h rfl rfl rfl rfl fun a h=>s_pick_t h rfl rfl rfl rfl fun a h=>s_move h rfl rfl fun a h=>s_off h rfl rfl rfl rfl fun a h=>?_
      refine s_off h rfl rfl rfl rfl fun a h=>s_off h rfl rfl rfl rfl fun a h=>s_pick_t h rfl rfl rfl rfl fun a h=>s_move h rfl rfl fun a h=>s_off h rfl rfl rfl rfl fun a h=>s_off h rfl rfl rfl rfl fun a h=>s_off h rfl rfl rfl rfl fun a h=>s_pick_t h rfl rfl rfl rfl fun a h=>wpList_nil ?_
      replace hS : Sep w0 w_255 [_, _, _, _, _, _, _] Z := hS
      replace h : Fr 125 a [(6, _), (7, _), (8, _), (74, .bool true)] := h.keep [6, 7, 8, 74]
      exact x_then_n (hJ_j_70 true (⟨t_254.2.1, t_254.2.2.1, t_254.2.2.2⟩ : nets_Net) H _ _ ⟨v_258, N_257, M_260, h, (Sep.sel hS [0, 1, 2, 1002, 1003, 1004, 6] (by decide)), (le_239.trans (le_248.trans le_257)), ((hr_259.mono (Mem.un_le le_257 ln_257)).mono (Mem.le.refl _))⟩)
     ·rw [if_neg hc_262] at H
      refine s_on h rfl rfl (Bool.eq_false_iff.2 hc_262) <| s_move h rfl rfl fun a h=>s_on h rfl rfl (Bool.eq_false_iff.2 hc_262) <| s_move h rfl rfl fun a h=>s_on h rfl rfl (Bool.eq_false_iff.2 hc_262) <| s_arith (r := w64 ((band .i64 x2 65535) + 1)) h rfl rfl rfl (.inl ⟨rfl, rfl⟩) fun a h=>s_on h rfl rfl (Bool.eq_false_iff.2 hc_262) ?_
      obtain ⟨t_263, et_263, H⟩ := Option.bind_eq_some_iff.1 H
      refine s_call h rfl Try.call16 rfl (nets_Net_Flip.calls _ t_254.2.1 t_254.2.2.1 t_254.2.2.2 _ _ 0 (w64 ((band .i64 x2 65535) + 1)) t_263 w0 _ _ N_257 (hS.new_zed [0, 1]) (hS.enter [0, 1] (by decide)) ((hr_259.mono (Mem.un_le le_257 ln_257)).mono (Mem.le.refl _)) et_263) ?_
      rintro _ w_264 ⟨v_267, N_265, M_269, rfl, hS', hr_268⟩
      intro a h
      obtain ⟨N_266, hS'', le_266, ln_266⟩ := hS.call [0, 1] (by decide) rfl (l' := [Mem.one g_5 (.cells ([iV t_263.2.1, iV t_263.2.2.1, v_267] : List Value).toArray 58 (0, 0)), M_269]) (ow := []) rfl hS'
      replace hS : Sep w0 w_264 [N_266, Mem.one g_5 (.cells ([iV t_263.2.1, iV t_263.2.2.1, v_267] : List Value).toArray 58 (0, 0)), M_269, _, _, _, _] Z := hS''
      clear hS' hS''
      refine s_pick_f h rfl rfl (Bool.eq_false_iff.2 hc_262) rfl fun a h=>s_move h rfl rfl fun a h=>?_
      by_cases hc_271 : t_263.1 = true
      ·rw [if_pos hc_271] at H
       refine s_off h rfl rfl rfl hc_271 fun a h=>s_off h rfl rfl rfl hc_271 fun a h=>s_off h rfl rfl rfl hc_271 fun a h=>s_pick_t h rfl rfl hc_271 rfl fun a h=>s_move h rfl rfl fun a h=>s_off h rfl rfl rfl rfl fun a h=>s_off h rfl rfl rfl rfl fun a h=>s_off h rfl rfl rfl rfl fun a h=>s_pick_t h rfl rfl rfl rfl fun a h=>s_move h rfl rfl fun a h=>s_off h rfl rfl rfl rfl fun a h=>s_off h rfl rfl rfl rfl fun a h=>?_
       refine s_off h rfl rfl rfl rfl fun a h=>s_pick_t h rfl rfl rfl rfl fun a h=>wpList_nil ?_
       replace hS : Sep w0 w_264 [_, _, _, _, _, _, _] Z := hS
       replace h : Fr 125 a [(6, _), (7, _), (8, _), (74, .bool true)] := h.keep [6, 7, 8, 74]
       exact x_then_n (hJ_j_70 true (⟨t_263.2.1, t_263.2.2.1, t_263.2.2.2⟩ : nets_Net) H _ _ ⟨v_267, N_266, M_269, h, (Sep.sel hS [0, 1, 2, 1002, 1003, 1004, 6] (by decide)), (le_239.trans (le_248.trans (le_257.trans le_266))), ((hr_268.mono (Mem.un_le le_266 ln_266)).mono (Mem.le.refl _))⟩)
      ·rw [if_neg hc_271] at H
       refine s_on h rfl rfl (Bool.eq_false_iff.2 hc_271) <| s_move h rfl rfl fun a h=>s_on h rfl rfl (Bool.eq_false_iff.2 hc_271) <| s_move h rfl rfl fun a h=>s_on h rfl rfl (Bool.eq_false_iff.2 hc_271) ?_
       obtain ⟨t_272, et_272, H⟩ := Option.bind_eq_some_iff.1 H
       refine s_call h rfl Try.call16 rfl (nets_Net_Flip.calls _ t_263.2.1 t_263.2.2.1 t_263.2.2.2 _ _ 3 (band .i64 x2 65535) t_272 w0 _ _ N_266 (hS.new_zed [0, 1]) (hS.enter [0, 1] (by decide)) ((hr_268.mono (Mem.un_le le_266 ln_266)).mono (Mem.le.refl _)) et_272) ?_
       rintro _ w_273 ⟨v_276, N_274, M_278, rfl, hS', hr_277⟩
       intro a h
       obtain ⟨N_275, hS'', le_275, ln_275⟩ := hS.call [0, 1] (by decide) rfl (l' := [Mem.one g_5 (.cells ([iV t_272.2.1, iV t_272.2.2.1, v_276] : List Value).toArray 58 (0, 0)), M_278]) (ow := []) rfl hS'
       replace hS : Sep w0 w_273 [N_275, Mem.one g_5 (.cells ([iV t_272.2.1, iV t_272.2.2.1, v_276] : List Value).toArray 58 (0, 0)), M_278, _, _, _, _] Z := hS''
       clear hS' hS''
       refine s_pick_f h rfl rfl (Bool.eq_false_iff.2 hc_271) rfl fun a h=>s_move h rfl rfl fun a h=>?_
       by_cases hc_280 : t_272.1 = true
       ·rw [if_pos hc_280] at H
        refine s_off h rfl rfl rfl hc_280 fun a h=>s_off h rfl rfl rfl hc_280 fun a h=>s_off h rfl rfl rfl hc_280 fun a h=>s_pick_t h rfl rfl hc_280 rfl fun a h=>s_move h rfl rfl fun a h=>s_off h rfl rfl rfl rfl fun a h=>s_off h rfl rfl rfl rfl fun a h=>s_off h rfl rfl rfl rfl fun a h=>s_pick_t h rfl rfl rfl rfl fun a h=>wpList_nil ?_
        replace hS : Sep w0 w_273 [_, _, _, _, _, _, _] Z := hS
        replace h : Fr 125 a [(6, _), (7, _), (8, _), (74, .bool true)] := h.keep [6, 7, 8, 74]
        exact x_then_n (hJ_j_70 true (⟨t_272.2.1, t_272.2.2.1, t_272.2.2.2⟩ : nets_Net) H _ _ ⟨v_276, N_275, M_278, h, (Sep.sel hS [0, 1, 2, 1002, 1003, 1004, 6] (by decide)), (le_239.trans (le_248.trans (le_257.trans (le_266.trans le_275)))), ((hr_277.mono (Mem.un_le le_275 ln_275)).mono (Mem.le.refl _))⟩)
       ·rw [if_neg hc_280] at H
        refine s_on h rfl rfl (Bool.eq_false_iff.2 hc_280) <| s_move h rfl rfl fun a h=>s_on h rfl rfl (Bool.eq_false_iff.2 hc_280) ?_
        obtain ⟨t_281, et_281, H⟩ := Option.bind_eq_some_iff.1 H
        refine s_call h rfl Try.call15 rfl (nets_Net_Twice.calls _ t_272.2.1 t_272.2.2.1 t_272.2.2.2 _ _ 0 t_281 w0 _ _ N_275 (hS.new_zed [0, 1]) (hS.enter [0, 1] (by decide)) ((hr_277.mono (Mem.un_le le_275 ln_275)).mono (Mem.le.refl _)) et_281) ?_
        rintro _ w_282 ⟨v_285, N_283, M_287, rfl, hS', hr_286⟩
        intro a h
        obtain ⟨N_284, hS'', le_284, ln_284⟩ := hS.call [0, 1] (by decide) rfl (l' := [Mem.one g_5 (.cells ([iV t_281.2.1, iV t_281.2.2.1, v_285] : List Value).toArray 58 (0, 0)), M_287]) (ow := []) rfl hS'
        replace hS : Sep w0 w_282 [N_284, Mem.one g_5 (.cells ([iV t_281.2.1, iV t_281.2.2.1, v_285] : List Value).toArray 58 (0, 0)), M_287, _, _, _, _] Z := hS''
        clear hS' hS''
        refine s_on h rfl rfl (Bool.eq_false_iff.2 hc_280) <| s_not h rfl rfl fun a h=>s_pick_f h rfl rfl (Bool.eq_false_iff.2 hc_280) rfl fun a h=>s_move h rfl rfl fun a h=>?_
        by_cases hc_289 : t_281.1 = true
        ·rw [if_pos hc_289] at H
         refine s_on h rfl rfl (nf hc_289) <| s_move h rfl rfl fun a h=>s_on h rfl rfl (nf hc_289) <| s_move h rfl rfl fun a h=>s_on h rfl rfl (nf hc_289) ?_
         obtain ⟨t_290, et_290, H⟩ := Option.bind_eq_some_iff.1 H
         refine s_call h rfl Try.call16 rfl (nets_Net_Flip.calls _ t_281.2.1 t_281.2.2.1 t_281.2.2.2 _ _ 3 (band .i64 x2 65535) t_290 w0 _ _ N_284 (hS.new_zed [0, 1]) (hS.enter [0, 1] (by decide)) ((hr_286.mono (Mem.un_le le_284 ln_284)).mono (Mem.le.refl _)) et_290) ?_
         rintro _ w_291 ⟨v_294, N_292, M_296, rfl, hS', hr_295⟩
         intro a h
         obtain ⟨N_293, hS'', le_293, ln_293⟩ := hS.call [0, 1] (by decide) rfl (l' := [Mem.one g_5 (.cells ([iV t_290.2.1, iV t_290.2.2.1, v_294] : List Value).toArray 58 (0, 0)), M_296]) (ow := []) rfl hS'
         replace hS : Sep w0 w_291 [N_293, Mem.one g_5 (.cells ([iV t_290.2.1, iV t_290.2.2.1, v_294] : List Value).toArray 58 (0, 0)), M_296, _, _, _, _] Z := hS''
         clear hS' hS''
         refine s_pick_f h rfl rfl (nf hc_289) rfl fun a h=>wpList_nil ?_
         replace hS : Sep w0 w_291 [_, _, _, _, _, _, _] Z := hS
         replace h : Fr 125 a [(6, _), (7, _), (8, _), (74, .bool t_290.1)] := h.keep [6, 7, 8, 74]
         exact x_then_n (hJ_j_70 t_290.1 (⟨t_290.2.1, t_290.2.2.1, t_290.2.2.2⟩ : nets_Net) H _ _ ⟨v_294, N_293, M_296, h, (Sep.sel hS [0, 1, 2, 1002, 1003, 1004, 6] (by decide)), (le_239.trans (le_248.trans (le_257.trans (le_266.trans (le_275.trans (le_284.trans le_293)))))), ((hr_295.mono (Mem.un_le le_293 ln_293)).mono (Mem.le.refl _))⟩)
        ·rw [if_neg hc_289] at H
         refine s_off h rfl rfl rfl (nt (Bool.eq_false_iff.2 hc_289)) fun a h=>s_off h rfl rfl rfl (nt (Bool.eq_false_iff.2 hc_289)) fun a h=>s_off h rfl rfl rfl (nt (Bool.eq_false_iff.2 hc_289)) fun a h=>s_pick_t h rfl rfl (nt (Bool.eq_false_iff.2 hc_289)) rfl fun a h=>wpList_nil ?_
         replace hS : Sep w0 w_282 [_, _, _, _, _, _, _] Z := hS
         replace h : Fr 125 a [(6, _), (7, _), (8, _), (74, .bool true)] := h.keep [6, 7, 8, 74]
         exact x_then_n (hJ_j_70 true (⟨t_281.2.1, t_281.2.2.1, t_281.2.2.2⟩ : nets_Net) H _ _ ⟨v_285, N_284, M_287, h, (Sep.sel hS [0, 1, 2, 1002, 1003, 1004, 6] (by decide)), (le_239.trans (le_248.trans (le_257.trans (le_266.trans (le_275.trans le_284))))), ((hr_286.mono (Mem.un_le le_284 ln_284)).mono (Mem.le.refl _))⟩)
    ·rw [if_neg hc_253] at H
     refine s_off h rfl rfl rfl (nt (Bool.eq_false_iff.2 hc_253)) fun a h=>s_off h rfl rfl rfl (nt (Bool.eq_false_iff.2 hc_253)) fun a h=>s_off h rfl rfl rfl (nt (Bool.eq_false_iff.2 hc_253)) fun a h=>s_pick_t h rfl rfl (nt (Bool.eq_false_iff.2 hc_253)) rfl fun a h=>s_move h rfl rfl fun a h=>s_off h rfl rfl rfl rfl fun a h=>s_off h rfl rfl rfl rfl fun a h=>s_off h rfl rfl rfl rfl fun a h=>s_off h rfl rfl rfl rfl fun a h=>s_pick_t h rfl rfl rfl rfl fun a h=>s_move h rfl rfl fun a h=>s_off h rfl rfl rfl rfl fun a h=>?_
     refine s_off h rfl rfl rfl rfl fun a h=>s_off h rfl rfl rfl rfl fun a h=>s_pick_t h rfl rfl rfl rfl fun a h=>s_move h rfl rfl fun a h=>s_off h rfl rfl rfl rfl fun a h=>s_off h rfl rfl rfl rfl fun a h=>s_off h rfl rfl rfl rfl fun a h=>s_pick_t h rfl rfl rfl rfl fun a h=>s_move h rfl rfl fun a h=>s_off h rfl rfl rfl rfl fun a h=>s_off h rfl rfl rfl rfl fun a h=>s_off h rfl rfl rfl rfl fun a h=>?_
     refine s_pick_t h rfl rfl rfl rfl fun a h=>wpList_nil ?_
     replace hS : Sep w0 w_246 [_, _, _, _, _, _, _] Z := hS
     replace h : Fr 125 a [(6, _), (7, _), (8, _), (74, .bool true)] := h.keep [6, 7, 8, 74]
     exact x_then_n (hJ_j_70 true (⟨t_245.2.1, t_245.2.2.1, t_245.2.2.2⟩ : nets_Net) H _ _ ⟨v_249, N_248, M_251, h, (Sep.sel hS [0, 1, 2, 1002, 1003, 1004, 6] (by decide)), (le_239.trans le_248), ((hr_250.mono (Mem.un_le le_248 ln_248)).mono (Mem.le.refl _))⟩)
 clear hKJ_36
 refine wp_region_lit <| s_move h rfl rfl fun a h=>s_ptrNil (b := false) h rfl U23 rfl (.inl ⟨rfl, rfl⟩) fun a h=>s_move h rfl rfl fun a h=>s_on h rfl rfl rfl <| s_move h rfl rfl fun a h=>s_on h rfl rfl rfl <| s_load h rfl rfl (hS.load_agg (p := 6) (us := [iV t_10.Kind, iV t_10.From, iV t_10.To, iV t_10.View, iV t_10.Inst, iV t_10.Len, .bool t_10.Has, iV t_10.Members, iV t_10.Source, iV t_10.At, iV t_10.Total, v_14, iV t_10.Hop, iV t_10.Seq, v_18, v_22, iV t_10.Index, iV t_10.Entry.Sess, iV t_10.Entry.Seq, iV t_10.Entry.Cmd.Kind, iV t_10.Entry.Cmd.Who, v_26, v_28, v_30]) rfl U32 rfl ti32 rfl rfl) fun a h=>s_on h rfl rfl rfl ?_
 obtain ⟨N_298, hS', le_298, lo_298⟩ := hS.freeze 2 rfl
 replace hS : Sep w0 w_34 [N_298, _, _, Mem.no, _, _, _] Z := hS'
 clear hS'
 obtain ⟨N_299, hS', le_299, lo_299⟩ := hS.freeze 3 rfl
 replace hS : Sep w0 w_34 [N_299, _, _, _, Mem.no, _, _] Z := hS'
 clear hS'
 obtain ⟨N_300, hS', le_300, lo_300⟩ := hS.freeze 4 rfl
 replace hS : Sep w0 w_34 [N_300, _, _, _, _, Mem.no, _] Z := hS'
 clear hS'
 obtain ⟨t_301, et_301, H⟩ := Option.bind_eq_some_iff.1 H
 refine s_call h rfl Try.call10 rfl (nets_Net_Send.calls K _ t_1.1 t_1.2.1 t_1.2.2 _ _ t_10 _ _ _ _ _ _ t_301 w0 _ _ N_300 (hS.new_zed [0, 1]) (hS.enter [0, 1] (by decide)) ((hr_7.mono ln_4).mono (le_13.trans (le_298.trans (le_299.trans le_300)))) ((hr_15.rd lo_298 (Mem.no_le _)).mono (le_299.trans le_300)) ((hr_19.rd lo_299 (Mem.no_le _)).mono le_300) (hr_23.rd lo_300 (Mem.no_le _)) ((hr_27.mono ln_13).mono (le_298.trans (le_299.trans le_300))) ((hr_29.mono ln_13).mono (le_298.trans (le_299.trans le_300))) ((hr_31.mono ln_13).mono (le_298.trans (le_299.trans le_300))) et_301) ?_
 rintro _ w_302 ⟨v_305, N_303, M_307, rfl, hS', hr_306⟩
 intro a h
 obtain ⟨N_304, hS'', le_304, ln_304⟩ := hS.call [0, 1] (by decide) rfl (l' := [Mem.one g_5 (.cells ([iV t_301.2.1, iV t_301.2.2.1, v_305] : List Value).toArray 58 (0, 0)), M_307]) (ow := []) rfl hS'
 replace hS : Sep w0 w_302 [N_304, Mem.one g_5 (.cells ([iV t_301.2.1, iV t_301.2.2.1, v_305] : List Value).toArray 58 (0, 0)), M_307, _, _, _, _] Z := hS''
 clear hS' hS''
 refine s_on h rfl rfl rfl <| s_not h rfl rfl fun a h=>s_pick_f h rfl rfl rfl rfl fun a h=>s_move h rfl rfl fun a h=>?_
 by_cases hc_309 : t_301.1 = true
 ·rw [if_pos hc_309] at H
  refine s_on h rfl rfl (nf hc_309) <| s_move h rfl rfl fun a h=>s_on h rfl rfl (nf hc_309) ?_
  obtain ⟨t_310, et_310, H⟩ := Option.bind_eq_some_iff.1 H
  refine s_call h rfl Try.call15 rfl (nets_Net_Twice.calls _ t_301.2.1 t_301.2.2.1 t_301.2.2.2 _ _ 0 t_310 w0 _ _ N_304 (hS.new_zed [0, 1]) (hS.enter [0, 1] (by decide)) ((hr_306.mono (Mem.un_le le_304 ln_304)).mono (Mem.le.refl _)) et_310) ?_
  rintro _ w_311 ⟨v_314, N_312, M_316, rfl, hS', hr_315⟩
  intro a h
  obtain ⟨N_313, hS'', le_313, ln_313⟩ := hS.call [0, 1] (by decide) rfl (l' := [Mem.one g_5 (.cells ([iV t_310.2.1, iV t_310.2.2.1, v_314] : List Value).toArray 58 (0, 0)), M_316]) (ow := []) rfl hS'
  replace hS : Sep w0 w_311 [N_313, Mem.one g_5 (.cells ([iV t_310.2.1, iV t_310.2.2.1, v_314] : List Value).toArray 58 (0, 0)), M_316, _, _, _, _] Z := hS''
  clear hS' hS''
  refine s_on h rfl rfl (nf hc_309) <| s_not h rfl rfl fun a h=>s_pick_f h rfl rfl (nf hc_309) rfl fun a h=>s_move h rfl rfl fun a h=>?_
  by_cases hc_318 : t_310.1 = true
  ·rw [if_pos hc_318] at H
   refine s_on h rfl rfl (nf hc_318) <| s_move h rfl rfl fun a h=>s_on h rfl rfl (nf hc_318) ?_
   obtain ⟨t_319, et_319, H⟩ := Option.bind_eq_some_iff.1 H
   refine s_call h rfl Try.call15 rfl (nets_Net_Twice.calls _ t_310.2.1 t_310.2.2.1 t_310.2.2.2 _ _ 0 t_319 w0 _ _ N_313 (hS.new_zed [0, 1]) (hS.enter [0, 1] (by decide)) ((hr_315.mono (Mem.un_le le_313 ln_313)).mono (Mem.le.refl _)) et_319) ?_
   rintro _ w_320 ⟨v_323, N_321, M_325, rfl, hS', hr_324⟩
   intro a h
   obtain ⟨N_322, hS'', le_322, ln_322⟩ := hS.call [0, 1] (by decide) rfl (l' := [Mem.one g_5 (.cells ([iV t_319.2.1, iV t_319.2.2.1, v_323] : List Value).toArray 58 (0, 0)), M_325]) (ow := []) rfl hS'
   replace hS : Sep w0 w_320 [N_322, Mem.one g_5 (.cells ([iV t_319.2.1, iV t_319.2.2.1, v_323] : List Value).toArray 58 (0, 0)), M_325, _, _, _, _] Z := hS''
   clear hS' hS''
   refine s_on h rfl rfl (nf hc_318) <| s_not h rfl rfl fun a h=>s_pick_f h rfl rfl (nf hc_318) rfl fun a h=>wpList_nil ?_
   replace h : Fr 125 a [(2, _), (6, .bool false), (7, .pointer (some ⟨g_5, 0, none⟩)), (8, .pointer (some ⟨g_33, 0, none⟩)), (38, .bool (!t_319.1))] := h.keep [2, 6, 7, 8, 38]
   replace hS : Sep w0 w_320 [_, _, _, _, _, _, _] Z := hS
   replace h : Fr 125 a [(2, _), (6, _), (7, _), (8, _), (38, _)] := h.keep [2, 6, 7, 8, 38]
   exact x_then_n (hJ_j_58 (!t_319.1) (⟨t_319.2.1, t_319.2.2.1, t_319.2.2.2⟩ : nets_Net) t_10 H _ _ ⟨v_323, v_14, v_18, v_22, v_26, v_28, v_30, N_322, M_325, h, (Sep.sel hS [0, 1, 2, 1002, 1003, 1004, 6] (by decide)), (le_298.trans (le_299.trans (le_300.trans (le_304.trans (le_313.trans le_322))))), ((hr_324.mono (Mem.un_le le_322 ln_322)).mono (Mem.le.refl _)), ((hr_15.rd lo_298 (Mem.no_le _)).mono (le_299.trans (le_300.trans (le_304.trans (le_313.trans le_322))))), ((hr_19.rd lo_299 (Mem.no_le _)).mono (le_300.trans (le_304.trans (le_313.trans le_322)))), ((hr_23.rd lo_300 (Mem.no_le _)).mono (le_304.trans (le_313.trans le_322))), ((hr_27.mono ln_13).mono (le_298.trans (le_299.trans (le_300.trans (le_304.trans (le_313.trans le_322)))))), ((hr_29.mono ln_13).mono (le_298.trans (le_299.trans (le_300.trans (le_304.trans (le_313.trans le_322)))))), ((hr_31.mono ln_13).mono (le_298.trans (le_299.trans (le_300.trans (le_304.trans (le_313.trans le_322))))))⟩)
  ·rw [if_neg hc_318] at H
   refine s_off h rfl rfl rfl (nt (Bool.eq_false_iff.2 hc_318)) fun a h=>s_off h rfl rfl rfl (nt (Bool.eq_false_iff.2 hc_318)) fun a h=>s_off h rfl rfl rfl (nt (Bool.eq_false_iff.2 hc_318)) fun a h=>s_pick_t h rfl rfl (nt (Bool.eq_false_iff.2 hc_318)) rfl fun a h=>wpList_nil ?_
   replace h : Fr 125 a [(2, _), (6, .bool false), (7, .pointer (some ⟨g_5, 0, none⟩)), (8, .pointer (some ⟨g_33, 0, none⟩)), (38, .bool true)] := h.keep [2, 6, 7, 8, 38]
   replace hS : Sep w0 w_311 [_, _, _, _, _, _, _] Z := hS
   replace h : Fr 125 a [(2, _), (6, _), (7, _), (8, _), (38, _)] := h.keep [2, 6, 7, 8, 38]
   exact x_then_n (hJ_j_58 true (⟨t_310.2.1, t_310.2.2.1, t_310.2.2.2⟩ : nets_Net) t_10 H _ _ ⟨v_314, v_14, v_18, v_22, v_26, v_28, v_30, N_313, M_316, h, (Sep.sel hS [0, 1, 2, 1002, 1003, 1004, 6] (by decide)), (le_298.trans (le_299.trans (le_300.trans (le_304.trans le_313)))), ((hr_315.mono (Mem.un_le le_313 ln_313)).mono (Mem.le.refl _)), ((hr_15.rd lo_298 (Mem.no_le _)).mono (le_299.trans (le_300.trans (le_304.trans le_313)))), ((hr_19.rd lo_299 (Mem.no_le _)).mono (le_300.trans (le_304.trans le_313))), ((hr_23.rd lo_300 (Mem.no_le _)).mono (le_304.trans le_313)), ((hr_27.mono ln_13).mono (le_298.trans (le_299.trans (le_300.trans (le_304.trans le_313))))), ((hr_29.mono ln_13).mono (le_298.trans (le_299.trans (le_300.trans (le_304.trans le_313))))), ((hr_31.mono ln_13).mono (le_298.trans (le_299.trans (le_300.trans (le_304.trans le_313)))))⟩)
 ·rw [if_neg hc_309] at H
  refine s_off h rfl rfl rfl (nt (Bool.eq_false_iff.2 hc_309)) fun a h=>s_off h rfl rfl rfl (nt (Bool.eq_false_iff.2 hc_309)) fun a h=>s_off h rfl rfl rfl (nt (Bool.eq_false_iff.2 hc_309)) fun a h=>s_pick_t h rfl rfl (nt (Bool.eq_false_iff.2 hc_309)) rfl fun a h=>s_move h rfl rfl fun a h=>s_off h rfl rfl rfl rfl fun a h=>s_off h rfl rfl rfl rfl fun a h=>s_off h rfl rfl rfl rfl fun a h=>s_pick_t h rfl rfl rfl rfl fun a h=>wpList_nil ?_
  replace h : Fr 125 a [(2, _), (6, .bool false), (7, .pointer (some ⟨g_5, 0, none⟩)), (8, .pointer (some ⟨g_33, 0, none⟩)), (38, .bool true)] := h.keep [2, 6, 7, 8, 38]
  replace hS : Sep w0 w_302 [_, _, _, _, _, _, _] Z := hS
  replace h : Fr 125 a [(2, _), (6, _), (7, _), (8, _), (38, _)] := h.keep [2, 6, 7, 8, 38]
  exact x_then_n (hJ_j_58 true (⟨t_301.2.1, t_301.2.2.1, t_301.2.2.2⟩ : nets_Net) t_10 H _ _ ⟨v_305, v_14, v_18, v_22, v_26, v_28, v_30, N_304, M_307, h, (Sep.sel hS [0, 1, 2, 1002, 1003, 1004, 6] (by decide)), (le_298.trans (le_299.trans (le_300.trans le_304))), ((hr_306.mono (Mem.un_le le_304 ln_304)).mono (Mem.le.refl _)), ((hr_15.rd lo_298 (Mem.no_le _)).mono (le_299.trans (le_300.trans le_304))), ((hr_19.rd lo_299 (Mem.no_le _)).mono (le_300.trans le_304)), ((hr_23.rd lo_300 (Mem.no_le _)).mono le_304), ((hr_27.mono ln_13).mono (le_298.trans (le_299.trans (le_300.trans le_304)))), ((hr_29.mono ln_13).mono (le_298.trans (le_299.trans (le_300.trans le_304)))), ((hr_31.mono ln_13).mono (le_298.trans (le_299.trans (le_300.trans le_304))))⟩)


end Go.Proofs
