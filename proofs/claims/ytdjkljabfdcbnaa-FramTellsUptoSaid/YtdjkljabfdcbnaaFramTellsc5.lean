/- What the calls do: each function once. -/
import Derived.Test.YtdjkljabfdcbnaaFramTellsc4
namespace Go.Proofs
open Go.Gp
set_option linter.unusedVariables false
set_option maxHeartbeats 4000000 in
set_option maxRecDepth 20000 in
theorem hocketlaw12_awake.calls (K : Nat) (r : Unit) (w0 w : World) (Z A : Mem) (hA : A.le Z) (hS : Sep w0 w [] Z)
    (H : hocketlaw12_awake.f K = some r) :
    Calls Try.prog 21 [].toArray w (Ret fun v w' => ∃ (N : Mem), v = .bool true ∧ Sep w0 w' [N] Z) := by
 unfold hocketlaw12_awake.f at H
 refine f_enter _ Try.func21 rfl Try.ntmps21 rfl fun a h=>?_
 replace h : Fr 45 a [] := h
 replace hS := hS.start
 replace hS : Sep w0 w [_] Z := hS
 refine wp_seq <| wp_region_lit <| s_assign h rfl rfl fun a h=>wpList_nil <| x_then_n <| wp_seq <| wp_region_lit <| s_build h rfl ti29 pl29 rfl (.cons rfl (.cons rfl (.cons rfl (.cons rfl .nil)))) (cs := [iV 1, iV 1, iV 2, iV 9, iV 0, iV 0, .bool false, iV 0, iV 0, iV 0, iV 0, nS, iV 0, iV 0, nS, nS, iV 0, iV 0, iV 0, iV 0, iV 0, nS, nS, nS]) (by kernel_rfl) fun a h=>v_alloc h rfl ti29 hS fun w_1 g_2 hS' a h => ?_
 replace hS : Sep w0 w_1 [_, Mem.one g_2 (.cells ([iV 0, iV 0, iV 0, iV 0, iV 0, iV 0, .bool false, iV 0, iV 0, iV 0, iV 0, nS, iV 0, iV 0, nS, nS, iV 0, iV 0, iV 0, iV 0, iV 0, nS, nS, nS] : List Value).toArray 29 (0, 0))] Z := hS'
 clear hS'
 obtain ⟨w_3, hs', hS'⟩ := hS.store (P := Try.prog) (p := 1) (o := 0) (t := 29) (v := .agg ([iV 1, iV 1, iV 2, iV 9, iV 0, iV 0, .bool false, iV 0, iV 0, iV 0, iV 0, nS, iV 0, iV 0, nS, nS, iV 0, iV 0, iV 0, iV 0, iV 0, nS, nS, nS] : List Value).toArray) (vs := [iV 1, iV 1, iV 2, iV 9, iV 0, iV 0, .bool false, iV 0, iV 0, iV 0, iV 0, nS, iV 0, iV 0, nS, nS, iV 0, iV 0, iV 0, iV 0, iV 0, nS, nS, nS]) rfl ti29 rfl rfl rfl (by intro u hu; simp only [List.mem_cons, List.not_mem_nil, or_false] at hu; rcases hu with rfl | rfl | rfl | rfl | rfl | rfl | rfl | rfl | rfl | rfl | rfl | rfl | rfl | rfl | rfl | rfl | rfl | rfl | rfl | rfl | rfl | rfl | rfl | rfl <;> rfl)
 refine s_store h rfl rfl hs' ?_
 replace hS : Sep w0 w_3 [_, Mem.one g_2 (.cells ([iV 1, iV 1, iV 2, iV 9, _, _, _, _, _, _, _, _, _, _, _, _, _, _, _, _, _, _, _, _] : List Value).toArray 29 (0, 0))] Z := hS'
 clear hs' hS'
 refine wpList_nil <| x_then_n <| wp_seq <| wp_region_lit <| s_load h rfl rfl (hS.load_agg (p := 1) (us := [iV 1, iV 1, iV 2, iV 9, iV 0, iV 0, .bool false, iV 0, iV 0, iV 0, iV 0, nS, iV 0, iV 0, nS, nS, iV 0, iV 0, iV 0, iV 0, iV 0, nS, nS, nS]) rfl U29 rfl ti29 rfl rfl) fun a h=>?_
 obtain ⟨t_4, et_4, H⟩ := Option.bind_eq_some_iff.1 H
 refine s_call h rfl Try.call19 rfl (fram_Wrap.calls K (⟨1, 1, 2, 9, 0, 0, false, 0, 0, 0, 0, ([] : List UInt8), 0, 0, ([] : List Int), ([] : List Int), 0, (⟨0, 0, (⟨0, 0, ([] : List UInt8), ([] : List UInt8), ([] : List UInt8)⟩ : api_Cmd)⟩ : api_Entry)⟩ : api_Msg) _ _ _ _ _ _ t_4 w0 _ _ _ (Mem.le.refl _) (hS.enter [] (by decide)) (Rd.nil _ _) (Rd.nil _ _) (Rd.nil _ _) (Rd.nil _ _) (Rd.nil _ _) (Rd.nil _ _) et_4) ?_
 rintro v_8 w_5 ⟨_, N_6, M_10, rfl, hS', hr_9⟩
 intro a h
 obtain ⟨N_7, hS'', le_7, ln_7⟩ := hS.call [] (by decide) rfl (l' := []) (ow := [M_10]) rfl hS'
 replace hS : Sep w0 w_5 [N_7, _, M_10] Z := hS''
 clear hS' hS''
 refine s_assign h rfl rfl fun a h=>wpList_nil <| x_then_n <| wp_seq <| wp_region_lit <| s_move h rfl rfl fun a h=>?_
 obtain ⟨t_12, et_12, H⟩ := Option.bind_eq_some_iff.1 H
 refine s_call h rfl Try.call20 rfl (fram_Open.calls K t_4 _ t_12 w0 _ _ _ (Mem.le.refl _) (hS.enter [] (by decide)) (hr_9.rd (hS.own_zed [] 1 (by decide)) (Mem.no_le _)) et_12) ?_
 rintro _ w_13 ⟨v_16, v_20, v_24, v_28, v_32, v_36, N_14, M_18, M_22, M_26, M_30, M_34, M_38, rfl, hS', hr_17, hr_21, hr_25, hr_29, hr_33, hr_37⟩
 intro a h
 obtain ⟨N_15, hS'', le_15, ln_15⟩ := hS.call [] (by decide) rfl (l' := []) (ow := [M_18, M_22, M_26, M_30, M_34, M_38]) rfl hS'
 replace hS : Sep w0 w_13 [N_15, _, _, M_18, M_22, M_26, M_30, M_34, M_38] Z := hS''
 clear hS' hS''
 refine s_move h rfl rfl fun a h=>s_extract h rfl rfl rfl fun a h=>s_extract h rfl rfl rfl fun a h=>v_alloc h rfl ti29 hS fun w_40 g_41 hS' a h => ?_
 replace hS : Sep w0 w_40 [_, _, _, _, _, _, _, _, _, Mem.one g_41 (.cells ([iV 0, iV 0, iV 0, iV 0, iV 0, iV 0, .bool false, iV 0, iV 0, iV 0, iV 0, nS, iV 0, iV 0, nS, nS, iV 0, iV 0, iV 0, iV 0, iV 0, nS, nS, nS] : List Value).toArray 29 (0, 0))] Z := hS'
 clear hS'
 obtain ⟨w_42, hs', hS'⟩ := hS.store (P := Try.prog) (p := 9) (o := 0) (t := 29) (v := .agg ([iV t_12.1.Kind, iV t_12.1.From, iV t_12.1.To, iV t_12.1.View, iV t_12.1.Inst, iV t_12.1.Len, .bool t_12.1.Has, iV t_12.1.Members, iV t_12.1.Source, iV t_12.1.At, iV t_12.1.Total, v_16, iV t_12.1.Hop, iV t_12.1.Seq, v_20, v_24, iV t_12.1.Index, iV t_12.1.Entry.Sess, iV t_12.1.Entry.Seq, iV t_12.1.Entry.Cmd.Kind, iV t_12.1.Entry.Cmd.Who, v_28, v_32, v_36] : List Value).toArray) (vs := [iV t_12.1.Kind, iV t_12.1.From, iV t_12.1.To, iV t_12.1.View, iV t_12.1.Inst, iV t_12.1.Len, .bool t_12.1.Has, iV t_12.1.Members, iV t_12.1.Source, iV t_12.1.At, iV t_12.1.Total, v_16, iV t_12.1.Hop, iV t_12.1.Seq, v_20, v_24, iV t_12.1.Index, iV t_12.1.Entry.Sess, iV t_12.1.Entry.Seq, iV t_12.1.Entry.Cmd.Kind, iV t_12.1.Entry.Cmd.Who, v_28, v_32, v_36]) rfl ti29 rfl rfl rfl (by intro u hu; simp only [List.mem_cons, List.not_mem_nil, or_false] at hu; rcases hu with rfl | rfl | rfl | rfl | rfl | rfl | rfl | rfl | rfl | rfl | rfl | rfl | rfl | rfl | rfl | rfl | rfl | rfl | rfl | rfl | rfl | rfl | rfl | rfl <;> first | rfl | exact hr_17.one | exact hr_21.one | exact hr_25.one | exact hr_29.one | exact hr_33.one | exact hr_37.one)
 refine s_store h rfl rfl hs' ?_
 replace hS : Sep w0 w_42 [_, _, _, _, _, _, _, _, _, Mem.one g_41 (.cells ([iV t_12.1.Kind, iV t_12.1.From, iV t_12.1.To, iV t_12.1.View, iV t_12.1.Inst, iV t_12.1.Len, .bool t_12.1.Has, iV t_12.1.Members, iV t_12.1.Source, iV t_12.1.At, iV t_12.1.Total, v_16, iV t_12.1.Hop, iV t_12.1.Seq, v_20, v_24, iV t_12.1.Index, iV t_12.1.Entry.Sess, iV t_12.1.Entry.Seq, iV t_12.1.Entry.Cmd.Kind, iV t_12.1.Entry.Cmd.Who, v_28, v_32, v_36] : List Value).toArray 29 (0, 0))] Z := hS'
 clear hs' hS'
 refine s_assign h rfl rfl fun a h=>wpList_nil ?_
 replace h : Fr 45 a [(0, .bool false), (1, .pointer (some ⟨g_2, 0, none⟩)), (2, v_8), (3, .pointer (some ⟨g_41, 0, none⟩)), (4, .bool t_12.2)] := h.keep [0, 1, 2, 3, 4]
 refine x_then_n <| wp_seq <| wp_region_lit <| s_move h rfl rfl fun a h=>s_move h rfl rfl fun a h=>s_lenO h rfl U23 rfl hr_9 fun a h=>s_div (r := w64 (Int.tdiv (t_4.length : Int) 2)) h rfl rfl rfl (by decide) (.inl ⟨rfl, rfl⟩) fun a h=>?_
 obtain ⟨N_43, hS', le_43, lo_43⟩ := hS.freeze 1 rfl
 replace hS : Sep w0 w_42 [N_43, _, Mem.no, _, _, _, _, _, _, _] Z := hS'
 clear hS'
 obtain ⟨t_44, et_44, H⟩ := Option.bind_eq_some_iff.1 H
 refine s_slice h rfl U23 ti5 rfl rfl (hr_9.rd lo_43 (Mem.no_le _)) rfl rfl et_44 fun v_45 hr_46 a h => ?_
 obtain ⟨t_47, et_47, H⟩ := Option.bind_eq_some_iff.1 H
 refine s_call h rfl Try.call20 rfl (fram_Open.calls K t_44 _ t_47 w0 _ _ _ (Mem.le.refl _) (hS.enter [] (by decide)) (hr_46.mono ((Mem.le.refl _).trans (hS.new_zed []))) et_47) ?_
 rintro _ w_48 ⟨v_51, v_55, v_59, v_63, v_67, v_71, N_49, M_53, M_57, M_61, M_65, M_69, M_73, rfl, hS', hr_52, hr_56, hr_60, hr_64, hr_68, hr_72⟩
 intro a h
 obtain ⟨N_50, hS'', le_50, ln_50⟩ := hS.call [] (by decide) rfl (l' := []) (ow := [M_53, M_57, M_61, M_65, M_69, M_73]) rfl hS'
 replace hS : Sep w0 w_48 [N_50, _, _, _, _, _, _, _, _, _, M_53, M_57, M_61, M_65, M_69, M_73] Z := hS''
 clear hS' hS''
 refine s_move h rfl rfl fun a h=>s_extract h rfl rfl rfl fun a h=>s_extract h rfl rfl rfl fun a h=>v_alloc h rfl ti29 hS fun w_75 g_76 hS' a h => ?_
 replace hS : Sep w0 w_75 [_, _, _, _, _, _, _, _, _, _, _, _, _, _, _, _, Mem.one g_76 (.cells ([iV 0, iV 0, iV 0, iV 0, iV 0, iV 0, .bool false, iV 0, iV 0, iV 0, iV 0, nS, iV 0, iV 0, nS, nS, iV 0, iV 0, iV 0, iV 0, iV 0, nS, nS, nS] : List Value).toArray 29 (0, 0))] Z := hS'
 clear hS'
 obtain ⟨w_77, hs', hS'⟩ := hS.store (P := Try.prog) (p := 16) (o := 0) (t := 29) (v := .agg ([iV t_47.1.Kind, iV t_47.1.From, iV t_47.1.To, iV t_47.1.View, iV t_47.1.Inst, iV t_47.1.Len, .bool t_47.1.Has, iV t_47.1.Members, iV t_47.1.Source, iV t_47.1.At, iV t_47.1.Total, v_51, iV t_47.1.Hop, iV t_47.1.Seq, v_55, v_59, iV t_47.1.Index, iV t_47.1.Entry.Sess, iV t_47.1.Entry.Seq, iV t_47.1.Entry.Cmd.Kind, iV t_47.1.Entry.Cmd.Who, v_63, v_67, v_71] : List Value).toArray) (vs := [iV t_47.1.Kind, iV t_47.1.From, iV t_47.1.To, iV t_47.1.View, iV t_47.1.Inst, iV t_47.1.Len, .bool t_47.1.Has, iV t_47.1.Members, iV t_47.1.Source, iV t_47.1.At, iV t_47.1.Total, v_51, iV t_47.1.Hop, iV t_47.1.Seq, v_55, v_59, iV t_47.1.Index, iV t_47.1.Entry.Sess, iV t_47.1.Entry.Seq, iV t_47.1.Entry.Cmd.Kind, iV t_47.1.Entry.Cmd.Who, v_63, v_67, v_71]) rfl ti29 rfl rfl rfl (by intro u hu; simp only [List.mem_cons, List.not_mem_nil, or_false] at hu; rcases hu with rfl | rfl | rfl | rfl | rfl | rfl | rfl | rfl | rfl | rfl | rfl | rfl | rfl | rfl | rfl | rfl | rfl | rfl | rfl | rfl | rfl | rfl | rfl | rfl <;> first | rfl | exact hr_52.one | exact hr_56.one | exact hr_60.one | exact hr_64.one | exact hr_68.one | exact hr_72.one)
 refine s_store h rfl rfl hs' ?_
 replace hS : Sep w0 w_77 [_, _, _, _, _, _, _, _, _, _, _, _, _, _, _, _, Mem.one g_76 (.cells ([iV t_47.1.Kind, iV t_47.1.From, iV t_47.1.To, iV t_47.1.View, iV t_47.1.Inst, iV t_47.1.Len, .bool t_47.1.Has, iV t_47.1.Members, iV t_47.1.Source, iV t_47.1.At, iV t_47.1.Total, v_51, iV t_47.1.Hop, iV t_47.1.Seq, v_55, v_59, iV t_47.1.Index, iV t_47.1.Entry.Sess, iV t_47.1.Entry.Seq, iV t_47.1.Entry.Cmd.Kind, iV t_47.1.Entry.Cmd.Who, v_63, v_67, v_71] : List Value).toArray 29 (0, 0))] Z := hS'
 clear hs' hS'
 refine s_assign h rfl rfl fun a h=>wpList_nil <| x_then_n <| c_seq fun KJ_78 hKJ_78 => wp_region_lit <| s_move h rfl rfl fun a h=>s_len h rfl U23 rfl (hr_9.rd lo_43 (Mem.no_le _)) fun a h=>s_cmp (b := ((t_4.length : Int) == 8)) h rfl rfl rfl (.inl ⟨rfl, rfl⟩) fun a h=>s_move h rfl rfl fun a h=>?_
 by_cases hc_79 : (t_4.length : Int) = 8
 ·rw [if_pos hc_79] at H
  refine s_on h rfl rfl (beq_iff_eq.2 hc_79) <| s_move h rfl rfl fun a h=>s_pick_t h rfl rfl (beq_iff_eq.2 hc_79) rfl fun a h=>s_move h rfl rfl fun a h=>?_
  by_cases hc_80 : t_12.2 = true
  ·rw [if_pos hc_80] at H
   refine s_on h rfl rfl hc_80 <| s_load h rfl rfl (hS.load_agg (p := 9) (us := [iV t_12.1.Kind, iV t_12.1.From, iV t_12.1.To, iV t_12.1.View, iV t_12.1.Inst, iV t_12.1.Len, .bool t_12.1.Has, iV t_12.1.Members, iV t_12.1.Source, iV t_12.1.At, iV t_12.1.Total, v_16, iV t_12.1.Hop, iV t_12.1.Seq, v_20, v_24, iV t_12.1.Index, iV t_12.1.Entry.Sess, iV t_12.1.Entry.Seq, iV t_12.1.Entry.Cmd.Kind, iV t_12.1.Entry.Cmd.Who, v_28, v_32, v_36]) rfl U29 rfl ti29 rfl rfl) fun a h=>s_on h rfl rfl hc_80 <| s_load h rfl rfl (hS.load_agg (p := 1) (us := [iV 1, iV 1, iV 2, iV 9, iV 0, iV 0, .bool false, iV 0, iV 0, iV 0, iV 0, nS, iV 0, iV 0, nS, nS, iV 0, iV 0, iV 0, iV 0, iV 0, nS, nS, nS]) rfl U29 rfl ti29 rfl rfl) fun a h=>s_on h rfl rfl hc_80 ?_
   obtain ⟨t_81, et_81, H⟩ := Option.bind_eq_some_iff.1 H
   refine s_call h rfl Try.call15 rfl (hocketref11_Same.calls K t_12.1 _ _ _ _ _ _ (⟨1, 1, 2, 9, 0, 0, false, 0, 0, 0, 0, ([] : List UInt8), 0, 0, ([] : List Int), ([] : List Int), 0, (⟨0, 0, (⟨0, 0, ([] : List UInt8), ([] : List UInt8), ([] : List UInt8)⟩ : api_Cmd)⟩ : api_Entry)⟩ : api_Msg) _ _ _ _ _ _ t_81 w0 _ _ _ (Mem.le.refl _) (hS.enter [] (by decide)) (hr_17.rd (hS.own_zed [] 2 (by decide)) (Mem.no_le _)) (hr_21.rd (hS.own_zed [] 3 (by decide)) (Mem.no_le _)) (hr_25.rd (hS.own_zed [] 4 (by decide)) (Mem.no_le _)) (hr_29.rd (hS.own_zed [] 5 (by decide)) (Mem.no_le _)) (hr_33.rd (hS.own_zed [] 6 (by decide)) (Mem.no_le _)) (hr_37.rd (hS.own_zed [] 7 (by decide)) (Mem.no_le _)) (Rd.nil _ _) (Rd.nil _ _) (Rd.nil _ _) (Rd.nil _ _) (Rd.nil _ _) (Rd.nil _ _) et_81) ?_
   rintro _ w_82 ⟨N_83, rfl, hS'⟩
   intro a h
   obtain ⟨N_84, hS'', le_84, ln_84⟩ := hS.call [] (by decide) rfl (l' := []) (ow := []) rfl hS'
   replace hS : Sep w0 w_82 [N_84, _, _, _, _, _, _, _, _, _, _, _, _, _, _, _, _] Z := hS''
   clear hS' hS''
   refine s_pick_t h rfl rfl hc_80 rfl fun a h=>s_move h rfl rfl fun a h=>?_
   by_cases hc_85 : t_81 = true
   ·rw [if_pos hc_85] at H
    refine s_on h rfl rfl hc_85 <| s_move h rfl rfl fun a h=>s_on h rfl rfl hc_85 <| s_not h rfl rfl fun a h=>s_pick_t h rfl rfl hc_85 rfl fun a h=>s_move h rfl rfl fun a h=>?_
    by_cases hc_86 : t_47.2 = true
    ·rw [if_pos hc_86] at H
     cases H
    ·rw [if_neg hc_86] at H
     refine s_on h rfl rfl (nt (Bool.eq_false_iff.2 hc_86)) <| s_build h rfl ti29 pl29 rfl .nil (cs := [iV 0, iV 0, iV 0, iV 0, iV 0, iV 0, .bool false, iV 0, iV 0, iV 0, iV 0, nS, iV 0, iV 0, nS, nS, iV 0, iV 0, iV 0, iV 0, iV 0, nS, nS, nS]) (by kernel_rfl) fun a h=>s_on h rfl rfl (nt (Bool.eq_false_iff.2 hc_86)) ?_
     obtain ⟨t_87, et_87, H⟩ := Option.bind_eq_some_iff.1 H
     refine s_call h rfl Try.call19 rfl (fram_Wrap.calls K (⟨0, 0, 0, 0, 0, 0, false, 0, 0, 0, 0, ([] : List UInt8), 0, 0, ([] : List Int), ([] : List Int), 0, (⟨0, 0, (⟨0, 0, ([] : List UInt8), ([] : List UInt8), ([] : List UInt8)⟩ : api_Cmd)⟩ : api_Entry)⟩ : api_Msg) _ _ _ _ _ _ t_87 w0 _ _ _ (Mem.le.refl _) (hS.enter [] (by decide)) (Rd.nil _ _) (Rd.nil _ _) (Rd.nil _ _) (Rd.nil _ _) (Rd.nil _ _) (Rd.nil _ _) et_87) ?_
     rintro v_91 w_88 ⟨_, N_89, M_93, rfl, hS', hr_92⟩
     intro a h
     obtain ⟨N_90, hS'', le_90, ln_90⟩ := hS.call [] (by decide) rfl (l' := []) (ow := [M_93]) rfl hS'
     replace hS : Sep w0 w_88 [N_90, _, _, _, _, _, _, _, _, _, _, _, _, _, _, _, _, M_93] Z := hS''
     clear hS' hS''
     refine s_on h rfl rfl (nt (Bool.eq_false_iff.2 hc_86)) <| s_lenO h rfl U23 rfl hr_92 fun a h=>s_on h rfl rfl (nt (Bool.eq_false_iff.2 hc_86)) <| s_cmp (b := ((t_87.length : Int) == 0)) h rfl rfl rfl (.inl ⟨rfl, rfl⟩) fun a h=>s_pick_t h rfl rfl (nt (Bool.eq_false_iff.2 hc_86)) rfl fun a h=>s_assign h rfl rfl fun a h=>wpList_nil <| x_then_n (hKJ_78 _ _ ?_)
     refine wp_ret ?_
     by_cases hc_95 : (t_87.length : Int) = 0
     ·rw [if_pos hc_95] at H
      exact f_ret h (rs := [.tmp 0]) rfl (.tmp rfl .nil) ⟨_, rfl, N_90, (by rw [(beq_iff_eq.2 hc_95)]; rfl), (Sep.sel hS [0] (by decide))⟩
     ·rw [if_neg hc_95] at H
      cases H
   ·rw [if_neg hc_85] at H
    cases H
  ·rw [if_neg hc_80] at H
   cases H
 ·rw [if_neg hc_79] at H
  cases H

set_option maxHeartbeats 4000000 in
set_option maxRecDepth 20000 in
theorem hocketlaw12_FramTells.calls (K : Nat) (x0 : api_Msg) (p0_0 : Value) (p0_1 : Value) (p0_2 : Value) (p0_3 : Value) (p0_4 : Value) (p0_5 : Value) (x1 : Int) (x2 : Int) (x3 : List UInt8) (p3_6 : Value) (x4 : Int) (x5 : UInt8) (r : Unit) (w0 w : World) (Z A : Mem) (hA : A.le Z) (hS : Sep w0 w [] Z) (hp0_0 : Rd Kd.u8 A p0_0 x0.Data) (hp0_1 : Rd (Kd.int .i64) A p0_1 x0.Have) (hp0_2 : Rd (Kd.int .i64) A p0_2 x0.Need) (hp0_3 : Rd Kd.u8 A p0_3 x0.Entry.Cmd.Key) (hp0_4 : Rd Kd.u8 A p0_4 x0.Entry.Cmd.Val) (hp0_5 : Rd Kd.u8 A p0_5 x0.Entry.Cmd.Old) (hp3_6 : Rd Kd.u8 A p3_6 x3)
    (H : hocketlaw12_FramTells.f K x0 x1 x2 x3 x4 x5 = some r) :
    Calls Try.prog 9 [.agg ([iV x0.Kind, iV x0.From, iV x0.To, iV x0.View, iV x0.Inst, iV x0.Len, .bool x0.Has, iV x0.Members, iV x0.Source, iV x0.At, iV x0.Total, p0_0, iV x0.Hop, iV x0.Seq, p0_1, p0_2, iV x0.Index, iV x0.Entry.Sess, iV x0.Entry.Seq, iV x0.Entry.Cmd.Kind, iV x0.Entry.Cmd.Who, p0_3, p0_4, p0_5] : List Value).toArray, iV x1, iV x2, p3_6, iV x4, .int .u8 (x5.toNat : Int)].toArray w (Ret fun v w' => ∃ (N : Mem), v = .bool true ∧ Sep w0 w' [N] Z) := by
 unfold hocketlaw12_FramTells.f at H
 refine f_enter _ Try.func9 rfl Try.ntmps9 rfl fun a h=>?_
 replace h : Fr 119 a [(0, .agg ([iV x0.Kind, iV x0.From, iV x0.To, iV x0.View, iV x0.Inst, iV x0.Len, .bool x0.Has, iV x0.Members, iV x0.Source, iV x0.At, iV x0.Total, p0_0, iV x0.Hop, iV x0.Seq, p0_1, p0_2, iV x0.Index, iV x0.Entry.Sess, iV x0.Entry.Seq, iV x0.Entry.Cmd.Kind, iV x0.Entry.Cmd.Who, p0_3, p0_4, p0_5] : List Value).toArray), (1, iV x1), (2, iV x2), (3, p3_6), (4, iV x4), (5, .int .u8 (x5.toNat : Int))] := h
 replace hS := hS.start
 replace hS : Sep w0 w [_] Z := hS
 refine wp_seq <| wp_region_lit <| v_box (vs := [iV x0.Kind, iV x0.From, iV x0.To, iV x0.View, iV x0.Inst, iV x0.Len, .bool x0.Has, iV x0.Members, iV x0.Source, iV x0.At, iV x0.Total, p0_0, iV x0.Hop, iV x0.Seq, p0_1, p0_2, iV x0.Index, iV x0.Entry.Sess, iV x0.Entry.Seq, iV x0.Entry.Cmd.Kind, iV x0.Entry.Cmd.Who, p0_3, p0_4, p0_5]) h rfl rfl rfl hS fun w_1 g_2 hS' a h => ?_
 replace hS : Sep w0 w_1 [_, Mem.one g_2 (.cells ([iV x0.Kind, iV x0.From, iV x0.To, iV x0.View, iV x0.Inst, iV x0.Len, .bool x0.Has, iV x0.Members, iV x0.Source, iV x0.At, iV x0.Total, p0_0, iV x0.Hop, iV x0.Seq, p0_1, p0_2, iV x0.Index, iV x0.Entry.Sess, iV x0.Entry.Seq, iV x0.Entry.Cmd.Kind, iV x0.Entry.Cmd.Who, p0_3, p0_4, p0_5] : List Value).toArray 29 (0, 0))] Z := hS'
 clear hS'
 refine s_assign h rfl rfl fun a h=>wpList_nil <| x_then_n <| c_seq fun KJ_3 hKJ_3 => c_seq fun KJ_4 hKJ_4 => ?_
 have hJ_j_8 : ∀ (x_6 : Bool), hocketlaw12_FramTells.J1 K x1 x2 x4 x0 x5 x3 x_6 = some r → ∀ (a : Act) (w_7 : World), (∃ (N_5 : Mem), Fr 119 a [(1, iV x1), (2, iV x2), (3, p3_6), (4, iV x4), (5, .int .u8 (x5.toNat : Int)), (6, .pointer (some ⟨g_2, 0, none⟩)), (12, .bool false), (43, .bool x_6)] ∧ Sep w0 w_7 [N_5, Mem.one g_2 (.cells ([iV x0.Kind, iV x0.From, iV x0.To, iV x0.View, iV x0.Inst, iV x0.Len, .bool x0.Has, iV x0.Members, iV x0.Source, iV x0.At, iV x0.Total, p0_0, iV x0.Hop, iV x0.Seq, p0_1, p0_2, iV x0.Index, iV x0.Entry.Sess, iV x0.Entry.Seq, iV x0.Entry.Cmd.Kind, iV x0.Entry.Cmd.Who, p0_3, p0_4, p0_5] : List Value).toArray 29 (0, 0))] Z ∧ Mem.no.le N_5) → KJ_4 a w_7 := by
  clear H h hS a
  rintro x_6 H a w_7 ⟨N_5, h, hS, le_5⟩
  unfold hocketlaw12_FramTells.J1 at H
  refine hKJ_4 _ _ ?_
  by_cases hc_9 : x_6 = true
  ·rw [if_pos hc_9] at H
   refine c_cond_t h rfl hc_9 <| wp_seq <| wp_region_lit ?_
   obtain ⟨t_10, et_10, H⟩ := Option.bind_eq_some_iff.1 H
   refine s_call h rfl Try.call21 rfl (hocketlaw12_awake.calls K  t_10 w0 _ _ _ (Mem.le.refl _) (hS.enter [] (by decide))  et_10) ?_
   rintro _ w_11 ⟨N_12, rfl, hS'⟩
   intro a h
   obtain ⟨N_13, hS'', le_13, ln_13⟩ := hS.call [] (by decide) rfl (l' := []) (ow := []) rfl hS'
   replace hS : Sep w0 w_11 [N_13, _] Z := hS''
   clear hS' hS''
   refine s_assign h rfl rfl fun a h=>wpList_nil <| x_then_n <| wp_ret (x_then_r ?_)
   exact f_ret h (rs := [.tmp 12]) rfl (.tmp rfl .nil) ⟨_, rfl, N_13, rfl, (Sep.sel hS [0] (by decide))⟩
  ·rw [if_neg hc_9] at H
   refine c_cond_f h rfl (Bool.eq_false_iff.2 hc_9) <| wp_skip <| x_then_n (hKJ_3 _ _ ?_)
   refine wp_seq <| wp_region_lit <| s_move h rfl rfl fun a h=>s_move h rfl rfl fun a h=>?_
   obtain ⟨t_14, et_14, H⟩ := Option.bind_eq_some_iff.1 H
   refine s_call h rfl Try.call14 rfl (hocketlaw11_Msg.calls K x1 x2 t_14 w0 _ _ _ (Mem.le.refl _) (hS.enter [] (by decide))  et_14) ?_
   rintro _ w_15 ⟨v_18, v_22, v_26, v_30, v_32, v_34, N_16, M_20, M_24, M_28, rfl, hS', hr_19, hr_23, hr_27, hr_31, hr_33, hr_35⟩
   intro a h
   obtain ⟨N_17, hS'', le_17, ln_17⟩ := hS.call [] (by decide) rfl (l' := []) (ow := [M_20, M_24, M_28]) rfl hS'
   replace hS : Sep w0 w_15 [N_17, _, M_20, M_24, M_28] Z := hS''
   clear hS' hS''
   refine v_alloc h rfl ti29 hS fun w_36 g_37 hS' a h => ?_
   replace hS : Sep w0 w_36 [_, _, _, _, _, Mem.one g_37 (.cells ([iV 0, iV 0, iV 0, iV 0, iV 0, iV 0, .bool false, iV 0, iV 0, iV 0, iV 0, nS, iV 0, iV 0, nS, nS, iV 0, iV 0, iV 0, iV 0, iV 0, nS, nS, nS] : List Value).toArray 29 (0, 0))] Z := hS'
   clear hS'
   obtain ⟨w_38, hs', hS'⟩ := hS.store (P := Try.prog) (p := 5) (o := 0) (t := 29) (v := .agg ([iV t_14.Kind, iV t_14.From, iV t_14.To, iV t_14.View, iV t_14.Inst, iV t_14.Len, .bool t_14.Has, iV t_14.Members, iV t_14.Source, iV t_14.At, iV t_14.Total, v_18, iV t_14.Hop, iV t_14.Seq, v_22, v_26, iV t_14.Index, iV t_14.Entry.Sess, iV t_14.Entry.Seq, iV t_14.Entry.Cmd.Kind, iV t_14.Entry.Cmd.Who, v_30, v_32, v_34] : List Value).toArray) (vs := [iV t_14.Kind, iV t_14.From, iV t_14.To, iV t_14.View, iV t_14.Inst, iV t_14.Len, .bool t_14.Has, iV t_14.Members, iV t_14.Source, iV t_14.At, iV t_14.Total, v_18, iV t_14.Hop, iV t_14.Seq, v_22, v_26, iV t_14.Index, iV t_14.Entry.Sess, iV t_14.Entry.Seq, iV t_14.Entry.Cmd.Kind, iV t_14.Entry.Cmd.Who, v_30, v_32, v_34]) rfl ti29 rfl rfl rfl (by intro u hu; simp only [List.mem_cons, List.not_mem_nil, or_false] at hu; rcases hu with rfl | rfl | rfl | rfl | rfl | rfl | rfl | rfl | rfl | rfl | rfl | rfl | rfl | rfl | rfl | rfl | rfl | rfl | rfl | rfl | rfl | rfl | rfl | rfl <;> first | rfl | exact hr_19.one | exact hr_23.one | exact hr_27.one | exact (hr_31.mono ln_17).one | exact (hr_33.mono ln_17).one | exact (hr_35.mono ln_17).one)
   refine s_store h rfl rfl hs' ?_
   replace hS : Sep w0 w_38 [_, _, _, _, _, Mem.one g_37 (.cells ([iV t_14.Kind, iV t_14.From, iV t_14.To, iV t_14.View, iV t_14.Inst, iV t_14.Len, .bool t_14.Has, iV t_14.Members, iV t_14.Source, iV t_14.At, iV t_14.Total, v_18, iV t_14.Hop, iV t_14.Seq, v_22, v_26, iV t_14.Index, iV t_14.Entry.Sess, iV t_14.Entry.Seq, iV t_14.Entry.Cmd.Kind, iV t_14.Entry.Cmd.Who, v_30, v_32, v_34] : List Value).toArray 29 (0, 0))] Z := hS'
   clear hs' hS'
   refine wpList_nil <| x_then_n <| wp_seq <| wp_region_lit <| s_load h rfl rfl (hS.load_agg (p := 5) (us := [iV t_14.Kind, iV t_14.From, iV t_14.To, iV t_14.View, iV t_14.Inst, iV t_14.Len, .bool t_14.Has, iV t_14.Members, iV t_14.Source, iV t_14.At, iV t_14.Total, v_18, iV t_14.Hop, iV t_14.Seq, v_22, v_26, iV t_14.Index, iV t_14.Entry.Sess, iV t_14.Entry.Seq, iV t_14.Entry.Cmd.Kind, iV t_14.Entry.Cmd.Who, v_30, v_32, v_34]) rfl U29 rfl ti29 rfl rfl) fun a h=>?_
   obtain ⟨t_39, et_39, H⟩ := Option.bind_eq_some_iff.1 H
   refine s_call h rfl Try.call22 rfl (hocketref11_Wrap.calls K t_14 _ _ _ _ _ _ t_39 w0 _ _ _ (Mem.le.refl _) (hS.enter [] (by decide)) (hr_19.rd (hS.own_zed [] 1 (by decide)) (Mem.no_le _)) (hr_23.rd (hS.own_zed [] 2 (by decide)) (Mem.no_le _)) (hr_27.rd (hS.own_zed [] 3 (by decide)) (Mem.no_le _)) ((hr_31.mono ln_17).mono ((Mem.le.refl _).trans (hS.new_zed []))) ((hr_33.mono ln_17).mono ((Mem.le.refl _).trans (hS.new_zed []))) ((hr_35.mono ln_17).mono ((Mem.le.refl _).trans (hS.new_zed []))) et_39) ?_
   rintro v_43 w_40 ⟨_, N_41, M_45, rfl, hS', hr_44⟩
   intro a h
   obtain ⟨N_42, hS'', le_42, ln_42⟩ := hS.call [] (by decide) rfl (l' := []) (ow := [M_45]) rfl hS'
   replace hS : Sep w0 w_40 [N_42, _, _, _, _, _, M_45] Z := hS''
   clear hS' hS''
   refine s_assign h rfl rfl fun a h=>wpList_nil <| x_then_n <| wp_seq <| wp_region_lit ?_
   have hq_51 : Reps Kd.u8 Mem.no ([] : List UInt8) _ := (Reps.nil Kd.u8 _)
   refine s_buildSlice h rfl U23 ti5 rfl rfl rfl .nil rfl rfl rfl hS hq_51 rfl fun w_47 v_48 M_49 hS' ho_50 a h => ?_
   replace hS : Sep w0 w_47 [_, _, _, _, _, _, _, M_49] Z := hS'
   clear hS' hq_51
   refine s_move h rfl rfl fun a h=>?_
   obtain ⟨t_53, et_53, H⟩ := Option.bind_eq_some_iff.1 H
   refine s_append (J := Mem.no) (I' := Mem.no) (p := 7) 140737488355328 h rfl rfl rfl U23 ti5 rfl rfl rfl rfl hS rfl ho_50 (Src.flat flat_u8 (hr_44.src (hS.own 6))) (Mem.le.refl _) (Mem.le.refl _) et_53 fun w_54 v_55 M_56 hS' ho_57 a h => ?_
   replace hS : Sep w0 w_54 [_, _, _, _, _, _, _, M_56] Z := hS'
   clear hS'
   refine s_assign h rfl rfl fun a h=>wpList_nil ?_
   replace h : Fr 119 a [(3, _), (4, _), (5, _), (6, _), (12, _), (13, .pointer (some ⟨g_37, 0, none⟩)), (14, v_43), (15, v_55)] := h.keep [3, 4, 5, 6, 12, 13, 14, 15]
   refine x_then_n <| wp_seq <| wp_region_lit <| s_assign h rfl rfl fun a h=>wpList_nil <| x_then_n <| c_seq fun KJ_59 hKJ_59 => wp_seq <| wp_region_lit <| s_move h rfl rfl fun a h=>s_lenO h rfl U23 rfl ho_57 fun a h=>s_cmp (b := decide ((t_53.length : Int) > 0)) h rfl rfl rfl (.inr (.inr (.inr (.inr (.inl ⟨rfl, rfl⟩))))) fun a h=>?_
   refine wpList_nil <| x_then_n ?_
   have hJ_j_68 : ∀ (x_61 : List UInt8), ∀ (x_66 : Int), hocketlaw12_FramTells.J2 K t_14 t_39 x0 x5 x3 x_61 x_66 = some r → ∀ (a : Act) (w_67 : World), (∃ (v_64 : Value) (N_60 : Mem) (M_62 : Mem), Fr 119 a [(3, p3_6), (5, .int .u8 (x5.toNat : Int)), (6, .pointer (some ⟨g_2, 0, none⟩)), (12, .bool false), (13, .pointer (some ⟨g_37, 0, none⟩)), (14, v_43), (15, v_64), (16, iV x_66)] ∧ Sep w0 w_67 [N_60, Mem.one g_2 (.cells ([iV x0.Kind, iV x0.From, iV x0.To, iV x0.View, iV x0.Inst, iV x0.Len, .bool x0.Has, iV x0.Members, iV x0.Source, iV x0.At, iV x0.Total, p0_0, iV x0.Hop, iV x0.Seq, p0_1, p0_2, iV x0.Index, iV x0.Entry.Sess, iV x0.Entry.Seq, iV x0.Entry.Cmd.Kind, iV x0.Entry.Cmd.Who, p0_3, p0_4, p0_5] : List Value).toArray 29 (0, 0)), M_20, M_24, M_28, Mem.one g_37 (.cells ([iV t_14.Kind, iV t_14.From, iV t_14.To, iV t_14.View, iV t_14.Inst, iV t_14.Len, .bool t_14.Has, iV t_14.Members, iV t_14.Source, iV t_14.At, iV t_14.Total, v_18, iV t_14.Hop, iV t_14.Seq, v_22, v_26, iV t_14.Index, iV t_14.Entry.Sess, iV t_14.Entry.Seq, iV t_14.Entry.Cmd.Kind, iV t_14.Entry.Cmd.Who, v_30, v_32, v_34] : List Value).toArray 29 (0, 0)), M_45, M_62] Z ∧ N_42.le N_60 ∧ Own Kd.u8 5 M_62 Mem.no v_64 x_61) → KJ_59 a w_67 := by
    clear H h hS a
    rintro x_61 x_66 H a w_67 ⟨v_64, N_60, M_62, h, hS, le_60, ho_65⟩
    unfold hocketlaw12_FramTells.J2 at H
    refine hKJ_59 _ _ <| c_seq fun KJ_69 hKJ_69 => c_seq fun KJ_70 hKJ_70 => ?_
    have hJ_j_74 : ∀ (x_72 : Bool), hocketlaw12_FramTells.J3 K t_39 x_66 x5 x3 x_61 x_72 = some r → ∀ (a : Act) (w_73 : World), (∃ (N_71 : Mem), Fr 119 a [(3, p3_6), (5, .int .u8 (x5.toNat : Int)), (12, .bool false), (14, v_43), (15, v_64), (16, iV x_66), (79, .bool x_72)] ∧ Sep w0 w_73 [N_71, Mem.no, Mem.no, Mem.no, Mem.no, Mem.no, M_45, M_62] Z ∧ N_60.le N_71) → KJ_70 a w_73 := by
     clear H h hS a
     rintro x_72 H a w_73 ⟨N_71, h, hS, le_71⟩
     unfold hocketlaw12_FramTells.J3 at H
     refine hKJ_70 _ _ ?_
     by_cases hc_75 : x_72 = true
     ·rw [if_pos hc_75] at H
      cases H
     ·rw [if_neg hc_75] at H
      refine c_cond_f h rfl (Bool.eq_false_iff.2 hc_75) <| wp_skip <| x_then_n (hKJ_69 _ _ ?_)
      refine c_seq fun KJ_76 hKJ_76 => c_seq fun KJ_77 hKJ_77 => ?_
      have hJ_j_86 : ∀ (x_79 : List (List UInt8)), ∀ (x_84 : Int), hocketlaw12_FramTells.J4 K x_79 x_84 = some r → ∀ (a : Act) (w_85 : World), (∃ (v_82 : Value) (N_78 : Mem) (M_80 : Mem), Fr 119 a [(12, .bool false), (92, v_82), (93, iV x_84), (94, iV 0)] ∧ Sep w0 w_85 [N_78, Mem.no, Mem.no, Mem.no, Mem.no, Mem.no, Mem.no, Mem.no, M_80] Z ∧ N_71.le N_78 ∧ Own (Kd.slice Kd.u8) 23 M_80 (A.un N_78) v_82 x_79) → KJ_77 a w_85 := by
       clear H h hS a
       rintro x_79 x_84 H a w_85 ⟨v_82, N_78, M_80, h, hS, le_78, ho_83⟩
       unfold hocketlaw12_FramTells.J4 at H
       refine hKJ_77 _ _ ?_
       have hJ_j_89 : hocketlaw12_FramTells.J5 K = some r → ∀ (a : Act) (w_88 : World), (∃ (N_87 : Mem), Fr 119 a [(12, .bool false)] ∧ Sep w0 w_88 [N_87, Mem.no, Mem.no, Mem.no, Mem.no, Mem.no, Mem.no, Mem.no, Mem.no] Z ∧ N_78.le N_87) → KJ_76 a w_88 := by
        clear H h hS a
        rintro H a w_88 ⟨N_87, h, hS, le_87⟩
        unfold hocketlaw12_FramTells.J5 at H
        refine hKJ_76 _ _ <| wp_seq ?_
        replace hS : Sep w0 w_88 [N_87] Z := hS.sel [0] (by decide)
        refine wp_region_lit ?_
        obtain ⟨t_90, et_90, H⟩ := Option.bind_eq_some_iff.1 H
        refine s_call h rfl Try.call21 rfl (hocketlaw12_awake.calls K  t_90 w0 _ _ _ (Mem.le.refl _) (hS.enter [] (by decide))  et_90) ?_
        rintro _ w_91 ⟨N_92, rfl, hS'⟩
        intro a h
        obtain ⟨N_93, hS'', le_93, ln_93⟩ := hS.call [] (by decide) rfl (l' := []) (ow := []) rfl hS'
        replace hS : Sep w0 w_91 [N_93] Z := hS''
        clear hS' hS''
        refine s_assign h rfl rfl fun a h=>wpList_nil <| x_then_n <| wp_ret ?_
        exact f_ret h (rs := [.tmp 12]) rfl (.tmp rfl .nil) ⟨_, rfl, N_93, rfl, (Sep.sel hS [0] (by decide))⟩
       clear hKJ_76
       replace hS : Sep w0 w_85 [_, _, _, _, _, _, _, _, _] Z := hS
       replace h : Fr 119 a [(12, _), (92, _), (93, _), (94, _)] := h.keep [12, 92, 93, 94]
       refine c_block <| c_loop (fun k_96 a w_96 => ∃ (x_95 : Int) (N_94 : Mem), hocketlaw12_FramTells.L1 K x_84 x_79 (fun v => hocketlaw12_FramTells.J5 K) k_96 x_95 = some r ∧ Fr 119 a [(12, .bool false), (92, v_82), (93, iV x_84), (94, iV x_95)] ∧ Sep w0 w_96 [N_94, Mem.no, Mem.no, Mem.no, Mem.no, Mem.no, Mem.no, Mem.no, M_80] Z ∧ N_78.le N_94) K ⟨0, N_78, H, h, (Sep.sel hS [0, 1000, 1001, 1002, 1003, 1004, 1005, 1006, 8] (by decide)), (Mem.le.refl _)⟩ (fun a w h => by obtain ⟨_, _, H, _⟩ := h; cases (show (none : Option (Unit)) = some r from H)) ?_
       clear h hS a H
       rintro k_96 a w_96 KL_96 hKL_96 ⟨x_95, N_94, H, h, hS, le_94⟩
       replace H : hocketlaw12_FramTells.B1 K x_84 x_79 (fun v => hocketlaw12_FramTells.J5 K) (hocketlaw12_FramTells.L1 K x_84 x_79 (fun v => hocketlaw12_FramTells.J5 K) k_96) x_95 = some r := H
       unfold hocketlaw12_FramTells.B1 at H
       refine wp_seq <| wp_region_lit <| s_cmp (b := decide (x_95 < x_84)) h rfl rfl rfl (.inr (.inr (.inl ⟨rfl, rfl⟩))) fun a h=>wpList_nil <| x_then_n <| c_seq fun KJ_98 hKJ_98 => ?_
       by_cases hc_99 : x_95 < x_84
       ·rw [if_pos hc_99] at H
        refine c_cond_t h rfl (decide_eq_true hc_99) <| wp_skip <| x_then_n (hKJ_98 _ _ ?_)
        refine c_seq fun KJ_100 hKJ_100 => c_block <| wp_seq <| wp_region_lit ?_
        obtain ⟨t_101, et_101, H⟩ := Option.bind_eq_some_iff.1 H
        refine v_indexO h rfl U41 ti23 rfl rfl rfl ho_83 (hS.own 8) et_101 fun ad_102 cs_103 hk_104 hc_105 => ?_
        obtain ⟨v_106, rfl, hr_107⟩ := hk_104
        intro a h
        refine s_load h rfl rfl (el_one (o := 0) hc_105 U23 rfl rfl) fun a h=>s_assign h rfl rfl fun a h=>wpList_nil ?_
        replace h : Fr 119 a [(12, _), (18, v_106), (92, _), (93, _), (94, _)] := h.keep [12, 18, 92, 93, 94]
        refine x_then_n <| wp_seq <| wp_region_lit <| s_move h rfl rfl fun a h=>?_
        obtain ⟨t_108, et_108, H⟩ := Option.bind_eq_some_iff.1 H
        refine s_call h rfl Try.call20 rfl (fram_Open.calls K t_101 _ t_108 w0 _ _ _ (Mem.le.refl _) (hS.enter [] (by decide)) (hr_107.mono (Mem.un_le (hA.trans (hS.le_zed [])) (le_94.trans (hS.new_zed [])))) et_108) ?_
        rintro _ w_109 ⟨v_112, v_116, v_120, v_124, v_128, v_132, N_110, M_114, M_118, M_122, M_126, M_130, M_134, rfl, hS', hr_113, hr_117, hr_121, hr_125, hr_129, hr_133⟩
        intro a h
        obtain ⟨N_111, hS'', le_111, ln_111⟩ := hS.call [] (by decide) rfl (l' := []) (ow := [M_114, M_118, M_122, M_126, M_130, M_134]) rfl hS'
        replace hS : Sep w0 w_109 [N_111, _, _, _, _, _, _, _, _, M_114, M_118, M_122, M_126, M_130, M_134] Z := hS''
        clear hS' hS''
        refine s_move h rfl rfl fun a h=>s_extract h rfl rfl rfl fun a h=>s_extract h rfl rfl rfl fun a h=>v_alloc h rfl ti29 hS fun w_136 g_137 hS' a h => ?_
        replace hS : Sep w0 w_136 [_, _, _, _, _, _, _, _, _, _, _, _, _, _, _, Mem.one g_137 (.cells ([iV 0, iV 0, iV 0, iV 0, iV 0, iV 0, .bool false, iV 0, iV 0, iV 0, iV 0, nS, iV 0, iV 0, nS, nS, iV 0, iV 0, iV 0, iV 0, iV 0, nS, nS, nS] : List Value).toArray 29 (0, 0))] Z := hS'
        clear hS'
        obtain ⟨w_138, hs', hS'⟩ := hS.store (P := Try.prog) (p := 15) (o := 0) (t := 29) (v := .agg ([iV t_108.1.Kind, iV t_108.1.From, iV t_108.1.To, iV t_108.1.View, iV t_108.1.Inst, iV t_108.1.Len, .bool t_108.1.Has, iV t_108.1.Members, iV t_108.1.Source, iV t_108.1.At, iV t_108.1.Total, v_112, iV t_108.1.Hop, iV t_108.1.Seq, v_116, v_120, iV t_108.1.Index, iV t_108.1.Entry.Sess, iV t_108.1.Entry.Seq, iV t_108.1.Entry.Cmd.Kind, iV t_108.1.Entry.Cmd.Who, v_124, v_128, v_132] : List Value).toArray) (vs := [iV t_108.1.Kind, iV t_108.1.From, iV t_108.1.To, iV t_108.1.View, iV t_108.1.Inst, iV t_108.1.Len, .bool t_108.1.Has, iV t_108.1.Members, iV t_108.1.Source, iV t_108.1.At, iV t_108.1.Total, v_112, iV t_108.1.Hop, iV t_108.1.Seq, v_116, v_120, iV t_108.1.Index, iV t_108.1.Entry.Sess, iV t_108.1.Entry.Seq, iV t_108.1.Entry.Cmd.Kind, iV t_108.1.Entry.Cmd.Who, v_124, v_128, v_132]) rfl ti29 rfl rfl rfl (by intro u hu; simp only [List.mem_cons, List.not_mem_nil, or_false] at hu; rcases hu with rfl | rfl | rfl | rfl | rfl | rfl | rfl | rfl | rfl | rfl | rfl | rfl | rfl | rfl | rfl | rfl | rfl | rfl | rfl | rfl | rfl | rfl | rfl | rfl <;> first | rfl | exact hr_113.one | exact hr_117.one | exact hr_121.one | exact hr_125.one | exact hr_129.one | exact hr_133.one)
        refine s_store h rfl rfl hs' ?_
        replace hS : Sep w0 w_138 [_, _, _, _, _, _, _, _, _, _, _, _, _, _, _, Mem.one g_137 (.cells ([iV t_108.1.Kind, iV t_108.1.From, iV t_108.1.To, iV t_108.1.View, iV t_108.1.Inst, iV t_108.1.Len, .bool t_108.1.Has, iV t_108.1.Members, iV t_108.1.Source, iV t_108.1.At, iV t_108.1.Total, v_112, iV t_108.1.Hop, iV t_108.1.Seq, v_116, v_120, iV t_108.1.Index, iV t_108.1.Entry.Sess, iV t_108.1.Entry.Seq, iV t_108.1.Entry.Cmd.Kind, iV t_108.1.Entry.Cmd.Who, v_124, v_128, v_132] : List Value).toArray 29 (0, 0))] Z := hS'
        clear hs' hS'
        refine s_assign h rfl rfl fun a h=>wpList_nil <| x_then_n <| wp_seq <| wp_region_lit <| s_move h rfl rfl fun a h=>?_
        obtain ⟨t_139, et_139, H⟩ := Option.bind_eq_some_iff.1 H
        refine s_call h rfl Try.call23 rfl (hocketref11_Open.calls K t_101 _ t_139 w0 _ _ _ (Mem.le.refl _) (hS.enter [] (by decide)) (hr_107.mono (Mem.un_le (hA.trans (hS.le_zed [])) ((le_94.trans le_111).trans (hS.new_zed [])))) et_139) ?_
        rintro _ w_140 ⟨v_143, v_147, v_151, v_155, v_159, v_163, N_141, M_145, M_149, M_153, M_157, M_161, M_165, rfl, hS', hr_144, hr_148, hr_152, hr_156, hr_160, hr_164⟩
        intro a h
        obtain ⟨N_142, hS'', le_142, ln_142⟩ := hS.call [] (by decide) rfl (l' := []) (ow := [M_145, M_149, M_153, M_157, M_161, M_165]) rfl hS'
        replace hS : Sep w0 w_140 [N_142, _, _, _, _, _, _, _, _, _, _, _, _, _, _, _, M_145, M_149, M_153, M_157, M_161, M_165] Z := hS''
        clear hS' hS''
        refine s_move h rfl rfl fun a h=>s_extract h rfl rfl rfl fun a h=>s_extract h rfl rfl rfl fun a h=>v_alloc h rfl ti29 hS fun w_167 g_168 hS' a h => ?_
        replace hS : Sep w0 w_167 [_, _, _, _, _, _, _, _, _, _, _, _, _, _, _, _, _, _, _, _, _, _, Mem.one g_168 (.cells ([iV 0, iV 0, iV 0, iV 0, iV 0, iV 0, .bool false, iV 0, iV 0, iV 0, iV 0, nS, iV 0, iV 0, nS, nS, iV 0, iV 0, iV 0, iV 0, iV 0, nS, nS, nS] : List Value).toArray 29 (0, 0))] Z := hS'
        clear hS'
        obtain ⟨w_169, hs', hS'⟩ := hS.store (P := Try.prog) (p := 22) (o := 0) (t := 29) (v := .agg ([iV t_139.1.Kind, iV t_139.1.From, iV t_139.1.To, iV t_139.1.View, iV t_139.1.Inst, iV t_139.1.Len, .bool t_139.1.Has, iV t_139.1.Members, iV t_139.1.Source, iV t_139.1.At, iV t_139.1.Total, v_143, iV t_139.1.Hop, iV t_139.1.Seq, v_147, v_151, iV t_139.1.Index, iV t_139.1.Entry.Sess, iV t_139.1.Entry.Seq, iV t_139.1.Entry.Cmd.Kind, iV t_139.1.Entry.Cmd.Who, v_155, v_159, v_163] : List Value).toArray) (vs := [iV t_139.1.Kind, iV t_139.1.From, iV t_139.1.To, iV t_139.1.View, iV t_139.1.Inst, iV t_139.1.Len, .bool t_139.1.Has, iV t_139.1.Members, iV t_139.1.Source, iV t_139.1.At, iV t_139.1.Total, v_143, iV t_139.1.Hop, iV t_139.1.Seq, v_147, v_151, iV t_139.1.Index, iV t_139.1.Entry.Sess, iV t_139.1.Entry.Seq, iV t_139.1.Entry.Cmd.Kind, iV t_139.1.Entry.Cmd.Who, v_155, v_159, v_163]) rfl ti29 rfl rfl rfl (by intro u hu; simp only [List.mem_cons, List.not_mem_nil, or_false] at hu; rcases hu with rfl | rfl | rfl | rfl | rfl | rfl | rfl | rfl | rfl | rfl | rfl | rfl | rfl | rfl | rfl | rfl | rfl | rfl | rfl | rfl | rfl | rfl | rfl | rfl <;> first | rfl | exact hr_144.one | exact hr_148.one | exact hr_152.one | exact hr_156.one | exact hr_160.one | exact hr_164.one)
        refine s_store h rfl rfl hs' ?_
        replace hS : Sep w0 w_169 [_, _, _, _, _, _, _, _, _, _, _, _, _, _, _, _, _, _, _, _, _, _, Mem.one g_168 (.cells ([iV t_139.1.Kind, iV t_139.1.From, iV t_139.1.To, iV t_139.1.View, iV t_139.1.Inst, iV t_139.1.Len, .bool t_139.1.Has, iV t_139.1.Members, iV t_139.1.Source, iV t_139.1.At, iV t_139.1.Total, v_143, iV t_139.1.Hop, iV t_139.1.Seq, v_147, v_151, iV t_139.1.Index, iV t_139.1.Entry.Sess, iV t_139.1.Entry.Seq, iV t_139.1.Entry.Cmd.Kind, iV t_139.1.Entry.Cmd.Who, v_155, v_159, v_163] : List Value).toArray 29 (0, 0))] Z := hS'
        clear hs' hS'
        refine s_assign h rfl rfl fun a h=>wpList_nil <| x_then_n <| c_seq fun KJ_170 hKJ_170 => wp_region_lit <| s_move h rfl rfl fun a h=>s_move h rfl rfl fun a h=>s_beq (b := !(t_108.2 == t_139.2)) h rfl U4 rfl rfl (.inr ⟨rfl, rfl⟩) fun a h=>s_move h rfl rfl fun a h=>?_
        by_cases hc_171 : t_108.2 = t_139.2
        ·rw [if_pos hc_171] at H
         refine s_on h rfl rfl (nf (beq_iff_eq.2 hc_171)) <| s_load h rfl rfl (hS.load_agg (p := 15) (us := [iV t_108.1.Kind, iV t_108.1.From, iV t_108.1.To, iV t_108.1.View, iV t_108.1.Inst, iV t_108.1.Len, .bool t_108.1.Has, iV t_108.1.Members, iV t_108.1.Source, iV t_108.1.At, iV t_108.1.Total, v_112, iV t_108.1.Hop, iV t_108.1.Seq, v_116, v_120, iV t_108.1.Index, iV t_108.1.Entry.Sess, iV t_108.1.Entry.Seq, iV t_108.1.Entry.Cmd.Kind, iV t_108.1.Entry.Cmd.Who, v_124, v_128, v_132]) rfl U29 rfl ti29 rfl rfl) fun a h=>s_on h rfl rfl (nf (beq_iff_eq.2 hc_171)) <| s_load h rfl rfl (hS.load_agg (p := 22) (us := [iV t_139.1.Kind, iV t_139.1.From, iV t_139.1.To, iV t_139.1.View, iV t_139.1.Inst, iV t_139.1.Len, .bool t_139.1.Has, iV t_139.1.Members, iV t_139.1.Source, iV t_139.1.At, iV t_139.1.Total, v_143, iV t_139.1.Hop, iV t_139.1.Seq, v_147, v_151, iV t_139.1.Index, iV t_139.1.Entry.Sess, iV t_139.1.Entry.Seq, iV t_139.1.Entry.Cmd.Kind, iV t_139.1.Entry.Cmd.Who, v_155, v_159, v_163]) rfl U29 rfl ti29 rfl rfl) fun a h=>?_
         refine s_on h rfl rfl (nf (beq_iff_eq.2 hc_171)) ?_
         obtain ⟨t_172, et_172, H⟩ := Option.bind_eq_some_iff.1 H
         refine s_call h rfl Try.call15 rfl (hocketref11_Same.calls K t_108.1 _ _ _ _ _ _ t_139.1 _ _ _ _ _ _ t_172 w0 _ _ _ (Mem.le.refl _) (hS.enter [] (by decide)) (hr_113.rd (hS.own_zed [] 8 (by decide)) (Mem.no_le _)) (hr_117.rd (hS.own_zed [] 9 (by decide)) (Mem.no_le _)) (hr_121.rd (hS.own_zed [] 10 (by decide)) (Mem.no_le _)) (hr_125.rd (hS.own_zed [] 11 (by decide)) (Mem.no_le _)) (hr_129.rd (hS.own_zed [] 12 (by decide)) (Mem.no_le _)) (hr_133.rd (hS.own_zed [] 13 (by decide)) (Mem.no_le _)) (hr_144.rd (hS.own_zed [] 15 (by decide)) (Mem.no_le _)) (hr_148.rd (hS.own_zed [] 16 (by decide)) (Mem.no_le _)) (hr_152.rd (hS.own_zed [] 17 (by decide)) (Mem.no_le _)) (hr_156.rd (hS.own_zed [] 18 (by decide)) (Mem.no_le _)) (hr_160.rd (hS.own_zed [] 19 (by decide)) (Mem.no_le _)) (hr_164.rd (hS.own_zed [] 20 (by decide)) (Mem.no_le _)) et_172) ?_
         rintro _ w_173 ⟨N_174, rfl, hS'⟩
         intro a h
         obtain ⟨N_175, hS'', le_175, ln_175⟩ := hS.call [] (by decide) rfl (l' := []) (ow := []) rfl hS'
         replace hS : Sep w0 w_173 [N_175, _, _, _, _, _, _, _, _, _, _, _, _, _, _, _, _, _, _, _, _, _, _] Z := hS''
         clear hS' hS''
         refine s_on h rfl rfl (nf (beq_iff_eq.2 hc_171)) <| s_not h rfl rfl fun a h=>s_pick_f h rfl rfl (nf (beq_iff_eq.2 hc_171)) rfl fun a h=>wpList_nil <| x_then_n (hKJ_170 _ _ ?_)
         by_cases hc_176 : t_172 = true
         ·rw [if_pos hc_176] at H
          refine c_cond_f h rfl (nf hc_176) <| wp_skip <| x_block_n <| x_then_n (hKJ_100 _ _ ?_)
          refine wp_region_lit <| s_arith (r := w64 (x_95 + 1)) h rfl rfl rfl (.inl ⟨rfl, rfl⟩) fun a h=>s_move h rfl rfl fun a h=>wpList_nil ?_
          replace h : Fr 119 a [(12, _), (92, _), (93, _), (94, iV (w64 (x_95 + 1)))] := h.keep [12, 92, 93, 94]
          refine x_then_n (hKL_96 _ _ ?_)
          replace hS : Sep w0 w_173 [_, _, _, _, _, _, _, _, _, _, _, _, _, _, _, _, _, _, _, _, _, _, _] Z := hS
          replace h : Fr 119 a [(12, _), (92, _), (93, _), (94, _)] := h.keep [12, 92, 93, 94]
          exact ⟨w64 (x_95 + 1), N_175, H, h, (Sep.sel hS [0, 1000, 1001, 1002, 1003, 1004, 1005, 1006, 8] (by decide)), (le_94.trans (le_111.trans (le_142.trans le_175)))⟩
         ·rw [if_neg hc_176] at H
          cases H
        ·rw [if_neg hc_171] at H
         cases H
       ·rw [if_neg hc_99] at H
        refine c_cond_f h rfl (decide_eq_false hc_99) <| wp_exit (x_then_x (x_then_x (x_block_t ?_)))
        replace hS : Sep w0 w_96 [_, _, _, _, _, _, _, _, _] Z := hS
        replace h : Fr 119 a [(12, _)] := h.keep [12]
        exact x_then_n (hJ_j_89  H _ _ ⟨N_94, h, (Sep.sel hS [0, 1000, 1001, 1002, 1003, 1004, 1005, 1006, 1007] (by decide)), le_94⟩)
      clear hKJ_77
      obtain ⟨N_177, hS', le_177, lo_177⟩ := hS.freeze 5 rfl
      replace hS : Sep w0 w_73 [N_177, _, _, _, _, _, Mem.no, _] Z := hS'
      clear hS'
      refine h_begin (S := fun w => Sep w0 w [N_177, Mem.no, Mem.no, Mem.no, Mem.no, Mem.no, Mem.no, Mem.no] Z) 15 (by kernel_rfl) rfl (bA 15 0) (by kernel_rfl) hS fun w_178 hS => ?_
      replace hS : Sep w0 w_178 [_, _, _, _, _, _, _, _] Z := hS
      refine t_take 0 (bA 15 1) rfl rfl rfl rfl h (hS.sub (.cons (Mem.le.refl _) (.zz (.zz (.zz (.zz (.zz (.zz (.zz .ii))))))))) (v := p3_6) (fun w hS => r_move h rfl) fun a h=>t_take 1 (bA 15 3) rfl rfl rfl rfl h (hS.sub (.cons (Mem.le.refl _) (.zz (.zz (.zz (.zz (.zz (.zz (.zz .ii))))))))) (v := v_43) (fun w hS => r_move h rfl) fun a h=>t_take 2 (bA 15 7) rfl rfl rfl rfl h (hS.sub (.cons (Mem.le.refl _) (.zz (.zz (.zz (.zz (.zz (.zz (.zz .ii))))))))) (v := v_64) (fun w hS => r_move h rfl) fun a h=>t_take 3 (bA 15 15) rfl rfl rfl rfl h (hS.sub (.cons (Mem.le.refl _) (.zz (.zz (.zz (.zz (.zz (.zz (.zz .ii))))))))) (v := v_43) (fun w hS => r_move h rfl) fun a h=>t_take 4 (bA 15 31) rfl rfl rfl rfl h (hS.sub (.cons (Mem.le.refl _) (.zz (.zz (.zz (.zz (.zz (.zz (.zz .ii))))))))) (v := iV x_66) (fun w hS => r_move h rfl) fun a h=>?_
      obtain ⟨t_179, et_179, H⟩ := Option.bind_eq_some_iff.1 H
      refine t_takeE 5 (bA 15 63) rfl rfl rfl rfl h (hS.sub (.cons (Mem.le.refl _) (.zz (.zz (.zz (.zz (.zz (.zz (.zz .ii))))))))) (f := fun v => v) (r_slice h U23 ti5 rfl rfl (hr_44.rd lo_177 (Mem.no_le _)) rfl rfl et_179) fun v_180 hr_181 a h => t_take 7 (bA 15 191) rfl rfl rfl rfl h (hS.sub (.cons (Mem.le.refl _) (.zz (.zz (.zz (.zz (.zz (.zz (.zz .ii))))))))) (v := v_43) (fun w hS => r_move h rfl) fun a h=>t_take 9 (bA 15 703) rfl rfl rfl rfl h (hS.sub (.cons (Mem.le.refl _) (.zz (.zz (.zz (.zz (.zz (.zz (.zz .ii))))))))) (v := .int .u8 (x5.toNat : Int)) (fun w hS => r_move h rfl) fun a h=>t_take 14 (bA 15 17087) rfl rfl rfl rfl h (hS.sub (.cons (Mem.le.refl _) (.zz (.zz (.zz (.zz (.zz (.zz (.zz .ii))))))))) (v := iV 0) (fun w hS => r_move h rfl) fun a h=>?_
      obtain ⟨t_188, et_188, H⟩ := Option.bind_eq_some_iff.1 H
      obtain ⟨t_200, et_200, H⟩ := Option.bind_eq_some_iff.1 H
      refine h_events [6, 10] (by kernel_rfl) (by simp) ?_
      intro i hi; simp only [List.mem_cons, List.not_mem_nil, or_false] at hi; rcases hi with rfl | rfl
      ·refine ⟨_, (bA 15 17151), rfl, by kernel_rfl, ?_⟩
       have hq_186 : Reps Kd.u8 Mem.no ([] : List UInt8) _ := (Reps.nil Kd.u8 _)
       refine s_buildSlice h rfl U23 ti5 rfl rfl rfl .nil rfl rfl rfl hS hq_186 rfl fun w_182 v_183 M_184 hS' ho_185 a h => ?_
       replace hS : Sep w0 w_182 [_, _, _, _, _, _, _, _, M_184] Z := hS'
       clear hS' hq_186
       refine wpList_nil <| x_then_n ⟨(hS.sub (.cons (Mem.le.refl _) (.zz (.zz (.zz (.zz (.zz (.zz (.zz .nn))))))))), ?_⟩
       refine h_events [8, 10] (by kernel_rfl) (by simp) ?_
       intro i hi; simp only [List.mem_cons, List.not_mem_nil, or_false] at hi; rcases hi with rfl | rfl
       ·refine ⟨_, (bA 15 17407), rfl, by kernel_rfl, ?_⟩
        refine s_append (J := Mem.no) (I' := Mem.no) (p := 8) 140737488355328 h rfl rfl rfl U23 ti5 rfl rfl rfl rfl hS rfl ho_185 (Src.flat flat_u8 ((hr_44.rd lo_177 (Mem.no_le _)).src ((Mem.le.refl _).trans (hS.own 0)))) (Mem.le.refl _) (Mem.le.refl _) et_188 fun w_189 v_190 M_191 hS' ho_192 a h => ?_
        replace hS : Sep w0 w_189 [_, _, _, _, _, _, _, _, M_191] Z := hS'
        clear hS'
        refine wpList_nil <| x_then_n ⟨(hS.sub (.cons (Mem.le.refl _) (.zz (.zz (.zz (.zz (.zz (.zz (.zz .nn))))))))), ?_⟩
        refine h_event 10 (bA 15 18431) rfl (by kernel_rfl) (by kernel_rfl) ?_
        have hq_198 : Reps Kd.u8 Mem.no ([x5] : List UInt8) _ := ((Reps.one (d := Kd.u8) (x := x5) (show Kd.u8.K _ _ [.int .u8 (x5.toNat : Int)] from rfl)).append (Reps.nil Kd.u8 _))
        refine s_buildSlice h rfl U23 ti5 rfl rfl rfl (.cons rfl .nil) rfl rfl rfl hS hq_198 rfl fun w_194 v_195 M_196 hS' ho_197 a h => ?_
        replace hS : Sep w0 w_194 [_, _, _, _, _, _, _, _, _, M_196] Z := hS'
        clear hS' hq_198
        refine wpList_nil <| x_then_n ⟨(hS.sub (.cons (Mem.le.refl _) (.zz (.zz (.zz (.zz (.zz (.zz (.zz .nn))))))))), ?_⟩
        refine h_event 11 (bA 15 20479) rfl (by kernel_rfl) (by kernel_rfl) <| s_append (J := Mem.no) (I' := Mem.no) (p := 8) 140737488355328 h rfl rfl rfl U23 ti5 rfl rfl rfl rfl hS rfl ho_192 (Src.flat flat_u8 (ho_197.src (hS.own 9))) (Mem.le.refl _) (Mem.le.refl _) et_200 fun w_201 v_202 M_203 hS' ho_204 a h => ?_
        replace hS : Sep w0 w_201 [_, _, _, _, _, _, _, _, M_203, _] Z := hS'
        clear hS'
        refine wpList_nil <| x_then_n ⟨(hS.sub (.cons (Mem.le.refl _) (.zz (.zz (.zz (.zz (.zz (.zz (.zz .nn))))))))), ?_⟩
        refine h_event 12 (bA 15 24575) rfl (by kernel_rfl) (by kernel_rfl) ?_
        obtain ⟨N_206, hS', le_206, lo_206⟩ := hS.freeze 6 rfl
        replace hS : Sep w0 w_201 [N_206, _, _, _, _, _, _, Mem.no, _, _] Z := hS'
        clear hS'
        obtain ⟨N_207, hS', le_207, lo_207⟩ := hS.freeze 7 rfl
        replace hS : Sep w0 w_201 [N_207, _, _, _, _, _, _, _, Mem.no, _] Z := hS'
        clear hS'
        have hq_212 : Reps (Kd.slice Kd.u8) (A.un N_207) ([x3, t_39, x_61, t_179, t_200] : List (List UInt8)) _ := ((Reps.one (d := (Kd.slice Kd.u8)) (x := x3) ⟨_, rfl, (hp3_6.mono (Mem.le_un _ _))⟩).append ((Reps.one (d := (Kd.slice Kd.u8)) (x := t_39) ⟨_, rfl, ((hr_44.rd lo_177 (Mem.no_le _)).mono ((le_206.trans le_207).trans (hS.sndA hA)))⟩).append ((Reps.one (d := (Kd.slice Kd.u8)) (x := x_61) ⟨_, rfl, ((ho_65.rd lo_206 (Mem.no_le _)).mono (le_207.trans (hS.sndA hA)))⟩).append ((Reps.one (d := (Kd.slice Kd.u8)) (x := t_179) ⟨_, rfl, (hr_181.mono ((le_206.trans le_207).trans (hS.sndA hA)))⟩).append ((Reps.one (d := (Kd.slice Kd.u8)) (x := t_200) ⟨_, rfl, ((ho_204.rd lo_207 (Mem.no_le _)).mono ((Mem.le.refl _).trans (hS.sndA hA)))⟩).append (Reps.nil (Kd.slice Kd.u8) _))))))
        refine s_buildSlice h rfl U41 ti23 rfl rfl rfl (.cons hp3_6.cells (.cons (hr_44.rd lo_177 (Mem.no_le _)).cells (.cons (ho_65.rd lo_206 (Mem.no_le _)).cells (.cons hr_181.cells (.cons (ho_204.rd lo_207 (Mem.no_le _)).cells .nil))))) rfl rfl rfl hS hq_212 rfl fun w_208 v_209 M_210 hS' ho_211 a h => ?_
        replace hS : Sep w0 w_208 [_, _, _, _, _, _, _, _, _, _, M_210] Z := hS'
        clear hS' hq_212
        refine wpList_nil <| x_then_n ⟨(hS.sub (.cons (le_206.trans le_207) (.zz (.zz (.zz (.zz (.zz (.zz (.zz .nn))))))))), ?_⟩
        refine t_take 13 (bA 15 32767) rfl rfl rfl rfl h (hS.sub (.cons (le_206.trans le_207) (.zz (.zz (.zz (.zz (.zz (.zz (.zz .nn))))))))) (v := iV (([x3, t_39, x_61, t_179, t_200] : List (List UInt8)).length : Int)) (fun w hS => r_lenO h U41 rfl ho_211) fun a h=>h_done (by kernel_rfl) ?_
        replace hS : Sep w0 w_208 [_, _, _, _, _, _, _, _, _, _, _] Z := hS
        replace h : Fr 119 a [(12, _), (92, v_209), (93, iV (([x3, t_39, x_61, t_179, t_200] : List (List UInt8)).length : Int)), (94, iV 0)] := h.keep [12, 92, 93, 94]
        exact x_then_n (hJ_j_86 ([x3, t_39, x_61, t_179, t_200] : List (List UInt8)) (([x3, t_39, x_61, t_179, t_200] : List (List UInt8)).length : Int) H _ _ ⟨v_209, N_207, M_210, h, (Sep.sel hS [0, 1000, 1001, 1002, 1003, 1004, 1005, 1006, 10] (by decide)), (le_177.trans (le_206.trans le_207)), (ho_211.mono (Mem.un_left (Mem.le.refl _)))⟩)
       ·refine ⟨_, (bA 15 18175), rfl, by kernel_rfl, ?_⟩
        have hq_218 : Reps Kd.u8 Mem.no ([x5] : List UInt8) _ := ((Reps.one (d := Kd.u8) (x := x5) (show Kd.u8.K _ _ [.int .u8 (x5.toNat : Int)] from rfl)).append (Reps.nil Kd.u8 _))
        refine s_buildSlice h rfl U23 ti5 rfl rfl rfl (.cons rfl .nil) rfl rfl rfl hS hq_218 rfl fun w_214 v_215 M_216 hS' ho_217 a h => ?_
        replace hS : Sep w0 w_214 [_, _, _, _, _, _, _, _, _, M_216] Z := hS'
        clear hS' hq_218
        refine wpList_nil <| x_then_n ⟨(hS.sub (.cons (Mem.le.refl _) (.zz (.zz (.zz (.zz (.zz (.zz (.zz .nn))))))))), ?_⟩
        refine h_event 8 (bA 15 18431) rfl (by kernel_rfl) (by kernel_rfl) <| s_append (J := Mem.no) (I' := Mem.no) (p := 8) 140737488355328 h rfl rfl rfl U23 ti5 rfl rfl rfl rfl hS rfl ho_185 (Src.flat flat_u8 ((hr_44.rd lo_177 (Mem.no_le _)).src ((Mem.le.refl _).trans (hS.own 0)))) (Mem.le.refl _) (Mem.le.refl _) et_188 fun w_221 v_222 M_223 hS' ho_224 a h => ?_
        replace hS : Sep w0 w_221 [_, _, _, _, _, _, _, _, M_223, _] Z := hS'
        clear hS'
        refine wpList_nil <| x_then_n ⟨(hS.sub (.cons (Mem.le.refl _) (.zz (.zz (.zz (.zz (.zz (.zz (.zz .nn))))))))), ?_⟩
        refine h_event 11 (bA 15 20479) rfl (by kernel_rfl) (by kernel_rfl) <| s_append (J := Mem.no) (I' := Mem.no) (p := 8) 140737488355328 h rfl rfl rfl U23 ti5 rfl rfl rfl rfl hS rfl ho_224 (Src.flat flat_u8 (ho_217.src (hS.own 9))) (Mem.le.refl _) (Mem.le.refl _) et_200 fun w_227 v_228 M_229 hS' ho_230 a h => ?_
        replace hS : Sep w0 w_227 [_, _, _, _, _, _, _, _, M_229, _] Z := hS'
        clear hS'
        refine wpList_nil <| x_then_n ⟨(hS.sub (.cons (Mem.le.refl _) (.zz (.zz (.zz (.zz (.zz (.zz (.zz .nn))))))))), ?_⟩
        refine h_event 12 (bA 15 24575) rfl (by kernel_rfl) (by kernel_rfl) ?_
        obtain ⟨N_232, hS', le_232, lo_232⟩ := hS.freeze 6 rfl
        replace hS : Sep w0 w_227 [N_232, _, _, _, _, _, _, Mem.no, _, _] Z := hS'
        clear hS'
        obtain ⟨N_233, hS', le_233, lo_233⟩ := hS.freeze 7 rfl
        replace hS : Sep w0 w_227 [N_233, _, _, _, _, _, _, _, Mem.no, _] Z := hS'
        clear hS'
        have hq_238 : Reps (Kd.slice Kd.u8) (A.un N_233) ([x3, t_39, x_61, t_179, t_200] : List (List UInt8)) _ := ((Reps.one (d := (Kd.slice Kd.u8)) (x := x3) ⟨_, rfl, (hp3_6.mono (Mem.le_un _ _))⟩).append ((Reps.one (d := (Kd.slice Kd.u8)) (x := t_39) ⟨_, rfl, ((hr_44.rd lo_177 (Mem.no_le _)).mono ((le_232.trans le_233).trans (hS.sndA hA)))⟩).append ((Reps.one (d := (Kd.slice Kd.u8)) (x := x_61) ⟨_, rfl, ((ho_65.rd lo_232 (Mem.no_le _)).mono (le_233.trans (hS.sndA hA)))⟩).append ((Reps.one (d := (Kd.slice Kd.u8)) (x := t_179) ⟨_, rfl, (hr_181.mono ((le_232.trans le_233).trans (hS.sndA hA)))⟩).append ((Reps.one (d := (Kd.slice Kd.u8)) (x := t_200) ⟨_, rfl, ((ho_230.rd lo_233 (Mem.no_le _)).mono ((Mem.le.refl _).trans (hS.sndA hA)))⟩).append (Reps.nil (Kd.slice Kd.u8) _))))))
        refine s_buildSlice h rfl U41 ti23 rfl rfl rfl (.cons hp3_6.cells (.cons (hr_44.rd lo_177 (Mem.no_le _)).cells (.cons (ho_65.rd lo_232 (Mem.no_le _)).cells (.cons hr_181.cells (.cons (ho_230.rd lo_233 (Mem.no_le _)).cells .nil))))) rfl rfl rfl hS hq_238 rfl fun w_234 v_235 M_236 hS' ho_237 a h => ?_
        replace hS : Sep w0 w_234 [_, _, _, _, _, _, _, _, _, _, M_236] Z := hS'
        clear hS' hq_238
        refine wpList_nil <| x_then_n ⟨(hS.sub (.cons (le_232.trans le_233) (.zz (.zz (.zz (.zz (.zz (.zz (.zz .nn))))))))), ?_⟩
        refine t_take 13 (bA 15 32767) rfl rfl rfl rfl h (hS.sub (.cons (le_232.trans le_233) (.zz (.zz (.zz (.zz (.zz (.zz (.zz .nn))))))))) (v := iV (([x3, t_39, x_61, t_179, t_200] : List (List UInt8)).length : Int)) (fun w hS => r_lenO h U41 rfl ho_237) fun a h=>h_done (by kernel_rfl) ?_
        replace hS : Sep w0 w_234 [_, _, _, _, _, _, _, _, _, _, _] Z := hS
        replace h : Fr 119 a [(12, _), (92, v_235), (93, iV (([x3, t_39, x_61, t_179, t_200] : List (List UInt8)).length : Int)), (94, iV 0)] := h.keep [12, 92, 93, 94]
        exact x_then_n (hJ_j_86 ([x3, t_39, x_61, t_179, t_200] : List (List UInt8)) (([x3, t_39, x_61, t_179, t_200] : List (List UInt8)).length : Int) H _ _ ⟨v_235, N_233, M_236, h, (Sep.sel hS [0, 1000, 1001, 1002, 1003, 1004, 1005, 1006, 10] (by decide)), (le_177.trans (le_232.trans le_233)), (ho_237.mono (Mem.un_left (Mem.le.refl _)))⟩)
      ·refine ⟨_, (bA 15 18111), rfl, by kernel_rfl, ?_⟩
       have hq_244 : Reps Kd.u8 Mem.no ([x5] : List UInt8) _ := ((Reps.one (d := Kd.u8) (x := x5) (show Kd.u8.K _ _ [.int .u8 (x5.toNat : Int)] from rfl)).append (Reps.nil Kd.u8 _))
       refine s_buildSlice h rfl U23 ti5 rfl rfl rfl (.cons rfl .nil) rfl rfl rfl hS hq_244 rfl fun w_240 v_241 M_242 hS' ho_243 a h => ?_
       replace hS : Sep w0 w_240 [_, _, _, _, _, _, _, _, M_242] Z := hS'
       clear hS' hq_244
       refine wpList_nil <| x_then_n ⟨(hS.sub (.cons (Mem.le.refl _) (.zz (.zz (.zz (.zz (.zz (.zz (.zz .nn))))))))), ?_⟩
       refine h_event 6 (bA 15 18175) rfl (by kernel_rfl) (by kernel_rfl) ?_
       have hq_250 : Reps Kd.u8 Mem.no ([] : List UInt8) _ := (Reps.nil Kd.u8 _)
       refine s_buildSlice h rfl U23 ti5 rfl rfl rfl .nil rfl rfl rfl hS hq_250 rfl fun w_246 v_247 M_248 hS' ho_249 a h => ?_
       replace hS : Sep w0 w_246 [_, _, _, _, _, _, _, _, _, M_248] Z := hS'
       clear hS' hq_250
       refine wpList_nil <| x_then_n ⟨(hS.sub (.cons (Mem.le.refl _) (.zz (.zz (.zz (.zz (.zz (.zz (.zz .nn))))))))), ?_⟩
       refine h_event 8 (bA 15 18431) rfl (by kernel_rfl) (by kernel_rfl) <| s_append (J := Mem.no) (I' := Mem.no) (p := 9) 140737488355328 h rfl rfl rfl U23 ti5 rfl rfl rfl rfl hS rfl ho_249 (Src.flat flat_u8 ((hr_44.rd lo_177 (Mem.no_le _)).src ((Mem.le.refl _).trans (hS.own 0)))) (Mem.le.refl _) (Mem.le.refl _) et_188 fun w_253 v_254 M_255 hS' ho_256 a h => ?_
       replace hS : Sep w0 w_253 [_, _, _, _, _, _, _, _, _, M_255] Z := hS'
       clear hS'
       refine wpList_nil <| x_then_n ⟨(hS.sub (.cons (Mem.le.refl _) (.zz (.zz (.zz (.zz (.zz (.zz (.zz .nn))))))))), ?_⟩
       refine h_event 11 (bA 15 20479) rfl (by kernel_rfl) (by kernel_rfl) <| s_append (J := Mem.no) (I' := Mem.no) (p := 9) 140737488355328 h rfl rfl rfl U23 ti5 rfl rfl rfl rfl hS rfl ho_256 (Src.flat flat_u8 (ho_243.src (hS.own 8))) (Mem.le.refl _) (Mem.le.refl _) et_200 fun w_259 v_260 M_261 hS' ho_262 a h => ?_
       replace hS : Sep w0 w_259 [_, _, _, _, _, _, _, _, _, M_261] Z := hS'
       clear hS'
       refine wpList_nil <| x_then_n ⟨(hS.sub (.cons (Mem.le.refl _) (.zz (.zz (.zz (.zz (.zz (.zz (.zz .nn))))))))), ?_⟩
       refine h_event 12 (bA 15 24575) rfl (by kernel_rfl) (by kernel_rfl) ?_
       obtain ⟨N_264, hS', le_264, lo_264⟩ := hS.freeze 6 rfl
       replace hS : Sep w0 w_259 [N_264, _, _, _, _, _, _, Mem.no, _, _] Z := hS'
       clear hS'
       obtain ⟨N_265, hS', le_265, lo_265⟩ := hS.freeze 8 rfl
       replace hS : Sep w0 w_259 [N_265, _, _, _, _, _, _, _, _, Mem.no] Z := hS'
       clear hS'
       have hq_270 : Reps (Kd.slice Kd.u8) (A.un N_265) ([x3, t_39, x_61, t_179, t_200] : List (List UInt8)) _ := ((Reps.one (d := (Kd.slice Kd.u8)) (x := x3) ⟨_, rfl, (hp3_6.mono (Mem.le_un _ _))⟩).append ((Reps.one (d := (Kd.slice Kd.u8)) (x := t_39) ⟨_, rfl, ((hr_44.rd lo_177 (Mem.no_le _)).mono ((le_264.trans le_265).trans (hS.sndA hA)))⟩).append ((Reps.one (d := (Kd.slice Kd.u8)) (x := x_61) ⟨_, rfl, ((ho_65.rd lo_264 (Mem.no_le _)).mono (le_265.trans (hS.sndA hA)))⟩).append ((Reps.one (d := (Kd.slice Kd.u8)) (x := t_179) ⟨_, rfl, (hr_181.mono ((le_264.trans le_265).trans (hS.sndA hA)))⟩).append ((Reps.one (d := (Kd.slice Kd.u8)) (x := t_200) ⟨_, rfl, ((ho_262.rd lo_265 (Mem.no_le _)).mono ((Mem.le.refl _).trans (hS.sndA hA)))⟩).append (Reps.nil (Kd.slice Kd.u8) _))))))
       refine s_buildSlice h rfl U41 ti23 rfl rfl rfl (.cons hp3_6.cells (.cons (hr_44.rd lo_177 (Mem.no_le _)).cells (.cons (ho_65.rd lo_264 (Mem.no_le _)).cells (.cons hr_181.cells (.cons (ho_262.rd lo_265 (Mem.no_le _)).cells .nil))))) rfl rfl rfl hS hq_270 rfl fun w_266 v_267 M_268 hS' ho_269 a h => ?_
       replace hS : Sep w0 w_266 [_, _, _, _, _, _, _, _, _, _, M_268] Z := hS'
       clear hS' hq_270
       refine wpList_nil <| x_then_n ⟨(hS.sub (.cons (le_264.trans le_265) (.zz (.zz (.zz (.zz (.zz (.zz (.zz .nn))))))))), ?_⟩
       refine t_take 13 (bA 15 32767) rfl rfl rfl rfl h (hS.sub (.cons (le_264.trans le_265) (.zz (.zz (.zz (.zz (.zz (.zz (.zz .nn))))))))) (v := iV (([x3, t_39, x_61, t_179, t_200] : List (List UInt8)).length : Int)) (fun w hS => r_lenO h U41 rfl ho_269) fun a h=>h_done (by kernel_rfl) ?_
       replace hS : Sep w0 w_266 [_, _, _, _, _, _, _, _, _, _, _] Z := hS
       replace h : Fr 119 a [(12, _), (92, v_267), (93, iV (([x3, t_39, x_61, t_179, t_200] : List (List UInt8)).length : Int)), (94, iV 0)] := h.keep [12, 92, 93, 94]
       exact x_then_n (hJ_j_86 ([x3, t_39, x_61, t_179, t_200] : List (List UInt8)) (([x3, t_39, x_61, t_179, t_200] : List (List UInt8)).length : Int) H _ _ ⟨v_267, N_265, M_268, h, (Sep.sel hS [0, 1000, 1001, 1002, 1003, 1004, 1005, 1006, 10] (by decide)), (le_177.trans (le_264.trans le_265)), (ho_269.mono (Mem.un_left (Mem.le.refl _)))⟩)
    clear hKJ_70
    refine h_begin (S := fun w => Sep w0 w [N_60, Mem.one g_2 (.cells ([iV x0.Kind, iV x0.From, iV x0.To, iV x0.View, iV x0.Inst, iV x0.Len, .bool x0.Has, iV x0.Members, iV x0.Source, iV x0.At, iV x0.Total, p0_0, iV x0.Hop, iV x0.Seq, p0_1, p0_2, iV x0.Index, iV x0.Entry.Sess, iV x0.Entry.Seq, iV x0.Entry.Cmd.Kind, iV x0.Entry.Cmd.Who, p0_3, p0_4, p0_5] : List Value).toArray 29 (0, 0)), M_20, M_24, M_28, Mem.one g_37 (.cells ([iV t_14.Kind, iV t_14.From, iV t_14.To, iV t_14.View, iV t_14.Inst, iV t_14.Len, .bool t_14.Has, iV t_14.Members, iV t_14.Source, iV t_14.At, iV t_14.Total, v_18, iV t_14.Hop, iV t_14.Seq, v_22, v_26, iV t_14.Index, iV t_14.Entry.Sess, iV t_14.Entry.Seq, iV t_14.Entry.Cmd.Kind, iV t_14.Entry.Cmd.Who, v_30, v_32, v_34] : List Value).toArray 29 (0, 0)), M_45, M_62] Z) 15 (by kernel_rfl) rfl (bA 15 0) (by kernel_rfl) hS fun w_272 hS => ?_
    replace hS : Sep w0 w_272 [_, _, _, _, _, _, _, _] Z := hS
    refine t_take 0 (bA 15 1) rfl rfl rfl rfl h (hS.sub .ii) (v := .agg ([iV t_14.Kind, iV t_14.From, iV t_14.To, iV t_14.View, iV t_14.Inst, iV t_14.Len, .bool t_14.Has, iV t_14.Members, iV t_14.Source, iV t_14.At, iV t_14.Total, v_18, iV t_14.Hop, iV t_14.Seq, v_22, v_26, iV t_14.Index, iV t_14.Entry.Sess, iV t_14.Entry.Seq, iV t_14.Entry.Cmd.Kind, iV t_14.Entry.Cmd.Who, v_30, v_32, v_34] : List Value).toArray) (fun w hS => r_load h rfl (hS.load_agg (p := 5) (us := [iV t_14.Kind, iV t_14.From, iV t_14.To, iV t_14.View, iV t_14.Inst, iV t_14.Len, .bool t_14.Has, iV t_14.Members, iV t_14.Source, iV t_14.At, iV t_14.Total, v_18, iV t_14.Hop, iV t_14.Seq, v_22, v_26, iV t_14.Index, iV t_14.Entry.Sess, iV t_14.Entry.Seq, iV t_14.Entry.Cmd.Kind, iV t_14.Entry.Cmd.Who, v_30, v_32, v_34]) rfl U29 rfl ti29 rfl rfl)) fun a h=>t_take 3 (bA 15 9) rfl rfl rfl rfl h (hS.sub .ii) (v := v_43) (fun w hS => r_move h rfl) fun a h=>t_take 4 (bA 15 25) rfl rfl rfl rfl h (hS.sub .ii) (v := .string ⟨t_39.toArray⟩) (fun w hS => r_b2s h U23 U5 U9 rfl (hr_44.rd (J := hp w) (hS.own 6) (Mem.no_le _)) (Mem.le.refl _)) fun a h=>?_
    refine h_event 1 (bA 15 27) rfl (by kernel_rfl) (by kernel_rfl) ?_
    obtain ⟨t_273, et_273, H⟩ := Option.bind_eq_some_iff.1 H
    refine s_call h rfl Try.call19 rfl (fram_Wrap.calls K t_14 _ _ _ _ _ _ t_273 w0 _ _ _ (Mem.le.refl _) (hS.enter [] (by decide)) (hr_19.rd (hS.own_zed [] 1 (by decide)) (Mem.no_le _)) (hr_23.rd (hS.own_zed [] 2 (by decide)) (Mem.no_le _)) (hr_27.rd (hS.own_zed [] 3 (by decide)) (Mem.no_le _)) ((hr_31.mono ln_17).mono ((le_42.trans le_60).trans (hS.new_zed []))) ((hr_33.mono ln_17).mono ((le_42.trans le_60).trans (hS.new_zed []))) ((hr_35.mono ln_17).mono ((le_42.trans le_60).trans (hS.new_zed []))) et_273) ?_
    rintro v_277 w_274 ⟨_, N_275, M_279, rfl, hS', hr_278⟩
    intro a h
    obtain ⟨N_276, hS'', le_276, ln_276⟩ := hS.call [] (by decide) rfl (l' := []) (ow := [M_279]) rfl hS'
    replace hS : Sep w0 w_274 [N_276, _, _, _, _, _, _, _, M_279] Z := hS''
    clear hS' hS''
    refine wpList_nil <| x_then_n ⟨(hS.sub (.cons le_276 (.rr (.rr (.rr (.rr (.rr (.rr (.rr .nn))))))))), ?_⟩
    refine h_event 2 (bA 15 31) rfl (by kernel_rfl) (by kernel_rfl) <| s_b2s h rfl U23 U5 U9 rfl (hr_278.rd (J := hp w_274) (hS.own 8) (Mem.no_le _)) (Mem.le.refl _) fun a h=>wpList_nil <| x_then_n ⟨(hS.sub (.cons le_276 (.rr (.rr (.rr (.rr (.rr (.rr (.rr .nn))))))))), ?_⟩
    refine t_take 5 (bA 15 63) rfl rfl rfl rfl h (hS.sub (.cons le_276 (.rr (.rr (.rr (.rr (.rr (.rr (.rr .nn))))))))) (v := .bool (!(t_273 == t_39))) (fun w hS => r_strEq (b := !(t_273 == t_39)) h rfl rfl (.inr ⟨rfl, rfl⟩)) fun a h=>t_take 6 (bA 15 127) rfl rfl rfl rfl h (hS.sub (.cons le_276 (.rr (.rr (.rr (.rr (.rr (.rr (.rr .nn))))))))) (v := .bool (!(t_273 == t_39))) (fun w hS => r_move h rfl) fun a h=>?_
    by_cases hc_281 : t_273 = t_39
    ·rw [if_pos hc_281] at H
     refine t_take_on 7 (bA 15 255) rfl rfl rfl rfl (nf (beq_iff_eq.2 hc_281)) rfl rfl h (hS.sub (.cons le_276 (.rr (.rr (.rr (.rr (.rr (.rr (.rr .nn))))))))) (v := .agg ([iV x0.Kind, iV x0.From, iV x0.To, iV x0.View, iV x0.Inst, iV x0.Len, .bool x0.Has, iV x0.Members, iV x0.Source, iV x0.At, iV x0.Total, p0_0, iV x0.Hop, iV x0.Seq, p0_1, p0_2, iV x0.Index, iV x0.Entry.Sess, iV x0.Entry.Seq, iV x0.Entry.Cmd.Kind, iV x0.Entry.Cmd.Who, p0_3, p0_4, p0_5] : List Value).toArray) (fun w hS => r_load h rfl (hS.load_agg (p := 1) (us := [iV x0.Kind, iV x0.From, iV x0.To, iV x0.View, iV x0.Inst, iV x0.Len, .bool x0.Has, iV x0.Members, iV x0.Source, iV x0.At, iV x0.Total, p0_0, iV x0.Hop, iV x0.Seq, p0_1, p0_2, iV x0.Index, iV x0.Entry.Sess, iV x0.Entry.Seq, iV x0.Entry.Cmd.Kind, iV x0.Entry.Cmd.Who, p0_3, p0_4, p0_5]) rfl U29 rfl ti29 rfl rfl)) fun a h=>t_take_on 10 (bA 15 1279) rfl rfl rfl rfl (nf (beq_iff_eq.2 hc_281)) rfl rfl h (hS.sub (.cons le_276 (.rr (.rr (.rr (.rr (.rr (.rr (.rr .nn))))))))) (v := .agg ([iV x0.Kind, iV x0.From, iV x0.To, iV x0.View, iV x0.Inst, iV x0.Len, .bool x0.Has, iV x0.Members, iV x0.Source, iV x0.At, iV x0.Total, p0_0, iV x0.Hop, iV x0.Seq, p0_1, p0_2, iV x0.Index, iV x0.Entry.Sess, iV x0.Entry.Seq, iV x0.Entry.Cmd.Kind, iV x0.Entry.Cmd.Who, p0_3, p0_4, p0_5] : List Value).toArray) (fun w hS => r_load h rfl (hS.load_agg (p := 1) (us := [iV x0.Kind, iV x0.From, iV x0.To, iV x0.View, iV x0.Inst, iV x0.Len, .bool x0.Has, iV x0.Members, iV x0.Source, iV x0.At, iV x0.Total, p0_0, iV x0.Hop, iV x0.Seq, p0_1, p0_2, iV x0.Index, iV x0.Entry.Sess, iV x0.Entry.Seq, iV x0.Entry.Cmd.Kind, iV x0.Entry.Cmd.Who, p0_3, p0_4, p0_5]) rfl U29 rfl ti29 rfl rfl)) fun a h=>?_
     refine h_event 8 (bA 15 1535) rfl (by kernel_rfl) (by kernel_rfl) <| s_on h rfl rfl (nf (beq_iff_eq.2 hc_281)) ?_
     obtain ⟨t_282, et_282, H⟩ := Option.bind_eq_some_iff.1 H
     refine s_call h rfl Try.call19 rfl (fram_Wrap.calls K x0 _ _ _ _ _ _ t_282 w0 _ _ _ (Mem.le.refl _) (hS.enter [] (by decide)) (hp0_0.mono (hA.trans (hS.le_zed []))) (hp0_1.mono (hA.trans (hS.le_zed []))) (hp0_2.mono (hA.trans (hS.le_zed []))) (hp0_3.mono (hA.trans (hS.le_zed []))) (hp0_4.mono (hA.trans (hS.le_zed []))) (hp0_5.mono (hA.trans (hS.le_zed []))) et_282) ?_
     rintro v_286 w_283 ⟨_, N_284, M_288, rfl, hS', hr_287⟩
     intro a h
     obtain ⟨N_285, hS'', le_285, ln_285⟩ := hS.call [] (by decide) rfl (l' := []) (ow := [M_288]) rfl hS'
     replace hS : Sep w0 w_283 [N_285, _, _, _, _, _, _, _, _, M_288] Z := hS''
     clear hS' hS''
     refine wpList_nil <| x_then_n ⟨(hS.sub (.cons (le_276.trans le_285) (.rr (.rr (.rr (.rr (.rr (.rr (.rr .nn))))))))), ?_⟩
     obtain ⟨t_290, et_290, H⟩ := Option.bind_eq_some_iff.1 H
     refine h_events [9, 11] (by kernel_rfl) (by simp) ?_
     intro i hi; simp only [List.mem_cons, List.not_mem_nil, or_false] at hi; rcases hi with rfl | rfl
     ·refine ⟨_, (bA 15 2047), rfl, by kernel_rfl, ?_⟩
      refine s_on h rfl rfl (nf (beq_iff_eq.2 hc_281)) <| s_b2s h rfl U23 U5 U9 rfl (hr_287.rd (J := hp w_283) (hS.own 9) (Mem.no_le _)) (Mem.le.refl _) fun a h=>wpList_nil <| x_then_n ⟨(hS.sub (.cons (le_276.trans le_285) (.rr (.rr (.rr (.rr (.rr (.rr (.rr .nn))))))))), ?_⟩
      refine h_event 11 (bA 15 4095) rfl (by kernel_rfl) (by kernel_rfl) <| s_on h rfl rfl (nf (beq_iff_eq.2 hc_281)) <| s_call h rfl Try.call22 rfl (hocketref11_Wrap.calls K x0 _ _ _ _ _ _ t_290 w0 _ _ _ (Mem.le.refl _) (hS.enter [] (by decide)) (hp0_0.mono (hA.trans (hS.le_zed []))) (hp0_1.mono (hA.trans (hS.le_zed []))) (hp0_2.mono (hA.trans (hS.le_zed []))) (hp0_3.mono (hA.trans (hS.le_zed []))) (hp0_4.mono (hA.trans (hS.le_zed []))) (hp0_5.mono (hA.trans (hS.le_zed []))) et_290) ?_
      rintro v_294 w_291 ⟨_, N_292, M_296, rfl, hS', hr_295⟩
      intro a h
      obtain ⟨N_293, hS'', le_293, ln_293⟩ := hS.call [] (by decide) rfl (l' := []) (ow := [M_296]) rfl hS'
      replace hS : Sep w0 w_291 [N_293, _, _, _, _, _, _, _, _, _, M_296] Z := hS''
      clear hS' hS''
      refine wpList_nil <| x_then_n ⟨(hS.sub (.cons (le_276.trans (le_285.trans le_293)) (.rr (.rr (.rr (.rr (.rr (.rr (.rr .nn))))))))), ?_⟩
      refine h_event 12 (bA 15 8191) rfl (by kernel_rfl) (by kernel_rfl) <| s_on h rfl rfl (nf (beq_iff_eq.2 hc_281)) <| s_b2s h rfl U23 U5 U9 rfl (hr_295.rd (J := hp w_291) (hS.own 10) (Mem.no_le _)) (Mem.le.refl _) fun a h=>wpList_nil <| x_then_n ⟨(hS.sub (.cons (le_276.trans (le_285.trans le_293)) (.rr (.rr (.rr (.rr (.rr (.rr (.rr .nn))))))))), ?_⟩
      refine t_take_on 13 (bA 15 16383) rfl rfl rfl rfl (nf (beq_iff_eq.2 hc_281)) rfl rfl h (hS.sub (.cons (le_276.trans (le_285.trans le_293)) (.rr (.rr (.rr (.rr (.rr (.rr (.rr .nn))))))))) (v := .bool (!(t_282 == t_290))) (fun w hS => r_strEq (b := !(t_282 == t_290)) h rfl rfl (.inr ⟨rfl, rfl⟩)) fun a h=>t_take 14 (bA 15 32767) rfl rfl rfl rfl h (hS.sub (.cons (le_276.trans (le_285.trans le_293)) (.rr (.rr (.rr (.rr (.rr (.rr (.rr .nn))))))))) (v := .bool (!(t_282 == t_290))) (fun w hS => r_pick_f h rfl (nf (beq_iff_eq.2 hc_281)) rfl) fun a h=>h_done (by kernel_rfl) ?_
      replace hS : Sep w0 w_291 [_, _, _, _, _, _, _, _, _, _, _] Z := hS
      replace h : Fr 119 a [(3, _), (5, _), (12, _), (14, _), (15, _), (16, _), (79, .bool (!(t_282 == t_290)))] := h.keep [3, 5, 12, 14, 15, 16, 79]
      exact x_then_n (hJ_j_74 (!(t_282 == t_290)) H _ _ ⟨N_293, h, (Sep.sel hS [0, 1000, 1001, 1002, 1003, 1004, 6, 7] (by decide)), (le_276.trans (le_285.trans le_293))⟩)
     ·refine ⟨_, (bA 15 3583), rfl, by kernel_rfl, ?_⟩
      refine s_on h rfl rfl (nf (beq_iff_eq.2 hc_281)) <| s_call h rfl Try.call22 rfl (hocketref11_Wrap.calls K x0 _ _ _ _ _ _ t_290 w0 _ _ _ (Mem.le.refl _) (hS.enter [] (by decide)) (hp0_0.mono (hA.trans (hS.le_zed []))) (hp0_1.mono (hA.trans (hS.le_zed []))) (hp0_2.mono (hA.trans (hS.le_zed []))) (hp0_3.mono (hA.trans (hS.le_zed []))) (hp0_4.mono (hA.trans (hS.le_zed []))) (hp0_5.mono (hA.trans (hS.le_zed []))) et_290) ?_
      rintro v_302 w_299 ⟨_, N_300, M_304, rfl, hS', hr_303⟩
      intro a h
      obtain ⟨N_301, hS'', le_301, ln_301⟩ := hS.call [] (by decide) rfl (l' := []) (ow := [M_304]) rfl hS'
      replace hS : Sep w0 w_299 [N_301, _, _, _, _, _, _, _, _, _, M_304] Z := hS''
      clear hS' hS''
      refine wpList_nil <| x_then_n ⟨(hS.sub (.cons (le_276.trans (le_285.trans le_301)) (.rr (.rr (.rr (.rr (.rr (.rr (.rr .nn))))))))), ?_⟩
      refine h_events [9, 12] (by kernel_rfl) (by simp) ?_
      intro i hi; simp only [List.mem_cons, List.not_mem_nil, or_false] at hi; rcases hi with rfl | rfl
      ·refine ⟨_, (bA 15 4095), rfl, by kernel_rfl, ?_⟩
       refine s_on h rfl rfl (nf (beq_iff_eq.2 hc_281)) <| s_b2s h rfl U23 U5 U9 rfl (hr_287.rd (J := hp w_299) (hS.own 9) (Mem.no_le _)) (Mem.le.refl _) fun a h=>wpList_nil <| x_then_n ⟨(hS.sub (.cons (le_276.trans (le_285.trans le_301)) (.rr (.rr (.rr (.rr (.rr (.rr (.rr .nn))))))))), ?_⟩
       refine h_event 12 (bA 15 8191) rfl (by kernel_rfl) (by kernel_rfl) <| s_on h rfl rfl (nf (beq_iff_eq.2 hc_281)) <| s_b2s h rfl U23 U5 U9 rfl (hr_303.rd (J := hp w_299) (hS.own 10) (Mem.no_le _)) (Mem.le.refl _) fun a h=>wpList_nil <| x_then_n ⟨(hS.sub (.cons (le_276.trans (le_285.trans le_301)) (.rr (.rr (.rr (.rr (.rr (.rr (.rr .nn))))))))), ?_⟩
       refine t_take_on 13 (bA 15 16383) rfl rfl rfl rfl (nf (beq_iff_eq.2 hc_281)) rfl rfl h (hS.sub (.cons (le_276.trans (le_285.trans le_301)) (.rr (.rr (.rr (.rr (.rr (.rr (.rr .nn))))))))) (v := .bool (!(t_282 == t_290))) (fun w hS => r_strEq (b := !(t_282 == t_290)) h rfl rfl (.inr ⟨rfl, rfl⟩)) fun a h=>t_take 14 (bA 15 32767) rfl rfl rfl rfl h (hS.sub (.cons (le_276.trans (le_285.trans le_301)) (.rr (.rr (.rr (.rr (.rr (.rr (.rr .nn))))))))) (v := .bool (!(t_282 == t_290))) (fun w hS => r_pick_f h rfl (nf (beq_iff_eq.2 hc_281)) rfl) fun a h=>h_done (by kernel_rfl) ?_
       replace hS : Sep w0 w_299 [_, _, _, _, _, _, _, _, _, _, _] Z := hS
       replace h : Fr 119 a [(3, _), (5, _), (12, _), (14, _), (15, _), (16, _), (79, .bool (!(t_282 == t_290)))] := h.keep [3, 5, 12, 14, 15, 16, 79]
       exact x_then_n (hJ_j_74 (!(t_282 == t_290)) H _ _ ⟨N_301, h, (Sep.sel hS [0, 1000, 1001, 1002, 1003, 1004, 6, 7] (by decide)), (le_276.trans (le_285.trans le_301))⟩)
      ·refine ⟨_, (bA 15 7679), rfl, by kernel_rfl, ?_⟩
       refine s_on h rfl rfl (nf (beq_iff_eq.2 hc_281)) <| s_b2s h rfl U23 U5 U9 rfl (hr_303.rd (J := hp w_299) (hS.own 10) (Mem.no_le _)) (Mem.le.refl _) fun a h=>wpList_nil <| x_then_n ⟨(hS.sub (.cons (le_276.trans (le_285.trans le_301)) (.rr (.rr (.rr (.rr (.rr (.rr (.rr .nn))))))))), ?_⟩
       refine h_event 9 (bA 15 8191) rfl (by kernel_rfl) (by kernel_rfl) <| s_on h rfl rfl (nf (beq_iff_eq.2 hc_281)) <| s_b2s h rfl U23 U5 U9 rfl (hr_287.rd (J := hp w_299) (hS.own 9) (Mem.no_le _)) (Mem.le.refl _) fun a h=>wpList_nil <| x_then_n ⟨(hS.sub (.cons (le_276.trans (le_285.trans le_301)) (.rr (.rr (.rr (.rr (.rr (.rr (.rr .nn))))))))), ?_⟩
       refine t_take_on 13 (bA 15 16383) rfl rfl rfl rfl (nf (beq_iff_eq.2 hc_281)) rfl rfl h (hS.sub (.cons (le_276.trans (le_285.trans le_301)) (.rr (.rr (.rr (.rr (.rr (.rr (.rr .nn))))))))) (v := .bool (!(t_282 == t_290))) (fun w hS => r_strEq (b := !(t_282 == t_290)) h rfl rfl (.inr ⟨rfl, rfl⟩)) fun a h=>t_take 14 (bA 15 32767) rfl rfl rfl rfl h (hS.sub (.cons (le_276.trans (le_285.trans le_301)) (.rr (.rr (.rr (.rr (.rr (.rr (.rr .nn))))))))) (v := .bool (!(t_282 == t_290))) (fun w hS => r_pick_f h rfl (nf (beq_iff_eq.2 hc_281)) rfl) fun a h=>h_done (by kernel_rfl) ?_
       replace hS : Sep w0 w_299 [_, _, _, _, _, _, _, _, _, _, _] Z := hS
       replace h : Fr 119 a [(3, _), (5, _), (12, _), (14, _), (15, _), (16, _), (79, .bool (!(t_282 == t_290)))] := h.keep [3, 5, 12, 14, 15, 16, 79]
       exact x_then_n (hJ_j_74 (!(t_282 == t_290)) H _ _ ⟨N_301, h, (Sep.sel hS [0, 1000, 1001, 1002, 1003, 1004, 6, 7] (by decide)), (le_276.trans (le_285.trans le_301))⟩)
    ·rw [if_neg hc_281] at H
     refine t_take_off 7 (bA 15 255) rfl rfl rfl rfl (.inl (congrArg Value.bool (nt (beq_eq_false_iff_ne.2 hc_281)))) rfl rfl h (hS.sub (.cons le_276 (.rr (.rr (.rr (.rr (.rr (.rr (.rr .nn))))))))) fun a h=>t_take_off 8 (bA 15 511) rfl rfl rfl rfl (.inl (congrArg Value.bool (nt (beq_eq_false_iff_ne.2 hc_281)))) rfl rfl h (hS.sub (.cons le_276 (.rr (.rr (.rr (.rr (.rr (.rr (.rr .nn))))))))) fun a h=>t_take_off 9 (bA 15 1023) rfl rfl rfl rfl (.inl (congrArg Value.bool (nt (beq_eq_false_iff_ne.2 hc_281)))) rfl rfl h (hS.sub (.cons le_276 (.rr (.rr (.rr (.rr (.rr (.rr (.rr .nn))))))))) fun a h=>t_take_off 10 (bA 15 2047) rfl rfl rfl rfl (.inl (congrArg Value.bool (nt (beq_eq_false_iff_ne.2 hc_281)))) rfl rfl h (hS.sub (.cons le_276 (.rr (.rr (.rr (.rr (.rr (.rr (.rr .nn))))))))) fun a h=>t_take_off 11 (bA 15 4095) rfl rfl rfl rfl (.inl (congrArg Value.bool (nt (beq_eq_false_iff_ne.2 hc_281)))) rfl rfl h (hS.sub (.cons le_276 (.rr (.rr (.rr (.rr (.rr (.rr (.rr .nn))))))))) fun a h=>t_take_off 12 (bA 15 8191) rfl rfl rfl rfl (.inl (congrArg Value.bool (nt (beq_eq_false_iff_ne.2 hc_281)))) rfl rfl h (hS.sub (.cons le_276 (.rr (.rr (.rr (.rr (.rr (.rr (.rr .nn))))))))) fun a h=>?_
     refine t_take_off 13 (bA 15 16383) rfl rfl rfl rfl (.inl (congrArg Value.bool (nt (beq_eq_false_iff_ne.2 hc_281)))) rfl rfl h (hS.sub (.cons le_276 (.rr (.rr (.rr (.rr (.rr (.rr (.rr .nn))))))))) fun a h=>t_take 14 (bA 15 32767) rfl rfl rfl rfl h (hS.sub (.cons le_276 (.rr (.rr (.rr (.rr (.rr (.rr (.rr .nn))))))))) (v := .bool true) (fun w hS => r_pick_t h rfl (nt (beq_eq_false_iff_ne.2 hc_281)) rfl) fun a h=>h_done (by kernel_rfl) ?_
     replace hS : Sep w0 w_274 [_, _, _, _, _, _, _, _, _] Z := hS
     replace h : Fr 119 a [(3, _), (5, _), (12, _), (14, _), (15, _), (16, _), (79, .bool true)] := h.keep [3, 5, 12, 14, 15, 16, 79]
     exact x_then_n (hJ_j_74 true H _ _ ⟨N_276, h, (Sep.sel hS [0, 1000, 1001, 1002, 1003, 1004, 6, 7] (by decide)), le_276⟩)
   clear hKJ_59
   by_cases hc_306 : (t_53.length : Int) > 0
   ·rw [if_pos hc_306] at H
    refine c_cond_t h rfl (decide_eq_true hc_306) <| wp_seq <| wp_region_lit <| s_move h rfl rfl fun a h=>s_bits (i := x4) (j := 65535) (r := band .i64 x4 65535) h rfl rfl rfl (.inl ⟨rfl, rfl⟩) fun a h=>s_move h rfl rfl fun a h=>s_lenO h rfl U23 rfl ho_57 fun a h=>?_
    obtain ⟨t_307, et_307, H⟩ := Option.bind_eq_some_iff.1 H
    refine s_div (r := t_307) h rfl rfl rfl (rem_some et_307).1 (.inr ⟨rfl, (rem_some et_307).2⟩) fun a h=>s_assign h rfl rfl fun a h=>wpList_nil <| x_then_n <| wp_region_lit <| s_move h rfl rfl fun a h=>s_move h rfl rfl fun a h=>s_move h rfl rfl fun a h=>?_
    obtain ⟨t_308, et_308, H⟩ := Option.bind_eq_some_iff.1 H
    refine s_indexOwn h rfl U23 ti5 rfl rfl rfl ho_57 et_308 fun g_309 cur_310 hM_311 a h => ?_
    obtain ⟨w_312, M_313, hs', hS', ho_314⟩ := Own.stored (P := Try.prog) (p := 7) (t := 5) (o := 0) (nv := .int .u8 (x5.toNat : Int)) (vs := [.int .u8 (x5.toNat : Int)]) (u' := x5) hS rfl ho_57 hM_311 et_308 ti5 rfl rfl rfl (by intro u hu; simp only [List.mem_cons, List.not_mem_nil, or_false] at hu; rcases hu with rfl <;> rfl) (fun cs hk => by obtain rfl := (show cs = [_] from hk); rfl)
    refine s_store h rfl rfl hs' ?_
    replace hS : Sep w0 w_312 [_, _, _, _, _, _, _, M_313] Z := hS'
    clear hs' hS'
    refine wpList_nil ?_
    replace h : Fr 119 a [(3, _), (5, _), (6, _), (12, _), (13, _), (14, _), (15, _), (16, iV t_307)] := h.keep [3, 5, 6, 12, 13, 14, 15, 16]
    replace hS : Sep w0 w_312 [_, _, _, _, _, _, _, _] Z := hS
    replace h : Fr 119 a [(3, _), (5, _), (6, _), (12, _), (13, _), (14, _), (15, _), (16, _)] := h.keep [3, 5, 6, 12, 13, 14, 15, 16]
    exact x_then_n (hJ_j_68 (t_53.set (t_307).toNat x5) t_307 H _ _ ⟨v_55, N_42, M_313, h, (Sep.sel hS [0, 1, 2, 3, 4, 5, 6, 7] (by decide)), (Mem.le.refl _), ho_314⟩)
   ·rw [if_neg hc_306] at H
    refine c_cond_f h rfl (decide_eq_false hc_306) <| wp_skip ?_
    replace hS : Sep w0 w_54 [_, _, _, _, _, _, _, _] Z := hS
    replace h : Fr 119 a [(3, _), (5, _), (6, _), (12, _), (13, _), (14, _), (15, _), (16, iV 0)] := h.keep [3, 5, 6, 12, 13, 14, 15, 16]
    exact x_then_n (hJ_j_68 t_53 0 H _ _ ⟨v_55, N_42, M_56, h, (Sep.sel hS [0, 1, 2, 3, 4, 5, 6, 7] (by decide)), (Mem.le.refl _), ho_57⟩)
 clear hKJ_4
 refine wp_region_lit <| s_move h rfl rfl fun a h=>s_len h rfl U23 rfl hp3_6 fun a h=>s_cmp (b := decide ((x3.length : Int) > 200)) h rfl rfl rfl (.inr (.inr (.inr (.inr (.inl ⟨rfl, rfl⟩))))) fun a h=>s_move h rfl rfl fun a h=>?_
 by_cases hc_315 : (x3.length : Int) > 200
 ·rw [if_pos hc_315] at H
  refine s_off h rfl rfl rfl (decide_eq_true hc_315) fun a h=>s_off h rfl rfl rfl (decide_eq_true hc_315) fun a h=>s_off h rfl rfl rfl (decide_eq_true hc_315) fun a h=>s_off h rfl rfl rfl (decide_eq_true hc_315) fun a h=>s_pick_t h rfl rfl (decide_eq_true hc_315) rfl fun a h=>s_move h rfl rfl fun a h=>s_off h rfl rfl rfl rfl fun a h=>s_off h rfl rfl rfl rfl fun a h=>s_off h rfl rfl rfl rfl fun a h=>s_off h rfl rfl rfl rfl fun a h=>s_pick_t h rfl rfl rfl rfl fun a h=>s_move h rfl rfl fun a h=>?_
  refine s_off h rfl rfl rfl rfl fun a h=>s_off h rfl rfl rfl rfl fun a h=>s_off h rfl rfl rfl rfl fun a h=>s_off h rfl rfl rfl rfl fun a h=>s_pick_t h rfl rfl rfl rfl fun a h=>wpList_nil ?_
  replace hS : Sep w0 w_1 [_, _] Z := hS
  replace h : Fr 119 a [(1, _), (2, _), (3, _), (4, _), (5, _), (6, .pointer (some ⟨g_2, 0, none⟩)), (12, .bool false), (43, .bool true)] := h.keep [1, 2, 3, 4, 5, 6, 12, 43]
  exact x_then_n (hJ_j_8 true H _ _ ⟨Mem.no, h, (Sep.sel hS [0, 1] (by decide)), (Mem.le.refl _)⟩)
 ·rw [if_neg hc_315] at H
  refine s_on h rfl rfl (decide_eq_false hc_315) <| s_fieldAddr h rfl U29 rfl ti23 rfl rfl fun a h=>s_on h rfl rfl (decide_eq_false hc_315) <| s_load h rfl rfl (hS.load_one (p := 1) rfl U23 rfl rfl) fun a h=>s_on h rfl rfl (decide_eq_false hc_315) <| s_len h rfl U23 rfl hp0_0 fun a h=>s_on h rfl rfl (decide_eq_false hc_315) <| s_cmp (b := decide ((x0.Data.length : Int) > 100)) h rfl rfl rfl (.inr (.inr (.inr (.inr (.inl ⟨rfl, rfl⟩))))) fun a h=>s_pick_f h rfl rfl (decide_eq_false hc_315) rfl fun a h=>s_move h rfl rfl fun a h=>?_
  by_cases hc_316 : (x0.Data.length : Int) > 100
  ·rw [if_pos hc_316] at H
   refine s_off h rfl rfl rfl (decide_eq_true hc_316) fun a h=>s_off h rfl rfl rfl (decide_eq_true hc_316) fun a h=>s_off h rfl rfl rfl (decide_eq_true hc_316) fun a h=>s_off h rfl rfl rfl (decide_eq_true hc_316) fun a h=>s_pick_t h rfl rfl (decide_eq_true hc_316) rfl fun a h=>s_move h rfl rfl fun a h=>s_off h rfl rfl rfl rfl fun a h=>s_off h rfl rfl rfl rfl fun a h=>s_off h rfl rfl rfl rfl fun a h=>s_off h rfl rfl rfl rfl fun a h=>s_pick_t h rfl rfl rfl rfl fun a h=>wpList_nil ?_
   replace hS : Sep w0 w_1 [_, _] Z := hS
   replace h : Fr 119 a [(1, _), (2, _), (3, _), (4, _), (5, _), (6, .pointer (some ⟨g_2, 0, none⟩)), (12, .bool false), (43, .bool true)] := h.keep [1, 2, 3, 4, 5, 6, 12, 43]
   exact x_then_n (hJ_j_8 true H _ _ ⟨Mem.no, h, (Sep.sel hS [0, 1] (by decide)), (Mem.le.refl _)⟩)
  ·rw [if_neg hc_316] at H
   refine s_on h rfl rfl (decide_eq_false hc_316) <| s_fieldAddr h rfl U29 rfl ti22 rfl rfl fun a h=>s_on h rfl rfl (decide_eq_false hc_316) <| s_load h rfl rfl (hS.load_one (p := 1) rfl U22 rfl rfl) fun a h=>s_on h rfl rfl (decide_eq_false hc_316) <| s_len h rfl U22 rfl hp0_1 fun a h=>s_on h rfl rfl (decide_eq_false hc_316) <| s_cmp (b := decide ((x0.Have.length : Int) > 20)) h rfl rfl rfl (.inr (.inr (.inr (.inr (.inl ⟨rfl, rfl⟩))))) fun a h=>s_pick_f h rfl rfl (decide_eq_false hc_316) rfl fun a h=>s_move h rfl rfl fun a h=>?_
   by_cases hc_317 : (x0.Have.length : Int) > 20
   ·rw [if_pos hc_317] at H
    refine s_off h rfl rfl rfl (decide_eq_true hc_317) fun a h=>s_off h rfl rfl rfl (decide_eq_true hc_317) fun a h=>s_off h rfl rfl rfl (decide_eq_true hc_317) fun a h=>s_off h rfl rfl rfl (decide_eq_true hc_317) fun a h=>s_pick_t h rfl rfl (decide_eq_true hc_317) rfl fun a h=>wpList_nil ?_
    replace hS : Sep w0 w_1 [_, _] Z := hS
    replace h : Fr 119 a [(1, _), (2, _), (3, _), (4, _), (5, _), (6, .pointer (some ⟨g_2, 0, none⟩)), (12, .bool false), (43, .bool true)] := h.keep [1, 2, 3, 4, 5, 6, 12, 43]
    exact x_then_n (hJ_j_8 true H _ _ ⟨Mem.no, h, (Sep.sel hS [0, 1] (by decide)), (Mem.le.refl _)⟩)
   ·rw [if_neg hc_317] at H
    refine s_on h rfl rfl (decide_eq_false hc_317) <| s_fieldAddr h rfl U29 rfl ti22 rfl rfl fun a h=>s_on h rfl rfl (decide_eq_false hc_317) <| s_load h rfl rfl (hS.load_one (p := 1) rfl U22 rfl rfl) fun a h=>s_on h rfl rfl (decide_eq_false hc_317) <| s_len h rfl U22 rfl hp0_2 fun a h=>s_on h rfl rfl (decide_eq_false hc_317) <| s_cmp (b := decide ((x0.Need.length : Int) > 20)) h rfl rfl rfl (.inr (.inr (.inr (.inr (.inl ⟨rfl, rfl⟩))))) fun a h=>s_pick_f h rfl rfl (decide_eq_false hc_317) rfl fun a h=>wpList_nil ?_
    replace hS : Sep w0 w_1 [_, _] Z := hS
    replace h : Fr 119 a [(1, _), (2, _), (3, _), (4, _), (5, _), (6, .pointer (some ⟨g_2, 0, none⟩)), (12, .bool false), (43, .bool (decide ((x0.Need.length : Int) > 20)))] := h.keep [1, 2, 3, 4, 5, 6, 12, 43]
    exact x_then_n (hJ_j_8 (decide ((x0.Need.length : Int) > 20)) H _ _ ⟨Mem.no, h, (Sep.sel hS [0, 1] (by decide)), (Mem.le.refl _)⟩)


end Go.Proofs
