/- What the calls do: each function once. -/
import Derived.Test.YtdjkljabfdcbnaaMesgTellsc4
namespace Go.Proofs
open Go.Gp
set_option linter.unusedVariables false
set_option maxHeartbeats 4000000 in
set_option maxRecDepth 20000 in
theorem hocketlaw11_MesgTells.calls (K : Nat) (x0 : api_Msg) (p0_0 : Value) (p0_1 : Value) (p0_2 : Value) (p0_3 : Value) (p0_4 : Value) (p0_5 : Value) (x1 : Int) (x2 : Int) (x3 : List UInt8) (p3_6 : Value) (x4 : Int) (x5 : UInt8) (r : Unit) (w0 w : World) (Z A : Mem) (hA : A.le Z) (hS : Sep w0 w [] Z) (hp0_0 : Rd Kd.u8 A p0_0 x0.Data) (hp0_1 : Rd (Kd.int .i64) A p0_1 x0.Have) (hp0_2 : Rd (Kd.int .i64) A p0_2 x0.Need) (hp0_3 : Rd Kd.u8 A p0_3 x0.Entry.Cmd.Key) (hp0_4 : Rd Kd.u8 A p0_4 x0.Entry.Cmd.Val) (hp0_5 : Rd Kd.u8 A p0_5 x0.Entry.Cmd.Old) (hp3_6 : Rd Kd.u8 A p3_6 x3)
    (H : hocketlaw11_MesgTells.f K x0 x1 x2 x3 x4 x5 = some r) :
    Calls Try.prog 5 [.agg ([iV x0.Kind, iV x0.From, iV x0.To, iV x0.View, iV x0.Inst, iV x0.Len, .bool x0.Has, iV x0.Members, iV x0.Source, iV x0.At, iV x0.Total, p0_0, iV x0.Hop, iV x0.Seq, p0_1, p0_2, iV x0.Index, iV x0.Entry.Sess, iV x0.Entry.Seq, iV x0.Entry.Cmd.Kind, iV x0.Entry.Cmd.Who, p0_3, p0_4, p0_5] : List Value).toArray, iV x1, iV x2, p3_6, iV x4, .int .u8 (x5.toNat : Int)].toArray w (Ret fun v w' => ∃ (N : Mem), v = .bool true ∧ Sep w0 w' [N] Z) := by
 unfold hocketlaw11_MesgTells.f at H
 refine f_enter _ Try.func5 rfl Try.ntmps5 rfl fun a h=>?_
 replace h : Fr 151 a [(0, .agg ([iV x0.Kind, iV x0.From, iV x0.To, iV x0.View, iV x0.Inst, iV x0.Len, .bool x0.Has, iV x0.Members, iV x0.Source, iV x0.At, iV x0.Total, p0_0, iV x0.Hop, iV x0.Seq, p0_1, p0_2, iV x0.Index, iV x0.Entry.Sess, iV x0.Entry.Seq, iV x0.Entry.Cmd.Kind, iV x0.Entry.Cmd.Who, p0_3, p0_4, p0_5] : List Value).toArray), (1, iV x1), (2, iV x2), (3, p3_6), (4, iV x4), (5, .int .u8 (x5.toNat : Int))] := h
 replace hS := hS.start
 replace hS : Sep w0 w [_] Z := hS
 refine wp_seq <| wp_region_lit <| v_box (vs := [iV x0.Kind, iV x0.From, iV x0.To, iV x0.View, iV x0.Inst, iV x0.Len, .bool x0.Has, iV x0.Members, iV x0.Source, iV x0.At, iV x0.Total, p0_0, iV x0.Hop, iV x0.Seq, p0_1, p0_2, iV x0.Index, iV x0.Entry.Sess, iV x0.Entry.Seq, iV x0.Entry.Cmd.Kind, iV x0.Entry.Cmd.Who, p0_3, p0_4, p0_5]) h rfl rfl rfl hS fun w_1 g_2 hS' a h => ?_
 replace hS : Sep w0 w_1 [_, Mem.one g_2 (.cells ([iV x0.Kind, iV x0.From, iV x0.To, iV x0.View, iV x0.Inst, iV x0.Len, .bool x0.Has, iV x0.Members, iV x0.Source, iV x0.At, iV x0.Total, p0_0, iV x0.Hop, iV x0.Seq, p0_1, p0_2, iV x0.Index, iV x0.Entry.Sess, iV x0.Entry.Seq, iV x0.Entry.Cmd.Kind, iV x0.Entry.Cmd.Who, p0_3, p0_4, p0_5] : List Value).toArray 29 (0, 0))] Z := hS'
 clear hS'
 refine s_assign h rfl rfl fun a h=>wpList_nil <| x_then_n <| c_seq fun KJ_3 hKJ_3 => c_seq fun KJ_4 hKJ_4 => ?_
 have hJ_j_8 : ∀ (x_6 : Bool), hocketlaw11_MesgTells.J1 K x1 x2 x4 x0 x5 x3 x_6 = some r → ∀ (a : Act) (w_7 : World), (∃ (N_5 : Mem), Fr 151 a [(1, iV x1), (2, iV x2), (3, p3_6), (4, iV x4), (5, .int .u8 (x5.toNat : Int)), (6, .pointer (some ⟨g_2, 0, none⟩)), (12, .bool false), (65, .bool x_6)] ∧ Sep w0 w_7 [N_5, Mem.one g_2 (.cells ([iV x0.Kind, iV x0.From, iV x0.To, iV x0.View, iV x0.Inst, iV x0.Len, .bool x0.Has, iV x0.Members, iV x0.Source, iV x0.At, iV x0.Total, p0_0, iV x0.Hop, iV x0.Seq, p0_1, p0_2, iV x0.Index, iV x0.Entry.Sess, iV x0.Entry.Seq, iV x0.Entry.Cmd.Kind, iV x0.Entry.Cmd.Who, p0_3, p0_4, p0_5] : List Value).toArray 29 (0, 0))] Z ∧ Mem.no.le N_5) → KJ_4 a w_7 := by
  clear H h hS a
  rintro x_6 H a w_7 ⟨N_5, h, hS, le_5⟩
  unfold hocketlaw11_MesgTells.J1 at H
  refine hKJ_4 _ _ ?_
  by_cases hc_9 : x_6 = true
  ·rw [if_pos hc_9] at H
   refine c_cond_t h rfl hc_9 <| wp_seq <| wp_region_lit ?_
   obtain ⟨t_10, et_10, H⟩ := Option.bind_eq_some_iff.1 H
   refine s_call h rfl Try.call13 rfl (hocketlaw11_awake.calls K  t_10 w0 _ _ _ (Mem.le.refl _) (hS.enter [] (by decide))  et_10) ?_
   rintro _ w_11 ⟨N_12, rfl, hS'⟩
   intro a h
   obtain ⟨N_13, hS'', le_13, ln_13⟩ := hS.call [] (by decide) rfl (l' := []) (ow := []) rfl hS'
   replace hS : Sep w0 w_11 [N_13, _] Z := hS''
   clear hS' hS''
   refine s_assign h rfl rfl fun a h=>wpList_nil <| x_then_n <| wp_ret (x_then_r ?_)
   exact f_ret h (rs := [.tmp 12]) rfl (.tmp rfl .nil) ⟨_, rfl, N_13, rfl, (Sep.sel hS [0] (by decide))⟩
  ·rw [if_neg hc_9] at H
   refine c_cond_f h rfl (Bool.eq_false_iff.2 hc_9) <| wp_skip <| x_then_n (hKJ_3 _ _ ?_)
   refine wp_seq <| wp_region_lit <| s_move h rfl rfl fun a h=>s_move h rfl rfl fun a h=>?_
   obtain ⟨t_14, et_14, H⟩ := Option.bind_eq_some_iff.1 H
   refine s_call h rfl Try.call14 rfl (hocketlaw11_Msg.calls K x1 x2 t_14 w0 _ _ _ (Mem.le.refl _) (hS.enter [] (by decide))  et_14) ?_
   rintro _ w_15 ⟨v_18, v_22, v_26, v_30, v_32, v_34, N_16, M_20, M_24, M_28, rfl, hS', hr_19, hr_23, hr_27, hr_31, hr_33, hr_35⟩
   intro a h
   obtain ⟨N_17, hS'', le_17, ln_17⟩ := hS.call [] (by decide) rfl (l' := []) (ow := [M_20, M_24, M_28]) rfl hS'
   replace hS : Sep w0 w_15 [N_17, _, M_20, M_24, M_28] Z := hS''
   clear hS' hS''
   refine v_alloc h rfl ti29 hS fun w_36 g_37 hS' a h => ?_
   replace hS : Sep w0 w_36 [_, _, _, _, _, Mem.one g_37 (.cells ([iV 0, iV 0, iV 0, iV 0, iV 0, iV 0, .bool false, iV 0, iV 0, iV 0, iV 0, nS, iV 0, iV 0, nS, nS, iV 0, iV 0, iV 0, iV 0, iV 0, nS, nS, nS] : List Value).toArray 29 (0, 0))] Z := hS'
   clear hS'
   obtain ⟨w_38, hs', hS'⟩ := hS.store (P := Try.prog) (p := 5) (o := 0) (t := 29) (v := .agg ([iV t_14.Kind, iV t_14.From, iV t_14.To, iV t_14.View, iV t_14.Inst, iV t_14.Len, .bool t_14.Has, iV t_14.Members, iV t_14.Source, iV t_14.At, iV t_14.Total, v_18, iV t_14.Hop, iV t_14.Seq, v_22, v_26, iV t_14.Index, iV t_14.Entry.Sess, iV t_14.Entry.Seq, iV t_14.Entry.Cmd.Kind, iV t_14.Entry.Cmd.Who, v_30, v_32, v_34] : List Value).toArray) (vs := [iV t_14.Kind, iV t_14.From, iV t_14.To, iV t_14.View, iV t_14.Inst, iV t_14.Len, .bool t_14.Has, iV t_14.Members, iV t_14.Source, iV t_14.At, iV t_14.Total, v_18, iV t_14.Hop, iV t_14.Seq, v_22, v_26, iV t_14.Index, iV t_14.Entry.Sess, iV t_14.Entry.Seq, iV t_14.Entry.Cmd.Kind, iV t_14.Entry.Cmd.Who, v_30, v_32, v_34]) rfl ti29 rfl rfl rfl (by intro u hu; simp only [List.mem_cons, List.not_mem_nil, or_false] at hu; rcases hu with rfl | rfl | rfl | rfl | rfl | rfl | rfl | rfl | rfl | rfl | rfl | rfl | rfl | rfl | rfl | rfl | rfl | rfl | rfl | rfl | rfl | rfl | rfl | rfl <;> first | rfl | exact hr_19.one | exact hr_23.one | exact hr_27.one | exact (hr_31.mono ln_17).one | exact (hr_33.mono ln_17).one | exact (hr_35.mono ln_17).one)
   refine s_store h rfl rfl hs' ?_
   replace hS : Sep w0 w_38 [_, _, _, _, _, Mem.one g_37 (.cells ([iV t_14.Kind, iV t_14.From, iV t_14.To, iV t_14.View, iV t_14.Inst, iV t_14.Len, .bool t_14.Has, iV t_14.Members, iV t_14.Source, iV t_14.At, iV t_14.Total, v_18, iV t_14.Hop, iV t_14.Seq, v_22, v_26, iV t_14.Index, iV t_14.Entry.Sess, iV t_14.Entry.Seq, iV t_14.Entry.Cmd.Kind, iV t_14.Entry.Cmd.Who, v_30, v_32, v_34] : List Value).toArray 29 (0, 0))] Z := hS'
   clear hs' hS'
   refine wpList_nil <| x_then_n <| wp_seq <| wp_region_lit <| s_load h rfl rfl (hS.load_agg (p := 5) (us := [iV t_14.Kind, iV t_14.From, iV t_14.To, iV t_14.View, iV t_14.Inst, iV t_14.Len, .bool t_14.Has, iV t_14.Members, iV t_14.Source, iV t_14.At, iV t_14.Total, v_18, iV t_14.Hop, iV t_14.Seq, v_22, v_26, iV t_14.Index, iV t_14.Entry.Sess, iV t_14.Entry.Seq, iV t_14.Entry.Cmd.Kind, iV t_14.Entry.Cmd.Who, v_30, v_32, v_34]) rfl U29 rfl ti29 rfl rfl) fun a h=>?_
   obtain ⟨N_39, hS', le_39, lo_39⟩ := hS.freeze 1 rfl
   replace hS : Sep w0 w_38 [N_39, _, Mem.no, _, _, _] Z := hS'
   clear hS'
   obtain ⟨N_40, hS', le_40, lo_40⟩ := hS.freeze 2 rfl
   replace hS : Sep w0 w_38 [N_40, _, _, Mem.no, _, _] Z := hS'
   clear hS'
   obtain ⟨N_41, hS', le_41, lo_41⟩ := hS.freeze 3 rfl
   replace hS : Sep w0 w_38 [N_41, _, _, _, Mem.no, _] Z := hS'
   clear hS'
   obtain ⟨t_42, et_42, H⟩ := Option.bind_eq_some_iff.1 H
   refine s_call h rfl Try.call16 rfl (hocketref11_Encode.calls K t_14 _ _ _ _ _ _ t_42 w0 _ _ N_41 (hS.new_zed []) (hS.enter [] (by decide)) ((hr_19.rd lo_39 (Mem.no_le _)).mono (le_40.trans le_41)) ((hr_23.rd lo_40 (Mem.no_le _)).mono le_41) (hr_27.rd lo_41 (Mem.no_le _)) ((hr_31.mono ln_17).mono (le_39.trans (le_40.trans le_41))) ((hr_33.mono ln_17).mono (le_39.trans (le_40.trans le_41))) ((hr_35.mono ln_17).mono (le_39.trans (le_40.trans le_41))) et_42) ?_
   rintro v_46 w_43 ⟨_, N_44, rfl, hS', hr_47⟩
   intro a h
   obtain ⟨N_45, hS'', le_45, ln_45⟩ := hS.call [] (by decide) rfl (l' := []) (ow := []) rfl hS'
   replace hS : Sep w0 w_43 [N_45, _, _, _, _, _] Z := hS''
   clear hS' hS''
   refine s_assign h rfl rfl fun a h=>wpList_nil <| x_then_n <| wp_seq <| wp_region_lit ?_
   have hq_52 : Reps Kd.u8 Mem.no ([] : List UInt8) _ := (Reps.nil Kd.u8 _)
   refine s_buildSlice h rfl U23 ti5 rfl rfl rfl .nil rfl rfl rfl hS hq_52 rfl fun w_48 v_49 M_50 hS' ho_51 a h => ?_
   replace hS : Sep w0 w_48 [_, _, _, _, _, _, M_50] Z := hS'
   clear hS' hq_52
   refine s_move h rfl rfl fun a h=>?_
   obtain ⟨t_54, et_54, H⟩ := Option.bind_eq_some_iff.1 H
   refine s_append (J := Mem.no) (I' := Mem.no) (p := 6) 140737488355328 h rfl rfl rfl U23 ti5 rfl rfl rfl rfl hS rfl ho_51 (Src.flat flat_u8 ((hr_47.mono (Mem.un_le le_45 ln_45)).src ((Mem.le.refl _).trans (hS.own 0)))) (Mem.le.refl _) (Mem.le.refl _) et_54 fun w_55 v_56 M_57 hS' ho_58 a h => ?_
   replace hS : Sep w0 w_55 [_, _, _, _, _, _, M_57] Z := hS'
   clear hS'
   refine s_assign h rfl rfl fun a h=>wpList_nil ?_
   replace h : Fr 151 a [(3, _), (4, _), (5, _), (6, _), (12, _), (13, .pointer (some ⟨g_37, 0, none⟩)), (14, v_46), (15, v_56)] := h.keep [3, 4, 5, 6, 12, 13, 14, 15]
   refine x_then_n <| wp_seq <| wp_region_lit <| s_assign h rfl rfl fun a h=>wpList_nil <| x_then_n <| c_seq fun KJ_60 hKJ_60 => wp_seq <| wp_region_lit <| s_move h rfl rfl fun a h=>s_lenO h rfl U23 rfl ho_58 fun a h=>s_cmp (b := decide ((t_54.length : Int) > 0)) h rfl rfl rfl (.inr (.inr (.inr (.inr (.inl ⟨rfl, rfl⟩))))) fun a h=>?_
   refine wpList_nil <| x_then_n ?_
   have hJ_j_69 : ∀ (x_62 : List UInt8), ∀ (x_67 : Int), hocketlaw11_MesgTells.J2 K x0 t_14 t_42 x5 x3 x_62 x_67 = some r → ∀ (a : Act) (w_68 : World), (∃ (v_65 : Value) (N_61 : Mem) (M_63 : Mem), Fr 151 a [(3, p3_6), (5, .int .u8 (x5.toNat : Int)), (6, .pointer (some ⟨g_2, 0, none⟩)), (12, .bool false), (13, .pointer (some ⟨g_37, 0, none⟩)), (14, v_46), (15, v_65), (16, iV x_67)] ∧ Sep w0 w_68 [N_61, Mem.one g_2 (.cells ([iV x0.Kind, iV x0.From, iV x0.To, iV x0.View, iV x0.Inst, iV x0.Len, .bool x0.Has, iV x0.Members, iV x0.Source, iV x0.At, iV x0.Total, p0_0, iV x0.Hop, iV x0.Seq, p0_1, p0_2, iV x0.Index, iV x0.Entry.Sess, iV x0.Entry.Seq, iV x0.Entry.Cmd.Kind, iV x0.Entry.Cmd.Who, p0_3, p0_4, p0_5] : List Value).toArray 29 (0, 0)), Mem.no, Mem.no, Mem.no, Mem.one g_37 (.cells ([iV t_14.Kind, iV t_14.From, iV t_14.To, iV t_14.View, iV t_14.Inst, iV t_14.Len, .bool t_14.Has, iV t_14.Members, iV t_14.Source, iV t_14.At, iV t_14.Total, v_18, iV t_14.Hop, iV t_14.Seq, v_22, v_26, iV t_14.Index, iV t_14.Entry.Sess, iV t_14.Entry.Seq, iV t_14.Entry.Cmd.Kind, iV t_14.Entry.Cmd.Who, v_30, v_32, v_34] : List Value).toArray 29 (0, 0)), M_63] Z ∧ N_45.le N_61 ∧ Own Kd.u8 5 M_63 Mem.no v_65 x_62) → KJ_60 a w_68 := by
    clear H h hS a
    rintro x_62 x_67 H a w_68 ⟨v_65, N_61, M_63, h, hS, le_61, ho_66⟩
    unfold hocketlaw11_MesgTells.J2 at H
    refine hKJ_60 _ _ <| c_seq fun KJ_70 hKJ_70 => wp_seq <| wp_region_lit <| s_load h rfl rfl (hS.load_agg (p := 1) (us := [iV x0.Kind, iV x0.From, iV x0.To, iV x0.View, iV x0.Inst, iV x0.Len, .bool x0.Has, iV x0.Members, iV x0.Source, iV x0.At, iV x0.Total, p0_0, iV x0.Hop, iV x0.Seq, p0_1, p0_2, iV x0.Index, iV x0.Entry.Sess, iV x0.Entry.Seq, iV x0.Entry.Cmd.Kind, iV x0.Entry.Cmd.Who, p0_3, p0_4, p0_5]) rfl U29 rfl ti29 rfl rfl) fun a h=>s_load h rfl rfl (hS.load_agg (p := 5) (us := [iV t_14.Kind, iV t_14.From, iV t_14.To, iV t_14.View, iV t_14.Inst, iV t_14.Len, .bool t_14.Has, iV t_14.Members, iV t_14.Source, iV t_14.At, iV t_14.Total, v_18, iV t_14.Hop, iV t_14.Seq, v_22, v_26, iV t_14.Index, iV t_14.Entry.Sess, iV t_14.Entry.Seq, iV t_14.Entry.Cmd.Kind, iV t_14.Entry.Cmd.Who, v_30, v_32, v_34]) rfl U29 rfl ti29 rfl rfl) fun a h=>?_
    have hq_75 : Reps k_api_Msg (A.un N_61) ([x0, t_14] : List api_Msg) _ := ((Reps.one (d := k_api_Msg) (x := x0) (k_api_Msg.mk' (hp0_0.mono (Mem.le_un _ _)) (hp0_1.mono (Mem.le_un _ _)) (hp0_2.mono (Mem.le_un _ _)) (hp0_3.mono (Mem.le_un _ _)) (hp0_4.mono (Mem.le_un _ _)) (hp0_5.mono (Mem.le_un _ _)))).append ((Reps.one (d := k_api_Msg) (x := t_14) (k_api_Msg.mk' ((hr_19.rd lo_39 (Mem.no_le _)).mono ((le_40.trans (le_41.trans (le_45.trans le_61))).trans (hS.sndA hA))) ((hr_23.rd lo_40 (Mem.no_le _)).mono ((le_41.trans (le_45.trans le_61)).trans (hS.sndA hA))) ((hr_27.rd lo_41 (Mem.no_le _)).mono ((le_45.trans le_61).trans (hS.sndA hA))) ((hr_31.mono ln_17).mono ((le_39.trans (le_40.trans (le_41.trans (le_45.trans le_61)))).trans (hS.sndA hA))) ((hr_33.mono ln_17).mono ((le_39.trans (le_40.trans (le_41.trans (le_45.trans le_61)))).trans (hS.sndA hA))) ((hr_35.mono ln_17).mono ((le_39.trans (le_40.trans (le_41.trans (le_45.trans le_61)))).trans (hS.sndA hA))))).append (Reps.nil k_api_Msg _)))
    refine s_buildSlice h rfl U40 ti29 rfl rfl rfl (.cons (show (Value.cells (.agg ([iV x0.Kind, iV x0.From, iV x0.To, iV x0.View, iV x0.Inst, iV x0.Len, .bool x0.Has, iV x0.Members, iV x0.Source, iV x0.At, iV x0.Total, p0_0, iV x0.Hop, iV x0.Seq, p0_1, p0_2, iV x0.Index, iV x0.Entry.Sess, iV x0.Entry.Seq, iV x0.Entry.Cmd.Kind, iV x0.Entry.Cmd.Who, p0_3, p0_4, p0_5] : List Value).toArray)).toList = [iV x0.Kind, iV x0.From, iV x0.To, iV x0.View, iV x0.Inst, iV x0.Len, .bool x0.Has, iV x0.Members, iV x0.Source, iV x0.At, iV x0.Total, p0_0, iV x0.Hop, iV x0.Seq, p0_1, p0_2, iV x0.Index, iV x0.Entry.Sess, iV x0.Entry.Seq, iV x0.Entry.Cmd.Kind, iV x0.Entry.Cmd.Who, p0_3, p0_4, p0_5] from rfl) (.cons (show (Value.cells (.agg ([iV t_14.Kind, iV t_14.From, iV t_14.To, iV t_14.View, iV t_14.Inst, iV t_14.Len, .bool t_14.Has, iV t_14.Members, iV t_14.Source, iV t_14.At, iV t_14.Total, v_18, iV t_14.Hop, iV t_14.Seq, v_22, v_26, iV t_14.Index, iV t_14.Entry.Sess, iV t_14.Entry.Seq, iV t_14.Entry.Cmd.Kind, iV t_14.Entry.Cmd.Who, v_30, v_32, v_34] : List Value).toArray)).toList = [iV t_14.Kind, iV t_14.From, iV t_14.To, iV t_14.View, iV t_14.Inst, iV t_14.Len, .bool t_14.Has, iV t_14.Members, iV t_14.Source, iV t_14.At, iV t_14.Total, v_18, iV t_14.Hop, iV t_14.Seq, v_22, v_26, iV t_14.Index, iV t_14.Entry.Sess, iV t_14.Entry.Seq, iV t_14.Entry.Cmd.Kind, iV t_14.Entry.Cmd.Who, v_30, v_32, v_34] from rfl) .nil)) rfl rfl rfl hS hq_75 rfl fun w_71 v_72 M_73 hS' ho_74 a h => ?_
    replace hS : Sep w0 w_71 [_, _, _, _, _, _, _, M_73] Z := hS'
    clear hS' hq_75
    refine s_lenO h rfl U40 rfl ho_74 fun a h=>s_move h rfl rfl fun a h=>wpList_nil <| x_then_n ?_
    have hJ_j_79 : hocketlaw11_MesgTells.J3 K t_42 x_67 x5 x3 x_62 = some r → ∀ (a : Act) (w_78 : World), (∃ (N_77 : Mem), Fr 151 a [(3, p3_6), (5, .int .u8 (x5.toNat : Int)), (12, .bool false), (14, v_46), (15, v_65), (16, iV x_67)] ∧ Sep w0 w_78 [N_77, Mem.no, Mem.no, Mem.no, Mem.no, Mem.no, M_63, Mem.no] Z ∧ N_61.le N_77) → KJ_70 a w_78 := by
     clear H h hS a
     rintro H a w_78 ⟨N_77, h, hS, le_77⟩
     unfold hocketlaw11_MesgTells.J3 at H
     refine hKJ_70 _ _ <| c_seq fun KJ_80 hKJ_80 => c_seq fun KJ_81 hKJ_81 => ?_
     replace hS : Sep w0 w_78 [N_77, M_63] Z := hS.sel [0, 6] (by decide)
     have hJ_j_90 : ∀ (x_83 : List (List UInt8)), ∀ (x_88 : Int), hocketlaw11_MesgTells.J4 K x_83 x_88 = some r → ∀ (a : Act) (w_89 : World), (∃ (v_86 : Value) (N_82 : Mem) (M_84 : Mem), Fr 151 a [(12, .bool false), (124, v_86), (125, iV x_88), (126, iV 0)] ∧ Sep w0 w_89 [N_82, Mem.no, M_84] Z ∧ N_77.le N_82 ∧ Own (Kd.slice Kd.u8) 23 M_84 (A.un N_82) v_86 x_83) → KJ_81 a w_89 := by
      clear H h hS a
      rintro x_83 x_88 H a w_89 ⟨v_86, N_82, M_84, h, hS, le_82, ho_87⟩
      unfold hocketlaw11_MesgTells.J4 at H
      refine hKJ_81 _ _ ?_
      have hJ_j_93 : hocketlaw11_MesgTells.J5 K = some r → ∀ (a : Act) (w_92 : World), (∃ (N_91 : Mem), Fr 151 a [(12, .bool false)] ∧ Sep w0 w_92 [N_91, Mem.no, Mem.no] Z ∧ N_82.le N_91) → KJ_80 a w_92 := by
       clear H h hS a
       rintro H a w_92 ⟨N_91, h, hS, le_91⟩
       unfold hocketlaw11_MesgTells.J5 at H
       refine hKJ_80 _ _ <| wp_seq <| wp_region_lit ?_
       obtain ⟨t_94, et_94, H⟩ := Option.bind_eq_some_iff.1 H
       refine s_call h rfl Try.call13 rfl (hocketlaw11_awake.calls K  t_94 w0 _ _ _ (Mem.le.refl _) (hS.enter [] (by decide))  et_94) ?_
       rintro _ w_95 ⟨N_96, rfl, hS'⟩
       intro a h
       obtain ⟨N_97, hS'', le_97, ln_97⟩ := hS.call [] (by decide) rfl (l' := []) (ow := []) rfl hS'
       replace hS : Sep w0 w_95 [N_97, _, _] Z := hS''
       clear hS' hS''
       refine s_assign h rfl rfl fun a h=>wpList_nil ?_
       replace h : Fr 151 a [(12, .bool true)] := h.keep [12]
       refine x_then_n <| wp_ret ?_
       exact f_ret h (rs := [.tmp 12]) rfl (.tmp rfl .nil) ⟨_, rfl, N_97, rfl, (Sep.sel hS [0] (by decide))⟩
      clear hKJ_80
      replace hS : Sep w0 w_89 [_, _, _] Z := hS
      replace h : Fr 151 a [(12, _), (124, _), (125, _), (126, _)] := h.keep [12, 124, 125, 126]
      refine c_block <| c_loop (fun k_100 a w_100 => ∃ (x_99 : Int) (N_98 : Mem), hocketlaw11_MesgTells.L1 K x_88 x_83 (fun v => hocketlaw11_MesgTells.J5 K) k_100 x_99 = some r ∧ Fr 151 a [(12, .bool false), (124, v_86), (125, iV x_88), (126, iV x_99)] ∧ Sep w0 w_100 [N_98, Mem.no, M_84] Z ∧ N_82.le N_98) K ⟨0, N_82, H, h, (Sep.sel hS [0, 1000, 2] (by decide)), (Mem.le.refl _)⟩ (fun a w h => by obtain ⟨_, _, H, _⟩ := h; cases (show (none : Option (Unit)) = some r from H)) ?_
      clear h hS a H
      rintro k_100 a w_100 KL_100 hKL_100 ⟨x_99, N_98, H, h, hS, le_98⟩
      replace H : hocketlaw11_MesgTells.B1 K x_88 x_83 (fun v => hocketlaw11_MesgTells.J5 K) (hocketlaw11_MesgTells.L1 K x_88 x_83 (fun v => hocketlaw11_MesgTells.J5 K) k_100) x_99 = some r := H
      unfold hocketlaw11_MesgTells.B1 at H
      refine wp_seq <| wp_region_lit <| s_cmp (b := decide (x_99 < x_88)) h rfl rfl rfl (.inr (.inr (.inl ⟨rfl, rfl⟩))) fun a h=>wpList_nil ?_
      replace h : Fr 151 a [(12, _), (124, _), (125, _), (126, _), (127, .bool (decide (x_99 < x_88)))] := h.keep [12, 124, 125, 126, 127]
      refine x_then_n <| c_seq fun KJ_102 hKJ_102 => ?_
      by_cases hc_103 : x_99 < x_88
      ·rw [if_pos hc_103] at H
       refine c_cond_t h rfl (decide_eq_true hc_103) <| wp_skip <| x_then_n (hKJ_102 _ _ ?_)
       refine c_seq fun KJ_104 hKJ_104 => c_block <| wp_seq <| wp_region_lit ?_
       obtain ⟨t_105, et_105, H⟩ := Option.bind_eq_some_iff.1 H
       refine v_indexO h rfl U41 ti23 rfl rfl rfl ho_87 (hS.own 2) et_105 fun ad_106 cs_107 hk_108 hc_109 => ?_
       obtain ⟨v_110, rfl, hr_111⟩ := hk_108
       intro a h
       refine s_load h rfl rfl (el_one (o := 0) hc_109 U23 rfl rfl) fun a h=>s_assign h rfl rfl fun a h=>wpList_nil <| x_then_n <| wp_seq <| wp_region_lit <| s_move h rfl rfl fun a h=>?_
       obtain ⟨t_112, et_112, H⟩ := Option.bind_eq_some_iff.1 H
       refine s_call h rfl Try.call12 rfl (mesg_Decode.calls K t_105 _ t_112 w0 _ _ _ (Mem.le.refl _) (hS.enter [] (by decide)) (hr_111.mono (Mem.un_le (hA.trans (hS.le_zed [])) (le_98.trans (hS.new_zed [])))) et_112) ?_
       rintro _ w_113 ⟨v_116, v_120, v_124, v_128, v_132, v_136, N_114, M_118, M_122, M_126, M_130, M_134, M_138, rfl, hS', hr_117, hr_121, hr_125, hr_129, hr_133, hr_137⟩
       intro a h
       obtain ⟨N_115, hS'', le_115, ln_115⟩ := hS.call [] (by decide) rfl (l' := []) (ow := [M_118, M_122, M_126, M_130, M_134, M_138]) rfl hS'
       replace hS : Sep w0 w_113 [N_115, _, _, M_118, M_122, M_126, M_130, M_134, M_138] Z := hS''
       clear hS' hS''
       refine s_move h rfl rfl fun a h=>s_extract h rfl rfl rfl fun a h=>s_extract h rfl rfl rfl fun a h=>v_alloc h rfl ti29 hS fun w_140 g_141 hS' a h => ?_
       replace hS : Sep w0 w_140 [_, _, _, _, _, _, _, _, _, Mem.one g_141 (.cells ([iV 0, iV 0, iV 0, iV 0, iV 0, iV 0, .bool false, iV 0, iV 0, iV 0, iV 0, nS, iV 0, iV 0, nS, nS, iV 0, iV 0, iV 0, iV 0, iV 0, nS, nS, nS] : List Value).toArray 29 (0, 0))] Z := hS'
       clear hS'
       obtain ⟨w_142, hs', hS'⟩ := hS.store (P := Try.prog) (p := 9) (o := 0) (t := 29) (v := .agg ([iV t_112.1.Kind, iV t_112.1.From, iV t_112.1.To, iV t_112.1.View, iV t_112.1.Inst, iV t_112.1.Len, .bool t_112.1.Has, iV t_112.1.Members, iV t_112.1.Source, iV t_112.1.At, iV t_112.1.Total, v_116, iV t_112.1.Hop, iV t_112.1.Seq, v_120, v_124, iV t_112.1.Index, iV t_112.1.Entry.Sess, iV t_112.1.Entry.Seq, iV t_112.1.Entry.Cmd.Kind, iV t_112.1.Entry.Cmd.Who, v_128, v_132, v_136] : List Value).toArray) (vs := [iV t_112.1.Kind, iV t_112.1.From, iV t_112.1.To, iV t_112.1.View, iV t_112.1.Inst, iV t_112.1.Len, .bool t_112.1.Has, iV t_112.1.Members, iV t_112.1.Source, iV t_112.1.At, iV t_112.1.Total, v_116, iV t_112.1.Hop, iV t_112.1.Seq, v_120, v_124, iV t_112.1.Index, iV t_112.1.Entry.Sess, iV t_112.1.Entry.Seq, iV t_112.1.Entry.Cmd.Kind, iV t_112.1.Entry.Cmd.Who, v_128, v_132, v_136]) rfl ti29 rfl rfl rfl (by intro u hu; simp only [List.mem_cons, List.not_mem_nil, or_false] at hu; rcases hu with rfl | rfl | rfl | rfl | rfl | rfl | rfl | rfl | rfl | rfl | rfl | rfl | rfl | rfl | rfl | rfl | rfl | rfl | rfl | rfl | rfl | rfl | rfl | rfl <;> first | rfl | exact hr_117.one | exact hr_121.one | exact hr_125.one | exact hr_129.one | exact hr_133.one | exact hr_137.one)
       refine s_store h rfl rfl hs' ?_
       replace hS : Sep w0 w_142 [_, _, _, _, _, _, _, _, _, Mem.one g_141 (.cells ([iV t_112.1.Kind, iV t_112.1.From, iV t_112.1.To, iV t_112.1.View, iV t_112.1.Inst, iV t_112.1.Len, .bool t_112.1.Has, iV t_112.1.Members, iV t_112.1.Source, iV t_112.1.At, iV t_112.1.Total, v_116, iV t_112.1.Hop, iV t_112.1.Seq, v_120, v_124, iV t_112.1.Index, iV t_112.1.Entry.Sess, iV t_112.1.Entry.Seq, iV t_112.1.Entry.Cmd.Kind, iV t_112.1.Entry.Cmd.Who, v_128, v_132, v_136] : List Value).toArray 29 (0, 0))] Z := hS'
       clear hs' hS'
       refine s_assign h rfl rfl fun a h=>wpList_nil <| x_then_n <| wp_seq <| wp_region_lit <| s_move h rfl rfl fun a h=>?_
       obtain ⟨t_143, et_143, H⟩ := Option.bind_eq_some_iff.1 H
       refine s_call h rfl Try.call18 rfl (hocketref11_Decode.calls K t_105 _ t_143 w0 _ _ _ (Mem.le.refl _) (hS.enter [] (by decide)) (hr_111.mono (Mem.un_le (hA.trans (hS.le_zed [])) ((le_98.trans le_115).trans (hS.new_zed [])))) et_143) ?_
       rintro _ w_144 ⟨v_147, v_151, v_155, v_159, v_163, v_167, N_145, M_149, M_153, M_157, M_161, M_165, M_169, rfl, hS', hr_148, hr_152, hr_156, hr_160, hr_164, hr_168⟩
       intro a h
       obtain ⟨N_146, hS'', le_146, ln_146⟩ := hS.call [] (by decide) rfl (l' := []) (ow := [M_149, M_153, M_157, M_161, M_165, M_169]) rfl hS'
       replace hS : Sep w0 w_144 [N_146, _, _, _, _, _, _, _, _, _, M_149, M_153, M_157, M_161, M_165, M_169] Z := hS''
       clear hS' hS''
       refine s_move h rfl rfl fun a h=>s_extract h rfl rfl rfl fun a h=>s_extract h rfl rfl rfl fun a h=>v_alloc h rfl ti29 hS fun w_171 g_172 hS' a h => ?_
       replace hS : Sep w0 w_171 [_, _, _, _, _, _, _, _, _, _, _, _, _, _, _, _, Mem.one g_172 (.cells ([iV 0, iV 0, iV 0, iV 0, iV 0, iV 0, .bool false, iV 0, iV 0, iV 0, iV 0, nS, iV 0, iV 0, nS, nS, iV 0, iV 0, iV 0, iV 0, iV 0, nS, nS, nS] : List Value).toArray 29 (0, 0))] Z := hS'
       clear hS'
       obtain ⟨w_173, hs', hS'⟩ := hS.store (P := Try.prog) (p := 16) (o := 0) (t := 29) (v := .agg ([iV t_143.1.Kind, iV t_143.1.From, iV t_143.1.To, iV t_143.1.View, iV t_143.1.Inst, iV t_143.1.Len, .bool t_143.1.Has, iV t_143.1.Members, iV t_143.1.Source, iV t_143.1.At, iV t_143.1.Total, v_147, iV t_143.1.Hop, iV t_143.1.Seq, v_151, v_155, iV t_143.1.Index, iV t_143.1.Entry.Sess, iV t_143.1.Entry.Seq, iV t_143.1.Entry.Cmd.Kind, iV t_143.1.Entry.Cmd.Who, v_159, v_163, v_167] : List Value).toArray) (vs := [iV t_143.1.Kind, iV t_143.1.From, iV t_143.1.To, iV t_143.1.View, iV t_143.1.Inst, iV t_143.1.Len, .bool t_143.1.Has, iV t_143.1.Members, iV t_143.1.Source, iV t_143.1.At, iV t_143.1.Total, v_147, iV t_143.1.Hop, iV t_143.1.Seq, v_151, v_155, iV t_143.1.Index, iV t_143.1.Entry.Sess, iV t_143.1.Entry.Seq, iV t_143.1.Entry.Cmd.Kind, iV t_143.1.Entry.Cmd.Who, v_159, v_163, v_167]) rfl ti29 rfl rfl rfl (by intro u hu; simp only [List.mem_cons, List.not_mem_nil, or_false] at hu; rcases hu with rfl | rfl | rfl | rfl | rfl | rfl | rfl | rfl | rfl | rfl | rfl | rfl | rfl | rfl | rfl | rfl | rfl | rfl | rfl | rfl | rfl | rfl | rfl | rfl <;> first | rfl | exact hr_148.one | exact hr_152.one | exact hr_156.one | exact hr_160.one | exact hr_164.one | exact hr_168.one)
       refine s_store h rfl rfl hs' ?_
       replace hS : Sep w0 w_173 [_, _, _, _, _, _, _, _, _, _, _, _, _, _, _, _, Mem.one g_172 (.cells ([iV t_143.1.Kind, iV t_143.1.From, iV t_143.1.To, iV t_143.1.View, iV t_143.1.Inst, iV t_143.1.Len, .bool t_143.1.Has, iV t_143.1.Members, iV t_143.1.Source, iV t_143.1.At, iV t_143.1.Total, v_147, iV t_143.1.Hop, iV t_143.1.Seq, v_151, v_155, iV t_143.1.Index, iV t_143.1.Entry.Sess, iV t_143.1.Entry.Seq, iV t_143.1.Entry.Cmd.Kind, iV t_143.1.Entry.Cmd.Who, v_159, v_163, v_167] : List Value).toArray 29 (0, 0))] Z := hS'
       clear hs' hS'
       refine s_assign h rfl rfl fun a h=>wpList_nil <| x_then_n <| c_seq fun KJ_174 hKJ_174 => wp_region_lit <| s_move h rfl rfl fun a h=>s_move h rfl rfl fun a h=>s_beq (b := !(t_112.2 == t_143.2)) h rfl U4 rfl rfl (.inr ⟨rfl, rfl⟩) fun a h=>s_move h rfl rfl fun a h=>?_
       by_cases hc_175 : t_112.2 = t_143.2
       ·rw [if_pos hc_175] at H
        refine s_on h rfl rfl (nf (beq_iff_eq.2 hc_175)) <| s_load h rfl rfl (hS.load_agg (p := 9) (us := [iV t_112.1.Kind, iV t_112.1.From, iV t_112.1.To, iV t_112.1.View, iV t_112.1.Inst, iV t_112.1.Len, .bool t_112.1.Has, iV t_112.1.Members, iV t_112.1.Source, iV t_112.1.At, iV t_112.1.Total, v_116, iV t_112.1.Hop, iV t_112.1.Seq, v_120, v_124, iV t_112.1.Index, iV t_112.1.Entry.Sess, iV t_112.1.Entry.Seq, iV t_112.1.Entry.Cmd.Kind, iV t_112.1.Entry.Cmd.Who, v_128, v_132, v_136]) rfl U29 rfl ti29 rfl rfl) fun a h=>s_on h rfl rfl (nf (beq_iff_eq.2 hc_175)) <| s_load h rfl rfl (hS.load_agg (p := 16) (us := [iV t_143.1.Kind, iV t_143.1.From, iV t_143.1.To, iV t_143.1.View, iV t_143.1.Inst, iV t_143.1.Len, .bool t_143.1.Has, iV t_143.1.Members, iV t_143.1.Source, iV t_143.1.At, iV t_143.1.Total, v_147, iV t_143.1.Hop, iV t_143.1.Seq, v_151, v_155, iV t_143.1.Index, iV t_143.1.Entry.Sess, iV t_143.1.Entry.Seq, iV t_143.1.Entry.Cmd.Kind, iV t_143.1.Entry.Cmd.Who, v_159, v_163, v_167]) rfl U29 rfl ti29 rfl rfl) fun a h=>?_
        refine s_on h rfl rfl (nf (beq_iff_eq.2 hc_175)) ?_
        obtain ⟨t_176, et_176, H⟩ := Option.bind_eq_some_iff.1 H
        refine s_call h rfl Try.call15 rfl (hocketref11_Same.calls K t_112.1 _ _ _ _ _ _ t_143.1 _ _ _ _ _ _ t_176 w0 _ _ _ (Mem.le.refl _) (hS.enter [] (by decide)) (hr_117.rd (hS.own_zed [] 2 (by decide)) (Mem.no_le _)) (hr_121.rd (hS.own_zed [] 3 (by decide)) (Mem.no_le _)) (hr_125.rd (hS.own_zed [] 4 (by decide)) (Mem.no_le _)) (hr_129.rd (hS.own_zed [] 5 (by decide)) (Mem.no_le _)) (hr_133.rd (hS.own_zed [] 6 (by decide)) (Mem.no_le _)) (hr_137.rd (hS.own_zed [] 7 (by decide)) (Mem.no_le _)) (hr_148.rd (hS.own_zed [] 9 (by decide)) (Mem.no_le _)) (hr_152.rd (hS.own_zed [] 10 (by decide)) (Mem.no_le _)) (hr_156.rd (hS.own_zed [] 11 (by decide)) (Mem.no_le _)) (hr_160.rd (hS.own_zed [] 12 (by decide)) (Mem.no_le _)) (hr_164.rd (hS.own_zed [] 13 (by decide)) (Mem.no_le _)) (hr_168.rd (hS.own_zed [] 14 (by decide)) (Mem.no_le _)) et_176) ?_
        rintro _ w_177 ⟨N_178, rfl, hS'⟩
        intro a h
        obtain ⟨N_179, hS'', le_179, ln_179⟩ := hS.call [] (by decide) rfl (l' := []) (ow := []) rfl hS'
        replace hS : Sep w0 w_177 [N_179, _, _, _, _, _, _, _, _, _, _, _, _, _, _, _, _] Z := hS''
        clear hS' hS''
        refine s_on h rfl rfl (nf (beq_iff_eq.2 hc_175)) <| s_not h rfl rfl fun a h=>s_pick_f h rfl rfl (nf (beq_iff_eq.2 hc_175)) rfl fun a h=>wpList_nil ?_
        replace h : Fr 151 a [(12, _), (124, _), (125, _), (126, _), (148, .bool (!t_176))] := h.keep [12, 124, 125, 126, 148]
        refine x_then_n (hKJ_174 _ _ ?_)
        by_cases hc_180 : t_176 = true
        ·rw [if_pos hc_180] at H
         refine c_cond_f h rfl (nf hc_180) <| wp_skip <| x_block_n <| x_then_n (hKJ_104 _ _ ?_)
         refine wp_region_lit <| s_arith (r := w64 (x_99 + 1)) h rfl rfl rfl (.inl ⟨rfl, rfl⟩) fun a h=>s_move h rfl rfl fun a h=>wpList_nil <| x_then_n (hKL_100 _ _ ?_)
         replace hS : Sep w0 w_177 [_, _, _, _, _, _, _, _, _, _, _, _, _, _, _, _, _] Z := hS
         replace h : Fr 151 a [(12, _), (124, _), (125, _), (126, iV (w64 (x_99 + 1)))] := h.keep [12, 124, 125, 126]
         exact ⟨w64 (x_99 + 1), N_179, H, h, (Sep.sel hS [0, 1000, 2] (by decide)), (le_98.trans (le_115.trans (le_146.trans le_179)))⟩
        ·rw [if_neg hc_180] at H
         cases H
       ·rw [if_neg hc_175] at H
        cases H
      ·rw [if_neg hc_103] at H
       refine c_cond_f h rfl (decide_eq_false hc_103) <| wp_exit (x_then_x (x_then_x (x_block_t ?_)))
       replace hS : Sep w0 w_100 [_, _, _] Z := hS
       replace h : Fr 151 a [(12, _)] := h.keep [12]
       exact x_then_n (hJ_j_93  H _ _ ⟨N_98, h, (Sep.sel hS [0, 1000, 1001] (by decide)), le_98⟩)
     clear hKJ_81
     refine h_begin (S := fun w => Sep w0 w [N_77, Mem.no] Z) 15 (by kernel_rfl) rfl (bA 15 0) (by kernel_rfl) hS fun w_181 hS => ?_
     replace hS : Sep w0 w_181 [_, _] Z := hS
     refine t_take 0 (bA 15 1) rfl rfl rfl rfl h (hS.sub (.cons (Mem.le.refl _) (.zz .ii))) (v := p3_6) (fun w hS => r_move h rfl) fun a h=>t_take 1 (bA 15 3) rfl rfl rfl rfl h (hS.sub (.cons (Mem.le.refl _) (.zz .ii))) (v := v_46) (fun w hS => r_move h rfl) fun a h=>t_take 2 (bA 15 7) rfl rfl rfl rfl h (hS.sub (.cons (Mem.le.refl _) (.zz .ii))) (v := v_65) (fun w hS => r_move h rfl) fun a h=>t_take 3 (bA 15 15) rfl rfl rfl rfl h (hS.sub (.cons (Mem.le.refl _) (.zz .ii))) (v := v_46) (fun w hS => r_move h rfl) fun a h=>t_take 4 (bA 15 31) rfl rfl rfl rfl h (hS.sub (.cons (Mem.le.refl _) (.zz .ii))) (v := iV x_67) (fun w hS => r_move h rfl) fun a h=>?_
     obtain ⟨t_182, et_182, H⟩ := Option.bind_eq_some_iff.1 H
     refine t_takeE 5 (bA 15 63) rfl rfl rfl rfl h (hS.sub (.cons (Mem.le.refl _) (.zz .ii))) (f := fun v => v) (r_slice h U23 ti5 rfl rfl (hr_47.mono (Mem.un_le le_45 ln_45)) rfl rfl et_182) fun v_183 hr_184 a h => t_take 7 (bA 15 191) rfl rfl rfl rfl h (hS.sub (.cons (Mem.le.refl _) (.zz .ii))) (v := v_46) (fun w hS => r_move h rfl) fun a h=>t_take 9 (bA 15 703) rfl rfl rfl rfl h (hS.sub (.cons (Mem.le.refl _) (.zz .ii))) (v := .int .u8 (x5.toNat : Int)) (fun w hS => r_move h rfl) fun a h=>t_take 14 (bA 15 17087) rfl rfl rfl rfl h (hS.sub (.cons (Mem.le.refl _) (.zz .ii))) (v := iV 0) (fun w hS => r_move h rfl) fun a h=>?_
     obtain ⟨t_191, et_191, H⟩ := Option.bind_eq_some_iff.1 H
     obtain ⟨t_203, et_203, H⟩ := Option.bind_eq_some_iff.1 H
     refine h_events [6, 10] (by kernel_rfl) (by simp) ?_
     intro i hi; simp only [List.mem_cons, List.not_mem_nil, or_false] at hi; rcases hi with rfl | rfl
     ·refine ⟨_, (bA 15 17151), rfl, by kernel_rfl, ?_⟩
      have hq_189 : Reps Kd.u8 Mem.no ([] : List UInt8) _ := (Reps.nil Kd.u8 _)
      refine s_buildSlice h rfl U23 ti5 rfl rfl rfl .nil rfl rfl rfl hS hq_189 rfl fun w_185 v_186 M_187 hS' ho_188 a h => ?_
      replace hS : Sep w0 w_185 [_, _, M_187] Z := hS'
      clear hS' hq_189
      refine wpList_nil <| x_then_n ⟨(hS.sub (.cons (Mem.le.refl _) (.zz .nn))), ?_⟩
      refine h_events [8, 10] (by kernel_rfl) (by simp) ?_
      intro i hi; simp only [List.mem_cons, List.not_mem_nil, or_false] at hi; rcases hi with rfl | rfl
      ·refine ⟨_, (bA 15 17407), rfl, by kernel_rfl, ?_⟩
       refine s_append (J := Mem.no) (I' := Mem.no) (p := 2) 140737488355328 h rfl rfl rfl U23 ti5 rfl rfl rfl rfl hS rfl ho_188 (Src.flat flat_u8 ((hr_47.mono (Mem.un_le le_45 ln_45)).src ((le_61.trans le_77).trans (hS.own 0)))) (Mem.le.refl _) (Mem.le.refl _) et_191 fun w_192 v_193 M_194 hS' ho_195 a h => ?_
       replace hS : Sep w0 w_192 [_, _, M_194] Z := hS'
       clear hS'
       refine wpList_nil <| x_then_n ⟨(hS.sub (.cons (Mem.le.refl _) (.zz .nn))), ?_⟩
       refine h_event 10 (bA 15 18431) rfl (by kernel_rfl) (by kernel_rfl) ?_
       have hq_201 : Reps Kd.u8 Mem.no ([x5] : List UInt8) _ := ((Reps.one (d := Kd.u8) (x := x5) (show Kd.u8.K _ _ [.int .u8 (x5.toNat : Int)] from rfl)).append (Reps.nil Kd.u8 _))
       refine s_buildSlice h rfl U23 ti5 rfl rfl rfl (.cons rfl .nil) rfl rfl rfl hS hq_201 rfl fun w_197 v_198 M_199 hS' ho_200 a h => ?_
       replace hS : Sep w0 w_197 [_, _, _, M_199] Z := hS'
       clear hS' hq_201
       refine wpList_nil <| x_then_n ⟨(hS.sub (.cons (Mem.le.refl _) (.zz .nn))), ?_⟩
       refine h_event 11 (bA 15 20479) rfl (by kernel_rfl) (by kernel_rfl) <| s_append (J := Mem.no) (I' := Mem.no) (p := 2) 140737488355328 h rfl rfl rfl U23 ti5 rfl rfl rfl rfl hS rfl ho_195 (Src.flat flat_u8 (ho_200.src (hS.own 3))) (Mem.le.refl _) (Mem.le.refl _) et_203 fun w_204 v_205 M_206 hS' ho_207 a h => ?_
       replace hS : Sep w0 w_204 [_, _, M_206, _] Z := hS'
       clear hS'
       refine wpList_nil <| x_then_n ⟨(hS.sub (.cons (Mem.le.refl _) (.zz .nn))), ?_⟩
       refine h_event 12 (bA 15 24575) rfl (by kernel_rfl) (by kernel_rfl) ?_
       obtain ⟨N_209, hS', le_209, lo_209⟩ := hS.freeze 0 rfl
       replace hS : Sep w0 w_204 [N_209, Mem.no, _, _] Z := hS'
       clear hS'
       obtain ⟨N_210, hS', le_210, lo_210⟩ := hS.freeze 1 rfl
       replace hS : Sep w0 w_204 [N_210, _, Mem.no, _] Z := hS'
       clear hS'
       have hq_215 : Reps (Kd.slice Kd.u8) (A.un N_210) ([x3, t_42, x_62, t_182, t_203] : List (List UInt8)) _ := ((Reps.one (d := (Kd.slice Kd.u8)) (x := x3) ⟨_, rfl, (hp3_6.mono (Mem.le_un _ _))⟩).append ((Reps.one (d := (Kd.slice Kd.u8)) (x := t_42) ⟨_, rfl, ((hr_47.mono (Mem.un_le le_45 ln_45)).mono ((le_61.trans (le_77.trans (le_209.trans le_210))).trans (hS.sndA hA)))⟩).append ((Reps.one (d := (Kd.slice Kd.u8)) (x := x_62) ⟨_, rfl, ((ho_66.rd lo_209 (Mem.no_le _)).mono (le_210.trans (hS.sndA hA)))⟩).append ((Reps.one (d := (Kd.slice Kd.u8)) (x := t_182) ⟨_, rfl, (hr_184.mono ((le_61.trans (le_77.trans (le_209.trans le_210))).trans (hS.sndA hA)))⟩).append ((Reps.one (d := (Kd.slice Kd.u8)) (x := t_203) ⟨_, rfl, ((ho_207.rd lo_210 (Mem.no_le _)).mono ((Mem.le.refl _).trans (hS.sndA hA)))⟩).append (Reps.nil (Kd.slice Kd.u8) _))))))
       refine s_buildSlice h rfl U41 ti23 rfl rfl rfl (.cons hp3_6.cells (.cons (hr_47.mono (Mem.un_le le_45 ln_45)).cells (.cons (ho_66.rd lo_209 (Mem.no_le _)).cells (.cons hr_184.cells (.cons (ho_207.rd lo_210 (Mem.no_le _)).cells .nil))))) rfl rfl rfl hS hq_215 rfl fun w_211 v_212 M_213 hS' ho_214 a h => ?_
       replace hS : Sep w0 w_211 [_, _, _, _, M_213] Z := hS'
       clear hS' hq_215
       refine wpList_nil <| x_then_n ⟨(hS.sub (.cons (le_209.trans le_210) (.zz .nn))), ?_⟩
       refine t_take 13 (bA 15 32767) rfl rfl rfl rfl h (hS.sub (.cons (le_209.trans le_210) (.zz .nn))) (v := iV (([x3, t_42, x_62, t_182, t_203] : List (List UInt8)).length : Int)) (fun w hS => r_lenO h U41 rfl ho_214) fun a h=>h_done (by kernel_rfl) ?_
       replace h : Fr 151 a [(12, _), (124, v_212), (125, iV (([x3, t_42, x_62, t_182, t_203] : List (List UInt8)).length : Int)), (126, iV 0)] := h.keep [12, 124, 125, 126]
       replace hS : Sep w0 w_211 [_, _, _, _, _] Z := hS
       replace h : Fr 151 a [(12, _), (124, _), (125, _), (126, _)] := h.keep [12, 124, 125, 126]
       exact x_then_n (hJ_j_90 ([x3, t_42, x_62, t_182, t_203] : List (List UInt8)) (([x3, t_42, x_62, t_182, t_203] : List (List UInt8)).length : Int) H _ _ ⟨v_212, N_210, M_213, h, (Sep.sel hS [0, 1000, 4] (by decide)), (le_209.trans le_210), (ho_214.mono (Mem.un_left (Mem.le.refl _)))⟩)
      ·refine ⟨_, (bA 15 18175), rfl, by kernel_rfl, ?_⟩
       have hq_221 : Reps Kd.u8 Mem.no ([x5] : List UInt8) _ := ((Reps.one (d := Kd.u8) (x := x5) (show Kd.u8.K _ _ [.int .u8 (x5.toNat : Int)] from rfl)).append (Reps.nil Kd.u8 _))
       refine s_buildSlice h rfl U23 ti5 rfl rfl rfl (.cons rfl .nil) rfl rfl rfl hS hq_221 rfl fun w_217 v_218 M_219 hS' ho_220 a h => ?_
       replace hS : Sep w0 w_217 [_, _, _, M_219] Z := hS'
       clear hS' hq_221
       refine wpList_nil <| x_then_n ⟨(hS.sub (.cons (Mem.le.refl _) (.zz .nn))), ?_⟩
       refine h_event 8 (bA 15 18431) rfl (by kernel_rfl) (by kernel_rfl) <| s_append (J := Mem.no) (I' := Mem.no) (p := 2) 140737488355328 h rfl rfl rfl U23 ti5 rfl rfl rfl rfl hS rfl ho_188 (Src.flat flat_u8 ((hr_47.mono (Mem.un_le le_45 ln_45)).src ((le_61.trans le_77).trans (hS.own 0)))) (Mem.le.refl _) (Mem.le.refl _) et_191 fun w_224 v_225 M_226 hS' ho_227 a h => ?_
       replace hS : Sep w0 w_224 [_, _, M_226, _] Z := hS'
       clear hS'
       refine wpList_nil <| x_then_n ⟨(hS.sub (.cons (Mem.le.refl _) (.zz .nn))), ?_⟩
       refine h_event 11 (bA 15 20479) rfl (by kernel_rfl) (by kernel_rfl) <| s_append (J := Mem.no) (I' := Mem.no) (p := 2) 140737488355328 h rfl rfl rfl U23 ti5 rfl rfl rfl rfl hS rfl ho_227 (Src.flat flat_u8 (ho_220.src (hS.own 3))) (Mem.le.refl _) (Mem.le.refl _) et_203 fun w_230 v_231 M_232 hS' ho_233 a h => ?_
       replace hS : Sep w0 w_230 [_, _, M_232, _] Z := hS'
       clear hS'
       refine wpList_nil <| x_then_n ⟨(hS.sub (.cons (Mem.le.refl _) (.zz .nn))), ?_⟩
       refine h_event 12 (bA 15 24575) rfl (by kernel_rfl) (by kernel_rfl) ?_
       obtain ⟨N_235, hS', le_235, lo_235⟩ := hS.freeze 0 rfl
       replace hS : Sep w0 w_230 [N_235, Mem.no, _, _] Z := hS'
       clear hS'
       obtain ⟨N_236, hS', le_236, lo_236⟩ := hS.freeze 1 rfl
       replace hS : Sep w0 w_230 [N_236, _, Mem.no, _] Z := hS'
       clear hS'
       have hq_241 : Reps (Kd.slice Kd.u8) (A.un N_236) ([x3, t_42, x_62, t_182, t_203] : List (List UInt8)) _ := ((Reps.one (d := (Kd.slice Kd.u8)) (x := x3) ⟨_, rfl, (hp3_6.mono (Mem.le_un _ _))⟩).append ((Reps.one (d := (Kd.slice Kd.u8)) (x := t_42) ⟨_, rfl, ((hr_47.mono (Mem.un_le le_45 ln_45)).mono ((le_61.trans (le_77.trans (le_235.trans le_236))).trans (hS.sndA hA)))⟩).append ((Reps.one (d := (Kd.slice Kd.u8)) (x := x_62) ⟨_, rfl, ((ho_66.rd lo_235 (Mem.no_le _)).mono (le_236.trans (hS.sndA hA)))⟩).append ((Reps.one (d := (Kd.slice Kd.u8)) (x := t_182) ⟨_, rfl, (hr_184.mono ((le_61.trans (le_77.trans (le_235.trans le_236))).trans (hS.sndA hA)))⟩).append ((Reps.one (d := (Kd.slice Kd.u8)) (x := t_203) ⟨_, rfl, ((ho_233.rd lo_236 (Mem.no_le _)).mono ((Mem.le.refl _).trans (hS.sndA hA)))⟩).append (Reps.nil (Kd.slice Kd.u8) _))))))
       refine s_buildSlice h rfl U41 ti23 rfl rfl rfl (.cons hp3_6.cells (.cons (hr_47.mono (Mem.un_le le_45 ln_45)).cells (.cons (ho_66.rd lo_235 (Mem.no_le _)).cells (.cons hr_184.cells (.cons (ho_233.rd lo_236 (Mem.no_le _)).cells .nil))))) rfl rfl rfl hS hq_241 rfl fun w_237 v_238 M_239 hS' ho_240 a h => ?_
       replace hS : Sep w0 w_237 [_, _, _, _, M_239] Z := hS'
       clear hS' hq_241
       refine wpList_nil <| x_then_n ⟨(hS.sub (.cons (le_235.trans le_236) (.zz .nn))), ?_⟩
       refine t_take 13 (bA 15 32767) rfl rfl rfl rfl h (hS.sub (.cons (le_235.trans le_236) (.zz .nn))) (v := iV (([x3, t_42, x_62, t_182, t_203] : List (List UInt8)).length : Int)) (fun w hS => r_lenO h U41 rfl ho_240) fun a h=>h_done (by kernel_rfl) ?_
       replace h : Fr 151 a [(12, _), (124, v_238), (125, iV (([x3, t_42, x_62, t_182, t_203] : List (List UInt8)).length : Int)), (126, iV 0)] := h.keep [12, 124, 125, 126]
       replace hS : Sep w0 w_237 [_, _, _, _, _] Z := hS
       replace h : Fr 151 a [(12, _), (124, _), (125, _), (126, _)] := h.keep [12, 124, 125, 126]
       exact x_then_n (hJ_j_90 ([x3, t_42, x_62, t_182, t_203] : List (List UInt8)) (([x3, t_42, x_62, t_182, t_203] : List (List UInt8)).length : Int) H _ _ ⟨v_238, N_236, M_239, h, (Sep.sel hS [0, 1000, 4] (by decide)), (le_235.trans le_236), (ho_240.mono (Mem.un_left (Mem.le.refl _)))⟩)
     ·refine ⟨_, (bA 15 18111), rfl, by kernel_rfl, ?_⟩
      have hq_247 : Reps Kd.u8 Mem.no ([x5] : List UInt8) _ := ((Reps.one (d := Kd.u8) (x := x5) (show Kd.u8.K _ _ [.int .u8 (x5.toNat : Int)] from rfl)).append (Reps.nil Kd.u8 _))
      refine s_buildSlice h rfl U23 ti5 rfl rfl rfl (.cons rfl .nil) rfl rfl rfl hS hq_247 rfl fun w_243 v_244 M_245 hS' ho_246 a h => ?_
      replace hS : Sep w0 w_243 [_, _, M_245] Z := hS'
      clear hS' hq_247
      refine wpList_nil <| x_then_n ⟨(hS.sub (.cons (Mem.le.refl _) (.zz .nn))), ?_⟩
      refine h_event 6 (bA 15 18175) rfl (by kernel_rfl) (by kernel_rfl) ?_
      have hq_253 : Reps Kd.u8 Mem.no ([] : List UInt8) _ := (Reps.nil Kd.u8 _)
      refine s_buildSlice h rfl U23 ti5 rfl rfl rfl .nil rfl rfl rfl hS hq_253 rfl fun w_249 v_250 M_251 hS' ho_252 a h => ?_
      replace hS : Sep w0 w_249 [_, _, _, M_251] Z := hS'
      clear hS' hq_253
      refine wpList_nil <| x_then_n ⟨(hS.sub (.cons (Mem.le.refl _) (.zz .nn))), ?_⟩
      refine h_event 8 (bA 15 18431) rfl (by kernel_rfl) (by kernel_rfl) <| s_append (J := Mem.no) (I' := Mem.no) (p := 3) 140737488355328 h rfl rfl rfl U23 ti5 rfl rfl rfl rfl hS rfl ho_252 (Src.flat flat_u8 ((hr_47.mono (Mem.un_le le_45 ln_45)).src ((le_61.trans le_77).trans (hS.own 0)))) (Mem.le.refl _) (Mem.le.refl _) et_191 fun w_256 v_257 M_258 hS' ho_259 a h => ?_
      replace hS : Sep w0 w_256 [_, _, _, M_258] Z := hS'
      clear hS'
      refine wpList_nil <| x_then_n ⟨(hS.sub (.cons (Mem.le.refl _) (.zz .nn))), ?_⟩
      refine h_event 11 (bA 15 20479) rfl (by kernel_rfl) (by kernel_rfl) <| s_append (J := Mem.no) (I' := Mem.no) (p := 3) 140737488355328 h rfl rfl rfl U23 ti5 rfl rfl rfl rfl hS rfl ho_259 (Src.flat flat_u8 (ho_246.src (hS.own 2))) (Mem.le.refl _) (Mem.le.refl _) et_203 fun w_262 v_263 M_264 hS' ho_265 a h => ?_
      replace hS : Sep w0 w_262 [_, _, _, M_264] Z := hS'
      clear hS'
      refine wpList_nil <| x_then_n ⟨(hS.sub (.cons (Mem.le.refl _) (.zz .nn))), ?_⟩
      refine h_event 12 (bA 15 24575) rfl (by kernel_rfl) (by kernel_rfl) ?_
      obtain ⟨N_267, hS', le_267, lo_267⟩ := hS.freeze 0 rfl
      replace hS : Sep w0 w_262 [N_267, Mem.no, _, _] Z := hS'
      clear hS'
      obtain ⟨N_268, hS', le_268, lo_268⟩ := hS.freeze 2 rfl
      replace hS : Sep w0 w_262 [N_268, _, _, Mem.no] Z := hS'
      clear hS'
      have hq_273 : Reps (Kd.slice Kd.u8) (A.un N_268) ([x3, t_42, x_62, t_182, t_203] : List (List UInt8)) _ := ((Reps.one (d := (Kd.slice Kd.u8)) (x := x3) ⟨_, rfl, (hp3_6.mono (Mem.le_un _ _))⟩).append ((Reps.one (d := (Kd.slice Kd.u8)) (x := t_42) ⟨_, rfl, ((hr_47.mono (Mem.un_le le_45 ln_45)).mono ((le_61.trans (le_77.trans (le_267.trans le_268))).trans (hS.sndA hA)))⟩).append ((Reps.one (d := (Kd.slice Kd.u8)) (x := x_62) ⟨_, rfl, ((ho_66.rd lo_267 (Mem.no_le _)).mono (le_268.trans (hS.sndA hA)))⟩).append ((Reps.one (d := (Kd.slice Kd.u8)) (x := t_182) ⟨_, rfl, (hr_184.mono ((le_61.trans (le_77.trans (le_267.trans le_268))).trans (hS.sndA hA)))⟩).append ((Reps.one (d := (Kd.slice Kd.u8)) (x := t_203) ⟨_, rfl, ((ho_265.rd lo_268 (Mem.no_le _)).mono ((Mem.le.refl _).trans (hS.sndA hA)))⟩).append (Reps.nil (Kd.slice Kd.u8) _))))))
      refine s_buildSlice h rfl U41 ti23 rfl rfl rfl (.cons hp3_6.cells (.cons (hr_47.mono (Mem.un_le le_45 ln_45)).cells (.cons (ho_66.rd lo_267 (Mem.no_le _)).cells (.cons hr_184.cells (.cons (ho_265.rd lo_268 (Mem.no_le _)).cells .nil))))) rfl rfl rfl hS hq_273 rfl fun w_269 v_270 M_271 hS' ho_272 a h => ?_
      replace hS : Sep w0 w_269 [_, _, _, _, M_271] Z := hS'
      clear hS' hq_273
      refine wpList_nil <| x_then_n ⟨(hS.sub (.cons (le_267.trans le_268) (.zz .nn))), ?_⟩
      refine t_take 13 (bA 15 32767) rfl rfl rfl rfl h (hS.sub (.cons (le_267.trans le_268) (.zz .nn))) (v := iV (([x3, t_42, x_62, t_182, t_203] : List (List UInt8)).length : Int)) (fun w hS => r_lenO h U41 rfl ho_272) fun a h=>h_done (by kernel_rfl) ?_
      replace h : Fr 151 a [(12, _), (124, v_270), (125, iV (([x3, t_42, x_62, t_182, t_203] : List (List UInt8)).length : Int)), (126, iV 0)] := h.keep [12, 124, 125, 126]
      replace hS : Sep w0 w_269 [_, _, _, _, _] Z := hS
      replace h : Fr 151 a [(12, _), (124, _), (125, _), (126, _)] := h.keep [12, 124, 125, 126]
      exact x_then_n (hJ_j_90 ([x3, t_42, x_62, t_182, t_203] : List (List UInt8)) (([x3, t_42, x_62, t_182, t_203] : List (List UInt8)).length : Int) H _ _ ⟨v_270, N_268, M_271, h, (Sep.sel hS [0, 1000, 4] (by decide)), (le_267.trans le_268), (ho_272.mono (Mem.un_left (Mem.le.refl _)))⟩)
    clear hKJ_70
    replace hS : Sep w0 w_71 [_, _, _, _, _, _, _, _] Z := hS
    replace h : Fr 151 a [(3, _), (5, _), (12, _), (13, _), (14, _), (15, _), (16, _), (89, v_72), (90, iV (([x0, t_14] : List api_Msg).length : Int)), (91, iV 0)] := h.keep [3, 5, 12, 13, 14, 15, 16, 89, 90, 91]
    refine c_block <| c_loop (fun k_277 a w_277 => ∃ (x_276 : Int) (N_275 : Mem), hocketlaw11_MesgTells.L2 K x0 t_14 (fun v => hocketlaw11_MesgTells.J3 K t_42 x_67 x5 x3 x_62) k_277 x_276 = some r ∧ Fr 151 a [(3, p3_6), (5, .int .u8 (x5.toNat : Int)), (12, .bool false), (13, .pointer (some ⟨g_37, 0, none⟩)), (14, v_46), (15, v_65), (16, iV x_67), (89, v_72), (90, iV (([x0, t_14] : List api_Msg).length : Int)), (91, iV x_276)] ∧ Sep w0 w_277 [N_275, Mem.no, Mem.no, Mem.no, Mem.no, Mem.one g_37 (.cells ([iV t_14.Kind, iV t_14.From, iV t_14.To, iV t_14.View, iV t_14.Inst, iV t_14.Len, .bool t_14.Has, iV t_14.Members, iV t_14.Source, iV t_14.At, iV t_14.Total, v_18, iV t_14.Hop, iV t_14.Seq, v_22, v_26, iV t_14.Index, iV t_14.Entry.Sess, iV t_14.Entry.Seq, iV t_14.Entry.Cmd.Kind, iV t_14.Entry.Cmd.Who, v_30, v_32, v_34] : List Value).toArray 29 (0, 0)), M_63, M_73] Z ∧ N_61.le N_275) K ⟨0, N_61, H, h, (Sep.sel hS [0, 1000, 1001, 1002, 1003, 5, 6, 7] (by decide)), (Mem.le.refl _)⟩ (fun a w h => by obtain ⟨_, _, H, _⟩ := h; cases (show (none : Option (Unit)) = some r from H)) ?_
    clear h hS a H
    rintro k_277 a w_277 KL_277 hKL_277 ⟨x_276, N_275, H, h, hS, le_275⟩
    replace H : hocketlaw11_MesgTells.B2 K x0 t_14 (fun v => hocketlaw11_MesgTells.J3 K t_42 x_67 x5 x3 x_62) (hocketlaw11_MesgTells.L2 K x0 t_14 (fun v => hocketlaw11_MesgTells.J3 K t_42 x_67 x5 x3 x_62) k_277) x_276 = some r := H
    unfold hocketlaw11_MesgTells.B2 at H
    refine wp_seq <| wp_region_lit <| s_cmp (b := decide (x_276 < (([x0, t_14] : List api_Msg).length : Int))) h rfl rfl rfl (.inr (.inr (.inl ⟨rfl, rfl⟩))) fun a h=>wpList_nil ?_
    replace h : Fr 151 a [(3, _), (5, _), (12, _), (13, _), (14, _), (15, _), (16, _), (89, _), (90, _), (91, _), (92, .bool (decide (x_276 < (([x0, t_14] : List api_Msg).length : Int))))] := h.keep [3, 5, 12, 13, 14, 15, 16, 89, 90, 91, 92]
    refine x_then_n <| c_seq fun KJ_279 hKJ_279 => ?_
    by_cases hc_280 : x_276 < (([x0, t_14] : List api_Msg).length : Int)
    ·rw [if_pos hc_280] at H
     refine c_cond_t h rfl (decide_eq_true hc_280) <| wp_skip <| x_then_n (hKJ_279 _ _ ?_)
     refine c_seq fun KJ_281 hKJ_281 => c_block <| wp_seq <| wp_region_lit ?_
     obtain ⟨t_282, et_282, H⟩ := Option.bind_eq_some_iff.1 H
     refine v_indexO h rfl U40 ti29 rfl rfl rfl ho_74 (hS.own 7) et_282 fun ad_283 cs_284 hk_285 hc_286 => ?_
     obtain ⟨v_287, v_289, v_291, v_293, v_295, v_297, rfl, hr_288, hr_290, hr_292, hr_294, hr_296, hr_298⟩ := k_api_Msg.open' hk_285
     intro a h
     refine s_load h rfl rfl (el_agg (o := 0) (us := [iV t_282.Kind, iV t_282.From, iV t_282.To, iV t_282.View, iV t_282.Inst, iV t_282.Len, .bool t_282.Has, iV t_282.Members, iV t_282.Source, iV t_282.At, iV t_282.Total, v_287, iV t_282.Hop, iV t_282.Seq, v_289, v_291, iV t_282.Index, iV t_282.Entry.Sess, iV t_282.Entry.Seq, iV t_282.Entry.Cmd.Kind, iV t_282.Entry.Cmd.Who, v_293, v_295, v_297]) hc_286 U29 rfl ti29 rfl rfl) fun a h=>v_alloc h rfl ti29 hS fun w_299 g_300 hS' a h => ?_
     replace hS : Sep w0 w_299 [_, _, _, _, _, _, _, _, Mem.one g_300 (.cells ([iV 0, iV 0, iV 0, iV 0, iV 0, iV 0, .bool false, iV 0, iV 0, iV 0, iV 0, nS, iV 0, iV 0, nS, nS, iV 0, iV 0, iV 0, iV 0, iV 0, nS, nS, nS] : List Value).toArray 29 (0, 0))] Z := hS'
     clear hS'
     obtain ⟨w_301, hs', hS'⟩ := hS.store (P := Try.prog) (p := 8) (o := 0) (t := 29) (v := .agg ([iV t_282.Kind, iV t_282.From, iV t_282.To, iV t_282.View, iV t_282.Inst, iV t_282.Len, .bool t_282.Has, iV t_282.Members, iV t_282.Source, iV t_282.At, iV t_282.Total, v_287, iV t_282.Hop, iV t_282.Seq, v_289, v_291, iV t_282.Index, iV t_282.Entry.Sess, iV t_282.Entry.Seq, iV t_282.Entry.Cmd.Kind, iV t_282.Entry.Cmd.Who, v_293, v_295, v_297] : List Value).toArray) (vs := [iV t_282.Kind, iV t_282.From, iV t_282.To, iV t_282.View, iV t_282.Inst, iV t_282.Len, .bool t_282.Has, iV t_282.Members, iV t_282.Source, iV t_282.At, iV t_282.Total, v_287, iV t_282.Hop, iV t_282.Seq, v_289, v_291, iV t_282.Index, iV t_282.Entry.Sess, iV t_282.Entry.Seq, iV t_282.Entry.Cmd.Kind, iV t_282.Entry.Cmd.Who, v_293, v_295, v_297]) rfl ti29 rfl rfl rfl (by intro u hu; simp only [List.mem_cons, List.not_mem_nil, or_false] at hu; rcases hu with rfl | rfl | rfl | rfl | rfl | rfl | rfl | rfl | rfl | rfl | rfl | rfl | rfl | rfl | rfl | rfl | rfl | rfl | rfl | rfl | rfl | rfl | rfl | rfl <;> first | rfl | exact hr_288.one | exact hr_290.one | exact hr_292.one | exact hr_294.one | exact hr_296.one | exact hr_298.one)
     refine s_store h rfl rfl hs' ?_
     replace hS : Sep w0 w_301 [_, _, _, _, _, _, _, _, Mem.one g_300 (.cells ([iV t_282.Kind, iV t_282.From, iV t_282.To, iV t_282.View, iV t_282.Inst, iV t_282.Len, .bool t_282.Has, iV t_282.Members, iV t_282.Source, iV t_282.At, iV t_282.Total, v_287, iV t_282.Hop, iV t_282.Seq, v_289, v_291, iV t_282.Index, iV t_282.Entry.Sess, iV t_282.Entry.Seq, iV t_282.Entry.Cmd.Kind, iV t_282.Entry.Cmd.Who, v_293, v_295, v_297] : List Value).toArray 29 (0, 0))] Z := hS'
     clear hs' hS'
     refine wpList_nil <| x_then_n <| c_seq fun KJ_302 hKJ_302 => h_begin (S := fun w => Sep w0 w [N_275, Mem.no, Mem.no, Mem.no, Mem.no, Mem.one g_37 (.cells ([iV t_14.Kind, iV t_14.From, iV t_14.To, iV t_14.View, iV t_14.Inst, iV t_14.Len, .bool t_14.Has, iV t_14.Members, iV t_14.Source, iV t_14.At, iV t_14.Total, v_18, iV t_14.Hop, iV t_14.Seq, v_22, v_26, iV t_14.Index, iV t_14.Entry.Sess, iV t_14.Entry.Seq, iV t_14.Entry.Cmd.Kind, iV t_14.Entry.Cmd.Who, v_30, v_32, v_34] : List Value).toArray 29 (0, 0)), M_63, M_73, Mem.one g_300 (.cells ([iV t_282.Kind, iV t_282.From, iV t_282.To, iV t_282.View, iV t_282.Inst, iV t_282.Len, .bool t_282.Has, iV t_282.Members, iV t_282.Source, iV t_282.At, iV t_282.Total, v_287, iV t_282.Hop, iV t_282.Seq, v_289, v_291, iV t_282.Index, iV t_282.Entry.Sess, iV t_282.Entry.Seq, iV t_282.Entry.Cmd.Kind, iV t_282.Entry.Cmd.Who, v_293, v_295, v_297] : List Value).toArray 29 (0, 0))] Z) 16 (by kernel_rfl) rfl (bA 16 0) (by kernel_rfl) hS fun w_303 hS => ?_
     replace hS : Sep w0 w_303 [_, _, _, _, _, _, _, _, _] Z := hS
     refine t_take 0 (bA 16 1) rfl rfl rfl rfl h (hS.sub (.cons (Mem.le.refl _) (.zz (.zz (.zz (.zz .ii)))))) (v := .agg ([iV t_282.Kind, iV t_282.From, iV t_282.To, iV t_282.View, iV t_282.Inst, iV t_282.Len, .bool t_282.Has, iV t_282.Members, iV t_282.Source, iV t_282.At, iV t_282.Total, v_287, iV t_282.Hop, iV t_282.Seq, v_289, v_291, iV t_282.Index, iV t_282.Entry.Sess, iV t_282.Entry.Seq, iV t_282.Entry.Cmd.Kind, iV t_282.Entry.Cmd.Who, v_293, v_295, v_297] : List Value).toArray) (fun w hS => r_load h rfl (hS.load_agg (p := 8) (us := [iV t_282.Kind, iV t_282.From, iV t_282.To, iV t_282.View, iV t_282.Inst, iV t_282.Len, .bool t_282.Has, iV t_282.Members, iV t_282.Source, iV t_282.At, iV t_282.Total, v_287, iV t_282.Hop, iV t_282.Seq, v_289, v_291, iV t_282.Index, iV t_282.Entry.Sess, iV t_282.Entry.Seq, iV t_282.Entry.Cmd.Kind, iV t_282.Entry.Cmd.Who, v_293, v_295, v_297]) rfl U29 rfl ti29 rfl rfl)) fun a h=>t_take 3 (bA 16 9) rfl rfl rfl rfl h (hS.sub (.cons (Mem.le.refl _) (.zz (.zz (.zz (.zz .ii)))))) (v := .agg ([iV t_282.Kind, iV t_282.From, iV t_282.To, iV t_282.View, iV t_282.Inst, iV t_282.Len, .bool t_282.Has, iV t_282.Members, iV t_282.Source, iV t_282.At, iV t_282.Total, v_287, iV t_282.Hop, iV t_282.Seq, v_289, v_291, iV t_282.Index, iV t_282.Entry.Sess, iV t_282.Entry.Seq, iV t_282.Entry.Cmd.Kind, iV t_282.Entry.Cmd.Who, v_293, v_295, v_297] : List Value).toArray) (fun w hS => r_load h rfl (hS.load_agg (p := 8) (us := [iV t_282.Kind, iV t_282.From, iV t_282.To, iV t_282.View, iV t_282.Inst, iV t_282.Len, .bool t_282.Has, iV t_282.Members, iV t_282.Source, iV t_282.At, iV t_282.Total, v_287, iV t_282.Hop, iV t_282.Seq, v_289, v_291, iV t_282.Index, iV t_282.Entry.Sess, iV t_282.Entry.Seq, iV t_282.Entry.Cmd.Kind, iV t_282.Entry.Cmd.Who, v_293, v_295, v_297]) rfl U29 rfl ti29 rfl rfl)) fun a h=>?_
     refine h_event 1 (bA 16 11) rfl (by kernel_rfl) (by kernel_rfl) ?_
     obtain ⟨t_304, et_304, H⟩ := Option.bind_eq_some_iff.1 H
     refine s_call h rfl Try.call11 rfl (mesg_Encode.calls K t_282 _ _ _ _ _ _ t_304 w0 _ _ _ (Mem.le.refl _) (hS.enter [] (by decide)) (hr_288.mono (Mem.un_le (hA.trans (hS.le_zed [])) (le_275.trans (hS.new_zed [])))) (hr_290.mono (Mem.un_le (hA.trans (hS.le_zed [])) (le_275.trans (hS.new_zed [])))) (hr_292.mono (Mem.un_le (hA.trans (hS.le_zed [])) (le_275.trans (hS.new_zed [])))) (hr_294.mono (Mem.un_le (hA.trans (hS.le_zed [])) (le_275.trans (hS.new_zed [])))) (hr_296.mono (Mem.un_le (hA.trans (hS.le_zed [])) (le_275.trans (hS.new_zed [])))) (hr_298.mono (Mem.un_le (hA.trans (hS.le_zed [])) (le_275.trans (hS.new_zed [])))) et_304) ?_
     rintro v_308 w_305 ⟨_, N_306, M_310, rfl, hS', hr_309⟩
     intro a h
     obtain ⟨N_307, hS'', le_307, ln_307⟩ := hS.call [] (by decide) rfl (l' := []) (ow := [M_310]) rfl hS'
     replace hS : Sep w0 w_305 [N_307, _, _, _, _, _, _, _, _, M_310] Z := hS''
     clear hS' hS''
     refine wpList_nil <| x_then_n ⟨(hS.sub (.cons le_307 (.zz (.zz (.zz (.zz (.rr (.rr (.rr (.rr .nn)))))))))), ?_⟩
     obtain ⟨t_312, et_312, H⟩ := Option.bind_eq_some_iff.1 H
     refine h_events [2, 4] (by kernel_rfl) (by simp) ?_
     intro i hi; simp only [List.mem_cons, List.not_mem_nil, or_false] at hi; rcases hi with rfl | rfl
     ·refine ⟨_, (bA 16 15), rfl, by kernel_rfl, ?_⟩
      refine s_b2s h rfl U23 U5 U9 rfl (hr_309.rd (J := hp w_305) (hS.own 9) (Mem.no_le _)) (Mem.le.refl _) fun a h=>wpList_nil <| x_then_n ⟨(hS.sub (.cons le_307 (.zz (.zz (.zz (.zz (.rr (.rr (.rr (.rr .nn)))))))))), ?_⟩
      refine h_event 4 (bA 16 31) rfl (by kernel_rfl) (by kernel_rfl) <| s_call h rfl Try.call16 rfl (hocketref11_Encode.calls K t_282 _ _ _ _ _ _ t_312 w0 _ _ (A.un N_307) (Mem.un_le (hA.trans (hS.le_zed [])) (hS.new_zed [])) (hS.enter [] (by decide)) (hr_288.mono (Mem.un_left (le_275.trans le_307))) (hr_290.mono (Mem.un_left (le_275.trans le_307))) (hr_292.mono (Mem.un_left (le_275.trans le_307))) (hr_294.mono (Mem.un_left (le_275.trans le_307))) (hr_296.mono (Mem.un_left (le_275.trans le_307))) (hr_298.mono (Mem.un_left (le_275.trans le_307))) et_312) ?_
      rintro v_316 w_313 ⟨_, N_314, rfl, hS', hr_317⟩
      intro a h
      obtain ⟨N_315, hS'', le_315, ln_315⟩ := hS.call [] (by decide) rfl (l' := []) (ow := []) rfl hS'
      replace hS : Sep w0 w_313 [N_315, _, _, _, _, _, _, _, _, _] Z := hS''
      clear hS' hS''
      have hr_318 : Rd Kd.u8 (A.un N_315) v_316 t_312 := hr_317.mono (Mem.un_le (Mem.un_left le_315) (ln_315.trans (hS.sndA hA)))
      refine wpList_nil <| x_then_n ⟨(hS.sub (.cons (le_307.trans le_315) (.zz (.zz (.zz (.zz (.rr (.rr (.rr (.rr .nn)))))))))), ?_⟩
      refine h_event 5 (bA 16 63) rfl (by kernel_rfl) (by kernel_rfl) <| s_b2s h rfl U23 U5 U9 rfl hr_318 (Mem.un_le (hA.trans hS.old) ((Mem.le.refl _).trans (hS.own 0))) fun a h=>wpList_nil <| x_then_n ⟨(hS.sub (.cons (le_307.trans le_315) (.zz (.zz (.zz (.zz (.rr (.rr (.rr (.rr .nn)))))))))), ?_⟩
      refine t_take 6 (bA 16 127) rfl rfl rfl rfl h (hS.sub (.cons (le_307.trans le_315) (.zz (.zz (.zz (.zz (.rr (.rr (.rr (.rr .nn)))))))))) (v := .bool (!(t_304 == t_312))) (fun w hS => r_strEq (b := !(t_304 == t_312)) h rfl rfl (.inr ⟨rfl, rfl⟩)) fun a h=>t_take 7 (bA 16 255) rfl rfl rfl rfl h (hS.sub (.cons (le_307.trans le_315) (.zz (.zz (.zz (.zz (.rr (.rr (.rr (.rr .nn)))))))))) (v := .bool (!(t_304 == t_312))) (fun w hS => r_move h rfl) fun a h=>?_
      by_cases hc_319 : t_304 = t_312
      ·rw [if_pos hc_319] at H
       refine t_take_on 8 (bA 16 511) rfl rfl rfl rfl (nf (beq_iff_eq.2 hc_319)) rfl rfl h (hS.sub (.cons (le_307.trans le_315) (.zz (.zz (.zz (.zz (.rr (.rr (.rr (.rr .nn)))))))))) (v := .agg ([iV t_282.Kind, iV t_282.From, iV t_282.To, iV t_282.View, iV t_282.Inst, iV t_282.Len, .bool t_282.Has, iV t_282.Members, iV t_282.Source, iV t_282.At, iV t_282.Total, v_287, iV t_282.Hop, iV t_282.Seq, v_289, v_291, iV t_282.Index, iV t_282.Entry.Sess, iV t_282.Entry.Seq, iV t_282.Entry.Cmd.Kind, iV t_282.Entry.Cmd.Who, v_293, v_295, v_297] : List Value).toArray) (fun w hS => r_load h rfl (hS.load_agg (p := 8) (us := [iV t_282.Kind, iV t_282.From, iV t_282.To, iV t_282.View, iV t_282.Inst, iV t_282.Len, .bool t_282.Has, iV t_282.Members, iV t_282.Source, iV t_282.At, iV t_282.Total, v_287, iV t_282.Hop, iV t_282.Seq, v_289, v_291, iV t_282.Index, iV t_282.Entry.Sess, iV t_282.Entry.Seq, iV t_282.Entry.Cmd.Kind, iV t_282.Entry.Cmd.Who, v_293, v_295, v_297]) rfl U29 rfl ti29 rfl rfl)) fun a h=>?_
       refine t_take_on 9 (bA 16 1023) rfl rfl rfl rfl (nf (beq_iff_eq.2 hc_319)) rfl rfl h (hS.sub (.cons (le_307.trans le_315) (.zz (.zz (.zz (.zz (.rr (.rr (.rr (.rr .nn)))))))))) (v := .agg ([iV t_14.Kind, iV t_14.From, iV t_14.To, iV t_14.View, iV t_14.Inst, iV t_14.Len, .bool t_14.Has, iV t_14.Members, iV t_14.Source, iV t_14.At, iV t_14.Total, v_18, iV t_14.Hop, iV t_14.Seq, v_22, v_26, iV t_14.Index, iV t_14.Entry.Sess, iV t_14.Entry.Seq, iV t_14.Entry.Cmd.Kind, iV t_14.Entry.Cmd.Who, v_30, v_32, v_34] : List Value).toArray) (fun w hS => r_load h rfl (hS.load_agg (p := 5) (us := [iV t_14.Kind, iV t_14.From, iV t_14.To, iV t_14.View, iV t_14.Inst, iV t_14.Len, .bool t_14.Has, iV t_14.Members, iV t_14.Source, iV t_14.At, iV t_14.Total, v_18, iV t_14.Hop, iV t_14.Seq, v_22, v_26, iV t_14.Index, iV t_14.Entry.Sess, iV t_14.Entry.Seq, iV t_14.Entry.Cmd.Kind, iV t_14.Entry.Cmd.Who, v_30, v_32, v_34]) rfl U29 rfl ti29 rfl rfl)) fun a h=>?_
       refine t_take_on 11 (bA 16 3071) rfl rfl rfl rfl (nf (beq_iff_eq.2 hc_319)) rfl rfl h (hS.sub (.cons (le_307.trans le_315) (.zz (.zz (.zz (.zz (.rr (.rr (.rr (.rr .nn)))))))))) (v := .agg ([iV t_282.Kind, iV t_282.From, iV t_282.To, iV t_282.View, iV t_282.Inst, iV t_282.Len, .bool t_282.Has, iV t_282.Members, iV t_282.Source, iV t_282.At, iV t_282.Total, v_287, iV t_282.Hop, iV t_282.Seq, v_289, v_291, iV t_282.Index, iV t_282.Entry.Sess, iV t_282.Entry.Seq, iV t_282.Entry.Cmd.Kind, iV t_282.Entry.Cmd.Who, v_293, v_295, v_297] : List Value).toArray) (fun w hS => r_load h rfl (hS.load_agg (p := 8) (us := [iV t_282.Kind, iV t_282.From, iV t_282.To, iV t_282.View, iV t_282.Inst, iV t_282.Len, .bool t_282.Has, iV t_282.Members, iV t_282.Source, iV t_282.At, iV t_282.Total, v_287, iV t_282.Hop, iV t_282.Seq, v_289, v_291, iV t_282.Index, iV t_282.Entry.Sess, iV t_282.Entry.Seq, iV t_282.Entry.Cmd.Kind, iV t_282.Entry.Cmd.Who, v_293, v_295, v_297]) rfl U29 rfl ti29 rfl rfl)) fun a h=>?_
       refine t_take_on 12 (bA 16 7167) rfl rfl rfl rfl (nf (beq_iff_eq.2 hc_319)) rfl rfl h (hS.sub (.cons (le_307.trans le_315) (.zz (.zz (.zz (.zz (.rr (.rr (.rr (.rr .nn)))))))))) (v := .agg ([iV t_14.Kind, iV t_14.From, iV t_14.To, iV t_14.View, iV t_14.Inst, iV t_14.Len, .bool t_14.Has, iV t_14.Members, iV t_14.Source, iV t_14.At, iV t_14.Total, v_18, iV t_14.Hop, iV t_14.Seq, v_22, v_26, iV t_14.Index, iV t_14.Entry.Sess, iV t_14.Entry.Seq, iV t_14.Entry.Cmd.Kind, iV t_14.Entry.Cmd.Who, v_30, v_32, v_34] : List Value).toArray) (fun w hS => r_load h rfl (hS.load_agg (p := 5) (us := [iV t_14.Kind, iV t_14.From, iV t_14.To, iV t_14.View, iV t_14.Inst, iV t_14.Len, .bool t_14.Has, iV t_14.Members, iV t_14.Source, iV t_14.At, iV t_14.Total, v_18, iV t_14.Hop, iV t_14.Seq, v_22, v_26, iV t_14.Index, iV t_14.Entry.Sess, iV t_14.Entry.Seq, iV t_14.Entry.Cmd.Kind, iV t_14.Entry.Cmd.Who, v_30, v_32, v_34]) rfl U29 rfl ti29 rfl rfl)) fun a h=>?_
       refine h_event 10 (bA 16 8191) rfl (by kernel_rfl) (by kernel_rfl) <| s_on h rfl rfl (nf (beq_iff_eq.2 hc_319)) ?_
       obtain ⟨t_320, et_320, H⟩ := Option.bind_eq_some_iff.1 H
       refine s_call h rfl Try.call17 rfl (mesg_Same.calls K t_282 _ _ _ _ _ _ t_14 _ _ _ _ _ _ t_320 w0 _ _ _ (Mem.le.refl _) (hS.enter [] (by decide)) (hr_288.mono (Mem.un_le (hA.trans (hS.le_zed [])) ((le_275.trans (le_307.trans le_315)).trans (hS.new_zed [])))) (hr_290.mono (Mem.un_le (hA.trans (hS.le_zed [])) ((le_275.trans (le_307.trans le_315)).trans (hS.new_zed [])))) (hr_292.mono (Mem.un_le (hA.trans (hS.le_zed [])) ((le_275.trans (le_307.trans le_315)).trans (hS.new_zed [])))) (hr_294.mono (Mem.un_le (hA.trans (hS.le_zed [])) ((le_275.trans (le_307.trans le_315)).trans (hS.new_zed [])))) (hr_296.mono (Mem.un_le (hA.trans (hS.le_zed [])) ((le_275.trans (le_307.trans le_315)).trans (hS.new_zed [])))) (hr_298.mono (Mem.un_le (hA.trans (hS.le_zed [])) ((le_275.trans (le_307.trans le_315)).trans (hS.new_zed [])))) ((hr_19.rd lo_39 (Mem.no_le _)).mono ((le_40.trans (le_41.trans (le_45.trans (le_61.trans (le_275.trans (le_307.trans le_315)))))).trans (hS.new_zed []))) ((hr_23.rd lo_40 (Mem.no_le _)).mono ((le_41.trans (le_45.trans (le_61.trans (le_275.trans (le_307.trans le_315))))).trans (hS.new_zed []))) ((hr_27.rd lo_41 (Mem.no_le _)).mono ((le_45.trans (le_61.trans (le_275.trans (le_307.trans le_315)))).trans (hS.new_zed []))) ((hr_31.mono ln_17).mono ((le_39.trans (le_40.trans (le_41.trans (le_45.trans (le_61.trans (le_275.trans (le_307.trans le_315))))))).trans (hS.new_zed []))) ((hr_33.mono ln_17).mono ((le_39.trans (le_40.trans (le_41.trans (le_45.trans (le_61.trans (le_275.trans (le_307.trans le_315))))))).trans (hS.new_zed []))) ((hr_35.mono ln_17).mono ((le_39.trans (le_40.trans (le_41.trans (le_45.trans (le_61.trans (le_275.trans (le_307.trans le_315))))))).trans (hS.new_zed []))) et_320) ?_
       rintro _ w_321 ⟨N_322, rfl, hS'⟩
       intro a h
       obtain ⟨N_323, hS'', le_323, ln_323⟩ := hS.call [] (by decide) rfl (l' := []) (ow := []) rfl hS'
       replace hS : Sep w0 w_321 [N_323, _, _, _, _, _, _, _, _, _] Z := hS''
       clear hS' hS''
       refine wpList_nil <| x_then_n ⟨(hS.sub (.cons (le_307.trans (le_315.trans le_323)) (.zz (.zz (.zz (.zz (.rr (.rr (.rr (.rr .nn)))))))))), ?_⟩
       refine h_event 13 (bA 16 16383) rfl (by kernel_rfl) (by kernel_rfl) <| s_on h rfl rfl (nf (beq_iff_eq.2 hc_319)) ?_
       obtain ⟨t_324, et_324, H⟩ := Option.bind_eq_some_iff.1 H
       refine s_call h rfl Try.call15 rfl (hocketref11_Same.calls K t_282 _ _ _ _ _ _ t_14 _ _ _ _ _ _ t_324 w0 _ _ _ (Mem.le.refl _) (hS.enter [] (by decide)) (hr_288.mono (Mem.un_le (hA.trans (hS.le_zed [])) ((le_275.trans (le_307.trans (le_315.trans le_323))).trans (hS.new_zed [])))) (hr_290.mono (Mem.un_le (hA.trans (hS.le_zed [])) ((le_275.trans (le_307.trans (le_315.trans le_323))).trans (hS.new_zed [])))) (hr_292.mono (Mem.un_le (hA.trans (hS.le_zed [])) ((le_275.trans (le_307.trans (le_315.trans le_323))).trans (hS.new_zed [])))) (hr_294.mono (Mem.un_le (hA.trans (hS.le_zed [])) ((le_275.trans (le_307.trans (le_315.trans le_323))).trans (hS.new_zed [])))) (hr_296.mono (Mem.un_le (hA.trans (hS.le_zed [])) ((le_275.trans (le_307.trans (le_315.trans le_323))).trans (hS.new_zed [])))) (hr_298.mono (Mem.un_le (hA.trans (hS.le_zed [])) ((le_275.trans (le_307.trans (le_315.trans le_323))).trans (hS.new_zed [])))) ((hr_19.rd lo_39 (Mem.no_le _)).mono ((le_40.trans (le_41.trans (le_45.trans (le_61.trans (le_275.trans (le_307.trans (le_315.trans le_323))))))).trans (hS.new_zed []))) ((hr_23.rd lo_40 (Mem.no_le _)).mono ((le_41.trans (le_45.trans (le_61.trans (le_275.trans (le_307.trans (le_315.trans le_323)))))).trans (hS.new_zed []))) ((hr_27.rd lo_41 (Mem.no_le _)).mono ((le_45.trans (le_61.trans (le_275.trans (le_307.trans (le_315.trans le_323))))).trans (hS.new_zed []))) ((hr_31.mono ln_17).mono ((le_39.trans (le_40.trans (le_41.trans (le_45.trans (le_61.trans (le_275.trans (le_307.trans (le_315.trans le_323)))))))).trans (hS.new_zed []))) ((hr_33.mono ln_17).mono ((le_39.trans (le_40.trans (le_41.trans (le_45.trans (le_61.trans (le_275.trans (le_307.trans (le_315.trans le_323)))))))).trans (hS.new_zed []))) ((hr_35.mono ln_17).mono ((le_39.trans (le_40.trans (le_41.trans (le_45.trans (le_61.trans (le_275.trans (le_307.trans (le_315.trans le_323)))))))).trans (hS.new_zed []))) et_324) ?_
       rintro _ w_325 ⟨N_326, rfl, hS'⟩
       intro a h
       obtain ⟨N_327, hS'', le_327, ln_327⟩ := hS.call [] (by decide) rfl (l' := []) (ow := []) rfl hS'
       replace hS : Sep w0 w_325 [N_327, _, _, _, _, _, _, _, _, _] Z := hS''
       clear hS' hS''
       refine wpList_nil <| x_then_n ⟨(hS.sub (.cons (le_307.trans (le_315.trans (le_323.trans le_327))) (.zz (.zz (.zz (.zz (.rr (.rr (.rr (.rr .nn)))))))))), ?_⟩
       refine t_take_on 14 (bA 16 32767) rfl rfl rfl rfl (nf (beq_iff_eq.2 hc_319)) rfl rfl h (hS.sub (.cons (le_307.trans (le_315.trans (le_323.trans le_327))) (.zz (.zz (.zz (.zz (.rr (.rr (.rr (.rr .nn)))))))))) (v := .bool (!(t_320 == t_324))) (fun w hS => r_beq (b := !(t_320 == t_324)) h U4 rfl rfl (.inr ⟨rfl, rfl⟩)) fun a h=>t_take 15 (bA 16 65535) rfl rfl rfl rfl h (hS.sub (.cons (le_307.trans (le_315.trans (le_323.trans le_327))) (.zz (.zz (.zz (.zz (.rr (.rr (.rr (.rr .nn)))))))))) (v := .bool (!(t_320 == t_324))) (fun w hS => r_pick_f h rfl (nf (beq_iff_eq.2 hc_319)) rfl) fun a h=>h_done (by kernel_rfl) <| x_then_n (hKJ_302 _ _ ?_)
       by_cases hc_328 : t_320 = t_324
       ·rw [if_pos hc_328] at H
        refine c_cond_f h rfl (nf (beq_iff_eq.2 hc_328)) <| wp_skip <| x_block_n <| x_then_n (hKJ_281 _ _ ?_)
        refine wp_region_lit <| s_arith (r := w64 (x_276 + 1)) h rfl rfl rfl (.inl ⟨rfl, rfl⟩) fun a h=>s_move h rfl rfl fun a h=>wpList_nil <| x_then_n (hKL_277 _ _ ?_)
        replace hS : Sep w0 w_325 [_, _, _, _, _, _, _, _, _, _] Z := hS
        replace h : Fr 151 a [(3, _), (5, _), (12, _), (13, _), (14, _), (15, _), (16, _), (89, _), (90, _), (91, iV (w64 (x_276 + 1)))] := h.keep [3, 5, 12, 13, 14, 15, 16, 89, 90, 91]
        exact ⟨w64 (x_276 + 1), N_327, H, h, (Sep.sel hS [0, 1000, 1001, 1002, 1003, 5, 6, 7] (by decide)), (le_275.trans (le_307.trans (le_315.trans (le_323.trans le_327))))⟩
       ·rw [if_neg hc_328] at H
        cases H
      ·rw [if_neg hc_319] at H
       cases H
     ·refine ⟨_, (bA 16 27), rfl, by kernel_rfl, ?_⟩
      refine s_call h rfl Try.call16 rfl (hocketref11_Encode.calls K t_282 _ _ _ _ _ _ t_312 w0 _ _ (A.un N_307) (Mem.un_le (hA.trans (hS.le_zed [])) (hS.new_zed [])) (hS.enter [] (by decide)) (hr_288.mono (Mem.un_left (le_275.trans le_307))) (hr_290.mono (Mem.un_left (le_275.trans le_307))) (hr_292.mono (Mem.un_left (le_275.trans le_307))) (hr_294.mono (Mem.un_left (le_275.trans le_307))) (hr_296.mono (Mem.un_left (le_275.trans le_307))) (hr_298.mono (Mem.un_left (le_275.trans le_307))) et_312) ?_
      rintro v_333 w_330 ⟨_, N_331, rfl, hS', hr_334⟩
      intro a h
      obtain ⟨N_332, hS'', le_332, ln_332⟩ := hS.call [] (by decide) rfl (l' := []) (ow := []) rfl hS'
      replace hS : Sep w0 w_330 [N_332, _, _, _, _, _, _, _, _, _] Z := hS''
      clear hS' hS''
      have hr_335 : Rd Kd.u8 (A.un N_332) v_333 t_312 := hr_334.mono (Mem.un_le (Mem.un_left le_332) (ln_332.trans (hS.sndA hA)))
      refine wpList_nil <| x_then_n ⟨(hS.sub (.cons (le_307.trans le_332) (.zz (.zz (.zz (.zz (.rr (.rr (.rr (.rr .nn)))))))))), ?_⟩
      refine h_events [2, 5] (by kernel_rfl) (by simp) ?_
      intro i hi; simp only [List.mem_cons, List.not_mem_nil, or_false] at hi; rcases hi with rfl | rfl
      ·refine ⟨_, (bA 16 31), rfl, by kernel_rfl, ?_⟩
       refine s_b2s h rfl U23 U5 U9 rfl (hr_309.rd (J := hp w_330) (hS.own 9) (Mem.no_le _)) (Mem.le.refl _) fun a h=>wpList_nil <| x_then_n ⟨(hS.sub (.cons (le_307.trans le_332) (.zz (.zz (.zz (.zz (.rr (.rr (.rr (.rr .nn)))))))))), ?_⟩
       refine h_event 5 (bA 16 63) rfl (by kernel_rfl) (by kernel_rfl) <| s_b2s h rfl U23 U5 U9 rfl hr_335 (Mem.un_le (hA.trans hS.old) ((Mem.le.refl _).trans (hS.own 0))) fun a h=>wpList_nil <| x_then_n ⟨(hS.sub (.cons (le_307.trans le_332) (.zz (.zz (.zz (.zz (.rr (.rr (.rr (.rr .nn)))))))))), ?_⟩
       refine t_take 6 (bA 16 127) rfl rfl rfl rfl h (hS.sub (.cons (le_307.trans le_332) (.zz (.zz (.zz (.zz (.rr (.rr (.rr (.rr .nn)))))))))) (v := .bool (!(t_304 == t_312))) (fun w hS => r_strEq (b := !(t_304 == t_312)) h rfl rfl (.inr ⟨rfl, rfl⟩)) fun a h=>t_take 7 (bA 16 255) rfl rfl rfl rfl h (hS.sub (.cons (le_307.trans le_332) (.zz (.zz (.zz (.zz (.rr (.rr (.rr (.rr .nn)))))))))) (v := .bool (!(t_304 == t_312))) (fun w hS => r_move h rfl) fun a h=>?_
       by_cases hc_336 : t_304 = t_312
       ·rw [if_pos hc_336] at H
        refine t_take_on 8 (bA 16 511) rfl rfl rfl rfl (nf (beq_iff_eq.2 hc_336)) rfl rfl h (hS.sub (.cons (le_307.trans le_332) (.zz (.zz (.zz (.zz (.rr (.rr (.rr (.rr .nn)))))))))) (v := .agg ([iV t_282.Kind, iV t_282.From, iV t_282.To, iV t_282.View, iV t_282.Inst, iV t_282.Len, .bool t_282.Has, iV t_282.Members, iV t_282.Source, iV t_282.At, iV t_282.Total, v_287, iV t_282.Hop, iV t_282.Seq, v_289, v_291, iV t_282.Index, iV t_282.Entry.Sess, iV t_282.Entry.Seq, iV t_282.Entry.Cmd.Kind, iV t_282.Entry.Cmd.Who, v_293, v_295, v_297] : List Value).toArray) (fun w hS => r_load h rfl (hS.load_agg (p := 8) (us := [iV t_282.Kind, iV t_282.From, iV t_282.To, iV t_282.View, iV t_282.Inst, iV t_282.Len, .bool t_282.Has, iV t_282.Members, iV t_282.Source, iV t_282.At, iV t_282.Total, v_287, iV t_282.Hop, iV t_282.Seq, v_289, v_291, iV t_282.Index, iV t_282.Entry.Sess, iV t_282.Entry.Seq, iV t_282.Entry.Cmd.Kind, iV t_282.Entry.Cmd.Who, v_293, v_295, v_297]) rfl U29 rfl ti29 rfl rfl)) fun a h=>?_
        refine t_take_on 9 (bA 16 1023) rfl rfl rfl rfl (nf (beq_iff_eq.2 hc_336)) rfl rfl h (hS.sub (.cons (le_307.trans le_332) (.zz (.zz (.zz (.zz (.rr (.rr (.rr (.rr .nn)))))))))) (v := .agg ([iV t_14.Kind, iV t_14.From, iV t_14.To, iV t_14.View, iV t_14.Inst, iV t_14.Len, .bool t_14.Has, iV t_14.Members, iV t_14.Source, iV t_14.At, iV t_14.Total, v_18, iV t_14.Hop, iV t_14.Seq, v_22, v_26, iV t_14.Index, iV t_14.Entry.Sess, iV t_14.Entry.Seq, iV t_14.Entry.Cmd.Kind, iV t_14.Entry.Cmd.Who, v_30, v_32, v_34] : List Value).toArray) (fun w hS => r_load h rfl (hS.load_agg (p := 5) (us := [iV t_14.Kind, iV t_14.From, iV t_14.To, iV t_14.View, iV t_14.Inst, iV t_14.Len, .bool t_14.Has, iV t_14.Members, iV t_14.Source, iV t_14.At, iV t_14.Total, v_18, iV t_14.Hop, iV t_14.Seq, v_22, v_26, iV t_14.Index, iV t_14.Entry.Sess, iV t_14.Entry.Seq, iV t_14.Entry.Cmd.Kind, iV t_14.Entry.Cmd.Who, v_30, v_32, v_34]) rfl U29 rfl ti29 rfl rfl)) fun a h=>?_
        refine t_take_on 11 (bA 16 3071) rfl rfl rfl rfl (nf (beq_iff_eq.2 hc_336)) rfl rfl h (hS.sub (.cons (le_307.trans le_332) (.zz (.zz (.zz (.zz (.rr (.rr (.rr (.rr .nn)))))))))) (v := .agg ([iV t_282.Kind, iV t_282.From, iV t_282.To, iV t_282.View, iV t_282.Inst, iV t_282.Len, .bool t_282.Has, iV t_282.Members, iV t_282.Source, iV t_282.At, iV t_282.Total, v_287, iV t_282.Hop, iV t_282.Seq, v_289, v_291, iV t_282.Index, iV t_282.Entry.Sess, iV t_282.Entry.Seq, iV t_282.Entry.Cmd.Kind, iV t_282.Entry.Cmd.Who, v_293, v_295, v_297] : List Value).toArray) (fun w hS => r_load h rfl (hS.load_agg (p := 8) (us := [iV t_282.Kind, iV t_282.From, iV t_282.To, iV t_282.View, iV t_282.Inst, iV t_282.Len, .bool t_282.Has, iV t_282.Members, iV t_282.Source, iV t_282.At, iV t_282.Total, v_287, iV t_282.Hop, iV t_282.Seq, v_289, v_291, iV t_282.Index, iV t_282.Entry.Sess, iV t_282.Entry.Seq, iV t_282.Entry.Cmd.Kind, iV t_282.Entry.Cmd.Who, v_293, v_295, v_297]) rfl U29 rfl ti29 rfl rfl)) fun a h=>?_
        refine t_take_on 12 (bA 16 7167) rfl rfl rfl rfl (nf (beq_iff_eq.2 hc_336)) rfl rfl h (hS.sub (.cons (le_307.trans le_332) (.zz (.zz (.zz (.zz (.rr (.rr (.rr (.rr .nn)))))))))) (v := .agg ([iV t_14.Kind, iV t_14.From, iV t_14.To, iV t_14.View, iV t_14.Inst, iV t_14.Len, .bool t_14.Has, iV t_14.Members, iV t_14.Source, iV t_14.At, iV t_14.Total, v_18, iV t_14.Hop, iV t_14.Seq, v_22, v_26, iV t_14.Index, iV t_14.Entry.Sess, iV t_14.Entry.Seq, iV t_14.Entry.Cmd.Kind, iV t_14.Entry.Cmd.Who, v_30, v_32, v_34] : List Value).toArray) (fun w hS => r_load h rfl (hS.load_agg (p := 5) (us := [iV t_14.Kind, iV t_14.From, iV t_14.To, iV t_14.View, iV t_14.Inst, iV t_14.Len, .bool t_14.Has, iV t_14.Members, iV t_14.Source, iV t_14.At, iV t_14.Total, v_18, iV t_14.Hop, iV t_14.Seq, v_22, v_26, iV t_14.Index, iV t_14.Entry.Sess, iV t_14.Entry.Seq, iV t_14.Entry.Cmd.Kind, iV t_14.Entry.Cmd.Who, v_30, v_32, v_34]) rfl U29 rfl ti29 rfl rfl)) fun a h=>?_
        refine h_event 10 (bA 16 8191) rfl (by kernel_rfl) (by kernel_rfl) <| s_on h rfl rfl (nf (beq_iff_eq.2 hc_336)) ?_
        obtain ⟨t_337, et_337, H⟩ := Option.bind_eq_some_iff.1 H
        refine s_call h rfl Try.call17 rfl (mesg_Same.calls K t_282 _ _ _ _ _ _ t_14 _ _ _ _ _ _ t_337 w0 _ _ _ (Mem.le.refl _) (hS.enter [] (by decide)) (hr_288.mono (Mem.un_le (hA.trans (hS.le_zed [])) ((le_275.trans (le_307.trans le_332)).trans (hS.new_zed [])))) (hr_290.mono (Mem.un_le (hA.trans (hS.le_zed [])) ((le_275.trans (le_307.trans le_332)).trans (hS.new_zed [])))) (hr_292.mono (Mem.un_le (hA.trans (hS.le_zed [])) ((le_275.trans (le_307.trans le_332)).trans (hS.new_zed [])))) (hr_294.mono (Mem.un_le (hA.trans (hS.le_zed [])) ((le_275.trans (le_307.trans le_332)).trans (hS.new_zed [])))) (hr_296.mono (Mem.un_le (hA.trans (hS.le_zed [])) ((le_275.trans (le_307.trans le_332)).trans (hS.new_zed [])))) (hr_298.mono (Mem.un_le (hA.trans (hS.le_zed [])) ((le_275.trans (le_307.trans le_332)).trans (hS.new_zed [])))) ((hr_19.rd lo_39 (Mem.no_le _)).mono ((le_40.trans (le_41.trans (le_45.trans (le_61.trans (le_275.trans (le_307.trans le_332)))))).trans (hS.new_zed []))) ((hr_23.rd lo_40 (Mem.no_le _)).mono ((le_41.trans (le_45.trans (le_61.trans (le_275.trans (le_307.trans le_332))))).trans (hS.new_zed []))) ((hr_27.rd lo_41 (Mem.no_le _)).mono ((le_45.trans (le_61.trans (le_275.trans (le_307.trans le_332)))).trans (hS.new_zed []))) ((hr_31.mono ln_17).mono ((le_39.trans (le_40.trans (le_41.trans (le_45.trans (le_61.trans (le_275.trans (le_307.trans le_332))))))).trans (hS.new_zed []))) ((hr_33.mono ln_17).mono ((le_39.trans (le_40.trans (le_41.trans (le_45.trans (le_61.trans (le_275.trans (le_307.trans le_332))))))).trans (hS.new_zed []))) ((hr_35.mono ln_17).mono ((le_39.trans (le_40.trans (le_41.trans (le_45.trans (le_61.trans (le_275.trans (le_307.trans le_332))))))).trans (hS.new_zed []))) et_337) ?_
        rintro _ w_338 ⟨N_339, rfl, hS'⟩
        intro a h
        obtain ⟨N_340, hS'', le_340, ln_340⟩ := hS.call [] (by decide) rfl (l' := []) (ow := []) rfl hS'
        replace hS : Sep w0 w_338 [N_340, _, _, _, _, _, _, _, _, _] Z := hS''
        clear hS' hS''
        refine wpList_nil <| x_then_n ⟨(hS.sub (.cons (le_307.trans (le_332.trans le_340)) (.zz (.zz (.zz (.zz (.rr (.rr (.rr (.rr .nn)))))))))), ?_⟩
        refine h_event 13 (bA 16 16383) rfl (by kernel_rfl) (by kernel_rfl) <| s_on h rfl rfl (nf (beq_iff_eq.2 hc_336)) ?_
        obtain ⟨t_341, et_341, H⟩ := Option.bind_eq_some_iff.1 H
        refine s_call h rfl Try.call15 rfl (hocketref11_Same.calls K t_282 _ _ _ _ _ _ t_14 _ _ _ _ _ _ t_341 w0 _ _ _ (Mem.le.refl _) (hS.enter [] (by decide)) (hr_288.mono (Mem.un_le (hA.trans (hS.le_zed [])) ((le_275.trans (le_307.trans (le_332.trans le_340))).trans (hS.new_zed [])))) (hr_290.mono (Mem.un_le (hA.trans (hS.le_zed [])) ((le_275.trans (le_307.trans (le_332.trans le_340))).trans (hS.new_zed [])))) (hr_292.mono (Mem.un_le (hA.trans (hS.le_zed [])) ((le_275.trans (le_307.trans (le_332.trans le_340))).trans (hS.new_zed [])))) (hr_294.mono (Mem.un_le (hA.trans (hS.le_zed [])) ((le_275.trans (le_307.trans (le_332.trans le_340))).trans (hS.new_zed [])))) (hr_296.mono (Mem.un_le (hA.trans (hS.le_zed [])) ((le_275.trans (le_307.trans (le_332.trans le_340))).trans (hS.new_zed [])))) (hr_298.mono (Mem.un_le (hA.trans (hS.le_zed [])) ((le_275.trans (le_307.trans (le_332.trans le_340))).trans (hS.new_zed [])))) ((hr_19.rd lo_39 (Mem.no_le _)).mono ((le_40.trans (le_41.trans (le_45.trans (le_61.trans (le_275.trans (le_307.trans (le_332.trans le_340))))))).trans (hS.new_zed []))) ((hr_23.rd lo_40 (Mem.no_le _)).mono ((le_41.trans (le_45.trans (le_61.trans (le_275.trans (le_307.trans (le_332.trans le_340)))))).trans (hS.new_zed []))) ((hr_27.rd lo_41 (Mem.no_le _)).mono ((le_45.trans (le_61.trans (le_275.trans (le_307.trans (le_332.trans le_340))))).trans (hS.new_zed []))) ((hr_31.mono ln_17).mono ((le_39.trans (le_40.trans (le_41.trans (le_45.trans (le_61.trans (le_275.trans (le_307.trans (le_332.trans le_340)))))))).trans (hS.new_zed []))) ((hr_33.mono ln_17).mono ((le_39.trans (le_40.trans (le_41.trans (le_45.trans (le_61.trans (le_275.trans (le_307.trans (le_332.trans le_340)))))))).trans (hS.new_zed []))) ((hr_35.mono ln_17).mono ((le_39.trans (le_40.trans (le_41.trans (le_45.trans (le_61.trans (le_275.trans (le_307.trans (le_332.trans le_340)))))))).trans (hS.new_zed []))) et_341) ?_
        rintro _ w_342 ⟨N_343, rfl, hS'⟩
        intro a h
        obtain ⟨N_344, hS'', le_344, ln_344⟩ := hS.call [] (by decide) rfl (l' := []) (ow := []) rfl hS'
        replace hS : Sep w0 w_342 [N_344, _, _, _, _, _, _, _, _, _] Z := hS''
        clear hS' hS''
        refine wpList_nil <| x_then_n ⟨(hS.sub (.cons (le_307.trans (le_332.trans (le_340.trans le_344))) (.zz (.zz (.zz (.zz (.rr (.rr (.rr (.rr .nn)))))))))), ?_⟩
        refine t_take_on 14 (bA 16 32767) rfl rfl rfl rfl (nf (beq_iff_eq.2 hc_336)) rfl rfl h (hS.sub (.cons (le_307.trans (le_332.trans (le_340.trans le_344))) (.zz (.zz (.zz (.zz (.rr (.rr (.rr (.rr .nn)))))))))) (v := .bool (!(t_337 == t_341))) (fun w hS => r_beq (b := !(t_337 == t_341)) h U4 rfl rfl (.inr ⟨rfl, rfl⟩)) fun a h=>t_take 15 (bA 16 65535) rfl rfl rfl rfl h (hS.sub (.cons (le_307.trans (le_332.trans (le_340.trans le_344))) (.zz (.zz (.zz (.zz (.rr (.rr (.rr (.rr .nn)))))))))) (v := .bool (!(t_337 == t_341))) (fun w hS => r_pick_f h rfl (nf (beq_iff_eq.2 hc_336)) rfl) fun a h=>h_done (by kernel_rfl) <| x_then_n (hKJ_302 _ _ ?_)
        by_cases hc_345 : t_337 = t_341
        ·rw [if_pos hc_345] at H
         refine c_cond_f h rfl (nf (beq_iff_eq.2 hc_345)) <| wp_skip <| x_block_n <| x_then_n (hKJ_281 _ _ ?_)
         refine wp_region_lit <| s_arith (r := w64 (x_276 + 1)) h rfl rfl rfl (.inl ⟨rfl, rfl⟩) fun a h=>s_move h rfl rfl fun a h=>wpList_nil <| x_then_n (hKL_277 _ _ ?_)
         replace hS : Sep w0 w_342 [_, _, _, _, _, _, _, _, _, _] Z := hS
         replace h : Fr 151 a [(3, _), (5, _), (12, _), (13, _), (14, _), (15, _), (16, _), (89, _), (90, _), (91, iV (w64 (x_276 + 1)))] := h.keep [3, 5, 12, 13, 14, 15, 16, 89, 90, 91]
         exact ⟨w64 (x_276 + 1), N_344, H, h, (Sep.sel hS [0, 1000, 1001, 1002, 1003, 5, 6, 7] (by decide)), (le_275.trans (le_307.trans (le_332.trans (le_340.trans le_344))))⟩
        ·rw [if_neg hc_345] at H
         cases H
       ·rw [if_neg hc_336] at H
        cases H
      ·refine ⟨_, (bA 16 59), rfl, by kernel_rfl, ?_⟩
       refine s_b2s h rfl U23 U5 U9 rfl hr_335 (Mem.un_le (hA.trans hS.old) ((Mem.le.refl _).trans (hS.own 0))) fun a h=>wpList_nil <| x_then_n ⟨(hS.sub (.cons (le_307.trans le_332) (.zz (.zz (.zz (.zz (.rr (.rr (.rr (.rr .nn)))))))))), ?_⟩
       refine h_event 2 (bA 16 63) rfl (by kernel_rfl) (by kernel_rfl) <| s_b2s h rfl U23 U5 U9 rfl (hr_309.rd (J := hp w_330) (hS.own 9) (Mem.no_le _)) (Mem.le.refl _) fun a h=>wpList_nil <| x_then_n ⟨(hS.sub (.cons (le_307.trans le_332) (.zz (.zz (.zz (.zz (.rr (.rr (.rr (.rr .nn)))))))))), ?_⟩
       refine t_take 6 (bA 16 127) rfl rfl rfl rfl h (hS.sub (.cons (le_307.trans le_332) (.zz (.zz (.zz (.zz (.rr (.rr (.rr (.rr .nn)))))))))) (v := .bool (!(t_304 == t_312))) (fun w hS => r_strEq (b := !(t_304 == t_312)) h rfl rfl (.inr ⟨rfl, rfl⟩)) fun a h=>t_take 7 (bA 16 255) rfl rfl rfl rfl h (hS.sub (.cons (le_307.trans le_332) (.zz (.zz (.zz (.zz (.rr (.rr (.rr (.rr .nn)))))))))) (v := .bool (!(t_304 == t_312))) (fun w hS => r_move h rfl) fun a h=>?_
       by_cases hc_346 : t_304 = t_312
       ·rw [if_pos hc_346] at H
        refine t_take_on 8 (bA 16 511) rfl rfl rfl rfl (nf (beq_iff_eq.2 hc_346)) rfl rfl h (hS.sub (.cons (le_307.trans le_332) (.zz (.zz (.zz (.zz (.rr (.rr (.rr (.rr .nn)))))))))) (v := .agg ([iV t_282.Kind, iV t_282.From, iV t_282.To, iV t_282.View, iV t_282.Inst, iV t_282.Len, .bool t_282.Has, iV t_282.Members, iV t_282.Source, iV t_282.At, iV t_282.Total, v_287, iV t_282.Hop, iV t_282.Seq, v_289, v_291, iV t_282.Index, iV t_282.Entry.Sess, iV t_282.Entry.Seq, iV t_282.Entry.Cmd.Kind, iV t_282.Entry.Cmd.Who, v_293, v_295, v_297] : List Value).toArray) (fun w hS => r_load h rfl (hS.load_agg (p := 8) (us := [iV t_282.Kind, iV t_282.From, iV t_282.To, iV t_282.View, iV t_282.Inst, iV t_282.Len, .bool t_282.Has, iV t_282.Members, iV t_282.Source, iV t_282.At, iV t_282.Total, v_287, iV t_282.Hop, iV t_282.Seq, v_289, v_291, iV t_282.Index, iV t_282.Entry.Sess, iV t_282.Entry.Seq, iV t_282.Entry.Cmd.Kind, iV t_282.Entry.Cmd.Who, v_293, v_295, v_297]) rfl U29 rfl ti29 rfl rfl)) fun a h=>?_
        refine t_take_on 9 (bA 16 1023) rfl rfl rfl rfl (nf (beq_iff_eq.2 hc_346)) rfl rfl h (hS.sub (.cons (le_307.trans le_332) (.zz (.zz (.zz (.zz (.rr (.rr (.rr (.rr .nn)))))))))) (v := .agg ([iV t_14.Kind, iV t_14.From, iV t_14.To, iV t_14.View, iV t_14.Inst, iV t_14.Len, .bool t_14.Has, iV t_14.Members, iV t_14.Source, iV t_14.At, iV t_14.Total, v_18, iV t_14.Hop, iV t_14.Seq, v_22, v_26, iV t_14.Index, iV t_14.Entry.Sess, iV t_14.Entry.Seq, iV t_14.Entry.Cmd.Kind, iV t_14.Entry.Cmd.Who, v_30, v_32, v_34] : List Value).toArray) (fun w hS => r_load h rfl (hS.load_agg (p := 5) (us := [iV t_14.Kind, iV t_14.From, iV t_14.To, iV t_14.View, iV t_14.Inst, iV t_14.Len, .bool t_14.Has, iV t_14.Members, iV t_14.Source, iV t_14.At, iV t_14.Total, v_18, iV t_14.Hop, iV t_14.Seq, v_22, v_26, iV t_14.Index, iV t_14.Entry.Sess, iV t_14.Entry.Seq, iV t_14.Entry.Cmd.Kind, iV t_14.Entry.Cmd.Who, v_30, v_32, v_34]) rfl U29 rfl ti29 rfl rfl)) fun a h=>?_
        refine t_take_on 11 (bA 16 3071) rfl rfl rfl rfl (nf (beq_iff_eq.2 hc_346)) rfl rfl h (hS.sub (.cons (le_307.trans le_332) (.zz (.zz (.zz (.zz (.rr (.rr (.rr (.rr .nn)))))))))) (v := .agg ([iV t_282.Kind, iV t_282.From, iV t_282.To, iV t_282.View, iV t_282.Inst, iV t_282.Len, .bool t_282.Has, iV t_282.Members, iV t_282.Source, iV t_282.At, iV t_282.Total, v_287, iV t_282.Hop, iV t_282.Seq, v_289, v_291, iV t_282.Index, iV t_282.Entry.Sess, iV t_282.Entry.Seq, iV t_282.Entry.Cmd.Kind, iV t_282.Entry.Cmd.Who, v_293, v_295, v_297] : List Value).toArray) (fun w hS => r_load h rfl (hS.load_agg (p := 8) (us := [iV t_282.Kind, iV t_282.From, iV t_282.To, iV t_282.View, iV t_282.Inst, iV t_282.Len, .bool t_282.Has, iV t_282.Members, iV t_282.Source, iV t_282.At, iV t_282.Total, v_287, iV t_282.Hop, iV t_282.Seq, v_289, v_291, iV t_282.Index, iV t_282.Entry.Sess, iV t_282.Entry.Seq, iV t_282.Entry.Cmd.Kind, iV t_282.Entry.Cmd.Who, v_293, v_295, v_297]) rfl U29 rfl ti29 rfl rfl)) fun a h=>?_
        refine t_take_on 12 (bA 16 7167) rfl rfl rfl rfl (nf (beq_iff_eq.2 hc_346)) rfl rfl h (hS.sub (.cons (le_307.trans le_332) (.zz (.zz (.zz (.zz (.rr (.rr (.rr (.rr .nn)))))))))) (v := .agg ([iV t_14.Kind, iV t_14.From, iV t_14.To, iV t_14.View, iV t_14.Inst, iV t_14.Len, .bool t_14.Has, iV t_14.Members, iV t_14.Source, iV t_14.At, iV t_14.Total, v_18, iV t_14.Hop, iV t_14.Seq, v_22, v_26, iV t_14.Index, iV t_14.Entry.Sess, iV t_14.Entry.Seq, iV t_14.Entry.Cmd.Kind, iV t_14.Entry.Cmd.Who, v_30, v_32, v_34] : List Value).toArray) (fun w hS => r_load h rfl (hS.load_agg (p := 5) (us := [iV t_14.Kind, iV t_14.From, iV t_14.To, iV t_14.View, iV t_14.Inst, iV t_14.Len, .bool t_14.Has, iV t_14.Members, iV t_14.Source, iV t_14.At, iV t_14.Total, v_18, iV t_14.Hop, iV t_14.Seq, v_22, v_26, iV t_14.Index, iV t_14.Entry.Sess, iV t_14.Entry.Seq, iV t_14.Entry.Cmd.Kind, iV t_14.Entry.Cmd.Who, v_30, v_32, v_34]) rfl U29 rfl ti29 rfl rfl)) fun a h=>?_
        refine h_event 10 (bA 16 8191) rfl (by kernel_rfl) (by kernel_rfl) <| s_on h rfl rfl (nf (beq_iff_eq.2 hc_346)) ?_
        obtain ⟨t_347, et_347, H⟩ := Option.bind_eq_some_iff.1 H
        refine s_call h rfl Try.call17 rfl (mesg_Same.calls K t_282 _ _ _ _ _ _ t_14 _ _ _ _ _ _ t_347 w0 _ _ _ (Mem.le.refl _) (hS.enter [] (by decide)) (hr_288.mono (Mem.un_le (hA.trans (hS.le_zed [])) ((le_275.trans (le_307.trans le_332)).trans (hS.new_zed [])))) (hr_290.mono (Mem.un_le (hA.trans (hS.le_zed [])) ((le_275.trans (le_307.trans le_332)).trans (hS.new_zed [])))) (hr_292.mono (Mem.un_le (hA.trans (hS.le_zed [])) ((le_275.trans (le_307.trans le_332)).trans (hS.new_zed [])))) (hr_294.mono (Mem.un_le (hA.trans (hS.le_zed [])) ((le_275.trans (le_307.trans le_332)).trans (hS.new_zed [])))) (hr_296.mono (Mem.un_le (hA.trans (hS.le_zed [])) ((le_275.trans (le_307.trans le_332)).trans (hS.new_zed [])))) (hr_298.mono (Mem.un_le (hA.trans (hS.le_zed [])) ((le_275.trans (le_307.trans le_332)).trans (hS.new_zed [])))) ((hr_19.rd lo_39 (Mem.no_le _)).mono ((le_40.trans (le_41.trans (le_45.trans (le_61.trans (le_275.trans (le_307.trans le_332)))))).trans (hS.new_zed []))) ((hr_23.rd lo_40 (Mem.no_le _)).mono ((le_41.trans (le_45.trans (le_61.trans (le_275.trans (le_307.trans le_332))))).trans (hS.new_zed []))) ((hr_27.rd lo_41 (Mem.no_le _)).mono ((le_45.trans (le_61.trans (le_275.trans (le_307.trans le_332)))).trans (hS.new_zed []))) ((hr_31.mono ln_17).mono ((le_39.trans (le_40.trans (le_41.trans (le_45.trans (le_61.trans (le_275.trans (le_307.trans le_332))))))).trans (hS.new_zed []))) ((hr_33.mono ln_17).mono ((le_39.trans (le_40.trans (le_41.trans (le_45.trans (le_61.trans (le_275.trans (le_307.trans le_332))))))).trans (hS.new_zed []))) ((hr_35.mono ln_17).mono ((le_39.trans (le_40.trans (le_41.trans (le_45.trans (le_61.trans (le_275.trans (le_307.trans le_332))))))).trans (hS.new_zed []))) et_347) ?_
        rintro _ w_348 ⟨N_349, rfl, hS'⟩
        intro a h
        obtain ⟨N_350, hS'', le_350, ln_350⟩ := hS.call [] (by decide) rfl (l' := []) (ow := []) rfl hS'
        replace hS : Sep w0 w_348 [N_350, _, _, _, _, _, _, _, _, _] Z := hS''
        clear hS' hS''
        refine wpList_nil <| x_then_n ⟨(hS.sub (.cons (le_307.trans (le_332.trans le_350)) (.zz (.zz (.zz (.zz (.rr (.rr (.rr (.rr .nn)))))))))), ?_⟩
        refine h_event 13 (bA 16 16383) rfl (by kernel_rfl) (by kernel_rfl) <| s_on h rfl rfl (nf (beq_iff_eq.2 hc_346)) ?_
        obtain ⟨t_351, et_351, H⟩ := Option.bind_eq_some_iff.1 H
        refine s_call h rfl Try.call15 rfl (hocketref11_Same.calls K t_282 _ _ _ _ _ _ t_14 _ _ _ _ _ _ t_351 w0 _ _ _ (Mem.le.refl _) (hS.enter [] (by decide)) (hr_288.mono (Mem.un_le (hA.trans (hS.le_zed [])) ((le_275.trans (le_307.trans (le_332.trans le_350))).trans (hS.new_zed [])))) (hr_290.mono (Mem.un_le (hA.trans (hS.le_zed [])) ((le_275.trans (le_307.trans (le_332.trans le_350))).trans (hS.new_zed [])))) (hr_292.mono (Mem.un_le (hA.trans (hS.le_zed [])) ((le_275.trans (le_307.trans (le_332.trans le_350))).trans (hS.new_zed [])))) (hr_294.mono (Mem.un_le (hA.trans (hS.le_zed [])) ((le_275.trans (le_307.trans (le_332.trans le_350))).trans (hS.new_zed [])))) (hr_296.mono (Mem.un_le (hA.trans (hS.le_zed [])) ((le_275.trans (le_307.trans (le_332.trans le_350))).trans (hS.new_zed [])))) (hr_298.mono (Mem.un_le (hA.trans (hS.le_zed [])) ((le_275.trans (le_307.trans (le_332.trans le_350))).trans (hS.new_zed [])))) ((hr_19.rd lo_39 (Mem.no_le _)).mono ((le_40.trans (le_41.trans (le_45.trans (le_61.trans (le_275.trans (le_307.trans (le_332.trans le_350))))))).trans (hS.new_zed []))) ((hr_23.rd lo_40 (Mem.no_le _)).mono ((le_41.trans (le_45.trans (le_61.trans (le_275.trans (le_307.trans (le_332.trans le_350)))))).trans (hS.new_zed []))) ((hr_27.rd lo_41 (Mem.no_le _)).mono ((le_45.trans (le_61.trans (le_275.trans (le_307.trans (le_332.trans le_350))))).trans (hS.new_zed []))) ((hr_31.mono ln_17).mono ((le_39.trans (le_40.trans (le_41.trans (le_45.trans (le_61.trans (le_275.trans (le_307.trans (le_332.trans le_350)))))))).trans (hS.new_zed []))) ((hr_33.mono ln_17).mono ((le_39.trans (le_40.trans (le_41.trans (le_45.trans (le_61.trans (le_275.trans (le_307.trans (le_332.trans le_350)))))))).trans (hS.new_zed []))) ((hr_35.mono ln_17).mono ((le_39.trans (le_40.trans (le_41.trans (le_45.trans (le_61.trans (le_275.trans (le_307.trans (le_332.trans le_350)))))))).trans (hS.new_zed []))) et_351) ?_
        rintro _ w_352 ⟨N_353, rfl, hS'⟩
        intro a h
        obtain ⟨N_354, hS'', le_354, ln_354⟩ := hS.call [] (by decide) rfl (l' := []) (ow := []) rfl hS'
        replace hS : Sep w0 w_352 [N_354, _, _, _, _, _, _, _, _, _] Z := hS''
        clear hS' hS''
        refine wpList_nil <| x_then_n ⟨(hS.sub (.cons (le_307.trans (le_332.trans (le_350.trans le_354))) (.zz (.zz (.zz (.zz (.rr (.rr (.rr (.rr .nn)))))))))), ?_⟩
        refine t_take_on 14 (bA 16 32767) rfl rfl rfl rfl (nf (beq_iff_eq.2 hc_346)) rfl rfl h (hS.sub (.cons (le_307.trans (le_332.trans (le_350.trans le_354))) (.zz (.zz (.zz (.zz (.rr (.rr (.rr (.rr .nn)))))))))) (v := .bool (!(t_347 == t_351))) (fun w hS => r_beq (b := !(t_347 == t_351)) h U4 rfl rfl (.inr ⟨rfl, rfl⟩)) fun a h=>t_take 15 (bA 16 65535) rfl rfl rfl rfl h (hS.sub (.cons (le_307.trans (le_332.trans (le_350.trans le_354))) (.zz (.zz (.zz (.zz (.rr (.rr (.rr (.rr .nn)))))))))) (v := .bool (!(t_347 == t_351))) (fun w hS => r_pick_f h rfl (nf (beq_iff_eq.2 hc_346)) rfl) fun a h=>h_done (by kernel_rfl) <| x_then_n (hKJ_302 _ _ ?_)
        by_cases hc_355 : t_347 = t_351
        ·rw [if_pos hc_355] at H
         refine c_cond_f h rfl (nf (beq_iff_eq.2 hc_355)) <| wp_skip <| x_block_n <| x_then_n (hKJ_281 _ _ ?_)
         refine wp_region_lit <| s_arith (r := w64 (x_276 + 1)) h rfl rfl rfl (.inl ⟨rfl, rfl⟩) fun a h=>s_move h rfl rfl fun a h=>wpList_nil <| x_then_n (hKL_277 _ _ ?_)
         replace hS : Sep w0 w_352 [_, _, _, _, _, _, _, _, _, _] Z := hS
         replace h : Fr 151 a [(3, _), (5, _), (12, _), (13, _), (14, _), (15, _), (16, _), (89, _), (90, _), (91, iV (w64 (x_276 + 1)))] := h.keep [3, 5, 12, 13, 14, 15, 16, 89, 90, 91]
         exact ⟨w64 (x_276 + 1), N_354, H, h, (Sep.sel hS [0, 1000, 1001, 1002, 1003, 5, 6, 7] (by decide)), (le_275.trans (le_307.trans (le_332.trans (le_350.trans le_354))))⟩
        ·rw [if_neg hc_355] at H
         cases H
       ·rw [if_neg hc_346] at H
        cases H
    ·rw [if_neg hc_280] at H
     refine c_cond_f h rfl (decide_eq_false hc_280) <| wp_exit (x_then_x (x_then_x (x_block_t ?_)))
     replace hS : Sep w0 w_277 [_, _, _, _, _, _, _, _] Z := hS
     replace h : Fr 151 a [(3, _), (5, _), (12, _), (14, _), (15, _), (16, _)] := h.keep [3, 5, 12, 14, 15, 16]
     exact x_then_n (hJ_j_79  H _ _ ⟨N_275, h, (Sep.sel hS [0, 1000, 1001, 1002, 1003, 1004, 6, 1006] (by decide)), le_275⟩)
   clear hKJ_60
   by_cases hc_356 : (t_54.length : Int) > 0
   ·rw [if_pos hc_356] at H
    refine c_cond_t h rfl (decide_eq_true hc_356) <| wp_seq <| wp_region_lit <| s_move h rfl rfl fun a h=>s_bits (i := x4) (j := 65535) (r := band .i64 x4 65535) h rfl rfl rfl (.inl ⟨rfl, rfl⟩) fun a h=>s_move h rfl rfl fun a h=>s_lenO h rfl U23 rfl ho_58 fun a h=>?_
    obtain ⟨t_357, et_357, H⟩ := Option.bind_eq_some_iff.1 H
    refine s_div (r := t_357) h rfl rfl rfl (rem_some et_357).1 (.inr ⟨rfl, (rem_some et_357).2⟩) fun a h=>s_assign h rfl rfl fun a h=>wpList_nil <| x_then_n <| wp_region_lit <| s_move h rfl rfl fun a h=>s_move h rfl rfl fun a h=>s_move h rfl rfl fun a h=>?_
    obtain ⟨t_358, et_358, H⟩ := Option.bind_eq_some_iff.1 H
    refine s_indexOwn h rfl U23 ti5 rfl rfl rfl ho_58 et_358 fun g_359 cur_360 hM_361 a h => ?_
    obtain ⟨w_362, M_363, hs', hS', ho_364⟩ := Own.stored (P := Try.prog) (p := 6) (t := 5) (o := 0) (nv := .int .u8 (x5.toNat : Int)) (vs := [.int .u8 (x5.toNat : Int)]) (u' := x5) hS rfl ho_58 hM_361 et_358 ti5 rfl rfl rfl (by intro u hu; simp only [List.mem_cons, List.not_mem_nil, or_false] at hu; rcases hu with rfl <;> rfl) (fun cs hk => by obtain rfl := (show cs = [_] from hk); rfl)
    refine s_store h rfl rfl hs' ?_
    replace hS : Sep w0 w_362 [_, _, _, _, _, _, M_363] Z := hS'
    clear hs' hS'
    refine wpList_nil ?_
    replace h : Fr 151 a [(3, _), (5, _), (6, _), (12, _), (13, _), (14, _), (15, _), (16, iV t_357)] := h.keep [3, 5, 6, 12, 13, 14, 15, 16]
    replace hS : Sep w0 w_362 [_, _, _, _, _, _, _] Z := hS
    replace h : Fr 151 a [(3, _), (5, _), (6, _), (12, _), (13, _), (14, _), (15, _), (16, _)] := h.keep [3, 5, 6, 12, 13, 14, 15, 16]
    exact x_then_n (hJ_j_69 (t_54.set (t_357).toNat x5) t_357 H _ _ ⟨v_56, N_45, M_363, h, (Sep.sel hS [0, 1, 1001, 1002, 1003, 5, 6] (by decide)), (Mem.le.refl _), ho_364⟩)
   ·rw [if_neg hc_356] at H
    refine c_cond_f h rfl (decide_eq_false hc_356) <| wp_skip ?_
    replace hS : Sep w0 w_55 [_, _, _, _, _, _, _] Z := hS
    replace h : Fr 151 a [(3, _), (5, _), (6, _), (12, _), (13, _), (14, _), (15, _), (16, iV 0)] := h.keep [3, 5, 6, 12, 13, 14, 15, 16]
    exact x_then_n (hJ_j_69 t_54 0 H _ _ ⟨v_56, N_45, M_57, h, (Sep.sel hS [0, 1, 1001, 1002, 1003, 5, 6] (by decide)), (Mem.le.refl _), ho_58⟩)
 clear hKJ_4
 refine wp_region_lit <| s_move h rfl rfl fun a h=>s_len h rfl U23 rfl hp3_6 fun a h=>s_cmp (b := decide ((x3.length : Int) > 200)) h rfl rfl rfl (.inr (.inr (.inr (.inr (.inl ⟨rfl, rfl⟩))))) fun a h=>s_move h rfl rfl fun a h=>?_
 by_cases hc_365 : (x3.length : Int) > 200
 ·rw [if_pos hc_365] at H
  refine s_off h rfl rfl rfl (decide_eq_true hc_365) fun a h=>s_off h rfl rfl rfl (decide_eq_true hc_365) fun a h=>s_off h rfl rfl rfl (decide_eq_true hc_365) fun a h=>s_off h rfl rfl rfl (decide_eq_true hc_365) fun a h=>s_pick_t h rfl rfl (decide_eq_true hc_365) rfl fun a h=>s_move h rfl rfl fun a h=>s_off h rfl rfl rfl rfl fun a h=>s_off h rfl rfl rfl rfl fun a h=>s_off h rfl rfl rfl rfl fun a h=>s_off h rfl rfl rfl rfl fun a h=>s_pick_t h rfl rfl rfl rfl fun a h=>s_move h rfl rfl fun a h=>?_
  refine s_off h rfl rfl rfl rfl fun a h=>s_off h rfl rfl rfl rfl fun a h=>s_off h rfl rfl rfl rfl fun a h=>s_off h rfl rfl rfl rfl fun a h=>s_pick_t h rfl rfl rfl rfl fun a h=>s_move h rfl rfl fun a h=>s_off h rfl rfl rfl rfl fun a h=>s_off h rfl rfl rfl rfl fun a h=>s_off h rfl rfl rfl rfl fun a h=>s_off h rfl rfl rfl rfl fun a h=>s_off h rfl rfl rfl rfl fun a h=>s_off h rfl rfl rfl rfl fun a h=>?_
  refine s_off h rfl rfl rfl rfl fun a h=>s_off h rfl rfl rfl rfl fun a h=>s_off h rfl rfl rfl rfl fun a h=>s_off h rfl rfl rfl rfl fun a h=>s_off h rfl rfl rfl rfl fun a h=>s_off h rfl rfl rfl rfl fun a h=>s_off h rfl rfl rfl rfl fun a h=>s_off h rfl rfl rfl rfl fun a h=>s_off h rfl rfl rfl rfl fun a h=>s_off h rfl rfl rfl rfl fun a h=>s_off h rfl rfl rfl rfl fun a h=>s_off h rfl rfl rfl rfl fun a h=>?_
  refine s_pick_t h rfl rfl rfl rfl fun a h=>wpList_nil ?_
  replace hS : Sep w0 w_1 [_, _] Z := hS
  replace h : Fr 151 a [(1, _), (2, _), (3, _), (4, _), (5, _), (6, .pointer (some ⟨g_2, 0, none⟩)), (12, .bool false), (65, .bool true)] := h.keep [1, 2, 3, 4, 5, 6, 12, 65]
  exact x_then_n (hJ_j_8 true H _ _ ⟨Mem.no, h, (Sep.sel hS [0, 1] (by decide)), (Mem.le.refl _)⟩)
 ·rw [if_neg hc_365] at H
  refine s_on h rfl rfl (decide_eq_false hc_365) <| s_fieldAddr h rfl U29 rfl ti23 rfl rfl fun a h=>s_on h rfl rfl (decide_eq_false hc_365) <| s_load h rfl rfl (hS.load_one (p := 1) rfl U23 rfl rfl) fun a h=>s_on h rfl rfl (decide_eq_false hc_365) <| s_len h rfl U23 rfl hp0_0 fun a h=>s_on h rfl rfl (decide_eq_false hc_365) <| s_cmp (b := decide ((x0.Data.length : Int) > 100)) h rfl rfl rfl (.inr (.inr (.inr (.inr (.inl ⟨rfl, rfl⟩))))) fun a h=>s_pick_f h rfl rfl (decide_eq_false hc_365) rfl fun a h=>s_move h rfl rfl fun a h=>?_
  by_cases hc_366 : (x0.Data.length : Int) > 100
  ·rw [if_pos hc_366] at H
   refine s_off h rfl rfl rfl (decide_eq_true hc_366) fun a h=>s_off h rfl rfl rfl (decide_eq_true hc_366) fun a h=>s_off h rfl rfl rfl (decide_eq_true hc_366) fun a h=>s_off h rfl rfl rfl (decide_eq_true hc_366) fun a h=>s_pick_t h rfl rfl (decide_eq_true hc_366) rfl fun a h=>s_move h rfl rfl fun a h=>s_off h rfl rfl rfl rfl fun a h=>s_off h rfl rfl rfl rfl fun a h=>s_off h rfl rfl rfl rfl fun a h=>s_off h rfl rfl rfl rfl fun a h=>s_pick_t h rfl rfl rfl rfl fun a h=>s_move h rfl rfl fun a h=>?_
   refine s_off h rfl rfl rfl rfl fun a h=>s_off h rfl rfl rfl rfl fun a h=>s_off h rfl rfl rfl rfl fun a h=>s_off h rfl rfl rfl rfl fun a h=>s_off h rfl rfl rfl rfl fun a h=>s_off h rfl rfl rfl rfl fun a h=>s_off h rfl rfl rfl rfl fun a h=>s_off h rfl rfl rfl rfl fun a h=>s_off h rfl rfl rfl rfl fun a h=>s_off h rfl rfl rfl rfl fun a h=>s_off h rfl rfl rfl rfl fun a h=>s_off h rfl rfl rfl rfl fun a h=>?_
   refine s_off h rfl rfl rfl rfl fun a h=>s_off h rfl rfl rfl rfl fun a h=>s_off h rfl rfl rfl rfl fun a h=>s_off h rfl rfl rfl rfl fun a h=>s_off h rfl rfl rfl rfl fun a h=>s_off h rfl rfl rfl rfl fun a h=>s_pick_t h rfl rfl rfl rfl fun a h=>wpList_nil ?_
   replace hS : Sep w0 w_1 [_, _] Z := hS
   replace h : Fr 151 a [(1, _), (2, _), (3, _), (4, _), (5, _), (6, .pointer (some ⟨g_2, 0, none⟩)), (12, .bool false), (65, .bool true)] := h.keep [1, 2, 3, 4, 5, 6, 12, 65]
   exact x_then_n (hJ_j_8 true H _ _ ⟨Mem.no, h, (Sep.sel hS [0, 1] (by decide)), (Mem.le.refl _)⟩)
  ·rw [if_neg hc_366] at H
   refine s_on h rfl rfl (decide_eq_false hc_366) <| s_fieldAddr h rfl U29 rfl ti22 rfl rfl fun a h=>s_on h rfl rfl (decide_eq_false hc_366) <| s_load h rfl rfl (hS.load_one (p := 1) rfl U22 rfl rfl) fun a h=>s_on h rfl rfl (decide_eq_false hc_366) <| s_len h rfl U22 rfl hp0_1 fun a h=>s_on h rfl rfl (decide_eq_false hc_366) <| s_cmp (b := decide ((x0.Have.length : Int) > 20)) h rfl rfl rfl (.inr (.inr (.inr (.inr (.inl ⟨rfl, rfl⟩))))) fun a h=>s_pick_f h rfl rfl (decide_eq_false hc_366) rfl fun a h=>s_move h rfl rfl fun a h=>?_
   by_cases hc_367 : (x0.Have.length : Int) > 20
   ·rw [if_pos hc_367] at H
    refine s_off h rfl rfl rfl (decide_eq_true hc_367) fun a h=>s_off h rfl rfl rfl (decide_eq_true hc_367) fun a h=>s_off h rfl rfl rfl (decide_eq_true hc_367) fun a h=>s_off h rfl rfl rfl (decide_eq_true hc_367) fun a h=>s_pick_t h rfl rfl (decide_eq_true hc_367) rfl fun a h=>s_move h rfl rfl fun a h=>s_off h rfl rfl rfl rfl fun a h=>s_off h rfl rfl rfl rfl fun a h=>s_off h rfl rfl rfl rfl fun a h=>s_off h rfl rfl rfl rfl fun a h=>s_off h rfl rfl rfl rfl fun a h=>s_off h rfl rfl rfl rfl fun a h=>?_
    refine s_off h rfl rfl rfl rfl fun a h=>s_off h rfl rfl rfl rfl fun a h=>s_off h rfl rfl rfl rfl fun a h=>s_off h rfl rfl rfl rfl fun a h=>s_off h rfl rfl rfl rfl fun a h=>s_off h rfl rfl rfl rfl fun a h=>s_off h rfl rfl rfl rfl fun a h=>s_off h rfl rfl rfl rfl fun a h=>s_off h rfl rfl rfl rfl fun a h=>s_off h rfl rfl rfl rfl fun a h=>s_off h rfl rfl rfl rfl fun a h=>s_off h rfl rfl rfl rfl fun a h=>?_
    refine s_pick_t h rfl rfl rfl rfl fun a h=>wpList_nil ?_
    replace hS : Sep w0 w_1 [_, _] Z := hS
    replace h : Fr 151 a [(1, _), (2, _), (3, _), (4, _), (5, _), (6, .pointer (some ⟨g_2, 0, none⟩)), (12, .bool false), (65, .bool true)] := h.keep [1, 2, 3, 4, 5, 6, 12, 65]
    exact x_then_n (hJ_j_8 true H _ _ ⟨Mem.no, h, (Sep.sel hS [0, 1] (by decide)), (Mem.le.refl _)⟩)
   ·rw [if_neg hc_367] at H
    refine s_on h rfl rfl (decide_eq_false hc_367) <| s_fieldAddr h rfl U29 rfl ti22 rfl rfl fun a h=>s_on h rfl rfl (decide_eq_false hc_367) <| s_load h rfl rfl (hS.load_one (p := 1) rfl U22 rfl rfl) fun a h=>s_on h rfl rfl (decide_eq_false hc_367) <| s_len h rfl U22 rfl hp0_2 fun a h=>s_on h rfl rfl (decide_eq_false hc_367) <| s_cmp (b := decide ((x0.Need.length : Int) > 20)) h rfl rfl rfl (.inr (.inr (.inr (.inr (.inl ⟨rfl, rfl⟩))))) fun a h=>s_pick_f h rfl rfl (decide_eq_false hc_367) rfl fun a h=>s_move h rfl rfl fun a h=>?_
    by_cases hc_368 : (x0.Need.length : Int) > 20
    ·rw [if_pos hc_368] at H
     refine s_off h rfl rfl rfl (decide_eq_true hc_368) fun a h=>s_off h rfl rfl rfl (decide_eq_true hc_368) fun a h=>s_off h rfl rfl rfl (decide_eq_true hc_368) fun a h=>s_off h rfl rfl rfl (decide_eq_true hc_368) fun a h=>s_off h rfl rfl rfl (decide_eq_true hc_368) fun a h=>s_off h rfl rfl rfl (decide_eq_true hc_368) fun a h=>s_off h rfl rfl rfl (decide_eq_true hc_368) fun a h=>s_off h rfl rfl rfl (decide_eq_true hc_368) fun a h=>s_off h rfl rfl rfl (decide_eq_true hc_368) fun a h=>s_off h rfl rfl rfl (decide_eq_true hc_368) fun a h=>s_off h rfl rfl rfl (decide_eq_true hc_368) fun a h=>s_off h rfl rfl rfl (decide_eq_true hc_368) fun a h=>?_
     refine s_off h rfl rfl rfl (decide_eq_true hc_368) fun a h=>s_off h rfl rfl rfl (decide_eq_true hc_368) fun a h=>s_off h rfl rfl rfl (decide_eq_true hc_368) fun a h=>s_off h rfl rfl rfl (decide_eq_true hc_368) fun a h=>s_off h rfl rfl rfl (decide_eq_true hc_368) fun a h=>s_off h rfl rfl rfl (decide_eq_true hc_368) fun a h=>s_pick_t h rfl rfl (decide_eq_true hc_368) rfl fun a h=>wpList_nil ?_
     replace hS : Sep w0 w_1 [_, _] Z := hS
     replace h : Fr 151 a [(1, _), (2, _), (3, _), (4, _), (5, _), (6, .pointer (some ⟨g_2, 0, none⟩)), (12, .bool false), (65, .bool true)] := h.keep [1, 2, 3, 4, 5, 6, 12, 65]
     exact x_then_n (hJ_j_8 true H _ _ ⟨Mem.no, h, (Sep.sel hS [0, 1] (by decide)), (Mem.le.refl _)⟩)
    ·rw [if_neg hc_368] at H
     refine s_on h rfl rfl (decide_eq_false hc_368) <| s_fieldAddr h rfl U29 rfl ti27 rfl rfl fun a h=>s_on h rfl rfl (decide_eq_false hc_368) <| s_fieldAddr h rfl U27 rfl ti25 rfl rfl fun a h=>s_on h rfl rfl (decide_eq_false hc_368) <| s_fieldAddr h rfl U25 rfl ti23 rfl rfl fun a h=>s_on h rfl rfl (decide_eq_false hc_368) <| s_load h rfl rfl (hS.load_one (p := 1) rfl U23 rfl rfl) fun a h=>s_on h rfl rfl (decide_eq_false hc_368) <| s_len h rfl U23 rfl hp0_3 fun a h=>s_on h rfl rfl (decide_eq_false hc_368) <| s_fieldAddr h rfl U29 rfl ti27 rfl rfl fun a h=>?_
     refine s_on h rfl rfl (decide_eq_false hc_368) <| s_fieldAddr h rfl U27 rfl ti25 rfl rfl fun a h=>s_on h rfl rfl (decide_eq_false hc_368) <| s_fieldAddr h rfl U25 rfl ti23 rfl rfl fun a h=>s_on h rfl rfl (decide_eq_false hc_368) <| s_load h rfl rfl (hS.load_one (p := 1) rfl U23 rfl rfl) fun a h=>s_on h rfl rfl (decide_eq_false hc_368) <| s_len h rfl U23 rfl hp0_4 fun a h=>s_on h rfl rfl (decide_eq_false hc_368) <| s_arith (r := w64 ((x0.Entry.Cmd.Key.length : Int) + (x0.Entry.Cmd.Val.length : Int))) h rfl rfl rfl (.inl ⟨rfl, rfl⟩) fun a h=>s_on h rfl rfl (decide_eq_false hc_368) <| s_fieldAddr h rfl U29 rfl ti27 rfl rfl fun a h=>?_
     refine s_on h rfl rfl (decide_eq_false hc_368) <| s_fieldAddr h rfl U27 rfl ti25 rfl rfl fun a h=>s_on h rfl rfl (decide_eq_false hc_368) <| s_fieldAddr h rfl U25 rfl ti23 rfl rfl fun a h=>s_on h rfl rfl (decide_eq_false hc_368) <| s_load h rfl rfl (hS.load_one (p := 1) rfl U23 rfl rfl) fun a h=>s_on h rfl rfl (decide_eq_false hc_368) <| s_len h rfl U23 rfl hp0_5 fun a h=>s_on h rfl rfl (decide_eq_false hc_368) <| s_arith (r := w64 ((w64 ((x0.Entry.Cmd.Key.length : Int) + (x0.Entry.Cmd.Val.length : Int))) + (x0.Entry.Cmd.Old.length : Int))) h rfl rfl rfl (.inl ⟨rfl, rfl⟩) fun a h=>s_on h rfl rfl (decide_eq_false hc_368) <| s_cmp (b := decide ((w64 ((w64 ((x0.Entry.Cmd.Key.length : Int) + (x0.Entry.Cmd.Val.length : Int))) + (x0.Entry.Cmd.Old.length : Int))) > 150)) h rfl rfl rfl (.inr (.inr (.inr (.inr (.inl ⟨rfl, rfl⟩))))) fun a h=>?_
     refine s_pick_f h rfl rfl (decide_eq_false hc_368) rfl fun a h=>wpList_nil ?_
     replace hS : Sep w0 w_1 [_, _] Z := hS
     replace h : Fr 151 a [(1, _), (2, _), (3, _), (4, _), (5, _), (6, .pointer (some ⟨g_2, 0, none⟩)), (12, .bool false), (65, .bool (decide ((w64 ((w64 ((x0.Entry.Cmd.Key.length : Int) + (x0.Entry.Cmd.Val.length : Int))) + (x0.Entry.Cmd.Old.length : Int))) > 150)))] := h.keep [1, 2, 3, 4, 5, 6, 12, 65]
     exact x_then_n (hJ_j_8 (decide ((w64 ((w64 ((x0.Entry.Cmd.Key.length : Int) + (x0.Entry.Cmd.Val.length : Int))) + (x0.Entry.Cmd.Old.length : Int))) > 150)) H _ _ ⟨Mem.no, h, (Sep.sel hS [0, 1] (by decide)), (Mem.le.refl _)⟩)


end Go.Proofs
