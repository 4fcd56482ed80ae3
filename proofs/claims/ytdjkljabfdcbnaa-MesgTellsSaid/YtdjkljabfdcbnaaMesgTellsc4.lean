/- What the calls do: each function once. -/
import Derived.Test.YtdjkljabfdcbnaaMesgTellsc3
namespace Go.Proofs
open Go.Gp
set_option linter.unusedVariables false
set_option maxHeartbeats 4000000 in
set_option maxRecDepth 20000 in
theorem hocketref11_Decode.calls (K : Nat) (x0 : List UInt8) (p0_0 : Value) (r : api_Msg × Bool) (w0 w : World) (Z A : Mem) (hA : A.le Z) (hS : Sep w0 w [] Z) (hp0_0 : Rd Kd.u8 A p0_0 x0)
    (H : hocketref11_Decode.f K x0 = some r) :
    Calls Try.prog 18 [p0_0].toArray w (Ret fun v w' => ∃ (u0 : Value) (u1 : Value) (u2 : Value) (u3 : Value) (u4 : Value) (u5 : Value) (N : Mem) (M0 : Mem) (M1 : Mem) (M2 : Mem) (M3 : Mem) (M4 : Mem) (M5 : Mem), v = .tuple [.agg [iV r.1.Kind, iV r.1.From, iV r.1.To, iV r.1.View, iV r.1.Inst, iV r.1.Len, .bool r.1.Has, iV r.1.Members, iV r.1.Source, iV r.1.At, iV r.1.Total, u0, iV r.1.Hop, iV r.1.Seq, u1, u2, iV r.1.Index, iV r.1.Entry.Sess, iV r.1.Entry.Seq, iV r.1.Entry.Cmd.Kind, iV r.1.Entry.Cmd.Who, u3, u4, u5].toArray, .bool r.2].toArray ∧ Sep w0 w' [N, M0, M1, M2, M3, M4, M5] Z ∧ Own Kd.u8 5 M0 Mem.no u0 r.1.Data ∧ Own (Kd.int .i64) 3 M1 Mem.no u1 r.1.Have ∧ Own (Kd.int .i64) 3 M2 Mem.no u2 r.1.Need ∧ Own Kd.u8 5 M3 Mem.no u3 r.1.Entry.Cmd.Key ∧ Own Kd.u8 5 M4 Mem.no u4 r.1.Entry.Cmd.Val ∧ Own Kd.u8 5 M5 Mem.no u5 r.1.Entry.Cmd.Old) := by
 unfold hocketref11_Decode.f at H
 refine f_enter _ Try.func18 rfl Try.ntmps18 rfl fun a h=>?_
 replace h : Fr 91 a [(0, p0_0)] := h
 replace hS := hS.start
 replace hS : Sep w0 w [_] Z := hS
 refine wp_seq <| wp_region_lit <| v_alloc h rfl ti29 hS fun w_1 g_2 hS' a h => ?_
 replace hS : Sep w0 w_1 [_, Mem.one g_2 (.cells ([iV 0, iV 0, iV 0, iV 0, iV 0, iV 0, .bool false, iV 0, iV 0, iV 0, iV 0, nS, iV 0, iV 0, nS, nS, iV 0, iV 0, iV 0, iV 0, iV 0, nS, nS, nS] : List Value).toArray 29 (0, 0))] Z := hS'
 clear hS'
 refine s_assign h rfl rfl fun a h=>wpList_nil <| x_then_n <| wp_seq <| wp_region_lit <| s_move h rfl rfl fun a h=>s_build h rfl ti56 pl56 rfl (.cons hp0_0.cells .nil) (cs := [p0_0, .bool false]) (by kernel_rfl) fun a h=>v_box (vs := [p0_0, .bool false]) h rfl rfl rfl hS fun w_3 g_4 hS' a h => ?_
 replace hS : Sep w0 w_3 [_, _, Mem.one g_4 (.cells ([p0_0, .bool false] : List Value).toArray 56 (0, 0))] Z := hS'
 clear hS'
 refine s_assign h rfl rfl fun a h=>wpList_nil <| x_then_n <| wp_seq <| wp_region_lit <| s_move h rfl rfl fun a h=>?_
 obtain ⟨t_5, et_5, H⟩ := Option.bind_eq_some_iff.1 H
 refine s_call h rfl Try.call35 rfl (hocketref1_Reader_Num.calls K _ x0 _ false 8 t_5 w0 _ _ A (hA.trans (hS.le_zed [1])) (hS.enter [1] (by decide)) hp0_0 et_5) ?_
 rintro _ w_6 ⟨v_9, N_7, rfl, hS', hr_10⟩
 intro a h
 obtain ⟨N_8, hS'', le_8, ln_8⟩ := hS.call [1] (by decide) rfl (l' := [Mem.one g_4 (.cells ([v_9, .bool t_5.2.2] : List Value).toArray 56 (0, 0))]) (ow := []) rfl hS'
 replace hS : Sep w0 w_6 [N_8, _, Mem.one g_4 (.cells ([v_9, .bool t_5.2.2] : List Value).toArray 56 (0, 0))] Z := hS''
 clear hS' hS''
 have hr_11 : Rd Kd.u8 (A.un N_8) v_9 t_5.2.1 := hr_10.mono (Mem.un_left ln_8)
 refine s_move h rfl rfl fun a h=>?_
 obtain ⟨t_12, et_12, H⟩ := Option.bind_eq_some_iff.1 H
 refine s_call h rfl Try.call35 rfl (hocketref1_Reader_Num.calls K _ t_5.2.1 _ t_5.2.2 6 t_12 w0 _ _ (A.un N_8) (Mem.un_le (hA.trans (hS.le_zed [1])) (hS.new_zed [1])) (hS.enter [1] (by decide)) hr_11 et_12) ?_
 rintro _ w_13 ⟨v_16, N_14, rfl, hS', hr_17⟩
 intro a h
 obtain ⟨N_15, hS'', le_15, ln_15⟩ := hS.call [1] (by decide) rfl (l' := [Mem.one g_4 (.cells ([v_16, .bool t_12.2.2] : List Value).toArray 56 (0, 0))]) (ow := []) rfl hS'
 replace hS : Sep w0 w_13 [N_15, _, Mem.one g_4 (.cells ([v_16, .bool t_12.2.2] : List Value).toArray 56 (0, 0))] Z := hS''
 clear hS' hS''
 have hr_18 : Rd Kd.u8 (A.un N_15) v_16 t_12.2.1 := hr_17.mono (Mem.un_le (Mem.un_left le_15) (ln_15.trans (hS.sndA hA)))
 refine s_move h rfl rfl fun a h=>?_
 obtain ⟨t_19, et_19, H⟩ := Option.bind_eq_some_iff.1 H
 refine s_call h rfl Try.call35 rfl (hocketref1_Reader_Num.calls K _ t_12.2.1 _ t_12.2.2 6 t_19 w0 _ _ (A.un N_15) (Mem.un_le (hA.trans (hS.le_zed [1])) (hS.new_zed [1])) (hS.enter [1] (by decide)) hr_18 et_19) ?_
 rintro _ w_20 ⟨v_23, N_21, rfl, hS', hr_24⟩
 intro a h
 obtain ⟨N_22, hS'', le_22, ln_22⟩ := hS.call [1] (by decide) rfl (l' := [Mem.one g_4 (.cells ([v_23, .bool t_19.2.2] : List Value).toArray 56 (0, 0))]) (ow := []) rfl hS'
 replace hS : Sep w0 w_20 [N_22, _, Mem.one g_4 (.cells ([v_23, .bool t_19.2.2] : List Value).toArray 56 (0, 0))] Z := hS''
 clear hS' hS''
 have hr_25 : Rd Kd.u8 (A.un N_22) v_23 t_19.2.1 := hr_24.mono (Mem.un_le (Mem.un_left le_22) (ln_22.trans (hS.sndA hA)))
 refine s_move h rfl rfl fun a h=>?_
 obtain ⟨t_26, et_26, H⟩ := Option.bind_eq_some_iff.1 H
 refine s_call h rfl Try.call35 rfl (hocketref1_Reader_Num.calls K _ t_19.2.1 _ t_19.2.2 1099511627776 t_26 w0 _ _ (A.un N_22) (Mem.un_le (hA.trans (hS.le_zed [1])) (hS.new_zed [1])) (hS.enter [1] (by decide)) hr_25 et_26) ?_
 rintro _ w_27 ⟨v_30, N_28, rfl, hS', hr_31⟩
 intro a h
 obtain ⟨N_29, hS'', le_29, ln_29⟩ := hS.call [1] (by decide) rfl (l' := [Mem.one g_4 (.cells ([v_30, .bool t_26.2.2] : List Value).toArray 56 (0, 0))]) (ow := []) rfl hS'
 replace hS : Sep w0 w_27 [N_29, _, Mem.one g_4 (.cells ([v_30, .bool t_26.2.2] : List Value).toArray 56 (0, 0))] Z := hS''
 clear hS' hS''
 have hr_32 : Rd Kd.u8 (A.un N_29) v_30 t_26.2.1 := hr_31.mono (Mem.un_le (Mem.un_left le_29) (ln_29.trans (hS.sndA hA)))
 refine s_build h rfl ti29 pl29 rfl (.cons rfl (.cons rfl (.cons rfl (.cons rfl .nil)))) (cs := [iV t_5.1, iV t_12.1, iV t_19.1, iV t_26.1, iV 0, iV 0, .bool false, iV 0, iV 0, iV 0, iV 0, nS, iV 0, iV 0, nS, nS, iV 0, iV 0, iV 0, iV 0, iV 0, nS, nS, nS]) (by kernel_rfl) fun a h=>v_alloc h rfl ti29 hS fun w_33 g_34 hS' a h => ?_
 replace hS : Sep w0 w_33 [_, _, _, Mem.one g_34 (.cells ([iV 0, iV 0, iV 0, iV 0, iV 0, iV 0, .bool false, iV 0, iV 0, iV 0, iV 0, nS, iV 0, iV 0, nS, nS, iV 0, iV 0, iV 0, iV 0, iV 0, nS, nS, nS] : List Value).toArray 29 (0, 0))] Z := hS'
 clear hS'
 obtain ⟨w_35, hs', hS'⟩ := hS.store (P := Try.prog) (p := 3) (o := 0) (t := 29) (v := .agg ([iV t_5.1, iV t_12.1, iV t_19.1, iV t_26.1, iV 0, iV 0, .bool false, iV 0, iV 0, iV 0, iV 0, nS, iV 0, iV 0, nS, nS, iV 0, iV 0, iV 0, iV 0, iV 0, nS, nS, nS] : List Value).toArray) (vs := [iV t_5.1, iV t_12.1, iV t_19.1, iV t_26.1, iV 0, iV 0, .bool false, iV 0, iV 0, iV 0, iV 0, nS, iV 0, iV 0, nS, nS, iV 0, iV 0, iV 0, iV 0, iV 0, nS, nS, nS]) rfl ti29 rfl rfl rfl (by intro u hu; simp only [List.mem_cons, List.not_mem_nil, or_false] at hu; rcases hu with rfl | rfl | rfl | rfl | rfl | rfl | rfl | rfl | rfl | rfl | rfl | rfl | rfl | rfl | rfl | rfl | rfl | rfl | rfl | rfl | rfl | rfl | rfl | rfl <;> rfl)
 refine s_store h rfl rfl hs' ?_
 replace hS : Sep w0 w_35 [_, _, _, Mem.one g_34 (.cells ([iV t_5.1, iV t_12.1, iV t_19.1, iV t_26.1, _, _, _, _, _, _, _, _, _, _, _, _, _, _, _, _, _, _, _, _] : List Value).toArray 29 (0, 0))] Z := hS'
 clear hs' hS'
 refine wpList_nil <| x_then_n <| c_seq fun KJ_36 hKJ_36 => wp_seq <| wp_region_lit <| s_fieldAddr h rfl U29 rfl ti3 rfl rfl fun a h=>s_load h rfl rfl (hS.load_one (p := 3) rfl U3 rfl rfl) fun a h=>wpList_nil ?_
 replace h : Fr 91 a [(2, .pointer (some ⟨g_2, 0, none⟩)), (3, .bool false), (4, .pointer (some ⟨g_4, 0, none⟩)), (5, .pointer (some ⟨g_34, 0, none⟩)), (19, iV t_5.1)] := h.keep [2, 3, 4, 5, 19]
 refine x_then_n ?_
 have hJ_j_67 : ∀ (x_38 : hocketref1_Reader), ∀ (x_41 : api_Msg), hocketref11_Decode.J1 K x_38 x_41 = some r → ∀ (a : Act) (w_66 : World), (∃ (v_39 : Value) (v_44 : Value) (v_48 : Value) (v_52 : Value) (v_56 : Value) (v_60 : Value) (v_64 : Value) (N_37 : Mem) (M_42 : Mem) (M_46 : Mem) (M_50 : Mem) (M_54 : Mem) (M_58 : Mem) (M_62 : Mem), Fr 91 a [(2, .pointer (some ⟨g_2, 0, none⟩)), (3, .bool false), (4, .pointer (some ⟨g_4, 0, none⟩)), (5, .pointer (some ⟨g_34, 0, none⟩))] ∧ Sep w0 w_66 [N_37, Mem.one g_2 (.cells ([iV 0, iV 0, iV 0, iV 0, iV 0, iV 0, .bool false, iV 0, iV 0, iV 0, iV 0, nS, iV 0, iV 0, nS, nS, iV 0, iV 0, iV 0, iV 0, iV 0, nS, nS, nS] : List Value).toArray 29 (0, 0)), Mem.one g_4 (.cells ([v_39, .bool x_38.Bad] : List Value).toArray 56 (0, 0)), Mem.one g_34 (.cells ([iV x_41.Kind, iV x_41.From, iV x_41.To, iV x_41.View, iV x_41.Inst, iV x_41.Len, .bool x_41.Has, iV x_41.Members, iV x_41.Source, iV x_41.At, iV x_41.Total, v_44, iV x_41.Hop, iV x_41.Seq, v_48, v_52, iV x_41.Index, iV x_41.Entry.Sess, iV x_41.Entry.Seq, iV x_41.Entry.Cmd.Kind, iV x_41.Entry.Cmd.Who, v_56, v_60, v_64] : List Value).toArray 29 (0, 0)), M_42, M_46, M_50, M_54, M_58, M_62] Z ∧ N_29.le N_37 ∧ Rd Kd.u8 (A.un N_37) v_39 x_38.B ∧ Own Kd.u8 5 M_42 Mem.no v_44 x_41.Data ∧ Own (Kd.int .i64) 3 M_46 Mem.no v_48 x_41.Have ∧ Own (Kd.int .i64) 3 M_50 Mem.no v_52 x_41.Need ∧ Own Kd.u8 5 M_54 Mem.no v_56 x_41.Entry.Cmd.Key ∧ Own Kd.u8 5 M_58 Mem.no v_60 x_41.Entry.Cmd.Val ∧ Own Kd.u8 5 M_62 Mem.no v_64 x_41.Entry.Cmd.Old) → KJ_36 a w_66 := by
  clear H h hS a
  rintro x_38 x_41 H a w_66 ⟨v_39, v_44, v_48, v_52, v_56, v_60, v_64, N_37, M_42, M_46, M_50, M_54, M_58, M_62, h, hS, le_37, hr_40, ho_45, ho_49, ho_53, ho_57, ho_61, ho_65⟩
  unfold hocketref11_Decode.J1 at H
  refine hKJ_36 _ _ <| c_seq fun KJ_68 hKJ_68 => c_seq fun KJ_69 hKJ_69 => ?_
  have hJ_j_73 : ∀ (x_71 : Bool), hocketref11_Decode.J2 K x_41 x_71 = some r → ∀ (a : Act) (w_72 : World), (∃ (N_70 : Mem), Fr 91 a [(2, .pointer (some ⟨g_2, 0, none⟩)), (3, .bool false), (5, .pointer (some ⟨g_34, 0, none⟩)), (88, .bool x_71)] ∧ Sep w0 w_72 [N_70, Mem.one g_2 (.cells ([iV 0, iV 0, iV 0, iV 0, iV 0, iV 0, .bool false, iV 0, iV 0, iV 0, iV 0, nS, iV 0, iV 0, nS, nS, iV 0, iV 0, iV 0, iV 0, iV 0, nS, nS, nS] : List Value).toArray 29 (0, 0)), Mem.no, Mem.one g_34 (.cells ([iV x_41.Kind, iV x_41.From, iV x_41.To, iV x_41.View, iV x_41.Inst, iV x_41.Len, .bool x_41.Has, iV x_41.Members, iV x_41.Source, iV x_41.At, iV x_41.Total, v_44, iV x_41.Hop, iV x_41.Seq, v_48, v_52, iV x_41.Index, iV x_41.Entry.Sess, iV x_41.Entry.Seq, iV x_41.Entry.Cmd.Kind, iV x_41.Entry.Cmd.Who, v_56, v_60, v_64] : List Value).toArray 29 (0, 0)), M_42, M_46, M_50, M_54, M_58, M_62] Z ∧ N_37.le N_70) → KJ_69 a w_72 := by
   clear H h hS a
   rintro x_71 H a w_72 ⟨N_70, h, hS, le_70⟩
   unfold hocketref11_Decode.J2 at H
   refine hKJ_69 _ _ ?_
   by_cases hc_74 : x_71 = true
   ·rw [if_pos hc_74] at H
    refine c_cond_t h rfl hc_74 <| wp_seq <| wp_region_lit <| s_build h rfl ti29 pl29 rfl .nil (cs := [iV 0, iV 0, iV 0, iV 0, iV 0, iV 0, .bool false, iV 0, iV 0, iV 0, iV 0, nS, iV 0, iV 0, nS, nS, iV 0, iV 0, iV 0, iV 0, iV 0, nS, nS, nS]) (by kernel_rfl) fun a h=>?_
    obtain ⟨w_75, hs', hS'⟩ := hS.store (P := Try.prog) (p := 1) (o := 0) (t := 29) (v := .agg ([iV 0, iV 0, iV 0, iV 0, iV 0, iV 0, .bool false, iV 0, iV 0, iV 0, iV 0, nS, iV 0, iV 0, nS, nS, iV 0, iV 0, iV 0, iV 0, iV 0, nS, nS, nS] : List Value).toArray) (vs := [iV 0, iV 0, iV 0, iV 0, iV 0, iV 0, .bool false, iV 0, iV 0, iV 0, iV 0, nS, iV 0, iV 0, nS, nS, iV 0, iV 0, iV 0, iV 0, iV 0, nS, nS, nS]) rfl ti29 rfl rfl rfl (by intro u hu; simp only [List.mem_cons, List.not_mem_nil, or_false] at hu; rcases hu with rfl | rfl | rfl | rfl | rfl | rfl | rfl | rfl | rfl | rfl | rfl | rfl | rfl | rfl | rfl | rfl | rfl | rfl | rfl | rfl | rfl | rfl | rfl | rfl <;> rfl)
    refine s_store h rfl rfl hs' ?_
    replace hS : Sep w0 w_75 [_, _, _, _, _, _, _, _, _, _] Z := hS'
    clear hs' hS'
    refine s_assign h rfl rfl fun a h=>wpList_nil <| x_then_n <| wp_ret (x_then_r ?_)
    have hS' := hS.room
    replace hS : Sep w0 w_75 [_, _, _, _, _, _, _, _, _, _, Mem.no] Z := hS'
    clear hS'
    replace hS : Sep w0 w_75 [_, _, _, _, _, _, _, _, _, _, _] Z := hS
    have hS' := hS.room
    replace hS : Sep w0 w_75 [_, _, _, _, _, _, _, _, _, _, _, Mem.no] Z := hS'
    clear hS'
    replace hS : Sep w0 w_75 [_, _, _, _, _, _, _, _, _, _, _, _] Z := hS
    have hS' := hS.room
    replace hS : Sep w0 w_75 [_, _, _, _, _, _, _, _, _, _, _, _, Mem.no] Z := hS'
    clear hS'
    replace hS : Sep w0 w_75 [_, _, _, _, _, _, _, _, _, _, _, _, _] Z := hS
    have hS' := hS.room
    replace hS : Sep w0 w_75 [_, _, _, _, _, _, _, _, _, _, _, _, _, Mem.no] Z := hS'
    clear hS'
    replace hS : Sep w0 w_75 [_, _, _, _, _, _, _, _, _, _, _, _, _, _] Z := hS
    have hS' := hS.room
    replace hS : Sep w0 w_75 [_, _, _, _, _, _, _, _, _, _, _, _, _, _, Mem.no] Z := hS'
    clear hS'
    replace hS : Sep w0 w_75 [_, _, _, _, _, _, _, _, _, _, _, _, _, _, _] Z := hS
    have hS' := hS.room
    replace hS : Sep w0 w_75 [_, _, _, _, _, _, _, _, _, _, _, _, _, _, _, Mem.no] Z := hS'
    clear hS'
    replace hS : Sep w0 w_75 [_, _, _, _, _, _, _, _, _, _, _, _, _, _, _, _] Z := hS
    obtain rfl := Option.some.inj H
    exact f_ret h (rs := [.cell 2 29, .tmp 3]) rfl (.cell rfl (hS.load_agg (p := 1) (us := [iV 0, iV 0, iV 0, iV 0, iV 0, iV 0, .bool false, iV 0, iV 0, iV 0, iV 0, nS, iV 0, iV 0, nS, nS, iV 0, iV 0, iV 0, iV 0, iV 0, nS, nS, nS]) rfl U29 rfl ti29 rfl rfl) (.tmp rfl .nil)) ⟨_, rfl, nS, nS, nS, nS, nS, nS, N_70, Mem.no, Mem.no, Mem.no, Mem.no, Mem.no, Mem.no, rfl, (Sep.sel hS [0, 10, 11, 12, 13, 14, 15] (by decide)), (Own.nil Kd.u8 5 Mem.no), (Own.nil (Kd.int .i64) 3 Mem.no), (Own.nil (Kd.int .i64) 3 Mem.no), (Own.nil Kd.u8 5 Mem.no), (Own.nil Kd.u8 5 Mem.no), (Own.nil Kd.u8 5 Mem.no)⟩
   ·rw [if_neg hc_74] at H
    refine c_cond_f h rfl (Bool.eq_false_iff.2 hc_74) <| wp_skip <| x_then_n (hKJ_68 _ _ ?_)
    refine wp_seq <| wp_region_lit <| s_load h rfl rfl (hS.load_agg (p := 3) (us := [iV x_41.Kind, iV x_41.From, iV x_41.To, iV x_41.View, iV x_41.Inst, iV x_41.Len, .bool x_41.Has, iV x_41.Members, iV x_41.Source, iV x_41.At, iV x_41.Total, v_44, iV x_41.Hop, iV x_41.Seq, v_48, v_52, iV x_41.Index, iV x_41.Entry.Sess, iV x_41.Entry.Seq, iV x_41.Entry.Cmd.Kind, iV x_41.Entry.Cmd.Who, v_56, v_60, v_64]) rfl U29 rfl ti29 rfl rfl) fun a h=>?_
    obtain ⟨w_82, hs', hS'⟩ := hS.store (P := Try.prog) (p := 1) (o := 0) (t := 29) (v := .agg ([iV x_41.Kind, iV x_41.From, iV x_41.To, iV x_41.View, iV x_41.Inst, iV x_41.Len, .bool x_41.Has, iV x_41.Members, iV x_41.Source, iV x_41.At, iV x_41.Total, v_44, iV x_41.Hop, iV x_41.Seq, v_48, v_52, iV x_41.Index, iV x_41.Entry.Sess, iV x_41.Entry.Seq, iV x_41.Entry.Cmd.Kind, iV x_41.Entry.Cmd.Who, v_56, v_60, v_64] : List Value).toArray) (vs := [iV x_41.Kind, iV x_41.From, iV x_41.To, iV x_41.View, iV x_41.Inst, iV x_41.Len, .bool x_41.Has, iV x_41.Members, iV x_41.Source, iV x_41.At, iV x_41.Total, v_44, iV x_41.Hop, iV x_41.Seq, v_48, v_52, iV x_41.Index, iV x_41.Entry.Sess, iV x_41.Entry.Seq, iV x_41.Entry.Cmd.Kind, iV x_41.Entry.Cmd.Who, v_56, v_60, v_64]) rfl ti29 rfl rfl rfl (by intro u hu; simp only [List.mem_cons, List.not_mem_nil, or_false] at hu; rcases hu with rfl | rfl | rfl | rfl | rfl | rfl | rfl | rfl | rfl | rfl | rfl | rfl | rfl | rfl | rfl | rfl | rfl | rfl | rfl | rfl | rfl | rfl | rfl | rfl <;> first | rfl | exact ho_45.one | exact ho_49.one | exact ho_53.one | exact ho_57.one | exact ho_61.one | exact ho_65.one)
    refine s_store h rfl rfl hs' ?_
    replace hS : Sep w0 w_82 [_, Mem.one g_2 (.cells ([iV x_41.Kind, iV x_41.From, iV x_41.To, iV x_41.View, iV x_41.Inst, iV x_41.Len, .bool x_41.Has, iV x_41.Members, iV x_41.Source, iV x_41.At, iV x_41.Total, v_44, iV x_41.Hop, iV x_41.Seq, v_48, v_52, iV x_41.Index, iV x_41.Entry.Sess, iV x_41.Entry.Seq, iV x_41.Entry.Cmd.Kind, iV x_41.Entry.Cmd.Who, v_56, v_60, v_64] : List Value).toArray 29 (0, 0)), _, _, _, _, _, _, _, _] Z := hS'
    clear hs' hS'
    refine s_assign h rfl rfl fun a h=>wpList_nil <| x_then_n <| wp_ret ?_
    obtain rfl := Option.some.inj H
    exact f_ret h (rs := [.cell 2 29, .tmp 3]) rfl (.cell rfl (hS.load_agg (p := 1) (us := [iV x_41.Kind, iV x_41.From, iV x_41.To, iV x_41.View, iV x_41.Inst, iV x_41.Len, .bool x_41.Has, iV x_41.Members, iV x_41.Source, iV x_41.At, iV x_41.Total, v_44, iV x_41.Hop, iV x_41.Seq, v_48, v_52, iV x_41.Index, iV x_41.Entry.Sess, iV x_41.Entry.Seq, iV x_41.Entry.Cmd.Kind, iV x_41.Entry.Cmd.Who, v_56, v_60, v_64]) rfl U29 rfl ti29 rfl rfl) (.tmp rfl .nil)) ⟨_, rfl, v_44, v_48, v_52, v_56, v_60, v_64, N_70, M_42, M_46, M_50, M_54, M_58, M_62, rfl, (Sep.sel hS [0, 4, 5, 6, 7, 8, 9] (by decide)), ho_45, ho_49, ho_53, ho_57, ho_61, ho_65⟩
  clear hKJ_69
  refine wp_region_lit <| s_fieldAddr h rfl U29 rfl ti3 rfl rfl fun a h=>s_load h rfl rfl (hS.load_one (p := 3) rfl U3 rfl rfl) fun a h=>s_cmp (b := (x_41.Kind == 0)) h rfl rfl rfl (.inl ⟨rfl, rfl⟩) fun a h=>s_move h rfl rfl fun a h=>?_
  by_cases hc_83 : x_41.Kind = 0
  ·rw [if_pos hc_83] at H
   refine s_off h rfl rfl rfl (beq_iff_eq.2 hc_83) fun a h=>s_off h rfl rfl rfl (beq_iff_eq.2 hc_83) fun a h=>s_off h rfl rfl rfl (beq_iff_eq.2 hc_83) fun a h=>s_pick_t h rfl rfl (beq_iff_eq.2 hc_83) rfl fun a h=>wpList_nil ?_
   replace hS : Sep w0 w_66 [_, _, _, _, _, _, _, _, _, _] Z := hS
   replace h : Fr 91 a [(2, _), (3, _), (5, _), (88, .bool true)] := h.keep [2, 3, 5, 88]
   exact x_then_n (hJ_j_73 true H _ _ ⟨N_37, h, (Sep.sel hS [0, 1, 1001, 3, 4, 5, 6, 7, 8, 9] (by decide)), (Mem.le.refl _)⟩)
  ·rw [if_neg hc_83] at H
   refine s_on h rfl rfl (beq_eq_false_iff_ne.2 hc_83) <| s_move h rfl rfl fun a h=>s_on h rfl rfl (beq_eq_false_iff_ne.2 hc_83) ?_
   obtain ⟨t_84, et_84, H⟩ := Option.bind_eq_some_iff.1 H
   refine s_call h rfl Try.call39 rfl (hocketref1_Reader_End.calls _ x_38.B _ x_38.Bad t_84 w0 _ _ _ (Mem.le.refl _) (hS.enter [1] (by decide)) (hr_40.mono (Mem.un_le (hA.trans (hS.le_zed [1])) ((Mem.le.refl _).trans (hS.new_zed [1])))) et_84) ?_
   rintro _ w_85 ⟨N_86, rfl, hS'⟩
   intro a h
   obtain ⟨N_87, hS'', le_87, ln_87⟩ := hS.call [1] (by decide) rfl (l' := [Mem.one g_4 (.cells ([v_39, .bool x_38.Bad] : List Value).toArray 56 (0, 0))]) (ow := []) rfl hS'
   replace hS : Sep w0 w_85 [N_87, _, _, _, _, _, _, _, _, _] Z := hS''
   clear hS' hS''
   refine s_on h rfl rfl (beq_eq_false_iff_ne.2 hc_83) <| s_not h rfl rfl fun a h=>s_pick_f h rfl rfl (beq_eq_false_iff_ne.2 hc_83) rfl fun a h=>wpList_nil ?_
   replace hS : Sep w0 w_85 [_, _, _, _, _, _, _, _, _, _] Z := hS
   replace h : Fr 91 a [(2, _), (3, _), (5, _), (88, .bool (!t_84))] := h.keep [2, 3, 5, 88]
   exact x_then_n (hJ_j_73 (!t_84) H _ _ ⟨N_87, h, (Sep.sel hS [0, 1, 1001, 3, 4, 5, 6, 7, 8, 9] (by decide)), le_87⟩)
 clear hKJ_36
 refine c_block <| wp_seq <| wp_region_lit <| s_cmp (b := (t_5.1 == 2)) h rfl rfl rfl (.inl ⟨rfl, rfl⟩) fun a h=>s_assign h rfl rfl fun a h=>wpList_nil <| x_then_n ?_
 by_cases hc_88 : t_5.1 = 2
 ·rw [if_pos hc_88] at H
  refine c_cond_t h rfl (beq_iff_eq.2 hc_88) <| wp_seq <| wp_region_lit <| s_move h rfl rfl fun a h=>?_
  obtain ⟨t_89, et_89, H⟩ := Option.bind_eq_some_iff.1 H
  refine s_call h rfl Try.call35 rfl (hocketref1_Reader_Num.calls K _ t_26.2.1 _ t_26.2.2 1099511627776 t_89 w0 _ _ (A.un N_29) (Mem.un_le (hA.trans (hS.le_zed [1])) (hS.new_zed [1])) (hS.enter [1] (by decide)) hr_32 et_89) ?_
  rintro _ w_90 ⟨v_93, N_91, rfl, hS', hr_94⟩
  intro a h
  obtain ⟨N_92, hS'', le_92, ln_92⟩ := hS.call [1] (by decide) rfl (l' := [Mem.one g_4 (.cells ([v_93, .bool t_89.2.2] : List Value).toArray 56 (0, 0))]) (ow := []) rfl hS'
  replace hS : Sep w0 w_90 [N_92, _, Mem.one g_4 (.cells ([v_93, .bool t_89.2.2] : List Value).toArray 56 (0, 0)), _] Z := hS''
  clear hS' hS''
  have hr_95 : Rd Kd.u8 (A.un N_92) v_93 t_89.2.1 := hr_94.mono (Mem.un_le (Mem.un_left le_92) (ln_92.trans (hS.sndA hA)))
  refine s_move h rfl rfl fun a h=>?_
  obtain ⟨t_96, et_96, H⟩ := Option.bind_eq_some_iff.1 H
  refine s_call h rfl Try.call35 rfl (hocketref1_Reader_Num.calls K _ t_89.2.1 _ t_89.2.2 1099511627776 t_96 w0 _ _ (A.un N_92) (Mem.un_le (hA.trans (hS.le_zed [1])) (hS.new_zed [1])) (hS.enter [1] (by decide)) hr_95 et_96) ?_
  rintro _ w_97 ⟨v_100, N_98, rfl, hS', hr_101⟩
  intro a h
  obtain ⟨N_99, hS'', le_99, ln_99⟩ := hS.call [1] (by decide) rfl (l' := [Mem.one g_4 (.cells ([v_100, .bool t_96.2.2] : List Value).toArray 56 (0, 0))]) (ow := []) rfl hS'
  replace hS : Sep w0 w_97 [N_99, _, Mem.one g_4 (.cells ([v_100, .bool t_96.2.2] : List Value).toArray 56 (0, 0)), _] Z := hS''
  clear hS' hS''
  have hr_102 : Rd Kd.u8 (A.un N_99) v_100 t_96.2.1 := hr_101.mono (Mem.un_le (Mem.un_left le_99) (ln_99.trans (hS.sndA hA)))
  refine s_fieldAddr h rfl U29 rfl ti3 rfl rfl fun a h=>?_
  obtain ⟨w_103, hs', hS'⟩ := hS.store (P := Try.prog) (p := 3) (o := 4) (t := 3) (v := iV t_89.1) (vs := [iV t_89.1]) rfl ti3 rfl rfl rfl (by intro u hu; simp only [List.mem_cons, List.not_mem_nil, or_false] at hu; rcases hu with rfl <;> rfl)
  refine s_store h rfl rfl hs' ?_
  replace hS : Sep w0 w_103 [_, _, _, Mem.one g_34 (.cells ([_, _, _, _, iV t_89.1, _, _, _, _, _, _, _, _, _, _, _, _, _, _, _, _, _, _, _] : List Value).toArray 29 (0, 0))] Z := hS'
  clear hs' hS'
  refine s_fieldAddr h rfl U29 rfl ti3 rfl rfl fun a h=>?_
  obtain ⟨w_104, hs', hS'⟩ := hS.store (P := Try.prog) (p := 3) (o := 5) (t := 3) (v := iV t_96.1) (vs := [iV t_96.1]) rfl ti3 rfl rfl rfl (by intro u hu; simp only [List.mem_cons, List.not_mem_nil, or_false] at hu; rcases hu with rfl <;> rfl)
  refine s_store h rfl rfl hs' ?_
  replace hS : Sep w0 w_104 [_, _, _, Mem.one g_34 (.cells ([_, _, _, _, _, iV t_96.1, _, _, _, _, _, _, _, _, _, _, _, _, _, _, _, _, _, _] : List Value).toArray 29 (0, 0))] Z := hS'
  clear hs' hS'
  refine wpList_nil <| x_then_n <| wp_region_lit <| s_move h rfl rfl fun a h=>?_
  obtain ⟨t_105, et_105, H⟩ := Option.bind_eq_some_iff.1 H
  refine s_call h rfl Try.call35 rfl (hocketref1_Reader_Num.calls K _ t_96.2.1 _ t_96.2.2 1 t_105 w0 _ _ (A.un N_99) (Mem.un_le (hA.trans (hS.le_zed [1])) (hS.new_zed [1])) (hS.enter [1] (by decide)) hr_102 et_105) ?_
  rintro _ w_106 ⟨v_109, N_107, rfl, hS', hr_110⟩
  intro a h
  obtain ⟨N_108, hS'', le_108, ln_108⟩ := hS.call [1] (by decide) rfl (l' := [Mem.one g_4 (.cells ([v_109, .bool t_105.2.2] : List Value).toArray 56 (0, 0))]) (ow := []) rfl hS'
  replace hS : Sep w0 w_106 [N_108, _, Mem.one g_4 (.cells ([v_109, .bool t_105.2.2] : List Value).toArray 56 (0, 0)), _] Z := hS''
  clear hS' hS''
  have hr_111 : Rd Kd.u8 (A.un N_108) v_109 t_105.2.1 := hr_110.mono (Mem.un_le (Mem.un_left le_108) (ln_108.trans (hS.sndA hA)))
  refine s_cmp (b := (t_105.1 == 1)) h rfl rfl rfl (.inl ⟨rfl, rfl⟩) fun a h=>s_fieldAddr h rfl U29 rfl ti4 rfl rfl fun a h=>?_
  obtain ⟨w_112, hs', hS'⟩ := hS.store (P := Try.prog) (p := 3) (o := 6) (t := 4) (v := .bool (t_105.1 == 1)) (vs := [.bool (t_105.1 == 1)]) rfl ti4 rfl rfl rfl (by intro u hu; simp only [List.mem_cons, List.not_mem_nil, or_false] at hu; rcases hu with rfl <;> rfl)
  refine s_store h rfl rfl hs' ?_
  replace hS : Sep w0 w_112 [_, _, _, Mem.one g_34 (.cells ([_, _, _, _, _, _, .bool (t_105.1 == 1), _, _, _, _, _, _, _, _, _, _, _, _, _, _, _, _, _] : List Value).toArray 29 (0, 0))] Z := hS'
  clear hs' hS'
  refine wpList_nil <| x_block_n ?_
  have hS' := hS.room
  replace hS : Sep w0 w_112 [_, _, _, _, Mem.no] Z := hS'
  clear hS'
  have hS' := hS.room
  replace hS : Sep w0 w_112 [_, _, _, _, _, Mem.no] Z := hS'
  clear hS'
  have hS' := hS.room
  replace hS : Sep w0 w_112 [_, _, _, _, _, _, Mem.no] Z := hS'
  clear hS'
  have hS' := hS.room
  replace hS : Sep w0 w_112 [_, _, _, _, _, _, _, Mem.no] Z := hS'
  clear hS'
  have hS' := hS.room
  replace hS : Sep w0 w_112 [_, _, _, _, _, _, _, _, Mem.no] Z := hS'
  clear hS'
  have hS' := hS.room
  replace hS : Sep w0 w_112 [_, _, _, _, _, _, _, _, _, Mem.no] Z := hS'
  clear hS'
  replace hS : Sep w0 w_112 [_, _, _, _, _, _, _, _, _, _] Z := hS
  replace h : Fr 91 a [(2, _), (3, _), (4, _), (5, _)] := h.keep [2, 3, 4, 5]
  exact x_then_n (hJ_j_67 (⟨t_105.2.1, t_105.2.2⟩ : hocketref1_Reader) (⟨t_5.1, t_12.1, t_19.1, t_26.1, t_89.1, t_96.1, (t_105.1 == 1), 0, 0, 0, 0, ([] : List UInt8), 0, 0, ([] : List Int), ([] : List Int), 0, (⟨0, 0, (⟨0, 0, ([] : List UInt8), ([] : List UInt8), ([] : List UInt8)⟩ : api_Cmd)⟩ : api_Entry)⟩ : api_Msg) H _ _ ⟨v_109, nS, nS, nS, nS, nS, nS, N_108, Mem.no, Mem.no, Mem.no, Mem.no, Mem.no, Mem.no, h, (Sep.sel hS [0, 1, 2, 3, 4, 5, 6, 7, 8, 9] (by decide)), (le_92.trans (le_99.trans le_108)), hr_111, (Own.nil Kd.u8 5 Mem.no), (Own.nil (Kd.int .i64) 3 Mem.no), (Own.nil (Kd.int .i64) 3 Mem.no), (Own.nil Kd.u8 5 Mem.no), (Own.nil Kd.u8 5 Mem.no), (Own.nil Kd.u8 5 Mem.no)⟩)
 ·rw [if_neg hc_88] at H
  refine c_cond_f h rfl (beq_eq_false_iff_ne.2 hc_88) <| wp_seq <| wp_region_lit <| s_cmp (b := (t_5.1 == 3)) h rfl rfl rfl (.inl ⟨rfl, rfl⟩) fun a h=>s_assign h rfl rfl fun a h=>wpList_nil <| x_then_n ?_
  by_cases hc_119 : t_5.1 = 3
  ·rw [if_pos hc_119] at H
   refine c_cond_t h rfl (beq_iff_eq.2 hc_119) <| wp_region_lit <| s_move h rfl rfl fun a h=>?_
   obtain ⟨t_120, et_120, H⟩ := Option.bind_eq_some_iff.1 H
   refine s_call h rfl Try.call35 rfl (hocketref1_Reader_Num.calls K _ t_26.2.1 _ t_26.2.2 127 t_120 w0 _ _ (A.un N_29) (Mem.un_le (hA.trans (hS.le_zed [1])) (hS.new_zed [1])) (hS.enter [1] (by decide)) hr_32 et_120) ?_
   rintro _ w_121 ⟨v_124, N_122, rfl, hS', hr_125⟩
   intro a h
   obtain ⟨N_123, hS'', le_123, ln_123⟩ := hS.call [1] (by decide) rfl (l' := [Mem.one g_4 (.cells ([v_124, .bool t_120.2.2] : List Value).toArray 56 (0, 0))]) (ow := []) rfl hS'
   replace hS : Sep w0 w_121 [N_123, _, Mem.one g_4 (.cells ([v_124, .bool t_120.2.2] : List Value).toArray 56 (0, 0)), _] Z := hS''
   clear hS' hS''
   have hr_126 : Rd Kd.u8 (A.un N_123) v_124 t_120.2.1 := hr_125.mono (Mem.un_le (Mem.un_left le_123) (ln_123.trans (hS.sndA hA)))
   refine s_move h rfl rfl fun a h=>?_
   obtain ⟨t_127, et_127, H⟩ := Option.bind_eq_some_iff.1 H
   refine s_call h rfl Try.call35 rfl (hocketref1_Reader_Num.calls K _ t_120.2.1 _ t_120.2.2 6 t_127 w0 _ _ (A.un N_123) (Mem.un_le (hA.trans (hS.le_zed [1])) (hS.new_zed [1])) (hS.enter [1] (by decide)) hr_126 et_127) ?_
   rintro _ w_128 ⟨v_131, N_129, rfl, hS', hr_132⟩
   intro a h
   obtain ⟨N_130, hS'', le_130, ln_130⟩ := hS.call [1] (by decide) rfl (l' := [Mem.one g_4 (.cells ([v_131, .bool t_127.2.2] : List Value).toArray 56 (0, 0))]) (ow := []) rfl hS'
   replace hS : Sep w0 w_128 [N_130, _, Mem.one g_4 (.cells ([v_131, .bool t_127.2.2] : List Value).toArray 56 (0, 0)), _] Z := hS''
   clear hS' hS''
   have hr_133 : Rd Kd.u8 (A.un N_130) v_131 t_127.2.1 := hr_132.mono (Mem.un_le (Mem.un_left le_130) (ln_130.trans (hS.sndA hA)))
   refine s_move h rfl rfl fun a h=>?_
   obtain ⟨t_134, et_134, H⟩ := Option.bind_eq_some_iff.1 H
   refine s_call h rfl Try.call35 rfl (hocketref1_Reader_Num.calls K _ t_127.2.1 _ t_127.2.2 1099511627776 t_134 w0 _ _ (A.un N_130) (Mem.un_le (hA.trans (hS.le_zed [1])) (hS.new_zed [1])) (hS.enter [1] (by decide)) hr_133 et_134) ?_
   rintro _ w_135 ⟨v_138, N_136, rfl, hS', hr_139⟩
   intro a h
   obtain ⟨N_137, hS'', le_137, ln_137⟩ := hS.call [1] (by decide) rfl (l' := [Mem.one g_4 (.cells ([v_138, .bool t_134.2.2] : List Value).toArray 56 (0, 0))]) (ow := []) rfl hS'
   replace hS : Sep w0 w_135 [N_137, _, Mem.one g_4 (.cells ([v_138, .bool t_134.2.2] : List Value).toArray 56 (0, 0)), _] Z := hS''
   clear hS' hS''
   have hr_140 : Rd Kd.u8 (A.un N_137) v_138 t_134.2.1 := hr_139.mono (Mem.un_le (Mem.un_left le_137) (ln_137.trans (hS.sndA hA)))
   refine s_fieldAddr h rfl U29 rfl ti3 rfl rfl fun a h=>?_
   obtain ⟨w_141, hs', hS'⟩ := hS.store (P := Try.prog) (p := 3) (o := 7) (t := 3) (v := iV t_120.1) (vs := [iV t_120.1]) rfl ti3 rfl rfl rfl (by intro u hu; simp only [List.mem_cons, List.not_mem_nil, or_false] at hu; rcases hu with rfl <;> rfl)
   refine s_store h rfl rfl hs' ?_
   replace hS : Sep w0 w_141 [_, _, _, Mem.one g_34 (.cells ([_, _, _, _, _, _, _, iV t_120.1, _, _, _, _, _, _, _, _, _, _, _, _, _, _, _, _] : List Value).toArray 29 (0, 0))] Z := hS'
   clear hs' hS'
   refine s_fieldAddr h rfl U29 rfl ti3 rfl rfl fun a h=>?_
   obtain ⟨w_142, hs', hS'⟩ := hS.store (P := Try.prog) (p := 3) (o := 8) (t := 3) (v := iV t_127.1) (vs := [iV t_127.1]) rfl ti3 rfl rfl rfl (by intro u hu; simp only [List.mem_cons, List.not_mem_nil, or_false] at hu; rcases hu with rfl <;> rfl)
   refine s_store h rfl rfl hs' ?_
   replace hS : Sep w0 w_142 [_, _, _, Mem.one g_34 (.cells ([_, _, _, _, _, _, _, _, iV t_127.1, _, _, _, _, _, _, _, _, _, _, _, _, _, _, _] : List Value).toArray 29 (0, 0))] Z := hS'
   clear hs' hS'
   refine s_fieldAddr h rfl U29 rfl ti3 rfl rfl fun a h=>?_
   obtain ⟨w_143, hs', hS'⟩ := hS.store (P := Try.prog) (p := 3) (o := 5) (t := 3) (v := iV t_134.1) (vs := [iV t_134.1]) rfl ti3 rfl rfl rfl (by intro u hu; simp only [List.mem_cons, List.not_mem_nil, or_false] at hu; rcases hu with rfl <;> rfl)
   refine s_store h rfl rfl hs' ?_
   replace hS : Sep w0 w_143 [_, _, _, Mem.one g_34 (.cells ([_, _, _, _, _, iV t_134.1, _, _, _, _, _, _, _, _, _, _, _, _, _, _, _, _, _, _] : List Value).toArray 29 (0, 0))] Z := hS'
   clear hs' hS'
   refine wpList_nil <| x_block_n ?_
   have hS' := hS.room
   replace hS : Sep w0 w_143 [_, _, _, _, Mem.no] Z := hS'
   clear hS'
   have hS' := hS.room
   replace hS : Sep w0 w_143 [_, _, _, _, _, Mem.no] Z := hS'
   clear hS'
   have hS' := hS.room
   replace hS : Sep w0 w_143 [_, _, _, _, _, _, Mem.no] Z := hS'
   clear hS'
   have hS' := hS.room
   replace hS : Sep w0 w_143 [_, _, _, _, _, _, _, Mem.no] Z := hS'
   clear hS'
   have hS' := hS.room
   replace hS : Sep w0 w_143 [_, _, _, _, _, _, _, _, Mem.no] Z := hS'
   clear hS'
   have hS' := hS.room
   replace hS : Sep w0 w_143 [_, _, _, _, _, _, _, _, _, Mem.no] Z := hS'
   clear hS'
   replace hS : Sep w0 w_143 [_, _, _, _, _, _, _, _, _, _] Z := hS
   replace h : Fr 91 a [(2, _), (3, _), (4, _), (5, _)] := h.keep [2, 3, 4, 5]
   exact x_then_n (hJ_j_67 (⟨t_134.2.1, t_134.2.2⟩ : hocketref1_Reader) (⟨t_5.1, t_12.1, t_19.1, t_26.1, 0, t_134.1, false, t_120.1, t_127.1, 0, 0, ([] : List UInt8), 0, 0, ([] : List Int), ([] : List Int), 0, (⟨0, 0, (⟨0, 0, ([] : List UInt8), ([] : List UInt8), ([] : List UInt8)⟩ : api_Cmd)⟩ : api_Entry)⟩ : api_Msg) H _ _ ⟨v_138, nS, nS, nS, nS, nS, nS, N_137, Mem.no, Mem.no, Mem.no, Mem.no, Mem.no, Mem.no, h, (Sep.sel hS [0, 1, 2, 3, 4, 5, 6, 7, 8, 9] (by decide)), (le_123.trans (le_130.trans le_137)), hr_140, (Own.nil Kd.u8 5 Mem.no), (Own.nil (Kd.int .i64) 3 Mem.no), (Own.nil (Kd.int .i64) 3 Mem.no), (Own.nil Kd.u8 5 Mem.no), (Own.nil Kd.u8 5 Mem.no), (Own.nil Kd.u8 5 Mem.no)⟩)
  ·rw [if_neg hc_119] at H
   refine c_cond_f h rfl (beq_eq_false_iff_ne.2 hc_119) <| wp_seq <| wp_region_lit <| s_cmp (b := (t_5.1 == 4)) h rfl rfl rfl (.inl ⟨rfl, rfl⟩) fun a h=>s_assign h rfl rfl fun a h=>wpList_nil <| x_then_n ?_
   by_cases hc_150 : t_5.1 = 4
   ·rw [if_pos hc_150] at H
    refine c_cond_t h rfl (beq_iff_eq.2 hc_150) <| wp_region_lit <| s_move h rfl rfl fun a h=>?_
    obtain ⟨t_151, et_151, H⟩ := Option.bind_eq_some_iff.1 H
    refine s_call h rfl Try.call35 rfl (hocketref1_Reader_Num.calls K _ t_26.2.1 _ t_26.2.2 1099511627776 t_151 w0 _ _ (A.un N_29) (Mem.un_le (hA.trans (hS.le_zed [1])) (hS.new_zed [1])) (hS.enter [1] (by decide)) hr_32 et_151) ?_
    rintro _ w_152 ⟨v_155, N_153, rfl, hS', hr_156⟩
    intro a h
    obtain ⟨N_154, hS'', le_154, ln_154⟩ := hS.call [1] (by decide) rfl (l' := [Mem.one g_4 (.cells ([v_155, .bool t_151.2.2] : List Value).toArray 56 (0, 0))]) (ow := []) rfl hS'
    replace hS : Sep w0 w_152 [N_154, _, Mem.one g_4 (.cells ([v_155, .bool t_151.2.2] : List Value).toArray 56 (0, 0)), _] Z := hS''
    clear hS' hS''
    have hr_157 : Rd Kd.u8 (A.un N_154) v_155 t_151.2.1 := hr_156.mono (Mem.un_le (Mem.un_left le_154) (ln_154.trans (hS.sndA hA)))
    refine s_fieldAddr h rfl U29 rfl ti3 rfl rfl fun a h=>?_
    obtain ⟨w_158, hs', hS'⟩ := hS.store (P := Try.prog) (p := 3) (o := 9) (t := 3) (v := iV t_151.1) (vs := [iV t_151.1]) rfl ti3 rfl rfl rfl (by intro u hu; simp only [List.mem_cons, List.not_mem_nil, or_false] at hu; rcases hu with rfl <;> rfl)
    refine s_store h rfl rfl hs' ?_
    replace hS : Sep w0 w_158 [_, _, _, Mem.one g_34 (.cells ([_, _, _, _, _, _, _, _, _, iV t_151.1, _, _, _, _, _, _, _, _, _, _, _, _, _, _] : List Value).toArray 29 (0, 0))] Z := hS'
    clear hs' hS'
    refine wpList_nil ?_
    replace h : Fr 91 a [(2, _), (3, _), (4, _), (5, _)] := h.keep [2, 3, 4, 5]
    refine x_block_n ?_
    have hS' := hS.room
    replace hS : Sep w0 w_158 [_, _, _, _, Mem.no] Z := hS'
    clear hS'
    have hS' := hS.room
    replace hS : Sep w0 w_158 [_, _, _, _, _, Mem.no] Z := hS'
    clear hS'
    have hS' := hS.room
    replace hS : Sep w0 w_158 [_, _, _, _, _, _, Mem.no] Z := hS'
    clear hS'
    have hS' := hS.room
    replace hS : Sep w0 w_158 [_, _, _, _, _, _, _, Mem.no] Z := hS'
    clear hS'
    have hS' := hS.room
    replace hS : Sep w0 w_158 [_, _, _, _, _, _, _, _, Mem.no] Z := hS'
    clear hS'
    have hS' := hS.room
    replace hS : Sep w0 w_158 [_, _, _, _, _, _, _, _, _, Mem.no] Z := hS'
    clear hS'
    replace hS : Sep w0 w_158 [_, _, _, _, _, _, _, _, _, _] Z := hS
    replace h : Fr 91 a [(2, _), (3, _), (4, _), (5, _)] := h.keep [2, 3, 4, 5]
    exact x_then_n (hJ_j_67 (⟨t_151.2.1, t_151.2.2⟩ : hocketref1_Reader) (⟨t_5.1, t_12.1, t_19.1, t_26.1, 0, 0, false, 0, 0, t_151.1, 0, ([] : List UInt8), 0, 0, ([] : List Int), ([] : List Int), 0, (⟨0, 0, (⟨0, 0, ([] : List UInt8), ([] : List UInt8), ([] : List UInt8)⟩ : api_Cmd)⟩ : api_Entry)⟩ : api_Msg) H _ _ ⟨v_155, nS, nS, nS, nS, nS, nS, N_154, Mem.no, Mem.no, Mem.no, Mem.no, Mem.no, Mem.no, h, (Sep.sel hS [0, 1, 2, 3, 4, 5, 6, 7, 8, 9] (by decide)), le_154, hr_157, (Own.nil Kd.u8 5 Mem.no), (Own.nil (Kd.int .i64) 3 Mem.no), (Own.nil (Kd.int .i64) 3 Mem.no), (Own.nil Kd.u8 5 Mem.no), (Own.nil Kd.u8 5 Mem.no), (Own.nil Kd.u8 5 Mem.no)⟩)
   ·rw [if_neg hc_150] at H
    refine c_cond_f h rfl (beq_eq_false_iff_ne.2 hc_150) <| wp_seq <| wp_region_lit <| s_cmp (b := (t_5.1 == 5)) h rfl rfl rfl (.inl ⟨rfl, rfl⟩) fun a h=>s_assign h rfl rfl fun a h=>wpList_nil ?_
    replace h : Fr 91 a [(2, _), (3, _), (4, _), (5, _), (19, _), (48, .bool (t_5.1 == 5))] := h.keep [2, 3, 4, 5, 19, 48]
    refine x_then_n ?_
    by_cases hc_165 : t_5.1 = 5
    ·rw [if_pos hc_165] at H
     refine c_cond_t h rfl (beq_iff_eq.2 hc_165) <| wp_seq <| wp_region_lit <| s_move h rfl rfl fun a h=>?_
     obtain ⟨t_166, et_166, H⟩ := Option.bind_eq_some_iff.1 H
     refine s_call h rfl Try.call35 rfl (hocketref1_Reader_Num.calls K _ t_26.2.1 _ t_26.2.2 1099511627776 t_166 w0 _ _ (A.un N_29) (Mem.un_le (hA.trans (hS.le_zed [1])) (hS.new_zed [1])) (hS.enter [1] (by decide)) hr_32 et_166) ?_
     rintro _ w_167 ⟨v_170, N_168, rfl, hS', hr_171⟩
     intro a h
     obtain ⟨N_169, hS'', le_169, ln_169⟩ := hS.call [1] (by decide) rfl (l' := [Mem.one g_4 (.cells ([v_170, .bool t_166.2.2] : List Value).toArray 56 (0, 0))]) (ow := []) rfl hS'
     replace hS : Sep w0 w_167 [N_169, _, Mem.one g_4 (.cells ([v_170, .bool t_166.2.2] : List Value).toArray 56 (0, 0)), _] Z := hS''
     clear hS' hS''
     have hr_172 : Rd Kd.u8 (A.un N_169) v_170 t_166.2.1 := hr_171.mono (Mem.un_le (Mem.un_left le_169) (ln_169.trans (hS.sndA hA)))
     refine s_move h rfl rfl fun a h=>?_
     obtain ⟨t_173, et_173, H⟩ := Option.bind_eq_some_iff.1 H
     refine s_call h rfl Try.call35 rfl (hocketref1_Reader_Num.calls K _ t_166.2.1 _ t_166.2.2 1099511627776 t_173 w0 _ _ (A.un N_169) (Mem.un_le (hA.trans (hS.le_zed [1])) (hS.new_zed [1])) (hS.enter [1] (by decide)) hr_172 et_173) ?_
     rintro _ w_174 ⟨v_177, N_175, rfl, hS', hr_178⟩
     intro a h
     obtain ⟨N_176, hS'', le_176, ln_176⟩ := hS.call [1] (by decide) rfl (l' := [Mem.one g_4 (.cells ([v_177, .bool t_173.2.2] : List Value).toArray 56 (0, 0))]) (ow := []) rfl hS'
     replace hS : Sep w0 w_174 [N_176, _, Mem.one g_4 (.cells ([v_177, .bool t_173.2.2] : List Value).toArray 56 (0, 0)), _] Z := hS''
     clear hS' hS''
     have hr_179 : Rd Kd.u8 (A.un N_176) v_177 t_173.2.1 := hr_178.mono (Mem.un_le (Mem.un_left le_176) (ln_176.trans (hS.sndA hA)))
     refine s_fieldAddr h rfl U29 rfl ti3 rfl rfl fun a h=>?_
     obtain ⟨w_180, hs', hS'⟩ := hS.store (P := Try.prog) (p := 3) (o := 9) (t := 3) (v := iV t_166.1) (vs := [iV t_166.1]) rfl ti3 rfl rfl rfl (by intro u hu; simp only [List.mem_cons, List.not_mem_nil, or_false] at hu; rcases hu with rfl <;> rfl)
     refine s_store h rfl rfl hs' ?_
     replace hS : Sep w0 w_180 [_, _, _, Mem.one g_34 (.cells ([_, _, _, _, _, _, _, _, _, iV t_166.1, _, _, _, _, _, _, _, _, _, _, _, _, _, _] : List Value).toArray 29 (0, 0))] Z := hS'
     clear hs' hS'
     refine s_fieldAddr h rfl U29 rfl ti3 rfl rfl fun a h=>?_
     obtain ⟨w_181, hs', hS'⟩ := hS.store (P := Try.prog) (p := 3) (o := 10) (t := 3) (v := iV t_173.1) (vs := [iV t_173.1]) rfl ti3 rfl rfl rfl (by intro u hu; simp only [List.mem_cons, List.not_mem_nil, or_false] at hu; rcases hu with rfl <;> rfl)
     refine s_store h rfl rfl hs' ?_
     replace hS : Sep w0 w_181 [_, _, _, Mem.one g_34 (.cells ([_, _, _, _, _, _, _, _, _, _, iV t_173.1, _, _, _, _, _, _, _, _, _, _, _, _, _] : List Value).toArray 29 (0, 0))] Z := hS'
     clear hs' hS'
     refine wpList_nil <| x_then_n <| wp_region_lit <| s_move h rfl rfl fun a h=>?_
     obtain ⟨t_182, et_182, H⟩ := Option.bind_eq_some_iff.1 H
     refine s_call h rfl Try.call36 rfl (hocketref1_Reader_Bytes.calls K _ t_173.2.1 _ t_173.2.2 64 t_182 w0 _ _ (A.un N_176) (Mem.un_le (hA.trans (hS.le_zed [1])) (hS.new_zed [1])) (hS.enter [1] (by decide)) hr_179 et_182) ?_
     rintro v_186 w_183 ⟨_, v_190, N_184, M_188, rfl, hS', hr_187, hr_191⟩
     intro a h
     obtain ⟨N_185, hS'', le_185, ln_185⟩ := hS.call [1] (by decide) rfl (l' := [Mem.one g_4 (.cells ([v_190, .bool t_182.2.2] : List Value).toArray 56 (0, 0))]) (ow := [M_188]) rfl hS'
     replace hS : Sep w0 w_183 [N_185, _, Mem.one g_4 (.cells ([v_190, .bool t_182.2.2] : List Value).toArray 56 (0, 0)), _, M_188] Z := hS''
     clear hS' hS''
     have hr_192 : Rd Kd.u8 (A.un N_185) v_190 t_182.2.1 := hr_191.mono (Mem.un_le (Mem.un_left le_185) (ln_185.trans (hS.sndA hA)))
     refine s_fieldAddr h rfl U29 rfl ti23 rfl rfl fun a h=>?_
     obtain ⟨w_193, hs', hS'⟩ := hS.store (P := Try.prog) (p := 3) (o := 11) (t := 23) (v := v_186) (vs := [v_186]) rfl ti23 hr_187.cellsA rfl rfl (by intro u hu; simp only [List.mem_cons, List.not_mem_nil, or_false] at hu; rcases hu with rfl <;> first | rfl | exact hr_187.one)
     refine s_store h rfl rfl hs' ?_
     replace hS : Sep w0 w_193 [_, _, _, Mem.one g_34 (.cells ([_, _, _, _, _, _, _, _, _, _, _, v_186, _, _, _, _, _, _, _, _, _, _, _, _] : List Value).toArray 29 (0, 0)), _] Z := hS'
     clear hs' hS'
     refine wpList_nil <| x_block_n ?_
     have hS' := hS.room
     replace hS : Sep w0 w_193 [_, _, _, _, _, Mem.no] Z := hS'
     clear hS'
     have hS' := hS.room
     replace hS : Sep w0 w_193 [_, _, _, _, _, _, Mem.no] Z := hS'
     clear hS'
     have hS' := hS.room
     replace hS : Sep w0 w_193 [_, _, _, _, _, _, _, Mem.no] Z := hS'
     clear hS'
     have hS' := hS.room
     replace hS : Sep w0 w_193 [_, _, _, _, _, _, _, _, Mem.no] Z := hS'
     clear hS'
     have hS' := hS.room
     replace hS : Sep w0 w_193 [_, _, _, _, _, _, _, _, _, Mem.no] Z := hS'
     clear hS'
     replace hS : Sep w0 w_193 [_, _, _, _, _, _, _, _, _, _] Z := hS
     replace h : Fr 91 a [(2, _), (3, _), (4, _), (5, _)] := h.keep [2, 3, 4, 5]
     exact x_then_n (hJ_j_67 (⟨t_182.2.1, t_182.2.2⟩ : hocketref1_Reader) (⟨t_5.1, t_12.1, t_19.1, t_26.1, 0, 0, false, 0, 0, t_166.1, t_173.1, t_182.1, 0, 0, ([] : List Int), ([] : List Int), 0, (⟨0, 0, (⟨0, 0, ([] : List UInt8), ([] : List UInt8), ([] : List UInt8)⟩ : api_Cmd)⟩ : api_Entry)⟩ : api_Msg) H _ _ ⟨v_190, v_186, nS, nS, nS, nS, nS, N_185, M_188, Mem.no, Mem.no, Mem.no, Mem.no, Mem.no, h, (Sep.sel hS [0, 1, 2, 3, 4, 5, 6, 7, 8, 9] (by decide)), (le_169.trans (le_176.trans le_185)), hr_192, hr_187, (Own.nil (Kd.int .i64) 3 Mem.no), (Own.nil (Kd.int .i64) 3 Mem.no), (Own.nil Kd.u8 5 Mem.no), (Own.nil Kd.u8 5 Mem.no), (Own.nil Kd.u8 5 Mem.no)⟩)
    ·rw [if_neg hc_165] at H
     refine c_cond_f h rfl (beq_eq_false_iff_ne.2 hc_165) <| wp_seq <| wp_region_lit <| s_cmp (b := (t_5.1 == 7)) h rfl rfl rfl (.inl ⟨rfl, rfl⟩) fun a h=>s_assign h rfl rfl fun a h=>wpList_nil <| x_then_n ?_
     by_cases hc_199 : t_5.1 = 7
     ·rw [if_pos hc_199] at H
      refine c_cond_t h rfl (beq_iff_eq.2 hc_199) <| wp_seq <| wp_region_lit <| s_move h rfl rfl fun a h=>?_
      obtain ⟨t_200, et_200, H⟩ := Option.bind_eq_some_iff.1 H
      refine s_call h rfl Try.call35 rfl (hocketref1_Reader_Num.calls K _ t_26.2.1 _ t_26.2.2 1099511627776 t_200 w0 _ _ (A.un N_29) (Mem.un_le (hA.trans (hS.le_zed [1])) (hS.new_zed [1])) (hS.enter [1] (by decide)) hr_32 et_200) ?_
      rintro _ w_201 ⟨v_204, N_202, rfl, hS', hr_205⟩
      intro a h
      obtain ⟨N_203, hS'', le_203, ln_203⟩ := hS.call [1] (by decide) rfl (l' := [Mem.one g_4 (.cells ([v_204, .bool t_200.2.2] : List Value).toArray 56 (0, 0))]) (ow := []) rfl hS'
      replace hS : Sep w0 w_201 [N_203, _, Mem.one g_4 (.cells ([v_204, .bool t_200.2.2] : List Value).toArray 56 (0, 0)), _] Z := hS''
      clear hS' hS''
      have hr_206 : Rd Kd.u8 (A.un N_203) v_204 t_200.2.1 := hr_205.mono (Mem.un_le (Mem.un_left le_203) (ln_203.trans (hS.sndA hA)))
      refine s_move h rfl rfl fun a h=>?_
      obtain ⟨t_207, et_207, H⟩ := Option.bind_eq_some_iff.1 H
      refine s_call h rfl Try.call35 rfl (hocketref1_Reader_Num.calls K _ t_200.2.1 _ t_200.2.2 1099511627776 t_207 w0 _ _ (A.un N_203) (Mem.un_le (hA.trans (hS.le_zed [1])) (hS.new_zed [1])) (hS.enter [1] (by decide)) hr_206 et_207) ?_
      rintro _ w_208 ⟨v_211, N_209, rfl, hS', hr_212⟩
      intro a h
      obtain ⟨N_210, hS'', le_210, ln_210⟩ := hS.call [1] (by decide) rfl (l' := [Mem.one g_4 (.cells ([v_211, .bool t_207.2.2] : List Value).toArray 56 (0, 0))]) (ow := []) rfl hS'
      replace hS : Sep w0 w_208 [N_210, _, Mem.one g_4 (.cells ([v_211, .bool t_207.2.2] : List Value).toArray 56 (0, 0)), _] Z := hS''
      clear hS' hS''
      have hr_213 : Rd Kd.u8 (A.un N_210) v_211 t_207.2.1 := hr_212.mono (Mem.un_le (Mem.un_left le_210) (ln_210.trans (hS.sndA hA)))
      refine s_fieldAddr h rfl U29 rfl ti3 rfl rfl fun a h=>?_
      obtain ⟨w_214, hs', hS'⟩ := hS.store (P := Try.prog) (p := 3) (o := 12) (t := 3) (v := iV t_200.1) (vs := [iV t_200.1]) rfl ti3 rfl rfl rfl (by intro u hu; simp only [List.mem_cons, List.not_mem_nil, or_false] at hu; rcases hu with rfl <;> rfl)
      refine s_store h rfl rfl hs' ?_
      replace hS : Sep w0 w_214 [_, _, _, Mem.one g_34 (.cells ([_, _, _, _, _, _, _, _, _, _, _, _, iV t_200.1, _, _, _, _, _, _, _, _, _, _, _] : List Value).toArray 29 (0, 0))] Z := hS'
      clear hs' hS'
      refine s_fieldAddr h rfl U29 rfl ti3 rfl rfl fun a h=>?_
      obtain ⟨w_215, hs', hS'⟩ := hS.store (P := Try.prog) (p := 3) (o := 13) (t := 3) (v := iV t_207.1) (vs := [iV t_207.1]) rfl ti3 rfl rfl rfl (by intro u hu; simp only [List.mem_cons, List.not_mem_nil, or_false] at hu; rcases hu with rfl <;> rfl)
      refine s_store h rfl rfl hs' ?_
      replace hS : Sep w0 w_215 [_, _, _, Mem.one g_34 (.cells ([_, _, _, _, _, _, _, _, _, _, _, _, _, iV t_207.1, _, _, _, _, _, _, _, _, _, _] : List Value).toArray 29 (0, 0))] Z := hS'
      clear hs' hS'
      refine wpList_nil <| x_then_n <| wp_seq <| wp_region_lit <| s_move h rfl rfl fun a h=>?_
      obtain ⟨t_216, et_216, H⟩ := Option.bind_eq_some_iff.1 H
      refine s_call h rfl Try.call37 rfl (hocketref11_row.calls K _ t_207.2.1 _ t_207.2.2 7 t_216 w0 _ _ (A.un N_210) (Mem.un_le (hA.trans (hS.le_zed [1])) (hS.new_zed [1])) (hS.enter [1] (by decide)) hr_213 et_216) ?_
      rintro v_220 w_217 ⟨_, v_224, N_218, M_222, rfl, hS', hr_221, hr_225⟩
      intro a h
      obtain ⟨N_219, hS'', le_219, ln_219⟩ := hS.call [1] (by decide) rfl (l' := [Mem.one g_4 (.cells ([v_224, .bool t_216.2.2] : List Value).toArray 56 (0, 0))]) (ow := [M_222]) rfl hS'
      replace hS : Sep w0 w_217 [N_219, _, Mem.one g_4 (.cells ([v_224, .bool t_216.2.2] : List Value).toArray 56 (0, 0)), _, M_222] Z := hS''
      clear hS' hS''
      have hr_226 : Rd Kd.u8 (A.un N_219) v_224 t_216.2.1 := hr_225.mono (Mem.un_le (Mem.un_left le_219) (ln_219.trans (hS.sndA hA)))
      refine s_fieldAddr h rfl U29 rfl ti22 rfl rfl fun a h=>?_
      obtain ⟨w_227, hs', hS'⟩ := hS.store (P := Try.prog) (p := 3) (o := 14) (t := 22) (v := v_220) (vs := [v_220]) rfl ti22 hr_221.cellsA rfl rfl (by intro u hu; simp only [List.mem_cons, List.not_mem_nil, or_false] at hu; rcases hu with rfl <;> first | rfl | exact hr_221.one)
      refine s_store h rfl rfl hs' ?_
      replace hS : Sep w0 w_227 [_, _, _, Mem.one g_34 (.cells ([_, _, _, _, _, _, _, _, _, _, _, _, _, _, v_220, _, _, _, _, _, _, _, _, _] : List Value).toArray 29 (0, 0)), _] Z := hS'
      clear hs' hS'
      refine wpList_nil <| x_then_n <| wp_region_lit <| s_move h rfl rfl fun a h=>?_
      obtain ⟨t_228, et_228, H⟩ := Option.bind_eq_some_iff.1 H
      refine s_call h rfl Try.call37 rfl (hocketref11_row.calls K _ t_216.2.1 _ t_216.2.2 8 t_228 w0 _ _ (A.un N_219) (Mem.un_le (hA.trans (hS.le_zed [1])) (hS.new_zed [1])) (hS.enter [1] (by decide)) hr_226 et_228) ?_
      rintro v_232 w_229 ⟨_, v_236, N_230, M_234, rfl, hS', hr_233, hr_237⟩
      intro a h
      obtain ⟨N_231, hS'', le_231, ln_231⟩ := hS.call [1] (by decide) rfl (l' := [Mem.one g_4 (.cells ([v_236, .bool t_228.2.2] : List Value).toArray 56 (0, 0))]) (ow := [M_234]) rfl hS'
      replace hS : Sep w0 w_229 [N_231, _, Mem.one g_4 (.cells ([v_236, .bool t_228.2.2] : List Value).toArray 56 (0, 0)), _, _, M_234] Z := hS''
      clear hS' hS''
      have hr_238 : Rd Kd.u8 (A.un N_231) v_236 t_228.2.1 := hr_237.mono (Mem.un_le (Mem.un_left le_231) (ln_231.trans (hS.sndA hA)))
      refine s_fieldAddr h rfl U29 rfl ti22 rfl rfl fun a h=>?_
      obtain ⟨w_239, hs', hS'⟩ := hS.store (P := Try.prog) (p := 3) (o := 15) (t := 22) (v := v_232) (vs := [v_232]) rfl ti22 hr_233.cellsA rfl rfl (by intro u hu; simp only [List.mem_cons, List.not_mem_nil, or_false] at hu; rcases hu with rfl <;> first | rfl | exact hr_233.one)
      refine s_store h rfl rfl hs' ?_
      replace hS : Sep w0 w_239 [_, _, _, Mem.one g_34 (.cells ([_, _, _, _, _, _, _, _, _, _, _, _, _, _, _, v_232, _, _, _, _, _, _, _, _] : List Value).toArray 29 (0, 0)), _, _] Z := hS'
      clear hs' hS'
      refine wpList_nil ?_
      replace h : Fr 91 a [(2, _), (3, _), (4, _), (5, _)] := h.keep [2, 3, 4, 5]
      refine x_block_n ?_
      have hS' := hS.room
      replace hS : Sep w0 w_239 [_, _, _, _, _, _, Mem.no] Z := hS'
      clear hS'
      have hS' := hS.room
      replace hS : Sep w0 w_239 [_, _, _, _, _, _, _, Mem.no] Z := hS'
      clear hS'
      have hS' := hS.room
      replace hS : Sep w0 w_239 [_, _, _, _, _, _, _, _, Mem.no] Z := hS'
      clear hS'
      have hS' := hS.room
      replace hS : Sep w0 w_239 [_, _, _, _, _, _, _, _, _, Mem.no] Z := hS'
      clear hS'
      replace hS : Sep w0 w_239 [_, _, _, _, _, _, _, _, _, _] Z := hS
      replace h : Fr 91 a [(2, _), (3, _), (4, _), (5, _)] := h.keep [2, 3, 4, 5]
      exact x_then_n (hJ_j_67 (⟨t_228.2.1, t_228.2.2⟩ : hocketref1_Reader) (⟨t_5.1, t_12.1, t_19.1, t_26.1, 0, 0, false, 0, 0, 0, 0, ([] : List UInt8), t_200.1, t_207.1, t_216.1, t_228.1, 0, (⟨0, 0, (⟨0, 0, ([] : List UInt8), ([] : List UInt8), ([] : List UInt8)⟩ : api_Cmd)⟩ : api_Entry)⟩ : api_Msg) H _ _ ⟨v_236, nS, v_220, v_232, nS, nS, nS, N_231, Mem.no, M_222, M_234, Mem.no, Mem.no, Mem.no, h, (Sep.sel hS [0, 1, 2, 3, 6, 4, 5, 7, 8, 9] (by decide)), (le_203.trans (le_210.trans (le_219.trans le_231))), hr_238, (Own.nil Kd.u8 5 Mem.no), hr_221, hr_233, (Own.nil Kd.u8 5 Mem.no), (Own.nil Kd.u8 5 Mem.no), (Own.nil Kd.u8 5 Mem.no)⟩)
     ·rw [if_neg hc_199] at H
      refine c_cond_f h rfl (beq_eq_false_iff_ne.2 hc_199) <| wp_seq <| wp_region_lit <| s_cmp (b := (t_5.1 == 8)) h rfl rfl rfl (.inl ⟨rfl, rfl⟩) fun a h=>s_assign h rfl rfl fun a h=>wpList_nil <| x_then_n ?_
      by_cases hc_244 : t_5.1 = 8
      ·rw [if_pos hc_244] at H
       refine c_cond_t h rfl (beq_iff_eq.2 hc_244) <| wp_seq <| wp_region_lit <| s_move h rfl rfl fun a h=>?_
       obtain ⟨t_245, et_245, H⟩ := Option.bind_eq_some_iff.1 H
       refine s_call h rfl Try.call35 rfl (hocketref1_Reader_Num.calls K _ t_26.2.1 _ t_26.2.2 1099511627776 t_245 w0 _ _ (A.un N_29) (Mem.un_le (hA.trans (hS.le_zed [1])) (hS.new_zed [1])) (hS.enter [1] (by decide)) hr_32 et_245) ?_
       rintro _ w_246 ⟨v_249, N_247, rfl, hS', hr_250⟩
       intro a h
       obtain ⟨N_248, hS'', le_248, ln_248⟩ := hS.call [1] (by decide) rfl (l' := [Mem.one g_4 (.cells ([v_249, .bool t_245.2.2] : List Value).toArray 56 (0, 0))]) (ow := []) rfl hS'
       replace hS : Sep w0 w_246 [N_248, _, Mem.one g_4 (.cells ([v_249, .bool t_245.2.2] : List Value).toArray 56 (0, 0)), _] Z := hS''
       clear hS' hS''
       have hr_251 : Rd Kd.u8 (A.un N_248) v_249 t_245.2.1 := hr_250.mono (Mem.un_le (Mem.un_left le_248) (ln_248.trans (hS.sndA hA)))
       refine s_fieldAddr h rfl U29 rfl ti3 rfl rfl fun a h=>?_
       obtain ⟨w_252, hs', hS'⟩ := hS.store (P := Try.prog) (p := 3) (o := 16) (t := 3) (v := iV t_245.1) (vs := [iV t_245.1]) rfl ti3 rfl rfl rfl (by intro u hu; simp only [List.mem_cons, List.not_mem_nil, or_false] at hu; rcases hu with rfl <;> rfl)
       refine s_store h rfl rfl hs' ?_
       replace hS : Sep w0 w_252 [_, _, _, Mem.one g_34 (.cells ([_, _, _, _, _, _, _, _, _, _, _, _, _, _, _, _, iV t_245.1, _, _, _, _, _, _, _] : List Value).toArray 29 (0, 0))] Z := hS'
       clear hs' hS'
       refine wpList_nil <| x_then_n <| wp_region_lit <| s_move h rfl rfl fun a h=>?_
       obtain ⟨t_253, et_253, H⟩ := Option.bind_eq_some_iff.1 H
       refine s_call h rfl Try.call38 rfl (hocketref4_GetEntry.calls K _ t_245.2.1 _ t_245.2.2 t_253 w0 _ _ (A.un N_248) (Mem.un_le (hA.trans (hS.le_zed [1])) (hS.new_zed [1])) (hS.enter [1] (by decide)) hr_251 et_253) ?_
       rintro _ w_254 ⟨v_257, v_261, v_265, v_269, N_255, M_259, M_263, M_267, rfl, hS', hr_258, hr_262, hr_266, hr_270⟩
       intro a h
       obtain ⟨N_256, hS'', le_256, ln_256⟩ := hS.call [1] (by decide) rfl (l' := [Mem.one g_4 (.cells ([v_269, .bool t_253.2.2] : List Value).toArray 56 (0, 0))]) (ow := [M_259, M_263, M_267]) rfl hS'
       replace hS : Sep w0 w_254 [N_256, _, Mem.one g_4 (.cells ([v_269, .bool t_253.2.2] : List Value).toArray 56 (0, 0)), _, M_259, M_263, M_267] Z := hS''
       clear hS' hS''
       have hr_271 : Rd Kd.u8 (A.un N_256) v_269 t_253.2.1 := hr_270.mono (Mem.un_le (Mem.un_left le_256) (ln_256.trans (hS.sndA hA)))
       refine s_fieldAddr h rfl U29 rfl ti27 rfl rfl fun a h=>?_
       obtain ⟨w_272, hs', hS'⟩ := hS.store (P := Try.prog) (p := 3) (o := 17) (t := 27) (v := .agg ([iV t_253.1.Sess, iV t_253.1.Seq, iV t_253.1.Cmd.Kind, iV t_253.1.Cmd.Who, v_257, v_261, v_265] : List Value).toArray) (vs := [iV t_253.1.Sess, iV t_253.1.Seq, iV t_253.1.Cmd.Kind, iV t_253.1.Cmd.Who, v_257, v_261, v_265]) rfl ti27 rfl rfl rfl (by intro u hu; simp only [List.mem_cons, List.not_mem_nil, or_false] at hu; rcases hu with rfl | rfl | rfl | rfl | rfl | rfl | rfl <;> first | rfl | exact hr_258.one | exact hr_262.one | exact hr_266.one)
       refine s_store h rfl rfl hs' ?_
       replace hS : Sep w0 w_272 [_, _, _, Mem.one g_34 (.cells ([_, _, _, _, _, _, _, _, _, _, _, _, _, _, _, _, _, iV t_253.1.Sess, iV t_253.1.Seq, iV t_253.1.Cmd.Kind, iV t_253.1.Cmd.Who, v_257, v_261, v_265] : List Value).toArray 29 (0, 0)), _, _, _] Z := hS'
       clear hs' hS'
       refine wpList_nil ?_
       replace h : Fr 91 a [(2, _), (3, _), (4, _), (5, _)] := h.keep [2, 3, 4, 5]
       refine x_block_n ?_
       have hS' := hS.room
       replace hS : Sep w0 w_272 [_, _, _, _, _, _, _, Mem.no] Z := hS'
       clear hS'
       have hS' := hS.room
       replace hS : Sep w0 w_272 [_, _, _, _, _, _, _, _, Mem.no] Z := hS'
       clear hS'
       have hS' := hS.room
       replace hS : Sep w0 w_272 [_, _, _, _, _, _, _, _, _, Mem.no] Z := hS'
       clear hS'
       replace hS : Sep w0 w_272 [_, _, _, _, _, _, _, _, _, _] Z := hS
       replace h : Fr 91 a [(2, _), (3, _), (4, _), (5, _)] := h.keep [2, 3, 4, 5]
       exact x_then_n (hJ_j_67 (⟨t_253.2.1, t_253.2.2⟩ : hocketref1_Reader) (⟨t_5.1, t_12.1, t_19.1, t_26.1, 0, 0, false, 0, 0, 0, 0, ([] : List UInt8), 0, 0, ([] : List Int), ([] : List Int), t_245.1, t_253.1⟩ : api_Msg) H _ _ ⟨v_269, nS, nS, nS, v_257, v_261, v_265, N_256, Mem.no, Mem.no, Mem.no, M_259, M_263, M_267, h, (Sep.sel hS [0, 1, 2, 3, 7, 8, 9, 4, 5, 6] (by decide)), (le_248.trans le_256), hr_271, (Own.nil Kd.u8 5 Mem.no), (Own.nil (Kd.int .i64) 3 Mem.no), (Own.nil (Kd.int .i64) 3 Mem.no), hr_258, hr_262, hr_266⟩)
      ·rw [if_neg hc_244] at H
       refine c_cond_f h rfl (beq_eq_false_iff_ne.2 hc_244) <| wp_skip <| x_block_n ?_
       have hS' := hS.room
       replace hS : Sep w0 w_35 [_, _, _, _, Mem.no] Z := hS'
       clear hS'
       have hS' := hS.room
       replace hS : Sep w0 w_35 [_, _, _, _, _, Mem.no] Z := hS'
       clear hS'
       have hS' := hS.room
       replace hS : Sep w0 w_35 [_, _, _, _, _, _, Mem.no] Z := hS'
       clear hS'
       have hS' := hS.room
       replace hS : Sep w0 w_35 [_, _, _, _, _, _, _, Mem.no] Z := hS'
       clear hS'
       have hS' := hS.room
       replace hS : Sep w0 w_35 [_, _, _, _, _, _, _, _, Mem.no] Z := hS'
       clear hS'
       have hS' := hS.room
       replace hS : Sep w0 w_35 [_, _, _, _, _, _, _, _, _, Mem.no] Z := hS'
       clear hS'
       replace hS : Sep w0 w_35 [_, _, _, _, _, _, _, _, _, _] Z := hS
       replace h : Fr 91 a [(2, _), (3, _), (4, _), (5, _)] := h.keep [2, 3, 4, 5]
       exact x_then_n (hJ_j_67 (⟨t_26.2.1, t_26.2.2⟩ : hocketref1_Reader) (⟨t_5.1, t_12.1, t_19.1, t_26.1, 0, 0, false, 0, 0, 0, 0, ([] : List UInt8), 0, 0, ([] : List Int), ([] : List Int), 0, (⟨0, 0, (⟨0, 0, ([] : List UInt8), ([] : List UInt8), ([] : List UInt8)⟩ : api_Cmd)⟩ : api_Entry)⟩ : api_Msg) H _ _ ⟨v_30, nS, nS, nS, nS, nS, nS, N_29, Mem.no, Mem.no, Mem.no, Mem.no, Mem.no, Mem.no, h, (Sep.sel hS [0, 1, 2, 3, 4, 5, 6, 7, 8, 9] (by decide)), (Mem.le.refl _), hr_32, (Own.nil Kd.u8 5 Mem.no), (Own.nil (Kd.int .i64) 3 Mem.no), (Own.nil (Kd.int .i64) 3 Mem.no), (Own.nil Kd.u8 5 Mem.no), (Own.nil Kd.u8 5 Mem.no), (Own.nil Kd.u8 5 Mem.no)⟩)

set_option maxHeartbeats 4000000 in
set_option maxRecDepth 20000 in
theorem mesg_write_1.calls (K : Nat) (x0 : List Int) (p0_0 : Value) (g1 : Nat) (x1_ : List UInt8) (p1_1 : Value) (M1_1 : Mem) (r : (List UInt8)) (w0 w : World) (Z A : Mem) (hA : A.le Z) (hS : Sep w0 w [Mem.one g1 (.cells ([p1_1] : List Value).toArray 23 (0, 0)), M1_1] Z) (hp0_0 : Rd (Kd.int .i64) A p0_0 x0) (hp1_1 : Own Kd.u8 5 M1_1 Mem.no p1_1 x1_)
    (H : mesg_write_1.f K x0 x1_ = some r) :
    Calls Try.prog 44 [p0_0, .pointer (some ⟨g1, 0, none⟩)].toArray w (Ret fun v w' => ∃ (u0 : Value) (N : Mem) (M100 : Mem), v = .tuple [].toArray ∧ Sep w0 w' [N, Mem.one g1 (.cells ([u0] : List Value).toArray 23 (0, 0)), M100] Z ∧ Own Kd.u8 5 M100 Mem.no u0 r) := by
 unfold mesg_write_1.f at H
 refine f_enter _ Try.func44 rfl Try.ntmps44 rfl fun a h=>?_
 replace h : Fr 15 a [(0, p0_0), (1, .pointer (some ⟨g1, 0, none⟩))] := h
 replace hS := hS.start
 replace hS : Sep w0 w [_, _, _] Z := hS
 refine wp_seq <| wp_region_lit <| s_move h rfl rfl fun a h=>s_len h rfl U22 rfl hp0_0 fun a h=>s_move h rfl rfl fun a h=>wpList_nil <| x_then_n <| c_last fun KJ_1 hKJ_1 => ?_
 have hJ_j_9 : ∀ (x_3 : List UInt8), mesg_write_1.J1 K x_3 = some r → ∀ (a : Act) (w_8 : World), (∃ (v_6 : Value) (N_2 : Mem) (M_4 : Mem), Fr 15 a [] ∧ Sep w0 w_8 [N_2, Mem.one g1 (.cells ([v_6] : List Value).toArray 23 (0, 0)), Mem.no, M_4] Z ∧ Mem.no.le N_2 ∧ Own Kd.u8 5 M_4 Mem.no v_6 x_3) → KJ_1 a w_8 := by
  clear H h hS a
  rintro x_3 H a w_8 ⟨v_6, N_2, M_4, h, hS, le_2, ho_7⟩
  unfold mesg_write_1.J1 at H
  refine hKJ_1 _ _ <| f_end ?_
  obtain rfl := Option.some.inj H
  exact f_ret h (rs := []) rfl .nil ⟨_, rfl, v_6, N_2, M_4, rfl, (Sep.sel hS [0, 1, 3] (by decide)), ho_7⟩
 clear hKJ_1
 replace hS : Sep w0 w [_, _, _] Z := hS
 replace h : Fr 15 a [(1, _), (5, p0_0), (6, iV (x0.length : Int)), (7, iV 0)] := h.keep [1, 5, 6, 7]
 refine c_block <| c_loop (fun k_17 a w_17 => ∃ (x_11 : Int) (x_12 : List UInt8) (v_15 : Value) (N_10 : Mem) (M_13 : Mem), mesg_write_1.L1 K x0 (fun v => mesg_write_1.J1 K v) k_17 (x_11, x_12) = some r ∧ Fr 15 a [(1, .pointer (some ⟨g1, 0, none⟩)), (5, p0_0), (6, iV (x0.length : Int)), (7, iV x_11)] ∧ Sep w0 w_17 [N_10, Mem.one g1 (.cells ([v_15] : List Value).toArray 23 (0, 0)), Mem.no, M_13] Z ∧ Mem.no.le N_10 ∧ Own Kd.u8 5 M_13 Mem.no v_15 x_12) K ⟨0, x1_, p1_1, Mem.no, M1_1, H, h, (Sep.sel hS [0, 1, 1001, 2] (by decide)), (Mem.le.refl _), hp1_1⟩ (fun a w h => by obtain ⟨_, _, _, _, _, H, _⟩ := h; cases (show (none : Option ((List UInt8))) = some r from H)) ?_
 clear h hS a H
 rintro k_17 a w_17 KL_17 hKL_17 ⟨x_11, x_12, v_15, N_10, M_13, H, h, hS, le_10, ho_16⟩
 replace H : mesg_write_1.B1 K x0 (fun v => mesg_write_1.J1 K v) (mesg_write_1.L1 K x0 (fun v => mesg_write_1.J1 K v) k_17) x_11 x_12 = some r := H
 unfold mesg_write_1.B1 at H
 refine wp_seq <| wp_region_lit <| s_cmp (b := decide (x_11 < (x0.length : Int))) h rfl rfl rfl (.inr (.inr (.inl ⟨rfl, rfl⟩))) fun a h=>wpList_nil <| x_then_n <| c_seq fun KJ_19 hKJ_19 => ?_
 by_cases hc_20 : x_11 < (x0.length : Int)
 ·rw [if_pos hc_20] at H
  refine c_cond_t h rfl (decide_eq_true hc_20) <| wp_skip <| x_then_n (hKJ_19 _ _ ?_)
  refine wp_seq <| c_block <| wp_seq <| wp_region_lit ?_
  obtain ⟨t_21, et_21, H⟩ := Option.bind_eq_some_iff.1 H
  refine v_index h rfl U22 ti3 rfl rfl rfl hp0_0 (hA.trans hS.old) et_21 fun ad_22 cs_23 hk_24 hc_25 => ?_
  obtain rfl := (show cs_23 = [iV t_21] from hk_24)
  intro a h
  refine s_load h rfl rfl (el_one (o := 0) hc_25 U3 rfl rfl) fun a h=>s_assign h rfl rfl fun a h=>wpList_nil <| x_then_n <| wp_region_lit <| s_load h rfl rfl (hS.load_one (p := 1) rfl U23 rfl rfl) fun a h=>s_move h rfl rfl fun a h=>?_
  obtain ⟨t_26, et_26, H⟩ := Option.bind_eq_some_iff.1 H
  refine s_call h rfl Try.call45 rfl (pack_Num.calls K x_12 _ t_21 t_26 w0 _ _ _ (Mem.le.refl _) (hS.enter [] (by decide)) (ho_16.rd (hS.own_zed [] 2 (by decide)) (Mem.no_le _)) et_26) ?_
  rintro v_30 w_27 ⟨_, N_28, M_32, rfl, hS', hr_31⟩
  intro a h
  obtain ⟨N_29, hS'', le_29, ln_29⟩ := hS.call [] (by decide) rfl (l' := []) (ow := [M_32]) rfl hS'
  replace hS : Sep w0 w_27 [N_29, _, _, _, M_32] Z := hS''
  clear hS' hS''
  obtain ⟨w_34, hs', hS'⟩ := hS.store (P := Try.prog) (p := 1) (o := 0) (t := 23) (v := v_30) (vs := [v_30]) rfl ti23 hr_31.cellsA rfl rfl (by intro u hu; simp only [List.mem_cons, List.not_mem_nil, or_false] at hu; rcases hu with rfl <;> first | rfl | exact hr_31.one)
  refine s_store h rfl rfl hs' ?_
  replace hS : Sep w0 w_34 [_, Mem.one g1 (.cells ([v_30] : List Value).toArray 23 (0, 0)), _, _, _] Z := hS'
  clear hs' hS'
  refine wpList_nil ?_
  replace h : Fr 15 a [(1, _), (5, _), (6, _), (7, _)] := h.keep [1, 5, 6, 7]
  refine x_block_n <| x_then_n <| wp_region_lit <| s_arith (r := w64 (x_11 + 1)) h rfl rfl rfl (.inl ⟨rfl, rfl⟩) fun a h=>s_move h rfl rfl fun a h=>wpList_nil <| x_then_n (hKL_17 _ _ ?_)
  replace hS : Sep w0 w_34 [_, _, _, _, _] Z := hS
  replace h : Fr 15 a [(1, _), (5, _), (6, _), (7, iV (w64 (x_11 + 1)))] := h.keep [1, 5, 6, 7]
  exact ⟨w64 (x_11 + 1), t_26, v_30, N_29, M_32, H, h, (Sep.sel hS [0, 1, 1001, 4] (by decide)), (le_10.trans le_29), hr_31⟩
 ·rw [if_neg hc_20] at H
  refine c_cond_f h rfl (decide_eq_false hc_20) <| wp_exit (x_then_x (x_then_x (x_block_t ?_)))
  replace hS : Sep w0 w_17 [_, _, _, _] Z := hS
  replace h : Fr 15 a [] := h.keep []
  exact x_then_n (hJ_j_9 x_12 H _ _ ⟨v_15, N_10, M_13, h, (Sep.sel hS [0, 1, 1001, 3] (by decide)), le_10, ho_16⟩)

set_option maxHeartbeats 4000000 in
set_option maxRecDepth 20000 in
theorem mesg_write.calls (K : Nat) (x0 : api_Msg) (p0_0 : Value) (p0_1 : Value) (p0_2 : Value) (p0_3 : Value) (p0_4 : Value) (p0_5 : Value) (r : (List UInt8)) (w0 w : World) (Z A : Mem) (hA : A.le Z) (hS : Sep w0 w [] Z) (hp0_0 : Rd Kd.u8 A p0_0 x0.Data) (hp0_1 : Rd (Kd.int .i64) A p0_1 x0.Have) (hp0_2 : Rd (Kd.int .i64) A p0_2 x0.Need) (hp0_3 : Rd Kd.u8 A p0_3 x0.Entry.Cmd.Key) (hp0_4 : Rd Kd.u8 A p0_4 x0.Entry.Cmd.Val) (hp0_5 : Rd Kd.u8 A p0_5 x0.Entry.Cmd.Old)
    (H : mesg_write.f K x0 = some r) :
    Calls Try.prog 25 [.agg ([iV x0.Kind, iV x0.From, iV x0.To, iV x0.View, iV x0.Inst, iV x0.Len, .bool x0.Has, iV x0.Members, iV x0.Source, iV x0.At, iV x0.Total, p0_0, iV x0.Hop, iV x0.Seq, p0_1, p0_2, iV x0.Index, iV x0.Entry.Sess, iV x0.Entry.Seq, iV x0.Entry.Cmd.Kind, iV x0.Entry.Cmd.Who, p0_3, p0_4, p0_5] : List Value).toArray].toArray w (Ret fun v w' => ∃ (u0 : Value) (N : Mem) (M0 : Mem), v = u0 ∧ Sep w0 w' [N, M0] Z ∧ Own Kd.u8 5 M0 Mem.no u0 r) := by
 unfold mesg_write.f at H
 refine f_enter _ Try.func25 rfl Try.ntmps25 rfl fun a h=>?_
 replace h : Fr 90 a [(0, .agg ([iV x0.Kind, iV x0.From, iV x0.To, iV x0.View, iV x0.Inst, iV x0.Len, .bool x0.Has, iV x0.Members, iV x0.Source, iV x0.At, iV x0.Total, p0_0, iV x0.Hop, iV x0.Seq, p0_1, p0_2, iV x0.Index, iV x0.Entry.Sess, iV x0.Entry.Seq, iV x0.Entry.Cmd.Kind, iV x0.Entry.Cmd.Who, p0_3, p0_4, p0_5] : List Value).toArray)] := h
 replace hS := hS.start
 replace hS : Sep w0 w [_] Z := hS
 refine wp_seq <| wp_region_lit <| v_box (vs := [iV x0.Kind, iV x0.From, iV x0.To, iV x0.View, iV x0.Inst, iV x0.Len, .bool x0.Has, iV x0.Members, iV x0.Source, iV x0.At, iV x0.Total, p0_0, iV x0.Hop, iV x0.Seq, p0_1, p0_2, iV x0.Index, iV x0.Entry.Sess, iV x0.Entry.Seq, iV x0.Entry.Cmd.Kind, iV x0.Entry.Cmd.Who, p0_3, p0_4, p0_5]) h rfl rfl rfl hS fun w_1 g_2 hS' a h => ?_
 replace hS : Sep w0 w_1 [_, Mem.one g_2 (.cells ([iV x0.Kind, iV x0.From, iV x0.To, iV x0.View, iV x0.Inst, iV x0.Len, .bool x0.Has, iV x0.Members, iV x0.Source, iV x0.At, iV x0.Total, p0_0, iV x0.Hop, iV x0.Seq, p0_1, p0_2, iV x0.Index, iV x0.Entry.Sess, iV x0.Entry.Seq, iV x0.Entry.Cmd.Kind, iV x0.Entry.Cmd.Who, p0_3, p0_4, p0_5] : List Value).toArray 29 (0, 0))] Z := hS'
 clear hS'
 refine s_assign h rfl rfl fun a h=>wpList_nil <| x_then_n <| wp_seq <| wp_region_lit <| v_alloc h rfl ti23 hS fun w_3 g_4 hS' a h => ?_
 replace hS : Sep w0 w_3 [_, _, Mem.one g_4 (.cells ([nS] : List Value).toArray 23 (0, 0))] Z := hS'
 clear hS'
 refine wpList_nil <| x_then_n <| wp_seq <| wp_region_lit <| s_func h rfl rfl fun a h=>s_assign h rfl rfl fun a h=>wpList_nil <| x_then_n <| wp_seq <| wp_region_lit <| s_move h rfl rfl fun a h=>s_fieldAddr h rfl U29 rfl ti3 rfl rfl fun a h=>?_
 refine s_load h rfl rfl (hS.load_one (p := 1) rfl U3 rfl rfl) fun a h=>s_fieldAddr h rfl U29 rfl ti3 rfl rfl fun a h=>s_load h rfl rfl (hS.load_one (p := 1) rfl U3 rfl rfl) fun a h=>s_fieldAddr h rfl U29 rfl ti3 rfl rfl fun a h=>s_load h rfl rfl (hS.load_one (p := 1) rfl U3 rfl rfl) fun a h=>s_fieldAddr h rfl U29 rfl ti3 rfl rfl fun a h=>s_load h rfl rfl (hS.load_one (p := 1) rfl U3 rfl rfl) fun a h=>?_
 have hq_9 : Reps (Kd.int .i64) Mem.no ([x0.Kind, x0.From, x0.To, x0.View] : List Int) _ := ((Reps.one (d := (Kd.int .i64)) (x := x0.Kind) (show (Kd.int .i64).K _ _ [iV x0.Kind] from rfl)).append ((Reps.one (d := (Kd.int .i64)) (x := x0.From) (show (Kd.int .i64).K _ _ [iV x0.From] from rfl)).append ((Reps.one (d := (Kd.int .i64)) (x := x0.To) (show (Kd.int .i64).K _ _ [iV x0.To] from rfl)).append ((Reps.one (d := (Kd.int .i64)) (x := x0.View) (show (Kd.int .i64).K _ _ [iV x0.View] from rfl)).append (Reps.nil (Kd.int .i64) _)))))
 refine s_buildSlice h rfl U22 ti3 rfl rfl rfl (.cons rfl (.cons rfl (.cons rfl (.cons rfl .nil)))) rfl rfl rfl hS hq_9 rfl fun w_5 v_6 M_7 hS' ho_8 a h => ?_
 replace hS : Sep w0 w_5 [_, _, _, M_7] Z := hS'
 clear hS' hq_9
 have hS' := hS.room
 replace hS : Sep w0 w_5 [_, _, _, _, Mem.no] Z := hS'
 clear hS'
 replace hS : Sep w0 w_5 [_, _, _, _, _] Z := hS
 obtain ⟨t_12, et_12, H⟩ := Option.bind_eq_some_iff.1 H
 refine s_callv h rfl rfl Try.call44 rfl (mesg_write_1.calls K ([x0.Kind, x0.From, x0.To, x0.View] : List Int) _ _ ([] : List UInt8) _ _ t_12 w0 _ _ _ (Mem.le.refl _) (hS.enter [1, 3] (by decide)) (ho_8.rd (hS.own_zed [1, 3] 2 (by decide)) (Mem.no_le _)) (Own.nil Kd.u8 5 Mem.no) et_12) ?_
 rintro _ w_13 ⟨v_16, N_14, M_18, rfl, hS', hr_17⟩
 intro a h
 obtain ⟨N_15, hS'', le_15, ln_15⟩ := hS.call [1, 3] (by decide) rfl (l' := [Mem.one g_4 (.cells ([v_16] : List Value).toArray 23 (0, 0)), M_18]) (ow := []) rfl hS'
 replace hS : Sep w0 w_13 [N_15, _, Mem.one g_4 (.cells ([v_16] : List Value).toArray 23 (0, 0)), _, M_18] Z := hS''
 clear hS' hS''
 refine wpList_nil ?_
 replace h : Fr 90 a [(1, .pointer (some ⟨g_2, 0, none⟩)), (2, nS), (3, .pointer (some ⟨g_4, 0, none⟩)), (4, .func (.func 44) #[] [.pointer (some ⟨g_4, 0, none⟩)].toArray)] := h.keep [1, 2, 3, 4]
 refine x_then_n <| c_seq fun KJ_20 hKJ_20 => wp_seq <| wp_region_lit <| s_fieldAddr h rfl U29 rfl ti3 rfl rfl fun a h=>s_load h rfl rfl (hS.load_one (p := 1) rfl U3 rfl rfl) fun a h=>wpList_nil <| x_then_n <| c_block <| wp_seq <| wp_region_lit <| s_cmp (b := (x0.Kind == 2)) h rfl rfl rfl (.inl ⟨rfl, rfl⟩) fun a h=>?_
 refine s_assign h rfl rfl fun a h=>wpList_nil <| x_then_n ?_
 by_cases hc_21 : x0.Kind = 2
 ·rw [if_pos hc_21] at H
  refine c_cond_t h rfl (beq_iff_eq.2 hc_21) <| h_begin (S := fun w => Sep w0 w [N_15, Mem.one g_2 (.cells ([iV x0.Kind, iV x0.From, iV x0.To, iV x0.View, iV x0.Inst, iV x0.Len, .bool x0.Has, iV x0.Members, iV x0.Source, iV x0.At, iV x0.Total, p0_0, iV x0.Hop, iV x0.Seq, p0_1, p0_2, iV x0.Index, iV x0.Entry.Sess, iV x0.Entry.Seq, iV x0.Entry.Cmd.Kind, iV x0.Entry.Cmd.Who, p0_3, p0_4, p0_5] : List Value).toArray 29 (0, 0)), Mem.no, M_7, Mem.no] Z) 10 (by kernel_rfl) rfl (bA 10 0) (by kernel_rfl) hS fun w_22 hS => ?_
  replace hS : Sep w0 w_22 [_, _, _, _, _] Z := hS
  refine t_take 0 (bA 10 1) rfl rfl rfl rfl h (hS.sub (.cons (Mem.le.refl _) (.rr (.zz (.rr (.zz .ii)))))) (v := .func (.func 44) #[] [.pointer (some ⟨g_4, 0, none⟩)].toArray) (fun w hS => r_move h rfl) fun a h=>t_take 1 (bA 10 3) rfl rfl rfl rfl h (hS.sub (.cons (Mem.le.refl _) (.rr (.zz (.rr (.zz .ii)))))) (v := .pointer (some ⟨g_2, 4, none⟩)) (fun w hS => r_fieldAddr h U29 rfl ti3 rfl rfl rfl) fun a h=>t_take 2 (bA 10 7) rfl rfl rfl rfl h (hS.sub (.cons (Mem.le.refl _) (.rr (.zz (.rr (.zz .ii)))))) (v := iV x0.Inst) (fun w hS => r_load h rfl (hS.load_one (p := 1) rfl U3 rfl rfl)) fun a h=>t_take 3 (bA 10 15) rfl rfl rfl rfl h (hS.sub (.cons (Mem.le.refl _) (.rr (.zz (.rr (.zz .ii)))))) (v := .pointer (some ⟨g_2, 5, none⟩)) (fun w hS => r_fieldAddr h U29 rfl ti3 rfl rfl rfl) fun a h=>t_take 4 (bA 10 31) rfl rfl rfl rfl h (hS.sub (.cons (Mem.le.refl _) (.rr (.zz (.rr (.zz .ii)))))) (v := iV x0.Len) (fun w hS => r_load h rfl (hS.load_one (p := 1) rfl U3 rfl rfl)) fun a h=>t_take 5 (bA 10 63) rfl rfl rfl rfl h (hS.sub (.cons (Mem.le.refl _) (.rr (.zz (.rr (.zz .ii)))))) (v := .pointer (some ⟨g_2, 6, none⟩)) (fun w hS => r_fieldAddr h U29 rfl ti4 rfl rfl rfl) fun a h=>?_
  refine t_take 6 (bA 10 127) rfl rfl rfl rfl h (hS.sub (.cons (Mem.le.refl _) (.rr (.zz (.rr (.zz .ii)))))) (v := .bool x0.Has) (fun w hS => r_load h rfl (hS.load_one (p := 1) rfl U4 rfl rfl)) fun a h=>h_event 7 (bA 10 255) rfl (by kernel_rfl) (by kernel_rfl) ?_
  obtain ⟨t_23, et_23, H⟩ := Option.bind_eq_some_iff.1 H
  refine s_call h rfl Try.call46 rfl (mesg_flag.calls x0.Has t_23 w0 _ _ _ (Mem.le.refl _) (hS.enter [] (by decide))  et_23) ?_
  rintro _ w_24 ⟨N_25, rfl, hS'⟩
  intro a h
  obtain ⟨N_26, hS'', le_26, ln_26⟩ := hS.call [] (by decide) rfl (l' := []) (ow := []) rfl hS'
  replace hS : Sep w0 w_24 [N_26, _, _, _, _] Z := hS''
  clear hS' hS''
  refine wpList_nil <| x_then_n ⟨(hS.sub (.cons le_26 (.rr (.zz (.rr (.zz .ii)))))), ?_⟩
  refine h_event 8 (bA 10 511) rfl (by kernel_rfl) (by kernel_rfl) ?_
  have hq_31 : Reps (Kd.int .i64) Mem.no ([x0.Inst, x0.Len, t_23] : List Int) _ := ((Reps.one (d := (Kd.int .i64)) (x := x0.Inst) (show (Kd.int .i64).K _ _ [iV x0.Inst] from rfl)).append ((Reps.one (d := (Kd.int .i64)) (x := x0.Len) (show (Kd.int .i64).K _ _ [iV x0.Len] from rfl)).append ((Reps.one (d := (Kd.int .i64)) (x := t_23) (show (Kd.int .i64).K _ _ [iV t_23] from rfl)).append (Reps.nil (Kd.int .i64) _))))
  refine s_buildSlice h rfl U22 ti3 rfl rfl rfl (.cons rfl (.cons rfl (.cons rfl .nil))) rfl rfl rfl hS hq_31 rfl fun w_27 v_28 M_29 hS' ho_30 a h => ?_
  replace hS : Sep w0 w_27 [_, _, _, _, _, M_29] Z := hS'
  clear hS' hq_31
  refine wpList_nil <| x_then_n ⟨(hS.sub (.cons le_26 (.rr (.zz (.rr (.zz .nn)))))), ?_⟩
  refine h_event 9 (bA 10 1023) rfl (by kernel_rfl) (by kernel_rfl) ?_
  obtain ⟨t_33, et_33, H⟩ := Option.bind_eq_some_iff.1 H
  refine s_callv h rfl rfl Try.call44 rfl (mesg_write_1.calls K ([x0.Inst, x0.Len, t_23] : List Int) _ _ t_12 _ _ t_33 w0 _ _ _ (Mem.le.refl _) (hS.enter [1, 3] (by decide)) (ho_30.rd (hS.own_zed [1, 3] 4 (by decide)) (Mem.no_le _)) hr_17 et_33) ?_
  rintro _ w_34 ⟨v_37, N_35, M_39, rfl, hS', hr_38⟩
  intro a h
  obtain ⟨N_36, hS'', le_36, ln_36⟩ := hS.call [1, 3] (by decide) rfl (l' := [Mem.one g_4 (.cells ([v_37] : List Value).toArray 23 (0, 0)), M_39]) (ow := []) rfl hS'
  replace hS : Sep w0 w_34 [N_36, _, Mem.one g_4 (.cells ([v_37] : List Value).toArray 23 (0, 0)), _, M_39, _] Z := hS''
  clear hS' hS''
  refine wpList_nil <| x_then_n ⟨(hS.sub (.cons (le_26.trans le_36) (.rr (.zz (.rr (.zz .nn)))))), ?_⟩
  refine h_done (by kernel_rfl) <| x_block_n <| x_then_n (hKJ_20 _ _ ?_)
  refine wp_seq <| wp_region_lit <| s_load h rfl rfl (hS.load_one (p := 2) rfl U23 rfl rfl) fun a h=>s_assign h rfl rfl fun a h=>wpList_nil ?_
  replace h : Fr 90 a [(2, v_37)] := h.keep [2]
  refine x_then_n <| wp_ret ?_
  obtain rfl := Option.some.inj H
  exact f_ret h (rs := [.tmp 2]) rfl (.tmp rfl .nil) ⟨_, rfl, v_37, N_36, M_39, rfl, (Sep.sel hS [0, 4] (by decide)), hr_38⟩
 ·rw [if_neg hc_21] at H
  refine c_cond_f h rfl (beq_eq_false_iff_ne.2 hc_21) <| wp_seq <| wp_region_lit <| s_cmp (b := (x0.Kind == 3)) h rfl rfl rfl (.inl ⟨rfl, rfl⟩) fun a h=>s_assign h rfl rfl fun a h=>wpList_nil <| x_then_n ?_
  by_cases hc_41 : x0.Kind = 3
  ·rw [if_pos hc_41] at H
   refine c_cond_t h rfl (beq_iff_eq.2 hc_41) <| wp_region_lit <| s_move h rfl rfl fun a h=>s_fieldAddr h rfl U29 rfl ti3 rfl rfl fun a h=>s_load h rfl rfl (hS.load_one (p := 1) rfl U3 rfl rfl) fun a h=>s_fieldAddr h rfl U29 rfl ti3 rfl rfl fun a h=>s_load h rfl rfl (hS.load_one (p := 1) rfl U3 rfl rfl) fun a h=>s_fieldAddr h rfl U29 rfl ti3 rfl rfl fun a h=>s_load h rfl rfl (hS.load_one (p := 1) rfl U3 rfl rfl) fun a h=>?_
   have hq_46 : Reps (Kd.int .i64) Mem.no ([x0.Members, x0.Source, x0.Len] : List Int) _ := ((Reps.one (d := (Kd.int .i64)) (x := x0.Members) (show (Kd.int .i64).K _ _ [iV x0.Members] from rfl)).append ((Reps.one (d := (Kd.int .i64)) (x := x0.Source) (show (Kd.int .i64).K _ _ [iV x0.Source] from rfl)).append ((Reps.one (d := (Kd.int .i64)) (x := x0.Len) (show (Kd.int .i64).K _ _ [iV x0.Len] from rfl)).append (Reps.nil (Kd.int .i64) _))))
   refine s_buildSlice h rfl U22 ti3 rfl rfl rfl (.cons rfl (.cons rfl (.cons rfl .nil))) rfl rfl rfl hS hq_46 rfl fun w_42 v_43 M_44 hS' ho_45 a h => ?_
   replace hS : Sep w0 w_42 [_, _, _, _, _, M_44] Z := hS'
   clear hS' hq_46
   obtain ⟨t_48, et_48, H⟩ := Option.bind_eq_some_iff.1 H
   refine s_callv h rfl rfl Try.call44 rfl (mesg_write_1.calls K ([x0.Members, x0.Source, x0.Len] : List Int) _ _ t_12 _ _ t_48 w0 _ _ _ (Mem.le.refl _) (hS.enter [1, 3] (by decide)) (ho_45.rd (hS.own_zed [1, 3] 4 (by decide)) (Mem.no_le _)) hr_17 et_48) ?_
   rintro _ w_49 ⟨v_52, N_50, M_54, rfl, hS', hr_53⟩
   intro a h
   obtain ⟨N_51, hS'', le_51, ln_51⟩ := hS.call [1, 3] (by decide) rfl (l' := [Mem.one g_4 (.cells ([v_52] : List Value).toArray 23 (0, 0)), M_54]) (ow := []) rfl hS'
   replace hS : Sep w0 w_49 [N_51, _, Mem.one g_4 (.cells ([v_52] : List Value).toArray 23 (0, 0)), _, M_54, _] Z := hS''
   clear hS' hS''
   refine wpList_nil ?_
   replace h : Fr 90 a [(2, _), (3, _)] := h.keep [2, 3]
   refine x_block_n <| x_then_n (hKJ_20 _ _ ?_)
   refine wp_seq <| wp_region_lit <| s_load h rfl rfl (hS.load_one (p := 2) rfl U23 rfl rfl) fun a h=>s_assign h rfl rfl fun a h=>wpList_nil <| x_then_n <| wp_ret ?_
   obtain rfl := Option.some.inj H
   exact f_ret h (rs := [.tmp 2]) rfl (.tmp rfl .nil) ⟨_, rfl, v_52, N_51, M_54, rfl, (Sep.sel hS [0, 4] (by decide)), hr_53⟩
  ·rw [if_neg hc_41] at H
   refine c_cond_f h rfl (beq_eq_false_iff_ne.2 hc_41) <| wp_seq <| wp_region_lit <| s_cmp (b := (x0.Kind == 4)) h rfl rfl rfl (.inl ⟨rfl, rfl⟩) fun a h=>s_assign h rfl rfl fun a h=>wpList_nil ?_
   replace h : Fr 90 a [(1, _), (2, _), (3, _), (4, _), (18, iV x0.Kind), (42, .bool (x0.Kind == 4))] := h.keep [1, 2, 3, 4, 18, 42]
   refine x_then_n ?_
   by_cases hc_56 : x0.Kind = 4
   ·rw [if_pos hc_56] at H
    refine c_cond_t h rfl (beq_iff_eq.2 hc_56) <| wp_region_lit <| s_move h rfl rfl fun a h=>s_fieldAddr h rfl U29 rfl ti3 rfl rfl fun a h=>s_load h rfl rfl (hS.load_one (p := 1) rfl U3 rfl rfl) fun a h=>?_
    have hq_61 : Reps (Kd.int .i64) Mem.no ([x0.At] : List Int) _ := ((Reps.one (d := (Kd.int .i64)) (x := x0.At) (show (Kd.int .i64).K _ _ [iV x0.At] from rfl)).append (Reps.nil (Kd.int .i64) _))
    refine s_buildSlice h rfl U22 ti3 rfl rfl rfl (.cons rfl .nil) rfl rfl rfl hS hq_61 rfl fun w_57 v_58 M_59 hS' ho_60 a h => ?_
    replace hS : Sep w0 w_57 [_, _, _, _, _, M_59] Z := hS'
    clear hS' hq_61
    obtain ⟨t_63, et_63, H⟩ := Option.bind_eq_some_iff.1 H
    refine s_callv h rfl rfl Try.call44 rfl (mesg_write_1.calls K ([x0.At] : List Int) _ _ t_12 _ _ t_63 w0 _ _ _ (Mem.le.refl _) (hS.enter [1, 3] (by decide)) (ho_60.rd (hS.own_zed [1, 3] 4 (by decide)) (Mem.no_le _)) hr_17 et_63) ?_
    rintro _ w_64 ⟨v_67, N_65, M_69, rfl, hS', hr_68⟩
    intro a h
    obtain ⟨N_66, hS'', le_66, ln_66⟩ := hS.call [1, 3] (by decide) rfl (l' := [Mem.one g_4 (.cells ([v_67] : List Value).toArray 23 (0, 0)), M_69]) (ow := []) rfl hS'
    replace hS : Sep w0 w_64 [N_66, _, Mem.one g_4 (.cells ([v_67] : List Value).toArray 23 (0, 0)), _, M_69, _] Z := hS''
    clear hS' hS''
    refine wpList_nil <| x_block_n <| x_then_n (hKJ_20 _ _ ?_)
    refine wp_seq <| wp_region_lit <| s_load h rfl rfl (hS.load_one (p := 2) rfl U23 rfl rfl) fun a h=>s_assign h rfl rfl fun a h=>wpList_nil <| x_then_n <| wp_ret ?_
    obtain rfl := Option.some.inj H
    exact f_ret h (rs := [.tmp 2]) rfl (.tmp rfl .nil) ⟨_, rfl, v_67, N_66, M_69, rfl, (Sep.sel hS [0, 4] (by decide)), hr_68⟩
   ·rw [if_neg hc_56] at H
    refine c_cond_f h rfl (beq_eq_false_iff_ne.2 hc_56) <| wp_seq <| wp_region_lit <| s_cmp (b := (x0.Kind == 5)) h rfl rfl rfl (.inl ⟨rfl, rfl⟩) fun a h=>s_assign h rfl rfl fun a h=>wpList_nil <| x_then_n ?_
    by_cases hc_71 : x0.Kind = 5
    ·rw [if_pos hc_71] at H
     refine c_cond_t h rfl (beq_iff_eq.2 hc_71) <| wp_seq <| wp_region_lit <| s_move h rfl rfl fun a h=>s_fieldAddr h rfl U29 rfl ti3 rfl rfl fun a h=>s_load h rfl rfl (hS.load_one (p := 1) rfl U3 rfl rfl) fun a h=>s_fieldAddr h rfl U29 rfl ti3 rfl rfl fun a h=>s_load h rfl rfl (hS.load_one (p := 1) rfl U3 rfl rfl) fun a h=>?_
     have hq_76 : Reps (Kd.int .i64) Mem.no ([x0.At, x0.Total] : List Int) _ := ((Reps.one (d := (Kd.int .i64)) (x := x0.At) (show (Kd.int .i64).K _ _ [iV x0.At] from rfl)).append ((Reps.one (d := (Kd.int .i64)) (x := x0.Total) (show (Kd.int .i64).K _ _ [iV x0.Total] from rfl)).append (Reps.nil (Kd.int .i64) _)))
     refine s_buildSlice h rfl U22 ti3 rfl rfl rfl (.cons rfl (.cons rfl .nil)) rfl rfl rfl hS hq_76 rfl fun w_72 v_73 M_74 hS' ho_75 a h => ?_
     replace hS : Sep w0 w_72 [_, _, _, _, _, M_74] Z := hS'
     clear hS' hq_76
     obtain ⟨t_78, et_78, H⟩ := Option.bind_eq_some_iff.1 H
     refine s_callv h rfl rfl Try.call44 rfl (mesg_write_1.calls K ([x0.At, x0.Total] : List Int) _ _ t_12 _ _ t_78 w0 _ _ _ (Mem.le.refl _) (hS.enter [1, 3] (by decide)) (ho_75.rd (hS.own_zed [1, 3] 4 (by decide)) (Mem.no_le _)) hr_17 et_78) ?_
     rintro _ w_79 ⟨v_82, N_80, M_84, rfl, hS', hr_83⟩
     intro a h
     obtain ⟨N_81, hS'', le_81, ln_81⟩ := hS.call [1, 3] (by decide) rfl (l' := [Mem.one g_4 (.cells ([v_82] : List Value).toArray 23 (0, 0)), M_84]) (ow := []) rfl hS'
     replace hS : Sep w0 w_79 [N_81, _, Mem.one g_4 (.cells ([v_82] : List Value).toArray 23 (0, 0)), _, M_84, _] Z := hS''
     clear hS' hS''
     refine wpList_nil <| x_then_n <| wp_region_lit <| s_load h rfl rfl (hS.load_one (p := 2) rfl U23 rfl rfl) fun a h=>s_fieldAddr h rfl U29 rfl ti23 rfl rfl fun a h=>s_load h rfl rfl (hS.load_one (p := 1) rfl U23 rfl rfl) fun a h=>?_
     obtain ⟨t_86, et_86, H⟩ := Option.bind_eq_some_iff.1 H
     refine s_call h rfl Try.call47 rfl (pack_Bytes.calls K t_78 _ x0.Data _ t_86 w0 _ _ _ (Mem.le.refl _) (hS.enter [] (by decide)) (hr_83.rd (hS.own_zed [] 3 (by decide)) (Mem.no_le _)) (hp0_0.mono (hA.trans (hS.le_zed []))) et_86) ?_
     rintro v_90 w_87 ⟨_, N_88, M_92, rfl, hS', hr_91⟩
     intro a h
     obtain ⟨N_89, hS'', le_89, ln_89⟩ := hS.call [] (by decide) rfl (l' := []) (ow := [M_92]) rfl hS'
     replace hS : Sep w0 w_87 [N_89, _, _, _, _, _, M_92] Z := hS''
     clear hS' hS''
     obtain ⟨w_94, hs', hS'⟩ := hS.store (P := Try.prog) (p := 2) (o := 0) (t := 23) (v := v_90) (vs := [v_90]) rfl ti23 hr_91.cellsA rfl rfl (by intro u hu; simp only [List.mem_cons, List.not_mem_nil, or_false] at hu; rcases hu with rfl <;> first | rfl | exact hr_91.one)
     refine s_store h rfl rfl hs' ?_
     replace hS : Sep w0 w_94 [_, _, Mem.one g_4 (.cells ([v_90] : List Value).toArray 23 (0, 0)), _, _, _, _] Z := hS'
     clear hs' hS'
     refine wpList_nil <| x_block_n <| x_then_n (hKJ_20 _ _ ?_)
     refine wp_seq <| wp_region_lit <| s_load h rfl rfl (hS.load_one (p := 2) rfl U23 rfl rfl) fun a h=>s_assign h rfl rfl fun a h=>wpList_nil ?_
     replace h : Fr 90 a [(2, v_90)] := h.keep [2]
     refine x_then_n <| wp_ret ?_
     obtain rfl := Option.some.inj H
     exact f_ret h (rs := [.tmp 2]) rfl (.tmp rfl .nil) ⟨_, rfl, v_90, N_89, M_92, rfl, (Sep.sel hS [0, 6] (by decide)), hr_91⟩
    ·rw [if_neg hc_71] at H
     refine c_cond_f h rfl (beq_eq_false_iff_ne.2 hc_71) <| wp_seq <| wp_region_lit <| s_cmp (b := (x0.Kind == 7)) h rfl rfl rfl (.inl ⟨rfl, rfl⟩) fun a h=>s_assign h rfl rfl fun a h=>wpList_nil <| x_then_n ?_
     by_cases hc_95 : x0.Kind = 7
     ·rw [if_pos hc_95] at H
      refine c_cond_t h rfl (beq_iff_eq.2 hc_95) <| wp_seq <| wp_region_lit <| s_move h rfl rfl fun a h=>s_fieldAddr h rfl U29 rfl ti3 rfl rfl fun a h=>s_load h rfl rfl (hS.load_one (p := 1) rfl U3 rfl rfl) fun a h=>s_fieldAddr h rfl U29 rfl ti3 rfl rfl fun a h=>s_load h rfl rfl (hS.load_one (p := 1) rfl U3 rfl rfl) fun a h=>?_
      have hq_100 : Reps (Kd.int .i64) Mem.no ([x0.Hop, x0.Seq] : List Int) _ := ((Reps.one (d := (Kd.int .i64)) (x := x0.Hop) (show (Kd.int .i64).K _ _ [iV x0.Hop] from rfl)).append ((Reps.one (d := (Kd.int .i64)) (x := x0.Seq) (show (Kd.int .i64).K _ _ [iV x0.Seq] from rfl)).append (Reps.nil (Kd.int .i64) _)))
      refine s_buildSlice h rfl U22 ti3 rfl rfl rfl (.cons rfl (.cons rfl .nil)) rfl rfl rfl hS hq_100 rfl fun w_96 v_97 M_98 hS' ho_99 a h => ?_
      replace hS : Sep w0 w_96 [_, _, _, _, _, M_98] Z := hS'
      clear hS' hq_100
      obtain ⟨t_102, et_102, H⟩ := Option.bind_eq_some_iff.1 H
      refine s_callv h rfl rfl Try.call44 rfl (mesg_write_1.calls K ([x0.Hop, x0.Seq] : List Int) _ _ t_12 _ _ t_102 w0 _ _ _ (Mem.le.refl _) (hS.enter [1, 3] (by decide)) (ho_99.rd (hS.own_zed [1, 3] 4 (by decide)) (Mem.no_le _)) hr_17 et_102) ?_
      rintro _ w_103 ⟨v_106, N_104, M_108, rfl, hS', hr_107⟩
      intro a h
      obtain ⟨N_105, hS'', le_105, ln_105⟩ := hS.call [1, 3] (by decide) rfl (l' := [Mem.one g_4 (.cells ([v_106] : List Value).toArray 23 (0, 0)), M_108]) (ow := []) rfl hS'
      replace hS : Sep w0 w_103 [N_105, _, Mem.one g_4 (.cells ([v_106] : List Value).toArray 23 (0, 0)), _, M_108, _] Z := hS''
      clear hS' hS''
      refine wpList_nil <| x_then_n <| h_begin (S := fun w => Sep w0 w [N_105, Mem.one g_2 (.cells ([iV x0.Kind, iV x0.From, iV x0.To, iV x0.View, iV x0.Inst, iV x0.Len, .bool x0.Has, iV x0.Members, iV x0.Source, iV x0.At, iV x0.Total, p0_0, iV x0.Hop, iV x0.Seq, p0_1, p0_2, iV x0.Index, iV x0.Entry.Sess, iV x0.Entry.Seq, iV x0.Entry.Cmd.Kind, iV x0.Entry.Cmd.Who, p0_3, p0_4, p0_5] : List Value).toArray 29 (0, 0)), Mem.no, M_7, M_108, M_98] Z) 8 (by kernel_rfl) rfl (bA 8 0) (by kernel_rfl) hS fun w_110 hS => ?_
      replace hS : Sep w0 w_110 [_, _, _, _, _, _] Z := hS
      refine t_take 1 (bA 8 2) rfl rfl rfl rfl h (hS.sub (.cons (Mem.le.refl _) (.rr (.zz .ii)))) (v := .pointer (some ⟨g_2, 14, none⟩)) (fun w hS => r_fieldAddr h U29 rfl ti22 rfl rfl rfl) fun a h=>t_take 2 (bA 8 6) rfl rfl rfl rfl h (hS.sub (.cons (Mem.le.refl _) (.rr (.zz .ii)))) (v := p0_1) (fun w hS => r_load h rfl (hS.load_one (p := 1) rfl U22 rfl rfl)) fun a h=>t_take 4 (bA 8 22) rfl rfl rfl rfl h (hS.sub (.cons (Mem.le.refl _) (.rr (.zz .ii)))) (v := .pointer (some ⟨g_2, 15, none⟩)) (fun w hS => r_fieldAddr h U29 rfl ti22 rfl rfl rfl) fun a h=>t_take 5 (bA 8 54) rfl rfl rfl rfl h (hS.sub (.cons (Mem.le.refl _) (.rr (.zz .ii)))) (v := p0_2) (fun w hS => r_load h rfl (hS.load_one (p := 1) rfl U22 rfl rfl)) fun a h=>h_event 0 (bA 8 55) rfl (by kernel_rfl) (by kernel_rfl) <| s_load h rfl rfl (hS.load_one (p := 2) rfl U23 rfl rfl) fun a h=>wpList_nil <| x_then_n ⟨(hS.sub (.cons (Mem.le.refl _) (.rr (.zz .ii)))), ?_⟩
      refine h_event 3 (bA 8 63) rfl (by kernel_rfl) (by kernel_rfl) ?_
      obtain ⟨t_111, et_111, H⟩ := Option.bind_eq_some_iff.1 H
      refine s_call h rfl Try.call48 rfl (mesg_row.calls K t_102 _ x0.Have _ t_111 w0 _ _ _ (Mem.le.refl _) (hS.enter [] (by decide)) (hr_107.rd (hS.own_zed [] 3 (by decide)) (Mem.no_le _)) (hp0_1.mono (hA.trans (hS.le_zed []))) et_111) ?_
      rintro v_115 w_112 ⟨_, N_113, M_117, rfl, hS', hr_116⟩
      intro a h
      obtain ⟨N_114, hS'', le_114, ln_114⟩ := hS.call [] (by decide) rfl (l' := []) (ow := [M_117]) rfl hS'
      replace hS : Sep w0 w_112 [N_114, _, _, _, _, _, M_117] Z := hS''
      clear hS' hS''
      refine wpList_nil <| x_then_n ⟨(hS.sub (.cons le_114 (.rr (.zz (.rr (.rr (.rr .nn))))))), ?_⟩
      refine h_event 6 (bA 8 127) rfl (by kernel_rfl) (by kernel_rfl) ?_
      obtain ⟨t_119, et_119, H⟩ := Option.bind_eq_some_iff.1 H
      refine s_call h rfl Try.call48 rfl (mesg_row.calls K t_111 _ x0.Need _ t_119 w0 _ _ _ (Mem.le.refl _) (hS.enter [] (by decide)) (hr_116.rd (hS.own_zed [] 5 (by decide)) (Mem.no_le _)) (hp0_2.mono (hA.trans (hS.le_zed []))) et_119) ?_
      rintro v_123 w_120 ⟨_, N_121, M_125, rfl, hS', hr_124⟩
      intro a h
      obtain ⟨N_122, hS'', le_122, ln_122⟩ := hS.call [] (by decide) rfl (l' := []) (ow := [M_125]) rfl hS'
      replace hS : Sep w0 w_120 [N_122, _, _, _, _, _, _, M_125] Z := hS''
      clear hS' hS''
      refine wpList_nil <| x_then_n ⟨(hS.sub (.cons (le_114.trans le_122) (.rr (.zz (.rr (.rr (.rr .nn))))))), ?_⟩
      refine h_event 7 (bA 8 255) rfl (by kernel_rfl) (by kernel_rfl) ?_
      obtain ⟨w_127, hs', hS'⟩ := hS.store (P := Try.prog) (p := 2) (o := 0) (t := 23) (v := v_123) (vs := [v_123]) rfl ti23 hr_124.cellsA rfl rfl (by intro u hu; simp only [List.mem_cons, List.not_mem_nil, or_false] at hu; rcases hu with rfl <;> first | rfl | exact hr_124.one)
      refine s_store h rfl rfl hs' ?_
      replace hS : Sep w0 w_127 [_, _, Mem.one g_4 (.cells ([v_123] : List Value).toArray 23 (0, 0)), _, _, _, _, _] Z := hS'
      clear hs' hS'
      refine wpList_nil <| x_then_n ⟨(hS.sub (.cons (le_114.trans le_122) (.rr (.zz (.rr (.rr (.rr .nn))))))), ?_⟩
      refine h_done (by kernel_rfl) ?_
      replace h : Fr 90 a [(2, _), (3, _)] := h.keep [2, 3]
      refine x_block_n <| x_then_n (hKJ_20 _ _ ?_)
      refine wp_seq <| wp_region_lit <| s_load h rfl rfl (hS.load_one (p := 2) rfl U23 rfl rfl) fun a h=>s_assign h rfl rfl fun a h=>wpList_nil <| x_then_n <| wp_ret ?_
      obtain rfl := Option.some.inj H
      exact f_ret h (rs := [.tmp 2]) rfl (.tmp rfl .nil) ⟨_, rfl, v_123, N_122, M_125, rfl, (Sep.sel hS [0, 7] (by decide)), hr_124⟩
     ·rw [if_neg hc_95] at H
      refine c_cond_f h rfl (beq_eq_false_iff_ne.2 hc_95) <| wp_seq <| wp_region_lit <| s_cmp (b := (x0.Kind == 8)) h rfl rfl rfl (.inl ⟨rfl, rfl⟩) fun a h=>s_assign h rfl rfl fun a h=>wpList_nil <| x_then_n ?_
      by_cases hc_128 : x0.Kind = 8
      ·rw [if_pos hc_128] at H
       refine c_cond_t h rfl (beq_iff_eq.2 hc_128) <| wp_seq <| wp_region_lit <| s_move h rfl rfl fun a h=>s_fieldAddr h rfl U29 rfl ti3 rfl rfl fun a h=>s_load h rfl rfl (hS.load_one (p := 1) rfl U3 rfl rfl) fun a h=>?_
       have hq_133 : Reps (Kd.int .i64) Mem.no ([x0.Index] : List Int) _ := ((Reps.one (d := (Kd.int .i64)) (x := x0.Index) (show (Kd.int .i64).K _ _ [iV x0.Index] from rfl)).append (Reps.nil (Kd.int .i64) _))
       refine s_buildSlice h rfl U22 ti3 rfl rfl rfl (.cons rfl .nil) rfl rfl rfl hS hq_133 rfl fun w_129 v_130 M_131 hS' ho_132 a h => ?_
       replace hS : Sep w0 w_129 [_, _, _, _, _, M_131] Z := hS'
       clear hS' hq_133
       obtain ⟨t_135, et_135, H⟩ := Option.bind_eq_some_iff.1 H
       refine s_callv h rfl rfl Try.call44 rfl (mesg_write_1.calls K ([x0.Index] : List Int) _ _ t_12 _ _ t_135 w0 _ _ _ (Mem.le.refl _) (hS.enter [1, 3] (by decide)) (ho_132.rd (hS.own_zed [1, 3] 4 (by decide)) (Mem.no_le _)) hr_17 et_135) ?_
       rintro _ w_136 ⟨v_139, N_137, M_141, rfl, hS', hr_140⟩
       intro a h
       obtain ⟨N_138, hS'', le_138, ln_138⟩ := hS.call [1, 3] (by decide) rfl (l' := [Mem.one g_4 (.cells ([v_139] : List Value).toArray 23 (0, 0)), M_141]) (ow := []) rfl hS'
       replace hS : Sep w0 w_136 [N_138, _, Mem.one g_4 (.cells ([v_139] : List Value).toArray 23 (0, 0)), _, M_141, _] Z := hS''
       clear hS' hS''
       refine wpList_nil ?_
       replace h : Fr 90 a [(1, _), (2, _), (3, _)] := h.keep [1, 2, 3]
       refine x_then_n <| wp_region_lit <| s_load h rfl rfl (hS.load_one (p := 2) rfl U23 rfl rfl) fun a h=>s_fieldAddr h rfl U29 rfl ti27 rfl rfl fun a h=>s_load h rfl rfl (hS.load_agg (p := 1) (us := [iV x0.Entry.Sess, iV x0.Entry.Seq, iV x0.Entry.Cmd.Kind, iV x0.Entry.Cmd.Who, p0_3, p0_4, p0_5]) rfl U27 rfl ti27 rfl rfl) fun a h=>?_
       obtain ⟨t_143, et_143, H⟩ := Option.bind_eq_some_iff.1 H
       refine s_call h rfl Try.call49 rfl (mach_PutEntry.calls K t_135 _ x0.Entry _ _ _ t_143 w0 _ _ _ (Mem.le.refl _) (hS.enter [] (by decide)) (hr_140.rd (hS.own_zed [] 3 (by decide)) (Mem.no_le _)) (hp0_3.mono (hA.trans (hS.le_zed []))) (hp0_4.mono (hA.trans (hS.le_zed []))) (hp0_5.mono (hA.trans (hS.le_zed []))) et_143) ?_
       rintro v_147 w_144 ⟨_, N_145, M_149, rfl, hS', hr_148⟩
       intro a h
       obtain ⟨N_146, hS'', le_146, ln_146⟩ := hS.call [] (by decide) rfl (l' := []) (ow := [M_149]) rfl hS'
       replace hS : Sep w0 w_144 [N_146, _, _, _, _, _, M_149] Z := hS''
       clear hS' hS''
       obtain ⟨w_151, hs', hS'⟩ := hS.store (P := Try.prog) (p := 2) (o := 0) (t := 23) (v := v_147) (vs := [v_147]) rfl ti23 hr_148.cellsA rfl rfl (by intro u hu; simp only [List.mem_cons, List.not_mem_nil, or_false] at hu; rcases hu with rfl <;> first | rfl | exact hr_148.one)
       refine s_store h rfl rfl hs' ?_
       replace hS : Sep w0 w_151 [_, _, Mem.one g_4 (.cells ([v_147] : List Value).toArray 23 (0, 0)), _, _, _, _] Z := hS'
       clear hs' hS'
       refine wpList_nil <| x_block_n <| x_then_n (hKJ_20 _ _ ?_)
       refine wp_seq <| wp_region_lit <| s_load h rfl rfl (hS.load_one (p := 2) rfl U23 rfl rfl) fun a h=>s_assign h rfl rfl fun a h=>wpList_nil <| x_then_n <| wp_ret ?_
       obtain rfl := Option.some.inj H
       exact f_ret h (rs := [.tmp 2]) rfl (.tmp rfl .nil) ⟨_, rfl, v_147, N_146, M_149, rfl, (Sep.sel hS [0, 6] (by decide)), hr_148⟩
      ·rw [if_neg hc_128] at H
       refine c_cond_f h rfl (beq_eq_false_iff_ne.2 hc_128) <| wp_skip <| x_block_n <| x_then_n (hKJ_20 _ _ ?_)
       refine wp_seq <| wp_region_lit <| s_load h rfl rfl (hS.load_one (p := 2) rfl U23 rfl rfl) fun a h=>s_assign h rfl rfl fun a h=>wpList_nil ?_
       replace h : Fr 90 a [(2, v_16)] := h.keep [2]
       refine x_then_n <| wp_ret ?_
       obtain rfl := Option.some.inj H
       exact f_ret h (rs := [.tmp 2]) rfl (.tmp rfl .nil) ⟨_, rfl, v_16, N_15, M_18, rfl, (Sep.sel hS [0, 4] (by decide)), hr_17⟩

set_option maxHeartbeats 4000000 in
set_option maxRecDepth 20000 in
theorem mesg_Encode.calls (K : Nat) (x0 : api_Msg) (p0_0 : Value) (p0_1 : Value) (p0_2 : Value) (p0_3 : Value) (p0_4 : Value) (p0_5 : Value) (r : (List UInt8)) (w0 w : World) (Z A : Mem) (hA : A.le Z) (hS : Sep w0 w [] Z) (hp0_0 : Rd Kd.u8 A p0_0 x0.Data) (hp0_1 : Rd (Kd.int .i64) A p0_1 x0.Have) (hp0_2 : Rd (Kd.int .i64) A p0_2 x0.Need) (hp0_3 : Rd Kd.u8 A p0_3 x0.Entry.Cmd.Key) (hp0_4 : Rd Kd.u8 A p0_4 x0.Entry.Cmd.Val) (hp0_5 : Rd Kd.u8 A p0_5 x0.Entry.Cmd.Old)
    (H : mesg_Encode.f K x0 = some r) :
    Calls Try.prog 11 [.agg ([iV x0.Kind, iV x0.From, iV x0.To, iV x0.View, iV x0.Inst, iV x0.Len, .bool x0.Has, iV x0.Members, iV x0.Source, iV x0.At, iV x0.Total, p0_0, iV x0.Hop, iV x0.Seq, p0_1, p0_2, iV x0.Index, iV x0.Entry.Sess, iV x0.Entry.Seq, iV x0.Entry.Cmd.Kind, iV x0.Entry.Cmd.Who, p0_3, p0_4, p0_5] : List Value).toArray].toArray w (Ret fun v w' => ∃ (u0 : Value) (N : Mem) (M0 : Mem), v = u0 ∧ Sep w0 w' [N, M0] Z ∧ Own Kd.u8 5 M0 Mem.no u0 r) := by
 unfold mesg_Encode.f at H
 refine f_enter _ Try.func11 rfl Try.ntmps11 rfl fun a h=>?_
 replace h : Fr 24 a [(0, .agg ([iV x0.Kind, iV x0.From, iV x0.To, iV x0.View, iV x0.Inst, iV x0.Len, .bool x0.Has, iV x0.Members, iV x0.Source, iV x0.At, iV x0.Total, p0_0, iV x0.Hop, iV x0.Seq, p0_1, p0_2, iV x0.Index, iV x0.Entry.Sess, iV x0.Entry.Seq, iV x0.Entry.Cmd.Kind, iV x0.Entry.Cmd.Who, p0_3, p0_4, p0_5] : List Value).toArray)] := h
 replace hS := hS.start
 replace hS : Sep w0 w [_] Z := hS
 refine wp_seq <| wp_region_lit <| v_box (vs := [iV x0.Kind, iV x0.From, iV x0.To, iV x0.View, iV x0.Inst, iV x0.Len, .bool x0.Has, iV x0.Members, iV x0.Source, iV x0.At, iV x0.Total, p0_0, iV x0.Hop, iV x0.Seq, p0_1, p0_2, iV x0.Index, iV x0.Entry.Sess, iV x0.Entry.Seq, iV x0.Entry.Cmd.Kind, iV x0.Entry.Cmd.Who, p0_3, p0_4, p0_5]) h rfl rfl rfl hS fun w_1 g_2 hS' a h => ?_
 replace hS : Sep w0 w_1 [_, Mem.one g_2 (.cells ([iV x0.Kind, iV x0.From, iV x0.To, iV x0.View, iV x0.Inst, iV x0.Len, .bool x0.Has, iV x0.Members, iV x0.Source, iV x0.At, iV x0.Total, p0_0, iV x0.Hop, iV x0.Seq, p0_1, p0_2, iV x0.Index, iV x0.Entry.Sess, iV x0.Entry.Seq, iV x0.Entry.Cmd.Kind, iV x0.Entry.Cmd.Who, p0_3, p0_4, p0_5] : List Value).toArray 29 (0, 0))] Z := hS'
 clear hS'
 refine s_assign h rfl rfl fun a h=>wpList_nil <| x_then_n <| c_seq fun KJ_3 hKJ_3 => wp_seq <| wp_region_lit <| s_load h rfl rfl (hS.load_agg (p := 1) (us := [iV x0.Kind, iV x0.From, iV x0.To, iV x0.View, iV x0.Inst, iV x0.Len, .bool x0.Has, iV x0.Members, iV x0.Source, iV x0.At, iV x0.Total, p0_0, iV x0.Hop, iV x0.Seq, p0_1, p0_2, iV x0.Index, iV x0.Entry.Sess, iV x0.Entry.Seq, iV x0.Entry.Cmd.Kind, iV x0.Entry.Cmd.Who, p0_3, p0_4, p0_5]) rfl U29 rfl ti29 rfl rfl) fun a h=>?_
 obtain ⟨t_4, et_4, H⟩ := Option.bind_eq_some_iff.1 H
 refine s_call h rfl Try.call24 rfl (mesg_beyond.calls x0 _ _ _ _ _ _ t_4 w0 _ _ _ (Mem.le.refl _) (hS.enter [] (by decide)) (hp0_0.mono (hA.trans (hS.le_zed []))) (hp0_1.mono (hA.trans (hS.le_zed []))) (hp0_2.mono (hA.trans (hS.le_zed []))) (hp0_3.mono (hA.trans (hS.le_zed []))) (hp0_4.mono (hA.trans (hS.le_zed []))) (hp0_5.mono (hA.trans (hS.le_zed []))) et_4) ?_
 rintro _ w_5 ⟨N_6, rfl, hS'⟩
 intro a h
 obtain ⟨N_7, hS'', le_7, ln_7⟩ := hS.call [] (by decide) rfl (l' := []) (ow := []) rfl hS'
 replace hS : Sep w0 w_5 [N_7, _] Z := hS''
 clear hS' hS''
 refine wpList_nil <| x_then_n ?_
 by_cases hc_8 : t_4 = true
 ·rw [if_pos hc_8] at H
  refine c_cond_t h rfl hc_8 <| wp_seq <| wp_region_lit <| s_assign h rfl rfl fun a h=>wpList_nil <| x_then_n <| wp_ret (x_then_r ?_)
  have hS' := hS.room
  replace hS : Sep w0 w_5 [_, _, Mem.no] Z := hS'
  clear hS'
  obtain rfl := Option.some.inj H
  exact f_ret h (rs := [.tmp 2]) rfl (.tmp rfl .nil) ⟨_, rfl, nS, N_7, Mem.no, rfl, (Sep.sel hS [0, 2] (by decide)), (Own.nil Kd.u8 5 Mem.no)⟩
 ·rw [if_neg hc_8] at H
  refine c_cond_f h rfl (Bool.eq_false_iff.2 hc_8) <| wp_skip <| x_then_n (hKJ_3 _ _ ?_)
  refine wp_seq <| wp_region_lit <| s_load h rfl rfl (hS.load_agg (p := 1) (us := [iV x0.Kind, iV x0.From, iV x0.To, iV x0.View, iV x0.Inst, iV x0.Len, .bool x0.Has, iV x0.Members, iV x0.Source, iV x0.At, iV x0.Total, p0_0, iV x0.Hop, iV x0.Seq, p0_1, p0_2, iV x0.Index, iV x0.Entry.Sess, iV x0.Entry.Seq, iV x0.Entry.Cmd.Kind, iV x0.Entry.Cmd.Who, p0_3, p0_4, p0_5]) rfl U29 rfl ti29 rfl rfl) fun a h=>?_
  obtain ⟨t_10, et_10, H⟩ := Option.bind_eq_some_iff.1 H
  refine s_call h rfl Try.call25 rfl (mesg_write.calls K x0 _ _ _ _ _ _ t_10 w0 _ _ _ (Mem.le.refl _) (hS.enter [] (by decide)) (hp0_0.mono (hA.trans (hS.le_zed []))) (hp0_1.mono (hA.trans (hS.le_zed []))) (hp0_2.mono (hA.trans (hS.le_zed []))) (hp0_3.mono (hA.trans (hS.le_zed []))) (hp0_4.mono (hA.trans (hS.le_zed []))) (hp0_5.mono (hA.trans (hS.le_zed []))) et_10) ?_
  rintro v_14 w_11 ⟨_, N_12, M_16, rfl, hS', hr_15⟩
  intro a h
  obtain ⟨N_13, hS'', le_13, ln_13⟩ := hS.call [] (by decide) rfl (l' := []) (ow := [M_16]) rfl hS'
  replace hS : Sep w0 w_11 [N_13, _, M_16] Z := hS''
  clear hS' hS''
  refine s_assign h rfl rfl fun a h=>wpList_nil <| x_then_n <| c_seq fun KJ_18 hKJ_18 => wp_seq <| wp_region_lit <| s_move h rfl rfl fun a h=>?_
  obtain ⟨t_19, et_19, H⟩ := Option.bind_eq_some_iff.1 H
  refine s_call h rfl Try.call26 rfl (mesg_read.calls K t_10 _ t_19 w0 _ _ _ (Mem.le.refl _) (hS.enter [] (by decide)) (hr_15.rd (hS.own_zed [] 1 (by decide)) (Mem.no_le _)) et_19) ?_
  rintro _ w_20 ⟨v_23, v_27, v_31, v_35, v_39, v_43, N_21, M_25, M_29, M_33, M_37, M_41, M_45, rfl, hS', hr_24, hr_28, hr_32, hr_36, hr_40, hr_44⟩
  intro a h
  obtain ⟨N_22, hS'', le_22, ln_22⟩ := hS.call [] (by decide) rfl (l' := []) (ow := [M_25, M_29, M_33, M_37, M_41, M_45]) rfl hS'
  replace hS : Sep w0 w_20 [N_22, _, _, M_25, M_29, M_33, M_37, M_41, M_45] Z := hS''
  clear hS' hS''
  refine s_move h rfl rfl fun a h=>s_extract h rfl rfl rfl fun a h=>s_extract h rfl rfl rfl fun a h=>v_alloc h rfl ti29 hS fun w_47 g_48 hS' a h => ?_
  replace hS : Sep w0 w_47 [_, _, _, _, _, _, _, _, _, Mem.one g_48 (.cells ([iV 0, iV 0, iV 0, iV 0, iV 0, iV 0, .bool false, iV 0, iV 0, iV 0, iV 0, nS, iV 0, iV 0, nS, nS, iV 0, iV 0, iV 0, iV 0, iV 0, nS, nS, nS] : List Value).toArray 29 (0, 0))] Z := hS'
  clear hS'
  obtain ⟨w_49, hs', hS'⟩ := hS.store (P := Try.prog) (p := 9) (o := 0) (t := 29) (v := .agg ([iV t_19.1.Kind, iV t_19.1.From, iV t_19.1.To, iV t_19.1.View, iV t_19.1.Inst, iV t_19.1.Len, .bool t_19.1.Has, iV t_19.1.Members, iV t_19.1.Source, iV t_19.1.At, iV t_19.1.Total, v_23, iV t_19.1.Hop, iV t_19.1.Seq, v_27, v_31, iV t_19.1.Index, iV t_19.1.Entry.Sess, iV t_19.1.Entry.Seq, iV t_19.1.Entry.Cmd.Kind, iV t_19.1.Entry.Cmd.Who, v_35, v_39, v_43] : List Value).toArray) (vs := [iV t_19.1.Kind, iV t_19.1.From, iV t_19.1.To, iV t_19.1.View, iV t_19.1.Inst, iV t_19.1.Len, .bool t_19.1.Has, iV t_19.1.Members, iV t_19.1.Source, iV t_19.1.At, iV t_19.1.Total, v_23, iV t_19.1.Hop, iV t_19.1.Seq, v_27, v_31, iV t_19.1.Index, iV t_19.1.Entry.Sess, iV t_19.1.Entry.Seq, iV t_19.1.Entry.Cmd.Kind, iV t_19.1.Entry.Cmd.Who, v_35, v_39, v_43]) rfl ti29 rfl rfl rfl (by intro u hu; simp only [List.mem_cons, List.not_mem_nil, or_false] at hu; rcases hu with rfl | rfl | rfl | rfl | rfl | rfl | rfl | rfl | rfl | rfl | rfl | rfl | rfl | rfl | rfl | rfl | rfl | rfl | rfl | rfl | rfl | rfl | rfl | rfl <;> first | rfl | exact hr_24.one | exact hr_28.one | exact hr_32.one | exact hr_36.one | exact hr_40.one | exact hr_44.one)
  refine s_store h rfl rfl hs' ?_
  replace hS : Sep w0 w_49 [_, _, _, _, _, _, _, _, _, Mem.one g_48 (.cells ([iV t_19.1.Kind, iV t_19.1.From, iV t_19.1.To, iV t_19.1.View, iV t_19.1.Inst, iV t_19.1.Len, .bool t_19.1.Has, iV t_19.1.Members, iV t_19.1.Source, iV t_19.1.At, iV t_19.1.Total, v_23, iV t_19.1.Hop, iV t_19.1.Seq, v_27, v_31, iV t_19.1.Index, iV t_19.1.Entry.Sess, iV t_19.1.Entry.Seq, iV t_19.1.Entry.Cmd.Kind, iV t_19.1.Entry.Cmd.Who, v_35, v_39, v_43] : List Value).toArray 29 (0, 0))] Z := hS'
  clear hs' hS'
  refine s_assign h rfl rfl fun a h=>wpList_nil ?_
  replace h : Fr 24 a [(1, .pointer (some ⟨g_2, 0, none⟩)), (2, nS), (3, v_14), (4, .pointer (some ⟨g_48, 0, none⟩)), (5, .bool t_19.2)] := h.keep [1, 2, 3, 4, 5]
  refine x_then_n <| c_seq fun KJ_50 hKJ_50 => wp_region_lit <| s_move h rfl rfl fun a h=>s_not h rfl rfl fun a h=>s_move h rfl rfl fun a h=>?_
  by_cases hc_51 : t_19.2 = true
  ·rw [if_pos hc_51] at H
   refine s_on h rfl rfl (nf hc_51) <| s_load h rfl rfl (hS.load_agg (p := 9) (us := [iV t_19.1.Kind, iV t_19.1.From, iV t_19.1.To, iV t_19.1.View, iV t_19.1.Inst, iV t_19.1.Len, .bool t_19.1.Has, iV t_19.1.Members, iV t_19.1.Source, iV t_19.1.At, iV t_19.1.Total, v_23, iV t_19.1.Hop, iV t_19.1.Seq, v_27, v_31, iV t_19.1.Index, iV t_19.1.Entry.Sess, iV t_19.1.Entry.Seq, iV t_19.1.Entry.Cmd.Kind, iV t_19.1.Entry.Cmd.Who, v_35, v_39, v_43]) rfl U29 rfl ti29 rfl rfl) fun a h=>s_on h rfl rfl (nf hc_51) <| s_load h rfl rfl (hS.load_agg (p := 1) (us := [iV x0.Kind, iV x0.From, iV x0.To, iV x0.View, iV x0.Inst, iV x0.Len, .bool x0.Has, iV x0.Members, iV x0.Source, iV x0.At, iV x0.Total, p0_0, iV x0.Hop, iV x0.Seq, p0_1, p0_2, iV x0.Index, iV x0.Entry.Sess, iV x0.Entry.Seq, iV x0.Entry.Cmd.Kind, iV x0.Entry.Cmd.Who, p0_3, p0_4, p0_5]) rfl U29 rfl ti29 rfl rfl) fun a h=>s_on h rfl rfl (nf hc_51) ?_
   obtain ⟨t_52, et_52, H⟩ := Option.bind_eq_some_iff.1 H
   refine s_call h rfl Try.call27 rfl (mesg_alike.calls K t_19.1 _ _ _ _ _ _ x0 _ _ _ _ _ _ t_52 w0 _ _ _ (Mem.le.refl _) (hS.enter [] (by decide)) (hr_24.rd (hS.own_zed [] 2 (by decide)) (Mem.no_le _)) (hr_28.rd (hS.own_zed [] 3 (by decide)) (Mem.no_le _)) (hr_32.rd (hS.own_zed [] 4 (by decide)) (Mem.no_le _)) (hr_36.rd (hS.own_zed [] 5 (by decide)) (Mem.no_le _)) (hr_40.rd (hS.own_zed [] 6 (by decide)) (Mem.no_le _)) (hr_44.rd (hS.own_zed [] 7 (by decide)) (Mem.no_le _)) (hp0_0.mono (hA.trans (hS.le_zed []))) (hp0_1.mono (hA.trans (hS.le_zed []))) (hp0_2.mono (hA.trans (hS.le_zed []))) (hp0_3.mono (hA.trans (hS.le_zed []))) (hp0_4.mono (hA.trans (hS.le_zed []))) (hp0_5.mono (hA.trans (hS.le_zed []))) et_52) ?_
   rintro _ w_53 ⟨N_54, rfl, hS'⟩
   intro a h
   obtain ⟨N_55, hS'', le_55, ln_55⟩ := hS.call [] (by decide) rfl (l' := []) (ow := []) rfl hS'
   replace hS : Sep w0 w_53 [N_55, _, _, _, _, _, _, _, _, _] Z := hS''
   clear hS' hS''
   refine s_on h rfl rfl (nf hc_51) <| s_not h rfl rfl fun a h=>s_pick_f h rfl rfl (nf hc_51) rfl fun a h=>wpList_nil <| x_then_n (hKJ_50 _ _ ?_)
   by_cases hc_56 : t_52 = true
   ·rw [if_pos hc_56] at H
    refine c_cond_f h rfl (nf hc_56) <| wp_skip <| x_then_n (hKJ_18 _ _ ?_)
    refine wp_seq <| wp_region_lit <| s_move h rfl rfl fun a h=>s_assign h rfl rfl fun a h=>wpList_nil <| x_then_n <| wp_ret ?_
    obtain rfl := Option.some.inj H
    exact f_ret h (rs := [.tmp 2]) rfl (.tmp rfl .nil) ⟨_, rfl, v_14, N_55, M_16, rfl, (Sep.sel hS [0, 2] (by decide)), hr_15⟩
   ·rw [if_neg hc_56] at H
    refine c_cond_t h rfl (nt (Bool.eq_false_iff.2 hc_56)) <| wp_seq <| wp_region_lit <| s_assign h rfl rfl fun a h=>wpList_nil <| x_then_n <| wp_ret (x_then_r ?_)
    have hS' := hS.room
    replace hS : Sep w0 w_53 [_, _, _, _, _, _, _, _, _, _, Mem.no] Z := hS'
    clear hS'
    obtain rfl := Option.some.inj H
    exact f_ret h (rs := [.tmp 2]) rfl (.tmp rfl .nil) ⟨_, rfl, nS, N_55, Mem.no, rfl, (Sep.sel hS [0, 10] (by decide)), (Own.nil Kd.u8 5 Mem.no)⟩
  ·rw [if_neg hc_51] at H
   refine s_off h rfl rfl rfl (nt (Bool.eq_false_iff.2 hc_51)) fun a h=>s_off h rfl rfl rfl (nt (Bool.eq_false_iff.2 hc_51)) fun a h=>s_off h rfl rfl rfl (nt (Bool.eq_false_iff.2 hc_51)) fun a h=>s_off h rfl rfl rfl (nt (Bool.eq_false_iff.2 hc_51)) fun a h=>s_pick_t h rfl rfl (nt (Bool.eq_false_iff.2 hc_51)) rfl fun a h=>wpList_nil <| x_then_n (hKJ_50 _ _ ?_)
   refine c_cond_t h rfl rfl <| wp_seq <| wp_region_lit <| s_assign h rfl rfl fun a h=>wpList_nil <| x_then_n <| wp_ret (x_then_r ?_)
   have hS' := hS.room
   replace hS : Sep w0 w_49 [_, _, _, _, _, _, _, _, _, _, Mem.no] Z := hS'
   clear hS'
   obtain rfl := Option.some.inj H
   exact f_ret h (rs := [.tmp 2]) rfl (.tmp rfl .nil) ⟨_, rfl, nS, N_22, Mem.no, rfl, (Sep.sel hS [0, 10] (by decide)), (Own.nil Kd.u8 5 Mem.no)⟩

set_option maxHeartbeats 4000000 in
set_option maxRecDepth 20000 in
theorem hocketlaw11_awake.calls (K : Nat) (r : Unit) (w0 w : World) (Z A : Mem) (hA : A.le Z) (hS : Sep w0 w [] Z)
    (H : hocketlaw11_awake.f K = some r) :
    Calls Try.prog 13 [].toArray w (Ret fun v w' => ∃ (N : Mem), v = .bool true ∧ Sep w0 w' [N] Z) := by
 unfold hocketlaw11_awake.f at H
 refine f_enter _ Try.func13 rfl Try.ntmps13 rfl fun a h=>?_
 replace h : Fr 57 a [] := h
 replace hS := hS.start
 replace hS : Sep w0 w [_] Z := hS
 refine wp_seq <| wp_region_lit <| s_assign h rfl rfl fun a h=>wpList_nil <| x_then_n <| wp_seq <| wp_region_lit ?_
 have hq_5 : Reps (Kd.int .i64) Mem.no ([5, 4] : List Int) _ := ((Reps.one (d := (Kd.int .i64)) (x := 5) (show (Kd.int .i64).K _ _ [iV 5] from rfl)).append ((Reps.one (d := (Kd.int .i64)) (x := 4) (show (Kd.int .i64).K _ _ [iV 4] from rfl)).append (Reps.nil (Kd.int .i64) _)))
 refine s_buildSlice h rfl U22 ti3 rfl rfl rfl (.cons rfl (.cons rfl .nil)) rfl rfl rfl hS hq_5 rfl fun w_1 v_2 M_3 hS' ho_4 a h => ?_
 replace hS : Sep w0 w_1 [_, M_3] Z := hS'
 clear hS' hq_5
 have hq_11 : Reps (Kd.int .i64) Mem.no ([5] : List Int) _ := ((Reps.one (d := (Kd.int .i64)) (x := 5) (show (Kd.int .i64).K _ _ [iV 5] from rfl)).append (Reps.nil (Kd.int .i64) _))
 refine s_buildSlice h rfl U22 ti3 rfl rfl rfl (.cons rfl .nil) rfl rfl rfl hS hq_11 rfl fun w_7 v_8 M_9 hS' ho_10 a h => ?_
 replace hS : Sep w0 w_7 [_, _, M_9] Z := hS'
 clear hS' hq_11
 refine s_build h rfl ti29 pl29 rfl (.cons rfl (.cons rfl (.cons rfl (.cons rfl (.cons rfl (.cons rfl (.cons ho_4.cells (.cons ho_10.cells .nil)))))))) (cs := [iV 7, iV 1, iV 2, iV 300, iV 0, iV 0, .bool false, iV 0, iV 0, iV 0, iV 0, nS, iV 4, iV 5, v_2, v_8, iV 0, iV 0, iV 0, iV 0, iV 0, nS, nS, nS]) (by kernel_rfl) fun a h=>v_alloc h rfl ti29 hS fun w_13 g_14 hS' a h => ?_
 replace hS : Sep w0 w_13 [_, _, _, Mem.one g_14 (.cells ([iV 0, iV 0, iV 0, iV 0, iV 0, iV 0, .bool false, iV 0, iV 0, iV 0, iV 0, nS, iV 0, iV 0, nS, nS, iV 0, iV 0, iV 0, iV 0, iV 0, nS, nS, nS] : List Value).toArray 29 (0, 0))] Z := hS'
 clear hS'
 obtain ⟨w_15, hs', hS'⟩ := hS.store (P := Try.prog) (p := 3) (o := 0) (t := 29) (v := .agg ([iV 7, iV 1, iV 2, iV 300, iV 0, iV 0, .bool false, iV 0, iV 0, iV 0, iV 0, nS, iV 4, iV 5, v_2, v_8, iV 0, iV 0, iV 0, iV 0, iV 0, nS, nS, nS] : List Value).toArray) (vs := [iV 7, iV 1, iV 2, iV 300, iV 0, iV 0, .bool false, iV 0, iV 0, iV 0, iV 0, nS, iV 4, iV 5, v_2, v_8, iV 0, iV 0, iV 0, iV 0, iV 0, nS, nS, nS]) rfl ti29 rfl rfl rfl (by intro u hu; simp only [List.mem_cons, List.not_mem_nil, or_false] at hu; rcases hu with rfl | rfl | rfl | rfl | rfl | rfl | rfl | rfl | rfl | rfl | rfl | rfl | rfl | rfl | rfl | rfl | rfl | rfl | rfl | rfl | rfl | rfl | rfl | rfl <;> first | rfl | exact ho_4.one | exact ho_10.one)
 refine s_store h rfl rfl hs' ?_
 replace hS : Sep w0 w_15 [_, _, _, Mem.one g_14 (.cells ([iV 7, iV 1, iV 2, iV 300, _, _, _, _, _, _, _, _, iV 4, iV 5, v_2, v_8, _, _, _, _, _, _, _, _] : List Value).toArray 29 (0, 0))] Z := hS'
 clear hs' hS'
 refine wpList_nil <| x_then_n <| wp_seq <| wp_region_lit <| s_load h rfl rfl (hS.load_agg (p := 3) (us := [iV 7, iV 1, iV 2, iV 300, iV 0, iV 0, .bool false, iV 0, iV 0, iV 0, iV 0, nS, iV 4, iV 5, v_2, v_8, iV 0, iV 0, iV 0, iV 0, iV 0, nS, nS, nS]) rfl U29 rfl ti29 rfl rfl) fun a h=>?_
 obtain ⟨t_16, et_16, H⟩ := Option.bind_eq_some_iff.1 H
 refine s_call h rfl Try.call11 rfl (mesg_Encode.calls K (⟨7, 1, 2, 300, 0, 0, false, 0, 0, 0, 0, ([] : List UInt8), 4, 5, ([5, 4] : List Int), ([5] : List Int), 0, (⟨0, 0, (⟨0, 0, ([] : List UInt8), ([] : List UInt8), ([] : List UInt8)⟩ : api_Cmd)⟩ : api_Entry)⟩ : api_Msg) _ _ _ _ _ _ t_16 w0 _ _ _ (Mem.le.refl _) (hS.enter [] (by decide)) (Rd.nil _ _) (ho_4.rd (hS.own_zed [] 0 (by decide)) (Mem.no_le _)) (ho_10.rd (hS.own_zed [] 1 (by decide)) (Mem.no_le _)) (Rd.nil _ _) (Rd.nil _ _) (Rd.nil _ _) et_16) ?_
 rintro v_20 w_17 ⟨_, N_18, M_22, rfl, hS', hr_21⟩
 intro a h
 obtain ⟨N_19, hS'', le_19, ln_19⟩ := hS.call [] (by decide) rfl (l' := []) (ow := [M_22]) rfl hS'
 replace hS : Sep w0 w_17 [N_19, _, _, _, M_22] Z := hS''
 clear hS' hS''
 refine s_assign h rfl rfl fun a h=>wpList_nil <| x_then_n <| wp_seq <| wp_region_lit <| s_move h rfl rfl fun a h=>?_
 obtain ⟨t_24, et_24, H⟩ := Option.bind_eq_some_iff.1 H
 refine s_call h rfl Try.call12 rfl (mesg_Decode.calls K t_16 _ t_24 w0 _ _ _ (Mem.le.refl _) (hS.enter [] (by decide)) (hr_21.rd (hS.own_zed [] 3 (by decide)) (Mem.no_le _)) et_24) ?_
 rintro _ w_25 ⟨v_28, v_32, v_36, v_40, v_44, v_48, N_26, M_30, M_34, M_38, M_42, M_46, M_50, rfl, hS', hr_29, hr_33, hr_37, hr_41, hr_45, hr_49⟩
 intro a h
 obtain ⟨N_27, hS'', le_27, ln_27⟩ := hS.call [] (by decide) rfl (l' := []) (ow := [M_30, M_34, M_38, M_42, M_46, M_50]) rfl hS'
 replace hS : Sep w0 w_25 [N_27, _, _, _, _, M_30, M_34, M_38, M_42, M_46, M_50] Z := hS''
 clear hS' hS''
 refine s_move h rfl rfl fun a h=>s_extract h rfl rfl rfl fun a h=>s_extract h rfl rfl rfl fun a h=>v_alloc h rfl ti29 hS fun w_52 g_53 hS' a h => ?_
 replace hS : Sep w0 w_52 [_, _, _, _, _, _, _, _, _, _, _, Mem.one g_53 (.cells ([iV 0, iV 0, iV 0, iV 0, iV 0, iV 0, .bool false, iV 0, iV 0, iV 0, iV 0, nS, iV 0, iV 0, nS, nS, iV 0, iV 0, iV 0, iV 0, iV 0, nS, nS, nS] : List Value).toArray 29 (0, 0))] Z := hS'
 clear hS'
 obtain ⟨w_54, hs', hS'⟩ := hS.store (P := Try.prog) (p := 11) (o := 0) (t := 29) (v := .agg ([iV t_24.1.Kind, iV t_24.1.From, iV t_24.1.To, iV t_24.1.View, iV t_24.1.Inst, iV t_24.1.Len, .bool t_24.1.Has, iV t_24.1.Members, iV t_24.1.Source, iV t_24.1.At, iV t_24.1.Total, v_28, iV t_24.1.Hop, iV t_24.1.Seq, v_32, v_36, iV t_24.1.Index, iV t_24.1.Entry.Sess, iV t_24.1.Entry.Seq, iV t_24.1.Entry.Cmd.Kind, iV t_24.1.Entry.Cmd.Who, v_40, v_44, v_48] : List Value).toArray) (vs := [iV t_24.1.Kind, iV t_24.1.From, iV t_24.1.To, iV t_24.1.View, iV t_24.1.Inst, iV t_24.1.Len, .bool t_24.1.Has, iV t_24.1.Members, iV t_24.1.Source, iV t_24.1.At, iV t_24.1.Total, v_28, iV t_24.1.Hop, iV t_24.1.Seq, v_32, v_36, iV t_24.1.Index, iV t_24.1.Entry.Sess, iV t_24.1.Entry.Seq, iV t_24.1.Entry.Cmd.Kind, iV t_24.1.Entry.Cmd.Who, v_40, v_44, v_48]) rfl ti29 rfl rfl rfl (by intro u hu; simp only [List.mem_cons, List.not_mem_nil, or_false] at hu; rcases hu with rfl | rfl | rfl | rfl | rfl | rfl | rfl | rfl | rfl | rfl | rfl | rfl | rfl | rfl | rfl | rfl | rfl | rfl | rfl | rfl | rfl | rfl | rfl | rfl <;> first | rfl | exact hr_29.one | exact hr_33.one | exact hr_37.one | exact hr_41.one | exact hr_45.one | exact hr_49.one)
 refine s_store h rfl rfl hs' ?_
 replace hS : Sep w0 w_54 [_, _, _, _, _, _, _, _, _, _, _, Mem.one g_53 (.cells ([iV t_24.1.Kind, iV t_24.1.From, iV t_24.1.To, iV t_24.1.View, iV t_24.1.Inst, iV t_24.1.Len, .bool t_24.1.Has, iV t_24.1.Members, iV t_24.1.Source, iV t_24.1.At, iV t_24.1.Total, v_28, iV t_24.1.Hop, iV t_24.1.Seq, v_32, v_36, iV t_24.1.Index, iV t_24.1.Entry.Sess, iV t_24.1.Entry.Seq, iV t_24.1.Entry.Cmd.Kind, iV t_24.1.Entry.Cmd.Who, v_40, v_44, v_48] : List Value).toArray 29 (0, 0))] Z := hS'
 clear hs' hS'
 refine s_assign h rfl rfl fun a h=>wpList_nil ?_
 replace h : Fr 57 a [(0, .bool false), (1, .pointer (some ⟨g_14, 0, none⟩)), (2, v_20), (3, .pointer (some ⟨g_53, 0, none⟩)), (4, .bool t_24.2)] := h.keep [0, 1, 2, 3, 4]
 refine x_then_n <| wp_seq <| wp_region_lit <| s_move h rfl rfl fun a h=>?_
 have hq_59 : Reps Kd.u8 Mem.no ([(0 : UInt8)] : List UInt8) _ := ((Reps.one (d := Kd.u8) (x := (0 : UInt8)) (show Kd.u8.K _ _ [.int .u8 ((0 : UInt8).toNat : Int)] from rfl)).append (Reps.nil Kd.u8 _))
 refine s_buildSlice h rfl U23 ti5 rfl rfl rfl (.cons rfl .nil) rfl rfl rfl hS hq_59 rfl fun w_55 v_56 M_57 hS' ho_58 a h => ?_
 replace hS : Sep w0 w_55 [_, _, _, _, _, _, _, _, _, _, _, _, M_57] Z := hS'
 clear hS' hq_59
 obtain ⟨t_61, et_61, H⟩ := Option.bind_eq_some_iff.1 H
 refine s_appendK (J := Mem.no) (I' := Mem.no) (p := 4) 140737488355328 h rfl rfl rfl U23 ti5 rfl rfl rfl rfl hS rfl rfl hr_21 (Src.flat flat_u8 (ho_58.src (hS.own 12))) (Mem.le.refl _) (Mem.le.refl _) et_61 fun w_62 v_63 M_64 M_66 hS' ho_65 hk_67 a h => ?_
 replace hS : Sep w0 w_62 [_, _, _, _, M_64, _, _, _, _, _, _, _, _, M_66] Z := hS'
 clear hS'
 obtain ⟨N_69, hS', le_69, lo_69⟩ := hS.freeze 3 rfl
 replace hS : Sep w0 w_62 [N_69, _, _, _, Mem.no, _, _, _, _, _, _, _, _, _] Z := hS'
 clear hS'
 obtain ⟨N_70, hS', le_70, lo_70⟩ := hS.freeze 12 rfl
 replace hS : Sep w0 w_62 [N_70, _, _, _, _, _, _, _, _, _, _, _, _, Mem.no] Z := hS'
 clear hS'
 have hr_71 : Rd Kd.u8 N_70 v_20 t_16 := hk_67 _ (lo_69.trans le_70) lo_70 (Mem.no_le _)
 obtain ⟨t_72, et_72, H⟩ := Option.bind_eq_some_iff.1 H
 refine s_call h rfl Try.call12 rfl (mesg_Decode.calls K t_61 _ t_72 w0 _ _ _ (Mem.le.refl _) (hS.enter [] (by decide)) ((ho_65.rd lo_69 (Mem.no_le _)).mono (le_70.trans (hS.new_zed []))) et_72) ?_
 rintro _ w_73 ⟨v_76, v_80, v_84, v_88, v_92, v_96, N_74, M_78, M_82, M_86, M_90, M_94, M_98, rfl, hS', hr_77, hr_81, hr_85, hr_89, hr_93, hr_97⟩
 intro a h
 obtain ⟨N_75, hS'', le_75, ln_75⟩ := hS.call [] (by decide) rfl (l' := []) (ow := [M_78, M_82, M_86, M_90, M_94, M_98]) rfl hS'
 replace hS : Sep w0 w_73 [N_75, _, _, _, _, _, _, _, _, _, _, _, _, _, M_78, M_82, M_86, M_90, M_94, M_98] Z := hS''
 clear hS' hS''
 refine s_move h rfl rfl fun a h=>s_extract h rfl rfl rfl fun a h=>s_extract h rfl rfl rfl fun a h=>v_alloc h rfl ti29 hS fun w_100 g_101 hS' a h => ?_
 replace hS : Sep w0 w_100 [_, _, _, _, _, _, _, _, _, _, _, _, _, _, _, _, _, _, _, _, Mem.one g_101 (.cells ([iV 0, iV 0, iV 0, iV 0, iV 0, iV 0, .bool false, iV 0, iV 0, iV 0, iV 0, nS, iV 0, iV 0, nS, nS, iV 0, iV 0, iV 0, iV 0, iV 0, nS, nS, nS] : List Value).toArray 29 (0, 0))] Z := hS'
 clear hS'
 obtain ⟨w_102, hs', hS'⟩ := hS.store (P := Try.prog) (p := 20) (o := 0) (t := 29) (v := .agg ([iV t_72.1.Kind, iV t_72.1.From, iV t_72.1.To, iV t_72.1.View, iV t_72.1.Inst, iV t_72.1.Len, .bool t_72.1.Has, iV t_72.1.Members, iV t_72.1.Source, iV t_72.1.At, iV t_72.1.Total, v_76, iV t_72.1.Hop, iV t_72.1.Seq, v_80, v_84, iV t_72.1.Index, iV t_72.1.Entry.Sess, iV t_72.1.Entry.Seq, iV t_72.1.Entry.Cmd.Kind, iV t_72.1.Entry.Cmd.Who, v_88, v_92, v_96] : List Value).toArray) (vs := [iV t_72.1.Kind, iV t_72.1.From, iV t_72.1.To, iV t_72.1.View, iV t_72.1.Inst, iV t_72.1.Len, .bool t_72.1.Has, iV t_72.1.Members, iV t_72.1.Source, iV t_72.1.At, iV t_72.1.Total, v_76, iV t_72.1.Hop, iV t_72.1.Seq, v_80, v_84, iV t_72.1.Index, iV t_72.1.Entry.Sess, iV t_72.1.Entry.Seq, iV t_72.1.Entry.Cmd.Kind, iV t_72.1.Entry.Cmd.Who, v_88, v_92, v_96]) rfl ti29 rfl rfl rfl (by intro u hu; simp only [List.mem_cons, List.not_mem_nil, or_false] at hu; rcases hu with rfl | rfl | rfl | rfl | rfl | rfl | rfl | rfl | rfl | rfl | rfl | rfl | rfl | rfl | rfl | rfl | rfl | rfl | rfl | rfl | rfl | rfl | rfl | rfl <;> first | rfl | exact hr_77.one | exact hr_81.one | exact hr_85.one | exact hr_89.one | exact hr_93.one | exact hr_97.one)
 refine s_store h rfl rfl hs' ?_
 replace hS : Sep w0 w_102 [_, _, _, _, _, _, _, _, _, _, _, _, _, _, _, _, _, _, _, _, Mem.one g_101 (.cells ([iV t_72.1.Kind, iV t_72.1.From, iV t_72.1.To, iV t_72.1.View, iV t_72.1.Inst, iV t_72.1.Len, .bool t_72.1.Has, iV t_72.1.Members, iV t_72.1.Source, iV t_72.1.At, iV t_72.1.Total, v_76, iV t_72.1.Hop, iV t_72.1.Seq, v_80, v_84, iV t_72.1.Index, iV t_72.1.Entry.Sess, iV t_72.1.Entry.Seq, iV t_72.1.Entry.Cmd.Kind, iV t_72.1.Entry.Cmd.Who, v_88, v_92, v_96] : List Value).toArray 29 (0, 0))] Z := hS'
 clear hs' hS'
 refine s_assign h rfl rfl fun a h=>wpList_nil <| x_then_n <| c_seq fun KJ_103 hKJ_103 => wp_region_lit <| s_move h rfl rfl fun a h=>s_b2s h rfl U23 U5 U9 rfl hr_71 (le_75.trans (hS.own 0)) fun a h=>s_strEq (b := (t_16 == ([7, 1, 2, 172, 2, 4, 5, 2, 5, 4, 1, 5] : List UInt8))) h rfl rfl rfl (.inl ⟨rfl, rfl⟩) fun a h=>s_move h rfl rfl fun a h=>?_
 by_cases hc_104 : t_16 = ([7, 1, 2, 172, 2, 4, 5, 2, 5, 4, 1, 5] : List UInt8)
 ·rw [if_pos hc_104] at H
  refine s_on h rfl rfl (beq_iff_eq.2 hc_104) <| s_move h rfl rfl fun a h=>s_pick_t h rfl rfl (beq_iff_eq.2 hc_104) rfl fun a h=>s_move h rfl rfl fun a h=>?_
  by_cases hc_105 : t_24.2 = true
  ·rw [if_pos hc_105] at H
   refine s_on h rfl rfl hc_105 <| s_load h rfl rfl (hS.load_agg (p := 11) (us := [iV t_24.1.Kind, iV t_24.1.From, iV t_24.1.To, iV t_24.1.View, iV t_24.1.Inst, iV t_24.1.Len, .bool t_24.1.Has, iV t_24.1.Members, iV t_24.1.Source, iV t_24.1.At, iV t_24.1.Total, v_28, iV t_24.1.Hop, iV t_24.1.Seq, v_32, v_36, iV t_24.1.Index, iV t_24.1.Entry.Sess, iV t_24.1.Entry.Seq, iV t_24.1.Entry.Cmd.Kind, iV t_24.1.Entry.Cmd.Who, v_40, v_44, v_48]) rfl U29 rfl ti29 rfl rfl) fun a h=>s_on h rfl rfl hc_105 <| s_load h rfl rfl (hS.load_agg (p := 3) (us := [iV 7, iV 1, iV 2, iV 300, iV 0, iV 0, .bool false, iV 0, iV 0, iV 0, iV 0, nS, iV 4, iV 5, v_2, v_8, iV 0, iV 0, iV 0, iV 0, iV 0, nS, nS, nS]) rfl U29 rfl ti29 rfl rfl) fun a h=>s_on h rfl rfl hc_105 ?_
   obtain ⟨t_106, et_106, H⟩ := Option.bind_eq_some_iff.1 H
   refine s_call h rfl Try.call17 rfl (mesg_Same.calls K t_24.1 _ _ _ _ _ _ (⟨7, 1, 2, 300, 0, 0, false, 0, 0, 0, 0, ([] : List UInt8), 4, 5, ([5, 4] : List Int), ([5] : List Int), 0, (⟨0, 0, (⟨0, 0, ([] : List UInt8), ([] : List UInt8), ([] : List UInt8)⟩ : api_Cmd)⟩ : api_Entry)⟩ : api_Msg) _ _ _ _ _ _ t_106 w0 _ _ _ (Mem.le.refl _) (hS.enter [] (by decide)) (hr_29.rd (hS.own_zed [] 4 (by decide)) (Mem.no_le _)) (hr_33.rd (hS.own_zed [] 5 (by decide)) (Mem.no_le _)) (hr_37.rd (hS.own_zed [] 6 (by decide)) (Mem.no_le _)) (hr_41.rd (hS.own_zed [] 7 (by decide)) (Mem.no_le _)) (hr_45.rd (hS.own_zed [] 8 (by decide)) (Mem.no_le _)) (hr_49.rd (hS.own_zed [] 9 (by decide)) (Mem.no_le _)) (Rd.nil _ _) (ho_4.rd (hS.own_zed [] 0 (by decide)) (Mem.no_le _)) (ho_10.rd (hS.own_zed [] 1 (by decide)) (Mem.no_le _)) (Rd.nil _ _) (Rd.nil _ _) (Rd.nil _ _) et_106) ?_
   rintro _ w_107 ⟨N_108, rfl, hS'⟩
   intro a h
   obtain ⟨N_109, hS'', le_109, ln_109⟩ := hS.call [] (by decide) rfl (l' := []) (ow := []) rfl hS'
   replace hS : Sep w0 w_107 [N_109, _, _, _, _, _, _, _, _, _, _, _, _, _, _, _, _, _, _, _, _] Z := hS''
   clear hS' hS''
   refine s_pick_t h rfl rfl hc_105 rfl fun a h=>s_move h rfl rfl fun a h=>?_
   by_cases hc_110 : t_106 = true
   ·rw [if_pos hc_110] at H
    refine s_on h rfl rfl hc_110 <| s_move h rfl rfl fun a h=>s_on h rfl rfl hc_110 <| s_not h rfl rfl fun a h=>s_pick_t h rfl rfl hc_110 rfl fun a h=>s_move h rfl rfl fun a h=>?_
    by_cases hc_111 : t_72.2 = true
    ·rw [if_pos hc_111] at H
     cases H
    ·rw [if_neg hc_111] at H
     refine s_on h rfl rfl (nt (Bool.eq_false_iff.2 hc_111)) <| s_build h rfl ti29 pl29 rfl .nil (cs := [iV 0, iV 0, iV 0, iV 0, iV 0, iV 0, .bool false, iV 0, iV 0, iV 0, iV 0, nS, iV 0, iV 0, nS, nS, iV 0, iV 0, iV 0, iV 0, iV 0, nS, nS, nS]) (by kernel_rfl) fun a h=>s_on h rfl rfl (nt (Bool.eq_false_iff.2 hc_111)) ?_
     obtain ⟨t_112, et_112, H⟩ := Option.bind_eq_some_iff.1 H
     refine s_call h rfl Try.call11 rfl (mesg_Encode.calls K (⟨0, 0, 0, 0, 0, 0, false, 0, 0, 0, 0, ([] : List UInt8), 0, 0, ([] : List Int), ([] : List Int), 0, (⟨0, 0, (⟨0, 0, ([] : List UInt8), ([] : List UInt8), ([] : List UInt8)⟩ : api_Cmd)⟩ : api_Entry)⟩ : api_Msg) _ _ _ _ _ _ t_112 w0 _ _ _ (Mem.le.refl _) (hS.enter [] (by decide)) (Rd.nil _ _) (Rd.nil _ _) (Rd.nil _ _) (Rd.nil _ _) (Rd.nil _ _) (Rd.nil _ _) et_112) ?_
     rintro v_116 w_113 ⟨_, N_114, M_118, rfl, hS', hr_117⟩
     intro a h
     obtain ⟨N_115, hS'', le_115, ln_115⟩ := hS.call [] (by decide) rfl (l' := []) (ow := [M_118]) rfl hS'
     replace hS : Sep w0 w_113 [N_115, _, _, _, _, _, _, _, _, _, _, _, _, _, _, _, _, _, _, _, _, M_118] Z := hS''
     clear hS' hS''
     refine s_on h rfl rfl (nt (Bool.eq_false_iff.2 hc_111)) <| s_lenO h rfl U23 rfl hr_117 fun a h=>s_on h rfl rfl (nt (Bool.eq_false_iff.2 hc_111)) <| s_cmp (b := ((t_112.length : Int) == 0)) h rfl rfl rfl (.inl ⟨rfl, rfl⟩) fun a h=>s_pick_t h rfl rfl (nt (Bool.eq_false_iff.2 hc_111)) rfl fun a h=>s_move h rfl rfl fun a h=>?_
     by_cases hc_120 : (t_112.length : Int) = 0
     ·rw [if_pos hc_120] at H
      refine s_on h rfl rfl (beq_iff_eq.2 hc_120) <| s_build h rfl ti29 pl29 rfl (.cons rfl (.cons rfl .nil)) (cs := [iV 1, iV 7, iV 0, iV 0, iV 0, iV 0, .bool false, iV 0, iV 0, iV 0, iV 0, nS, iV 0, iV 0, nS, nS, iV 0, iV 0, iV 0, iV 0, iV 0, nS, nS, nS]) (by kernel_rfl) fun a h=>s_on h rfl rfl (beq_iff_eq.2 hc_120) ?_
      obtain ⟨t_121, et_121, H⟩ := Option.bind_eq_some_iff.1 H
      refine s_call h rfl Try.call11 rfl (mesg_Encode.calls K (⟨1, 7, 0, 0, 0, 0, false, 0, 0, 0, 0, ([] : List UInt8), 0, 0, ([] : List Int), ([] : List Int), 0, (⟨0, 0, (⟨0, 0, ([] : List UInt8), ([] : List UInt8), ([] : List UInt8)⟩ : api_Cmd)⟩ : api_Entry)⟩ : api_Msg) _ _ _ _ _ _ t_121 w0 _ _ _ (Mem.le.refl _) (hS.enter [] (by decide)) (Rd.nil _ _) (Rd.nil _ _) (Rd.nil _ _) (Rd.nil _ _) (Rd.nil _ _) (Rd.nil _ _) et_121) ?_
      rintro v_125 w_122 ⟨_, N_123, M_127, rfl, hS', hr_126⟩
      intro a h
      obtain ⟨N_124, hS'', le_124, ln_124⟩ := hS.call [] (by decide) rfl (l' := []) (ow := [M_127]) rfl hS'
      replace hS : Sep w0 w_122 [N_124, _, _, _, _, _, _, _, _, _, _, _, _, _, _, _, _, _, _, _, _, _, M_127] Z := hS''
      clear hS' hS''
      refine s_on h rfl rfl (beq_iff_eq.2 hc_120) <| s_lenO h rfl U23 rfl hr_126 fun a h=>s_on h rfl rfl (beq_iff_eq.2 hc_120) <| s_cmp (b := ((t_121.length : Int) == 0)) h rfl rfl rfl (.inl ⟨rfl, rfl⟩) fun a h=>s_pick_t h rfl rfl (beq_iff_eq.2 hc_120) rfl fun a h=>s_move h rfl rfl fun a h=>?_
      by_cases hc_129 : (t_121.length : Int) = 0
      ·rw [if_pos hc_129] at H
       refine s_on h rfl rfl (beq_iff_eq.2 hc_129) <| s_load h rfl rfl (hS.load_agg (p := 3) (us := [iV 7, iV 1, iV 2, iV 300, iV 0, iV 0, .bool false, iV 0, iV 0, iV 0, iV 0, nS, iV 4, iV 5, v_2, v_8, iV 0, iV 0, iV 0, iV 0, iV 0, nS, nS, nS]) rfl U29 rfl ti29 rfl rfl) fun a h=>s_on h rfl rfl (beq_iff_eq.2 hc_129) <| s_build h rfl ti29 pl29 rfl .nil (cs := [iV 0, iV 0, iV 0, iV 0, iV 0, iV 0, .bool false, iV 0, iV 0, iV 0, iV 0, nS, iV 0, iV 0, nS, nS, iV 0, iV 0, iV 0, iV 0, iV 0, nS, nS, nS]) (by kernel_rfl) fun a h=>s_on h rfl rfl (beq_iff_eq.2 hc_129) ?_
       obtain ⟨t_130, et_130, H⟩ := Option.bind_eq_some_iff.1 H
       refine s_call h rfl Try.call17 rfl (mesg_Same.calls K (⟨7, 1, 2, 300, 0, 0, false, 0, 0, 0, 0, ([] : List UInt8), 4, 5, ([5, 4] : List Int), ([5] : List Int), 0, (⟨0, 0, (⟨0, 0, ([] : List UInt8), ([] : List UInt8), ([] : List UInt8)⟩ : api_Cmd)⟩ : api_Entry)⟩ : api_Msg) _ _ _ _ _ _ (⟨0, 0, 0, 0, 0, 0, false, 0, 0, 0, 0, ([] : List UInt8), 0, 0, ([] : List Int), ([] : List Int), 0, (⟨0, 0, (⟨0, 0, ([] : List UInt8), ([] : List UInt8), ([] : List UInt8)⟩ : api_Cmd)⟩ : api_Entry)⟩ : api_Msg) _ _ _ _ _ _ t_130 w0 _ _ _ (Mem.le.refl _) (hS.enter [] (by decide)) (Rd.nil _ _) (ho_4.rd (hS.own_zed [] 0 (by decide)) (Mem.no_le _)) (ho_10.rd (hS.own_zed [] 1 (by decide)) (Mem.no_le _)) (Rd.nil _ _) (Rd.nil _ _) (Rd.nil _ _) (Rd.nil _ _) (Rd.nil _ _) (Rd.nil _ _) (Rd.nil _ _) (Rd.nil _ _) (Rd.nil _ _) et_130) ?_
       rintro _ w_131 ⟨N_132, rfl, hS'⟩
       intro a h
       obtain ⟨N_133, hS'', le_133, ln_133⟩ := hS.call [] (by decide) rfl (l' := []) (ow := []) rfl hS'
       replace hS : Sep w0 w_131 [N_133, _, _, _, _, _, _, _, _, _, _, _, _, _, _, _, _, _, _, _, _, _, _] Z := hS''
       clear hS' hS''
       refine s_on h rfl rfl (beq_iff_eq.2 hc_129) <| s_not h rfl rfl fun a h=>s_pick_t h rfl rfl (beq_iff_eq.2 hc_129) rfl fun a h=>s_assign h rfl rfl fun a h=>wpList_nil <| x_then_n (hKJ_103 _ _ ?_)
       refine wp_ret ?_
       by_cases hc_134 : t_130 = true
       ·rw [if_pos hc_134] at H
        cases H
       ·rw [if_neg hc_134] at H
        exact f_ret h (rs := [.tmp 0]) rfl (.tmp rfl .nil) ⟨_, rfl, N_133, (by rw [(nt (Bool.eq_false_iff.2 hc_134))]; rfl), (Sep.sel hS [0] (by decide))⟩
      ·rw [if_neg hc_129] at H
       cases H
     ·rw [if_neg hc_120] at H
      cases H
   ·rw [if_neg hc_110] at H
    cases H
  ·rw [if_neg hc_105] at H
   cases H
 ·rw [if_neg hc_104] at H
  cases H


end Go.Proofs
