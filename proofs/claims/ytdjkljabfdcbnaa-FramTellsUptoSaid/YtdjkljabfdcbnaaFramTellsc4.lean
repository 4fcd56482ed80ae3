/- What the calls do: each function once. -/
import Derived.Test.YtdjkljabfdcbnaaFramTellsc3
namespace Go.Proofs
open Go.Gp
set_option linter.unusedVariables false
set_option maxHeartbeats 4000000 in
set_option maxRecDepth 20000 in
theorem hocketref11_Decode.calls (K : Nat) (x0 : List UInt8) (p0_0 : Value) (r : api_Msg × Bool) (w0 w : World) (Z A : Mem) (hA : A.le Z) (hS : Sep w0 w [] Z) (hp0_0 : Rd Kd.u8 A p0_0 x0)
    (H : hocketref11_Decode.f K x0 = some r) :
    Calls Try.prog 18 [p0_0].toArray w (Ret fun v w' => ∃ (u0 : Value) (u1 : Value) (u2 : Value) (u3 : Value) (u4 : Value) (u5 : Value) (N : Mem) (M0 : Mem) (M1 : Mem) (M2 : Mem) (M3 : Mem) (M4 : Mem) (M5 : Mem), v = .tuple [.agg [iV r.1.Kind, iV r.1.From, iV r.1.To, iV r.1.View, iV r.1.Inst, iV r.1.Len, .bool r.1.Has, iV r.1.Members, iV r.1.Source, iV r.1.At, iV r.1.Total, u0, iV r.1.Hop, iV r.1.Seq, u1, u2, iV r.1.Index, iV r.1.Entry.Sess, iV r.1.Entry.Seq, iV r.1.Entry.Cmd.Kind, iV r.1.Entry.Cmd.Who, u3, u4, u5].toArray, .bool r.2].toArray ∧ Sep w0 w' [N, M0, M1, M2, M3, M4, M5] Z ∧ Own Kd.u8 5 M0 Mem.no u0 r.1.Data ∧ Own (Kd.int .i64) 3 M1 Mem.no u1 r.1.Have ∧ Own (Kd.int .i64) 3 M2 Mem.no u2 r.1.Need ∧ Own Kd.u8 5 M3 Mem.no u3 r.1.Entry.Cmd.Key ∧ Own Kd.u8 5 M4 Mem.no u4 r.1.Entry.Cmd.Val ∧ Own Kd.u8 5 M5 Mem.no u5 r.1.Entry.Cmd.Old) := by
 unfold hocketref11_Decode.f at H
 refine f_enter _ Try.func18 rfl Try.ntmps18 rfl fun a h=>?_
 replace h : Fr 91 a [(0, p0_0)] := h
 replace hS := hS.start
 replace hS : Sep w0 w [_] Z := hS
 refine wp_seq <| wp_region_lit <| v_alloc h rfl ti29 hS fun w_1 g_2 hS' a h => ?_
 replace hS : Sep w0 w_1 [_, Mem.one g_2 (.cells ([iV 0, iV 0, iV 0, iV 0, iV 0, iV 0, .bool false, iV 0, iV 0, iV 0, iV 0, nS, iV 0, iV 0, nS, nS, iV 0, iV 0, iV 0, iV 0, iV 0, nS, nS, nS] : List Value).toArray 29 (0, 0))] Z := hS'
 clear hS'
 refine s_assign h rfl rfl fun a h=>wpList_nil <| x_then_n <| wp_seq <| wp_region_lit <| s_move h rfl rfl fun a h=>s_build h rfl ti56 pl56 rfl (.cons hp0_0.cells .nil) (cs := [p0_0, .bool false]) (by kernel_rfl) fun a h=>v_box (vs := [p0_0, .bool false]) h rfl rfl rfl hS fun w_3 g_4 hS' a h => ?_
 replace hS : Sep w0 w_3 [_, _, Mem.one g_4 (.cells ([p0_0, .bool false] : List Value).toArray 56 (0, 0))] Z := hS'
 clear hS'
 refine s_assign h rfl rfl fun a h=>wpList_nil <| x_then_n <| wp_seq <| wp_region_lit <| s_move h rfl rfl fun a h=>?_
 obtain ⟨t_5, et_5, H⟩ := Option.bind_eq_some_iff.1 H
 refine s_call h rfl Try.call35 rfl (hocketref1_Reader_Num.calls K _ x0 _ false 8 t_5 w0 _ _ A (hA.trans (hS.le_zed [1])) (hS.enter [1] (by decide)) hp0_0 et_5) ?_
 rintro _ w_6 ⟨v_9, N_7, rfl, hS', hr_10⟩
 intro a h
 obtain ⟨N_8, hS'', le_8, ln_8⟩ := hS.call [1] (by decide) rfl (l' := [Mem.one g_4 (.cells ([v_9, .bool t_5.2.2] : List Value).toArray 56 (0, 0))]) (ow := []) rfl hS'
 replace hS : Sep w0 w_6 [N_8, _, Mem.one g_4 (.cells ([v_9, .bool t_5.2.2] : List Value).toArray 56 (0, 0))] Z := hS''
 clear hS' hS''
 have hr_11 : Rd Kd.u8 (A.un N_8) v_9 t_5.2.1 := hr_10.mono (Mem.un_left ln_8)
 refine s_move h rfl rfl fun a h=>?_
 obtain ⟨t_12, et_12, H⟩ := Option.bind_eq_some_iff.1 H
 refine s_call h rfl Try.call35 rfl (hocketref1_Reader_Num.calls K _ t_5.2.1 _ t_5.2.2 6 t_12 w0 _ _ (A.un N_8) (Mem.un_le (hA.trans (hS.le_zed [1])) (hS.new_zed [1])) (hS.enter [1] (by decide)) hr_11 et_12) ?_
 rintro _ w_13 ⟨v_16, N_14, rfl, hS', hr_17⟩
 intro a h
 obtain ⟨N_15, hS'', le_15, ln_15⟩ := hS.call [1] (by decide) rfl (l' := [Mem.one g_4 (.cells ([v_16, .bool t_12.2.2] : List Value).toArray 56 (0, 0))]) (ow := []) rfl hS'
 replace hS : Sep w0 w_13 [N_15, _, Mem.one g_4 (.cells ([v_16, .bool t_12.2.2] : List Value).toArray 56 (0, 0))] Z := hS''
 clear hS' hS''
 have hr_18 : Rd Kd.u8 (A.un N_15) v_16 t_12.2.1 := hr_17.mono (Mem.un_le (Mem.un_left le_15) (ln_15.trans (hS.sndA hA)))
 refine s_move h rfl rfl fun a h=>?_
 obtain ⟨t_19, et_19, H⟩ := Option.bind_eq_some_iff.1 H
 refine s_call h rfl Try.call35 rfl (hocketref1_Reader_Num.calls K _ t_12.2.1 _ t_12.2.2 6 t_19 w0 _ _ (A.un N_15) (Mem.un_le (hA.trans (hS.le_zed [1])) (hS.new_zed [1])) (hS.enter [1] (by decide)) hr_18 et_19) ?_
 rintro _ w_20 ⟨v_23, N_21, rfl, hS', hr_24⟩
 intro a h
 obtain ⟨N_22, hS'', le_22, ln_22⟩ := hS.call [1] (by decide) rfl (l' := [Mem.one g_4 (.cells ([v_23, .bool t_19.2.2] : List Value).toArray 56 (0, 0))]) (ow := []) rfl hS'
 replace hS : Sep w0 w_20 [N_22, _, Mem.one g_4 (.cells ([v_23, .bool t_19.2.2] : List Value).toArray 56 (0, 0))] Z := hS''
 clear hS' hS''
 have hr_25 : Rd Kd.u8 (A.un N_22) v_23 t_19.2.1 := hr_24.mono (Mem.un_le (Mem.un_left le_22) (ln_22.trans (hS.sndA hA)))
 refine s_move h rfl rfl fun a h=>?_
 obtain ⟨t_26, et_26, H⟩ := Option.bind_eq_some_iff.1 H
 refine s_call h rfl Try.call35 rfl (hocketref1_Reader_Num.calls K _ t_19.2.1 _ t_19.2.2 1099511627776 t_26 w0 _ _ (A.un N_22) (Mem.un_le (hA.trans (hS.le_zed [1])) (hS.new_zed [1])) (hS.enter [1] (by decide)) hr_25 et_26) ?_
 rintro _ w_27 ⟨v_30, N_28, rfl, hS', hr_31⟩
 intro a h
 obtain ⟨N_29, hS'', le_29, ln_29⟩ := hS.call [1] (by decide) rfl (l' := [Mem.one g_4 (.cells ([v_30, .bool t_26.2.2] : List Value).toArray 56 (0, 0))]) (ow := []) rfl hS'
 replace hS : Sep w0 w_27 [N_29, _, Mem.one g_4 (.cells ([v_30, .bool t_26.2.2] : List Value).toArray 56 (0, 0))] Z := hS''
 clear hS' hS''
 have hr_32 : Rd Kd.u8 (A.un N_29) v_30 t_26.2.1 := hr_31.mono (Mem.un_le (Mem.un_left le_29) (ln_29.trans (hS.sndA hA)))
 refine s_build h rfl ti29 pl29 rfl (.cons rfl (.cons rfl (.cons rfl (.cons rfl .nil)))) (cs := [iV t_5.1, iV t_12.1, iV t_19.1, iV t_26.1, iV 0, iV 0, .bool false, iV 0, iV 0, iV 0, iV 0, nS, iV 0, iV 0, nS, nS, iV 0, iV 0, iV 0, iV 0, iV 0, nS, nS, nS]) (by kernel_rfl) fun a h=>v_alloc h rfl ti29 hS fun w_33 g_34 hS' a h => ?_
 replace hS : Sep w0 w_33 [_, _, _, Mem.one g_34 (.cells ([iV 0, iV 0, iV 0, iV 0, iV 0, iV 0, .bool false, iV 0, iV 0, iV 0, iV 0, nS, iV 0, iV 0, nS, nS, iV 0, iV 0, iV 0, iV 0, iV 0, nS, nS, nS] : List Value).toArray 29 (0, 0))] Z := hS'
 clear hS'
 obtain ⟨w_35, hs', hS'⟩ := hS.store (P := Try.prog) (p := 3) (o := 0) (t := 29) (v := .agg ([iV t_5.1, iV t_12.1, iV t_19.1, iV t_26.1, iV 0, iV 0, .bool false, iV 0, iV 0, iV 0, iV 0, nS, iV 0, iV 0, nS, nS, iV 0, iV 0, iV 0, iV 0, iV 0, nS, nS, nS] : List Value).toArray) (vs := [iV t_5.1, iV t_12.1, iV t_19.1, iV t_26.1, iV 0, iV 0, .bool false, iV 0, iV 0, iV 0, iV 0, nS, iV 0, iV 0, nS, nS, iV 0, iV 0, iV 0, iV 0, iV 0, nS, nS, nS]) rfl ti29 rfl rfl rfl (by intro u hu; simp only [List.mem_cons, List.not_mem_nil, or_false] at hu; rcases hu with rfl | rfl | rfl | rfl | rfl | rfl | rfl | rfl | rfl | rfl | rfl | rfl | rfl | rfl | rfl | rfl | rfl | rfl | rfl | rfl | rfl | rfl | rfl | rfl <;> rfl)
 refine s_store h rfl rfl hs' ?_
 replace hS : Sep w0 w_35 [_, _, _, Mem.one g_34 (.cells ([iV t_5.1, iV t_12.1, iV t_19.1, iV t_26.1, _, _, _, _, _, _, _, _, _, _, _, _, _, _, _, _, _, _, _, _] : List Value).toArray 29 (0, 0))] Z := hS'
 clear hs' hS'
 refine wpList_nil <| x_then_n <| c_seq fun KJ_36 hKJ_36 => wp_seq <| wp_region_lit <| s_fieldAddr h rfl U29 rfl ti3 rfl rfl fun a h=>s_load h rfl rfl (hS.load_one (p := 3) rfl U3 rfl rfl) fun a h=>wpList_nil ?_
 replace h : Fr 91 a [(2, .pointer (some ⟨g_2, 0, none⟩)), (3, .bool false), (4, .pointer (some ⟨g_4, 0, none⟩)), (5, .pointer (some ⟨g_34, 0, none⟩)), (19, iV t_5.1)] := h.keep [2, 3, 4, 5, 19]
 refine x_then_n ?_
 have hJ_j_67 : ∀ (x_38 : hocketref1_Reader), ∀ (x_41 : api_Msg), hocketref11_Decode.J1 K x_38 x_41 = some r → ∀ (a : Act) (w_66 : World), (∃ (v_39 : Value) (v_44 : Value) (v_48 : Value) (v_52 : Value) (v_56 : Value) (v_60 : Value) (v_64 : Value) (N_37 : Mem) (M_42 : Mem) (M_46 : Mem) (M_50 : Mem) (M_54 : Mem) (M_58 : Mem) (M_62 : Mem), Fr 91 a [(2, .pointer (some ⟨g_2, 0, none⟩)), (3, .bool false), (4, .pointer (some ⟨g_4, 0, none⟩)), (5, .pointer (some ⟨g_34, 0, none⟩))] ∧ Sep w0 w_66 [N_37, Mem.one g_2 (.cells ([iV 0, iV 0, iV 0, iV 0, iV 0, iV 0, .bool false, iV 0, iV 0, iV 0, iV 0, nS, iV 0, iV 0, nS, nS, iV 0, iV 0, iV 0, iV 0, iV 0, nS, nS, nS] : List Value).toArray 29 (0, 0)), Mem.one g_4 (.cells ([v_39, .bool x_38.Bad] : List Value).toArray 56 (0, 0)), Mem.one g_34 (.cells ([iV x_41.Kind, iV x_41.From, iV x_41.To, iV x_41.View, iV x_41.Inst, iV x_41.Len, .bool x_41.Has, iV x_41.Members, iV x_41.Source, iV x_41.At, iV x_41.Total, v_44, iV x_41.Hop, iV x_41.Seq, v_48, v_52, iV x_41.Index, iV x_41.Entry.Sess, iV x_41.Entry.Seq, iV x_41.Entry.Cmd.Kind, iV x_41.Entry.Cmd.Who, v_56, v_60, v_64] : List Value).toArray 29 (0, 0)), M_42, M_46, M_50, M_54, M_58, M_62] Z ∧ N_29.le N_37 ∧ Rd Kd.u8 (A.un N_37) v_39 x_38.B ∧ Own Kd.u8 5 M_42 Mem.no v_44 x_41.Data ∧ Own (Kd.int .i64) 3 M_46 Mem.no v_48 x_41.Have ∧ Own (Kd.int .i64) 3 M_50 Mem.no v_52 x_41.Need ∧ Own Kd.u8 5 M_54 Mem.no v_56 x_41.Entry.Cmd.Key ∧ Own Kd.u8 5 M_58 Mem.no v_60 x_41.Entry.Cmd.Val ∧ Own Kd.u8 5 M_62 Mem.no v_64 x_41.Entry.Cmd.Old) → KJ_36 a w_66 := by
  clear H h hS a
  rintro x_38 x_41 H a w_66 ⟨v_39, v_44, v_48, v_52, v_56, v_60, v_64, N_37, M_42, M_46, M_50, M_54, M_58, M_62, h, hS, le_37, hr_40, ho_45, ho_49, ho_53, ho_57, ho_61, ho_65⟩
  unfold hocketref11_Decode.J1 at H
  refine hKJ_36 _ _ <| c_seq fun KJ_68 hKJ_68 => c_seq fun KJ_69 hKJ_69 => ?_
  have hJ_j_73 : ∀ (x_71 : Bool), hocketref11_Decode.J2 K x_41 x_71 = some r → ∀ (a : Act) (w_72 : World), (∃ (N_70 : Mem), Fr 91 a [(2, .pointer (some ⟨g_2, 0, none⟩)), (3, .bool false), (5, .pointer (some ⟨g_34, 0, none⟩)), (88, .bool x_71)] ∧ Sep w0 w_72 [N_70, Mem.one g_2 (.cells ([iV 0, iV 0, iV 0, iV 0, iV 0, iV 0, .bool false, iV 0, iV 0, iV 0, iV 0, nS, iV 0, iV 0, nS, nS, iV 0, iV 0, iV 0, iV 0, iV 0, nS, nS, nS] : List Value).toArray 29 (0, 0)), Mem.no, Mem.one g_34 (.cells ([iV x_41.Kind, iV x_41.From, iV x_41.To, iV x_41.View, iV x_41.Inst, iV x_41.Len, .bool x_41.Has, iV x_41.Members, iV x_41.Source, iV x_41.At, iV x_41.Total, v_44, iV x_41.Hop, iV x_41.Seq, v_48, v_52, iV x_41.Index, iV x_41.Entry.Sess, iV x_41.Entry.Seq, iV x_41.Entry.Cmd.Kind, iV x_41.Entry.Cmd.Who, v_56, v_60, v_64] : List Value).toArray 29 (0, 0)), M_42, M_46, M_50, M_54, M_58, M_62] Z ∧ N_37.le N_70) → KJ_69 a w_72 := by
   clear H h hS a
   rintro x_71 H a w_72 ⟨N_70, h, hS, le_70⟩
   unfold hocketref11_Decode.J2 at H
   refine hKJ_69 _ _ ?_
   by_cases hc_74 : x_71 = true
   ·rw [if_pos hc_74] at H
    refine c_cond_t h rfl hc_74 <| wp_seq <| wp_region_lit <| s_build h rfl ti29 pl29 rfl .nil (cs := [iV 0, iV 0, iV 0, iV 0, iV 0, iV 0, .bool false, iV 0, iV 0, iV 0, iV 0, nS, iV 0, iV 0, nS, nS, iV 0, iV 0, iV 0, iV 0, iV 0, nS, nS, nS]) (by kernel_rfl) fun a h=>?_
    obtain ⟨w_75, hs', hS'⟩ := hS.store (P := Try.prog) (p := 1) (o := 0) (t := 29) (v := .agg ([iV 0, iV 0, iV 0, iV 0, iV 0, iV 0, .bool false, iV 0, iV 0, iV 0, iV 0, nS, iV 0, iV 0, nS, nS, iV 0, iV 0, iV 0, iV 0, iV 0, nS, nS, nS] : List Value).toArray) (vs := [iV 0, iV 0, iV 0, iV 0, iV 0, iV 0, .bool false, iV 0, iV 0, iV 0, iV 0, nS, iV 0, iV 0, nS, nS, iV 0, iV 0, iV 0, iV 0, iV 0, nS, nS, nS]) rfl ti29 rfl rfl rfl (by intro u hu; simp only [List.mem_cons, List.not_mem_nil, or_false] at hu; rcases hu with rfl | rfl | rfl | rfl | rfl | rfl | rfl | rfl | rfl | rfl | rfl | rfl | rfl | rfl | rfl | rfl | rfl | rfl | rfl | rfl | rfl | rfl | rfl | rfl <;> rfl)
    refine s_store h rfl rfl hs' ?_
    replace hS : Sep w0 w_75 [_, _, _, _, _, _, _, _, _, _] Z := hS'
    clear hs' hS'
    refine s_assign h rfl rfl fun a h=>wpList_nil <| x_then_n <| wp_ret (x_then_r ?_)
    have hS' := hS.room
    replace hS : Sep w0 w_75 [_, _, _, _, _, _, _, _, _, _, Mem.no] Z := hS'
    clear hS'
    replace hS : Sep w0 w_75 [_, _, _, _, _, _, _, _, _, _, _] Z := hS
    have hS' := hS.room
    replace hS : Sep w0 w_75 [_, _, _, _, _, _, _, _, _, _, _, Mem.no] Z := hS'
    clear hS'
    replace hS : Sep w0 w_75 [_, _, _, _, _, _, _, _, _, _, _, _] Z := hS
    have hS' := hS.room
    replace hS : Sep w0 w_75 [_, _, _, _, _, _, _, _, _, _, _, _, Mem.no] Z := hS'
    clear hS'
    replace hS : Sep w0 w_75 [_, _, _, _, _, _, _, _, _, _, _, _, _] Z := hS
    have hS' := hS.room
    replace hS : Sep w0 w_75 [_, _, _, _, _, _, _, _, _, _, _, _, _, Mem.no] Z := hS'
    clear hS'
    replace hS : Sep w0 w_75 [_, _, _, _, _, _, _, _, _, _, _, _, _, _] Z := hS
    have hS' := hS.room
    replace hS : Sep w0 w_75 [_, _, _, _, _, _, _, _, _, _, _, _, _, _, Mem.no] Z := hS'
    clear hS'
    replace hS : Sep w0 w_75 [_, _, _, _, _, _, _, _, _, _, _, _, _, _, _] Z := hS
    have hS' := hS.room
    replace hS : Sep w0 w_75 [_, _, _, _, _, _, _, _, _, _, _, _, _, _, _, Mem.no] Z := hS'
    clear hS'
    replace hS : Sep w0 w_75 [_, _, _, _, _, _, _, _, _, _, _, _, _, _, _, _] Z := hS
    obtain rfl := Option.some.inj H
    exact f_ret h (rs := [.cell 2 29, .tmp 3]) rfl (.cell rfl (hS.load_agg (p := 1) (us := [iV 0, iV 0, iV 0, iV 0, iV 0, iV 0, .bool false, iV 0, iV 0, iV 0, iV 0, nS, iV 0, iV 0, nS, nS, iV 0, iV 0, iV 0, iV 0, iV 0, nS, nS, nS]) rfl U29 rfl ti29 rfl rfl) (.tmp rfl .nil)) ⟨_, rfl, nS, nS, nS, nS, nS, nS, N_70, Mem.no, Mem.no, Mem.no, Mem.no, Mem.no, Mem.no, rfl, (Sep.sel hS [0, 10, 11, 12, 13, 14, 15] (by decide)), (Own.nil Kd.u8 5 Mem.no), (Own.nil (Kd.int .i64) 3 Mem.no), (Own.nil (Kd.int .i64) 3 Mem.no), (Own.nil Kd.u8 5 Mem.no), (Own.nil Kd.u8 5 Mem.no), (Own.nil Kd.u8 5 Mem.no)⟩
   ·rw [if_neg hc_74] at H
    refine c_cond_f h rfl (Bool.eq_false_iff.2 hc_74) <| wp_skip <| x_then_n (hKJ_68 _ _ ?_)
    refine wp_seq <| wp_region_lit <| s_load h rfl rfl (hS.load_agg (p := 3) (us := [iV x_41.Kind, iV x_41.From, iV x_41.To, iV x_41.View, iV x_41.Inst, iV x_41.Len, .bool x_41.Has, iV x_41.Members, iV x_41.Source, iV x_41.At, iV x_41.Total, v_44, iV x_41.Hop, iV x_41.Seq, v_48, v_52, iV x_41.Index, iV x_41.Entry.Sess, iV x_41.Entry.Seq, iV x_41.Entry.Cmd.Kind, iV x_41.Entry.Cmd.Who, v_56, v_60, v_64]) rfl U29 rfl ti29 rfl rfl) fun a h=>?_
    obtain ⟨w_82, hs', hS'⟩ := hS.store (P := Try.prog) (p := 1) (o := 0) (t := 29) (v := .agg ([iV x_41.Kind, iV x_41.From, iV x_41.To, iV x_41.View, iV x_41.Inst, iV x_41.Len, .bool x_41.Has, iV x_41.Members, iV x_41.Source, iV x_41.At, iV x_41.Total, v_44, iV x_41.Hop, iV x_41.Seq, v_48, v_52, iV x_41.Index, iV x_41.Entry.Sess, iV x_41.Entry.Seq, iV x_41.Entry.Cmd.Kind, iV x_41.Entry.Cmd.Who, v_56, v_60, v_64] : List Value).toArray) (vs := [iV x_41.Kind, iV x_41.From, iV x_41.To, iV x_41.View, iV x_41.Inst, iV x_41.Len, .bool x_41.Has, iV x_41.Members, iV x_41.Source, iV x_41.At, iV x_41.Total, v_44, iV x_41.Hop, iV x_41.Seq, v_48, v_52, iV x_41.Index, iV x_41.Entry.Sess, iV x_41.Entry.Seq, iV x_41.Entry.Cmd.Kind, iV x_41.Entry.Cmd.Who, v_56, v_60, v_64]) rfl ti29 rfl rfl rfl (by intro u hu; simp only [List.mem_cons, List.not_mem_nil, or_false] at hu; rcases hu with rfl | rfl | rfl | rfl | rfl | rfl | rfl | rfl | rfl | rfl | rfl | rfl | rfl | rfl | rfl | rfl | rfl | rfl | rfl | rfl | rfl | rfl | rfl | rfl <;> first | rfl | exact ho_45.one | exact ho_49.one | exact ho_53.one | exact ho_57.one | exact ho_61.one | exact ho_65.one)
    refine s_store h rfl rfl hs' ?_
    replace hS : Sep w0 w_82 [_, Mem.one g_2 (.cells ([iV x_41.Kind, iV x_41.From, iV x_41.To, iV x_41.View, iV x_41.Inst, iV x_41.Len, .bool x_41.Has, iV x_41.Members, iV x_41.Source, iV x_41.At, iV x_41.Total, v_44, iV x_41.Hop, iV x_41.Seq, v_48, v_52, iV x_41.Index, iV x_41.Entry.Sess, iV x_41.Entry.Seq, iV x_41.Entry.Cmd.Kind, iV x_41.Entry.Cmd.Who, v_56, v_60, v_64] : List Value).toArray 29 (0, 0)), _, _, _, _, _, _, _, _] Z := hS'
    clear hs' hS'
    refine s_assign h rfl rfl fun a h=>wpList_nil <| x_then_n <| wp_ret ?_
    obtain rfl := Option.some.inj H
    exact f_ret h (rs := [.cell 2 29, .tmp 3]) rfl (.cell rfl (hS.load_agg (p := 1) (us := [iV x_41.Kind, iV x_41.From, iV x_41.To, iV x_41.View, iV x_41.Inst, iV x_41.Len, .bool x_41.Has, iV x_41.Members, iV x_41.Source, iV x_41.At, iV x_41.Total, v_44, iV x_41.Hop, iV x_41.Seq, v_48, v_52, iV x_41.Index, iV x_41.Entry.Sess, iV x_41.Entry.Seq, iV x_41.Entry.Cmd.Kind, iV x_41.Entry.Cmd.Who, v_56, v_60, v_64]) rfl U29 rfl ti29 rfl rfl) (.tmp rfl .nil)) ⟨_, rfl, v_44, v_48, v_52, v_56, v_60, v_64, N_70, M_42, M_46, M_50, M_54, M_58, M_62, rfl, (Sep.sel hS [0, 4, 5, 6, 7, 8, 9] (by decide)), ho_45, ho_49, ho_53, ho_57, ho_61, ho_65⟩
  clear hKJ_69
  refine wp_region_lit <| s_fieldAddr h rfl U29 rfl ti3 rfl rfl fun a h=>s_load h rfl rfl (hS.load_one (p := 3) rfl U3 rfl rfl) fun a h=>s_cmp (b := (x_41.Kind == 0)) h rfl rfl rfl (.inl ⟨rfl, rfl⟩) fun a h=>s_move h rfl rfl fun a h=>?_
  by_cases hc_83 : x_41.Kind = 0
  ·rw [if_pos hc_83] at H
   refine s_off h rfl rfl rfl (beq_iff_eq.2 hc_83) fun a h=>s_off h rfl rfl rfl (beq_iff_eq.2 hc_83) fun a h=>s_off h rfl rfl rfl (beq_iff_eq.2 hc_83) fun a h=>s_pick_t h rfl rfl (beq_iff_eq.2 hc_83) rfl fun a h=>wpList_nil ?_
   replace hS : Sep w0 w_66 [_, _, _, _, _, _, _, _, _, _] Z := hS
   replace h : Fr 91 a [(2, _), (3, _), (5, _), (88, .bool true)] := h.keep [2, 3, 5, 88]
   exact x_then_n (hJ_j_73 true H _ _ ⟨N_37, h, (Sep.sel hS [0, 1, 1001, 3, 4, 5, 6, 7, 8, 9] (by decide)), (Mem.le.refl _)⟩)
  ·rw [if_neg hc_83] at H
   refine s_on h rfl rfl (beq_eq_false_iff_ne.2 hc_83) <| s_move h rfl rfl fun a h=>s_on h rfl rfl (beq_eq_false_iff_ne.2 hc_83) ?_
   obtain ⟨t_84, et_84, H⟩ := Option.bind_eq_some_iff.1 H
   refine s_call h rfl Try.call39 rfl (hocketref1_Reader_End.calls _ x_38.B _ x_38.Bad t_84 w0 _ _ _ (Mem.le.refl _) (hS.enter [1] (by decide)) (hr_40.mono (Mem.un_le (hA.trans (hS.le_zed [1])) ((Mem.le.refl _).trans (hS.new_zed [1])))) et_84) ?_
   rintro _ w_85 ⟨N_86, rfl, hS'⟩
   intro a h
   obtain ⟨N_87, hS'', le_87, ln_87⟩ := hS.call [1] (by decide) rfl (l' := [Mem.one g_4 (.cells ([v_39, .bool x_38.Bad] : List Value).toArray 56 (0, 0))]) (ow := []) rfl hS'
   replace hS : Sep w0 w_85 [N_87, _, _, _, _, _, _, _, _, _] Z := hS''
   clear hS' hS''
   refine s_on h rfl rfl (beq_eq_false_iff_ne.2 hc_83) <| s_not h rfl rfl fun a h=>s_pick_f h rfl rfl (beq_eq_false_iff_ne.2 hc_83) rfl fun a h=>wpList_nil ?_
   replace hS : Sep w0 w_85 [_, _, _, _, _, _, _, _, _, _] Z := hS
   replace h : Fr 91 a [(2, _), (3, _), (5, _), (88, .bool (!t_84))] := h.keep [2, 3, 5, 88]
   exact x_then_n (hJ_j_73 (!t_84) H _ _ ⟨N_87, h, (Sep.sel hS [0, 1, 1001, 3, 4, 5, 6, 7, 8, 9] (by decide)), le_87⟩)
 clear hKJ_36
 refine c_block <| wp_seq <| wp_region_lit <| s_cmp (b := (t_5.1 == 2)) h rfl rfl rfl (.inl ⟨rfl, rfl⟩) fun a h=>s_assign h rfl rfl fun a h=>wpList_nil <| x_then_n ?_
 by_cases hc_88 : t_5.1 = 2
 ·rw [if_pos hc_88] at H
  refine c_cond_t h rfl (beq_iff_eq.2 hc_88) <| wp_seq <| wp_region_lit <| s_move h rfl rfl fun a h=>?_
  obtain ⟨t_89, et_89, H⟩ := Option.bind_eq_some_iff.1 H
  refine s_call h rfl Try.call35 rfl (hocketref1_Reader_Num.calls K _ t_26.2.1 _ t_26.2.2 1099511627776 t_89 w0 _ _ (A.un N_29) (Mem.un_le (hA.trans (hS.le_zed [1])) (hS.new_zed [1])) (hS.enter [1] (by decide)) hr_32 et_89) ?_
  rintro _ w_90 ⟨v_93, N_91, rfl, hS', hr_94⟩
  intro a h
  obtain ⟨N_92, hS'', le_92, ln_92⟩ := hS.call [1] (by decide) rfl (l' := [Mem.one g_4 (.cells ([v_93, .bool t_89.2.2] : List Value).toArray 56 (0, 0))]) (ow := []) rfl hS'
  replace hS : Sep w0 w_90 [N_92, _, Mem.one g_4 (.cells ([v_93, .bool t_89.2.2] : List Value).toArray 56 (0, 0)), _] Z := hS''
  clear hS' hS''
  have hr_95 : Rd Kd.u8 (A.un N_92) v_93 t_89.2.1 := hr_94.mono (Mem.un_le (Mem.un_left le_92) (ln_92.trans (hS.sndA hA)))
  refine s_move h rfl rfl fun a h=>?_
  obtain ⟨t_96, et_96, H⟩ := Option.bind_eq_some_iff.1 H
  refine s_call h rfl Try.call35 rfl (hocketref1_Reader_Num.calls K _ t_89.2.1 _ t_89.2.2 1099511627776 t_96 w0 _ _ (A.un N_92) (Mem.un_le (hA.trans (hS.le_zed [1])) (hS.new_zed [1])) (hS.enter [1] (by decide)) hr_95 et_96) ?_
  rintro _ w_97 ⟨v_100, N_98, rfl, hS', hr_101⟩
  intro a h
  obtain ⟨N_99, hS'', le_99, ln_99⟩ := hS.call [1] (by decide) rfl (l' := [Mem.one g_4 (.cells ([v_100, .bool t_96.2.2] : List Value).toArray 56 (0, 0))]) (ow := []) rfl hS'
  replace hS : Sep w0 w_97 [N_99, _, Mem.one g_4 (.cells ([v_100, .bool t_96.2.2] : List Value).toArray 56 (0, 0)), _] Z := hS''
  clear hS' hS''
  have hr_102 : Rd Kd.u8 (A.un N_99) v_100 t_96.2.1 := hr_101.mono (Mem.un_le (Mem.un_left le_99) (ln_99.trans (hS.sndA hA)))
  refine s_fieldAddr h rfl U29 rfl ti3 rfl rfl fun a h=>?_
  obtain ⟨w_103, hs', hS'⟩ := hS.store (P := Try.prog) (p := 3) (o := 4) (t := 3) (v := iV t_89.1) (vs := [iV t_89.1]) rfl ti3 rfl rfl rfl (by intro u hu; simp only [List.mem_cons, List.not_mem_nil, or_false] at hu; rcases hu with rfl <;> rfl)
  refine s_store h rfl rfl hs' ?_
  replace hS : Sep w0 w_103 [_, _, _, Mem.one g_34 (.cells ([_, _, _, _, iV t_89.1, _, _, _, _, _, _, _, _, _, _, _, _, _, _, _, _, _, _, _] : List Value).toArray 29 (0, 0))] Z := hS'
  clear hs' hS'
  refine s_fieldAddr h rfl U29 rfl ti3 rfl rfl fun a h=>?_
  obtain ⟨w_104, hs', hS'⟩ := hS.store (P := Try.prog) (p := 3) (o := 5) (t := 3) (v := iV t_96.1) (vs := [iV t_96.1]) rfl ti3 rfl rfl rfl (by intro u hu; simp only [List.mem_cons, List.not_mem_nil, or_false] at hu; rcases hu with rfl <;> rfl)
  refine s_store h rfl rfl hs' ?_
  replace hS : Sep w0 w_104 [_, _, _, Mem.one g_34 (.cells ([_, _, _, _, _, iV t_96.1, _, _, _, _, _, _, _, _, _, _, _, _, _, _, _, _, _, _] : List Value).toArray 29 (0, 0))] Z := hS'
  clear hs' hS'
  refine wpList_nil <| x_then_n <| wp_region_lit <| s_move h rfl rfl fun a h=>?_
  obtain ⟨t_105, et_105, H⟩ := Option.bind_eq_some_iff.1 H
  refine s_call h rfl Try.call35 rfl (hocketref1_Reader_Num.calls K _ t_96.2.1 _ t_96.2.2 1 t_105 w0 _ _ (A.un N_99) (Mem.un_le (hA.trans (hS.le_zed [1])) (hS.new_zed [1])) (hS.enter [1] (by decide)) hr_102 et_105) ?_
  rintro _ w_106 ⟨v_109, N_107, rfl, hS', hr_110⟩
  intro a h
  obtain ⟨N_108, hS'', le_108, ln_108⟩ := hS.call [1] (by decide) rfl (l' := [Mem.one g_4 (.cells ([v_109, .bool t_105.2.2] : List Value).toArray 56 (0, 0))]) (ow := []) rfl hS'
  replace hS : Sep w0 w_106 [N_108, _, Mem.one g_4 (.cells ([v_109, .bool t_105.2.2] : List Value).toArray 56 (0, 0)), _] Z := hS''
  clear hS' hS''
  have hr_111 : Rd Kd.u8 (A.un N_108) v_109 t_105.2.1 := hr_110.mono (Mem.un_le (Mem.un_left le_108) (ln_108.trans (hS.sndA hA)))
  refine s_cmp (b := (t_105.1 == 1)) h rfl rfl rfl (.inl ⟨rfl, rfl⟩) fun a h=>s_fieldAddr h rfl U29 rfl ti4 rfl rfl fun a h=>?_
  obtain ⟨w_112, hs', hS'⟩ := hS.store (P := Try.prog) (p := 3) (o := 6) (t := 4) (v := .bool (t_105.1 == 1)) (vs := [.bool (t_105.1 == 1)]) rfl ti4 rfl rfl rfl (by intro u hu; simp only [List.mem_cons, List.not_mem_nil, or_false] at hu; rcases hu with rfl <;> rfl)
  refine s_store h rfl rfl hs' ?_
  replace hS : Sep w0 w_112 [_, _, _, Mem.one g_34 (.cells ([_, _, _, _, _, _, .bool (t_105.1 == 1), _, _, _, _, _, _, _, _, _, _, _, _, _, _, _, _, _] : List Value).toArray 29 (0, 0))] Z := hS'
  clear hs' hS'
  refine wpList_nil <| x_block_n ?_
  have hS' := hS.room
  replace hS : Sep w0 w_112 [_, _, _, _, Mem.no] Z := hS'
  clear hS'
  have hS' := hS.room
  replace hS : Sep w0 w_112 [_, _, _, _, _, Mem.no] Z := hS'
  clear hS'
  have hS' := hS.room
  replace hS : Sep w0 w_112 [_, _, _, _, _, _, Mem.no] Z := hS'
  clear hS'
  have hS' := hS.room
  replace hS : Sep w0 w_112 [_, _, _, _, _, _, _, Mem.no] Z := hS'
  clear hS'
  have hS' := hS.room
  replace hS : Sep w0 w_112 [_, _, _, _, _, _, _, _, Mem.no] Z := hS'
  clear hS'
  have hS' := hS.room
  replace hS : Sep w0 w_112 [_, _, _, _, _, _, _, _, _, Mem.no] Z := hS'
  clear hS'
  replace hS : Sep w0 w_112 [_, _, _, _, _, _, _, _, _, _] Z := hS
  replace h : Fr 91 a [(2, _), (3, _), (4, _), (5, _)] := h.keep [2, 3, 4, 5]
  exact x_then_n (hJ_j_67 (⟨t_105.2.1, t_105.2.2⟩ : hocketref1_Reader) (⟨t_5.1, t_12.1, t_19.1, t_26.1, t_89.1, t_96.1, (t_105.1 == 1), 0, 0, 0, 0, ([] : List UInt8), 0, 0, ([] : List Int), ([] : List Int), 0, (⟨0, 0, (⟨0, 0, ([] : List UInt8), ([] : List UInt8), ([] : List UInt8)⟩ : api_Cmd)⟩ : api_Entry)⟩ : api_Msg) H _ _ ⟨v_109, nS, nS, nS, nS, nS, nS, N_108, Mem.no, Mem.no, Mem.no, Mem.no, Mem.no, Mem.no, h, (Sep.sel hS [0, 1, 2, 3, 4, 5, 6, 7, 8, 9] (by decide)), (le_92.trans (le_99.trans le_108)), hr_111, (Own.nil Kd.u8 5 Mem.no), (Own.nil (Kd.int .i64) 3 Mem.no), (Own.nil (Kd.int .i64) 3 Mem.no), (Own.nil Kd.u8 5 Mem.no), (Own.nil Kd.u8 5 Mem.no), (Own.nil Kd.u8 5 Mem.no)⟩)
 ·rw [if_neg hc_88] at H
  refine c_cond_f h rfl (beq_eq_false_iff_ne.2 hc_88) <| wp_seq <| wp_region_lit <| s_cmp (b := (t_5.1 == 3)) h rfl rfl rfl (.inl ⟨rfl, rfl⟩) fun a h=>s_assign h rfl rfl fun a h=>wpList_nil <| x_then_n ?_
  by_cases hc_119 : t_5.1 = 3
  ·rw [if_pos hc_119] at H
   refine c_cond_t h rfl (beq_iff_eq.2 hc_119) <| wp_region_lit <| s_move h rfl rfl fun a h=>?_
   obtain ⟨t_120, et_120, H⟩ := Option.bind_eq_some_iff.1 H
   refine s_call h rfl Try.call35 rfl (hocketref1_Reader_Num.calls K _ t_26.2.1 _ t_26.2.2 127 t_120 w0 _ _ (A.un N_29) (Mem.un_le (hA.trans (hS.le_zed [1])) (hS.new_zed [1])) (hS.enter [1] (by decide)) hr_32 et_120) ?_
   rintro _ w_121 ⟨v_124, N_122, rfl, hS', hr_125⟩
   intro a h
   obtain ⟨N_123, hS'', le_123, ln_123⟩ := hS.call [1] (by decide) rfl (l' := [Mem.one g_4 (.cells ([v_124, .bool t_120.2.2] : List Value).toArray 56 (0, 0))]) (ow := []) rfl hS'
   replace hS : Sep w0 w_121 [N_123, _, Mem.one g_4 (.cells ([v_124, .bool t_120.2.2] : List Value).toArray 56 (0, 0)), _] Z := hS''
   clear hS' hS''
   have hr_126 : Rd Kd.u8 (A.un N_123) v_124 t_120.2.1 := hr_125.mono (Mem.un_le (Mem.un_left le_123) (ln_123.trans (hS.sndA hA)))
   refine s_move h rfl rfl fun a h=>?_
   obtain ⟨t_127, et_127, H⟩ := Option.bind_eq_some_iff.1 H
   refine s_call h rfl Try.call35 rfl (hocketref1_Reader_Num.calls K _ t_120.2.1 _ t_120.2.2 6 t_127 w0 _ _ (A.un N_123) (Mem.un_le (hA.trans (hS.le_zed [1])) (hS.new_zed [1])) (hS.enter [1] (by decide)) hr_126 et_127) ?_
   rintro _ w_128 ⟨v_131, N_129, rfl, hS', hr_132⟩
   intro a h
   obtain ⟨N_130, hS'', le_130, ln_130⟩ := hS.call [1] (by decide) rfl (l' := [Mem.one g_4 (.cells ([v_131, .bool t_127.2.2] : List Value).toArray 56 (0, 0))]) (ow := []) rfl hS'
   replace hS : Sep w0 w_128 [N_130, _, Mem.one g_4 (.cells ([v_131, .bool t_127.2.2] : List Value).toArray 56 (0, 0)), _] Z := hS''
   clear hS' hS''
   have hr_133 : Rd Kd.u8 (A.un N_130) v_131 t_127.2.1 := hr_132.mono (Mem.un_le (Mem.un_left le_130) (ln_130.trans (hS.sndA hA)))
   refine s_move h rfl rfl fun a h=>?_
   obtain ⟨t_134, et_134, H⟩ := Option.bind_eq_some_iff.1 H
   refine s_call h rfl Try.call35 rfl (hocketref1_Reader_Num.calls K _ t_127.2.1 _ t_127.2.2 1099511627776 t_134 w0 _ _ (A.un N_130) (Mem.un_le (hA.trans (hS.le_zed [1])) (hS.new_zed [1])) (hS.enter [1] (by decide)) hr_133 et_134) ?_
   rintro _ w_135 ⟨v_138, N_136, rfl, hS', hr_139⟩
   intro a h
   obtain ⟨N_137, hS'', le_137, ln_137⟩ := hS.call [1] (by decide) rfl (l' := [Mem.one g_4 (.cells ([v_138, .bool t_134.2.2] : List Value).toArray 56 (0, 0))]) (ow := []) rfl hS'
   replace hS : Sep w0 w_135 [N_137, _, Mem.one g_4 (.cells ([v_138, .bool t_134.2.2] : List Value).toArray 56 (0, 0)), _] Z := hS''
   clear hS' hS''
   have hr_140 : Rd Kd.u8 (A.un N_137) v_138 t_134.2.1 := hr_139.mono (Mem.un_le (Mem.un_left le_137) (ln_137.trans (hS.sndA hA)))
   refine s_fieldAddr h rfl U29 rfl ti3 rfl rfl fun a h=>?_
   obtain ⟨w_141, hs', hS'⟩ := hS.store (P := Try.prog) (p := 3) (o := 7) (t := 3) (v := iV t_120.1) (vs := [iV t_120.1]) rfl ti3 rfl rfl rfl (by intro u hu; simp only [List.mem_cons, List.not_mem_nil, or_false] at hu; rcases hu with rfl <;> rfl)
   refine s_store h rfl rfl hs' ?_
   replace hS : Sep w0 w_141 [_, _, _, Mem.one g_34 (.cells ([_, _, _, _, _, _, _, iV t_120.1, _, _, _, _, _, _, _, _, _, _, _, _, _, _, _, _] : List Value).toArray 29 (0, 0))] Z := hS'
   clear hs' hS'
   refine s_fieldAddr h rfl U29 rfl ti3 rfl rfl fun a h=>?_
   obtain ⟨w_142, hs', hS'⟩ := hS.store (P := Try.prog) (p := 3) (o := 8) (t := 3) (v := iV t_127.1) (vs := [iV t_127.1]) rfl ti3 rfl rfl rfl (by intro u hu; simp only [List.mem_cons, List.not_mem_nil, or_false] at hu; rcases hu with rfl <;> rfl)
   refine s_store h rfl rfl hs' ?_
   replace hS : Sep w0 w_142 [_, _, _, Mem.one g_34 (.cells ([_, _, _, _, _, _, _, _, iV t_127.1, _, _, _, _, _, _, _, _, _, _, _, _, _, _, _] : List Value).toArray 29 (0, 0))] Z := hS'
   clear hs' hS'
   refine s_fieldAddr h rfl U29 rfl ti3 rfl rfl fun a h=>?_
   obtain ⟨w_143, hs', hS'⟩ := hS.store (P := Try.prog) (p := 3) (o := 5) (t := 3) (v := iV t_134.1) (vs := [iV t_134.1]) rfl ti3 rfl rfl rfl (by intro u hu; simp only [List.mem_cons, List.not_mem_nil, or_false] at hu; rcases hu with rfl <;> rfl)
   refine s_store h rfl rfl hs' ?_
   replace hS : Sep w0 w_143 [_, _, _, Mem.one g_34 (.cells ([_, _, _, _, _, iV t_134.1, _, _, _, _, _, _, _, _, _, _, _, _, _, _, _, _, _, _] : List Value).toArray 29 (0, 0))] Z := hS'
   clear hs' hS'
   refine wpList_nil <| x_block_n ?_
   have hS' := hS.room
   replace hS : Sep w0 w_143 [_, _, _, _, Mem.no] Z := hS'
   clear hS'
   have hS' := hS.room
   replace hS : Sep w0 w_143 [_, _, _, _, _, Mem.no] Z := hS'
   clear hS'
   have hS' := hS.room
   replace hS : Sep w0 w_143 [_, _, _, _, _, _, Mem.no] Z := hS'
   clear hS'
   have hS' := hS.room
   replace hS : Sep w0 w_143 [_, _, _, _, _, _, _, Mem.no] Z := hS'
   clear hS'
   have hS' := hS.room
   replace hS : Sep w0 w_143 [_, _, _, _, _, _, _, _, Mem.no] Z := hS'
   clear hS'
   have hS' := hS.room
   replace hS : Sep w0 w_143 [_, _, _, _, _, _, _, _, _, Mem.no] Z := hS'
   clear hS'
   replace hS : Sep w0 w_143 [_, _, _, _, _, _, _, _, _, _] Z := hS
   replace h : Fr 91 a [(2, _), (3, _), (4, _), (5, _)] := h.keep [2, 3, 4, 5]
   exact x_then_n (hJ_j_67 (⟨t_134.2.1, t_134.2.2⟩ : hocketref1_Reader) (⟨t_5.1, t_12.1, t_19.1, t_26.1, 0, t_134.1, false, t_120.1, t_127.1, 0, 0, ([] : List UInt8), 0, 0, ([] : List Int), ([] : List Int), 0, (⟨0, 0, (⟨0, 0, ([] : List UInt8), ([] : List UInt8), ([] : List UInt8)⟩ : api_Cmd)⟩ : api_Entry)⟩ : api_Msg) H _ _ ⟨v_138, nS, nS, nS, nS, nS, nS, N_137, Mem.no, Mem.no, Mem.no, Mem.no, Mem.no, Mem.no, h, (Sep.sel hS [0, 1, 2, 3, 4, 5, 6, 7, 8, 9] (by decide)), (le_123.trans (le_130.trans le_137)), hr_140, (Own.nil Kd.u8 5 Mem.no), (Own.nil (Kd.int .i64) 3 Mem.no), (Own.nil (Kd.int .i64) 3 Mem.no), (Own.nil Kd.u8 5 Mem.no), (Own.nil Kd.u8 5 Mem.no), (Own.nil Kd.u8 5 Mem.no)⟩)
  ·rw [if_neg hc_119] at H
   refine c_cond_f h rfl (beq_eq_false_iff_ne.2 hc_119) <| wp_seq <| wp_region_lit <| s_cmp (b := (t_5.1 == 4)) h rfl rfl rfl (.inl ⟨rfl, rfl⟩) fun a h=>s_assign h rfl rfl fun a h=>wpList_nil <| x_then_n ?_
   by_cases hc_150 : t_5.1 = 4
   ·rw [if_pos hc_150] at H
    refine c_cond_t h rfl (beq_iff_eq.2 hc_150) <| wp_region_lit <| s_move h rfl rfl fun a h=>?_
    obtain ⟨t_151, et_151, H⟩ := Option.bind_eq_some_iff.1 H
    refine s_call h rfl Try.call35 rfl (hocketref1_Reader_Num.calls K _ t_26.2.1 _ t_26.2.2 1099511627776 t_151 w0 _ _ (A.un N_29) (Mem.un_le (hA.trans (hS.le_zed [1])) (hS.new_zed [1])) (hS.enter [1] (by decide)) hr_32 et_151) ?_
    rintro _ w_152 ⟨v_155, N_153, rfl, hS', hr_156⟩
    intro a h
    obtain ⟨N_154, hS'', le_154, ln_154⟩ := hS.call [1] (by decide) rfl (l' := [Mem.one g_4 (.cells ([v_155, .bool t_151.2.2] : List Value).toArray 56 (0, 0))]) (ow := []) rfl hS'
    replace hS : Sep w0 w_152 [N_154, _, Mem.one g_4 (.cells ([v_155, .bool t_151.2.2] : List Value).toArray 56 (0, 0)), _] Z := hS''
    clear hS' hS''
    have hr_157 : Rd Kd.u8 (A.un N_154) v_155 t_151.2.1 := hr_156.mono (Mem.un_le (Mem.un_left le_154) (ln_154.trans (hS.sndA hA)))
    refine s_fieldAddr h rfl U29 rfl ti3 rfl rfl fun a h=>?_
    obtain ⟨w_158, hs', hS'⟩ := hS.store (P := Try.prog) (p := 3) (o := 9) (t := 3) (v := iV t_151.1) (vs := [iV t_151.1]) rfl ti3 rfl rfl rfl (by intro u hu; simp only [List.mem_cons, List.not_mem_nil, or_false] at hu; rcases hu with rfl <;> rfl)
    refine s_store h rfl rfl hs' ?_
    replace hS : Sep w0 w_158 [_, _, _, Mem.one g_34 (.cells ([_, _, _, _, _, _, _, _, _, iV t_151.1, _, _, _, _, _, _, _, _, _, _, _, _, _, _] : List Value).toArray 29 (0, 0))] Z := hS'
    clear hs' hS'
    refine wpList_nil ?_
    replace h : Fr 91 a [(2, _), (3, _), (4, _), (5, _)] := h.keep [2, 3, 4, 5]
    refine x_block_n ?_
    have hS' := hS.room
    replace hS : Sep w0 w_158 [_, _, _, _, Mem.no] Z := hS'
    clear hS'
    have hS' := hS.room
    replace hS : Sep w0 w_158 [_, _, _, _, _, Mem.no] Z := hS'
    clear hS'
    have hS' := hS.room
    replace hS : Sep w0 w_158 [_, _, _, _, _, _, Mem.no] Z := hS'
    clear hS'
    have hS' := hS.room
    replace hS : Sep w0 w_158 [_, _, _, _, _, _, _, Mem.no] Z := hS'
    clear hS'
    have hS' := hS.room
    replace hS : Sep w0 w_158 [_, _, _, _, _, _, _, _, Mem.no] Z := hS'
    clear hS'
    have hS' := hS.room
    replace hS : Sep w0 w_158 [_, _, _, _, _, _, _, _, _, Mem.no] Z := hS'
    clear hS'
    replace hS : Sep w0 w_158 [_, _, _, _, _, _, _, _, _, _] Z := hS
    replace h : Fr 91 a [(2, _), (3, _), (4, _), (5, _)] := h.keep [2, 3, 4, 5]
    exact x_then_n (hJ_j_67 (⟨t_151.2.1, t_151.2.2⟩ : hocketref1_Reader) (⟨t_5.1, t_12.1, t_19.1, t_26.1, 0, 0, false, 0, 0, t_151.1, 0, ([] : List UInt8), 0, 0, ([] : List Int), ([] : List Int), 0, (⟨0, 0, (⟨0, 0, ([] : List UInt8), ([] : List UInt8), ([] : List UInt8)⟩ : api_Cmd)⟩ : api_Entry)⟩ : api_Msg) H _ _ ⟨v_155, nS, nS, nS, nS, nS, nS, N_154, Mem.no, Mem.no, Mem.no, Mem.no, Mem.no, Mem.no, h, (Sep.sel hS [0, 1, 2, 3, 4, 5, 6, 7, 8, 9] (by decide)), le_154, hr_157, (Own.nil Kd.u8 5 Mem.no), (Own.nil (Kd.int .i64) 3 Mem.no), (Own.nil (Kd.int .i64) 3 Mem.no), (Own.nil Kd.u8 5 Mem.no), (Own.nil Kd.u8 5 Mem.no), (Own.nil Kd.u8 5 Mem.no)⟩)
   ·rw [if_neg hc_150] at H
    refine c_cond_f h rfl (beq_eq_false_iff_ne.2 hc_150) <| wp_seq <| wp_region_lit <| s_cmp (b := (t_5.1 == 5)) h rfl rfl rfl (.inl ⟨rfl, rfl⟩) fun a h=>s_assign h rfl rfl fun a h=>wpList_nil ?_
    replace h : Fr 91 a [(2, _), (3, _), (4, _), (5, _), (19, _), (48, .bool (t_5.1 == 5))] := h.keep [2, 3, 4, 5, 19, 48]
    refine x_then_n ?_
    by_cases hc_165 : t_5.1 = 5
    ·rw [if_pos hc_165] at H
     refine c_cond_t h rfl (beq_iff_eq.2 hc_165) <| wp_seq <| wp_region_lit <| s_move h rfl rfl fun a h=>?_
     obtain ⟨t_166, et_166, H⟩ := Option.bind_eq_some_iff.1 H
     refine s_call h rfl Try.call35 rfl (hocketref1_Reader_Num.calls K _ t_26.2.1 _ t_26.2.2 1099511627776 t_166 w0 _ _ (A.un N_29) (Mem.un_le (hA.trans (hS.le_zed [1])) (hS.new_zed [1])) (hS.enter [1] (by decide)) hr_32 et_166) ?_
     rintro _ w_167 ⟨v_170, N_168, rfl, hS', hr_171⟩
     intro a h
     obtain ⟨N_169, hS'', le_169, ln_169⟩ := hS.call [1] (by decide) rfl (l' := [Mem.one g_4 (.cells ([v_170, .bool t_166.2.2] : List Value).toArray 56 (0, 0))]) (ow := []) rfl hS'
     replace hS : Sep w0 w_167 [N_169, _, Mem.one g_4 (.cells ([v_170, .bool t_166.2.2] : List Value).toArray 56 (0, 0)), _] Z := hS''
     clear hS' hS''
     have hr_172 : Rd Kd.u8 (A.un N_169) v_170 t_166.2.1 := hr_171.mono (Mem.un_le (Mem.un_left le_169) (ln_169.trans (hS.sndA hA)))
     refine s_move h rfl rfl fun a h=>?_
     obtain ⟨t_173, et_173, H⟩ := Option.bind_eq_some_iff.1 H
     refine s_call h rfl Try.call35 rfl (hocketref1_Reader_Num.calls K _ t_166.2.1 _ t_166.2.2 1099511627776 t_173 w0 _ _ (A.un N_169) (Mem.un_le (hA.trans (hS.le_zed [1])) (hS.new_zed [1])) (hS.enter [1] (by decide)) hr_172 et_173) ?_
     rintro _ w_174 ⟨v_177, N_175, rfl, hS', hr_178⟩
     intro a h
     obtain ⟨N_176, hS'', le_176, ln_176⟩ := hS.call [1] (by decide) rfl (l' := [Mem.one g_4 (.cells ([v_177, .bool t_173.2.2] : List Value).toArray 56 (0, 0))]) (ow := []) rfl hS'
     replace hS : Sep w0 w_174 [N_176, _, Mem.one g_4 (.cells ([v_177, .bool t_173.2.2] : List Value).toArray 56 (0, 0)), _] Z := hS''
     clear hS' hS''
     have hr_179 : Rd Kd.u8 (A.un N_176) v_177 t_173.2.1 := hr_178.mono (Mem.un_le (Mem.un_left le_176) (ln_176.trans (hS.sndA hA)))
     refine s_fieldAddr h rfl U29 rfl ti3 rfl rfl fun a h=>?_
     obtain ⟨w_180, hs', hS'⟩ := hS.store (P := Try.prog) (p := 3) (o := 9) (t := 3) (v := iV t_166.1) (vs := [iV t_166.1]) rfl ti3 rfl rfl rfl (by intro u hu; simp only [List.mem_cons, List.not_mem_nil, or_false] at hu; rcases hu with rfl <;> rfl)
     refine s_store h rfl rfl hs' ?_
     replace hS : Sep w0 w_180 [_, _, _, Mem.one g_34 (.cells ([_, _, _, _, _, _, _, _, _, iV t_166.1, _, _, _, _, _, _, _, _, _, _, _, _, _, _] : List Value).toArray 29 (0, 0))] Z := hS'
     clear hs' hS'
     refine s_fieldAddr h rfl U29 rfl ti3 rfl rfl fun a h=>?_
     obtain ⟨w_181, hs', hS'⟩ := hS.store (P := Try.prog) (p := 3) (o := 10) (t := 3) (v := iV t_173.1) (vs := [iV t_173.1]) rfl ti3 rfl rfl rfl (by intro u hu; simp only [List.mem_cons, List.not_mem_nil, or_false] at hu; rcases hu with rfl <;> rfl)
     refine s_store h rfl rfl hs' ?_
     replace hS : Sep w0 w_181 [_, _, _, Mem.one g_34 (.cells ([_, _, _, _, _, _, _, _, _, _, iV t_173.1, _, _, _, _, _, _, _, _, _, _, _, _, _] : List Value).toArray 29 (0, 0))] Z := hS'
     clear hs' hS'
     refine wpList_nil <| x_then_n <| wp_region_lit <| s_move h rfl rfl fun a h=>?_
     obtain ⟨t_182, et_182, H⟩ := Option.bind_eq_some_iff.1 H
     refine s_call h rfl Try.call36 rfl (hocketref1_Reader_Bytes.calls K _ t_173.2.1 _ t_173.2.2 64 t_182 w0 _ _ (A.un N_176) (Mem.un_le (hA.trans (hS.le_zed [1])) (hS.new_zed [1])) (hS.enter [1] (by decide)) hr_179 et_182) ?_
     rintro v_186 w_183 ⟨_, v_190, N_184, M_188, rfl, hS', hr_187, hr_191⟩
     intro a h
     obtain ⟨N_185, hS'', le_185, ln_185⟩ := hS.call [1] (by decide) rfl (l' := [Mem.one g_4 (.cells ([v_190, .bool t_182.2.2] : List Value).toArray 56 (0, 0))]) (ow := [M_188]) rfl hS'
     replace hS : Sep w0 w_183 [N_185, _, Mem.one g_4 (.cells ([v_190, .bool t_182.2.2] : List Value).toArray 56 (0, 0)), _, M_188] Z := hS''
     clear hS' hS''
     have hr_192 : Rd Kd.u8 (A.un N_185) v_190 t_182.2.1 := hr_191.mono (Mem.un_le (Mem.un_left le_185) (ln_185.trans (hS.sndA hA)))
     refine s_fieldAddr h rfl U29 rfl ti23 rfl rfl fun a h=>?_
     obtain ⟨w_193, hs', hS'⟩ := hS.store (P := Try.prog) (p := 3) (o := 11) (t := 23) (v := v_186) (vs := [v_186]) rfl ti23 hr_187.cellsA rfl rfl (by intro u hu; simp only [List.mem_cons, List.not_mem_nil, or_false] at hu; rcases hu with rfl <;> first | rfl | exact hr_187.one)
     refine s_store h rfl rfl hs' ?_
     replace hS : Sep w0 w_193 [_, _, _, Mem.one g_34 (.cells ([_, _, _, _, _, _, _, _, _, _, _, v_186, _, _, _, _, _, _, _, _, _, _, _, _] : List Value).toArray 29 (0, 0)), _] Z := hS'
     clear hs' hS'
     refine wpList_nil <| x_block_n ?_
     have hS' := hS.room
     replace hS : Sep w0 w_193 [_, _, _, _, _, Mem.no] Z := hS'
     clear hS'
     have hS' := hS.room
     replace hS : Sep w0 w_193 [_, _, _, _, _, _, Mem.no] Z := hS'
     clear hS'
     have hS' := hS.room
     replace hS : Sep w0 w_193 [_, _, _, _, _, _, _, Mem.no] Z := hS'
     clear hS'
     have hS' := hS.room
     replace hS : Sep w0 w_193 [_, _, _, _, _, _, _, _, Mem.no] Z := hS'
     clear hS'
     have hS' := hS.room
     replace hS : Sep w0 w_193 [_, _, _, _, _, _, _, _, _, Mem.no] Z := hS'
     clear hS'
     replace hS : Sep w0 w_193 [_, _, _, _, _, _, _, _, _, _] Z := hS
     replace h : Fr 91 a [(2, _), (3, _), (4, _), (5, _)] := h.keep [2, 3, 4, 5]
     exact x_then_n (hJ_j_67 (⟨t_182.2.1, t_182.2.2⟩ : hocketref1_Reader) (⟨t_5.1, t_12.1, t_19.1, t_26.1, 0, 0, false, 0, 0, t_166.1, t_173.1, t_182.1, 0, 0, ([] : List Int), ([] : List Int), 0, (⟨0, 0, (⟨0, 0, ([] : List UInt8), ([] : List UInt8), ([] : List UInt8)⟩ : api_Cmd)⟩ : api_Entry)⟩ : api_Msg) H _ _ ⟨v_190, v_186, nS, nS, nS, nS, nS, N_185, M_188, Mem.no, Mem.no, Mem.no, Mem.no, Mem.no, h, (Sep.sel hS [0, 1, 2, 3, 4, 5, 6, 7, 8, 9] (by decide)), (le_169.trans (le_176.trans le_185)), hr_192, hr_187, (Own.nil (Kd.int .i64) 3 Mem.no), (Own.nil (Kd.int .i64) 3 Mem.no), (Own.nil Kd.u8 5 Mem.no), (Own.nil Kd.u8 5 Mem.no), (Own.nil Kd.u8 5 Mem.no)⟩)
    ·rw [if_neg hc_165] at H
     refine c_cond_f h rfl (beq_eq_false_iff_ne.2 hc_165) <| wp_seq <| wp_region_lit <| s_cmp (b := (t_5.1 == 7)) h rfl rfl rfl (.inl ⟨rfl, rfl⟩) fun a h=>s_assign h rfl rfl fun a h=>wpList_nil <| x_then_n ?_
     by_cases hc_199 : t_5.1 = 7
     ·rw [if_pos hc_199] at H
      refine c_cond_t h rfl (beq_iff_eq.2 hc_199) <| wp_seq <| wp_region_lit <| s_move h rfl rfl fun a h=>?_
      obtain ⟨t_200, et_200, H⟩ := Option.bind_eq_some_iff.1 H
      refine s_call h rfl Try.call35 rfl (hocketref1_Reader_Num.calls K _ t_26.2.1 _ t_26.2.2 1099511627776 t_200 w0 _ _ (A.un N_29) (Mem.un_le (hA.trans (hS.le_zed [1])) (hS.new_zed [1])) (hS.enter [1] (by decide)) hr_32 et_200) ?_
      rintro _ w_201 ⟨v_204, N_202, rfl, hS', hr_205⟩
      intro a h
      obtain ⟨N_203, hS'', le_203, ln_203⟩ := hS.call [1] (by decide) rfl (l' := [Mem.one g_4 (.cells ([v_204, .bool t_200.2.2] : List Value).toArray 56 (0, 0))]) (ow := []) rfl hS'
      replace hS : Sep w0 w_201 [N_203, _, Mem.one g_4 (.cells ([v_204, .bool t_200.2.2] : List Value).toArray 56 (0, 0)), _] Z := hS''
      clear hS' hS''
      have hr_206 : Rd Kd.u8 (A.un N_203) v_204 t_200.2.1 := hr_205.mono (Mem.un_le (Mem.un_left le_203) (ln_203.trans (hS.sndA hA)))
      refine s_move h rfl rfl fun a h=>?_
      obtain ⟨t_207, et_207, H⟩ := Option.bind_eq_some_iff.1 H
      refine s_call h rfl Try.call35 rfl (hocketref1_Reader_Num.calls K _ t_200.2.1 _ t_200.2.2 1099511627776 t_207 w0 _ _ (A.un N_203) (Mem.un_le (hA.trans (hS.le_zed [1])) (hS.new_zed [1])) (hS.enter [1] (by decide)) hr_206 et_207) ?_
      rintro _ w_208 ⟨v_211, N_209, rfl, hS', hr_212⟩
      intro a h
      obtain ⟨N_210, hS'', le_210, ln_210⟩ := hS.call [1] (by decide) rfl (l' := [Mem.one g_4 (.cells ([v_211, .bool t_207.2.2] : List Value).toArray 56 (0, 0))]) (ow := []) rfl hS'
      replace hS : Sep w0 w_208 [N_210, _, Mem.one g_4 (.cells ([v_211, .bool t_207.2.2] : List Value).toArray 56 (0, 0)), _] Z := hS''
      clear hS' hS''
      have hr_213 : Rd Kd.u8 (A.un N_210) v_211 t_207.2.1 := hr_212.mono (Mem.un_le (Mem.un_left le_210) (ln_210.trans (hS.sndA hA)))
      refine s_fieldAddr h rfl U29 rfl ti3 rfl rfl fun a h=>?_
      obtain ⟨w_214, hs', hS'⟩ := hS.store (P := Try.prog) (p := 3) (o := 12) (t := 3) (v := iV t_200.1) (vs := [iV t_200.1]) rfl ti3 rfl rfl rfl (by intro u hu; simp only [List.mem_cons, List.not_mem_nil, or_false] at hu; rcases hu with rfl <;> rfl)
      refine s_store h rfl rfl hs' ?_
      replace hS : Sep w0 w_214 [_, _, _, Mem.one g_34 (.cells ([_, _, _, _, _, _, _, _, _, _, _, _, iV t_200.1, _, _, _, _, _, _, _, _, _, _, _] : List Value).toArray 29 (0, 0))] Z := hS'
      clear hs' hS'
      refine s_fieldAddr h rfl U29 rfl ti3 rfl rfl fun a h=>?_
      obtain ⟨w_215, hs', hS'⟩ := hS.store (P := Try.prog) (p := 3) (o := 13) (t := 3) (v := iV t_207.1) (vs := [iV t_207.1]) rfl ti3 rfl rfl rfl (by intro u hu; simp only [List.mem_cons, List.not_mem_nil, or_false] at hu; rcases hu with rfl <;> rfl)
      refine s_store h rfl rfl hs' ?_
      replace hS : Sep w0 w_215 [_, _, _, Mem.one g_34 (.cells ([_, _, _, _, _, _, _, _, _, _, _, _, _, iV t_207.1, _, _, _, _, _, _, _, _, _, _] : List Value).toArray 29 (0, 0))] Z := hS'
      clear hs' hS'
      refine wpList_nil <| x_then_n <| wp_seq <| wp_region_lit <| s_move h rfl rfl fun a h=>?_
      obtain ⟨t_216, et_216, H⟩ := Option.bind_eq_some_iff.1 H
      refine s_call h rfl Try.call37 rfl (hocketref11_row.calls K _ t_207.2.1 _ t_207.2.2 7 t_216 w0 _ _ (A.un N_210) (Mem.un_le (hA.trans (hS.le_zed [1])) (hS.new_zed [1])) (hS.enter [1] (by decide)) hr_213 et_216) ?_
      rintro v_220 w_217 ⟨_, v_224, N_218, M_222, rfl, hS', hr_221, hr_225⟩
      intro a h
      obtain ⟨N_219, hS'', le_219, ln_219⟩ := hS.call [1] (by decide) rfl (l' := [Mem.one g_4 (.cells ([v_224, .bool t_216.2.2] : List Value).toArray 56 (0, 0))]) (ow := [M_222]) rfl hS'
      replace hS : Sep w0 w_217 [N_219, _, Mem.one g_4 (.cells ([v_224, .bool t_216.2.2] : List Value).toArray 56 (0, 0)), _, M_222] Z := hS''
      clear hS' hS''
      have hr_226 : Rd Kd.u8 (A.un N_219) v_224 t_216.2.1 := hr_225.mono (Mem.un_le (Mem.un_left le_219) (ln_219.trans (hS.sndA hA)))
      refine s_fieldAddr h rfl U29 rfl ti22 rfl rfl fun a h=>?_
      obtain ⟨w_227, hs', hS'⟩ := hS.store (P := Try.prog) (p := 3) (o := 14) (t := 22) (v := v_220) (vs := [v_220]) rfl ti22 hr_221.cellsA rfl rfl (by intro u hu; simp only [List.mem_cons, List.not_mem_nil, or_false] at hu; rcases hu with rfl <;> first | rfl | exact hr_221.one)
      refine s_store h rfl rfl hs' ?_
      replace hS : Sep w0 w_227 [_, _, _, Mem.one g_34 (.cells ([_, _, _, _, _, _, _, _, _, _, _, _, _, _, v_220, _, _, _, _, _, _, _, _, _] : List Value).toArray 29 (0, 0)), _] Z := hS'
      clear hs' hS'
      refine wpList_nil <| x_then_n <| wp_region_lit <| s_move h rfl rfl fun a h=>?_
      obtain ⟨t_228, et_228, H⟩ := Option.bind_eq_some_iff.1 H
      refine s_call h rfl Try.call37 rfl (hocketref11_row.calls K _ t_216.2.1 _ t_216.2.2 8 t_228 w0 _ _ (A.un N_219) (Mem.un_le (hA.trans (hS.le_zed [1])) (hS.new_zed [1])) (hS.enter [1] (by decide)) hr_226 et_228) ?_
      rintro v_232 w_229 ⟨_, v_236, N_230, M_234, rfl, hS', hr_233, hr_237⟩
      intro a h
      obtain ⟨N_231, hS'', le_231, ln_231⟩ := hS.call [1] (by decide) rfl (l' := [Mem.one g_4 (.cells ([v_236, .bool t_228.2.2] : List Value).toArray 56 (0, 0))]) (ow := [M_234]) rfl hS'
      replace hS : Sep w0 w_229 [N_231, _, Mem.one g_4 (.cells ([v_236, .bool t_228.2.2] : List Value).toArray 56 (0, 0)), _, _, M_234] Z := hS''
      clear hS' hS''
      have hr_238 : Rd Kd.u8 (A.un N_231) v_236 t_228.2.1 := hr_237.mono (Mem.un_le (Mem.un_left le_231) (ln_231.trans (hS.sndA hA)))
      refine s_fieldAddr h rfl U29 rfl ti22 rfl rfl fun a h=>?_
      obtain ⟨w_239, hs', hS'⟩ := hS.store (P := Try.prog) (p := 3) (o := 15) (t := 22) (v := v_232) (vs := [v_232]) rfl ti22 hr_233.cellsA rfl rfl (by intro u hu; simp only [List.mem_cons, List.not_mem_nil, or_false] at hu; rcases hu with rfl <;> first | rfl | exact hr_233.one)
      refine s_store h rfl rfl hs' ?_
      replace hS : Sep w0 w_239 [_, _, _, Mem.one g_34 (.cells ([_, _, _, _, _, _, _, _, _, _, _, _, _, _, _, v_232, _, _, _, _, _, _, _, _] : List Value).toArray 29 (0, 0)), _, _] Z := hS'
      clear hs' hS'
      refine wpList_nil ?_
      replace h : Fr 91 a [(2, _), (3, _), (4, _), (5, _)] := h.keep [2, 3, 4, 5]
      refine x_block_n ?_
      have hS' := hS.room
      replace hS : Sep w0 w_239 [_, _, _, _, _, _, Mem.no] Z := hS'
      clear hS'
      have hS' := hS.room
      replace hS : Sep w0 w_239 [_, _, _, _, _, _, _, Mem.no] Z := hS'
      clear hS'
      have hS' := hS.room
      replace hS : Sep w0 w_239 [_, _, _, _, _, _, _, _, Mem.no] Z := hS'
      clear hS'
      have hS' := hS.room
      replace hS : Sep w0 w_239 [_, _, _, _, _, _, _, _, _, Mem.no] Z := hS'
      clear hS'
      replace hS : Sep w0 w_239 [_, _, _, _, _, _, _, _, _, _] Z := hS
      replace h : Fr 91 a [(2, _), (3, _), (4, _), (5, _)] := h.keep [2, 3, 4, 5]
      exact x_then_n (hJ_j_67 (⟨t_228.2.1, t_228.2.2⟩ : hocketref1_Reader) (⟨t_5.1, t_12.1, t_19.1, t_26.1, 0, 0, false, 0, 0, 0, 0, ([] : List UInt8), t_200.1, t_207.1, t_216.1, t_228.1, 0, (⟨0, 0, (⟨0, 0, ([] : List UInt8), ([] : List UInt8), ([] : List UInt8)⟩ : api_Cmd)⟩ : api_Entry)⟩ : api_Msg) H _ _ ⟨v_236, nS, v_220, v_232, nS, nS, nS, N_231, Mem.no, M_222, M_234, Mem.no, Mem.no, Mem.no, h, (Sep.sel hS [0, 1, 2, 3, 6, 4, 5, 7, 8, 9] (by decide)), (le_203.trans (le_210.trans (le_219.trans le_231))), hr_238, (Own.nil Kd.u8 5 Mem.no), hr_221, hr_233, (Own.nil Kd.u8 5 Mem.no), (Own.nil Kd.u8 5 Mem.no), (Own.nil Kd.u8 5 Mem.no)⟩)
     ·rw [if_neg hc_199] at H
      refine c_cond_f h rfl (beq_eq_false_iff_ne.2 hc_199) <| wp_seq <| wp_region_lit <| s_cmp (b := (t_5.1 == 8)) h rfl rfl rfl (.inl ⟨rfl, rfl⟩) fun a h=>s_assign h rfl rfl fun a h=>wpList_nil <| x_then_n ?_
      by_cases hc_244 : t_5.1 = 8
      ·rw [if_pos hc_244] at H
       refine c_cond_t h rfl (beq_iff_eq.2 hc_244) <| wp_seq <| wp_region_lit <| s_move h rfl rfl fun a h=>?_
       obtain ⟨t_245, et_245, H⟩ := Option.bind_eq_some_iff.1 H
       refine s_call h rfl Try.call35 rfl (hocketref1_Reader_Num.calls K _ t_26.2.1 _ t_26.2.2 1099511627776 t_245 w0 _ _ (A.un N_29) (Mem.un_le (hA.trans (hS.le_zed [1])) (hS.new_zed [1])) (hS.enter [1] (by decide)) hr_32 et_245) ?_
       rintro _ w_246 ⟨v_249, N_247, rfl, hS', hr_250⟩
       intro a h
       obtain ⟨N_248, hS'', le_248, ln_248⟩ := hS.call [1] (by decide) rfl (l' := [Mem.one g_4 (.cells ([v_249, .bool t_245.2.2] : List Value).toArray 56 (0, 0))]) (ow := []) rfl hS'
       replace hS : Sep w0 w_246 [N_248, _, Mem.one g_4 (.cells ([v_249, .bool t_245.2.2] : List Value).toArray 56 (0, 0)), _] Z := hS''
       clear hS' hS''
       have hr_251 : Rd Kd.u8 (A.un N_248) v_249 t_245.2.1 := hr_250.mono (Mem.un_le (Mem.un_left le_248) (ln_248.trans (hS.sndA hA)))
       refine s_fieldAddr h rfl U29 rfl ti3 rfl rfl fun a h=>?_
       obtain ⟨w_252, hs', hS'⟩ := hS.store (P := Try.prog) (p := 3) (o := 16) (t := 3) (v := iV t_245.1) (vs := [iV t_245.1]) rfl ti3 rfl rfl rfl (by intro u hu; simp only [List.mem_cons, List.not_mem_nil, or_false] at hu; rcases hu with rfl <;> rfl)
       refine s_store h rfl rfl hs' ?_
       replace hS : Sep w0 w_252 [_, _, _, Mem.one g_34 (.cells ([_, _, _, _, _, _, _, _, _, _, _, _, _, _, _, _, iV t_245.1, _, _, _, _, _, _, _] : List Value).toArray 29 (0, 0))] Z := hS'
       clear hs' hS'
       refine wpList_nil <| x_then_n <| wp_region_lit <| s_move h rfl rfl fun a h=>?_
       obtain ⟨t_253, et_253, H⟩ := Option.bind_eq_some_iff.1 H
       refine s_call h rfl Try.call38 rfl (hocketref4_GetEntry.calls K _ t_245.2.1 _ t_245.2.2 t_253 w0 _ _ (A.un N_248) (Mem.un_le (hA.trans (hS.le_zed [1])) (hS.new_zed [1])) (hS.enter [1] (by decide)) hr_251 et_253) ?_
       rintro _ w_254 ⟨v_257, v_261, v_265, v_269, N_255, M_259, M_263, M_267, rfl, hS', hr_258, hr_262, hr_266, hr_270⟩
       intro a h
       obtain ⟨N_256, hS'', le_256, ln_256⟩ := hS.call [1] (by decide) rfl (l' := [Mem.one g_4 (.cells ([v_269, .bool t_253.2.2] : List Value).toArray 56 (0, 0))]) (ow := [M_259, M_263, M_267]) rfl hS'
       replace hS : Sep w0 w_254 [N_256, _, Mem.one g_4 (.cells ([v_269, .bool t_253.2.2] : List Value).toArray 56 (0, 0)), _, M_259, M_263, M_267] Z := hS''
       clear hS' hS''
       have hr_271 : Rd Kd.u8 (A.un N_256) v_269 t_253.2.1 := hr_270.mono (Mem.un_le (Mem.un_left le_256) (ln_256.trans (hS.sndA hA)))
       refine s_fieldAddr h rfl U29 rfl ti27 rfl rfl fun a h=>?_
       obtain ⟨w_272, hs', hS'⟩ := hS.store (P := Try.prog) (p := 3) (o := 17) (t := 27) (v := .agg ([iV t_253.1.Sess, iV t_253.1.Seq, iV t_253.1.Cmd.Kind, iV t_253.1.Cmd.Who, v_257, v_261, v_265] : List Value).toArray) (vs := [iV t_253.1.Sess, iV t_253.1.Seq, iV t_253.1.Cmd.Kind, iV t_253.1.Cmd.Who, v_257, v_261, v_265]) rfl ti27 rfl rfl rfl (by intro u hu; simp only [List.mem_cons, List.not_mem_nil, or_false] at hu; rcases hu with rfl | rfl | rfl | rfl | rfl | rfl | rfl <;> first | rfl | exact hr_258.one | exact hr_262.one | exact hr_266.one)
       refine s_store h rfl rfl hs' ?_
       replace hS : Sep w0 w_272 [_, _, _, Mem.one g_34 (.cells ([_, _, _, _, _, _, _, _, _, _, _, _, _, _, _, _, _, iV t_253.1.Sess, iV t_253.1.Seq, iV t_253.1.Cmd.Kind, iV t_253.1.Cmd.Who, v_257, v_261, v_265] : List Value).toArray 29 (0, 0)), _, _, _] Z := hS'
       clear hs' hS'
       refine wpList_nil ?_
       replace h : Fr 91 a [(2, _), (3, _), (4, _), (5, _)] := h.keep [2, 3, 4, 5]
       refine x_block_n ?_
       have hS' := hS.room
       replace hS : Sep w0 w_272 [_, _, _, _, _, _, _, Mem.no] Z := hS'
       clear hS'
       have hS' := hS.room
       replace hS : Sep w0 w_272 [_, _, _, _, _, _, _, _, Mem.no] Z := hS'
       clear hS'
       have hS' := hS.room
       replace hS : Sep w0 w_272 [_, _, _, _, _, _, _, _, _, Mem.no] Z := hS'
       clear hS'
       replace hS : Sep w0 w_272 [_, _, _, _, _, _, _, _, _, _] Z := hS
       replace h : Fr 91 a [(2, _), (3, _), (4, _), (5, _)] := h.keep [2, 3, 4, 5]
       exact x_then_n (hJ_j_67 (⟨t_253.2.1, t_253.2.2⟩ : hocketref1_Reader) (⟨t_5.1, t_12.1, t_19.1, t_26.1, 0, 0, false, 0, 0, 0, 0, ([] : List UInt8), 0, 0, ([] : List Int), ([] : List Int), t_245.1, t_253.1⟩ : api_Msg) H _ _ ⟨v_269, nS, nS, nS, v_257, v_261, v_265, N_256, Mem.no, Mem.no, Mem.no, M_259, M_263, M_267, h, (Sep.sel hS [0, 1, 2, 3, 7, 8, 9, 4, 5, 6] (by decide)), (le_248.trans le_256), hr_271, (Own.nil Kd.u8 5 Mem.no), (Own.nil (Kd.int .i64) 3 Mem.no), (Own.nil (Kd.int .i64) 3 Mem.no), hr_258, hr_262, hr_266⟩)
      ·rw [if_neg hc_244] at H
       refine c_cond_f h rfl (beq_eq_false_iff_ne.2 hc_244) <| wp_skip <| x_block_n ?_
       have hS' := hS.room
       replace hS : Sep w0 w_35 [_, _, _, _, Mem.no] Z := hS'
       clear hS'
       have hS' := hS.room
       replace hS : Sep w0 w_35 [_, _, _, _, _, Mem.no] Z := hS'
       clear hS'
       have hS' := hS.room
       replace hS : Sep w0 w_35 [_, _, _, _, _, _, Mem.no] Z := hS'
       clear hS'
       have hS' := hS.room
       replace hS : Sep w0 w_35 [_, _, _, _, _, _, _, Mem.no] Z := hS'
       clear hS'
       have hS' := hS.room
       replace hS : Sep w0 w_35 [_, _, _, _, _, _, _, _, Mem.no] Z := hS'
       clear hS'
       have hS' := hS.room
       replace hS : Sep w0 w_35 [_, _, _, _, _, _, _, _, _, Mem.no] Z := hS'
       clear hS'
       replace hS : Sep w0 w_35 [_, _, _, _, _, _, _, _, _, _] Z := hS
       replace h : Fr 91 a [(2, _), (3, _), (4, _), (5, _)] := h.keep [2, 3, 4, 5]
       exact x_then_n (hJ_j_67 (⟨t_26.2.1, t_26.2.2⟩ : hocketref1_Reader) (⟨t_5.1, t_12.1, t_19.1, t_26.1, 0, 0, false, 0, 0, 0, 0, ([] : List UInt8), 0, 0, ([] : List Int), ([] : List Int), 0, (⟨0, 0, (⟨0, 0, ([] : List UInt8), ([] : List UInt8), ([] : List UInt8)⟩ : api_Cmd)⟩ : api_Entry)⟩ : api_Msg) H _ _ ⟨v_30, nS, nS, nS, nS, nS, nS, N_29, Mem.no, Mem.no, Mem.no, Mem.no, Mem.no, Mem.no, h, (Sep.sel hS [0, 1, 2, 3, 4, 5, 6, 7, 8, 9] (by decide)), (Mem.le.refl _), hr_32, (Own.nil Kd.u8 5 Mem.no), (Own.nil (Kd.int .i64) 3 Mem.no), (Own.nil (Kd.int .i64) 3 Mem.no), (Own.nil Kd.u8 5 Mem.no), (Own.nil Kd.u8 5 Mem.no), (Own.nil Kd.u8 5 Mem.no)⟩)

set_option maxHeartbeats 4000000 in
set_option maxRecDepth 20000 in
theorem crcs_Next.calls (K : Nat) (x0 : UInt32) (x1 : UInt8) (r : UInt32) (w0 w : World) (Z A : Mem) (hA : A.le Z) (hS : Sep w0 w [] Z)
    (H : crcs_Next.f K x0 x1 = some r) :
    Calls Try.prog 72 [.int .u32 (x0.toNat : Int), .int .u8 (x1.toNat : Int)].toArray w (Ret fun v w' => ∃ (N : Mem), v = .int .u32 (r.toNat : Int) ∧ Sep w0 w' [N] Z) := by
 unfold crcs_Next.f at H
 refine f_enter _ Try.func72 rfl Try.ntmps72 rfl fun a h=>?_
 replace h : Fr 22 a [(0, .int .u32 (x0.toNat : Int)), (1, .int .u8 (x1.toNat : Int))] := h
 replace hS := hS.start
 replace hS : Sep w0 w [_] Z := hS
 refine wp_seq <| wp_region_lit <| s_assign h rfl rfl fun a h=>wpList_nil <| x_then_n <| wp_seq <| wp_region_lit <| s_move h rfl rfl fun a h=>s_move h rfl rfl fun a h=>s_conv (((toU32 (x1.toNat : Int)).toNat : Int)) h rfl U5 U75 rfl (wrap_u32 _).symm fun a h=>s_bits (i := (x0.toNat : Int)) (j := ((toU32 (x1.toNat : Int)).toNat : Int)) (r := ((x0 ^^^ (toU32 (x1.toNat : Int))).toNat : Int)) h rfl rfl rfl (.inr (.inr (.inl ⟨rfl, (bxor32 _ _).symm⟩))) fun a h=>s_assign h rfl rfl fun a h=>?_
 refine wpList_nil <| x_then_n <| c_seq fun KJ_1 hKJ_1 => wp_seq <| wp_region_lit <| s_move h rfl rfl fun a h=>wpList_nil <| x_then_n ?_
 have hJ_j_5 : ∀ (x_3 : UInt32), crcs_Next.J1 K x_3 = some r → ∀ (a : Act) (w_4 : World), (∃ (N_2 : Mem), Fr 22 a [(0, .int .u32 (x_3.toNat : Int)), (4, .int .u32 ((0 : UInt32).toNat : Int))] ∧ Sep w0 w_4 [N_2] Z ∧ Mem.no.le N_2) → KJ_1 a w_4 := by
  clear H h hS a
  rintro x_3 H a w_4 ⟨N_2, h, hS, le_2⟩
  unfold crcs_Next.J1 at H
  refine hKJ_1 _ _ <| wp_seq <| wp_region_lit <| s_move h rfl rfl fun a h=>s_assign h rfl rfl fun a h=>wpList_nil ?_
  replace h : Fr 22 a [(4, .int .u32 (x_3.toNat : Int))] := h.keep [4]
  refine x_then_n <| wp_ret ?_
  obtain rfl := Option.some.inj H
  exact f_ret h (rs := [.tmp 4]) rfl (.tmp rfl .nil) ⟨_, rfl, N_2, rfl, (Sep.sel hS [0] (by decide))⟩
 clear hKJ_1
 replace hS : Sep w0 w [_] Z := hS
 replace h : Fr 22 a [(0, .int .u32 ((x0 ^^^ (toU32 (x1.toNat : Int))).toNat : Int)), (4, .int .u32 ((0 : UInt32).toNat : Int)), (10, iV 0)] := h.keep [0, 4, 10]
 refine c_block <| c_loop (fun k_9 a w_9 => ∃ (x_7 : UInt32) (x_8 : Int) (N_6 : Mem), crcs_Next.L1 K (fun v => crcs_Next.J1 K v) k_9 (x_7, x_8) = some r ∧ Fr 22 a [(0, .int .u32 (x_7.toNat : Int)), (4, .int .u32 ((0 : UInt32).toNat : Int)), (10, iV x_8)] ∧ Sep w0 w_9 [N_6] Z ∧ Mem.no.le N_6) K ⟨x0 ^^^ (toU32 (x1.toNat : Int)), 0, Mem.no, H, h, (Sep.sel hS [0] (by decide)), (Mem.le.refl _)⟩ (fun a w h => by obtain ⟨_, _, _, H, _⟩ := h; cases (show (none : Option (UInt32)) = some r from H)) ?_
 clear h hS a H
 rintro k_9 a w_9 KL_9 hKL_9 ⟨x_7, x_8, N_6, H, h, hS, le_6⟩
 replace H : crcs_Next.B1 K (fun v => crcs_Next.J1 K v) (crcs_Next.L1 K (fun v => crcs_Next.J1 K v) k_9) x_7 x_8 = some r := H
 unfold crcs_Next.B1 at H
 refine wp_seq <| wp_region_lit <| s_cmp (b := decide (x_8 < 8)) h rfl rfl rfl (.inr (.inr (.inl ⟨rfl, rfl⟩))) fun a h=>wpList_nil ?_
 replace h : Fr 22 a [(0, _), (4, _), (10, _), (11, .bool (decide (x_8 < 8)))] := h.keep [0, 4, 10, 11]
 refine x_then_n <| c_seq fun KJ_11 hKJ_11 => ?_
 by_cases hc_12 : x_8 < 8
 ·rw [if_pos hc_12] at H
  refine c_cond_t h rfl (decide_eq_true hc_12) <| wp_skip <| x_then_n (hKJ_11 _ _ ?_)
  refine c_seq fun KJ_13 hKJ_13 => c_block <| wp_seq <| wp_region_lit <| s_move h rfl rfl fun a h=>s_bits (i := (x_7.toNat : Int)) (j := ((1 : UInt32).toNat : Int)) (r := ((x_7 &&& (1 : UInt32)).toNat : Int)) h rfl rfl rfl (.inl ⟨rfl, (band32 _ _).symm⟩) fun a h=>s_assign h rfl rfl fun a h=>wpList_nil <| x_then_n <| wp_seq <| wp_region_lit <| s_move h rfl rfl fun a h=>?_
  refine s_shift (r := ((toU32 (shr .u32 (x_7.toNat : Int) 1)).toNat : Int)) h rfl rfl rfl (by decide) (.inr ⟨rfl, (shr32 _ _).symm⟩) fun a h=>s_assign h rfl rfl fun a h=>wpList_nil <| x_then_n <| wp_seq <| wp_region_lit <| s_move h rfl rfl fun a h=>s_cmp (b := (((x_7 &&& (1 : UInt32)).toNat : Int) == ((1 : UInt32).toNat : Int))) h rfl rfl rfl (.inl ⟨rfl, rfl⟩) fun a h=>wpList_nil <| x_then_n ?_
  by_cases hc_14 : ((x_7 &&& (1 : UInt32)).toNat : Int) = ((1 : UInt32).toNat : Int)
  ·rw [if_pos hc_14] at H
   refine c_cond_t h rfl (beq_iff_eq.2 hc_14) <| wp_region_lit <| s_move h rfl rfl fun a h=>s_bits (i := ((toU32 (shr .u32 (x_7.toNat : Int) 1)).toNat : Int)) (j := ((3988292384 : UInt32).toNat : Int)) (r := (((toU32 (shr .u32 (x_7.toNat : Int) 1)) ^^^ (3988292384 : UInt32)).toNat : Int)) h rfl rfl rfl (.inr (.inr (.inl ⟨rfl, (bxor32 _ _).symm⟩))) fun a h=>s_assign h rfl rfl fun a h=>wpList_nil ?_
   replace h : Fr 22 a [(0, .int .u32 (((toU32 (shr .u32 (x_7.toNat : Int) 1)) ^^^ (3988292384 : UInt32)).toNat : Int)), (4, _), (10, _)] := h.keep [0, 4, 10]
   refine x_block_n <| x_then_n (hKJ_13 _ _ ?_)
   refine wp_region_lit <| s_arith (r := w64 (x_8 + 1)) h rfl rfl rfl (.inl ⟨rfl, rfl⟩) fun a h=>s_move h rfl rfl fun a h=>wpList_nil <| x_then_n (hKL_9 _ _ ?_)
   replace hS : Sep w0 w_9 [_] Z := hS
   replace h : Fr 22 a [(0, _), (4, _), (10, iV (w64 (x_8 + 1)))] := h.keep [0, 4, 10]
   exact ⟨(toU32 (shr .u32 (x_7.toNat : Int) 1)) ^^^ (3988292384 : UInt32), w64 (x_8 + 1), N_6, H, h, (Sep.sel hS [0] (by decide)), le_6⟩
  ·rw [if_neg hc_14] at H
   refine c_cond_f h rfl (beq_eq_false_iff_ne.2 hc_14) <| wp_skip <| x_block_n <| x_then_n (hKJ_13 _ _ ?_)
   refine wp_region_lit <| s_arith (r := w64 (x_8 + 1)) h rfl rfl rfl (.inl ⟨rfl, rfl⟩) fun a h=>s_move h rfl rfl fun a h=>wpList_nil ?_
   replace h : Fr 22 a [(0, .int .u32 ((toU32 (shr .u32 (x_7.toNat : Int) 1)).toNat : Int)), (4, _), (10, iV (w64 (x_8 + 1)))] := h.keep [0, 4, 10]
   refine x_then_n (hKL_9 _ _ ?_)
   replace hS : Sep w0 w_9 [_] Z := hS
   replace h : Fr 22 a [(0, _), (4, _), (10, _)] := h.keep [0, 4, 10]
   exact ⟨toU32 (shr .u32 (x_7.toNat : Int) 1), w64 (x_8 + 1), N_6, H, h, (Sep.sel hS [0] (by decide)), le_6⟩
 ·rw [if_neg hc_12] at H
  refine c_cond_f h rfl (decide_eq_false hc_12) <| wp_exit (x_then_x (x_then_x (x_block_t ?_)))
  replace hS : Sep w0 w_9 [_] Z := hS
  replace h : Fr 22 a [(0, _), (4, _)] := h.keep [0, 4]
  exact x_then_n (hJ_j_5 x_7 H _ _ ⟨N_6, h, (Sep.sel hS [0] (by decide)), le_6⟩)

set_option maxHeartbeats 4000000 in
set_option maxRecDepth 20000 in
theorem crcs_Sum.calls (K : Nat) (x0 : List UInt8) (p0_0 : Value) (r : UInt32) (w0 w : World) (Z A : Mem) (hA : A.le Z) (hS : Sep w0 w [] Z) (hp0_0 : Rd Kd.u8 A p0_0 x0)
    (H : crcs_Sum.f K x0 = some r) :
    Calls Try.prog 61 [p0_0].toArray w (Ret fun v w' => ∃ (N : Mem), v = .int .u32 (r.toNat : Int) ∧ Sep w0 w' [N] Z) := by
 unfold crcs_Sum.f at H
 refine f_enter _ Try.func61 rfl Try.ntmps61 rfl fun a h=>?_
 replace h : Fr 18 a [(0, p0_0)] := h
 replace hS := hS.start
 replace hS : Sep w0 w [_] Z := hS
 refine wp_seq <| wp_region_lit <| s_assign h rfl rfl fun a h=>wpList_nil <| x_then_n <| wp_seq <| wp_region_lit <| s_assign h rfl rfl fun a h=>wpList_nil <| x_then_n <| c_seq fun KJ_1 hKJ_1 => wp_seq <| wp_region_lit ?_
 refine s_move h rfl rfl fun a h=>s_len h rfl U23 rfl hp0_0 fun a h=>s_move h rfl rfl fun a h=>wpList_nil <| x_then_n ?_
 have hJ_j_5 : ∀ (x_3 : UInt32), crcs_Sum.J1 K x_3 = some r → ∀ (a : Act) (w_4 : World), (∃ (N_2 : Mem), Fr 18 a [(2, .int .u32 ((0 : UInt32).toNat : Int)), (3, .int .u32 (x_3.toNat : Int))] ∧ Sep w0 w_4 [N_2] Z ∧ Mem.no.le N_2) → KJ_1 a w_4 := by
  clear H h hS a
  rintro x_3 H a w_4 ⟨N_2, h, hS, le_2⟩
  unfold crcs_Sum.J1 at H
  refine hKJ_1 _ _ <| wp_seq <| wp_region_lit <| s_move h rfl rfl fun a h=>s_bits (i := (x_3.toNat : Int)) (j := ((4294967295 : UInt32).toNat : Int)) (r := ((x_3 ^^^ (4294967295 : UInt32)).toNat : Int)) h rfl rfl rfl (.inr (.inr (.inl ⟨rfl, (bxor32 _ _).symm⟩))) fun a h=>s_assign h rfl rfl fun a h=>wpList_nil ?_
  replace h : Fr 18 a [(2, .int .u32 ((x_3 ^^^ (4294967295 : UInt32)).toNat : Int))] := h.keep [2]
  refine x_then_n <| wp_ret ?_
  obtain rfl := Option.some.inj H
  exact f_ret h (rs := [.tmp 2]) rfl (.tmp rfl .nil) ⟨_, rfl, N_2, rfl, (Sep.sel hS [0] (by decide))⟩
 clear hKJ_1
 replace hS : Sep w0 w [_] Z := hS
 replace h : Fr 18 a [(2, .int .u32 ((0 : UInt32).toNat : Int)), (3, .int .u32 ((4294967295 : UInt32).toNat : Int)), (6, p0_0), (7, iV (x0.length : Int)), (8, iV 0)] := h.keep [2, 3, 6, 7, 8]
 refine c_block <| c_loop (fun k_9 a w_9 => ∃ (x_7 : UInt32) (x_8 : Int) (N_6 : Mem), crcs_Sum.L1 K x0 (fun v => crcs_Sum.J1 K v) k_9 (x_7, x_8) = some r ∧ Fr 18 a [(2, .int .u32 ((0 : UInt32).toNat : Int)), (3, .int .u32 (x_7.toNat : Int)), (6, p0_0), (7, iV (x0.length : Int)), (8, iV x_8)] ∧ Sep w0 w_9 [N_6] Z ∧ Mem.no.le N_6) K ⟨(4294967295 : UInt32), 0, Mem.no, H, h, (Sep.sel hS [0] (by decide)), (Mem.le.refl _)⟩ (fun a w h => by obtain ⟨_, _, _, H, _⟩ := h; cases (show (none : Option (UInt32)) = some r from H)) ?_
 clear h hS a H
 rintro k_9 a w_9 KL_9 hKL_9 ⟨x_7, x_8, N_6, H, h, hS, le_6⟩
 replace H : crcs_Sum.B1 K x0 (fun v => crcs_Sum.J1 K v) (crcs_Sum.L1 K x0 (fun v => crcs_Sum.J1 K v) k_9) x_7 x_8 = some r := H
 unfold crcs_Sum.B1 at H
 refine wp_seq <| wp_region_lit <| s_cmp (b := decide (x_8 < (x0.length : Int))) h rfl rfl rfl (.inr (.inr (.inl ⟨rfl, rfl⟩))) fun a h=>wpList_nil ?_
 replace h : Fr 18 a [(2, _), (3, _), (6, _), (7, _), (8, _), (9, .bool (decide (x_8 < (x0.length : Int))))] := h.keep [2, 3, 6, 7, 8, 9]
 refine x_then_n <| c_seq fun KJ_11 hKJ_11 => ?_
 by_cases hc_12 : x_8 < (x0.length : Int)
 ·rw [if_pos hc_12] at H
  refine c_cond_t h rfl (decide_eq_true hc_12) <| wp_skip <| x_then_n (hKJ_11 _ _ ?_)
  refine wp_seq <| c_block <| wp_seq <| wp_region_lit ?_
  obtain ⟨t_13, et_13, H⟩ := Option.bind_eq_some_iff.1 H
  refine v_index h rfl U23 ti5 rfl rfl rfl hp0_0 (hA.trans hS.old) et_13 fun ad_14 cs_15 hk_16 hc_17 => ?_
  obtain rfl := (show cs_15 = [.int .u8 (t_13.toNat : Int)] from hk_16)
  intro a h
  refine s_load h rfl rfl (el_one (o := 0) hc_17 U5 rfl rfl) fun a h=>s_assign h rfl rfl fun a h=>wpList_nil <| x_then_n <| wp_region_lit <| s_move h rfl rfl fun a h=>s_move h rfl rfl fun a h=>?_
  obtain ⟨t_18, et_18, H⟩ := Option.bind_eq_some_iff.1 H
  refine s_call h rfl Try.call72 rfl (crcs_Next.calls K x_7 t_13 t_18 w0 _ _ _ (Mem.le.refl _) (hS.enter [] (by decide))  et_18) ?_
  rintro _ w_19 ⟨N_20, rfl, hS'⟩
  intro a h
  obtain ⟨N_21, hS'', le_21, ln_21⟩ := hS.call [] (by decide) rfl (l' := []) (ow := []) rfl hS'
  replace hS : Sep w0 w_19 [N_21] Z := hS''
  clear hS' hS''
  refine s_assign h rfl rfl fun a h=>wpList_nil <| x_block_n <| x_then_n <| wp_region_lit <| s_arith (r := w64 (x_8 + 1)) h rfl rfl rfl (.inl ⟨rfl, rfl⟩) fun a h=>s_move h rfl rfl fun a h=>wpList_nil <| x_then_n (hKL_9 _ _ ?_)
  replace hS : Sep w0 w_19 [_] Z := hS
  replace h : Fr 18 a [(2, _), (3, .int .u32 (t_18.toNat : Int)), (6, _), (7, _), (8, iV (w64 (x_8 + 1)))] := h.keep [2, 3, 6, 7, 8]
  exact ⟨t_18, w64 (x_8 + 1), N_21, H, h, (Sep.sel hS [0] (by decide)), (le_6.trans le_21)⟩
 ·rw [if_neg hc_12] at H
  refine c_cond_f h rfl (decide_eq_false hc_12) <| wp_exit (x_then_x (x_then_x (x_block_t ?_)))
  replace hS : Sep w0 w_9 [_] Z := hS
  replace h : Fr 18 a [(2, _), (3, _)] := h.keep [2, 3]
  exact x_then_n (hJ_j_5 x_7 H _ _ ⟨N_6, h, (Sep.sel hS [0] (by decide)), le_6⟩)

set_option maxHeartbeats 4000000 in
set_option maxRecDepth 20000 in
theorem fram_Sealed.calls (K : Nat) (x0 : List UInt8) (p0_0 : Value) (r : (List UInt8)) (w0 w : World) (Z A : Mem) (hA : A.le Z) (hS : Sep w0 w [] Z) (hp0_0 : Rd Kd.u8 A p0_0 x0)
    (H : fram_Sealed.f K x0 = some r) :
    Calls Try.prog 40 [p0_0].toArray w (Ret fun v w' => ∃ (u0 : Value) (N : Mem) (M0 : Mem), v = u0 ∧ Sep w0 w' [N, M0] Z ∧ Own Kd.u8 5 M0 Mem.no u0 r) := by
 unfold fram_Sealed.f at H
 refine f_enter _ Try.func40 rfl Try.ntmps40 rfl fun a h=>?_
 replace h : Fr 22 a [(0, p0_0)] := h
 replace hS := hS.start
 replace hS : Sep w0 w [_] Z := hS
 refine wp_seq <| wp_region_lit <| s_assign h rfl rfl fun a h=>wpList_nil <| x_then_n <| wp_seq <| wp_region_lit <| s_move h rfl rfl fun a h=>?_
 obtain ⟨t_1, et_1, H⟩ := Option.bind_eq_some_iff.1 H
 refine s_call h rfl Try.call61 rfl (crcs_Sum.calls K x0 _ t_1 w0 _ _ _ (Mem.le.refl _) (hS.enter [] (by decide)) (hp0_0.mono (hA.trans (hS.le_zed []))) et_1) ?_
 rintro _ w_2 ⟨N_3, rfl, hS'⟩
 intro a h
 obtain ⟨N_4, hS'', le_4, ln_4⟩ := hS.call [] (by decide) rfl (l' := []) (ow := []) rfl hS'
 replace hS : Sep w0 w_2 [N_4] Z := hS''
 clear hS' hS''
 refine s_assign h rfl rfl fun a h=>wpList_nil <| x_then_n <| wp_seq <| wp_region_lit <| s_move h rfl rfl fun a h=>s_conv (((toU8 (t_1.toNat : Int)).toNat : Int)) h rfl U75 U5 rfl (wrap_u8 _).symm fun a h=>s_move h rfl rfl fun a h=>s_shift (r := ((toU32 (shr .u32 (t_1.toNat : Int) 8)).toNat : Int)) h rfl rfl rfl (by decide) (.inr ⟨rfl, (shr32 _ _).symm⟩) fun a h=>s_conv (((toU8 ((toU32 (shr .u32 (t_1.toNat : Int) 8)).toNat : Int)).toNat : Int)) h rfl U75 U5 rfl (wrap_u8 _).symm fun a h=>s_move h rfl rfl fun a h=>s_shift (r := ((toU32 (shr .u32 (t_1.toNat : Int) 16)).toNat : Int)) h rfl rfl rfl (by decide) (.inr ⟨rfl, (shr32 _ _).symm⟩) fun a h=>?_
 refine s_conv (((toU8 ((toU32 (shr .u32 (t_1.toNat : Int) 16)).toNat : Int)).toNat : Int)) h rfl U75 U5 rfl (wrap_u8 _).symm fun a h=>s_move h rfl rfl fun a h=>s_shift (r := ((toU32 (shr .u32 (t_1.toNat : Int) 24)).toNat : Int)) h rfl rfl rfl (by decide) (.inr ⟨rfl, (shr32 _ _).symm⟩) fun a h=>s_conv (((toU8 ((toU32 (shr .u32 (t_1.toNat : Int) 24)).toNat : Int)).toNat : Int)) h rfl U75 U5 rfl (wrap_u8 _).symm fun a h=>?_
 have hq_9 : Reps Kd.u8 Mem.no ([toU8 (t_1.toNat : Int), toU8 ((toU32 (shr .u32 (t_1.toNat : Int) 8)).toNat : Int), toU8 ((toU32 (shr .u32 (t_1.toNat : Int) 16)).toNat : Int), toU8 ((toU32 (shr .u32 (t_1.toNat : Int) 24)).toNat : Int)] : List UInt8) _ := ((Reps.one (d := Kd.u8) (x := toU8 (t_1.toNat : Int)) (show Kd.u8.K _ _ [.int .u8 ((toU8 (t_1.toNat : Int)).toNat : Int)] from rfl)).append ((Reps.one (d := Kd.u8) (x := toU8 ((toU32 (shr .u32 (t_1.toNat : Int) 8)).toNat : Int)) (show Kd.u8.K _ _ [.int .u8 ((toU8 ((toU32 (shr .u32 (t_1.toNat : Int) 8)).toNat : Int)).toNat : Int)] from rfl)).append ((Reps.one (d := Kd.u8) (x := toU8 ((toU32 (shr .u32 (t_1.toNat : Int) 16)).toNat : Int)) (show Kd.u8.K _ _ [.int .u8 ((toU8 ((toU32 (shr .u32 (t_1.toNat : Int) 16)).toNat : Int)).toNat : Int)] from rfl)).append ((Reps.one (d := Kd.u8) (x := toU8 ((toU32 (shr .u32 (t_1.toNat : Int) 24)).toNat : Int)) (show Kd.u8.K _ _ [.int .u8 ((toU8 ((toU32 (shr .u32 (t_1.toNat : Int) 24)).toNat : Int)).toNat : Int)] from rfl)).append (Reps.nil Kd.u8 _)))))
 refine s_buildSlice h rfl U23 ti5 rfl rfl rfl (.cons rfl (.cons rfl (.cons rfl (.cons rfl .nil)))) rfl rfl rfl hS hq_9 rfl fun w_5 v_6 M_7 hS' ho_8 a h => ?_
 replace hS : Sep w0 w_5 [_, M_7] Z := hS'
 clear hS' hq_9
 refine s_assign h rfl rfl fun a h=>wpList_nil <| x_then_n <| wp_seq <| wp_region_lit <| s_move h rfl rfl fun a h=>s_move h rfl rfl fun a h=>?_
 obtain ⟨t_11, et_11, H⟩ := Option.bind_eq_some_iff.1 H
 refine s_append (J := Mem.no) (I' := Mem.no) (p := 1) 140737488355328 h rfl rfl rfl U23 ti5 rfl rfl rfl rfl hS rfl ho_8 (Src.flat flat_u8 (hp0_0.src (hA.trans hS.old))) (Mem.le.refl _) (Mem.le.refl _) et_11 fun w_12 v_13 M_14 hS' ho_15 a h => ?_
 replace hS : Sep w0 w_12 [_, M_14] Z := hS'
 clear hS'
 refine s_assign h rfl rfl fun a h=>wpList_nil ?_
 replace h : Fr 22 a [(2, v_13)] := h.keep [2]
 refine x_then_n <| wp_ret ?_
 obtain rfl := Option.some.inj H
 exact f_ret h (rs := [.tmp 2]) rfl (.tmp rfl .nil) ⟨_, rfl, v_13, N_4, M_14, rfl, (Sep.sel hS [0, 1] (by decide)), ho_15⟩

set_option maxHeartbeats 4000000 in
set_option maxRecDepth 20000 in
theorem fram_Sound.calls (K : Nat) (x0 : List UInt8) (p0_0 : Value) (r : (List UInt8) × Bool) (w0 w : World) (Z A : Mem) (hA : A.le Z) (hS : Sep w0 w [] Z) (hp0_0 : Rd Kd.u8 A p0_0 x0)
    (H : fram_Sound.f K x0 = some r) :
    Calls Try.prog 41 [p0_0].toArray w (Ret fun v w' => ∃ (u0 : Value) (N : Mem), v = .tuple [u0, .bool r.2].toArray ∧ Sep w0 w' [N] Z ∧ Rd Kd.u8 (A.un N) u0 r.1) := by
 unfold fram_Sound.f at H
 refine f_enter _ Try.func41 rfl Try.ntmps41 rfl fun a h=>?_
 replace h : Fr 37 a [(0, p0_0)] := h
 replace hS := hS.start
 replace hS : Sep w0 w [_] Z := hS
 refine wp_seq <| wp_region_lit <| s_assign h rfl rfl fun a h=>s_assign h rfl rfl fun a h=>wpList_nil <| x_then_n <| c_seq fun KJ_1 hKJ_1 => wp_seq <| wp_region_lit <| s_move h rfl rfl fun a h=>s_len h rfl U23 rfl hp0_0 fun a h=>s_cmp (b := decide ((x0.length : Int) < 4)) h rfl rfl rfl (.inr (.inr (.inl ⟨rfl, rfl⟩))) fun a h=>?_
 refine wpList_nil <| x_then_n ?_
 by_cases hc_2 : (x0.length : Int) < 4
 ·rw [if_pos hc_2] at H
  refine c_cond_t h rfl (decide_eq_true hc_2) <| wp_seq <| wp_region_lit <| s_assign h rfl rfl fun a h=>s_assign h rfl rfl fun a h=>wpList_nil <| x_then_n <| wp_ret (x_then_r ?_)
  obtain rfl := Option.some.inj H
  exact f_ret h (rs := [.tmp 2, .tmp 3]) rfl (.tmp rfl (.tmp rfl .nil)) ⟨_, rfl, nS, Mem.no, rfl, (Sep.sel hS [0] (by decide)), (Rd.nil _ _)⟩
 ·rw [if_neg hc_2] at H
  refine c_cond_f h rfl (decide_eq_false hc_2) <| wp_skip <| x_then_n (hKJ_1 _ _ ?_)
  refine c_seq fun KJ_3 hKJ_3 => h_begin (S := fun w => Sep w0 w [Mem.no] Z) 23 (by kernel_rfl) rfl (bA 23 0) (by kernel_rfl) hS fun w_4 hS => ?_
  replace hS : Sep w0 w_4 [_] Z := hS
  refine t_take 0 (bA 23 1) rfl rfl rfl rfl h (hS.sub .ii) (v := p0_0) (fun w hS => r_move h rfl) fun a h=>?_
  obtain ⟨t_5, et_5, H⟩ := Option.bind_eq_some_iff.1 H
  refine t_takeE 1 (bA 23 3) rfl rfl rfl rfl h (hS.sub .ii) (f := fun ad => .pointer (some ad)) (r_index h U23 ti5 rfl rfl rfl hp0_0 et_5) ?_
  rintro ad_6 ⟨cs_7, hk_8, hc_9⟩
  obtain rfl := (show cs_7 = [.int .u8 (t_5.toNat : Int)] from hk_8)
  intro a h
  refine t_take 2 (bA 23 7) rfl rfl rfl rfl h (hS.sub .ii) (v := .int .u8 (t_5.toNat : Int)) (fun w hS => r_load h rfl (el_one (o := 0) (fun j c h => Mem.cell_le (hA.trans hS.old) (hc_9 j c h)) U5 rfl rfl)) fun a h=>t_take 3 (bA 23 15) rfl rfl rfl rfl h (hS.sub .ii) (v := .int .u32 ((toU32 (t_5.toNat : Int)).toNat : Int)) (fun w hS => r_conv (((toU32 (t_5.toNat : Int)).toNat : Int)) h U5 U75 rfl (wrap_u32 _).symm) fun a h=>t_take 4 (bA 23 31) rfl rfl rfl rfl h (hS.sub .ii) (v := p0_0) (fun w hS => r_move h rfl) fun a h=>?_
  obtain ⟨t_10, et_10, H⟩ := Option.bind_eq_some_iff.1 H
  refine t_takeE 5 (bA 23 63) rfl rfl rfl rfl h (hS.sub .ii) (f := fun ad => .pointer (some ad)) (r_index h U23 ti5 rfl rfl rfl hp0_0 et_10) ?_
  rintro ad_11 ⟨cs_12, hk_13, hc_14⟩
  obtain rfl := (show cs_12 = [.int .u8 (t_10.toNat : Int)] from hk_13)
  intro a h
  refine t_take 6 (bA 23 127) rfl rfl rfl rfl h (hS.sub .ii) (v := .int .u8 (t_10.toNat : Int)) (fun w hS => r_load h rfl (el_one (o := 0) (fun j c h => Mem.cell_le (hA.trans hS.old) (hc_14 j c h)) U5 rfl rfl)) fun a h=>t_take 7 (bA 23 255) rfl rfl rfl rfl h (hS.sub .ii) (v := .int .u32 ((toU32 (t_10.toNat : Int)).toNat : Int)) (fun w hS => r_conv (((toU32 (t_10.toNat : Int)).toNat : Int)) h U5 U75 rfl (wrap_u32 _).symm) fun a h=>t_take 8 (bA 23 511) rfl rfl rfl rfl h (hS.sub .ii) (v := .int .u32 ((toU32 (((toU32 (t_10.toNat : Int)).toNat : Int) * 2 ^ (min (8 : Int).toNat 32))).toNat : Int)) (fun w hS => r_shift (r := ((toU32 (((toU32 (t_10.toNat : Int)).toNat : Int) * 2 ^ (min (8 : Int).toNat 32))).toNat : Int)) h rfl rfl (by decide) (.inl ⟨rfl, (wrap_u32 _).symm⟩)) fun a h=>t_take 9 (bA 23 1023) rfl rfl rfl rfl h (hS.sub .ii) (v := .int .u32 (((toU32 (t_5.toNat : Int)) ||| (toU32 (((toU32 (t_10.toNat : Int)).toNat : Int) * 2 ^ (min (8 : Int).toNat 32)))).toNat : Int)) (fun w hS => r_bits (i := ((toU32 (t_5.toNat : Int)).toNat : Int)) (j := ((toU32 (((toU32 (t_10.toNat : Int)).toNat : Int) * 2 ^ (min (8 : Int).toNat 32))).toNat : Int)) (r := (((toU32 (t_5.toNat : Int)) ||| (toU32 (((toU32 (t_10.toNat : Int)).toNat : Int) * 2 ^ (min (8 : Int).toNat 32)))).toNat : Int)) h rfl rfl (.inr (.inl ⟨rfl, (bor32 _ _).symm⟩))) fun a h=>?_
  refine t_take 10 (bA 23 2047) rfl rfl rfl rfl h (hS.sub .ii) (v := p0_0) (fun w hS => r_move h rfl) fun a h=>?_
  obtain ⟨t_15, et_15, H⟩ := Option.bind_eq_some_iff.1 H
  refine t_takeE 11 (bA 23 4095) rfl rfl rfl rfl h (hS.sub .ii) (f := fun ad => .pointer (some ad)) (r_index h U23 ti5 rfl rfl rfl hp0_0 et_15) ?_
  rintro ad_16 ⟨cs_17, hk_18, hc_19⟩
  obtain rfl := (show cs_17 = [.int .u8 (t_15.toNat : Int)] from hk_18)
  intro a h
  refine t_take 12 (bA 23 8191) rfl rfl rfl rfl h (hS.sub .ii) (v := .int .u8 (t_15.toNat : Int)) (fun w hS => r_load h rfl (el_one (o := 0) (fun j c h => Mem.cell_le (hA.trans hS.old) (hc_19 j c h)) U5 rfl rfl)) fun a h=>t_take 13 (bA 23 16383) rfl rfl rfl rfl h (hS.sub .ii) (v := .int .u32 ((toU32 (t_15.toNat : Int)).toNat : Int)) (fun w hS => r_conv (((toU32 (t_15.toNat : Int)).toNat : Int)) h U5 U75 rfl (wrap_u32 _).symm) fun a h=>t_take 14 (bA 23 32767) rfl rfl rfl rfl h (hS.sub .ii) (v := .int .u32 ((toU32 (((toU32 (t_15.toNat : Int)).toNat : Int) * 2 ^ (min (16 : Int).toNat 32))).toNat : Int)) (fun w hS => r_shift (r := ((toU32 (((toU32 (t_15.toNat : Int)).toNat : Int) * 2 ^ (min (16 : Int).toNat 32))).toNat : Int)) h rfl rfl (by decide) (.inl ⟨rfl, (wrap_u32 _).symm⟩)) fun a h=>t_take 15 (bA 23 65535) rfl rfl rfl rfl h (hS.sub .ii) (v := .int .u32 ((((toU32 (t_5.toNat : Int)) ||| (toU32 (((toU32 (t_10.toNat : Int)).toNat : Int) * 2 ^ (min (8 : Int).toNat 32)))) ||| (toU32 (((toU32 (t_15.toNat : Int)).toNat : Int) * 2 ^ (min (16 : Int).toNat 32)))).toNat : Int)) (fun w hS => r_bits (i := (((toU32 (t_5.toNat : Int)) ||| (toU32 (((toU32 (t_10.toNat : Int)).toNat : Int) * 2 ^ (min (8 : Int).toNat 32)))).toNat : Int)) (j := ((toU32 (((toU32 (t_15.toNat : Int)).toNat : Int) * 2 ^ (min (16 : Int).toNat 32))).toNat : Int)) (r := ((((toU32 (t_5.toNat : Int)) ||| (toU32 (((toU32 (t_10.toNat : Int)).toNat : Int) * 2 ^ (min (8 : Int).toNat 32)))) ||| (toU32 (((toU32 (t_15.toNat : Int)).toNat : Int) * 2 ^ (min (16 : Int).toNat 32)))).toNat : Int)) h rfl rfl (.inr (.inl ⟨rfl, (bor32 _ _).symm⟩))) fun a h=>?_
  refine t_take 16 (bA 23 131071) rfl rfl rfl rfl h (hS.sub .ii) (v := p0_0) (fun w hS => r_move h rfl) fun a h=>?_
  obtain ⟨t_20, et_20, H⟩ := Option.bind_eq_some_iff.1 H
  refine t_takeE 17 (bA 23 262143) rfl rfl rfl rfl h (hS.sub .ii) (f := fun ad => .pointer (some ad)) (r_index h U23 ti5 rfl rfl rfl hp0_0 et_20) ?_
  rintro ad_21 ⟨cs_22, hk_23, hc_24⟩
  obtain rfl := (show cs_22 = [.int .u8 (t_20.toNat : Int)] from hk_23)
  intro a h
  refine t_take 18 (bA 23 524287) rfl rfl rfl rfl h (hS.sub .ii) (v := .int .u8 (t_20.toNat : Int)) (fun w hS => r_load h rfl (el_one (o := 0) (fun j c h => Mem.cell_le (hA.trans hS.old) (hc_24 j c h)) U5 rfl rfl)) fun a h=>t_take 19 (bA 23 1048575) rfl rfl rfl rfl h (hS.sub .ii) (v := .int .u32 ((toU32 (t_20.toNat : Int)).toNat : Int)) (fun w hS => r_conv (((toU32 (t_20.toNat : Int)).toNat : Int)) h U5 U75 rfl (wrap_u32 _).symm) fun a h=>t_take 20 (bA 23 2097151) rfl rfl rfl rfl h (hS.sub .ii) (v := .int .u32 ((toU32 (((toU32 (t_20.toNat : Int)).toNat : Int) * 2 ^ (min (24 : Int).toNat 32))).toNat : Int)) (fun w hS => r_shift (r := ((toU32 (((toU32 (t_20.toNat : Int)).toNat : Int) * 2 ^ (min (24 : Int).toNat 32))).toNat : Int)) h rfl rfl (by decide) (.inl ⟨rfl, (wrap_u32 _).symm⟩)) fun a h=>t_take 21 (bA 23 4194303) rfl rfl rfl rfl h (hS.sub .ii) (v := .int .u32 (((((toU32 (t_5.toNat : Int)) ||| (toU32 (((toU32 (t_10.toNat : Int)).toNat : Int) * 2 ^ (min (8 : Int).toNat 32)))) ||| (toU32 (((toU32 (t_15.toNat : Int)).toNat : Int) * 2 ^ (min (16 : Int).toNat 32)))) ||| (toU32 (((toU32 (t_20.toNat : Int)).toNat : Int) * 2 ^ (min (24 : Int).toNat 32)))).toNat : Int)) (fun w hS => r_bits (i := ((((toU32 (t_5.toNat : Int)) ||| (toU32 (((toU32 (t_10.toNat : Int)).toNat : Int) * 2 ^ (min (8 : Int).toNat 32)))) ||| (toU32 (((toU32 (t_15.toNat : Int)).toNat : Int) * 2 ^ (min (16 : Int).toNat 32)))).toNat : Int)) (j := ((toU32 (((toU32 (t_20.toNat : Int)).toNat : Int) * 2 ^ (min (24 : Int).toNat 32))).toNat : Int)) (r := (((((toU32 (t_5.toNat : Int)) ||| (toU32 (((toU32 (t_10.toNat : Int)).toNat : Int) * 2 ^ (min (8 : Int).toNat 32)))) ||| (toU32 (((toU32 (t_15.toNat : Int)).toNat : Int) * 2 ^ (min (16 : Int).toNat 32)))) ||| (toU32 (((toU32 (t_20.toNat : Int)).toNat : Int) * 2 ^ (min (24 : Int).toNat 32)))).toNat : Int)) h rfl rfl (.inr (.inl ⟨rfl, (bor32 _ _).symm⟩))) fun a h=>?_
  refine t_take 22 (bA 23 8388607) rfl rfl rfl rfl h (hS.sub .ii) (v := .int .u32 (((((toU32 (t_5.toNat : Int)) ||| (toU32 (((toU32 (t_10.toNat : Int)).toNat : Int) * 2 ^ (min (8 : Int).toNat 32)))) ||| (toU32 (((toU32 (t_15.toNat : Int)).toNat : Int) * 2 ^ (min (16 : Int).toNat 32)))) ||| (toU32 (((toU32 (t_20.toNat : Int)).toNat : Int) * 2 ^ (min (24 : Int).toNat 32)))).toNat : Int)) (fun w hS => r_assign h rfl) fun a h=>h_done (by kernel_rfl) <| x_then_n (hKJ_3 _ _ ?_)
  refine c_seq fun KJ_25 hKJ_25 => h_begin (S := fun w => Sep w0 w [Mem.no] Z) 9 (by kernel_rfl) rfl (bA 9 0) (by kernel_rfl) hS fun w_26 hS => ?_
  replace hS : Sep w0 w_26 [_] Z := hS
  refine t_take 0 (bA 9 1) rfl rfl rfl rfl h (hS.sub .ii) (v := p0_0) (fun w hS => r_move h rfl) fun a h=>?_
  obtain ⟨t_27, et_27, H⟩ := Option.bind_eq_some_iff.1 H
  refine t_takeE 1 (bA 9 3) rfl rfl rfl rfl h (hS.sub .ii) (f := fun v => v) (r_slice h U23 ti5 rfl rfl hp0_0 rfl rfl et_27) fun v_28 hr_29 a h => t_take 2 (bA 9 7) rfl rfl rfl rfl h (hS.sub .ii) (v := .int .u32 (((((toU32 (t_5.toNat : Int)) ||| (toU32 (((toU32 (t_10.toNat : Int)).toNat : Int) * 2 ^ (min (8 : Int).toNat 32)))) ||| (toU32 (((toU32 (t_15.toNat : Int)).toNat : Int) * 2 ^ (min (16 : Int).toNat 32)))) ||| (toU32 (((toU32 (t_20.toNat : Int)).toNat : Int) * 2 ^ (min (24 : Int).toNat 32)))).toNat : Int)) (fun w hS => r_move h rfl) fun a h=>t_take 3 (bA 9 15) rfl rfl rfl rfl h (hS.sub .ii) (v := p0_0) (fun w hS => r_move h rfl) fun a h=>?_
  obtain ⟨t_30, et_30, H⟩ := Option.bind_eq_some_iff.1 H
  refine t_takeE 4 (bA 9 31) rfl rfl rfl rfl h (hS.sub .ii) (f := fun v => v) (r_slice h U23 ti5 rfl rfl hp0_0 rfl rfl et_30) fun v_31 hr_32 a h => h_event 5 (bA 9 63) rfl (by kernel_rfl) (by kernel_rfl) ?_
  obtain ⟨t_33, et_33, H⟩ := Option.bind_eq_some_iff.1 H
  refine s_call h rfl Try.call61 rfl (crcs_Sum.calls K t_30 _ t_33 w0 _ _ _ (Mem.le.refl _) (hS.enter [] (by decide)) (hr_32.mono (hA.trans (hS.le_zed []))) et_33) ?_
  rintro _ w_34 ⟨N_35, rfl, hS'⟩
  intro a h
  obtain ⟨N_36, hS'', le_36, ln_36⟩ := hS.call [] (by decide) rfl (l' := []) (ow := []) rfl hS'
  replace hS : Sep w0 w_34 [N_36] Z := hS''
  clear hS' hS''
  refine wpList_nil <| x_then_n ⟨(hS.sub (.cons le_36 .ii)), ?_⟩
  refine t_take 6 (bA 9 127) rfl rfl rfl rfl h (hS.sub (.cons le_36 .ii)) (v := .bool ((((((toU32 (t_5.toNat : Int)) ||| (toU32 (((toU32 (t_10.toNat : Int)).toNat : Int) * 2 ^ (min (8 : Int).toNat 32)))) ||| (toU32 (((toU32 (t_15.toNat : Int)).toNat : Int) * 2 ^ (min (16 : Int).toNat 32)))) ||| (toU32 (((toU32 (t_20.toNat : Int)).toNat : Int) * 2 ^ (min (24 : Int).toNat 32)))).toNat : Int) == (t_33.toNat : Int))) (fun w hS => r_cmp (b := ((((((toU32 (t_5.toNat : Int)) ||| (toU32 (((toU32 (t_10.toNat : Int)).toNat : Int) * 2 ^ (min (8 : Int).toNat 32)))) ||| (toU32 (((toU32 (t_15.toNat : Int)).toNat : Int) * 2 ^ (min (16 : Int).toNat 32)))) ||| (toU32 (((toU32 (t_20.toNat : Int)).toNat : Int) * 2 ^ (min (24 : Int).toNat 32)))).toNat : Int) == (t_33.toNat : Int))) h rfl rfl (.inl ⟨rfl, rfl⟩)) fun a h=>t_take 7 (bA 9 255) rfl rfl rfl rfl h (hS.sub (.cons le_36 .ii)) (v := v_28) (fun w hS => r_assign h rfl) fun a h=>t_take 8 (bA 9 511) rfl rfl rfl rfl h (hS.sub (.cons le_36 .ii)) (v := .bool ((((((toU32 (t_5.toNat : Int)) ||| (toU32 (((toU32 (t_10.toNat : Int)).toNat : Int) * 2 ^ (min (8 : Int).toNat 32)))) ||| (toU32 (((toU32 (t_15.toNat : Int)).toNat : Int) * 2 ^ (min (16 : Int).toNat 32)))) ||| (toU32 (((toU32 (t_20.toNat : Int)).toNat : Int) * 2 ^ (min (24 : Int).toNat 32)))).toNat : Int) == (t_33.toNat : Int))) (fun w hS => r_assign h rfl) fun a h=>?_
  refine h_done (by kernel_rfl) ?_
  replace h : Fr 37 a [(2, v_28), (3, .bool ((((((toU32 (t_5.toNat : Int)) ||| (toU32 (((toU32 (t_10.toNat : Int)).toNat : Int) * 2 ^ (min (8 : Int).toNat 32)))) ||| (toU32 (((toU32 (t_15.toNat : Int)).toNat : Int) * 2 ^ (min (16 : Int).toNat 32)))) ||| (toU32 (((toU32 (t_20.toNat : Int)).toNat : Int) * 2 ^ (min (24 : Int).toNat 32)))).toNat : Int) == (t_33.toNat : Int)))] := h.keep [2, 3]
  refine x_then_n (hKJ_25 _ _ ?_)
  refine wp_ret ?_
  obtain rfl := Option.some.inj H
  exact f_ret h (rs := [.tmp 2, .tmp 3]) rfl (.tmp rfl (.tmp rfl .nil)) ⟨_, rfl, v_28, N_36, rfl, (Sep.sel hS [0] (by decide)), (hr_29.mono (Mem.le_un _ _))⟩

set_option maxHeartbeats 4000000 in
set_option maxRecDepth 20000 in
theorem fram_Open.calls (K : Nat) (x0 : List UInt8) (p0_0 : Value) (r : api_Msg × Bool) (w0 w : World) (Z A : Mem) (hA : A.le Z) (hS : Sep w0 w [] Z) (hp0_0 : Rd Kd.u8 A p0_0 x0)
    (H : fram_Open.f K x0 = some r) :
    Calls Try.prog 20 [p0_0].toArray w (Ret fun v w' => ∃ (u0 : Value) (u1 : Value) (u2 : Value) (u3 : Value) (u4 : Value) (u5 : Value) (N : Mem) (M0 : Mem) (M1 : Mem) (M2 : Mem) (M3 : Mem) (M4 : Mem) (M5 : Mem), v = .tuple [.agg [iV r.1.Kind, iV r.1.From, iV r.1.To, iV r.1.View, iV r.1.Inst, iV r.1.Len, .bool r.1.Has, iV r.1.Members, iV r.1.Source, iV r.1.At, iV r.1.Total, u0, iV r.1.Hop, iV r.1.Seq, u1, u2, iV r.1.Index, iV r.1.Entry.Sess, iV r.1.Entry.Seq, iV r.1.Entry.Cmd.Kind, iV r.1.Entry.Cmd.Who, u3, u4, u5].toArray, .bool r.2].toArray ∧ Sep w0 w' [N, M0, M1, M2, M3, M4, M5] Z ∧ Own Kd.u8 5 M0 Mem.no u0 r.1.Data ∧ Own (Kd.int .i64) 3 M1 Mem.no u1 r.1.Have ∧ Own (Kd.int .i64) 3 M2 Mem.no u2 r.1.Need ∧ Own Kd.u8 5 M3 Mem.no u3 r.1.Entry.Cmd.Key ∧ Own Kd.u8 5 M4 Mem.no u4 r.1.Entry.Cmd.Val ∧ Own Kd.u8 5 M5 Mem.no u5 r.1.Entry.Cmd.Old) := by
 unfold fram_Open.f at H
 refine f_enter _ Try.func20 rfl Try.ntmps20 rfl fun a h=>?_
 replace h : Fr 26 a [(0, p0_0)] := h
 replace hS := hS.start
 replace hS : Sep w0 w [_] Z := hS
 refine wp_seq <| wp_region_lit <| v_alloc h rfl ti29 hS fun w_1 g_2 hS' a h => ?_
 replace hS : Sep w0 w_1 [_, Mem.one g_2 (.cells ([iV 0, iV 0, iV 0, iV 0, iV 0, iV 0, .bool false, iV 0, iV 0, iV 0, iV 0, nS, iV 0, iV 0, nS, nS, iV 0, iV 0, iV 0, iV 0, iV 0, nS, nS, nS] : List Value).toArray 29 (0, 0))] Z := hS'
 clear hS'
 refine s_assign h rfl rfl fun a h=>wpList_nil <| x_then_n <| wp_seq <| wp_region_lit <| s_move h rfl rfl fun a h=>?_
 obtain ⟨t_3, et_3, H⟩ := Option.bind_eq_some_iff.1 H
 refine s_call h rfl Try.call41 rfl (fram_Sound.calls K x0 _ t_3 w0 _ _ A (hA.trans (hS.le_zed [])) (hS.enter [] (by decide)) hp0_0 et_3) ?_
 rintro _ w_4 ⟨v_7, N_5, rfl, hS', hr_8⟩
 intro a h
 obtain ⟨N_6, hS'', le_6, ln_6⟩ := hS.call [] (by decide) rfl (l' := []) (ow := []) rfl hS'
 replace hS : Sep w0 w_4 [N_6, _] Z := hS''
 clear hS' hS''
 have hr_9 : Rd Kd.u8 (A.un N_6) v_7 t_3.1 := hr_8.mono (Mem.un_left ln_6)
 refine s_move h rfl rfl fun a h=>s_extract h rfl rfl rfl fun a h=>s_extract h rfl rfl rfl fun a h=>s_assign h rfl rfl fun a h=>s_assign h rfl rfl fun a h=>wpList_nil <| x_then_n <| wp_seq <| wp_region_lit <| s_move h rfl rfl fun a h=>?_
 obtain ⟨t_10, et_10, H⟩ := Option.bind_eq_some_iff.1 H
 refine s_call h rfl Try.call12 rfl (mesg_Decode.calls K t_3.1 _ t_10 w0 _ _ _ (Mem.le.refl _) (hS.enter [] (by decide)) (hr_9.mono (Mem.un_le (hA.trans (hS.le_zed [])) ((Mem.le.refl _).trans (hS.new_zed [])))) et_10) ?_
 rintro _ w_11 ⟨v_14, v_18, v_22, v_26, v_30, v_34, N_12, M_16, M_20, M_24, M_28, M_32, M_36, rfl, hS', hr_15, hr_19, hr_23, hr_27, hr_31, hr_35⟩
 intro a h
 obtain ⟨N_13, hS'', le_13, ln_13⟩ := hS.call [] (by decide) rfl (l' := []) (ow := [M_16, M_20, M_24, M_28, M_32, M_36]) rfl hS'
 replace hS : Sep w0 w_11 [N_13, _, M_16, M_20, M_24, M_28, M_32, M_36] Z := hS''
 clear hS' hS''
 refine s_move h rfl rfl fun a h=>s_extract h rfl rfl rfl fun a h=>s_extract h rfl rfl rfl fun a h=>v_alloc h rfl ti29 hS fun w_38 g_39 hS' a h => ?_
 replace hS : Sep w0 w_38 [_, _, _, _, _, _, _, _, Mem.one g_39 (.cells ([iV 0, iV 0, iV 0, iV 0, iV 0, iV 0, .bool false, iV 0, iV 0, iV 0, iV 0, nS, iV 0, iV 0, nS, nS, iV 0, iV 0, iV 0, iV 0, iV 0, nS, nS, nS] : List Value).toArray 29 (0, 0))] Z := hS'
 clear hS'
 obtain ⟨w_40, hs', hS'⟩ := hS.store (P := Try.prog) (p := 8) (o := 0) (t := 29) (v := .agg ([iV t_10.1.Kind, iV t_10.1.From, iV t_10.1.To, iV t_10.1.View, iV t_10.1.Inst, iV t_10.1.Len, .bool t_10.1.Has, iV t_10.1.Members, iV t_10.1.Source, iV t_10.1.At, iV t_10.1.Total, v_14, iV t_10.1.Hop, iV t_10.1.Seq, v_18, v_22, iV t_10.1.Index, iV t_10.1.Entry.Sess, iV t_10.1.Entry.Seq, iV t_10.1.Entry.Cmd.Kind, iV t_10.1.Entry.Cmd.Who, v_26, v_30, v_34] : List Value).toArray) (vs := [iV t_10.1.Kind, iV t_10.1.From, iV t_10.1.To, iV t_10.1.View, iV t_10.1.Inst, iV t_10.1.Len, .bool t_10.1.Has, iV t_10.1.Members, iV t_10.1.Source, iV t_10.1.At, iV t_10.1.Total, v_14, iV t_10.1.Hop, iV t_10.1.Seq, v_18, v_22, iV t_10.1.Index, iV t_10.1.Entry.Sess, iV t_10.1.Entry.Seq, iV t_10.1.Entry.Cmd.Kind, iV t_10.1.Entry.Cmd.Who, v_26, v_30, v_34]) rfl ti29 rfl rfl rfl (by intro u hu; simp only [List.mem_cons, List.not_mem_nil, or_false] at hu; rcases hu with rfl | rfl | rfl | rfl | rfl | rfl | rfl | rfl | rfl | rfl | rfl | rfl | rfl | rfl | rfl | rfl | rfl | rfl | rfl | rfl | rfl | rfl | rfl | rfl <;> first | rfl | exact hr_15.one | exact hr_19.one | exact hr_23.one | exact hr_27.one | exact hr_31.one | exact hr_35.one)
 refine s_store h rfl rfl hs' ?_
 replace hS : Sep w0 w_40 [_, _, _, _, _, _, _, _, Mem.one g_39 (.cells ([iV t_10.1.Kind, iV t_10.1.From, iV t_10.1.To, iV t_10.1.View, iV t_10.1.Inst, iV t_10.1.Len, .bool t_10.1.Has, iV t_10.1.Members, iV t_10.1.Source, iV t_10.1.At, iV t_10.1.Total, v_14, iV t_10.1.Hop, iV t_10.1.Seq, v_18, v_22, iV t_10.1.Index, iV t_10.1.Entry.Sess, iV t_10.1.Entry.Seq, iV t_10.1.Entry.Cmd.Kind, iV t_10.1.Entry.Cmd.Who, v_26, v_30, v_34] : List Value).toArray 29 (0, 0))] Z := hS'
 clear hs' hS'
 refine s_assign h rfl rfl fun a h=>wpList_nil <| x_then_n <| c_seq fun KJ_41 hKJ_41 => c_seq fun KJ_42 hKJ_42 => ?_
 have hJ_j_46 : ∀ (x_44 : Bool), fram_Open.J1 K t_10 x_44 = some r → ∀ (a : Act) (w_45 : World), (∃ (N_43 : Mem), Fr 26 a [(2, .pointer (some ⟨g_2, 0, none⟩)), (3, .bool false), (6, .pointer (some ⟨g_39, 0, none⟩)), (23, .bool x_44)] ∧ Sep w0 w_45 [N_43, Mem.one g_2 (.cells ([iV 0, iV 0, iV 0, iV 0, iV 0, iV 0, .bool false, iV 0, iV 0, iV 0, iV 0, nS, iV 0, iV 0, nS, nS, iV 0, iV 0, iV 0, iV 0, iV 0, nS, nS, nS] : List Value).toArray 29 (0, 0)), M_16, M_20, M_24, M_28, M_32, M_36, Mem.one g_39 (.cells ([iV t_10.1.Kind, iV t_10.1.From, iV t_10.1.To, iV t_10.1.View, iV t_10.1.Inst, iV t_10.1.Len, .bool t_10.1.Has, iV t_10.1.Members, iV t_10.1.Source, iV t_10.1.At, iV t_10.1.Total, v_14, iV t_10.1.Hop, iV t_10.1.Seq, v_18, v_22, iV t_10.1.Index, iV t_10.1.Entry.Sess, iV t_10.1.Entry.Seq, iV t_10.1.Entry.Cmd.Kind, iV t_10.1.Entry.Cmd.Who, v_26, v_30, v_34] : List Value).toArray 29 (0, 0))] Z ∧ N_13.le N_43) → KJ_42 a w_45 := by
  clear H h hS a
  rintro x_44 H a w_45 ⟨N_43, h, hS, le_43⟩
  unfold fram_Open.J1 at H
  refine hKJ_42 _ _ ?_
  by_cases hc_47 : x_44 = true
  ·rw [if_pos hc_47] at H
   refine c_cond_t h rfl hc_47 <| wp_seq <| wp_region_lit <| s_build h rfl ti29 pl29 rfl .nil (cs := [iV 0, iV 0, iV 0, iV 0, iV 0, iV 0, .bool false, iV 0, iV 0, iV 0, iV 0, nS, iV 0, iV 0, nS, nS, iV 0, iV 0, iV 0, iV 0, iV 0, nS, nS, nS]) (by kernel_rfl) fun a h=>?_
   obtain ⟨w_48, hs', hS'⟩ := hS.store (P := Try.prog) (p := 1) (o := 0) (t := 29) (v := .agg ([iV 0, iV 0, iV 0, iV 0, iV 0, iV 0, .bool false, iV 0, iV 0, iV 0, iV 0, nS, iV 0, iV 0, nS, nS, iV 0, iV 0, iV 0, iV 0, iV 0, nS, nS, nS] : List Value).toArray) (vs := [iV 0, iV 0, iV 0, iV 0, iV 0, iV 0, .bool false, iV 0, iV 0, iV 0, iV 0, nS, iV 0, iV 0, nS, nS, iV 0, iV 0, iV 0, iV 0, iV 0, nS, nS, nS]) rfl ti29 rfl rfl rfl (by intro u hu; simp only [List.mem_cons, List.not_mem_nil, or_false] at hu; rcases hu with rfl | rfl | rfl | rfl | rfl | rfl | rfl | rfl | rfl | rfl | rfl | rfl | rfl | rfl | rfl | rfl | rfl | rfl | rfl | rfl | rfl | rfl | rfl | rfl <;> rfl)
   refine s_store h rfl rfl hs' ?_
   replace hS : Sep w0 w_48 [_, _, _, _, _, _, _, _, _] Z := hS'
   clear hs' hS'
   refine s_assign h rfl rfl fun a h=>wpList_nil ?_
   replace h : Fr 26 a [(2, _), (3, _), (6, _)] := h.keep [2, 3, 6]
   refine x_then_n <| wp_ret (x_then_r ?_)
   have hS' := hS.room
   replace hS : Sep w0 w_48 [_, _, _, _, _, _, _, _, _, Mem.no] Z := hS'
   clear hS'
   replace hS : Sep w0 w_48 [_, _, _, _, _, _, _, _, _, _] Z := hS
   have hS' := hS.room
   replace hS : Sep w0 w_48 [_, _, _, _, _, _, _, _, _, _, Mem.no] Z := hS'
   clear hS'
   replace hS : Sep w0 w_48 [_, _, _, _, _, _, _, _, _, _, _] Z := hS
   have hS' := hS.room
   replace hS : Sep w0 w_48 [_, _, _, _, _, _, _, _, _, _, _, Mem.no] Z := hS'
   clear hS'
   replace hS : Sep w0 w_48 [_, _, _, _, _, _, _, _, _, _, _, _] Z := hS
   have hS' := hS.room
   replace hS : Sep w0 w_48 [_, _, _, _, _, _, _, _, _, _, _, _, Mem.no] Z := hS'
   clear hS'
   replace hS : Sep w0 w_48 [_, _, _, _, _, _, _, _, _, _, _, _, _] Z := hS
   have hS' := hS.room
   replace hS : Sep w0 w_48 [_, _, _, _, _, _, _, _, _, _, _, _, _, Mem.no] Z := hS'
   clear hS'
   replace hS : Sep w0 w_48 [_, _, _, _, _, _, _, _, _, _, _, _, _, _] Z := hS
   have hS' := hS.room
   replace hS : Sep w0 w_48 [_, _, _, _, _, _, _, _, _, _, _, _, _, _, Mem.no] Z := hS'
   clear hS'
   replace hS : Sep w0 w_48 [_, _, _, _, _, _, _, _, _, _, _, _, _, _, _] Z := hS
   obtain rfl := Option.some.inj H
   exact f_ret h (rs := [.cell 2 29, .tmp 3]) rfl (.cell rfl (hS.load_agg (p := 1) (us := [iV 0, iV 0, iV 0, iV 0, iV 0, iV 0, .bool false, iV 0, iV 0, iV 0, iV 0, nS, iV 0, iV 0, nS, nS, iV 0, iV 0, iV 0, iV 0, iV 0, nS, nS, nS]) rfl U29 rfl ti29 rfl rfl) (.tmp rfl .nil)) ⟨_, rfl, nS, nS, nS, nS, nS, nS, N_43, Mem.no, Mem.no, Mem.no, Mem.no, Mem.no, Mem.no, rfl, (Sep.sel hS [0, 9, 10, 11, 12, 13, 14] (by decide)), (Own.nil Kd.u8 5 Mem.no), (Own.nil (Kd.int .i64) 3 Mem.no), (Own.nil (Kd.int .i64) 3 Mem.no), (Own.nil Kd.u8 5 Mem.no), (Own.nil Kd.u8 5 Mem.no), (Own.nil Kd.u8 5 Mem.no)⟩
  ·rw [if_neg hc_47] at H
   refine c_cond_f h rfl (Bool.eq_false_iff.2 hc_47) <| wp_skip <| x_then_n (hKJ_41 _ _ ?_)
   refine wp_seq <| wp_region_lit <| s_load h rfl rfl (hS.load_agg (p := 8) (us := [iV t_10.1.Kind, iV t_10.1.From, iV t_10.1.To, iV t_10.1.View, iV t_10.1.Inst, iV t_10.1.Len, .bool t_10.1.Has, iV t_10.1.Members, iV t_10.1.Source, iV t_10.1.At, iV t_10.1.Total, v_14, iV t_10.1.Hop, iV t_10.1.Seq, v_18, v_22, iV t_10.1.Index, iV t_10.1.Entry.Sess, iV t_10.1.Entry.Seq, iV t_10.1.Entry.Cmd.Kind, iV t_10.1.Entry.Cmd.Who, v_26, v_30, v_34]) rfl U29 rfl ti29 rfl rfl) fun a h=>?_
   obtain ⟨w_55, hs', hS'⟩ := hS.store (P := Try.prog) (p := 1) (o := 0) (t := 29) (v := .agg ([iV t_10.1.Kind, iV t_10.1.From, iV t_10.1.To, iV t_10.1.View, iV t_10.1.Inst, iV t_10.1.Len, .bool t_10.1.Has, iV t_10.1.Members, iV t_10.1.Source, iV t_10.1.At, iV t_10.1.Total, v_14, iV t_10.1.Hop, iV t_10.1.Seq, v_18, v_22, iV t_10.1.Index, iV t_10.1.Entry.Sess, iV t_10.1.Entry.Seq, iV t_10.1.Entry.Cmd.Kind, iV t_10.1.Entry.Cmd.Who, v_26, v_30, v_34] : List Value).toArray) (vs := [iV t_10.1.Kind, iV t_10.1.From, iV t_10.1.To, iV t_10.1.View, iV t_10.1.Inst, iV t_10.1.Len, .bool t_10.1.Has, iV t_10.1.Members, iV t_10.1.Source, iV t_10.1.At, iV t_10.1.Total, v_14, iV t_10.1.Hop, iV t_10.1.Seq, v_18, v_22, iV t_10.1.Index, iV t_10.1.Entry.Sess, iV t_10.1.Entry.Seq, iV t_10.1.Entry.Cmd.Kind, iV t_10.1.Entry.Cmd.Who, v_26, v_30, v_34]) rfl ti29 rfl rfl rfl (by intro u hu; simp only [List.mem_cons, List.not_mem_nil, or_false] at hu; rcases hu with rfl | rfl | rfl | rfl | rfl | rfl | rfl | rfl | rfl | rfl | rfl | rfl | rfl | rfl | rfl | rfl | rfl | rfl | rfl | rfl | rfl | rfl | rfl | rfl <;> first | rfl | exact hr_15.one | exact hr_19.one | exact hr_23.one | exact hr_27.one | exact hr_31.one | exact hr_35.one)
   refine s_store h rfl rfl hs' ?_
   replace hS : Sep w0 w_55 [_, Mem.one g_2 (.cells ([iV t_10.1.Kind, iV t_10.1.From, iV t_10.1.To, iV t_10.1.View, iV t_10.1.Inst, iV t_10.1.Len, .bool t_10.1.Has, iV t_10.1.Members, iV t_10.1.Source, iV t_10.1.At, iV t_10.1.Total, v_14, iV t_10.1.Hop, iV t_10.1.Seq, v_18, v_22, iV t_10.1.Index, iV t_10.1.Entry.Sess, iV t_10.1.Entry.Seq, iV t_10.1.Entry.Cmd.Kind, iV t_10.1.Entry.Cmd.Who, v_26, v_30, v_34] : List Value).toArray 29 (0, 0)), _, _, _, _, _, _, _] Z := hS'
   clear hs' hS'
   refine s_assign h rfl rfl fun a h=>wpList_nil ?_
   replace h : Fr 26 a [(2, _), (3, .bool true)] := h.keep [2, 3]
   refine x_then_n <| wp_ret ?_
   obtain rfl := Option.some.inj H
   exact f_ret h (rs := [.cell 2 29, .tmp 3]) rfl (.cell rfl (hS.load_agg (p := 1) (us := [iV t_10.1.Kind, iV t_10.1.From, iV t_10.1.To, iV t_10.1.View, iV t_10.1.Inst, iV t_10.1.Len, .bool t_10.1.Has, iV t_10.1.Members, iV t_10.1.Source, iV t_10.1.At, iV t_10.1.Total, v_14, iV t_10.1.Hop, iV t_10.1.Seq, v_18, v_22, iV t_10.1.Index, iV t_10.1.Entry.Sess, iV t_10.1.Entry.Seq, iV t_10.1.Entry.Cmd.Kind, iV t_10.1.Entry.Cmd.Who, v_26, v_30, v_34]) rfl U29 rfl ti29 rfl rfl) (.tmp rfl .nil)) ⟨_, rfl, v_14, v_18, v_22, v_26, v_30, v_34, N_43, M_16, M_20, M_24, M_28, M_32, M_36, rfl, (Sep.sel hS [0, 2, 3, 4, 5, 6, 7] (by decide)), hr_15, hr_19, hr_23, hr_27, hr_31, hr_35⟩
 clear hKJ_42
 refine wp_region_lit <| s_move h rfl rfl fun a h=>s_not h rfl rfl fun a h=>s_move h rfl rfl fun a h=>?_
 by_cases hc_56 : t_3.2 = true
 ·rw [if_pos hc_56] at H
  refine s_on h rfl rfl (nf hc_56) <| s_move h rfl rfl fun a h=>s_on h rfl rfl (nf hc_56) <| s_not h rfl rfl fun a h=>s_pick_f h rfl rfl (nf hc_56) rfl fun a h=>wpList_nil ?_
  replace h : Fr 26 a [(2, .pointer (some ⟨g_2, 0, none⟩)), (3, .bool false), (6, .pointer (some ⟨g_39, 0, none⟩)), (23, .bool (!t_10.2))] := h.keep [2, 3, 6, 23]
  replace hS : Sep w0 w_40 [_, _, _, _, _, _, _, _, _] Z := hS
  replace h : Fr 26 a [(2, _), (3, _), (6, _), (23, _)] := h.keep [2, 3, 6, 23]
  exact x_then_n (hJ_j_46 (!t_10.2) H _ _ ⟨N_13, h, (Sep.sel hS [0, 1, 2, 3, 4, 5, 6, 7, 8] (by decide)), (Mem.le.refl _)⟩)
 ·rw [if_neg hc_56] at H
  refine s_off h rfl rfl rfl (nt (Bool.eq_false_iff.2 hc_56)) fun a h=>s_off h rfl rfl rfl (nt (Bool.eq_false_iff.2 hc_56)) fun a h=>s_pick_t h rfl rfl (nt (Bool.eq_false_iff.2 hc_56)) rfl fun a h=>wpList_nil ?_
  replace h : Fr 26 a [(2, .pointer (some ⟨g_2, 0, none⟩)), (3, .bool false), (6, .pointer (some ⟨g_39, 0, none⟩)), (23, .bool true)] := h.keep [2, 3, 6, 23]
  replace hS : Sep w0 w_40 [_, _, _, _, _, _, _, _, _] Z := hS
  replace h : Fr 26 a [(2, _), (3, _), (6, _), (23, _)] := h.keep [2, 3, 6, 23]
  exact x_then_n (hJ_j_46 true H _ _ ⟨N_13, h, (Sep.sel hS [0, 1, 2, 3, 4, 5, 6, 7, 8] (by decide)), (Mem.le.refl _)⟩)

set_option maxHeartbeats 4000000 in
set_option maxRecDepth 20000 in
theorem hocketref1_Next.calls (K : Nat) (x0 : UInt32) (x1 : UInt8) (r : UInt32) (w0 w : World) (Z A : Mem) (hA : A.le Z) (hS : Sep w0 w [] Z)
    (H : hocketref1_Next.f K x0 x1 = some r) :
    Calls Try.prog 73 [.int .u32 (x0.toNat : Int), .int .u8 (x1.toNat : Int)].toArray w (Ret fun v w' => ∃ (N : Mem), v = .int .u32 (r.toNat : Int) ∧ Sep w0 w' [N] Z) := by
 unfold hocketref1_Next.f at H
 refine f_enter _ Try.func73 rfl Try.ntmps73 rfl fun a h=>?_
 replace h : Fr 24 a [(0, .int .u32 (x0.toNat : Int)), (1, .int .u8 (x1.toNat : Int))] := h
 replace hS := hS.start
 replace hS : Sep w0 w [_] Z := hS
 refine wp_seq <| wp_region_lit <| s_assign h rfl rfl fun a h=>wpList_nil <| x_then_n <| wp_seq <| wp_region_lit <| s_move h rfl rfl fun a h=>s_move h rfl rfl fun a h=>s_conv (((toU32 (x1.toNat : Int)).toNat : Int)) h rfl U5 U75 rfl (wrap_u32 _).symm fun a h=>s_bits (i := (x0.toNat : Int)) (j := ((toU32 (x1.toNat : Int)).toNat : Int)) (r := ((x0 ^^^ (toU32 (x1.toNat : Int))).toNat : Int)) h rfl rfl rfl (.inr (.inr (.inl ⟨rfl, (bxor32 _ _).symm⟩))) fun a h=>s_assign h rfl rfl fun a h=>?_
 refine wpList_nil <| x_then_n <| c_seq fun KJ_1 hKJ_1 => wp_seq <| wp_region_lit <| s_assign h rfl rfl fun a h=>wpList_nil <| x_then_n ?_
 have hJ_j_5 : ∀ (x_3 : UInt32), hocketref1_Next.J1 K x_3 = some r → ∀ (a : Act) (w_4 : World), (∃ (N_2 : Mem), Fr 24 a [(0, .int .u32 (x_3.toNat : Int)), (4, .int .u32 ((0 : UInt32).toNat : Int))] ∧ Sep w0 w_4 [N_2] Z ∧ Mem.no.le N_2) → KJ_1 a w_4 := by
  clear H h hS a
  rintro x_3 H a w_4 ⟨N_2, h, hS, le_2⟩
  unfold hocketref1_Next.J1 at H
  refine hKJ_1 _ _ <| wp_seq <| wp_region_lit <| s_move h rfl rfl fun a h=>s_assign h rfl rfl fun a h=>wpList_nil ?_
  replace h : Fr 24 a [(4, .int .u32 (x_3.toNat : Int))] := h.keep [4]
  refine x_then_n <| wp_ret ?_
  obtain rfl := Option.some.inj H
  exact f_ret h (rs := [.tmp 4]) rfl (.tmp rfl .nil) ⟨_, rfl, N_2, rfl, (Sep.sel hS [0] (by decide))⟩
 clear hKJ_1
 replace hS : Sep w0 w [_] Z := hS
 replace h : Fr 24 a [(0, .int .u32 ((x0 ^^^ (toU32 (x1.toNat : Int))).toNat : Int)), (4, .int .u32 ((0 : UInt32).toNat : Int)), (5, iV 0)] := h.keep [0, 4, 5]
 refine c_block <| c_loop (fun k_9 a w_9 => ∃ (x_7 : UInt32) (x_8 : Int) (N_6 : Mem), hocketref1_Next.L1 K (fun v => hocketref1_Next.J1 K v) k_9 (x_7, x_8) = some r ∧ Fr 24 a [(0, .int .u32 (x_7.toNat : Int)), (4, .int .u32 ((0 : UInt32).toNat : Int)), (5, iV x_8)] ∧ Sep w0 w_9 [N_6] Z ∧ Mem.no.le N_6) K ⟨x0 ^^^ (toU32 (x1.toNat : Int)), 0, Mem.no, H, h, (Sep.sel hS [0] (by decide)), (Mem.le.refl _)⟩ (fun a w h => by obtain ⟨_, _, _, H, _⟩ := h; cases (show (none : Option (UInt32)) = some r from H)) ?_
 clear h hS a H
 rintro k_9 a w_9 KL_9 hKL_9 ⟨x_7, x_8, N_6, H, h, hS, le_6⟩
 replace H : hocketref1_Next.B1 K (fun v => hocketref1_Next.J1 K v) (hocketref1_Next.L1 K (fun v => hocketref1_Next.J1 K v) k_9) x_7 x_8 = some r := H
 unfold hocketref1_Next.B1 at H
 refine c_seq fun KJ_11 hKJ_11 => wp_seq <| wp_region_lit <| s_move h rfl rfl fun a h=>s_cmp (b := decide (x_8 < 8)) h rfl rfl rfl (.inr (.inr (.inl ⟨rfl, rfl⟩))) fun a h=>wpList_nil ?_
 replace h : Fr 24 a [(0, _), (4, _), (5, _), (12, .bool (decide (x_8 < 8)))] := h.keep [0, 4, 5, 12]
 refine x_then_n ?_
 by_cases hc_12 : x_8 < 8
 ·rw [if_pos hc_12] at H
  refine c_cond_t h rfl (decide_eq_true hc_12) <| wp_skip <| x_then_n (hKJ_11 _ _ ?_)
  refine c_seq fun KJ_13 hKJ_13 => c_block <| wp_seq <| wp_region_lit <| s_move h rfl rfl fun a h=>s_bits (i := (x_7.toNat : Int)) (j := ((1 : UInt32).toNat : Int)) (r := ((x_7 &&& (1 : UInt32)).toNat : Int)) h rfl rfl rfl (.inl ⟨rfl, (band32 _ _).symm⟩) fun a h=>s_assign h rfl rfl fun a h=>wpList_nil <| x_then_n <| wp_seq <| wp_region_lit <| s_move h rfl rfl fun a h=>?_
  refine s_shift (r := ((toU32 (shr .u32 (x_7.toNat : Int) 1)).toNat : Int)) h rfl rfl rfl (by decide) (.inr ⟨rfl, (shr32 _ _).symm⟩) fun a h=>s_assign h rfl rfl fun a h=>wpList_nil <| x_then_n <| wp_seq <| wp_region_lit <| s_move h rfl rfl fun a h=>s_cmp (b := (((x_7 &&& (1 : UInt32)).toNat : Int) == ((1 : UInt32).toNat : Int))) h rfl rfl rfl (.inl ⟨rfl, rfl⟩) fun a h=>wpList_nil <| x_then_n ?_
  by_cases hc_14 : ((x_7 &&& (1 : UInt32)).toNat : Int) = ((1 : UInt32).toNat : Int)
  ·rw [if_pos hc_14] at H
   refine c_cond_t h rfl (beq_iff_eq.2 hc_14) <| wp_region_lit <| s_move h rfl rfl fun a h=>s_bits (i := ((toU32 (shr .u32 (x_7.toNat : Int) 1)).toNat : Int)) (j := ((3988292384 : UInt32).toNat : Int)) (r := (((toU32 (shr .u32 (x_7.toNat : Int) 1)) ^^^ (3988292384 : UInt32)).toNat : Int)) h rfl rfl rfl (.inr (.inr (.inl ⟨rfl, (bxor32 _ _).symm⟩))) fun a h=>s_assign h rfl rfl fun a h=>wpList_nil ?_
   replace h : Fr 24 a [(0, .int .u32 (((toU32 (shr .u32 (x_7.toNat : Int) 1)) ^^^ (3988292384 : UInt32)).toNat : Int)), (4, _), (5, _)] := h.keep [0, 4, 5]
   refine x_block_n <| x_then_n (hKJ_13 _ _ ?_)
   refine wp_region_lit <| s_move h rfl rfl fun a h=>s_arith (r := w64 (x_8 + 1)) h rfl rfl rfl (.inl ⟨rfl, rfl⟩) fun a h=>s_assign h rfl rfl fun a h=>wpList_nil <| x_then_n (hKL_9 _ _ ?_)
   replace hS : Sep w0 w_9 [_] Z := hS
   replace h : Fr 24 a [(0, _), (4, _), (5, iV (w64 (x_8 + 1)))] := h.keep [0, 4, 5]
   exact ⟨(toU32 (shr .u32 (x_7.toNat : Int) 1)) ^^^ (3988292384 : UInt32), w64 (x_8 + 1), N_6, H, h, (Sep.sel hS [0] (by decide)), le_6⟩
  ·rw [if_neg hc_14] at H
   refine c_cond_f h rfl (beq_eq_false_iff_ne.2 hc_14) <| wp_skip <| x_block_n <| x_then_n (hKJ_13 _ _ ?_)
   refine wp_region_lit <| s_move h rfl rfl fun a h=>s_arith (r := w64 (x_8 + 1)) h rfl rfl rfl (.inl ⟨rfl, rfl⟩) fun a h=>s_assign h rfl rfl fun a h=>wpList_nil ?_
   replace h : Fr 24 a [(0, .int .u32 ((toU32 (shr .u32 (x_7.toNat : Int) 1)).toNat : Int)), (4, _), (5, iV (w64 (x_8 + 1)))] := h.keep [0, 4, 5]
   refine x_then_n (hKL_9 _ _ ?_)
   replace hS : Sep w0 w_9 [_] Z := hS
   replace h : Fr 24 a [(0, _), (4, _), (5, _)] := h.keep [0, 4, 5]
   exact ⟨toU32 (shr .u32 (x_7.toNat : Int) 1), w64 (x_8 + 1), N_6, H, h, (Sep.sel hS [0] (by decide)), le_6⟩
 ·rw [if_neg hc_12] at H
  refine c_cond_f h rfl (decide_eq_false hc_12) <| wp_exit (x_then_x (x_then_x (x_block_t ?_)))
  replace hS : Sep w0 w_9 [_] Z := hS
  replace h : Fr 24 a [(0, _), (4, _)] := h.keep [0, 4]
  exact x_then_n (hJ_j_5 x_7 H _ _ ⟨N_6, h, (Sep.sel hS [0] (by decide)), le_6⟩)

set_option maxHeartbeats 4000000 in
set_option maxRecDepth 20000 in
theorem hocketref1_Sum.calls (K : Nat) (x0 : List UInt8) (p0_0 : Value) (r : UInt32) (w0 w : World) (Z A : Mem) (hA : A.le Z) (hS : Sep w0 w [] Z) (hp0_0 : Rd Kd.u8 A p0_0 x0)
    (H : hocketref1_Sum.f K x0 = some r) :
    Calls Try.prog 62 [p0_0].toArray w (Ret fun v w' => ∃ (N : Mem), v = .int .u32 (r.toNat : Int) ∧ Sep w0 w' [N] Z) := by
 unfold hocketref1_Sum.f at H
 refine f_enter _ Try.func62 rfl Try.ntmps62 rfl fun a h=>?_
 replace h : Fr 19 a [(0, p0_0)] := h
 replace hS := hS.start
 replace hS : Sep w0 w [_] Z := hS
 refine wp_seq <| wp_region_lit <| s_assign h rfl rfl fun a h=>wpList_nil <| x_then_n <| wp_seq <| wp_region_lit <| s_assign h rfl rfl fun a h=>wpList_nil <| x_then_n <| c_seq fun KJ_1 hKJ_1 => wp_seq <| wp_region_lit ?_
 refine s_assign h rfl rfl fun a h=>wpList_nil <| x_then_n ?_
 have hJ_j_5 : ∀ (x_3 : UInt32), hocketref1_Sum.J1 K x_3 = some r → ∀ (a : Act) (w_4 : World), (∃ (N_2 : Mem), Fr 19 a [(2, .int .u32 ((0 : UInt32).toNat : Int)), (3, .int .u32 (x_3.toNat : Int))] ∧ Sep w0 w_4 [N_2] Z ∧ Mem.no.le N_2) → KJ_1 a w_4 := by
  clear H h hS a
  rintro x_3 H a w_4 ⟨N_2, h, hS, le_2⟩
  unfold hocketref1_Sum.J1 at H
  refine hKJ_1 _ _ <| wp_seq <| wp_region_lit <| s_move h rfl rfl fun a h=>s_bits (i := (x_3.toNat : Int)) (j := ((4294967295 : UInt32).toNat : Int)) (r := ((x_3 ^^^ (4294967295 : UInt32)).toNat : Int)) h rfl rfl rfl (.inr (.inr (.inl ⟨rfl, (bxor32 _ _).symm⟩))) fun a h=>s_assign h rfl rfl fun a h=>wpList_nil ?_
  replace h : Fr 19 a [(2, .int .u32 ((x_3 ^^^ (4294967295 : UInt32)).toNat : Int))] := h.keep [2]
  refine x_then_n <| wp_ret ?_
  obtain rfl := Option.some.inj H
  exact f_ret h (rs := [.tmp 2]) rfl (.tmp rfl .nil) ⟨_, rfl, N_2, rfl, (Sep.sel hS [0] (by decide))⟩
 clear hKJ_1
 replace hS : Sep w0 w [_] Z := hS
 replace h : Fr 19 a [(0, _), (2, .int .u32 ((0 : UInt32).toNat : Int)), (3, .int .u32 ((4294967295 : UInt32).toNat : Int)), (4, iV 0)] := h.keep [0, 2, 3, 4]
 refine c_block <| c_loop (fun k_9 a w_9 => ∃ (x_7 : UInt32) (x_8 : Int) (N_6 : Mem), hocketref1_Sum.L1 K x0 (fun v => hocketref1_Sum.J1 K v) k_9 (x_7, x_8) = some r ∧ Fr 19 a [(0, p0_0), (2, .int .u32 ((0 : UInt32).toNat : Int)), (3, .int .u32 (x_7.toNat : Int)), (4, iV x_8)] ∧ Sep w0 w_9 [N_6] Z ∧ Mem.no.le N_6) K ⟨(4294967295 : UInt32), 0, Mem.no, H, h, (Sep.sel hS [0] (by decide)), (Mem.le.refl _)⟩ (fun a w h => by obtain ⟨_, _, _, H, _⟩ := h; cases (show (none : Option (UInt32)) = some r from H)) ?_
 clear h hS a H
 rintro k_9 a w_9 KL_9 hKL_9 ⟨x_7, x_8, N_6, H, h, hS, le_6⟩
 replace H : hocketref1_Sum.B1 K x0 (fun v => hocketref1_Sum.J1 K v) (hocketref1_Sum.L1 K x0 (fun v => hocketref1_Sum.J1 K v) k_9) x_7 x_8 = some r := H
 unfold hocketref1_Sum.B1 at H
 refine c_seq fun KJ_11 hKJ_11 => wp_seq <| wp_region_lit <| s_move h rfl rfl fun a h=>s_move h rfl rfl fun a h=>s_len h rfl U23 rfl hp0_0 fun a h=>s_cmp (b := decide (x_8 < (x0.length : Int))) h rfl rfl rfl (.inr (.inr (.inl ⟨rfl, rfl⟩))) fun a h=>wpList_nil ?_
 replace h : Fr 19 a [(0, _), (2, _), (3, _), (4, _), (8, .bool (decide (x_8 < (x0.length : Int))))] := h.keep [0, 2, 3, 4, 8]
 refine x_then_n ?_
 by_cases hc_12 : x_8 < (x0.length : Int)
 ·rw [if_pos hc_12] at H
  refine c_cond_t h rfl (decide_eq_true hc_12) <| wp_skip <| x_then_n (hKJ_11 _ _ ?_)
  refine wp_seq <| c_block <| wp_region_lit <| s_move h rfl rfl fun a h=>s_move h rfl rfl fun a h=>s_move h rfl rfl fun a h=>?_
  obtain ⟨t_13, et_13, H⟩ := Option.bind_eq_some_iff.1 H
  refine v_index h rfl U23 ti5 rfl rfl rfl hp0_0 (hA.trans hS.old) et_13 fun ad_14 cs_15 hk_16 hc_17 => ?_
  obtain rfl := (show cs_15 = [.int .u8 (t_13.toNat : Int)] from hk_16)
  intro a h
  refine s_load h rfl rfl (el_one (o := 0) hc_17 U5 rfl rfl) fun a h=>?_
  obtain ⟨t_18, et_18, H⟩ := Option.bind_eq_some_iff.1 H
  refine s_call h rfl Try.call73 rfl (hocketref1_Next.calls K x_7 t_13 t_18 w0 _ _ _ (Mem.le.refl _) (hS.enter [] (by decide))  et_18) ?_
  rintro _ w_19 ⟨N_20, rfl, hS'⟩
  intro a h
  obtain ⟨N_21, hS'', le_21, ln_21⟩ := hS.call [] (by decide) rfl (l' := []) (ow := []) rfl hS'
  replace hS : Sep w0 w_19 [N_21] Z := hS''
  clear hS' hS''
  refine s_assign h rfl rfl fun a h=>wpList_nil <| x_block_n <| x_then_n <| wp_region_lit <| s_move h rfl rfl fun a h=>s_arith (r := w64 (x_8 + 1)) h rfl rfl rfl (.inl ⟨rfl, rfl⟩) fun a h=>s_assign h rfl rfl fun a h=>wpList_nil <| x_then_n (hKL_9 _ _ ?_)
  replace hS : Sep w0 w_19 [_] Z := hS
  replace h : Fr 19 a [(0, _), (2, _), (3, .int .u32 (t_18.toNat : Int)), (4, iV (w64 (x_8 + 1)))] := h.keep [0, 2, 3, 4]
  exact ⟨t_18, w64 (x_8 + 1), N_21, H, h, (Sep.sel hS [0] (by decide)), (le_6.trans le_21)⟩
 ·rw [if_neg hc_12] at H
  refine c_cond_f h rfl (decide_eq_false hc_12) <| wp_exit (x_then_x (x_then_x (x_block_t ?_)))
  replace hS : Sep w0 w_9 [_] Z := hS
  replace h : Fr 19 a [(2, _), (3, _)] := h.keep [2, 3]
  exact x_then_n (hJ_j_5 x_7 H _ _ ⟨N_6, h, (Sep.sel hS [0] (by decide)), le_6⟩)

set_option maxHeartbeats 4000000 in
set_option maxRecDepth 20000 in
theorem hocketref1_Four.calls (K : Nat) (x0 : List UInt8) (p0_0 : Value) (r : (List UInt8)) (w0 w : World) (Z A : Mem) (hA : A.le Z) (hS : Sep w0 w [] Z) (hp0_0 : Rd Kd.u8 A p0_0 x0)
    (H : hocketref1_Four.f K x0 = some r) :
    Calls Try.prog 42 [p0_0].toArray w (Ret fun v w' => ∃ (u0 : Value) (N : Mem) (M0 : Mem), v = u0 ∧ Sep w0 w' [N, M0] Z ∧ Own Kd.u8 5 M0 Mem.no u0 r) := by
 unfold hocketref1_Four.f at H
 refine f_enter _ Try.func42 rfl Try.ntmps42 rfl fun a h=>?_
 replace h : Fr 20 a [(0, p0_0)] := h
 replace hS := hS.start
 replace hS : Sep w0 w [_] Z := hS
 refine wp_seq <| wp_region_lit <| s_assign h rfl rfl fun a h=>wpList_nil <| x_then_n <| wp_seq <| wp_region_lit <| s_move h rfl rfl fun a h=>?_
 obtain ⟨t_1, et_1, H⟩ := Option.bind_eq_some_iff.1 H
 refine s_call h rfl Try.call62 rfl (hocketref1_Sum.calls K x0 _ t_1 w0 _ _ _ (Mem.le.refl _) (hS.enter [] (by decide)) (hp0_0.mono (hA.trans (hS.le_zed []))) et_1) ?_
 rintro _ w_2 ⟨N_3, rfl, hS'⟩
 intro a h
 obtain ⟨N_4, hS'', le_4, ln_4⟩ := hS.call [] (by decide) rfl (l' := []) (ow := []) rfl hS'
 replace hS : Sep w0 w_2 [N_4] Z := hS''
 clear hS' hS''
 refine s_assign h rfl rfl fun a h=>wpList_nil <| x_then_n <| wp_seq <| wp_region_lit <| s_move h rfl rfl fun a h=>s_conv (((toU8 (t_1.toNat : Int)).toNat : Int)) h rfl U75 U5 rfl (wrap_u8 _).symm fun a h=>s_move h rfl rfl fun a h=>s_shift (r := ((toU32 (shr .u32 (t_1.toNat : Int) 8)).toNat : Int)) h rfl rfl rfl (by decide) (.inr ⟨rfl, (shr32 _ _).symm⟩) fun a h=>s_conv (((toU8 ((toU32 (shr .u32 (t_1.toNat : Int) 8)).toNat : Int)).toNat : Int)) h rfl U75 U5 rfl (wrap_u8 _).symm fun a h=>s_move h rfl rfl fun a h=>s_shift (r := ((toU32 (shr .u32 (t_1.toNat : Int) 16)).toNat : Int)) h rfl rfl rfl (by decide) (.inr ⟨rfl, (shr32 _ _).symm⟩) fun a h=>?_
 refine s_conv (((toU8 ((toU32 (shr .u32 (t_1.toNat : Int) 16)).toNat : Int)).toNat : Int)) h rfl U75 U5 rfl (wrap_u8 _).symm fun a h=>s_move h rfl rfl fun a h=>s_shift (r := ((toU32 (shr .u32 (t_1.toNat : Int) 24)).toNat : Int)) h rfl rfl rfl (by decide) (.inr ⟨rfl, (shr32 _ _).symm⟩) fun a h=>s_conv (((toU8 ((toU32 (shr .u32 (t_1.toNat : Int) 24)).toNat : Int)).toNat : Int)) h rfl U75 U5 rfl (wrap_u8 _).symm fun a h=>?_
 have hq_9 : Reps Kd.u8 Mem.no ([toU8 (t_1.toNat : Int), toU8 ((toU32 (shr .u32 (t_1.toNat : Int) 8)).toNat : Int), toU8 ((toU32 (shr .u32 (t_1.toNat : Int) 16)).toNat : Int), toU8 ((toU32 (shr .u32 (t_1.toNat : Int) 24)).toNat : Int)] : List UInt8) _ := ((Reps.one (d := Kd.u8) (x := toU8 (t_1.toNat : Int)) (show Kd.u8.K _ _ [.int .u8 ((toU8 (t_1.toNat : Int)).toNat : Int)] from rfl)).append ((Reps.one (d := Kd.u8) (x := toU8 ((toU32 (shr .u32 (t_1.toNat : Int) 8)).toNat : Int)) (show Kd.u8.K _ _ [.int .u8 ((toU8 ((toU32 (shr .u32 (t_1.toNat : Int) 8)).toNat : Int)).toNat : Int)] from rfl)).append ((Reps.one (d := Kd.u8) (x := toU8 ((toU32 (shr .u32 (t_1.toNat : Int) 16)).toNat : Int)) (show Kd.u8.K _ _ [.int .u8 ((toU8 ((toU32 (shr .u32 (t_1.toNat : Int) 16)).toNat : Int)).toNat : Int)] from rfl)).append ((Reps.one (d := Kd.u8) (x := toU8 ((toU32 (shr .u32 (t_1.toNat : Int) 24)).toNat : Int)) (show Kd.u8.K _ _ [.int .u8 ((toU8 ((toU32 (shr .u32 (t_1.toNat : Int) 24)).toNat : Int)).toNat : Int)] from rfl)).append (Reps.nil Kd.u8 _)))))
 refine s_buildSlice h rfl U23 ti5 rfl rfl rfl (.cons rfl (.cons rfl (.cons rfl (.cons rfl .nil)))) rfl rfl rfl hS hq_9 rfl fun w_5 v_6 M_7 hS' ho_8 a h => ?_
 replace hS : Sep w0 w_5 [_, M_7] Z := hS'
 clear hS' hq_9
 refine s_move h rfl rfl fun a h=>?_
 obtain ⟨t_11, et_11, H⟩ := Option.bind_eq_some_iff.1 H
 refine s_append (J := Mem.no) (I' := Mem.no) (p := 1) 140737488355328 h rfl rfl rfl U23 ti5 rfl rfl rfl rfl hS rfl ho_8 (Src.flat flat_u8 (hp0_0.src (hA.trans hS.old))) (Mem.le.refl _) (Mem.le.refl _) et_11 fun w_12 v_13 M_14 hS' ho_15 a h => ?_
 replace hS : Sep w0 w_12 [_, M_14] Z := hS'
 clear hS'
 refine s_assign h rfl rfl fun a h=>wpList_nil <| x_then_n <| wp_ret ?_
 obtain rfl := Option.some.inj H
 exact f_ret h (rs := [.tmp 2]) rfl (.tmp rfl .nil) ⟨_, rfl, v_13, N_4, M_14, rfl, (Sep.sel hS [0, 1] (by decide)), ho_15⟩

set_option maxHeartbeats 4000000 in
set_option maxRecDepth 20000 in
theorem hocketref11_Wrap.calls (K : Nat) (x0 : api_Msg) (p0_0 : Value) (p0_1 : Value) (p0_2 : Value) (p0_3 : Value) (p0_4 : Value) (p0_5 : Value) (r : (List UInt8)) (w0 w : World) (Z A : Mem) (hA : A.le Z) (hS : Sep w0 w [] Z) (hp0_0 : Rd Kd.u8 A p0_0 x0.Data) (hp0_1 : Rd (Kd.int .i64) A p0_1 x0.Have) (hp0_2 : Rd (Kd.int .i64) A p0_2 x0.Need) (hp0_3 : Rd Kd.u8 A p0_3 x0.Entry.Cmd.Key) (hp0_4 : Rd Kd.u8 A p0_4 x0.Entry.Cmd.Val) (hp0_5 : Rd Kd.u8 A p0_5 x0.Entry.Cmd.Old)
    (H : hocketref11_Wrap.f K x0 = some r) :
    Calls Try.prog 22 [.agg ([iV x0.Kind, iV x0.From, iV x0.To, iV x0.View, iV x0.Inst, iV x0.Len, .bool x0.Has, iV x0.Members, iV x0.Source, iV x0.At, iV x0.Total, p0_0, iV x0.Hop, iV x0.Seq, p0_1, p0_2, iV x0.Index, iV x0.Entry.Sess, iV x0.Entry.Seq, iV x0.Entry.Cmd.Kind, iV x0.Entry.Cmd.Who, p0_3, p0_4, p0_5] : List Value).toArray].toArray w (Ret fun v w' => ∃ (u0 : Value) (N : Mem) (M0 : Mem), v = u0 ∧ Sep w0 w' [N, M0] Z ∧ Own Kd.u8 5 M0 Mem.no u0 r) := by
 unfold hocketref11_Wrap.f at H
 refine f_enter _ Try.func22 rfl Try.ntmps22 rfl fun a h=>?_
 replace h : Fr 9 a [(0, .agg ([iV x0.Kind, iV x0.From, iV x0.To, iV x0.View, iV x0.Inst, iV x0.Len, .bool x0.Has, iV x0.Members, iV x0.Source, iV x0.At, iV x0.Total, p0_0, iV x0.Hop, iV x0.Seq, p0_1, p0_2, iV x0.Index, iV x0.Entry.Sess, iV x0.Entry.Seq, iV x0.Entry.Cmd.Kind, iV x0.Entry.Cmd.Who, p0_3, p0_4, p0_5] : List Value).toArray)] := h
 replace hS := hS.start
 replace hS : Sep w0 w [_] Z := hS
 refine wp_seq <| wp_region_lit <| v_box (vs := [iV x0.Kind, iV x0.From, iV x0.To, iV x0.View, iV x0.Inst, iV x0.Len, .bool x0.Has, iV x0.Members, iV x0.Source, iV x0.At, iV x0.Total, p0_0, iV x0.Hop, iV x0.Seq, p0_1, p0_2, iV x0.Index, iV x0.Entry.Sess, iV x0.Entry.Seq, iV x0.Entry.Cmd.Kind, iV x0.Entry.Cmd.Who, p0_3, p0_4, p0_5]) h rfl rfl rfl hS fun w_1 g_2 hS' a h => ?_
 replace hS : Sep w0 w_1 [_, Mem.one g_2 (.cells ([iV x0.Kind, iV x0.From, iV x0.To, iV x0.View, iV x0.Inst, iV x0.Len, .bool x0.Has, iV x0.Members, iV x0.Source, iV x0.At, iV x0.Total, p0_0, iV x0.Hop, iV x0.Seq, p0_1, p0_2, iV x0.Index, iV x0.Entry.Sess, iV x0.Entry.Seq, iV x0.Entry.Cmd.Kind, iV x0.Entry.Cmd.Who, p0_3, p0_4, p0_5] : List Value).toArray 29 (0, 0))] Z := hS'
 clear hS'
 refine s_assign h rfl rfl fun a h=>wpList_nil <| x_then_n <| c_seq fun KJ_3 hKJ_3 => wp_seq <| wp_region_lit <| s_load h rfl rfl (hS.load_agg (p := 1) (us := [iV x0.Kind, iV x0.From, iV x0.To, iV x0.View, iV x0.Inst, iV x0.Len, .bool x0.Has, iV x0.Members, iV x0.Source, iV x0.At, iV x0.Total, p0_0, iV x0.Hop, iV x0.Seq, p0_1, p0_2, iV x0.Index, iV x0.Entry.Sess, iV x0.Entry.Seq, iV x0.Entry.Cmd.Kind, iV x0.Entry.Cmd.Who, p0_3, p0_4, p0_5]) rfl U29 rfl ti29 rfl rfl) fun a h=>?_
 obtain ⟨t_4, et_4, H⟩ := Option.bind_eq_some_iff.1 H
 refine s_call h rfl Try.call31 rfl (hocketref11_Ok.calls K x0 _ _ _ _ _ _ t_4 w0 _ _ _ (Mem.le.refl _) (hS.enter [] (by decide)) (hp0_0.mono (hA.trans (hS.le_zed []))) (hp0_1.mono (hA.trans (hS.le_zed []))) (hp0_2.mono (hA.trans (hS.le_zed []))) (hp0_3.mono (hA.trans (hS.le_zed []))) (hp0_4.mono (hA.trans (hS.le_zed []))) (hp0_5.mono (hA.trans (hS.le_zed []))) et_4) ?_
 rintro _ w_5 ⟨N_6, rfl, hS'⟩
 intro a h
 obtain ⟨N_7, hS'', le_7, ln_7⟩ := hS.call [] (by decide) rfl (l' := []) (ow := []) rfl hS'
 replace hS : Sep w0 w_5 [N_7, _] Z := hS''
 clear hS' hS''
 refine s_not h rfl rfl fun a h=>wpList_nil <| x_then_n ?_
 by_cases hc_8 : t_4 = true
 ·rw [if_pos hc_8] at H
  refine c_cond_f h rfl (nf hc_8) <| wp_skip <| x_then_n (hKJ_3 _ _ ?_)
  refine wp_seq <| wp_region_lit <| s_load h rfl rfl (hS.load_agg (p := 1) (us := [iV x0.Kind, iV x0.From, iV x0.To, iV x0.View, iV x0.Inst, iV x0.Len, .bool x0.Has, iV x0.Members, iV x0.Source, iV x0.At, iV x0.Total, p0_0, iV x0.Hop, iV x0.Seq, p0_1, p0_2, iV x0.Index, iV x0.Entry.Sess, iV x0.Entry.Seq, iV x0.Entry.Cmd.Kind, iV x0.Entry.Cmd.Who, p0_3, p0_4, p0_5]) rfl U29 rfl ti29 rfl rfl) fun a h=>?_
  obtain ⟨t_9, et_9, H⟩ := Option.bind_eq_some_iff.1 H
  refine s_call h rfl Try.call16 rfl (hocketref11_Encode.calls K x0 _ _ _ _ _ _ t_9 w0 _ _ A (hA.trans (hS.le_zed [])) (hS.enter [] (by decide)) hp0_0 hp0_1 hp0_2 hp0_3 hp0_4 hp0_5 et_9) ?_
  rintro v_13 w_10 ⟨_, N_11, rfl, hS', hr_14⟩
  intro a h
  obtain ⟨N_12, hS'', le_12, ln_12⟩ := hS.call [] (by decide) rfl (l' := []) (ow := []) rfl hS'
  replace hS : Sep w0 w_10 [N_12, _] Z := hS''
  clear hS' hS''
  have hr_15 : Rd Kd.u8 (A.un N_12) v_13 t_9 := hr_14.mono (Mem.un_left ln_12)
  obtain ⟨t_16, et_16, H⟩ := Option.bind_eq_some_iff.1 H
  refine s_call h rfl Try.call42 rfl (hocketref1_Four.calls K t_9 _ t_16 w0 _ _ _ (Mem.le.refl _) (hS.enter [] (by decide)) (hr_15.mono (Mem.un_le (hA.trans (hS.le_zed [])) ((Mem.le.refl _).trans (hS.new_zed [])))) et_16) ?_
  rintro v_20 w_17 ⟨_, N_18, M_22, rfl, hS', hr_21⟩
  intro a h
  obtain ⟨N_19, hS'', le_19, ln_19⟩ := hS.call [] (by decide) rfl (l' := []) (ow := [M_22]) rfl hS'
  replace hS : Sep w0 w_17 [N_19, _, M_22] Z := hS''
  clear hS' hS''
  refine s_assign h rfl rfl fun a h=>wpList_nil <| x_then_n <| wp_ret ?_
  obtain rfl := Option.some.inj H
  exact f_ret h (rs := [.tmp 2]) rfl (.tmp rfl .nil) ⟨_, rfl, v_20, N_19, M_22, rfl, (Sep.sel hS [0, 2] (by decide)), hr_21⟩
 ·rw [if_neg hc_8] at H
  refine c_cond_t h rfl (nt (Bool.eq_false_iff.2 hc_8)) <| wp_seq <| wp_region_lit <| s_assign h rfl rfl fun a h=>wpList_nil <| x_then_n <| wp_ret (x_then_r ?_)
  have hS' := hS.room
  replace hS : Sep w0 w_5 [_, _, Mem.no] Z := hS'
  clear hS'
  obtain rfl := Option.some.inj H
  exact f_ret h (rs := [.tmp 2]) rfl (.tmp rfl .nil) ⟨_, rfl, nS, N_7, Mem.no, rfl, (Sep.sel hS [0, 2] (by decide)), (Own.nil Kd.u8 5 Mem.no)⟩

set_option maxHeartbeats 4000000 in
set_option maxRecDepth 20000 in
theorem hocketref1_Unfour.calls (K : Nat) (x0 : List UInt8) (p0_0 : Value) (r : (List UInt8) × Bool) (w0 w : World) (Z A : Mem) (hA : A.le Z) (hS : Sep w0 w [] Z) (hp0_0 : Rd Kd.u8 A p0_0 x0)
    (H : hocketref1_Unfour.f K x0 = some r) :
    Calls Try.prog 43 [p0_0].toArray w (Ret fun v w' => ∃ (u0 : Value) (N : Mem) (M0 : Mem), v = .tuple [u0, .bool r.2].toArray ∧ Sep w0 w' [N, M0] Z ∧ Own Kd.u8 5 M0 Mem.no u0 r.1) := by
 unfold hocketref1_Unfour.f at H
 refine f_enter _ Try.func43 rfl Try.ntmps43 rfl fun a h=>?_
 replace h : Fr 48 a [(0, p0_0)] := h
 replace hS := hS.start
 replace hS : Sep w0 w [_] Z := hS
 refine wp_seq <| wp_region_lit <| s_assign h rfl rfl fun a h=>s_assign h rfl rfl fun a h=>wpList_nil <| x_then_n <| c_seq fun KJ_1 hKJ_1 => wp_seq <| wp_region_lit <| s_move h rfl rfl fun a h=>s_len h rfl U23 rfl hp0_0 fun a h=>s_cmp (b := decide ((x0.length : Int) < 4)) h rfl rfl rfl (.inr (.inr (.inl ⟨rfl, rfl⟩))) fun a h=>?_
 refine wpList_nil <| x_then_n ?_
 by_cases hc_2 : (x0.length : Int) < 4
 ·rw [if_pos hc_2] at H
  refine c_cond_t h rfl (decide_eq_true hc_2) <| wp_seq <| wp_region_lit <| s_assign h rfl rfl fun a h=>s_assign h rfl rfl fun a h=>wpList_nil <| x_then_n <| wp_ret (x_then_r ?_)
  have hS' := hS.room
  replace hS : Sep w0 w [_, Mem.no] Z := hS'
  clear hS'
  obtain rfl := Option.some.inj H
  exact f_ret h (rs := [.tmp 2, .tmp 3]) rfl (.tmp rfl (.tmp rfl .nil)) ⟨_, rfl, nS, Mem.no, Mem.no, rfl, (Sep.sel hS [0, 1] (by decide)), (Own.nil Kd.u8 5 Mem.no)⟩
 ·rw [if_neg hc_2] at H
  refine c_cond_f h rfl (decide_eq_false hc_2) <| wp_skip <| x_then_n (hKJ_1 _ _ ?_)
  refine wp_seq <| wp_region_lit <| s_move h rfl rfl fun a h=>?_
  obtain ⟨t_4, et_4, H⟩ := Option.bind_eq_some_iff.1 H
  refine s_slice h rfl U23 ti5 rfl rfl hp0_0 rfl rfl et_4 fun v_5 hr_6 a h => ?_
  obtain ⟨t_7, et_7, H⟩ := Option.bind_eq_some_iff.1 H
  refine s_call h rfl Try.call62 rfl (hocketref1_Sum.calls K t_4 _ t_7 w0 _ _ _ (Mem.le.refl _) (hS.enter [] (by decide)) (hr_6.mono (hA.trans (hS.le_zed []))) et_7) ?_
  rintro _ w_8 ⟨N_9, rfl, hS'⟩
  intro a h
  obtain ⟨N_10, hS'', le_10, ln_10⟩ := hS.call [] (by decide) rfl (l' := []) (ow := []) rfl hS'
  replace hS : Sep w0 w_8 [N_10] Z := hS''
  clear hS' hS''
  refine s_assign h rfl rfl fun a h=>wpList_nil <| x_then_n <| c_seq fun KJ_11 hKJ_11 => c_seq fun KJ_12 hKJ_12 => ?_
  have hJ_j_16 : ∀ (x_14 : Bool), hocketref1_Unfour.J1 K x0 x_14 = some r → ∀ (a : Act) (w_15 : World), (∃ (N_13 : Mem), Fr 48 a [(0, p0_0), (2, nS), (3, .bool false), (43, .bool x_14)] ∧ Sep w0 w_15 [N_13] Z ∧ N_10.le N_13) → KJ_12 a w_15 := by
   clear H h hS a
   rintro x_14 H a w_15 ⟨N_13, h, hS, le_13⟩
   unfold hocketref1_Unfour.J1 at H
   refine hKJ_12 _ _ ?_
   by_cases hc_17 : x_14 = true
   ·rw [if_pos hc_17] at H
    refine c_cond_t h rfl hc_17 <| wp_seq <| wp_region_lit <| s_assign h rfl rfl fun a h=>s_assign h rfl rfl fun a h=>wpList_nil ?_
    replace h : Fr 48 a [(0, _), (2, _), (3, _)] := h.keep [0, 2, 3]
    refine x_then_n <| wp_ret (x_then_r ?_)
    have hS' := hS.room
    replace hS : Sep w0 w_15 [_, Mem.no] Z := hS'
    clear hS'
    obtain rfl := Option.some.inj H
    exact f_ret h (rs := [.tmp 2, .tmp 3]) rfl (.tmp rfl (.tmp rfl .nil)) ⟨_, rfl, nS, N_13, Mem.no, rfl, (Sep.sel hS [0, 1] (by decide)), (Own.nil Kd.u8 5 Mem.no)⟩
   ·rw [if_neg hc_17] at H
    refine c_cond_f h rfl (Bool.eq_false_iff.2 hc_17) <| wp_skip <| x_then_n (hKJ_11 _ _ ?_)
    refine wp_seq <| wp_region_lit ?_
    have hq_23 : Reps Kd.u8 Mem.no ([] : List UInt8) _ := (Reps.nil Kd.u8 _)
    refine s_buildSlice h rfl U23 ti5 rfl rfl rfl .nil rfl rfl rfl hS hq_23 rfl fun w_19 v_20 M_21 hS' ho_22 a h => ?_
    replace hS : Sep w0 w_19 [_, M_21] Z := hS'
    clear hS' hq_23
    refine s_move h rfl rfl fun a h=>?_
    obtain ⟨t_25, et_25, H⟩ := Option.bind_eq_some_iff.1 H
    refine s_slice h rfl U23 ti5 rfl rfl hp0_0 rfl rfl et_25 fun v_26 hr_27 a h => ?_
    obtain ⟨t_28, et_28, H⟩ := Option.bind_eq_some_iff.1 H
    refine s_append (J := Mem.no) (I' := Mem.no) (p := 1) 140737488355328 h rfl rfl rfl U23 ti5 rfl rfl rfl rfl hS rfl ho_22 (Src.flat flat_u8 (hr_27.src (hA.trans hS.old))) (Mem.le.refl _) (Mem.le.refl _) et_28 fun w_29 v_30 M_31 hS' ho_32 a h => ?_
    replace hS : Sep w0 w_29 [_, M_31] Z := hS'
    clear hS'
    refine s_assign h rfl rfl fun a h=>s_assign h rfl rfl fun a h=>wpList_nil ?_
    replace h : Fr 48 a [(2, v_30), (3, .bool true)] := h.keep [2, 3]
    refine x_then_n <| wp_ret ?_
    obtain rfl := Option.some.inj H
    exact f_ret h (rs := [.tmp 2, .tmp 3]) rfl (.tmp rfl (.tmp rfl .nil)) ⟨_, rfl, v_30, N_13, M_31, rfl, (Sep.sel hS [0, 1] (by decide)), ho_32⟩
  clear hKJ_12
  refine wp_region_lit <| s_move h rfl rfl fun a h=>?_
  obtain ⟨t_34, et_34, H⟩ := Option.bind_eq_some_iff.1 H
  refine v_index h rfl U23 ti5 rfl rfl rfl hp0_0 (hA.trans hS.old) et_34 fun ad_35 cs_36 hk_37 hc_38 => ?_
  obtain rfl := (show cs_36 = [.int .u8 (t_34.toNat : Int)] from hk_37)
  intro a h
  refine s_load h rfl rfl (el_one (o := 0) hc_38 U5 rfl rfl) fun a h=>s_move h rfl rfl fun a h=>s_conv (((toU8 (t_7.toNat : Int)).toNat : Int)) h rfl U75 U5 rfl (wrap_u8 _).symm fun a h=>s_cmp (b := ((t_34.toNat : Int) != ((toU8 (t_7.toNat : Int)).toNat : Int))) h rfl rfl rfl (.inr (.inl ⟨rfl, rfl⟩)) fun a h=>s_move h rfl rfl fun a h=>?_
  by_cases hc_39 : (t_34.toNat : Int) = ((toU8 (t_7.toNat : Int)).toNat : Int)
  ·rw [if_pos hc_39] at H
   refine s_on h rfl rfl (bne_eq_false_iff_eq.2 hc_39) <| s_move h rfl rfl fun a h=>s_on h rfl rfl (bne_eq_false_iff_eq.2 hc_39) ?_
   obtain ⟨t_40, et_40, H⟩ := Option.bind_eq_some_iff.1 H
   refine v_index h rfl U23 ti5 rfl rfl rfl hp0_0 (hA.trans hS.old) et_40 fun ad_41 cs_42 hk_43 hc_44 => ?_
   obtain rfl := (show cs_42 = [.int .u8 (t_40.toNat : Int)] from hk_43)
   intro a h
   refine s_on h rfl rfl (bne_eq_false_iff_eq.2 hc_39) <| s_load h rfl rfl (el_one (o := 0) hc_44 U5 rfl rfl) fun a h=>s_on h rfl rfl (bne_eq_false_iff_eq.2 hc_39) <| s_move h rfl rfl fun a h=>s_on h rfl rfl (bne_eq_false_iff_eq.2 hc_39) <| s_shift (r := ((toU32 (shr .u32 (t_7.toNat : Int) 8)).toNat : Int)) h rfl rfl rfl (by decide) (.inr ⟨rfl, (shr32 _ _).symm⟩) fun a h=>s_on h rfl rfl (bne_eq_false_iff_eq.2 hc_39) <| s_conv (((toU8 ((toU32 (shr .u32 (t_7.toNat : Int) 8)).toNat : Int)).toNat : Int)) h rfl U75 U5 rfl (wrap_u8 _).symm fun a h=>s_on h rfl rfl (bne_eq_false_iff_eq.2 hc_39) <| s_cmp (b := ((t_40.toNat : Int) != ((toU8 ((toU32 (shr .u32 (t_7.toNat : Int) 8)).toNat : Int)).toNat : Int))) h rfl rfl rfl (.inr (.inl ⟨rfl, rfl⟩)) fun a h=>s_pick_f h rfl rfl (bne_eq_false_iff_eq.2 hc_39) rfl fun a h=>s_move h rfl rfl fun a h=>?_
   by_cases hc_45 : (t_40.toNat : Int) = ((toU8 ((toU32 (shr .u32 (t_7.toNat : Int) 8)).toNat : Int)).toNat : Int)
   ·rw [if_pos hc_45] at H
    refine s_on h rfl rfl (bne_eq_false_iff_eq.2 hc_45) <| s_move h rfl rfl fun a h=>s_on h rfl rfl (bne_eq_false_iff_eq.2 hc_45) ?_
    obtain ⟨t_46, et_46, H⟩ := Option.bind_eq_some_iff.1 H
    refine v_index h rfl U23 ti5 rfl rfl rfl hp0_0 (hA.trans hS.old) et_46 fun ad_47 cs_48 hk_49 hc_50 => ?_
    obtain rfl := (show cs_48 = [.int .u8 (t_46.toNat : Int)] from hk_49)
    intro a h
    refine s_on h rfl rfl (bne_eq_false_iff_eq.2 hc_45) <| s_load h rfl rfl (el_one (o := 0) hc_50 U5 rfl rfl) fun a h=>s_on h rfl rfl (bne_eq_false_iff_eq.2 hc_45) <| s_move h rfl rfl fun a h=>s_on h rfl rfl (bne_eq_false_iff_eq.2 hc_45) <| s_shift (r := ((toU32 (shr .u32 (t_7.toNat : Int) 16)).toNat : Int)) h rfl rfl rfl (by decide) (.inr ⟨rfl, (shr32 _ _).symm⟩) fun a h=>s_on h rfl rfl (bne_eq_false_iff_eq.2 hc_45) <| s_conv (((toU8 ((toU32 (shr .u32 (t_7.toNat : Int) 16)).toNat : Int)).toNat : Int)) h rfl U75 U5 rfl (wrap_u8 _).symm fun a h=>s_on h rfl rfl (bne_eq_false_iff_eq.2 hc_45) <| s_cmp (b := ((t_46.toNat : Int) != ((toU8 ((toU32 (shr .u32 (t_7.toNat : Int) 16)).toNat : Int)).toNat : Int))) h rfl rfl rfl (.inr (.inl ⟨rfl, rfl⟩)) fun a h=>s_pick_f h rfl rfl (bne_eq_false_iff_eq.2 hc_45) rfl fun a h=>s_move h rfl rfl fun a h=>?_
    by_cases hc_51 : (t_46.toNat : Int) = ((toU8 ((toU32 (shr .u32 (t_7.toNat : Int) 16)).toNat : Int)).toNat : Int)
    ·rw [if_pos hc_51] at H
     refine s_on h rfl rfl (bne_eq_false_iff_eq.2 hc_51) <| s_move h rfl rfl fun a h=>s_on h rfl rfl (bne_eq_false_iff_eq.2 hc_51) ?_
     obtain ⟨t_52, et_52, H⟩ := Option.bind_eq_some_iff.1 H
     refine v_index h rfl U23 ti5 rfl rfl rfl hp0_0 (hA.trans hS.old) et_52 fun ad_53 cs_54 hk_55 hc_56 => ?_
     obtain rfl := (show cs_54 = [.int .u8 (t_52.toNat : Int)] from hk_55)
     intro a h
     refine s_on h rfl rfl (bne_eq_false_iff_eq.2 hc_51) <| s_load h rfl rfl (el_one (o := 0) hc_56 U5 rfl rfl) fun a h=>s_on h rfl rfl (bne_eq_false_iff_eq.2 hc_51) <| s_move h rfl rfl fun a h=>s_on h rfl rfl (bne_eq_false_iff_eq.2 hc_51) <| s_shift (r := ((toU32 (shr .u32 (t_7.toNat : Int) 24)).toNat : Int)) h rfl rfl rfl (by decide) (.inr ⟨rfl, (shr32 _ _).symm⟩) fun a h=>s_on h rfl rfl (bne_eq_false_iff_eq.2 hc_51) <| s_conv (((toU8 ((toU32 (shr .u32 (t_7.toNat : Int) 24)).toNat : Int)).toNat : Int)) h rfl U75 U5 rfl (wrap_u8 _).symm fun a h=>s_on h rfl rfl (bne_eq_false_iff_eq.2 hc_51) <| s_cmp (b := ((t_52.toNat : Int) != ((toU8 ((toU32 (shr .u32 (t_7.toNat : Int) 24)).toNat : Int)).toNat : Int))) h rfl rfl rfl (.inr (.inl ⟨rfl, rfl⟩)) fun a h=>s_pick_f h rfl rfl (bne_eq_false_iff_eq.2 hc_51) rfl fun a h=>wpList_nil ?_
     replace h : Fr 48 a [(0, _), (2, nS), (3, .bool false), (43, .bool ((t_52.toNat : Int) != ((toU8 ((toU32 (shr .u32 (t_7.toNat : Int) 24)).toNat : Int)).toNat : Int)))] := h.keep [0, 2, 3, 43]
     replace hS : Sep w0 w_8 [_] Z := hS
     replace h : Fr 48 a [(0, _), (2, _), (3, _), (43, _)] := h.keep [0, 2, 3, 43]
     exact x_then_n (hJ_j_16 ((t_52.toNat : Int) != ((toU8 ((toU32 (shr .u32 (t_7.toNat : Int) 24)).toNat : Int)).toNat : Int)) H _ _ ⟨N_10, h, (Sep.sel hS [0] (by decide)), (Mem.le.refl _)⟩)
    ·rw [if_neg hc_51] at H
     refine s_off h rfl rfl rfl (bne_iff_ne.2 hc_51) fun a h=>s_off h rfl rfl rfl (bne_iff_ne.2 hc_51) fun a h=>s_off h rfl rfl rfl (bne_iff_ne.2 hc_51) fun a h=>s_off h rfl rfl rfl (bne_iff_ne.2 hc_51) fun a h=>s_off h rfl rfl rfl (bne_iff_ne.2 hc_51) fun a h=>s_off h rfl rfl rfl (bne_iff_ne.2 hc_51) fun a h=>s_off h rfl rfl rfl (bne_iff_ne.2 hc_51) fun a h=>s_pick_t h rfl rfl (bne_iff_ne.2 hc_51) rfl fun a h=>wpList_nil ?_
     replace h : Fr 48 a [(0, _), (2, nS), (3, .bool false), (43, .bool true)] := h.keep [0, 2, 3, 43]
     replace hS : Sep w0 w_8 [_] Z := hS
     replace h : Fr 48 a [(0, _), (2, _), (3, _), (43, _)] := h.keep [0, 2, 3, 43]
     exact x_then_n (hJ_j_16 true H _ _ ⟨N_10, h, (Sep.sel hS [0] (by decide)), (Mem.le.refl _)⟩)
   ·rw [if_neg hc_45] at H
    refine s_off h rfl rfl rfl (bne_iff_ne.2 hc_45) fun a h=>s_off h rfl rfl rfl (bne_iff_ne.2 hc_45) fun a h=>s_off h rfl rfl rfl (bne_iff_ne.2 hc_45) fun a h=>s_off h rfl rfl rfl (bne_iff_ne.2 hc_45) fun a h=>s_off h rfl rfl rfl (bne_iff_ne.2 hc_45) fun a h=>s_off h rfl rfl rfl (bne_iff_ne.2 hc_45) fun a h=>s_off h rfl rfl rfl (bne_iff_ne.2 hc_45) fun a h=>s_pick_t h rfl rfl (bne_iff_ne.2 hc_45) rfl fun a h=>s_move h rfl rfl fun a h=>s_off h rfl rfl rfl rfl fun a h=>s_off h rfl rfl rfl rfl fun a h=>s_off h rfl rfl rfl rfl fun a h=>?_
    refine s_off h rfl rfl rfl rfl fun a h=>s_off h rfl rfl rfl rfl fun a h=>s_off h rfl rfl rfl rfl fun a h=>s_off h rfl rfl rfl rfl fun a h=>s_pick_t h rfl rfl rfl rfl fun a h=>wpList_nil ?_
    replace h : Fr 48 a [(0, _), (2, nS), (3, .bool false), (43, .bool true)] := h.keep [0, 2, 3, 43]
    replace hS : Sep w0 w_8 [_] Z := hS
    replace h : Fr 48 a [(0, _), (2, _), (3, _), (43, _)] := h.keep [0, 2, 3, 43]
    exact x_then_n (hJ_j_16 true H _ _ ⟨N_10, h, (Sep.sel hS [0] (by decide)), (Mem.le.refl _)⟩)
  ·rw [if_neg hc_39] at H
   refine s_off h rfl rfl rfl (bne_iff_ne.2 hc_39) fun a h=>s_off h rfl rfl rfl (bne_iff_ne.2 hc_39) fun a h=>s_off h rfl rfl rfl (bne_iff_ne.2 hc_39) fun a h=>s_off h rfl rfl rfl (bne_iff_ne.2 hc_39) fun a h=>s_off h rfl rfl rfl (bne_iff_ne.2 hc_39) fun a h=>s_off h rfl rfl rfl (bne_iff_ne.2 hc_39) fun a h=>s_off h rfl rfl rfl (bne_iff_ne.2 hc_39) fun a h=>s_pick_t h rfl rfl (bne_iff_ne.2 hc_39) rfl fun a h=>s_move h rfl rfl fun a h=>s_off h rfl rfl rfl rfl fun a h=>s_off h rfl rfl rfl rfl fun a h=>s_off h rfl rfl rfl rfl fun a h=>?_
   refine s_off h rfl rfl rfl rfl fun a h=>s_off h rfl rfl rfl rfl fun a h=>s_off h rfl rfl rfl rfl fun a h=>s_off h rfl rfl rfl rfl fun a h=>s_pick_t h rfl rfl rfl rfl fun a h=>s_move h rfl rfl fun a h=>s_off h rfl rfl rfl rfl fun a h=>s_off h rfl rfl rfl rfl fun a h=>s_off h rfl rfl rfl rfl fun a h=>s_off h rfl rfl rfl rfl fun a h=>s_off h rfl rfl rfl rfl fun a h=>s_off h rfl rfl rfl rfl fun a h=>?_
   refine s_off h rfl rfl rfl rfl fun a h=>s_pick_t h rfl rfl rfl rfl fun a h=>wpList_nil ?_
   replace h : Fr 48 a [(0, _), (2, nS), (3, .bool false), (43, .bool true)] := h.keep [0, 2, 3, 43]
   replace hS : Sep w0 w_8 [_] Z := hS
   replace h : Fr 48 a [(0, _), (2, _), (3, _), (43, _)] := h.keep [0, 2, 3, 43]
   exact x_then_n (hJ_j_16 true H _ _ ⟨N_10, h, (Sep.sel hS [0] (by decide)), (Mem.le.refl _)⟩)

set_option maxHeartbeats 4000000 in
set_option maxRecDepth 20000 in
theorem hocketref11_Open.calls (K : Nat) (x0 : List UInt8) (p0_0 : Value) (r : api_Msg × Bool) (w0 w : World) (Z A : Mem) (hA : A.le Z) (hS : Sep w0 w [] Z) (hp0_0 : Rd Kd.u8 A p0_0 x0)
    (H : hocketref11_Open.f K x0 = some r) :
    Calls Try.prog 23 [p0_0].toArray w (Ret fun v w' => ∃ (u0 : Value) (u1 : Value) (u2 : Value) (u3 : Value) (u4 : Value) (u5 : Value) (N : Mem) (M0 : Mem) (M1 : Mem) (M2 : Mem) (M3 : Mem) (M4 : Mem) (M5 : Mem), v = .tuple [.agg [iV r.1.Kind, iV r.1.From, iV r.1.To, iV r.1.View, iV r.1.Inst, iV r.1.Len, .bool r.1.Has, iV r.1.Members, iV r.1.Source, iV r.1.At, iV r.1.Total, u0, iV r.1.Hop, iV r.1.Seq, u1, u2, iV r.1.Index, iV r.1.Entry.Sess, iV r.1.Entry.Seq, iV r.1.Entry.Cmd.Kind, iV r.1.Entry.Cmd.Who, u3, u4, u5].toArray, .bool r.2].toArray ∧ Sep w0 w' [N, M0, M1, M2, M3, M4, M5] Z ∧ Own Kd.u8 5 M0 Mem.no u0 r.1.Data ∧ Own (Kd.int .i64) 3 M1 Mem.no u1 r.1.Have ∧ Own (Kd.int .i64) 3 M2 Mem.no u2 r.1.Need ∧ Own Kd.u8 5 M3 Mem.no u3 r.1.Entry.Cmd.Key ∧ Own Kd.u8 5 M4 Mem.no u4 r.1.Entry.Cmd.Val ∧ Own Kd.u8 5 M5 Mem.no u5 r.1.Entry.Cmd.Old) := by
 unfold hocketref11_Open.f at H
 refine f_enter _ Try.func23 rfl Try.ntmps23 rfl fun a h=>?_
 replace h : Fr 18 a [(0, p0_0)] := h
 replace hS := hS.start
 replace hS : Sep w0 w [_] Z := hS
 refine wp_seq <| wp_region_lit <| v_alloc h rfl ti29 hS fun w_1 g_2 hS' a h => ?_
 replace hS : Sep w0 w_1 [_, Mem.one g_2 (.cells ([iV 0, iV 0, iV 0, iV 0, iV 0, iV 0, .bool false, iV 0, iV 0, iV 0, iV 0, nS, iV 0, iV 0, nS, nS, iV 0, iV 0, iV 0, iV 0, iV 0, nS, nS, nS] : List Value).toArray 29 (0, 0))] Z := hS'
 clear hS'
 refine s_assign h rfl rfl fun a h=>wpList_nil <| x_then_n <| wp_seq <| wp_region_lit <| s_move h rfl rfl fun a h=>?_
 obtain ⟨t_3, et_3, H⟩ := Option.bind_eq_some_iff.1 H
 refine s_call h rfl Try.call43 rfl (hocketref1_Unfour.calls K x0 _ t_3 w0 _ _ _ (Mem.le.refl _) (hS.enter [] (by decide)) (hp0_0.mono (hA.trans (hS.le_zed []))) et_3) ?_
 rintro _ w_4 ⟨v_7, N_5, M_9, rfl, hS', hr_8⟩
 intro a h
 obtain ⟨N_6, hS'', le_6, ln_6⟩ := hS.call [] (by decide) rfl (l' := []) (ow := [M_9]) rfl hS'
 replace hS : Sep w0 w_4 [N_6, _, M_9] Z := hS''
 clear hS' hS''
 refine s_move h rfl rfl fun a h=>s_extract h rfl rfl rfl fun a h=>s_extract h rfl rfl rfl fun a h=>s_assign h rfl rfl fun a h=>s_assign h rfl rfl fun a h=>wpList_nil <| x_then_n <| c_seq fun KJ_11 hKJ_11 => wp_seq <| wp_region_lit <| s_move h rfl rfl fun a h=>s_not h rfl rfl fun a h=>?_
 refine wpList_nil <| x_then_n ?_
 by_cases hc_12 : t_3.2 = true
 ·rw [if_pos hc_12] at H
  refine c_cond_f h rfl (nf hc_12) <| wp_skip <| x_then_n (hKJ_11 _ _ ?_)
  refine wp_seq <| wp_region_lit <| s_move h rfl rfl fun a h=>?_
  obtain ⟨t_13, et_13, H⟩ := Option.bind_eq_some_iff.1 H
  refine s_call h rfl Try.call18 rfl (hocketref11_Decode.calls K t_3.1 _ t_13 w0 _ _ _ (Mem.le.refl _) (hS.enter [] (by decide)) (hr_8.rd (hS.own_zed [] 1 (by decide)) (Mem.no_le _)) et_13) ?_
  rintro _ w_14 ⟨v_17, v_21, v_25, v_29, v_33, v_37, N_15, M_19, M_23, M_27, M_31, M_35, M_39, rfl, hS', hr_18, hr_22, hr_26, hr_30, hr_34, hr_38⟩
  intro a h
  obtain ⟨N_16, hS'', le_16, ln_16⟩ := hS.call [] (by decide) rfl (l' := []) (ow := [M_19, M_23, M_27, M_31, M_35, M_39]) rfl hS'
  replace hS : Sep w0 w_14 [N_16, _, _, M_19, M_23, M_27, M_31, M_35, M_39] Z := hS''
  clear hS' hS''
  refine s_extract h rfl rfl rfl fun a h=>s_extract h rfl rfl rfl fun a h=>?_
  obtain ⟨w_41, hs', hS'⟩ := hS.store (P := Try.prog) (p := 1) (o := 0) (t := 29) (v := .agg ([iV t_13.1.Kind, iV t_13.1.From, iV t_13.1.To, iV t_13.1.View, iV t_13.1.Inst, iV t_13.1.Len, .bool t_13.1.Has, iV t_13.1.Members, iV t_13.1.Source, iV t_13.1.At, iV t_13.1.Total, v_17, iV t_13.1.Hop, iV t_13.1.Seq, v_21, v_25, iV t_13.1.Index, iV t_13.1.Entry.Sess, iV t_13.1.Entry.Seq, iV t_13.1.Entry.Cmd.Kind, iV t_13.1.Entry.Cmd.Who, v_29, v_33, v_37] : List Value).toArray) (vs := [iV t_13.1.Kind, iV t_13.1.From, iV t_13.1.To, iV t_13.1.View, iV t_13.1.Inst, iV t_13.1.Len, .bool t_13.1.Has, iV t_13.1.Members, iV t_13.1.Source, iV t_13.1.At, iV t_13.1.Total, v_17, iV t_13.1.Hop, iV t_13.1.Seq, v_21, v_25, iV t_13.1.Index, iV t_13.1.Entry.Sess, iV t_13.1.Entry.Seq, iV t_13.1.Entry.Cmd.Kind, iV t_13.1.Entry.Cmd.Who, v_29, v_33, v_37]) rfl ti29 rfl rfl rfl (by intro u hu; simp only [List.mem_cons, List.not_mem_nil, or_false] at hu; rcases hu with rfl | rfl | rfl | rfl | rfl | rfl | rfl | rfl | rfl | rfl | rfl | rfl | rfl | rfl | rfl | rfl | rfl | rfl | rfl | rfl | rfl | rfl | rfl | rfl <;> first | rfl | exact hr_18.one | exact hr_22.one | exact hr_26.one | exact hr_30.one | exact hr_34.one | exact hr_38.one)
  refine s_store h rfl rfl hs' ?_
  replace hS : Sep w0 w_41 [_, Mem.one g_2 (.cells ([iV t_13.1.Kind, iV t_13.1.From, iV t_13.1.To, iV t_13.1.View, iV t_13.1.Inst, iV t_13.1.Len, .bool t_13.1.Has, iV t_13.1.Members, iV t_13.1.Source, iV t_13.1.At, iV t_13.1.Total, v_17, iV t_13.1.Hop, iV t_13.1.Seq, v_21, v_25, iV t_13.1.Index, iV t_13.1.Entry.Sess, iV t_13.1.Entry.Seq, iV t_13.1.Entry.Cmd.Kind, iV t_13.1.Entry.Cmd.Who, v_29, v_33, v_37] : List Value).toArray 29 (0, 0)), _, _, _, _, _, _, _] Z := hS'
  clear hs' hS'
  refine s_assign h rfl rfl fun a h=>wpList_nil ?_
  replace h : Fr 18 a [(2, .pointer (some ⟨g_2, 0, none⟩)), (3, .bool t_13.2)] := h.keep [2, 3]
  refine x_then_n <| wp_ret ?_
  obtain rfl := Option.some.inj H
  exact f_ret h (rs := [.cell 2 29, .tmp 3]) rfl (.cell rfl (hS.load_agg (p := 1) (us := [iV t_13.1.Kind, iV t_13.1.From, iV t_13.1.To, iV t_13.1.View, iV t_13.1.Inst, iV t_13.1.Len, .bool t_13.1.Has, iV t_13.1.Members, iV t_13.1.Source, iV t_13.1.At, iV t_13.1.Total, v_17, iV t_13.1.Hop, iV t_13.1.Seq, v_21, v_25, iV t_13.1.Index, iV t_13.1.Entry.Sess, iV t_13.1.Entry.Seq, iV t_13.1.Entry.Cmd.Kind, iV t_13.1.Entry.Cmd.Who, v_29, v_33, v_37]) rfl U29 rfl ti29 rfl rfl) (.tmp rfl .nil)) ⟨_, rfl, v_17, v_21, v_25, v_29, v_33, v_37, N_16, M_19, M_23, M_27, M_31, M_35, M_39, rfl, (Sep.sel hS [0, 3, 4, 5, 6, 7, 8] (by decide)), hr_18, hr_22, hr_26, hr_30, hr_34, hr_38⟩
 ·rw [if_neg hc_12] at H
  refine c_cond_t h rfl (nt (Bool.eq_false_iff.2 hc_12)) <| wp_seq <| wp_region_lit <| s_build h rfl ti29 pl29 rfl .nil (cs := [iV 0, iV 0, iV 0, iV 0, iV 0, iV 0, .bool false, iV 0, iV 0, iV 0, iV 0, nS, iV 0, iV 0, nS, nS, iV 0, iV 0, iV 0, iV 0, iV 0, nS, nS, nS]) (by kernel_rfl) fun a h=>?_
  obtain ⟨w_42, hs', hS'⟩ := hS.store (P := Try.prog) (p := 1) (o := 0) (t := 29) (v := .agg ([iV 0, iV 0, iV 0, iV 0, iV 0, iV 0, .bool false, iV 0, iV 0, iV 0, iV 0, nS, iV 0, iV 0, nS, nS, iV 0, iV 0, iV 0, iV 0, iV 0, nS, nS, nS] : List Value).toArray) (vs := [iV 0, iV 0, iV 0, iV 0, iV 0, iV 0, .bool false, iV 0, iV 0, iV 0, iV 0, nS, iV 0, iV 0, nS, nS, iV 0, iV 0, iV 0, iV 0, iV 0, nS, nS, nS]) rfl ti29 rfl rfl rfl (by intro u hu; simp only [List.mem_cons, List.not_mem_nil, or_false] at hu; rcases hu with rfl | rfl | rfl | rfl | rfl | rfl | rfl | rfl | rfl | rfl | rfl | rfl | rfl | rfl | rfl | rfl | rfl | rfl | rfl | rfl | rfl | rfl | rfl | rfl <;> rfl)
  refine s_store h rfl rfl hs' ?_
  replace hS : Sep w0 w_42 [_, _, _] Z := hS'
  clear hs' hS'
  refine s_assign h rfl rfl fun a h=>wpList_nil ?_
  replace h : Fr 18 a [(2, .pointer (some ⟨g_2, 0, none⟩)), (3, .bool false), (4, v_7)] := h.keep [2, 3, 4]
  refine x_then_n <| wp_ret (x_then_r ?_)
  have hS' := hS.room
  replace hS : Sep w0 w_42 [_, _, _, Mem.no] Z := hS'
  clear hS'
  replace hS : Sep w0 w_42 [_, _, _, _] Z := hS
  have hS' := hS.room
  replace hS : Sep w0 w_42 [_, _, _, _, Mem.no] Z := hS'
  clear hS'
  replace hS : Sep w0 w_42 [_, _, _, _, _] Z := hS
  have hS' := hS.room
  replace hS : Sep w0 w_42 [_, _, _, _, _, Mem.no] Z := hS'
  clear hS'
  replace hS : Sep w0 w_42 [_, _, _, _, _, _] Z := hS
  have hS' := hS.room
  replace hS : Sep w0 w_42 [_, _, _, _, _, _, Mem.no] Z := hS'
  clear hS'
  replace hS : Sep w0 w_42 [_, _, _, _, _, _, _] Z := hS
  have hS' := hS.room
  replace hS : Sep w0 w_42 [_, _, _, _, _, _, _, Mem.no] Z := hS'
  clear hS'
  replace hS : Sep w0 w_42 [_, _, _, _, _, _, _, _] Z := hS
  have hS' := hS.room
  replace hS : Sep w0 w_42 [_, _, _, _, _, _, _, _, Mem.no] Z := hS'
  clear hS'
  replace hS : Sep w0 w_42 [_, _, _, _, _, _, _, _, _] Z := hS
  obtain rfl := Option.some.inj H
  exact f_ret h (rs := [.cell 2 29, .tmp 3]) rfl (.cell rfl (hS.load_agg (p := 1) (us := [iV 0, iV 0, iV 0, iV 0, iV 0, iV 0, .bool false, iV 0, iV 0, iV 0, iV 0, nS, iV 0, iV 0, nS, nS, iV 0, iV 0, iV 0, iV 0, iV 0, nS, nS, nS]) rfl U29 rfl ti29 rfl rfl) (.tmp rfl .nil)) ⟨_, rfl, nS, nS, nS, nS, nS, nS, N_6, Mem.no, Mem.no, Mem.no, Mem.no, Mem.no, Mem.no, rfl, (Sep.sel hS [0, 3, 4, 5, 6, 7, 8] (by decide)), (Own.nil Kd.u8 5 Mem.no), (Own.nil (Kd.int .i64) 3 Mem.no), (Own.nil (Kd.int .i64) 3 Mem.no), (Own.nil Kd.u8 5 Mem.no), (Own.nil Kd.u8 5 Mem.no), (Own.nil Kd.u8 5 Mem.no)⟩

set_option maxHeartbeats 4000000 in
set_option maxRecDepth 20000 in
theorem mesg_write_1.calls (K : Nat) (x0 : List Int) (p0_0 : Value) (g1 : Nat) (x1_ : List UInt8) (p1_1 : Value) (M1_1 : Mem) (r : (List UInt8)) (w0 w : World) (Z A : Mem) (hA : A.le Z) (hS : Sep w0 w [Mem.one g1 (.cells ([p1_1] : List Value).toArray 23 (0, 0)), M1_1] Z) (hp0_0 : Rd (Kd.int .i64) A p0_0 x0) (hp1_1 : Own Kd.u8 5 M1_1 Mem.no p1_1 x1_)
    (H : mesg_write_1.f K x0 x1_ = some r) :
    Calls Try.prog 44 [p0_0, .pointer (some ⟨g1, 0, none⟩)].toArray w (Ret fun v w' => ∃ (u0 : Value) (N : Mem) (M100 : Mem), v = .tuple [].toArray ∧ Sep w0 w' [N, Mem.one g1 (.cells ([u0] : List Value).toArray 23 (0, 0)), M100] Z ∧ Own Kd.u8 5 M100 Mem.no u0 r) := by
 unfold mesg_write_1.f at H
 refine f_enter _ Try.func44 rfl Try.ntmps44 rfl fun a h=>?_
 replace h : Fr 15 a [(0, p0_0), (1, .pointer (some ⟨g1, 0, none⟩))] := h
 replace hS := hS.start
 replace hS : Sep w0 w [_, _, _] Z := hS
 refine wp_seq <| wp_region_lit <| s_move h rfl rfl fun a h=>s_len h rfl U22 rfl hp0_0 fun a h=>s_move h rfl rfl fun a h=>wpList_nil <| x_then_n <| c_last fun KJ_1 hKJ_1 => ?_
 have hJ_j_9 : ∀ (x_3 : List UInt8), mesg_write_1.J1 K x_3 = some r → ∀ (a : Act) (w_8 : World), (∃ (v_6 : Value) (N_2 : Mem) (M_4 : Mem), Fr 15 a [] ∧ Sep w0 w_8 [N_2, Mem.one g1 (.cells ([v_6] : List Value).toArray 23 (0, 0)), Mem.no, M_4] Z ∧ Mem.no.le N_2 ∧ Own Kd.u8 5 M_4 Mem.no v_6 x_3) → KJ_1 a w_8 := by
  clear H h hS a
  rintro x_3 H a w_8 ⟨v_6, N_2, M_4, h, hS, le_2, ho_7⟩
  unfold mesg_write_1.J1 at H
  refine hKJ_1 _ _ <| f_end ?_
  obtain rfl := Option.some.inj H
  exact f_ret h (rs := []) rfl .nil ⟨_, rfl, v_6, N_2, M_4, rfl, (Sep.sel hS [0, 1, 3] (by decide)), ho_7⟩
 clear hKJ_1
 replace hS : Sep w0 w [_, _, _] Z := hS
 replace h : Fr 15 a [(1, _), (5, p0_0), (6, iV (x0.length : Int)), (7, iV 0)] := h.keep [1, 5, 6, 7]
 refine c_block <| c_loop (fun k_17 a w_17 => ∃ (x_11 : Int) (x_12 : List UInt8) (v_15 : Value) (N_10 : Mem) (M_13 : Mem), mesg_write_1.L1 K x0 (fun v => mesg_write_1.J1 K v) k_17 (x_11, x_12) = some r ∧ Fr 15 a [(1, .pointer (some ⟨g1, 0, none⟩)), (5, p0_0), (6, iV (x0.length : Int)), (7, iV x_11)] ∧ Sep w0 w_17 [N_10, Mem.one g1 (.cells ([v_15] : List Value).toArray 23 (0, 0)), Mem.no, M_13] Z ∧ Mem.no.le N_10 ∧ Own Kd.u8 5 M_13 Mem.no v_15 x_12) K ⟨0, x1_, p1_1, Mem.no, M1_1, H, h, (Sep.sel hS [0, 1, 1001, 2] (by decide)), (Mem.le.refl _), hp1_1⟩ (fun a w h => by obtain ⟨_, _, _, _, _, H, _⟩ := h; cases (show (none : Option ((List UInt8))) = some r from H)) ?_
 clear h hS a H
 rintro k_17 a w_17 KL_17 hKL_17 ⟨x_11, x_12, v_15, N_10, M_13, H, h, hS, le_10, ho_16⟩
 replace H : mesg_write_1.B1 K x0 (fun v => mesg_write_1.J1 K v) (mesg_write_1.L1 K x0 (fun v => mesg_write_1.J1 K v) k_17) x_11 x_12 = some r := H
 unfold mesg_write_1.B1 at H
 refine wp_seq <| wp_region_lit <| s_cmp (b := decide (x_11 < (x0.length : Int))) h rfl rfl rfl (.inr (.inr (.inl ⟨rfl, rfl⟩))) fun a h=>wpList_nil <| x_then_n <| c_seq fun KJ_19 hKJ_19 => ?_
 by_cases hc_20 : x_11 < (x0.length : Int)
 ·rw [if_pos hc_20] at H
  refine c_cond_t h rfl (decide_eq_true hc_20) <| wp_skip <| x_then_n (hKJ_19 _ _ ?_)
  refine wp_seq <| c_block <| wp_seq <| wp_region_lit ?_
  obtain ⟨t_21, et_21, H⟩ := Option.bind_eq_some_iff.1 H
  refine v_index h rfl U22 ti3 rfl rfl rfl hp0_0 (hA.trans hS.old) et_21 fun ad_22 cs_23 hk_24 hc_25 => ?_
  obtain rfl := (show cs_23 = [iV t_21] from hk_24)
  intro a h
  refine s_load h rfl rfl (el_one (o := 0) hc_25 U3 rfl rfl) fun a h=>s_assign h rfl rfl fun a h=>wpList_nil <| x_then_n <| wp_region_lit <| s_load h rfl rfl (hS.load_one (p := 1) rfl U23 rfl rfl) fun a h=>s_move h rfl rfl fun a h=>?_
  obtain ⟨t_26, et_26, H⟩ := Option.bind_eq_some_iff.1 H
  refine s_call h rfl Try.call45 rfl (pack_Num.calls K x_12 _ t_21 t_26 w0 _ _ _ (Mem.le.refl _) (hS.enter [] (by decide)) (ho_16.rd (hS.own_zed [] 2 (by decide)) (Mem.no_le _)) et_26) ?_
  rintro v_30 w_27 ⟨_, N_28, M_32, rfl, hS', hr_31⟩
  intro a h
  obtain ⟨N_29, hS'', le_29, ln_29⟩ := hS.call [] (by decide) rfl (l' := []) (ow := [M_32]) rfl hS'
  replace hS : Sep w0 w_27 [N_29, _, _, _, M_32] Z := hS''
  clear hS' hS''
  obtain ⟨w_34, hs', hS'⟩ := hS.store (P := Try.prog) (p := 1) (o := 0) (t := 23) (v := v_30) (vs := [v_30]) rfl ti23 hr_31.cellsA rfl rfl (by intro u hu; simp only [List.mem_cons, List.not_mem_nil, or_false] at hu; rcases hu with rfl <;> first | rfl | exact hr_31.one)
  refine s_store h rfl rfl hs' ?_
  replace hS : Sep w0 w_34 [_, Mem.one g1 (.cells ([v_30] : List Value).toArray 23 (0, 0)), _, _, _] Z := hS'
  clear hs' hS'
  refine wpList_nil ?_
  replace h : Fr 15 a [(1, _), (5, _), (6, _), (7, _)] := h.keep [1, 5, 6, 7]
  refine x_block_n <| x_then_n <| wp_region_lit <| s_arith (r := w64 (x_11 + 1)) h rfl rfl rfl (.inl ⟨rfl, rfl⟩) fun a h=>s_move h rfl rfl fun a h=>wpList_nil <| x_then_n (hKL_17 _ _ ?_)
  replace hS : Sep w0 w_34 [_, _, _, _, _] Z := hS
  replace h : Fr 15 a [(1, _), (5, _), (6, _), (7, iV (w64 (x_11 + 1)))] := h.keep [1, 5, 6, 7]
  exact ⟨w64 (x_11 + 1), t_26, v_30, N_29, M_32, H, h, (Sep.sel hS [0, 1, 1001, 4] (by decide)), (le_10.trans le_29), hr_31⟩
 ·rw [if_neg hc_20] at H
  refine c_cond_f h rfl (decide_eq_false hc_20) <| wp_exit (x_then_x (x_then_x (x_block_t ?_)))
  replace hS : Sep w0 w_17 [_, _, _, _] Z := hS
  replace h : Fr 15 a [] := h.keep []
  exact x_then_n (hJ_j_9 x_12 H _ _ ⟨v_15, N_10, M_13, h, (Sep.sel hS [0, 1, 1001, 3] (by decide)), le_10, ho_16⟩)

set_option maxHeartbeats 4000000 in
set_option maxRecDepth 20000 in
theorem mesg_write.calls (K : Nat) (x0 : api_Msg) (p0_0 : Value) (p0_1 : Value) (p0_2 : Value) (p0_3 : Value) (p0_4 : Value) (p0_5 : Value) (r : (List UInt8)) (w0 w : World) (Z A : Mem) (hA : A.le Z) (hS : Sep w0 w [] Z) (hp0_0 : Rd Kd.u8 A p0_0 x0.Data) (hp0_1 : Rd (Kd.int .i64) A p0_1 x0.Have) (hp0_2 : Rd (Kd.int .i64) A p0_2 x0.Need) (hp0_3 : Rd Kd.u8 A p0_3 x0.Entry.Cmd.Key) (hp0_4 : Rd Kd.u8 A p0_4 x0.Entry.Cmd.Val) (hp0_5 : Rd Kd.u8 A p0_5 x0.Entry.Cmd.Old)
    (H : mesg_write.f K x0 = some r) :
    Calls Try.prog 25 [.agg ([iV x0.Kind, iV x0.From, iV x0.To, iV x0.View, iV x0.Inst, iV x0.Len, .bool x0.Has, iV x0.Members, iV x0.Source, iV x0.At, iV x0.Total, p0_0, iV x0.Hop, iV x0.Seq, p0_1, p0_2, iV x0.Index, iV x0.Entry.Sess, iV x0.Entry.Seq, iV x0.Entry.Cmd.Kind, iV x0.Entry.Cmd.Who, p0_3, p0_4, p0_5] : List Value).toArray].toArray w (Ret fun v w' => ∃ (u0 : Value) (N : Mem), v = u0 ∧ Sep w0 w' [N] Z ∧ Rd Kd.u8 (A.un N) u0 r) := by
 unfold mesg_write.f at H
 refine f_enter _ Try.func25 rfl Try.ntmps25 rfl fun a h=>?_
 replace h : Fr 90 a [(0, .agg ([iV x0.Kind, iV x0.From, iV x0.To, iV x0.View, iV x0.Inst, iV x0.Len, .bool x0.Has, iV x0.Members, iV x0.Source, iV x0.At, iV x0.Total, p0_0, iV x0.Hop, iV x0.Seq, p0_1, p0_2, iV x0.Index, iV x0.Entry.Sess, iV x0.Entry.Seq, iV x0.Entry.Cmd.Kind, iV x0.Entry.Cmd.Who, p0_3, p0_4, p0_5] : List Value).toArray)] := h
 replace hS := hS.start
 replace hS : Sep w0 w [_] Z := hS
 refine wp_seq <| wp_region_lit <| v_box (vs := [iV x0.Kind, iV x0.From, iV x0.To, iV x0.View, iV x0.Inst, iV x0.Len, .bool x0.Has, iV x0.Members, iV x0.Source, iV x0.At, iV x0.Total, p0_0, iV x0.Hop, iV x0.Seq, p0_1, p0_2, iV x0.Index, iV x0.Entry.Sess, iV x0.Entry.Seq, iV x0.Entry.Cmd.Kind, iV x0.Entry.Cmd.Who, p0_3, p0_4, p0_5]) h rfl rfl rfl hS fun w_1 g_2 hS' a h => ?_
 replace hS : Sep w0 w_1 [_, Mem.one g_2 (.cells ([iV x0.Kind, iV x0.From, iV x0.To, iV x0.View, iV x0.Inst, iV x0.Len, .bool x0.Has, iV x0.Members, iV x0.Source, iV x0.At, iV x0.Total, p0_0, iV x0.Hop, iV x0.Seq, p0_1, p0_2, iV x0.Index, iV x0.Entry.Sess, iV x0.Entry.Seq, iV x0.Entry.Cmd.Kind, iV x0.Entry.Cmd.Who, p0_3, p0_4, p0_5] : List Value).toArray 29 (0, 0))] Z := hS'
 clear hS'
 refine s_assign h rfl rfl fun a h=>wpList_nil <| x_then_n <| wp_seq <| wp_region_lit <| v_alloc h rfl ti23 hS fun w_3 g_4 hS' a h => ?_
 replace hS : Sep w0 w_3 [_, _, Mem.one g_4 (.cells ([nS] : List Value).toArray 23 (0, 0))] Z := hS'
 clear hS'
 refine wpList_nil <| x_then_n <| wp_seq <| wp_region_lit <| s_func h rfl rfl fun a h=>s_assign h rfl rfl fun a h=>wpList_nil <| x_then_n <| wp_seq <| wp_region_lit <| s_move h rfl rfl fun a h=>s_fieldAddr h rfl U29 rfl ti3 rfl rfl fun a h=>?_
 refine s_load h rfl rfl (hS.load_one (p := 1) rfl U3 rfl rfl) fun a h=>s_fieldAddr h rfl U29 rfl ti3 rfl rfl fun a h=>s_load h rfl rfl (hS.load_one (p := 1) rfl U3 rfl rfl) fun a h=>s_fieldAddr h rfl U29 rfl ti3 rfl rfl fun a h=>s_load h rfl rfl (hS.load_one (p := 1) rfl U3 rfl rfl) fun a h=>s_fieldAddr h rfl U29 rfl ti3 rfl rfl fun a h=>s_load h rfl rfl (hS.load_one (p := 1) rfl U3 rfl rfl) fun a h=>?_
 have hq_9 : Reps (Kd.int .i64) Mem.no ([x0.Kind, x0.From, x0.To, x0.View] : List Int) _ := ((Reps.one (d := (Kd.int .i64)) (x := x0.Kind) (show (Kd.int .i64).K _ _ [iV x0.Kind] from rfl)).append ((Reps.one (d := (Kd.int .i64)) (x := x0.From) (show (Kd.int .i64).K _ _ [iV x0.From] from rfl)).append ((Reps.one (d := (Kd.int .i64)) (x := x0.To) (show (Kd.int .i64).K _ _ [iV x0.To] from rfl)).append ((Reps.one (d := (Kd.int .i64)) (x := x0.View) (show (Kd.int .i64).K _ _ [iV x0.View] from rfl)).append (Reps.nil (Kd.int .i64) _)))))
 refine s_buildSlice h rfl U22 ti3 rfl rfl rfl (.cons rfl (.cons rfl (.cons rfl (.cons rfl .nil)))) rfl rfl rfl hS hq_9 rfl fun w_5 v_6 M_7 hS' ho_8 a h => ?_
 replace hS : Sep w0 w_5 [_, _, _, M_7] Z := hS'
 clear hS' hq_9
 have hS' := hS.room
 replace hS : Sep w0 w_5 [_, _, _, _, Mem.no] Z := hS'
 clear hS'
 replace hS : Sep w0 w_5 [_, _, _, _, _] Z := hS
 obtain ⟨t_12, et_12, H⟩ := Option.bind_eq_some_iff.1 H
 refine s_callv h rfl rfl Try.call44 rfl (mesg_write_1.calls K ([x0.Kind, x0.From, x0.To, x0.View] : List Int) _ _ ([] : List UInt8) _ _ t_12 w0 _ _ _ (Mem.le.refl _) (hS.enter [1, 3] (by decide)) (ho_8.rd (hS.own_zed [1, 3] 2 (by decide)) (Mem.no_le _)) (Own.nil Kd.u8 5 Mem.no) et_12) ?_
 rintro _ w_13 ⟨v_16, N_14, M_18, rfl, hS', hr_17⟩
 intro a h
 obtain ⟨N_15, hS'', le_15, ln_15⟩ := hS.call [1, 3] (by decide) rfl (l' := [Mem.one g_4 (.cells ([v_16] : List Value).toArray 23 (0, 0)), M_18]) (ow := []) rfl hS'
 replace hS : Sep w0 w_13 [N_15, _, Mem.one g_4 (.cells ([v_16] : List Value).toArray 23 (0, 0)), _, M_18] Z := hS''
 clear hS' hS''
 refine wpList_nil ?_
 replace h : Fr 90 a [(1, .pointer (some ⟨g_2, 0, none⟩)), (2, nS), (3, .pointer (some ⟨g_4, 0, none⟩)), (4, .func (.func 44) #[] [.pointer (some ⟨g_4, 0, none⟩)].toArray)] := h.keep [1, 2, 3, 4]
 refine x_then_n <| c_seq fun KJ_20 hKJ_20 => wp_seq <| wp_region_lit <| s_fieldAddr h rfl U29 rfl ti3 rfl rfl fun a h=>s_load h rfl rfl (hS.load_one (p := 1) rfl U3 rfl rfl) fun a h=>wpList_nil <| x_then_n <| c_block <| wp_seq <| wp_region_lit <| s_cmp (b := (x0.Kind == 2)) h rfl rfl rfl (.inl ⟨rfl, rfl⟩) fun a h=>?_
 refine s_assign h rfl rfl fun a h=>wpList_nil <| x_then_n ?_
 by_cases hc_21 : x0.Kind = 2
 ·rw [if_pos hc_21] at H
  refine c_cond_t h rfl (beq_iff_eq.2 hc_21) <| h_begin (S := fun w => Sep w0 w [N_15, Mem.one g_2 (.cells ([iV x0.Kind, iV x0.From, iV x0.To, iV x0.View, iV x0.Inst, iV x0.Len, .bool x0.Has, iV x0.Members, iV x0.Source, iV x0.At, iV x0.Total, p0_0, iV x0.Hop, iV x0.Seq, p0_1, p0_2, iV x0.Index, iV x0.Entry.Sess, iV x0.Entry.Seq, iV x0.Entry.Cmd.Kind, iV x0.Entry.Cmd.Who, p0_3, p0_4, p0_5] : List Value).toArray 29 (0, 0)), Mem.no, M_7, Mem.no] Z) 10 (by kernel_rfl) rfl (bA 10 0) (by kernel_rfl) hS fun w_22 hS => ?_
  replace hS : Sep w0 w_22 [_, _, _, _, _] Z := hS
  refine t_take 0 (bA 10 1) rfl rfl rfl rfl h (hS.sub (.cons (Mem.le.refl _) (.rr (.zz (.rr (.zz .ii)))))) (v := .func (.func 44) #[] [.pointer (some ⟨g_4, 0, none⟩)].toArray) (fun w hS => r_move h rfl) fun a h=>t_take 1 (bA 10 3) rfl rfl rfl rfl h (hS.sub (.cons (Mem.le.refl _) (.rr (.zz (.rr (.zz .ii)))))) (v := .pointer (some ⟨g_2, 4, none⟩)) (fun w hS => r_fieldAddr h U29 rfl ti3 rfl rfl rfl) fun a h=>t_take 2 (bA 10 7) rfl rfl rfl rfl h (hS.sub (.cons (Mem.le.refl _) (.rr (.zz (.rr (.zz .ii)))))) (v := iV x0.Inst) (fun w hS => r_load h rfl (hS.load_one (p := 1) rfl U3 rfl rfl)) fun a h=>t_take 3 (bA 10 15) rfl rfl rfl rfl h (hS.sub (.cons (Mem.le.refl _) (.rr (.zz (.rr (.zz .ii)))))) (v := .pointer (some ⟨g_2, 5, none⟩)) (fun w hS => r_fieldAddr h U29 rfl ti3 rfl rfl rfl) fun a h=>t_take 4 (bA 10 31) rfl rfl rfl rfl h (hS.sub (.cons (Mem.le.refl _) (.rr (.zz (.rr (.zz .ii)))))) (v := iV x0.Len) (fun w hS => r_load h rfl (hS.load_one (p := 1) rfl U3 rfl rfl)) fun a h=>t_take 5 (bA 10 63) rfl rfl rfl rfl h (hS.sub (.cons (Mem.le.refl _) (.rr (.zz (.rr (.zz .ii)))))) (v := .pointer (some ⟨g_2, 6, none⟩)) (fun w hS => r_fieldAddr h U29 rfl ti4 rfl rfl rfl) fun a h=>?_
  refine t_take 6 (bA 10 127) rfl rfl rfl rfl h (hS.sub (.cons (Mem.le.refl _) (.rr (.zz (.rr (.zz .ii)))))) (v := .bool x0.Has) (fun w hS => r_load h rfl (hS.load_one (p := 1) rfl U4 rfl rfl)) fun a h=>h_event 7 (bA 10 255) rfl (by kernel_rfl) (by kernel_rfl) ?_
  obtain ⟨t_23, et_23, H⟩ := Option.bind_eq_some_iff.1 H
  refine s_call h rfl Try.call46 rfl (mesg_flag.calls x0.Has t_23 w0 _ _ _ (Mem.le.refl _) (hS.enter [] (by decide))  et_23) ?_
  rintro _ w_24 ⟨N_25, rfl, hS'⟩
  intro a h
  obtain ⟨N_26, hS'', le_26, ln_26⟩ := hS.call [] (by decide) rfl (l' := []) (ow := []) rfl hS'
  replace hS : Sep w0 w_24 [N_26, _, _, _, _] Z := hS''
  clear hS' hS''
  refine wpList_nil <| x_then_n ⟨(hS.sub (.cons le_26 (.rr (.zz (.rr (.zz .ii)))))), ?_⟩
  refine h_event 8 (bA 10 511) rfl (by kernel_rfl) (by kernel_rfl) ?_
  have hq_31 : Reps (Kd.int .i64) Mem.no ([x0.Inst, x0.Len, t_23] : List Int) _ := ((Reps.one (d := (Kd.int .i64)) (x := x0.Inst) (show (Kd.int .i64).K _ _ [iV x0.Inst] from rfl)).append ((Reps.one (d := (Kd.int .i64)) (x := x0.Len) (show (Kd.int .i64).K _ _ [iV x0.Len] from rfl)).append ((Reps.one (d := (Kd.int .i64)) (x := t_23) (show (Kd.int .i64).K _ _ [iV t_23] from rfl)).append (Reps.nil (Kd.int .i64) _))))
  refine s_buildSlice h rfl U22 ti3 rfl rfl rfl (.cons rfl (.cons rfl (.cons rfl .nil))) rfl rfl rfl hS hq_31 rfl fun w_27 v_28 M_29 hS' ho_30 a h => ?_
  replace hS : Sep w0 w_27 [_, _, _, _, _, M_29] Z := hS'
  clear hS' hq_31
  refine wpList_nil <| x_then_n ⟨(hS.sub (.cons le_26 (.rr (.zz (.rr (.zz .nn)))))), ?_⟩
  refine h_event 9 (bA 10 1023) rfl (by kernel_rfl) (by kernel_rfl) ?_
  obtain ⟨t_33, et_33, H⟩ := Option.bind_eq_some_iff.1 H
  refine s_callv h rfl rfl Try.call44 rfl (mesg_write_1.calls K ([x0.Inst, x0.Len, t_23] : List Int) _ _ t_12 _ _ t_33 w0 _ _ _ (Mem.le.refl _) (hS.enter [1, 3] (by decide)) (ho_30.rd (hS.own_zed [1, 3] 4 (by decide)) (Mem.no_le _)) hr_17 et_33) ?_
  rintro _ w_34 ⟨v_37, N_35, M_39, rfl, hS', hr_38⟩
  intro a h
  obtain ⟨N_36, hS'', le_36, ln_36⟩ := hS.call [1, 3] (by decide) rfl (l' := [Mem.one g_4 (.cells ([v_37] : List Value).toArray 23 (0, 0)), M_39]) (ow := []) rfl hS'
  replace hS : Sep w0 w_34 [N_36, _, Mem.one g_4 (.cells ([v_37] : List Value).toArray 23 (0, 0)), _, M_39, _] Z := hS''
  clear hS' hS''
  refine wpList_nil <| x_then_n ⟨(hS.sub (.cons (le_26.trans le_36) (.rr (.zz (.rr (.zz .nn)))))), ?_⟩
  refine h_done (by kernel_rfl) <| x_block_n <| x_then_n (hKJ_20 _ _ ?_)
  refine wp_seq <| wp_region_lit <| s_load h rfl rfl (hS.load_one (p := 2) rfl U23 rfl rfl) fun a h=>s_assign h rfl rfl fun a h=>wpList_nil ?_
  replace h : Fr 90 a [(2, v_37)] := h.keep [2]
  refine x_then_n <| wp_ret ?_
  obtain ⟨N_41, hS', le_41, lo_41⟩ := hS.freeze 3 rfl
  replace hS : Sep w0 w_34 [N_41, _, _, _, Mem.no, _] Z := hS'
  clear hS'
  obtain rfl := Option.some.inj H
  exact f_ret h (rs := [.tmp 2]) rfl (.tmp rfl .nil) ⟨_, rfl, v_37, N_41, rfl, (Sep.sel hS [0] (by decide)), ((hr_38.rd lo_41 (Mem.no_le _)).mono ((Mem.le.refl _).trans (hS.sndA hA)))⟩
 ·rw [if_neg hc_21] at H
  refine c_cond_f h rfl (beq_eq_false_iff_ne.2 hc_21) <| wp_seq <| wp_region_lit <| s_cmp (b := (x0.Kind == 3)) h rfl rfl rfl (.inl ⟨rfl, rfl⟩) fun a h=>s_assign h rfl rfl fun a h=>wpList_nil <| x_then_n ?_
  by_cases hc_42 : x0.Kind = 3
  ·rw [if_pos hc_42] at H
   refine c_cond_t h rfl (beq_iff_eq.2 hc_42) <| wp_region_lit <| s_move h rfl rfl fun a h=>s_fieldAddr h rfl U29 rfl ti3 rfl rfl fun a h=>s_load h rfl rfl (hS.load_one (p := 1) rfl U3 rfl rfl) fun a h=>s_fieldAddr h rfl U29 rfl ti3 rfl rfl fun a h=>s_load h rfl rfl (hS.load_one (p := 1) rfl U3 rfl rfl) fun a h=>s_fieldAddr h rfl U29 rfl ti3 rfl rfl fun a h=>s_load h rfl rfl (hS.load_one (p := 1) rfl U3 rfl rfl) fun a h=>?_
   have hq_47 : Reps (Kd.int .i64) Mem.no ([x0.Members, x0.Source, x0.Len] : List Int) _ := ((Reps.one (d := (Kd.int .i64)) (x := x0.Members) (show (Kd.int .i64).K _ _ [iV x0.Members] from rfl)).append ((Reps.one (d := (Kd.int .i64)) (x := x0.Source) (show (Kd.int .i64).K _ _ [iV x0.Source] from rfl)).append ((Reps.one (d := (Kd.int .i64)) (x := x0.Len) (show (Kd.int .i64).K _ _ [iV x0.Len] from rfl)).append (Reps.nil (Kd.int .i64) _))))
   refine s_buildSlice h rfl U22 ti3 rfl rfl rfl (.cons rfl (.cons rfl (.cons rfl .nil))) rfl rfl rfl hS hq_47 rfl fun w_43 v_44 M_45 hS' ho_46 a h => ?_
   replace hS : Sep w0 w_43 [_, _, _, _, _, M_45] Z := hS'
   clear hS' hq_47
   obtain ⟨t_49, et_49, H⟩ := Option.bind_eq_some_iff.1 H
   refine s_callv h rfl rfl Try.call44 rfl (mesg_write_1.calls K ([x0.Members, x0.Source, x0.Len] : List Int) _ _ t_12 _ _ t_49 w0 _ _ _ (Mem.le.refl _) (hS.enter [1, 3] (by decide)) (ho_46.rd (hS.own_zed [1, 3] 4 (by decide)) (Mem.no_le _)) hr_17 et_49) ?_
   rintro _ w_50 ⟨v_53, N_51, M_55, rfl, hS', hr_54⟩
   intro a h
   obtain ⟨N_52, hS'', le_52, ln_52⟩ := hS.call [1, 3] (by decide) rfl (l' := [Mem.one g_4 (.cells ([v_53] : List Value).toArray 23 (0, 0)), M_55]) (ow := []) rfl hS'
   replace hS : Sep w0 w_50 [N_52, _, Mem.one g_4 (.cells ([v_53] : List Value).toArray 23 (0, 0)), _, M_55, _] Z := hS''
   clear hS' hS''
   refine wpList_nil ?_
   replace h : Fr 90 a [(2, _), (3, _)] := h.keep [2, 3]
   refine x_block_n <| x_then_n (hKJ_20 _ _ ?_)
   refine wp_seq <| wp_region_lit <| s_load h rfl rfl (hS.load_one (p := 2) rfl U23 rfl rfl) fun a h=>s_assign h rfl rfl fun a h=>wpList_nil <| x_then_n <| wp_ret ?_
   obtain ⟨N_57, hS', le_57, lo_57⟩ := hS.freeze 3 rfl
   replace hS : Sep w0 w_50 [N_57, _, _, _, Mem.no, _] Z := hS'
   clear hS'
   obtain rfl := Option.some.inj H
   exact f_ret h (rs := [.tmp 2]) rfl (.tmp rfl .nil) ⟨_, rfl, v_53, N_57, rfl, (Sep.sel hS [0] (by decide)), ((hr_54.rd lo_57 (Mem.no_le _)).mono ((Mem.le.refl _).trans (hS.sndA hA)))⟩
  ·rw [if_neg hc_42] at H
   refine c_cond_f h rfl (beq_eq_false_iff_ne.2 hc_42) <| wp_seq <| wp_region_lit <| s_cmp (b := (x0.Kind == 4)) h rfl rfl rfl (.inl ⟨rfl, rfl⟩) fun a h=>s_assign h rfl rfl fun a h=>wpList_nil ?_
   replace h : Fr 90 a [(1, _), (2, _), (3, _), (4, _), (18, iV x0.Kind), (42, .bool (x0.Kind == 4))] := h.keep [1, 2, 3, 4, 18, 42]
   refine x_then_n ?_
   by_cases hc_58 : x0.Kind = 4
   ·rw [if_pos hc_58] at H
    refine c_cond_t h rfl (beq_iff_eq.2 hc_58) <| wp_region_lit <| s_move h rfl rfl fun a h=>s_fieldAddr h rfl U29 rfl ti3 rfl rfl fun a h=>s_load h rfl rfl (hS.load_one (p := 1) rfl U3 rfl rfl) fun a h=>?_
    have hq_63 : Reps (Kd.int .i64) Mem.no ([x0.At] : List Int) _ := ((Reps.one (d := (Kd.int .i64)) (x := x0.At) (show (Kd.int .i64).K _ _ [iV x0.At] from rfl)).append (Reps.nil (Kd.int .i64) _))
    refine s_buildSlice h rfl U22 ti3 rfl rfl rfl (.cons rfl .nil) rfl rfl rfl hS hq_63 rfl fun w_59 v_60 M_61 hS' ho_62 a h => ?_
    replace hS : Sep w0 w_59 [_, _, _, _, _, M_61] Z := hS'
    clear hS' hq_63
    obtain ⟨t_65, et_65, H⟩ := Option.bind_eq_some_iff.1 H
    refine s_callv h rfl rfl Try.call44 rfl (mesg_write_1.calls K ([x0.At] : List Int) _ _ t_12 _ _ t_65 w0 _ _ _ (Mem.le.refl _) (hS.enter [1, 3] (by decide)) (ho_62.rd (hS.own_zed [1, 3] 4 (by decide)) (Mem.no_le _)) hr_17 et_65) ?_
    rintro _ w_66 ⟨v_69, N_67, M_71, rfl, hS', hr_70⟩
    intro a h
    obtain ⟨N_68, hS'', le_68, ln_68⟩ := hS.call [1, 3] (by decide) rfl (l' := [Mem.one g_4 (.cells ([v_69] : List Value).toArray 23 (0, 0)), M_71]) (ow := []) rfl hS'
    replace hS : Sep w0 w_66 [N_68, _, Mem.one g_4 (.cells ([v_69] : List Value).toArray 23 (0, 0)), _, M_71, _] Z := hS''
    clear hS' hS''
    refine wpList_nil <| x_block_n <| x_then_n (hKJ_20 _ _ ?_)
    refine wp_seq <| wp_region_lit <| s_load h rfl rfl (hS.load_one (p := 2) rfl U23 rfl rfl) fun a h=>s_assign h rfl rfl fun a h=>wpList_nil <| x_then_n <| wp_ret ?_
    obtain ⟨N_73, hS', le_73, lo_73⟩ := hS.freeze 3 rfl
    replace hS : Sep w0 w_66 [N_73, _, _, _, Mem.no, _] Z := hS'
    clear hS'
    obtain rfl := Option.some.inj H
    exact f_ret h (rs := [.tmp 2]) rfl (.tmp rfl .nil) ⟨_, rfl, v_69, N_73, rfl, (Sep.sel hS [0] (by decide)), ((hr_70.rd lo_73 (Mem.no_le _)).mono ((Mem.le.refl _).trans (hS.sndA hA)))⟩
   ·rw [if_neg hc_58] at H
    refine c_cond_f h rfl (beq_eq_false_iff_ne.2 hc_58) <| wp_seq <| wp_region_lit <| s_cmp (b := (x0.Kind == 5)) h rfl rfl rfl (.inl ⟨rfl, rfl⟩) fun a h=>s_assign h rfl rfl fun a h=>wpList_nil <| x_then_n ?_
    by_cases hc_74 : x0.Kind = 5
    ·rw [if_pos hc_74] at H
     refine c_cond_t h rfl (beq_iff_eq.2 hc_74) <| wp_seq <| wp_region_lit <| s_move h rfl rfl fun a h=>s_fieldAddr h rfl U29 rfl ti3 rfl rfl fun a h=>s_load h rfl rfl (hS.load_one (p := 1) rfl U3 rfl rfl) fun a h=>s_fieldAddr h rfl U29 rfl ti3 rfl rfl fun a h=>s_load h rfl rfl (hS.load_one (p := 1) rfl U3 rfl rfl) fun a h=>?_
     have hq_79 : Reps (Kd.int .i64) Mem.no ([x0.At, x0.Total] : List Int) _ := ((Reps.one (d := (Kd.int .i64)) (x := x0.At) (show (Kd.int .i64).K _ _ [iV x0.At] from rfl)).append ((Reps.one (d := (Kd.int .i64)) (x := x0.Total) (show (Kd.int .i64).K _ _ [iV x0.Total] from rfl)).append (Reps.nil (Kd.int .i64) _)))
     refine s_buildSlice h rfl U22 ti3 rfl rfl rfl (.cons rfl (.cons rfl .nil)) rfl rfl rfl hS hq_79 rfl fun w_75 v_76 M_77 hS' ho_78 a h => ?_
     replace hS : Sep w0 w_75 [_, _, _, _, _, M_77] Z := hS'
     clear hS' hq_79
     obtain ⟨t_81, et_81, H⟩ := Option.bind_eq_some_iff.1 H
     refine s_callv h rfl rfl Try.call44 rfl (mesg_write_1.calls K ([x0.At, x0.Total] : List Int) _ _ t_12 _ _ t_81 w0 _ _ _ (Mem.le.refl _) (hS.enter [1, 3] (by decide)) (ho_78.rd (hS.own_zed [1, 3] 4 (by decide)) (Mem.no_le _)) hr_17 et_81) ?_
     rintro _ w_82 ⟨v_85, N_83, M_87, rfl, hS', hr_86⟩
     intro a h
     obtain ⟨N_84, hS'', le_84, ln_84⟩ := hS.call [1, 3] (by decide) rfl (l' := [Mem.one g_4 (.cells ([v_85] : List Value).toArray 23 (0, 0)), M_87]) (ow := []) rfl hS'
     replace hS : Sep w0 w_82 [N_84, _, Mem.one g_4 (.cells ([v_85] : List Value).toArray 23 (0, 0)), _, M_87, _] Z := hS''
     clear hS' hS''
     refine wpList_nil <| x_then_n <| wp_region_lit <| s_load h rfl rfl (hS.load_one (p := 2) rfl U23 rfl rfl) fun a h=>s_fieldAddr h rfl U29 rfl ti23 rfl rfl fun a h=>s_load h rfl rfl (hS.load_one (p := 1) rfl U23 rfl rfl) fun a h=>?_
     obtain ⟨t_89, et_89, H⟩ := Option.bind_eq_some_iff.1 H
     refine s_call h rfl Try.call47 rfl (pack_Bytes.calls K t_81 _ x0.Data _ t_89 w0 _ _ _ (Mem.le.refl _) (hS.enter [] (by decide)) (hr_86.rd (hS.own_zed [] 3 (by decide)) (Mem.no_le _)) (hp0_0.mono (hA.trans (hS.le_zed []))) et_89) ?_
     rintro v_93 w_90 ⟨_, N_91, M_95, rfl, hS', hr_94⟩
     intro a h
     obtain ⟨N_92, hS'', le_92, ln_92⟩ := hS.call [] (by decide) rfl (l' := []) (ow := [M_95]) rfl hS'
     replace hS : Sep w0 w_90 [N_92, _, _, _, _, _, M_95] Z := hS''
     clear hS' hS''
     obtain ⟨w_97, hs', hS'⟩ := hS.store (P := Try.prog) (p := 2) (o := 0) (t := 23) (v := v_93) (vs := [v_93]) rfl ti23 hr_94.cellsA rfl rfl (by intro u hu; simp only [List.mem_cons, List.not_mem_nil, or_false] at hu; rcases hu with rfl <;> first | rfl | exact hr_94.one)
     refine s_store h rfl rfl hs' ?_
     replace hS : Sep w0 w_97 [_, _, Mem.one g_4 (.cells ([v_93] : List Value).toArray 23 (0, 0)), _, _, _, _] Z := hS'
     clear hs' hS'
     refine wpList_nil <| x_block_n <| x_then_n (hKJ_20 _ _ ?_)
     refine wp_seq <| wp_region_lit <| s_load h rfl rfl (hS.load_one (p := 2) rfl U23 rfl rfl) fun a h=>s_assign h rfl rfl fun a h=>wpList_nil ?_
     replace h : Fr 90 a [(2, v_93)] := h.keep [2]
     refine x_then_n <| wp_ret ?_
     obtain ⟨N_98, hS', le_98, lo_98⟩ := hS.freeze 5 rfl
     replace hS : Sep w0 w_97 [N_98, _, _, _, _, _, Mem.no] Z := hS'
     clear hS'
     obtain rfl := Option.some.inj H
     exact f_ret h (rs := [.tmp 2]) rfl (.tmp rfl .nil) ⟨_, rfl, v_93, N_98, rfl, (Sep.sel hS [0] (by decide)), ((hr_94.rd lo_98 (Mem.no_le _)).mono ((Mem.le.refl _).trans (hS.sndA hA)))⟩
    ·rw [if_neg hc_74] at H
     refine c_cond_f h rfl (beq_eq_false_iff_ne.2 hc_74) <| wp_seq <| wp_region_lit <| s_cmp (b := (x0.Kind == 7)) h rfl rfl rfl (.inl ⟨rfl, rfl⟩) fun a h=>s_assign h rfl rfl fun a h=>wpList_nil <| x_then_n ?_
     by_cases hc_99 : x0.Kind = 7
     ·rw [if_pos hc_99] at H
      refine c_cond_t h rfl (beq_iff_eq.2 hc_99) <| wp_seq <| wp_region_lit <| s_move h rfl rfl fun a h=>s_fieldAddr h rfl U29 rfl ti3 rfl rfl fun a h=>s_load h rfl rfl (hS.load_one (p := 1) rfl U3 rfl rfl) fun a h=>s_fieldAddr h rfl U29 rfl ti3 rfl rfl fun a h=>s_load h rfl rfl (hS.load_one (p := 1) rfl U3 rfl rfl) fun a h=>?_
      have hq_104 : Reps (Kd.int .i64) Mem.no ([x0.Hop, x0.Seq] : List Int) _ := ((Reps.one (d := (Kd.int .i64)) (x := x0.Hop) (show (Kd.int .i64).K _ _ [iV x0.Hop] from rfl)).append ((Reps.one (d := (Kd.int .i64)) (x := x0.Seq) (show (Kd.int .i64).K _ _ [iV x0.Seq] from rfl)).append (Reps.nil (Kd.int .i64) _)))
      refine s_buildSlice h rfl U22 ti3 rfl rfl rfl (.cons rfl (.cons rfl .nil)) rfl rfl rfl hS hq_104 rfl fun w_100 v_101 M_102 hS' ho_103 a h => ?_
      replace hS : Sep w0 w_100 [_, _, _, _, _, M_102] Z := hS'
      clear hS' hq_104
      obtain ⟨t_106, et_106, H⟩ := Option.bind_eq_some_iff.1 H
      refine s_callv h rfl rfl Try.call44 rfl (mesg_write_1.calls K ([x0.Hop, x0.Seq] : List Int) _ _ t_12 _ _ t_106 w0 _ _ _ (Mem.le.refl _) (hS.enter [1, 3] (by decide)) (ho_103.rd (hS.own_zed [1, 3] 4 (by decide)) (Mem.no_le _)) hr_17 et_106) ?_
      rintro _ w_107 ⟨v_110, N_108, M_112, rfl, hS', hr_111⟩
      intro a h
      obtain ⟨N_109, hS'', le_109, ln_109⟩ := hS.call [1, 3] (by decide) rfl (l' := [Mem.one g_4 (.cells ([v_110] : List Value).toArray 23 (0, 0)), M_112]) (ow := []) rfl hS'
      replace hS : Sep w0 w_107 [N_109, _, Mem.one g_4 (.cells ([v_110] : List Value).toArray 23 (0, 0)), _, M_112, _] Z := hS''
      clear hS' hS''
      refine wpList_nil <| x_then_n <| h_begin (S := fun w => Sep w0 w [N_109, Mem.one g_2 (.cells ([iV x0.Kind, iV x0.From, iV x0.To, iV x0.View, iV x0.Inst, iV x0.Len, .bool x0.Has, iV x0.Members, iV x0.Source, iV x0.At, iV x0.Total, p0_0, iV x0.Hop, iV x0.Seq, p0_1, p0_2, iV x0.Index, iV x0.Entry.Sess, iV x0.Entry.Seq, iV x0.Entry.Cmd.Kind, iV x0.Entry.Cmd.Who, p0_3, p0_4, p0_5] : List Value).toArray 29 (0, 0)), Mem.no, M_7, M_112, M_102] Z) 8 (by kernel_rfl) rfl (bA 8 0) (by kernel_rfl) hS fun w_114 hS => ?_
      replace hS : Sep w0 w_114 [_, _, _, _, _, _] Z := hS
      refine t_take 1 (bA 8 2) rfl rfl rfl rfl h (hS.sub (.cons (Mem.le.refl _) (.rr (.zz .ii)))) (v := .pointer (some ⟨g_2, 14, none⟩)) (fun w hS => r_fieldAddr h U29 rfl ti22 rfl rfl rfl) fun a h=>t_take 2 (bA 8 6) rfl rfl rfl rfl h (hS.sub (.cons (Mem.le.refl _) (.rr (.zz .ii)))) (v := p0_1) (fun w hS => r_load h rfl (hS.load_one (p := 1) rfl U22 rfl rfl)) fun a h=>t_take 4 (bA 8 22) rfl rfl rfl rfl h (hS.sub (.cons (Mem.le.refl _) (.rr (.zz .ii)))) (v := .pointer (some ⟨g_2, 15, none⟩)) (fun w hS => r_fieldAddr h U29 rfl ti22 rfl rfl rfl) fun a h=>t_take 5 (bA 8 54) rfl rfl rfl rfl h (hS.sub (.cons (Mem.le.refl _) (.rr (.zz .ii)))) (v := p0_2) (fun w hS => r_load h rfl (hS.load_one (p := 1) rfl U22 rfl rfl)) fun a h=>h_event 0 (bA 8 55) rfl (by kernel_rfl) (by kernel_rfl) <| s_load h rfl rfl (hS.load_one (p := 2) rfl U23 rfl rfl) fun a h=>wpList_nil <| x_then_n ⟨(hS.sub (.cons (Mem.le.refl _) (.rr (.zz .ii)))), ?_⟩
      refine h_event 3 (bA 8 63) rfl (by kernel_rfl) (by kernel_rfl) ?_
      obtain ⟨t_115, et_115, H⟩ := Option.bind_eq_some_iff.1 H
      refine s_call h rfl Try.call48 rfl (mesg_row.calls K t_106 _ x0.Have _ t_115 w0 _ _ _ (Mem.le.refl _) (hS.enter [] (by decide)) (hr_111.rd (hS.own_zed [] 3 (by decide)) (Mem.no_le _)) (hp0_1.mono (hA.trans (hS.le_zed []))) et_115) ?_
      rintro v_119 w_116 ⟨_, N_117, M_121, rfl, hS', hr_120⟩
      intro a h
      obtain ⟨N_118, hS'', le_118, ln_118⟩ := hS.call [] (by decide) rfl (l' := []) (ow := [M_121]) rfl hS'
      replace hS : Sep w0 w_116 [N_118, _, _, _, _, _, M_121] Z := hS''
      clear hS' hS''
      refine wpList_nil <| x_then_n ⟨(hS.sub (.cons le_118 (.rr (.zz (.rr (.rr (.rr .nn))))))), ?_⟩
      refine h_event 6 (bA 8 127) rfl (by kernel_rfl) (by kernel_rfl) ?_
      obtain ⟨t_123, et_123, H⟩ := Option.bind_eq_some_iff.1 H
      refine s_call h rfl Try.call48 rfl (mesg_row.calls K t_115 _ x0.Need _ t_123 w0 _ _ _ (Mem.le.refl _) (hS.enter [] (by decide)) (hr_120.rd (hS.own_zed [] 5 (by decide)) (Mem.no_le _)) (hp0_2.mono (hA.trans (hS.le_zed []))) et_123) ?_
      rintro v_127 w_124 ⟨_, N_125, M_129, rfl, hS', hr_128⟩
      intro a h
      obtain ⟨N_126, hS'', le_126, ln_126⟩ := hS.call [] (by decide) rfl (l' := []) (ow := [M_129]) rfl hS'
      replace hS : Sep w0 w_124 [N_126, _, _, _, _, _, _, M_129] Z := hS''
      clear hS' hS''
      refine wpList_nil <| x_then_n ⟨(hS.sub (.cons (le_118.trans le_126) (.rr (.zz (.rr (.rr (.rr .nn))))))), ?_⟩
      refine h_event 7 (bA 8 255) rfl (by kernel_rfl) (by kernel_rfl) ?_
      obtain ⟨w_131, hs', hS'⟩ := hS.store (P := Try.prog) (p := 2) (o := 0) (t := 23) (v := v_127) (vs := [v_127]) rfl ti23 hr_128.cellsA rfl rfl (by intro u hu; simp only [List.mem_cons, List.not_mem_nil, or_false] at hu; rcases hu with rfl <;> first | rfl | exact hr_128.one)
      refine s_store h rfl rfl hs' ?_
      replace hS : Sep w0 w_131 [_, _, Mem.one g_4 (.cells ([v_127] : List Value).toArray 23 (0, 0)), _, _, _, _, _] Z := hS'
      clear hs' hS'
      refine wpList_nil <| x_then_n ⟨(hS.sub (.cons (le_118.trans le_126) (.rr (.zz (.rr (.rr (.rr .nn))))))), ?_⟩
      refine h_done (by kernel_rfl) ?_
      replace h : Fr 90 a [(2, _), (3, _)] := h.keep [2, 3]
      refine x_block_n <| x_then_n (hKJ_20 _ _ ?_)
      refine wp_seq <| wp_region_lit <| s_load h rfl rfl (hS.load_one (p := 2) rfl U23 rfl rfl) fun a h=>s_assign h rfl rfl fun a h=>wpList_nil <| x_then_n <| wp_ret ?_
      obtain ⟨N_132, hS', le_132, lo_132⟩ := hS.freeze 6 rfl
      replace hS : Sep w0 w_131 [N_132, _, _, _, _, _, _, Mem.no] Z := hS'
      clear hS'
      obtain rfl := Option.some.inj H
      exact f_ret h (rs := [.tmp 2]) rfl (.tmp rfl .nil) ⟨_, rfl, v_127, N_132, rfl, (Sep.sel hS [0] (by decide)), ((hr_128.rd lo_132 (Mem.no_le _)).mono ((Mem.le.refl _).trans (hS.sndA hA)))⟩
     ·rw [if_neg hc_99] at H
      refine c_cond_f h rfl (beq_eq_false_iff_ne.2 hc_99) <| wp_seq <| wp_region_lit <| s_cmp (b := (x0.Kind == 8)) h rfl rfl rfl (.inl ⟨rfl, rfl⟩) fun a h=>s_assign h rfl rfl fun a h=>wpList_nil <| x_then_n ?_
      by_cases hc_133 : x0.Kind = 8
      ·rw [if_pos hc_133] at H
       refine c_cond_t h rfl (beq_iff_eq.2 hc_133) <| wp_seq <| wp_region_lit <| s_move h rfl rfl fun a h=>s_fieldAddr h rfl U29 rfl ti3 rfl rfl fun a h=>s_load h rfl rfl (hS.load_one (p := 1) rfl U3 rfl rfl) fun a h=>?_
       have hq_138 : Reps (Kd.int .i64) Mem.no ([x0.Index] : List Int) _ := ((Reps.one (d := (Kd.int .i64)) (x := x0.Index) (show (Kd.int .i64).K _ _ [iV x0.Index] from rfl)).append (Reps.nil (Kd.int .i64) _))
       refine s_buildSlice h rfl U22 ti3 rfl rfl rfl (.cons rfl .nil) rfl rfl rfl hS hq_138 rfl fun w_134 v_135 M_136 hS' ho_137 a h => ?_
       replace hS : Sep w0 w_134 [_, _, _, _, _, M_136] Z := hS'
       clear hS' hq_138
       obtain ⟨t_140, et_140, H⟩ := Option.bind_eq_some_iff.1 H
       refine s_callv h rfl rfl Try.call44 rfl (mesg_write_1.calls K ([x0.Index] : List Int) _ _ t_12 _ _ t_140 w0 _ _ _ (Mem.le.refl _) (hS.enter [1, 3] (by decide)) (ho_137.rd (hS.own_zed [1, 3] 4 (by decide)) (Mem.no_le _)) hr_17 et_140) ?_
       rintro _ w_141 ⟨v_144, N_142, M_146, rfl, hS', hr_145⟩
       intro a h
       obtain ⟨N_143, hS'', le_143, ln_143⟩ := hS.call [1, 3] (by decide) rfl (l' := [Mem.one g_4 (.cells ([v_144] : List Value).toArray 23 (0, 0)), M_146]) (ow := []) rfl hS'
       replace hS : Sep w0 w_141 [N_143, _, Mem.one g_4 (.cells ([v_144] : List Value).toArray 23 (0, 0)), _, M_146, _] Z := hS''
       clear hS' hS''
       refine wpList_nil ?_
       replace h : Fr 90 a [(1, _), (2, _), (3, _)] := h.keep [1, 2, 3]
       refine x_then_n <| wp_region_lit <| s_load h rfl rfl (hS.load_one (p := 2) rfl U23 rfl rfl) fun a h=>s_fieldAddr h rfl U29 rfl ti27 rfl rfl fun a h=>s_load h rfl rfl (hS.load_agg (p := 1) (us := [iV x0.Entry.Sess, iV x0.Entry.Seq, iV x0.Entry.Cmd.Kind, iV x0.Entry.Cmd.Who, p0_3, p0_4, p0_5]) rfl U27 rfl ti27 rfl rfl) fun a h=>?_
       obtain ⟨N_148, hS', le_148, lo_148⟩ := hS.freeze 3 rfl
       replace hS : Sep w0 w_141 [N_148, _, _, _, Mem.no, _] Z := hS'
       clear hS'
       obtain ⟨t_149, et_149, H⟩ := Option.bind_eq_some_iff.1 H
       refine s_call h rfl Try.call49 rfl (mach_PutEntry.calls K t_140 _ x0.Entry _ _ _ t_149 w0 _ _ (A.un N_148) (Mem.un_le (hA.trans (hS.le_zed [])) (hS.new_zed [])) (hS.enter [] (by decide)) ((hr_145.rd lo_148 (Mem.no_le _)).mono ((Mem.le.refl _).trans (hS.sndA hA))) (hp0_3.mono (Mem.le_un _ _)) (hp0_4.mono (Mem.le_un _ _)) (hp0_5.mono (Mem.le_un _ _)) et_149) ?_
       rintro v_153 w_150 ⟨_, N_151, rfl, hS', hr_154⟩
       intro a h
       obtain ⟨N_152, hS'', le_152, ln_152⟩ := hS.call [] (by decide) rfl (l' := []) (ow := []) rfl hS'
       replace hS : Sep w0 w_150 [N_152, _, _, _, _, _] Z := hS''
       clear hS' hS''
       have hr_155 : Rd Kd.u8 (A.un N_152) v_153 t_149 := hr_154.mono (Mem.un_le (Mem.un_left le_152) (ln_152.trans (hS.sndA hA)))
       obtain ⟨w_156, hs', hS'⟩ := hS.store (P := Try.prog) (p := 2) (o := 0) (t := 23) (v := v_153) (vs := [v_153]) rfl ti23 hr_155.cellsA rfl rfl (by intro u hu; simp only [List.mem_cons, List.not_mem_nil, or_false] at hu; rcases hu with rfl <;> first | rfl | exact hr_155.one)
       refine s_store h rfl rfl hs' ?_
       replace hS : Sep w0 w_156 [_, _, Mem.one g_4 (.cells ([v_153] : List Value).toArray 23 (0, 0)), _, _, _] Z := hS'
       clear hs' hS'
       refine wpList_nil <| x_block_n <| x_then_n (hKJ_20 _ _ ?_)
       refine wp_seq <| wp_region_lit <| s_load h rfl rfl (hS.load_one (p := 2) rfl U23 rfl rfl) fun a h=>s_assign h rfl rfl fun a h=>wpList_nil <| x_then_n <| wp_ret ?_
       obtain rfl := Option.some.inj H
       exact f_ret h (rs := [.tmp 2]) rfl (.tmp rfl .nil) ⟨_, rfl, v_153, N_152, rfl, (Sep.sel hS [0] (by decide)), hr_155⟩
      ·rw [if_neg hc_133] at H
       refine c_cond_f h rfl (beq_eq_false_iff_ne.2 hc_133) <| wp_skip <| x_block_n <| x_then_n (hKJ_20 _ _ ?_)
       refine wp_seq <| wp_region_lit <| s_load h rfl rfl (hS.load_one (p := 2) rfl U23 rfl rfl) fun a h=>s_assign h rfl rfl fun a h=>wpList_nil ?_
       replace h : Fr 90 a [(2, v_16)] := h.keep [2]
       refine x_then_n <| wp_ret ?_
       obtain ⟨N_157, hS', le_157, lo_157⟩ := hS.freeze 3 rfl
       replace hS : Sep w0 w_13 [N_157, _, _, _, Mem.no] Z := hS'
       clear hS'
       obtain rfl := Option.some.inj H
       exact f_ret h (rs := [.tmp 2]) rfl (.tmp rfl .nil) ⟨_, rfl, v_16, N_157, rfl, (Sep.sel hS [0] (by decide)), ((hr_17.rd lo_157 (Mem.no_le _)).mono ((Mem.le.refl _).trans (hS.sndA hA)))⟩

set_option maxHeartbeats 4000000 in
set_option maxRecDepth 20000 in
theorem mesg_Encode.calls (K : Nat) (x0 : api_Msg) (p0_0 : Value) (p0_1 : Value) (p0_2 : Value) (p0_3 : Value) (p0_4 : Value) (p0_5 : Value) (r : (List UInt8)) (w0 w : World) (Z A : Mem) (hA : A.le Z) (hS : Sep w0 w [] Z) (hp0_0 : Rd Kd.u8 A p0_0 x0.Data) (hp0_1 : Rd (Kd.int .i64) A p0_1 x0.Have) (hp0_2 : Rd (Kd.int .i64) A p0_2 x0.Need) (hp0_3 : Rd Kd.u8 A p0_3 x0.Entry.Cmd.Key) (hp0_4 : Rd Kd.u8 A p0_4 x0.Entry.Cmd.Val) (hp0_5 : Rd Kd.u8 A p0_5 x0.Entry.Cmd.Old)
    (H : mesg_Encode.f K x0 = some r) :
    Calls Try.prog 11 [.agg ([iV x0.Kind, iV x0.From, iV x0.To, iV x0.View, iV x0.Inst, iV x0.Len, .bool x0.Has, iV x0.Members, iV x0.Source, iV x0.At, iV x0.Total, p0_0, iV x0.Hop, iV x0.Seq, p0_1, p0_2, iV x0.Index, iV x0.Entry.Sess, iV x0.Entry.Seq, iV x0.Entry.Cmd.Kind, iV x0.Entry.Cmd.Who, p0_3, p0_4, p0_5] : List Value).toArray].toArray w (Ret fun v w' => ∃ (u0 : Value) (N : Mem), v = u0 ∧ Sep w0 w' [N] Z ∧ Rd Kd.u8 (A.un N) u0 r) := by
 unfold mesg_Encode.f at H
 refine f_enter _ Try.func11 rfl Try.ntmps11 rfl fun a h=>?_
 replace h : Fr 24 a [(0, .agg ([iV x0.Kind, iV x0.From, iV x0.To, iV x0.View, iV x0.Inst, iV x0.Len, .bool x0.Has, iV x0.Members, iV x0.Source, iV x0.At, iV x0.Total, p0_0, iV x0.Hop, iV x0.Seq, p0_1, p0_2, iV x0.Index, iV x0.Entry.Sess, iV x0.Entry.Seq, iV x0.Entry.Cmd.Kind, iV x0.Entry.Cmd.Who, p0_3, p0_4, p0_5] : List Value).toArray)] := h
 replace hS := hS.start
 replace hS : Sep w0 w [_] Z := hS
 refine wp_seq <| wp_region_lit <| v_box (vs := [iV x0.Kind, iV x0.From, iV x0.To, iV x0.View, iV x0.Inst, iV x0.Len, .bool x0.Has, iV x0.Members, iV x0.Source, iV x0.At, iV x0.Total, p0_0, iV x0.Hop, iV x0.Seq, p0_1, p0_2, iV x0.Index, iV x0.Entry.Sess, iV x0.Entry.Seq, iV x0.Entry.Cmd.Kind, iV x0.Entry.Cmd.Who, p0_3, p0_4, p0_5]) h rfl rfl rfl hS fun w_1 g_2 hS' a h => ?_
 replace hS : Sep w0 w_1 [_, Mem.one g_2 (.cells ([iV x0.Kind, iV x0.From, iV x0.To, iV x0.View, iV x0.Inst, iV x0.Len, .bool x0.Has, iV x0.Members, iV x0.Source, iV x0.At, iV x0.Total, p0_0, iV x0.Hop, iV x0.Seq, p0_1, p0_2, iV x0.Index, iV x0.Entry.Sess, iV x0.Entry.Seq, iV x0.Entry.Cmd.Kind, iV x0.Entry.Cmd.Who, p0_3, p0_4, p0_5] : List Value).toArray 29 (0, 0))] Z := hS'
 clear hS'
 refine s_assign h rfl rfl fun a h=>wpList_nil <| x_then_n <| c_seq fun KJ_3 hKJ_3 => wp_seq <| wp_region_lit <| s_load h rfl rfl (hS.load_agg (p := 1) (us := [iV x0.Kind, iV x0.From, iV x0.To, iV x0.View, iV x0.Inst, iV x0.Len, .bool x0.Has, iV x0.Members, iV x0.Source, iV x0.At, iV x0.Total, p0_0, iV x0.Hop, iV x0.Seq, p0_1, p0_2, iV x0.Index, iV x0.Entry.Sess, iV x0.Entry.Seq, iV x0.Entry.Cmd.Kind, iV x0.Entry.Cmd.Who, p0_3, p0_4, p0_5]) rfl U29 rfl ti29 rfl rfl) fun a h=>?_
 obtain ⟨t_4, et_4, H⟩ := Option.bind_eq_some_iff.1 H
 refine s_call h rfl Try.call24 rfl (mesg_beyond.calls x0 _ _ _ _ _ _ t_4 w0 _ _ _ (Mem.le.refl _) (hS.enter [] (by decide)) (hp0_0.mono (hA.trans (hS.le_zed []))) (hp0_1.mono (hA.trans (hS.le_zed []))) (hp0_2.mono (hA.trans (hS.le_zed []))) (hp0_3.mono (hA.trans (hS.le_zed []))) (hp0_4.mono (hA.trans (hS.le_zed []))) (hp0_5.mono (hA.trans (hS.le_zed []))) et_4) ?_
 rintro _ w_5 ⟨N_6, rfl, hS'⟩
 intro a h
 obtain ⟨N_7, hS'', le_7, ln_7⟩ := hS.call [] (by decide) rfl (l' := []) (ow := []) rfl hS'
 replace hS : Sep w0 w_5 [N_7, _] Z := hS''
 clear hS' hS''
 refine wpList_nil <| x_then_n ?_
 by_cases hc_8 : t_4 = true
 ·rw [if_pos hc_8] at H
  refine c_cond_t h rfl hc_8 <| wp_seq <| wp_region_lit <| s_assign h rfl rfl fun a h=>wpList_nil <| x_then_n <| wp_ret (x_then_r ?_)
  obtain rfl := Option.some.inj H
  exact f_ret h (rs := [.tmp 2]) rfl (.tmp rfl .nil) ⟨_, rfl, nS, N_7, rfl, (Sep.sel hS [0] (by decide)), (Rd.nil _ _)⟩
 ·rw [if_neg hc_8] at H
  refine c_cond_f h rfl (Bool.eq_false_iff.2 hc_8) <| wp_skip <| x_then_n (hKJ_3 _ _ ?_)
  refine wp_seq <| wp_region_lit <| s_load h rfl rfl (hS.load_agg (p := 1) (us := [iV x0.Kind, iV x0.From, iV x0.To, iV x0.View, iV x0.Inst, iV x0.Len, .bool x0.Has, iV x0.Members, iV x0.Source, iV x0.At, iV x0.Total, p0_0, iV x0.Hop, iV x0.Seq, p0_1, p0_2, iV x0.Index, iV x0.Entry.Sess, iV x0.Entry.Seq, iV x0.Entry.Cmd.Kind, iV x0.Entry.Cmd.Who, p0_3, p0_4, p0_5]) rfl U29 rfl ti29 rfl rfl) fun a h=>?_
  obtain ⟨t_9, et_9, H⟩ := Option.bind_eq_some_iff.1 H
  refine s_call h rfl Try.call25 rfl (mesg_write.calls K x0 _ _ _ _ _ _ t_9 w0 _ _ A (hA.trans (hS.le_zed [])) (hS.enter [] (by decide)) hp0_0 hp0_1 hp0_2 hp0_3 hp0_4 hp0_5 et_9) ?_
  rintro v_13 w_10 ⟨_, N_11, rfl, hS', hr_14⟩
  intro a h
  obtain ⟨N_12, hS'', le_12, ln_12⟩ := hS.call [] (by decide) rfl (l' := []) (ow := []) rfl hS'
  replace hS : Sep w0 w_10 [N_12, _] Z := hS''
  clear hS' hS''
  have hr_15 : Rd Kd.u8 (A.un N_12) v_13 t_9 := hr_14.mono (Mem.un_left ln_12)
  refine s_assign h rfl rfl fun a h=>wpList_nil <| x_then_n <| c_seq fun KJ_16 hKJ_16 => wp_seq <| wp_region_lit <| s_move h rfl rfl fun a h=>?_
  obtain ⟨t_17, et_17, H⟩ := Option.bind_eq_some_iff.1 H
  refine s_call h rfl Try.call26 rfl (mesg_read.calls K t_9 _ t_17 w0 _ _ _ (Mem.le.refl _) (hS.enter [] (by decide)) (hr_15.mono (Mem.un_le (hA.trans (hS.le_zed [])) ((Mem.le.refl _).trans (hS.new_zed [])))) et_17) ?_
  rintro _ w_18 ⟨v_21, v_25, v_29, v_33, v_37, v_41, N_19, M_23, M_27, M_31, M_35, M_39, M_43, rfl, hS', hr_22, hr_26, hr_30, hr_34, hr_38, hr_42⟩
  intro a h
  obtain ⟨N_20, hS'', le_20, ln_20⟩ := hS.call [] (by decide) rfl (l' := []) (ow := [M_23, M_27, M_31, M_35, M_39, M_43]) rfl hS'
  replace hS : Sep w0 w_18 [N_20, _, M_23, M_27, M_31, M_35, M_39, M_43] Z := hS''
  clear hS' hS''
  refine s_move h rfl rfl fun a h=>s_extract h rfl rfl rfl fun a h=>s_extract h rfl rfl rfl fun a h=>v_alloc h rfl ti29 hS fun w_45 g_46 hS' a h => ?_
  replace hS : Sep w0 w_45 [_, _, _, _, _, _, _, _, Mem.one g_46 (.cells ([iV 0, iV 0, iV 0, iV 0, iV 0, iV 0, .bool false, iV 0, iV 0, iV 0, iV 0, nS, iV 0, iV 0, nS, nS, iV 0, iV 0, iV 0, iV 0, iV 0, nS, nS, nS] : List Value).toArray 29 (0, 0))] Z := hS'
  clear hS'
  obtain ⟨w_47, hs', hS'⟩ := hS.store (P := Try.prog) (p := 8) (o := 0) (t := 29) (v := .agg ([iV t_17.1.Kind, iV t_17.1.From, iV t_17.1.To, iV t_17.1.View, iV t_17.1.Inst, iV t_17.1.Len, .bool t_17.1.Has, iV t_17.1.Members, iV t_17.1.Source, iV t_17.1.At, iV t_17.1.Total, v_21, iV t_17.1.Hop, iV t_17.1.Seq, v_25, v_29, iV t_17.1.Index, iV t_17.1.Entry.Sess, iV t_17.1.Entry.Seq, iV t_17.1.Entry.Cmd.Kind, iV t_17.1.Entry.Cmd.Who, v_33, v_37, v_41] : List Value).toArray) (vs := [iV t_17.1.Kind, iV t_17.1.From, iV t_17.1.To, iV t_17.1.View, iV t_17.1.Inst, iV t_17.1.Len, .bool t_17.1.Has, iV t_17.1.Members, iV t_17.1.Source, iV t_17.1.At, iV t_17.1.Total, v_21, iV t_17.1.Hop, iV t_17.1.Seq, v_25, v_29, iV t_17.1.Index, iV t_17.1.Entry.Sess, iV t_17.1.Entry.Seq, iV t_17.1.Entry.Cmd.Kind, iV t_17.1.Entry.Cmd.Who, v_33, v_37, v_41]) rfl ti29 rfl rfl rfl (by intro u hu; simp only [List.mem_cons, List.not_mem_nil, or_false] at hu; rcases hu with rfl | rfl | rfl | rfl | rfl | rfl | rfl | rfl | rfl | rfl | rfl | rfl | rfl | rfl | rfl | rfl | rfl | rfl | rfl | rfl | rfl | rfl | rfl | rfl <;> first | rfl | exact hr_22.one | exact hr_26.one | exact hr_30.one | exact hr_34.one | exact hr_38.one | exact hr_42.one)
  refine s_store h rfl rfl hs' ?_
  replace hS : Sep w0 w_47 [_, _, _, _, _, _, _, _, Mem.one g_46 (.cells ([iV t_17.1.Kind, iV t_17.1.From, iV t_17.1.To, iV t_17.1.View, iV t_17.1.Inst, iV t_17.1.Len, .bool t_17.1.Has, iV t_17.1.Members, iV t_17.1.Source, iV t_17.1.At, iV t_17.1.Total, v_21, iV t_17.1.Hop, iV t_17.1.Seq, v_25, v_29, iV t_17.1.Index, iV t_17.1.Entry.Sess, iV t_17.1.Entry.Seq, iV t_17.1.Entry.Cmd.Kind, iV t_17.1.Entry.Cmd.Who, v_33, v_37, v_41] : List Value).toArray 29 (0, 0))] Z := hS'
  clear hs' hS'
  refine s_assign h rfl rfl fun a h=>wpList_nil ?_
  replace h : Fr 24 a [(1, .pointer (some ⟨g_2, 0, none⟩)), (2, nS), (3, v_13), (4, .pointer (some ⟨g_46, 0, none⟩)), (5, .bool t_17.2)] := h.keep [1, 2, 3, 4, 5]
  refine x_then_n <| c_seq fun KJ_48 hKJ_48 => wp_region_lit <| s_move h rfl rfl fun a h=>s_not h rfl rfl fun a h=>s_move h rfl rfl fun a h=>?_
  by_cases hc_49 : t_17.2 = true
  ·rw [if_pos hc_49] at H
   refine s_on h rfl rfl (nf hc_49) <| s_load h rfl rfl (hS.load_agg (p := 8) (us := [iV t_17.1.Kind, iV t_17.1.From, iV t_17.1.To, iV t_17.1.View, iV t_17.1.Inst, iV t_17.1.Len, .bool t_17.1.Has, iV t_17.1.Members, iV t_17.1.Source, iV t_17.1.At, iV t_17.1.Total, v_21, iV t_17.1.Hop, iV t_17.1.Seq, v_25, v_29, iV t_17.1.Index, iV t_17.1.Entry.Sess, iV t_17.1.Entry.Seq, iV t_17.1.Entry.Cmd.Kind, iV t_17.1.Entry.Cmd.Who, v_33, v_37, v_41]) rfl U29 rfl ti29 rfl rfl) fun a h=>s_on h rfl rfl (nf hc_49) <| s_load h rfl rfl (hS.load_agg (p := 1) (us := [iV x0.Kind, iV x0.From, iV x0.To, iV x0.View, iV x0.Inst, iV x0.Len, .bool x0.Has, iV x0.Members, iV x0.Source, iV x0.At, iV x0.Total, p0_0, iV x0.Hop, iV x0.Seq, p0_1, p0_2, iV x0.Index, iV x0.Entry.Sess, iV x0.Entry.Seq, iV x0.Entry.Cmd.Kind, iV x0.Entry.Cmd.Who, p0_3, p0_4, p0_5]) rfl U29 rfl ti29 rfl rfl) fun a h=>s_on h rfl rfl (nf hc_49) ?_
   obtain ⟨t_50, et_50, H⟩ := Option.bind_eq_some_iff.1 H
   refine s_call h rfl Try.call27 rfl (mesg_alike.calls K t_17.1 _ _ _ _ _ _ x0 _ _ _ _ _ _ t_50 w0 _ _ _ (Mem.le.refl _) (hS.enter [] (by decide)) (hr_22.rd (hS.own_zed [] 1 (by decide)) (Mem.no_le _)) (hr_26.rd (hS.own_zed [] 2 (by decide)) (Mem.no_le _)) (hr_30.rd (hS.own_zed [] 3 (by decide)) (Mem.no_le _)) (hr_34.rd (hS.own_zed [] 4 (by decide)) (Mem.no_le _)) (hr_38.rd (hS.own_zed [] 5 (by decide)) (Mem.no_le _)) (hr_42.rd (hS.own_zed [] 6 (by decide)) (Mem.no_le _)) (hp0_0.mono (hA.trans (hS.le_zed []))) (hp0_1.mono (hA.trans (hS.le_zed []))) (hp0_2.mono (hA.trans (hS.le_zed []))) (hp0_3.mono (hA.trans (hS.le_zed []))) (hp0_4.mono (hA.trans (hS.le_zed []))) (hp0_5.mono (hA.trans (hS.le_zed []))) et_50) ?_
   rintro _ w_51 ⟨N_52, rfl, hS'⟩
   intro a h
   obtain ⟨N_53, hS'', le_53, ln_53⟩ := hS.call [] (by decide) rfl (l' := []) (ow := []) rfl hS'
   replace hS : Sep w0 w_51 [N_53, _, _, _, _, _, _, _, _] Z := hS''
   clear hS' hS''
   refine s_on h rfl rfl (nf hc_49) <| s_not h rfl rfl fun a h=>s_pick_f h rfl rfl (nf hc_49) rfl fun a h=>wpList_nil <| x_then_n (hKJ_48 _ _ ?_)
   by_cases hc_54 : t_50 = true
   ·rw [if_pos hc_54] at H
    refine c_cond_f h rfl (nf hc_54) <| wp_skip <| x_then_n (hKJ_16 _ _ ?_)
    refine wp_seq <| wp_region_lit <| s_move h rfl rfl fun a h=>s_assign h rfl rfl fun a h=>wpList_nil <| x_then_n <| wp_ret ?_
    obtain rfl := Option.some.inj H
    exact f_ret h (rs := [.tmp 2]) rfl (.tmp rfl .nil) ⟨_, rfl, v_13, N_53, rfl, (Sep.sel hS [0] (by decide)), (hr_15.mono (Mem.un_left (le_20.trans le_53)))⟩
   ·rw [if_neg hc_54] at H
    refine c_cond_t h rfl (nt (Bool.eq_false_iff.2 hc_54)) <| wp_seq <| wp_region_lit <| s_assign h rfl rfl fun a h=>wpList_nil <| x_then_n <| wp_ret (x_then_r ?_)
    obtain rfl := Option.some.inj H
    exact f_ret h (rs := [.tmp 2]) rfl (.tmp rfl .nil) ⟨_, rfl, nS, N_53, rfl, (Sep.sel hS [0] (by decide)), (Rd.nil _ _)⟩
  ·rw [if_neg hc_49] at H
   refine s_off h rfl rfl rfl (nt (Bool.eq_false_iff.2 hc_49)) fun a h=>s_off h rfl rfl rfl (nt (Bool.eq_false_iff.2 hc_49)) fun a h=>s_off h rfl rfl rfl (nt (Bool.eq_false_iff.2 hc_49)) fun a h=>s_off h rfl rfl rfl (nt (Bool.eq_false_iff.2 hc_49)) fun a h=>s_pick_t h rfl rfl (nt (Bool.eq_false_iff.2 hc_49)) rfl fun a h=>wpList_nil <| x_then_n (hKJ_48 _ _ ?_)
   refine c_cond_t h rfl rfl <| wp_seq <| wp_region_lit <| s_assign h rfl rfl fun a h=>wpList_nil <| x_then_n <| wp_ret (x_then_r ?_)
   obtain rfl := Option.some.inj H
   exact f_ret h (rs := [.tmp 2]) rfl (.tmp rfl .nil) ⟨_, rfl, nS, N_20, rfl, (Sep.sel hS [0] (by decide)), (Rd.nil _ _)⟩

set_option maxHeartbeats 4000000 in
set_option maxRecDepth 20000 in
theorem fram_Wrap.calls (K : Nat) (x0 : api_Msg) (p0_0 : Value) (p0_1 : Value) (p0_2 : Value) (p0_3 : Value) (p0_4 : Value) (p0_5 : Value) (r : (List UInt8)) (w0 w : World) (Z A : Mem) (hA : A.le Z) (hS : Sep w0 w [] Z) (hp0_0 : Rd Kd.u8 A p0_0 x0.Data) (hp0_1 : Rd (Kd.int .i64) A p0_1 x0.Have) (hp0_2 : Rd (Kd.int .i64) A p0_2 x0.Need) (hp0_3 : Rd Kd.u8 A p0_3 x0.Entry.Cmd.Key) (hp0_4 : Rd Kd.u8 A p0_4 x0.Entry.Cmd.Val) (hp0_5 : Rd Kd.u8 A p0_5 x0.Entry.Cmd.Old)
    (H : fram_Wrap.f K x0 = some r) :
    Calls Try.prog 19 [.agg ([iV x0.Kind, iV x0.From, iV x0.To, iV x0.View, iV x0.Inst, iV x0.Len, .bool x0.Has, iV x0.Members, iV x0.Source, iV x0.At, iV x0.Total, p0_0, iV x0.Hop, iV x0.Seq, p0_1, p0_2, iV x0.Index, iV x0.Entry.Sess, iV x0.Entry.Seq, iV x0.Entry.Cmd.Kind, iV x0.Entry.Cmd.Who, p0_3, p0_4, p0_5] : List Value).toArray].toArray w (Ret fun v w' => ∃ (u0 : Value) (N : Mem) (M0 : Mem), v = u0 ∧ Sep w0 w' [N, M0] Z ∧ Own Kd.u8 5 M0 Mem.no u0 r) := by
 unfold fram_Wrap.f at H
 refine f_enter _ Try.func19 rfl Try.ntmps19 rfl fun a h=>?_
 replace h : Fr 11 a [(0, .agg ([iV x0.Kind, iV x0.From, iV x0.To, iV x0.View, iV x0.Inst, iV x0.Len, .bool x0.Has, iV x0.Members, iV x0.Source, iV x0.At, iV x0.Total, p0_0, iV x0.Hop, iV x0.Seq, p0_1, p0_2, iV x0.Index, iV x0.Entry.Sess, iV x0.Entry.Seq, iV x0.Entry.Cmd.Kind, iV x0.Entry.Cmd.Who, p0_3, p0_4, p0_5] : List Value).toArray)] := h
 replace hS := hS.start
 replace hS : Sep w0 w [_] Z := hS
 refine wp_seq <| wp_region_lit <| v_box (vs := [iV x0.Kind, iV x0.From, iV x0.To, iV x0.View, iV x0.Inst, iV x0.Len, .bool x0.Has, iV x0.Members, iV x0.Source, iV x0.At, iV x0.Total, p0_0, iV x0.Hop, iV x0.Seq, p0_1, p0_2, iV x0.Index, iV x0.Entry.Sess, iV x0.Entry.Seq, iV x0.Entry.Cmd.Kind, iV x0.Entry.Cmd.Who, p0_3, p0_4, p0_5]) h rfl rfl rfl hS fun w_1 g_2 hS' a h => ?_
 replace hS : Sep w0 w_1 [_, Mem.one g_2 (.cells ([iV x0.Kind, iV x0.From, iV x0.To, iV x0.View, iV x0.Inst, iV x0.Len, .bool x0.Has, iV x0.Members, iV x0.Source, iV x0.At, iV x0.Total, p0_0, iV x0.Hop, iV x0.Seq, p0_1, p0_2, iV x0.Index, iV x0.Entry.Sess, iV x0.Entry.Seq, iV x0.Entry.Cmd.Kind, iV x0.Entry.Cmd.Who, p0_3, p0_4, p0_5] : List Value).toArray 29 (0, 0))] Z := hS'
 clear hS'
 refine s_assign h rfl rfl fun a h=>wpList_nil <| x_then_n <| wp_seq <| wp_region_lit <| s_load h rfl rfl (hS.load_agg (p := 1) (us := [iV x0.Kind, iV x0.From, iV x0.To, iV x0.View, iV x0.Inst, iV x0.Len, .bool x0.Has, iV x0.Members, iV x0.Source, iV x0.At, iV x0.Total, p0_0, iV x0.Hop, iV x0.Seq, p0_1, p0_2, iV x0.Index, iV x0.Entry.Sess, iV x0.Entry.Seq, iV x0.Entry.Cmd.Kind, iV x0.Entry.Cmd.Who, p0_3, p0_4, p0_5]) rfl U29 rfl ti29 rfl rfl) fun a h=>?_
 obtain ⟨t_3, et_3, H⟩ := Option.bind_eq_some_iff.1 H
 refine s_call h rfl Try.call11 rfl (mesg_Encode.calls K x0 _ _ _ _ _ _ t_3 w0 _ _ A (hA.trans (hS.le_zed [])) (hS.enter [] (by decide)) hp0_0 hp0_1 hp0_2 hp0_3 hp0_4 hp0_5 et_3) ?_
 rintro v_7 w_4 ⟨_, N_5, rfl, hS', hr_8⟩
 intro a h
 obtain ⟨N_6, hS'', le_6, ln_6⟩ := hS.call [] (by decide) rfl (l' := []) (ow := []) rfl hS'
 replace hS : Sep w0 w_4 [N_6, _] Z := hS''
 clear hS' hS''
 have hr_9 : Rd Kd.u8 (A.un N_6) v_7 t_3 := hr_8.mono (Mem.un_left ln_6)
 refine s_assign h rfl rfl fun a h=>wpList_nil <| x_then_n <| c_seq fun KJ_10 hKJ_10 => wp_seq <| wp_region_lit <| s_move h rfl rfl fun a h=>s_len h rfl U23 rfl hr_9 fun a h=>s_cmp (b := ((t_3.length : Int) == 0)) h rfl rfl rfl (.inl ⟨rfl, rfl⟩) fun a h=>wpList_nil <| x_then_n ?_
 by_cases hc_11 : (t_3.length : Int) = 0
 ·rw [if_pos hc_11] at H
  refine c_cond_t h rfl (beq_iff_eq.2 hc_11) <| wp_seq <| wp_region_lit <| s_assign h rfl rfl fun a h=>wpList_nil ?_
  replace h : Fr 11 a [(2, nS), (3, v_7)] := h.keep [2, 3]
  refine x_then_n <| wp_ret (x_then_r ?_)
  have hS' := hS.room
  replace hS : Sep w0 w_4 [_, _, Mem.no] Z := hS'
  clear hS'
  obtain rfl := Option.some.inj H
  exact f_ret h (rs := [.tmp 2]) rfl (.tmp rfl .nil) ⟨_, rfl, nS, N_6, Mem.no, rfl, (Sep.sel hS [0, 2] (by decide)), (Own.nil Kd.u8 5 Mem.no)⟩
 ·rw [if_neg hc_11] at H
  refine c_cond_f h rfl (beq_eq_false_iff_ne.2 hc_11) <| wp_skip <| x_then_n (hKJ_10 _ _ ?_)
  refine wp_seq <| wp_region_lit <| s_move h rfl rfl fun a h=>?_
  obtain ⟨t_13, et_13, H⟩ := Option.bind_eq_some_iff.1 H
  refine s_call h rfl Try.call40 rfl (fram_Sealed.calls K t_3 _ t_13 w0 _ _ _ (Mem.le.refl _) (hS.enter [] (by decide)) (hr_9.mono (Mem.un_le (hA.trans (hS.le_zed [])) ((Mem.le.refl _).trans (hS.new_zed [])))) et_13) ?_
  rintro v_17 w_14 ⟨_, N_15, M_19, rfl, hS', hr_18⟩
  intro a h
  obtain ⟨N_16, hS'', le_16, ln_16⟩ := hS.call [] (by decide) rfl (l' := []) (ow := [M_19]) rfl hS'
  replace hS : Sep w0 w_14 [N_16, _, M_19] Z := hS''
  clear hS' hS''
  refine s_assign h rfl rfl fun a h=>wpList_nil ?_
  replace h : Fr 11 a [(2, v_17)] := h.keep [2]
  refine x_then_n <| wp_ret ?_
  obtain rfl := Option.some.inj H
  exact f_ret h (rs := [.tmp 2]) rfl (.tmp rfl .nil) ⟨_, rfl, v_17, N_16, M_19, rfl, (Sep.sel hS [0, 2] (by decide)), hr_18⟩


end Go.Proofs
