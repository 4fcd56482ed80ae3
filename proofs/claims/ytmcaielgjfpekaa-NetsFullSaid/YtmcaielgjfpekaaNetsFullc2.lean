/- What the calls do: each function once. -/
import Derived.Test.YtmcaielgjfpekaaNetsFullc1
namespace Go.Proofs
open Go.Gp
set_option linter.unusedVariables false
set_option maxHeartbeats 4000000 in
set_option maxRecDepth 20000 in
theorem mesg_write.calls (K : Nat) (x0 : api_Msg) (p0_0 : Value) (p0_1 : Value) (p0_2 : Value) (p0_3 : Value) (p0_4 : Value) (p0_5 : Value) (r : (List UInt8)) (w0 w : World) (Z A : Mem) (hA : A.le Z) (hS : Sep w0 w [] Z) (hp0_0 : Rd Kd.u8 A p0_0 x0.Data) (hp0_1 : Rd (Kd.int .i64) A p0_1 x0.Have) (hp0_2 : Rd (Kd.int .i64) A p0_2 x0.Need) (hp0_3 : Rd Kd.u8 A p0_3 x0.Entry.Cmd.Key) (hp0_4 : Rd Kd.u8 A p0_4 x0.Entry.Cmd.Val) (hp0_5 : Rd Kd.u8 A p0_5 x0.Entry.Cmd.Old)
    (H : mesg_write.f K x0 = some r) :
    Calls Try.prog 56 [.agg ([iV x0.Kind, iV x0.From, iV x0.To, iV x0.View, iV x0.Inst, iV x0.Len, .bool x0.Has, iV x0.Members, iV x0.Source, iV x0.At, iV x0.Total, p0_0, iV x0.Hop, iV x0.Seq, p0_1, p0_2, iV x0.Index, iV x0.Entry.Sess, iV x0.Entry.Seq, iV x0.Entry.Cmd.Kind, iV x0.Entry.Cmd.Who, p0_3, p0_4, p0_5] : List Value).toArray].toArray w (Ret fun v w' => ∃ (u0 : Value) (N : Mem) (M0 : Mem), v = u0 ∧ Sep w0 w' [N, M0] Z ∧ Own Kd.u8 5 M0 Mem.no u0 r) := by
 unfold mesg_write.f at H
 refine f_enter _ Try.func56 rfl Try.ntmps56 rfl fun a h=>?_
 replace h : Fr 90 a [(0, .agg ([iV x0.Kind, iV x0.From, iV x0.To, iV x0.View, iV x0.Inst, iV x0.Len, .bool x0.Has, iV x0.Members, iV x0.Source, iV x0.At, iV x0.Total, p0_0, iV x0.Hop, iV x0.Seq, p0_1, p0_2, iV x0.Index, iV x0.Entry.Sess, iV x0.Entry.Seq, iV x0.Entry.Cmd.Kind, iV x0.Entry.Cmd.Who, p0_3, p0_4, p0_5] : List Value).toArray)] := h
 replace hS := hS.start
 replace hS : Sep w0 w [_] Z := hS
 refine wp_seq <| wp_region_lit <| v_box (vs := [iV x0.Kind, iV x0.From, iV x0.To, iV x0.View, iV x0.Inst, iV x0.Len, .bool x0.Has, iV x0.Members, iV x0.Source, iV x0.At, iV x0.Total, p0_0, iV x0.Hop, iV x0.Seq, p0_1, p0_2, iV x0.Index, iV x0.Entry.Sess, iV x0.Entry.Seq, iV x0.Entry.Cmd.Kind, iV x0.Entry.Cmd.Who, p0_3, p0_4, p0_5]) h rfl rfl rfl hS fun w_1 g_2 hS' a h => ?_
 replace hS : Sep w0 w_1 [_, Mem.one g_2 (.cells ([iV x0.Kind, iV x0.From, iV x0.To, iV x0.View, iV x0.Inst, iV x0.Len, .bool x0.Has, iV x0.Members, iV x0.Source, iV x0.At, iV x0.Total, p0_0, iV x0.Hop, iV x0.Seq, p0_1, p0_2, iV x0.Index, iV x0.Entry.Sess, iV x0.Entry.Seq, iV x0.Entry.Cmd.Kind, iV x0.Entry.Cmd.Who, p0_3, p0_4, p0_5] : List Value).toArray 32 (0, 0))] Z := hS'
 clear hS'
 refine s_assign h rfl rfl fun a h=>wpList_nil <| x_then_n <| wp_seq <| wp_region_lit <| v_alloc h rfl ti26 hS fun w_3 g_4 hS' a h => ?_
 replace hS : Sep w0 w_3 [_, _, Mem.one g_4 (.cells ([nS] : List Value).toArray 26 (0, 0))] Z := hS'
 clear hS'
 refine wpList_nil <| x_then_n <| wp_seq <| wp_region_lit <| s_func h rfl rfl fun a h=>s_assign h rfl rfl fun a h=>wpList_nil <| x_then_n <| wp_seq <| wp_region_lit <| s_move h rfl rfl fun a h=>s_fieldAddr h rfl U32 rfl ti3 rfl rfl fun a h=>?_
 refine s_load h rfl rfl (hS.load_one (p := 1) rfl U3 rfl rfl) fun a h=>s_fieldAddr h rfl U32 rfl ti3 rfl rfl fun a h=>s_load h rfl rfl (hS.load_one (p := 1) rfl U3 rfl rfl) fun a h=>s_fieldAddr h rfl U32 rfl ti3 rfl rfl fun a h=>s_load h rfl rfl (hS.load_one (p := 1) rfl U3 rfl rfl) fun a h=>s_fieldAddr h rfl U32 rfl ti3 rfl rfl fun a h=>s_load h rfl rfl (hS.load_one (p := 1) rfl U3 rfl rfl) fun a h=>?_
 have hq_9 : Reps (Kd.int .i64) Mem.no ([x0.Kind, x0.From, x0.To, x0.View] : List Int) _ := ((Reps.one (d := (Kd.int .i64)) (x := x0.Kind) (show (Kd.int .i64).K _ _ [iV x0.Kind] from rfl)).append ((Reps.one (d := (Kd.int .i64)) (x := x0.From) (show (Kd.int .i64).K _ _ [iV x0.From] from rfl)).append ((Reps.one (d := (Kd.int .i64)) (x := x0.To) (show (Kd.int .i64).K _ _ [iV x0.To] from rfl)).append ((Reps.one (d := (Kd.int .i64)) (x := x0.View) (show (Kd.int .i64).K _ _ [iV x0.View] from rfl)).append (Reps.nil (Kd.int .i64) _)))))
 refine s_buildSlice h rfl U22 ti3 rfl rfl rfl (.cons rfl (.cons rfl (.cons rfl (.cons rfl .nil)))) rfl rfl rfl hS hq_9 rfl fun w_5 v_6 M_7 hS' ho_8 a h => ?_
 replace hS : Sep w0 w_5 [_, _, _, M_7] Z := hS'
 clear hS' hq_9
 have hS' := hS.room
 replace hS : Sep w0 w_5 [_, _, _, _, Mem.no] Z := hS'
 clear hS'
 replace hS : Sep w0 w_5 [_, _, _, _, _] Z := hS
 obtain ⟨t_12, et_12, H⟩ := Option.bind_eq_some_iff.1 H
 refine s_callv h rfl rfl Try.call63 rfl (mesg_write_1.calls K ([x0.Kind, x0.From, x0.To, x0.View] : List Int) _ _ ([] : List UInt8) _ _ t_12 w0 _ _ _ (Mem.le.refl _) (hS.enter [1, 3] (by decide)) (ho_8.rd (hS.own_zed [1, 3] 2 (by decide)) (Mem.no_le _)) (Own.nil Kd.u8 5 Mem.no) et_12) ?_
 rintro _ w_13 ⟨v_16, N_14, M_18, rfl, hS', hr_17⟩
 intro a h
 obtain ⟨N_15, hS'', le_15, ln_15⟩ := hS.call [1, 3] (by decide) rfl (l' := [Mem.one g_4 (.cells ([v_16] : List Value).toArray 26 (0, 0)), M_18]) (ow := []) rfl hS'
 replace hS : Sep w0 w_13 [N_15, _, Mem.one g_4 (.cells ([v_16] : List Value).toArray 26 (0, 0)), _, M_18] Z := hS''
 clear hS' hS''
 refine wpList_nil ?_
 replace h : Fr 90 a [(1, .pointer (some ⟨g_2, 0, none⟩)), (2, nS), (3, .pointer (some ⟨g_4, 0, none⟩)), (4, .func (.func 63) #[] [.pointer (some ⟨g_4, 0, none⟩)].toArray)] := h.keep [1, 2, 3, 4]
 refine x_then_n <| c_seq fun KJ_20 hKJ_20 => wp_seq <| wp_region_lit <| s_fieldAddr h rfl U32 rfl ti3 rfl rfl fun a h=>s_load h rfl rfl (hS.load_one (p := 1) rfl U3 rfl rfl) fun a h=>wpList_nil <| x_then_n <| c_block <| wp_seq <| wp_region_lit <| s_cmp (b := (x0.Kind == 2)) h rfl rfl rfl (.inl ⟨rfl, rfl⟩) fun a h=>?_
 refine s_assign h rfl rfl fun a h=>wpList_nil <| x_then_n ?_
 by_cases hc_21 : x0.Kind = 2
 ·rw [if_pos hc_21] at H
  refine c_cond_t h rfl (beq_iff_eq.2 hc_21) <| h_begin (S := fun w => Sep w0 w [N_15, Mem.one g_2 (.cells ([iV x0.Kind, iV x0.From, iV x0.To, iV x0.View, iV x0.Inst, iV x0.Len, .bool x0.Has, iV x0.Members, iV x0.Source, iV x0.At, iV x0.Total, p0_0, iV x0.Hop, iV x0.Seq, p0_1, p0_2, iV x0.Index, iV x0.Entry.Sess, iV x0.Entry.Seq, iV x0.Entry.Cmd.Kind, iV x0.Entry.Cmd.Who, p0_3, p0_4, p0_5] : List Value).toArray 32 (0, 0)), Mem.no, M_7, Mem.no] Z) 10 (by kernel_rfl) rfl (bA 10 0) (by kernel_rfl) hS fun w_22 hS => ?_
  replace hS : Sep w0 w_22 [_, _, _, _, _] Z := hS
  refine t_take 0 (bA 10 1) rfl rfl rfl rfl h (hS.sub (.cons (Mem.le.refl _) (.rr (.zz (.rr (.zz .ii)))))) (v := .func (.func 63) #[] [.pointer (some ⟨g_4, 0, none⟩)].toArray) (fun w hS => r_move h rfl) fun a h=>t_take 1 (bA 10 3) rfl rfl rfl rfl h (hS.sub (.cons (Mem.le.refl _) (.rr (.zz (.rr (.zz .ii)))))) (v := .pointer (some ⟨g_2, 4, none⟩)) (fun w hS => r_fieldAddr h U32 rfl ti3 rfl rfl rfl) fun a h=>t_take 2 (bA 10 7) rfl rfl rfl rfl h (hS.sub (.cons (Mem.le.refl _) (.rr (.zz (.rr (.zz .ii)))))) (v := iV x0.Inst) (fun w hS => r_load h rfl (hS.load_one (p := 1) rfl U3 rfl rfl)) fun a h=>t_take 3 (bA 10 15) rfl rfl rfl rfl h (hS.sub (.cons (Mem.le.refl _) (.rr (.zz (.rr (.zz .ii)))))) (v := .pointer (some ⟨g_2, 5, none⟩)) (fun w hS => r_fieldAddr h U32 rfl ti3 rfl rfl rfl) fun a h=>t_take 4 (bA 10 31) rfl rfl rfl rfl h (hS.sub (.cons (Mem.le.refl _) (.rr (.zz (.rr (.zz .ii)))))) (v := iV x0.Len) (fun w hS => r_load h rfl (hS.load_one (p := 1) rfl U3 rfl rfl)) fun a h=>t_take 5 (bA 10 63) rfl rfl rfl rfl h (hS.sub (.cons (Mem.le.refl _) (.rr (.zz (.rr (.zz .ii)))))) (v := .pointer (some ⟨g_2, 6, none⟩)) (fun w hS => r_fieldAddr h U32 rfl ti4 rfl rfl rfl) fun a h=>?_
  refine t_take 6 (bA 10 127) rfl rfl rfl rfl h (hS.sub (.cons (Mem.le.refl _) (.rr (.zz (.rr (.zz .ii)))))) (v := .bool x0.Has) (fun w hS => r_load h rfl (hS.load_one (p := 1) rfl U4 rfl rfl)) fun a h=>h_event 7 (bA 10 255) rfl (by kernel_rfl) (by kernel_rfl) ?_
  obtain ⟨t_23, et_23, H⟩ := Option.bind_eq_some_iff.1 H
  refine s_call h rfl Try.call65 rfl (mesg_flag.calls x0.Has t_23 w0 _ _ _ (Mem.le.refl _) (hS.enter [] (by decide))  et_23) ?_
  rintro _ w_24 ⟨N_25, rfl, hS'⟩
  intro a h
  obtain ⟨N_26, hS'', le_26, ln_26⟩ := hS.call [] (by decide) rfl (l' := []) (ow := []) rfl hS'
  replace hS : Sep w0 w_24 [N_26, _, _, _, _] Z := hS''
  clear hS' hS''
  refine wpList_nil <| x_then_n ⟨(hS.sub (.cons le_26 (.rr (.zz (.rr (.zz .ii)))))), ?_⟩
  refine h_event 8 (bA 10 511) rfl (by kernel_rfl) (by kernel_rfl) ?_
  have hq_31 : Reps (Kd.int .i64) Mem.no ([x0.Inst, x0.Len, t_23] : List Int) _ := ((Reps.one (d := (Kd.int .i64)) (x := x0.Inst) (show (Kd.int .i64).K _ _ [iV x0.Inst] from rfl)).append ((Reps.one (d := (Kd.int .i64)) (x := x0.Len) (show (Kd.int .i64).K _ _ [iV x0.Len] from rfl)).append ((Reps.one (d := (Kd.int .i64)) (x := t_23) (show (Kd.int .i64).K _ _ [iV t_23] from rfl)).append (Reps.nil (Kd.int .i64) _))))
  refine s_buildSlice h rfl U22 ti3 rfl rfl rfl (.cons rfl (.cons rfl (.cons rfl .nil))) rfl rfl rfl hS hq_31 rfl fun w_27 v_28 M_29 hS' ho_30 a h => ?_
  replace hS : Sep w0 w_27 [_, _, _, _, _, M_29] Z := hS'
  clear hS' hq_31
  refine wpList_nil <| x_then_n ⟨(hS.sub (.cons le_26 (.rr (.zz (.rr (.zz .nn)))))), ?_⟩
  refine h_event 9 (bA 10 1023) rfl (by kernel_rfl) (by kernel_rfl) ?_
  obtain ⟨t_33, et_33, H⟩ := Option.bind_eq_some_iff.1 H
  refine s_callv h rfl rfl Try.call63 rfl (mesg_write_1.calls K ([x0.Inst, x0.Len, t_23] : List Int) _ _ t_12 _ _ t_33 w0 _ _ _ (Mem.le.refl _) (hS.enter [1, 3] (by decide)) (ho_30.rd (hS.own_zed [1, 3] 4 (by decide)) (Mem.no_le _)) hr_17 et_33) ?_
  rintro _ w_34 ⟨v_37, N_35, M_39, rfl, hS', hr_38⟩
  intro a h
  obtain ⟨N_36, hS'', le_36, ln_36⟩ := hS.call [1, 3] (by decide) rfl (l' := [Mem.one g_4 (.cells ([v_37] : List Value).toArray 26 (0, 0)), M_39]) (ow := []) rfl hS'
  replace hS : Sep w0 w_34 [N_36, _, Mem.one g_4 (.cells ([v_37] : List Value).toArray 26 (0, 0)), _, M_39, _] Z := hS''
  clear hS' hS''
  refine wpList_nil <| x_then_n ⟨(hS.sub (.cons (le_26.trans le_36) (.rr (.zz (.rr (.zz .nn)))))), ?_⟩
  refine h_done (by kernel_rfl) <| x_block_n <| x_then_n (hKJ_20 _ _ ?_)
  refine wp_seq <| wp_region_lit <| s_load h rfl rfl (hS.load_one (p := 2) rfl U26 rfl rfl) fun a h=>s_assign h rfl rfl fun a h=>wpList_nil ?_
  replace h : Fr 90 a [(2, v_37)] := h.keep [2]
  refine x_then_n <| wp_ret ?_
  obtain rfl := Option.some.inj H
  exact f_ret h (rs := [.tmp 2]) rfl (.tmp rfl .nil) ⟨_, rfl, v_37, N_36, M_39, rfl, (Sep.sel hS [0, 4] (by decide)), hr_38⟩
 ·rw [if_neg hc_21] at H
  refine c_cond_f h rfl (beq_eq_false_iff_ne.2 hc_21) <| wp_seq <| wp_region_lit <| s_cmp (b := (x0.Kind == 3)) h rfl rfl rfl (.inl ⟨rfl, rfl⟩) fun a h=>s_assign h rfl rfl fun a h=>wpList_nil <| x_then_n ?_
  by_cases hc_41 : x0.Kind = 3
  ·rw [if_pos hc_41] at H
   refine c_cond_t h rfl (beq_iff_eq.2 hc_41) <| wp_region_lit <| s_move h rfl rfl fun a h=>s_fieldAddr h rfl U32 rfl ti3 rfl rfl fun a h=>s_load h rfl rfl (hS.load_one (p := 1) rfl U3 rfl rfl) fun a h=>s_fieldAddr h rfl U32 rfl ti3 rfl rfl fun a h=>s_load h rfl rfl (hS.load_one (p := 1) rfl U3 rfl rfl) fun a h=>s_fieldAddr h rfl U32 rfl ti3 rfl rfl fun a h=>s_load h rfl rfl (hS.load_one (p := 1) rfl U3 rfl rfl) fun a h=>?_
   have hq_46 : Reps (Kd.int .i64) Mem.no ([x0.Members, x0.Source, x0.Len] : List Int) _ := ((Reps.one (d := (Kd.int .i64)) (x := x0.Members) (show (Kd.int .i64).K _ _ [iV x0.Members] from rfl)).append ((Reps.one (d := (Kd.int .i64)) (x := x0.Source) (show (Kd.int .i64).K _ _ [iV x0.Source] from rfl)).append ((Reps.one (d := (Kd.int .i64)) (x := x0.Len) (show (Kd.int .i64).K _ _ [iV x0.Len] from rfl)).append (Reps.nil (Kd.int .i64) _))))
   refine s_buildSlice h rfl U22 ti3 rfl rfl rfl (.cons rfl (.cons rfl (.cons rfl .nil))) rfl rfl rfl hS hq_46 rfl fun w_42 v_43 M_44 hS' ho_45 a h => ?_
   replace hS : Sep w0 w_42 [_, _, _, _, _, M_44] Z := hS'
   clear hS' hq_46
   obtain ⟨t_48, et_48, H⟩ := Option.bind_eq_some_iff.1 H
   refine s_callv h rfl rfl Try.call63 rfl (mesg_write_1.calls K ([x0.Members, x0.Source, x0.Len] : List Int) _ _ t_12 _ _ t_48 w0 _ _ _ (Mem.le.refl _) (hS.enter [1, 3] (by decide)) (ho_45.rd (hS.own_zed [1, 3] 4 (by decide)) (Mem.no_le _)) hr_17 et_48) ?_
   rintro _ w_49 ⟨v_52, N_50, M_54, rfl, hS', hr_53⟩
   intro a h
   obtain ⟨N_51, hS'', le_51, ln_51⟩ := hS.call [1, 3] (by decide) rfl (l' := [Mem.one g_4 (.cells ([v_52] : List Value).toArray 26 (0, 0)), M_54]) (ow := []) rfl hS'
   replace hS : Sep w0 w_49 [N_51, _, Mem.one g_4 (.cells ([v_52] : List Value).toArray 26 (0, 0)), _, M_54, _] Z := hS''
   clear hS' hS''
   refine wpList_nil ?_
   replace h : Fr 90 a [(2, _), (3, _)] := h.keep [2, 3]
   refine x_block_n <| x_then_n (hKJ_20 _ _ ?_)
   refine wp_seq <| wp_region_lit <| s_load h rfl rfl (hS.load_one (p := 2) rfl U26 rfl rfl) fun a h=>s_assign h rfl rfl fun a h=>wpList_nil <| x_then_n <| wp_ret ?_
   obtain rfl := Option.some.inj H
   exact f_ret h (rs := [.tmp 2]) rfl (.tmp rfl .nil) ⟨_, rfl, v_52, N_51, M_54, rfl, (Sep.sel hS [0, 4] (by decide)), hr_53⟩
  ·rw [if_neg hc_41] at H
   refine c_cond_f h rfl (beq_eq_false_iff_ne.2 hc_41) <| wp_seq <| wp_region_lit <| s_cmp (b := (x0.Kind == 4)) h rfl rfl rfl (.inl ⟨rfl, rfl⟩) fun a h=>s_assign h rfl rfl fun a h=>wpList_nil ?_
   replace h : Fr 90 a [(1, _), (2, _), (3, _), (4, _), (18, iV x0.Kind), (42, .bool (x0.Kind == 4))] := h.keep [1, 2, 3, 4, 18, 42]
   refine x_then_n ?_
   by_cases hc_56 : x0.Kind = 4
   ·rw [if_pos hc_56] at H
    refine c_cond_t h rfl (beq_iff_eq.2 hc_56) <| wp_region_lit <| s_move h rfl rfl fun a h=>s_fieldAddr h rfl U32 rfl ti3 rfl rfl fun a h=>s_load h rfl rfl (hS.load_one (p := 1) rfl U3 rfl rfl) fun a h=>?_
    have hq_61 : Reps (Kd.int .i64) Mem.no ([x0.At] : List Int) _ := ((Reps.one (d := (Kd.int .i64)) (x := x0.At) (show (Kd.int .i64).K _ _ [iV x0.At] from rfl)).append (Reps.nil (Kd.int .i64) _))
    refine s_buildSlice h rfl U22 ti3 rfl rfl rfl (.cons rfl .nil) rfl rfl rfl hS hq_61 rfl fun w_57 v_58 M_59 hS' ho_60 a h => ?_
    replace hS : Sep w0 w_57 [_, _, _, _, _, M_59] Z := hS'
    clear hS' hq_61
    obtain ⟨t_63, et_63, H⟩ := Option.bind_eq_some_iff.1 H
    refine s_callv h rfl rfl Try.call63 rfl (mesg_write_1.calls K ([x0.At] : List Int) _ _ t_12 _ _ t_63 w0 _ _ _ (Mem.le.refl _) (hS.enter [1, 3] (by decide)) (ho_60.rd (hS.own_zed [1, 3] 4 (by decide)) (Mem.no_le _)) hr_17 et_63) ?_
    rintro _ w_64 ⟨v_67, N_65, M_69, rfl, hS', hr_68⟩
    intro a h
    obtain ⟨N_66, hS'', le_66, ln_66⟩ := hS.call [1, 3] (by decide) rfl (l' := [Mem.one g_4 (.cells ([v_67] : List Value).toArray 26 (0, 0)), M_69]) (ow := []) rfl hS'
    replace hS : Sep w0 w_64 [N_66, _, Mem.one g_4 (.cells ([v_67] : List Value).toArray 26 (0, 0)), _, M_69, _] Z := hS''
    clear hS' hS''
    refine wpList_nil <| x_block_n <| x_then_n (hKJ_20 _ _ ?_)
    refine wp_seq <| wp_region_lit <| s_load h rfl rfl (hS.load_one (p := 2) rfl U26 rfl rfl) fun a h=>s_assign h rfl rfl fun a h=>wpList_nil <| x_then_n <| wp_ret ?_
    obtain rfl := Option.some.inj H
    exact f_ret h (rs := [.tmp 2]) rfl (.tmp rfl .nil) ⟨_, rfl, v_67, N_66, M_69, rfl, (Sep.sel hS [0, 4] (by decide)), hr_68⟩
   ·rw [if_neg hc_56] at H
    refine c_cond_f h rfl (beq_eq_false_iff_ne.2 hc_56) <| wp_seq <| wp_region_lit <| s_cmp (b := (x0.Kind == 5)) h rfl rfl rfl (.inl ⟨rfl, rfl⟩) fun a h=>s_assign h rfl rfl fun a h=>wpList_nil <| x_then_n ?_
    by_cases hc_71 : x0.Kind = 5
    ·rw [if_pos hc_71] at H
     refine c_cond_t h rfl (beq_iff_eq.2 hc_71) <| wp_seq <| wp_region_lit <| s_move h rfl rfl fun a h=>s_fieldAddr h rfl U32 rfl ti3 rfl rfl fun a h=>s_load h rfl rfl (hS.load_one (p := 1) rfl U3 rfl rfl) fun a h=>s_fieldAddr h rfl U32 rfl ti3 rfl rfl fun a h=>s_load h rfl rfl (hS.load_one (p := 1) rfl U3 rfl rfl) fun a h=>?_
     have hq_76 : Reps (Kd.int .i64) Mem.no ([x0.At, x0.Total] : List Int) _ := ((Reps.one (d := (Kd.int .i64)) (x := x0.At) (show (Kd.int .i64).K _ _ [iV x0.At] from rfl)).append ((Reps.one (d := (Kd.int .i64)) (x := x0.Total) (show (Kd.int .i64).K _ _ [iV x0.Total] from rfl)).append (Reps.nil (Kd.int .i64) _)))
     refine s_buildSlice h rfl U22 ti3 rfl rfl rfl (.cons rfl (.cons rfl .nil)) rfl rfl rfl hS hq_76 rfl fun w_72 v_73 M_74 hS' ho_75 a h => ?_
     replace hS : Sep w0 w_72 [_, _, _, _, _, M_74] Z := hS'
     clear hS' hq_76
     obtain ⟨t_78, et_78, H⟩ := Option.bind_eq_some_iff.1 H
     refine s_callv h rfl rfl Try.call63 rfl (mesg_write_1.calls K ([x0.At, x0.Total] : List Int) _ _ t_12 _ _ t_78 w0 _ _ _ (Mem.le.refl _) (hS.enter [1, 3] (by decide)) (ho_75.rd (hS.own_zed [1, 3] 4 (by decide)) (Mem.no_le _)) hr_17 et_78) ?_
     rintro _ w_79 ⟨v_82, N_80, M_84, rfl, hS', hr_83⟩
     intro a h
     obtain ⟨N_81, hS'', le_81, ln_81⟩ := hS.call [1, 3] (by decide) rfl (l' := [Mem.one g_4 (.cells ([v_82] : List Value).toArray 26 (0, 0)), M_84]) (ow := []) rfl hS'
     replace hS : Sep w0 w_79 [N_81, _, Mem.one g_4 (.cells ([v_82] : List Value).toArray 26 (0, 0)), _, M_84, _] Z := hS''
     clear hS' hS''
     refine wpList_nil <| x_then_n <| wp_region_lit <| s_load h rfl rfl (hS.load_one (p := 2) rfl U26 rfl rfl) fun a h=>s_fieldAddr h rfl U32 rfl ti26 rfl rfl fun a h=>s_load h rfl rfl (hS.load_one (p := 1) rfl U26 rfl rfl) fun a h=>?_
     obtain ⟨t_86, et_86, H⟩ := Option.bind_eq_some_iff.1 H
     refine s_call h rfl Try.call66 rfl (pack_Bytes.calls K t_78 _ x0.Data _ t_86 w0 _ _ _ (Mem.le.refl _) (hS.enter [] (by decide)) (hr_83.rd (hS.own_zed [] 3 (by decide)) (Mem.no_le _)) (hp0_0.mono (hA.trans (hS.le_zed []))) et_86) ?_
     rintro v_90 w_87 ⟨_, N_88, M_92, rfl, hS', hr_91⟩
     intro a h
     obtain ⟨N_89, hS'', le_89, ln_89⟩ := hS.call [] (by decide) rfl (l' := []) (ow := [M_92]) rfl hS'
     replace hS : Sep w0 w_87 [N_89, _, _, _, _, _, M_92] Z := hS''
     clear hS' hS''
     obtain ⟨w_94, hs', hS'⟩ := hS.store (P := Try.prog) (p := 2) (o := 0) (t := 26) (v := v_90) (vs := [v_90]) rfl ti26 hr_91.cellsA rfl rfl (by intro u hu; simp only [List.mem_cons, List.not_mem_nil, or_false] at hu; rcases hu with rfl <;> first | rfl | exact hr_91.one)
     refine s_store h rfl rfl hs' ?_
     replace hS : Sep w0 w_94 [_, _, Mem.one g_4 (.cells ([v_90] : List Value).toArray 26 (0, 0)), _, _, _, _] Z := hS'
     clear hs' hS'
     refine wpList_nil <| x_block_n <| x_then_n (hKJ_20 _ _ ?_)
     refine wp_seq <| wp_region_lit <| s_load h rfl rfl (hS.load_one (p := 2) rfl U26 rfl rfl) fun a h=>s_assign h rfl rfl fun a h=>wpList_nil ?_
     replace h : Fr 90 a [(2, v_90)] := h.keep [2]
     refine x_then_n <| wp_ret ?_
     obtain rfl := Option.some.inj H
     exact f_ret h (rs := [.tmp 2]) rfl (.tmp rfl .nil) ⟨_, rfl, v_90, N_89, M_92, rfl, (Sep.sel hS [0, 6] (by decide)), hr_91⟩
    ·rw [if_neg hc_71] at H
     refine c_cond_f h rfl (beq_eq_false_iff_ne.2 hc_71) <| wp_seq <| wp_region_lit <| s_cmp (b := (x0.Kind == 7)) h rfl rfl rfl (.inl ⟨rfl, rfl⟩) fun a h=>s_assign h rfl rfl fun a h=>wpList_nil <| x_then_n ?_
     by_cases hc_95 : x0.Kind = 7
     ·rw [if_pos hc_95] at H
      refine c_cond_t h rfl (beq_iff_eq.2 hc_95) <| wp_seq <| wp_region_lit <| s_move h rfl rfl fun a h=>s_fieldAddr h rfl U32 rfl ti3 rfl rfl fun a h=>s_load h rfl rfl (hS.load_one (p := 1) rfl U3 rfl rfl) fun a h=>s_fieldAddr h rfl U32 rfl ti3 rfl rfl fun a h=>s_load h rfl rfl (hS.load_one (p := 1) rfl U3 rfl rfl) fun a h=>?_
      have hq_100 : Reps (Kd.int .i64) Mem.no ([x0.Hop, x0.Seq] : List Int) _ := ((Reps.one (d := (Kd.int .i64)) (x := x0.Hop) (show (Kd.int .i64).K _ _ [iV x0.Hop] from rfl)).append ((Reps.one (d := (Kd.int .i64)) (x := x0.Seq) (show (Kd.int .i64).K _ _ [iV x0.Seq] from rfl)).append (Reps.nil (Kd.int .i64) _)))
      refine s_buildSlice h rfl U22 ti3 rfl rfl rfl (.cons rfl (.cons rfl .nil)) rfl rfl rfl hS hq_100 rfl fun w_96 v_97 M_98 hS' ho_99 a h => ?_
      replace hS : Sep w0 w_96 [_, _, _, _, _, M_98] Z := hS'
      clear hS' hq_100
      obtain ⟨t_102, et_102, H⟩ := Option.bind_eq_some_iff.1 H
      refine s_callv h rfl rfl Try.call63 rfl (mesg_write_1.calls K ([x0.Hop, x0.Seq] : List Int) _ _ t_12 _ _ t_102 w0 _ _ _ (Mem.le.refl _) (hS.enter [1, 3] (by decide)) (ho_99.rd (hS.own_zed [1, 3] 4 (by decide)) (Mem.no_le _)) hr_17 et_102) ?_
      rintro _ w_103 ⟨v_106, N_104, M_108, rfl, hS', hr_107⟩
      intro a h
      obtain ⟨N_105, hS'', le_105, ln_105⟩ := hS.call [1, 3] (by decide) rfl (l' := [Mem.one g_4 (.cells ([v_106] : List Value).toArray 26 (0, 0)), M_108]) (ow := []) rfl hS'
      replace hS : Sep w0 w_103 [N_105, _, Mem.one g_4 (.cells ([v_106] : List Value).toArray 26 (0, 0)), _, M_108, _] Z := hS''
      clear hS' hS''
      refine wpList_nil <| x_then_n <| h_begin (S := fun w => Sep w0 w [N_105, Mem.one g_2 (.cells ([iV x0.Kind, iV x0.From, iV x0.To, iV x0.View, iV x0.Inst, iV x0.Len, .bool x0.Has, iV x0.Members, iV x0.Source, iV x0.At, iV x0.Total, p0_0, iV x0.Hop, iV x0.Seq, p0_1, p0_2, iV x0.Index, iV x0.Entry.Sess, iV x0.Entry.Seq, iV x0.Entry.Cmd.Kind, iV x0.Entry.Cmd.Who, p0_3, p0_4, p0_5] : List Value).toArray 32 (0, 0)), Mem.no, M_7, M_108, M_98] Z) 8 (by kernel_rfl) rfl (bA 8 0) (by kernel_rfl) hS fun w_110 hS => ?_
      replace hS : Sep w0 w_110 [_, _, _, _, _, _] Z := hS
      refine t_take 1 (bA 8 2) rfl rfl rfl rfl h (hS.sub (.cons (Mem.le.refl _) (.rr (.zz .ii)))) (v := .pointer (some ⟨g_2, 14, none⟩)) (fun w hS => r_fieldAddr h U32 rfl ti22 rfl rfl rfl) fun a h=>t_take 2 (bA 8 6) rfl rfl rfl rfl h (hS.sub (.cons (Mem.le.refl _) (.rr (.zz .ii)))) (v := p0_1) (fun w hS => r_load h rfl (hS.load_one (p := 1) rfl U22 rfl rfl)) fun a h=>t_take 4 (bA 8 22) rfl rfl rfl rfl h (hS.sub (.cons (Mem.le.refl _) (.rr (.zz .ii)))) (v := .pointer (some ⟨g_2, 15, none⟩)) (fun w hS => r_fieldAddr h U32 rfl ti22 rfl rfl rfl) fun a h=>t_take 5 (bA 8 54) rfl rfl rfl rfl h (hS.sub (.cons (Mem.le.refl _) (.rr (.zz .ii)))) (v := p0_2) (fun w hS => r_load h rfl (hS.load_one (p := 1) rfl U22 rfl rfl)) fun a h=>h_event 0 (bA 8 55) rfl (by kernel_rfl) (by kernel_rfl) <| s_load h rfl rfl (hS.load_one (p := 2) rfl U26 rfl rfl) fun a h=>wpList_nil <| x_then_n ⟨(hS.sub (.cons (Mem.le.refl _) (.rr (.zz .ii)))), ?_⟩
      refine h_event 3 (bA 8 63) rfl (by kernel_rfl) (by kernel_rfl) ?_
      obtain ⟨t_111, et_111, H⟩ := Option.bind_eq_some_iff.1 H
      refine s_call h rfl Try.call67 rfl (mesg_row.calls K t_102 _ x0.Have _ t_111 w0 _ _ _ (Mem.le.refl _) (hS.enter [] (by decide)) (hr_107.rd (hS.own_zed [] 3 (by decide)) (Mem.no_le _)) (hp0_1.mono (hA.trans (hS.le_zed []))) et_111) ?_
      rintro v_115 w_112 ⟨_, N_113, M_117, rfl, hS', hr_116⟩
      intro a h
      obtain ⟨N_114, hS'', le_114, ln_114⟩ := hS.call [] (by decide) rfl (l' := []) (ow := [M_117]) rfl hS'
      replace hS : Sep w0 w_112 [N_114, _, _, _, _, _, M_117] Z := hS''
      clear hS' hS''
      refine wpList_nil <| x_then_n ⟨(hS.sub (.cons le_114 (.rr (.zz (.rr (.rr (.rr .nn))))))), ?_⟩
      refine h_event 6 (bA 8 127) rfl (by kernel_rfl) (by kernel_rfl) ?_
      obtain ⟨t_119, et_119, H⟩ := Option.bind_eq_some_iff.1 H
      refine s_call h rfl Try.call67 rfl (mesg_row.calls K t_111 _ x0.Need _ t_119 w0 _ _ _ (Mem.le.refl _) (hS.enter [] (by decide)) (hr_116.rd (hS.own_zed [] 5 (by decide)) (Mem.no_le _)) (hp0_2.mono (hA.trans (hS.le_zed []))) et_119) ?_
      rintro v_123 w_120 ⟨_, N_121, M_125, rfl, hS', hr_124⟩
      intro a h
      obtain ⟨N_122, hS'', le_122, ln_122⟩ := hS.call [] (by decide) rfl (l' := []) (ow := [M_125]) rfl hS'
      replace hS : Sep w0 w_120 [N_122, _, _, _, _, _, _, M_125] Z := hS''
      clear hS' hS''
      refine wpList_nil <| x_then_n ⟨(hS.sub (.cons (le_114.trans le_122) (.rr (.zz (.rr (.rr (.rr .nn))))))), ?_⟩
      refine h_event 7 (bA 8 255) rfl (by kernel_rfl) (by kernel_rfl) ?_
      obtain ⟨w_127, hs', hS'⟩ := hS.store (P := Try.prog) (p := 2) (o := 0) (t := 26) (v := v_123) (vs := [v_123]) rfl ti26 hr_124.cellsA rfl rfl (by intro u hu; simp only [List.mem_cons, List.not_mem_nil, or_false] at hu; rcases hu with rfl <;> first | rfl | exact hr_124.one)
      refine s_store h rfl rfl hs' ?_
      replace hS : Sep w0 w_127 [_, _, Mem.one g_4 (.cells ([v_123] : List Value).toArray 26 (0, 0)), _, _, _, _, _] Z := hS'
      clear hs' hS'
      refine wpList_nil <| x_then_n ⟨(hS.sub (.cons (le_114.trans le_122) (.rr (.zz (.rr (.rr (.rr .nn))))))), ?_⟩
      refine h_done (by kernel_rfl) ?_
      replace h : Fr 90 a [(2, _), (3, _)] := h.keep [2, 3]
      refine x_block_n <| x_then_n (hKJ_20 _ _ ?_)
      refine wp_seq <| wp_region_lit <| s_load h rfl rfl (hS.load_one (p := 2) rfl U26 rfl rfl) fun a h=>s_assign h rfl rfl fun a h=>wpList_nil <| x_then_n <| wp_ret ?_
      obtain rfl := Option.some.inj H
      exact f_ret h (rs := [.tmp 2]) rfl (.tmp rfl .nil) ⟨_, rfl, v_123, N_122, M_125, rfl, (Sep.sel hS [0, 7] (by decide)), hr_124⟩
     ·rw [if_neg hc_95] at H
      refine c_cond_f h rfl (beq_eq_false_iff_ne.2 hc_95) <| wp_seq <| wp_region_lit <| s_cmp (b := (x0.Kind == 8)) h rfl rfl rfl (.inl ⟨rfl, rfl⟩) fun a h=>s_assign h rfl rfl fun a h=>wpList_nil <| x_then_n ?_
      by_cases hc_128 : x0.Kind = 8
      ·rw [if_pos hc_128] at H
       refine c_cond_t h rfl (beq_iff_eq.2 hc_128) <| wp_seq <| wp_region_lit <| s_move h rfl rfl fun a h=>s_fieldAddr h rfl U32 rfl ti3 rfl rfl fun a h=>s_load h rfl rfl (hS.load_one (p := 1) rfl U3 rfl rfl) fun a h=>?_
       have hq_133 : Reps (Kd.int .i64) Mem.no ([x0.Index] : List Int) _ := ((Reps.one (d := (Kd.int .i64)) (x := x0.Index) (show (Kd.int .i64).K _ _ [iV x0.Index] from rfl)).append (Reps.nil (Kd.int .i64) _))
       refine s_buildSlice h rfl U22 ti3 rfl rfl rfl (.cons rfl .nil) rfl rfl rfl hS hq_133 rfl fun w_129 v_130 M_131 hS' ho_132 a h => ?_
       replace hS : Sep w0 w_129 [_, _, _, _, _, M_131] Z := hS'
       clear hS' hq_133
       obtain ⟨t_135, et_135, H⟩ := Option.bind_eq_some_iff.1 H
       refine s_callv h rfl rfl Try.call63 rfl (mesg_write_1.calls K ([x0.Index] : List Int) _ _ t_12 _ _ t_135 w0 _ _ _ (Mem.le.refl _) (hS.enter [1, 3] (by decide)) (ho_132.rd (hS.own_zed [1, 3] 4 (by decide)) (Mem.no_le _)) hr_17 et_135) ?_
       rintro _ w_136 ⟨v_139, N_137, M_141, rfl, hS', hr_140⟩
       intro a h
       obtain ⟨N_138, hS'', le_138, ln_138⟩ := hS.call [1, 3] (by decide) rfl (l' := [Mem.one g_4 (.cells ([v_139] : List Value).toArray 26 (0, 0)), M_141]) (ow := []) rfl hS'
       replace hS : Sep w0 w_136 [N_138, _, Mem.one g_4 (.cells ([v_139] : List Value).toArray 26 (0, 0)), _, M_141, _] Z := hS''
       clear hS' hS''
       refine wpList_nil ?_
       replace h : Fr 90 a [(1, _), (2, _), (3, _)] := h.keep [1, 2, 3]
       refine x_then_n <| wp_region_lit <| s_load h rfl rfl (hS.load_one (p := 2) rfl U26 rfl rfl) fun a h=>s_fieldAddr h rfl U32 rfl ti30 rfl rfl fun a h=>s_load h rfl rfl (hS.load_agg (p := 1) (us := [iV x0.Entry.Sess, iV x0.Entry.Seq, iV x0.Entry.Cmd.Kind, iV x0.Entry.Cmd.Who, p0_3, p0_4, p0_5]) rfl U30 rfl ti30 rfl rfl) fun a h=>?_
       obtain ⟨t_143, et_143, H⟩ := Option.bind_eq_some_iff.1 H
       refine s_call h rfl Try.call68 rfl (mach_PutEntry.calls K t_135 _ x0.Entry _ _ _ t_143 w0 _ _ _ (Mem.le.refl _) (hS.enter [] (by decide)) (hr_140.rd (hS.own_zed [] 3 (by decide)) (Mem.no_le _)) (hp0_3.mono (hA.trans (hS.le_zed []))) (hp0_4.mono (hA.trans (hS.le_zed []))) (hp0_5.mono (hA.trans (hS.le_zed []))) et_143) ?_
       rintro v_147 w_144 ⟨_, N_145, M_149, rfl, hS', hr_148⟩
       intro a h
       obtain ⟨N_146, hS'', le_146, ln_146⟩ := hS.call [] (by decide) rfl (l' := []) (ow := [M_149]) rfl hS'
       replace hS : Sep w0 w_144 [N_146, _, _, _, _, _, M_149] Z := hS''
       clear hS' hS''
       obtain ⟨w_151, hs', hS'⟩ := hS.store (P := Try.prog) (p := 2) (o := 0) (t := 26) (v := v_147) (vs := [v_147]) rfl ti26 hr_148.cellsA rfl rfl (by intro u hu; simp only [List.mem_cons, List.not_mem_nil, or_false] at hu; rcases hu with rfl <;> first | rfl | exact hr_148.one)
       refine s_store h rfl rfl hs' ?_
       replace hS : Sep w0 w_151 [_, _, Mem.one g_4 (.cells ([v_147] : List Value).toArray 26 (0, 0)), _, _, _, _] Z := hS'
       clear hs' hS'
       refine wpList_nil <| x_block_n <| x_then_n (hKJ_20 _ _ ?_)
       refine wp_seq <| wp_region_lit <| s_load h rfl rfl (hS.load_one (p := 2) rfl U26 rfl rfl) fun a h=>s_assign h rfl rfl fun a h=>wpList_nil <| x_then_n <| wp_ret ?_
       obtain rfl := Option.some.inj H
       exact f_ret h (rs := [.tmp 2]) rfl (.tmp rfl .nil) ⟨_, rfl, v_147, N_146, M_149, rfl, (Sep.sel hS [0, 6] (by decide)), hr_148⟩
      ·rw [if_neg hc_128] at H
       refine c_cond_f h rfl (beq_eq_false_iff_ne.2 hc_128) <| wp_skip <| x_block_n <| x_then_n (hKJ_20 _ _ ?_)
       refine wp_seq <| wp_region_lit <| s_load h rfl rfl (hS.load_one (p := 2) rfl U26 rfl rfl) fun a h=>s_assign h rfl rfl fun a h=>wpList_nil ?_
       replace h : Fr 90 a [(2, v_16)] := h.keep [2]
       refine x_then_n <| wp_ret ?_
       obtain rfl := Option.some.inj H
       exact f_ret h (rs := [.tmp 2]) rfl (.tmp rfl .nil) ⟨_, rfl, v_16, N_15, M_18, rfl, (Sep.sel hS [0, 4] (by decide)), hr_17⟩

set_option maxHeartbeats 4000000 in
set_option maxRecDepth 20000 in
theorem mesg_Encode.calls (K : Nat) (x0 : api_Msg) (p0_0 : Value) (p0_1 : Value) (p0_2 : Value) (p0_3 : Value) (p0_4 : Value) (p0_5 : Value) (r : (List UInt8)) (w0 w : World) (Z A : Mem) (hA : A.le Z) (hS : Sep w0 w [] Z) (hp0_0 : Rd Kd.u8 A p0_0 x0.Data) (hp0_1 : Rd (Kd.int .i64) A p0_1 x0.Have) (hp0_2 : Rd (Kd.int .i64) A p0_2 x0.Need) (hp0_3 : Rd Kd.u8 A p0_3 x0.Entry.Cmd.Key) (hp0_4 : Rd Kd.u8 A p0_4 x0.Entry.Cmd.Val) (hp0_5 : Rd Kd.u8 A p0_5 x0.Entry.Cmd.Old)
    (H : mesg_Encode.f K x0 = some r) :
    Calls Try.prog 41 [.agg ([iV x0.Kind, iV x0.From, iV x0.To, iV x0.View, iV x0.Inst, iV x0.Len, .bool x0.Has, iV x0.Members, iV x0.Source, iV x0.At, iV x0.Total, p0_0, iV x0.Hop, iV x0.Seq, p0_1, p0_2, iV x0.Index, iV x0.Entry.Sess, iV x0.Entry.Seq, iV x0.Entry.Cmd.Kind, iV x0.Entry.Cmd.Who, p0_3, p0_4, p0_5] : List Value).toArray].toArray w (Ret fun v w' => ∃ (u0 : Value) (N : Mem) (M0 : Mem), v = u0 ∧ Sep w0 w' [N, M0] Z ∧ Own Kd.u8 5 M0 Mem.no u0 r) := by
 unfold mesg_Encode.f at H
 refine f_enter _ Try.func41 rfl Try.ntmps41 rfl fun a h=>?_
 replace h : Fr 24 a [(0, .agg ([iV x0.Kind, iV x0.From, iV x0.To, iV x0.View, iV x0.Inst, iV x0.Len, .bool x0.Has, iV x0.Members, iV x0.Source, iV x0.At, iV x0.Total, p0_0, iV x0.Hop, iV x0.Seq, p0_1, p0_2, iV x0.Index, iV x0.Entry.Sess, iV x0.Entry.Seq, iV x0.Entry.Cmd.Kind, iV x0.Entry.Cmd.Who, p0_3, p0_4, p0_5] : List Value).toArray)] := h
 replace hS := hS.start
 replace hS : Sep w0 w [_] Z := hS
 refine wp_seq <| wp_region_lit <| v_box (vs := [iV x0.Kind, iV x0.From, iV x0.To, iV x0.View, iV x0.Inst, iV x0.Len, .bool x0.Has, iV x0.Members, iV x0.Source, iV x0.At, iV x0.Total, p0_0, iV x0.Hop, iV x0.Seq, p0_1, p0_2, iV x0.Index, iV x0.Entry.Sess, iV x0.Entry.Seq, iV x0.Entry.Cmd.Kind, iV x0.Entry.Cmd.Who, p0_3, p0_4, p0_5]) h rfl rfl rfl hS fun w_1 g_2 hS' a h => ?_
 replace hS : Sep w0 w_1 [_, Mem.one g_2 (.cells ([iV x0.Kind, iV x0.From, iV x0.To, iV x0.View, iV x0.Inst, iV x0.Len, .bool x0.Has, iV x0.Members, iV x0.Source, iV x0.At, iV x0.Total, p0_0, iV x0.Hop, iV x0.Seq, p0_1, p0_2, iV x0.Index, iV x0.Entry.Sess, iV x0.Entry.Seq, iV x0.Entry.Cmd.Kind, iV x0.Entry.Cmd.Who, p0_3, p0_4, p0_5] : List Value).toArray 32 (0, 0))] Z := hS'
 clear hS'
 refine s_assign h rfl rfl fun a h=>wpList_nil <| x_then_n <| c_seq fun KJ_3 hKJ_3 => wp_seq <| wp_region_lit <| s_load h rfl rfl (hS.load_agg (p := 1) (us := [iV x0.Kind, iV x0.From, iV x0.To, iV x0.View, iV x0.Inst, iV x0.Len, .bool x0.Has, iV x0.Members, iV x0.Source, iV x0.At, iV x0.Total, p0_0, iV x0.Hop, iV x0.Seq, p0_1, p0_2, iV x0.Index, iV x0.Entry.Sess, iV x0.Entry.Seq, iV x0.Entry.Cmd.Kind, iV x0.Entry.Cmd.Who, p0_3, p0_4, p0_5]) rfl U32 rfl ti32 rfl rfl) fun a h=>?_
 obtain ⟨t_4, et_4, H⟩ := Option.bind_eq_some_iff.1 H
 refine s_call h rfl Try.call55 rfl (mesg_beyond.calls x0 _ _ _ _ _ _ t_4 w0 _ _ _ (Mem.le.refl _) (hS.enter [] (by decide)) (hp0_0.mono (hA.trans (hS.le_zed []))) (hp0_1.mono (hA.trans (hS.le_zed []))) (hp0_2.mono (hA.trans (hS.le_zed []))) (hp0_3.mono (hA.trans (hS.le_zed []))) (hp0_4.mono (hA.trans (hS.le_zed []))) (hp0_5.mono (hA.trans (hS.le_zed []))) et_4) ?_
 rintro _ w_5 ⟨N_6, rfl, hS'⟩
 intro a h
 obtain ⟨N_7, hS'', le_7, ln_7⟩ := hS.call [] (by decide) rfl (l' := []) (ow := []) rfl hS'
 replace hS : Sep w0 w_5 [N_7, _] Z := hS''
 clear hS' hS''
 refine wpList_nil <| x_then_n ?_
 by_cases hc_8 : t_4 = true
 ·rw [if_pos hc_8] at H
  refine c_cond_t h rfl hc_8 <| wp_seq <| wp_region_lit <| s_assign h rfl rfl fun a h=>wpList_nil <| x_then_n <| wp_ret (x_then_r ?_)
  have hS' := hS.room
  replace hS : Sep w0 w_5 [_, _, Mem.no] Z := hS'
  clear hS'
  obtain rfl := Option.some.inj H
  exact f_ret h (rs := [.tmp 2]) rfl (.tmp rfl .nil) ⟨_, rfl, nS, N_7, Mem.no, rfl, (Sep.sel hS [0, 2] (by decide)), (Own.nil Kd.u8 5 Mem.no)⟩
 ·rw [if_neg hc_8] at H
  refine c_cond_f h rfl (Bool.eq_false_iff.2 hc_8) <| wp_skip <| x_then_n (hKJ_3 _ _ ?_)
  refine wp_seq <| wp_region_lit <| s_load h rfl rfl (hS.load_agg (p := 1) (us := [iV x0.Kind, iV x0.From, iV x0.To, iV x0.View, iV x0.Inst, iV x0.Len, .bool x0.Has, iV x0.Members, iV x0.Source, iV x0.At, iV x0.Total, p0_0, iV x0.Hop, iV x0.Seq, p0_1, p0_2, iV x0.Index, iV x0.Entry.Sess, iV x0.Entry.Seq, iV x0.Entry.Cmd.Kind, iV x0.Entry.Cmd.Who, p0_3, p0_4, p0_5]) rfl U32 rfl ti32 rfl rfl) fun a h=>?_
  obtain ⟨t_10, et_10, H⟩ := Option.bind_eq_some_iff.1 H
  refine s_call h rfl Try.call56 rfl (mesg_write.calls K x0 _ _ _ _ _ _ t_10 w0 _ _ _ (Mem.le.refl _) (hS.enter [] (by decide)) (hp0_0.mono (hA.trans (hS.le_zed []))) (hp0_1.mono (hA.trans (hS.le_zed []))) (hp0_2.mono (hA.trans (hS.le_zed []))) (hp0_3.mono (hA.trans (hS.le_zed []))) (hp0_4.mono (hA.trans (hS.le_zed []))) (hp0_5.mono (hA.trans (hS.le_zed []))) et_10) ?_
  rintro v_14 w_11 ⟨_, N_12, M_16, rfl, hS', hr_15⟩
  intro a h
  obtain ⟨N_13, hS'', le_13, ln_13⟩ := hS.call [] (by decide) rfl (l' := []) (ow := [M_16]) rfl hS'
  replace hS : Sep w0 w_11 [N_13, _, M_16] Z := hS''
  clear hS' hS''
  refine s_assign h rfl rfl fun a h=>wpList_nil <| x_then_n <| c_seq fun KJ_18 hKJ_18 => wp_seq <| wp_region_lit <| s_move h rfl rfl fun a h=>?_
  obtain ⟨t_19, et_19, H⟩ := Option.bind_eq_some_iff.1 H
  refine s_call h rfl Try.call57 rfl (mesg_read.calls K t_10 _ t_19 w0 _ _ _ (Mem.le.refl _) (hS.enter [] (by decide)) (hr_15.rd (hS.own_zed [] 1 (by decide)) (Mem.no_le _)) et_19) ?_
  rintro _ w_20 ⟨v_23, v_27, v_31, v_35, v_39, v_43, N_21, M_25, M_29, M_33, M_37, M_41, M_45, rfl, hS', hr_24, hr_28, hr_32, hr_36, hr_40, hr_44⟩
  intro a h
  obtain ⟨N_22, hS'', le_22, ln_22⟩ := hS.call [] (by decide) rfl (l' := []) (ow := [M_25, M_29, M_33, M_37, M_41, M_45]) rfl hS'
  replace hS : Sep w0 w_20 [N_22, _, _, M_25, M_29, M_33, M_37, M_41, M_45] Z := hS''
  clear hS' hS''
  refine s_move h rfl rfl fun a h=>s_extract h rfl rfl rfl fun a h=>s_extract h rfl rfl rfl fun a h=>v_alloc h rfl ti32 hS fun w_47 g_48 hS' a h => ?_
  replace hS : Sep w0 w_47 [_, _, _, _, _, _, _, _, _, Mem.one g_48 (.cells ([iV 0, iV 0, iV 0, iV 0, iV 0, iV 0, .bool false, iV 0, iV 0, iV 0, iV 0, nS, iV 0, iV 0, nS, nS, iV 0, iV 0, iV 0, iV 0, iV 0, nS, nS, nS] : List Value).toArray 32 (0, 0))] Z := hS'
  clear hS'
  obtain ⟨w_49, hs', hS'⟩ := hS.store (P := Try.prog) (p := 9) (o := 0) (t := 32) (v := .agg ([iV t_19.1.Kind, iV t_19.1.From, iV t_19.1.To, iV t_19.1.View, iV t_19.1.Inst, iV t_19.1.Len, .bool t_19.1.Has, iV t_19.1.Members, iV t_19.1.Source, iV t_19.1.At, iV t_19.1.Total, v_23, iV t_19.1.Hop, iV t_19.1.Seq, v_27, v_31, iV t_19.1.Index, iV t_19.1.Entry.Sess, iV t_19.1.Entry.Seq, iV t_19.1.Entry.Cmd.Kind, iV t_19.1.Entry.Cmd.Who, v_35, v_39, v_43] : List Value).toArray) (vs := [iV t_19.1.Kind, iV t_19.1.From, iV t_19.1.To, iV t_19.1.View, iV t_19.1.Inst, iV t_19.1.Len, .bool t_19.1.Has, iV t_19.1.Members, iV t_19.1.Source, iV t_19.1.At, iV t_19.1.Total, v_23, iV t_19.1.Hop, iV t_19.1.Seq, v_27, v_31, iV t_19.1.Index, iV t_19.1.Entry.Sess, iV t_19.1.Entry.Seq, iV t_19.1.Entry.Cmd.Kind, iV t_19.1.Entry.Cmd.Who, v_35, v_39, v_43]) rfl ti32 rfl rfl rfl (by intro u hu; simp only [List.mem_cons, List.not_mem_nil, or_false] at hu; rcases hu with rfl | rfl | rfl | rfl | rfl | rfl | rfl | rfl | rfl | rfl | rfl | rfl | rfl | rfl | rfl | rfl | rfl | rfl | rfl | rfl | rfl | rfl | rfl | rfl <;> first | rfl | exact hr_24.one | exact hr_28.one | exact hr_32.one | exact hr_36.one | exact hr_40.one | exact hr_44.one)
  refine s_store h rfl rfl hs' ?_
  replace hS : Sep w0 w_49 [_, _, _, _, _, _, _, _, _, Mem.one g_48 (.cells ([iV t_19.1.Kind, iV t_19.1.From, iV t_19.1.To, iV t_19.1.View, iV t_19.1.Inst, iV t_19.1.Len, .bool t_19.1.Has, iV t_19.1.Members, iV t_19.1.Source, iV t_19.1.At, iV t_19.1.Total, v_23, iV t_19.1.Hop, iV t_19.1.Seq, v_27, v_31, iV t_19.1.Index, iV t_19.1.Entry.Sess, iV t_19.1.Entry.Seq, iV t_19.1.Entry.Cmd.Kind, iV t_19.1.Entry.Cmd.Who, v_35, v_39, v_43] : List Value).toArray 32 (0, 0))] Z := hS'
  clear hs' hS'
  refine s_assign h rfl rfl fun a h=>wpList_nil ?_
  replace h : Fr 24 a [(1, .pointer (some ⟨g_2, 0, none⟩)), (2, nS), (3, v_14), (4, .pointer (some ⟨g_48, 0, none⟩)), (5, .bool t_19.2)] := h.keep [1, 2, 3, 4, 5]
  refine x_then_n <| c_seq fun KJ_50 hKJ_50 => wp_region_lit <| s_move h rfl rfl fun a h=>s_not h rfl rfl fun a h=>s_move h rfl rfl fun a h=>?_
  by_cases hc_51 : t_19.2 = true
  ·rw [if_pos hc_51] at H
   refine s_on h rfl rfl (nf hc_51) <| s_load h rfl rfl (hS.load_agg (p := 9) (us := [iV t_19.1.Kind, iV t_19.1.From, iV t_19.1.To, iV t_19.1.View, iV t_19.1.Inst, iV t_19.1.Len, .bool t_19.1.Has, iV t_19.1.Members, iV t_19.1.Source, iV t_19.1.At, iV t_19.1.Total, v_23, iV t_19.1.Hop, iV t_19.1.Seq, v_27, v_31, iV t_19.1.Index, iV t_19.1.Entry.Sess, iV t_19.1.Entry.Seq, iV t_19.1.Entry.Cmd.Kind, iV t_19.1.Entry.Cmd.Who, v_35, v_39, v_43]) rfl U32 rfl ti32 rfl rfl) fun a h=>s_on h rfl rfl (nf hc_51) <| s_load h rfl rfl (hS.load_agg (p := 1) (us := [iV x0.Kind, iV x0.From, iV x0.To, iV x0.View, iV x0.Inst, iV x0.Len, .bool x0.Has, iV x0.Members, iV x0.Source, iV x0.At, iV x0.Total, p0_0, iV x0.Hop, iV x0.Seq, p0_1, p0_2, iV x0.Index, iV x0.Entry.Sess, iV x0.Entry.Seq, iV x0.Entry.Cmd.Kind, iV x0.Entry.Cmd.Who, p0_3, p0_4, p0_5]) rfl U32 rfl ti32 rfl rfl) fun a h=>s_on h rfl rfl (nf hc_51) ?_
   obtain ⟨t_52, et_52, H⟩ := Option.bind_eq_some_iff.1 H
   refine s_call h rfl Try.call58 rfl (mesg_alike.calls K t_19.1 _ _ _ _ _ _ x0 _ _ _ _ _ _ t_52 w0 _ _ _ (Mem.le.refl _) (hS.enter [] (by decide)) (hr_24.rd (hS.own_zed [] 2 (by decide)) (Mem.no_le _)) (hr_28.rd (hS.own_zed [] 3 (by decide)) (Mem.no_le _)) (hr_32.rd (hS.own_zed [] 4 (by decide)) (Mem.no_le _)) (hr_36.rd (hS.own_zed [] 5 (by decide)) (Mem.no_le _)) (hr_40.rd (hS.own_zed [] 6 (by decide)) (Mem.no_le _)) (hr_44.rd (hS.own_zed [] 7 (by decide)) (Mem.no_le _)) (hp0_0.mono (hA.trans (hS.le_zed []))) (hp0_1.mono (hA.trans (hS.le_zed []))) (hp0_2.mono (hA.trans (hS.le_zed []))) (hp0_3.mono (hA.trans (hS.le_zed []))) (hp0_4.mono (hA.trans (hS.le_zed []))) (hp0_5.mono (hA.trans (hS.le_zed []))) et_52) ?_
   rintro _ w_53 ⟨N_54, rfl, hS'⟩
   intro a h
   obtain ⟨N_55, hS'', le_55, ln_55⟩ := hS.call [] (by decide) rfl (l' := []) (ow := []) rfl hS'
   replace hS : Sep w0 w_53 [N_55, _, _, _, _, _, _, _, _, _] Z := hS''
   clear hS' hS''
   refine s_on h rfl rfl (nf hc_51) <| s_not h rfl rfl fun a h=>s_pick_f h rfl rfl (nf hc_51) rfl fun a h=>wpList_nil <| x_then_n (hKJ_50 _ _ ?_)
   by_cases hc_56 : t_52 = true
   ·rw [if_pos hc_56] at H
    refine c_cond_f h rfl (nf hc_56) <| wp_skip <| x_then_n (hKJ_18 _ _ ?_)
    refine wp_seq <| wp_region_lit <| s_move h rfl rfl fun a h=>s_assign h rfl rfl fun a h=>wpList_nil <| x_then_n <| wp_ret ?_
    obtain rfl := Option.some.inj H
    exact f_ret h (rs := [.tmp 2]) rfl (.tmp rfl .nil) ⟨_, rfl, v_14, N_55, M_16, rfl, (Sep.sel hS [0, 2] (by decide)), hr_15⟩
   ·rw [if_neg hc_56] at H
    refine c_cond_t h rfl (nt (Bool.eq_false_iff.2 hc_56)) <| wp_seq <| wp_region_lit <| s_assign h rfl rfl fun a h=>wpList_nil <| x_then_n <| wp_ret (x_then_r ?_)
    have hS' := hS.room
    replace hS : Sep w0 w_53 [_, _, _, _, _, _, _, _, _, _, Mem.no] Z := hS'
    clear hS'
    obtain rfl := Option.some.inj H
    exact f_ret h (rs := [.tmp 2]) rfl (.tmp rfl .nil) ⟨_, rfl, nS, N_55, Mem.no, rfl, (Sep.sel hS [0, 10] (by decide)), (Own.nil Kd.u8 5 Mem.no)⟩
  ·rw [if_neg hc_51] at H
   refine s_off h rfl rfl rfl (nt (Bool.eq_false_iff.2 hc_51)) fun a h=>s_off h rfl rfl rfl (nt (Bool.eq_false_iff.2 hc_51)) fun a h=>s_off h rfl rfl rfl (nt (Bool.eq_false_iff.2 hc_51)) fun a h=>s_off h rfl rfl rfl (nt (Bool.eq_false_iff.2 hc_51)) fun a h=>s_pick_t h rfl rfl (nt (Bool.eq_false_iff.2 hc_51)) rfl fun a h=>wpList_nil <| x_then_n (hKJ_50 _ _ ?_)
   refine c_cond_t h rfl rfl <| wp_seq <| wp_region_lit <| s_assign h rfl rfl fun a h=>wpList_nil <| x_then_n <| wp_ret (x_then_r ?_)
   have hS' := hS.room
   replace hS : Sep w0 w_49 [_, _, _, _, _, _, _, _, _, _, Mem.no] Z := hS'
   clear hS'
   obtain rfl := Option.some.inj H
   exact f_ret h (rs := [.tmp 2]) rfl (.tmp rfl .nil) ⟨_, rfl, nS, N_22, Mem.no, rfl, (Sep.sel hS [0, 10] (by decide)), (Own.nil Kd.u8 5 Mem.no)⟩

set_option maxHeartbeats 4000000 in
set_option maxRecDepth 20000 in
theorem fram_Wrap.calls (K : Nat) (x0 : api_Msg) (p0_0 : Value) (p0_1 : Value) (p0_2 : Value) (p0_3 : Value) (p0_4 : Value) (p0_5 : Value) (r : (List UInt8)) (w0 w : World) (Z A : Mem) (hA : A.le Z) (hS : Sep w0 w [] Z) (hp0_0 : Rd Kd.u8 A p0_0 x0.Data) (hp0_1 : Rd (Kd.int .i64) A p0_1 x0.Have) (hp0_2 : Rd (Kd.int .i64) A p0_2 x0.Need) (hp0_3 : Rd Kd.u8 A p0_3 x0.Entry.Cmd.Key) (hp0_4 : Rd Kd.u8 A p0_4 x0.Entry.Cmd.Val) (hp0_5 : Rd Kd.u8 A p0_5 x0.Entry.Cmd.Old)
    (H : fram_Wrap.f K x0 = some r) :
    Calls Try.prog 25 [.agg ([iV x0.Kind, iV x0.From, iV x0.To, iV x0.View, iV x0.Inst, iV x0.Len, .bool x0.Has, iV x0.Members, iV x0.Source, iV x0.At, iV x0.Total, p0_0, iV x0.Hop, iV x0.Seq, p0_1, p0_2, iV x0.Index, iV x0.Entry.Sess, iV x0.Entry.Seq, iV x0.Entry.Cmd.Kind, iV x0.Entry.Cmd.Who, p0_3, p0_4, p0_5] : List Value).toArray].toArray w (Ret fun v w' => ∃ (u0 : Value) (N : Mem) (M0 : Mem), v = u0 ∧ Sep w0 w' [N, M0] Z ∧ Own Kd.u8 5 M0 Mem.no u0 r) := by
 unfold fram_Wrap.f at H
 refine f_enter _ Try.func25 rfl Try.ntmps25 rfl fun a h=>?_
 replace h : Fr 11 a [(0, .agg ([iV x0.Kind, iV x0.From, iV x0.To, iV x0.View, iV x0.Inst, iV x0.Len, .bool x0.Has, iV x0.Members, iV x0.Source, iV x0.At, iV x0.Total, p0_0, iV x0.Hop, iV x0.Seq, p0_1, p0_2, iV x0.Index, iV x0.Entry.Sess, iV x0.Entry.Seq, iV x0.Entry.Cmd.Kind, iV x0.Entry.Cmd.Who, p0_3, p0_4, p0_5] : List Value).toArray)] := h
 replace hS := hS.start
 replace hS : Sep w0 w [_] Z := hS
 refine wp_seq <| wp_region_lit <| v_box (vs := [iV x0.Kind, iV x0.From, iV x0.To, iV x0.View, iV x0.Inst, iV x0.Len, .bool x0.Has, iV x0.Members, iV x0.Source, iV x0.At, iV x0.Total, p0_0, iV x0.Hop, iV x0.Seq, p0_1, p0_2, iV x0.Index, iV x0.Entry.Sess, iV x0.Entry.Seq, iV x0.Entry.Cmd.Kind, iV x0.Entry.Cmd.Who, p0_3, p0_4, p0_5]) h rfl rfl rfl hS fun w_1 g_2 hS' a h => ?_
 replace hS : Sep w0 w_1 [_, Mem.one g_2 (.cells ([iV x0.Kind, iV x0.From, iV x0.To, iV x0.View, iV x0.Inst, iV x0.Len, .bool x0.Has, iV x0.Members, iV x0.Source, iV x0.At, iV x0.Total, p0_0, iV x0.Hop, iV x0.Seq, p0_1, p0_2, iV x0.Index, iV x0.Entry.Sess, iV x0.Entry.Seq, iV x0.Entry.Cmd.Kind, iV x0.Entry.Cmd.Who, p0_3, p0_4, p0_5] : List Value).toArray 32 (0, 0))] Z := hS'
 clear hS'
 refine s_assign h rfl rfl fun a h=>wpList_nil <| x_then_n <| wp_seq <| wp_region_lit <| s_load h rfl rfl (hS.load_agg (p := 1) (us := [iV x0.Kind, iV x0.From, iV x0.To, iV x0.View, iV x0.Inst, iV x0.Len, .bool x0.Has, iV x0.Members, iV x0.Source, iV x0.At, iV x0.Total, p0_0, iV x0.Hop, iV x0.Seq, p0_1, p0_2, iV x0.Index, iV x0.Entry.Sess, iV x0.Entry.Seq, iV x0.Entry.Cmd.Kind, iV x0.Entry.Cmd.Who, p0_3, p0_4, p0_5]) rfl U32 rfl ti32 rfl rfl) fun a h=>?_
 obtain ⟨t_3, et_3, H⟩ := Option.bind_eq_some_iff.1 H
 refine s_call h rfl Try.call41 rfl (mesg_Encode.calls K x0 _ _ _ _ _ _ t_3 w0 _ _ _ (Mem.le.refl _) (hS.enter [] (by decide)) (hp0_0.mono (hA.trans (hS.le_zed []))) (hp0_1.mono (hA.trans (hS.le_zed []))) (hp0_2.mono (hA.trans (hS.le_zed []))) (hp0_3.mono (hA.trans (hS.le_zed []))) (hp0_4.mono (hA.trans (hS.le_zed []))) (hp0_5.mono (hA.trans (hS.le_zed []))) et_3) ?_
 rintro v_7 w_4 ⟨_, N_5, M_9, rfl, hS', hr_8⟩
 intro a h
 obtain ⟨N_6, hS'', le_6, ln_6⟩ := hS.call [] (by decide) rfl (l' := []) (ow := [M_9]) rfl hS'
 replace hS : Sep w0 w_4 [N_6, _, M_9] Z := hS''
 clear hS' hS''
 refine s_assign h rfl rfl fun a h=>wpList_nil <| x_then_n <| c_seq fun KJ_11 hKJ_11 => wp_seq <| wp_region_lit <| s_move h rfl rfl fun a h=>s_lenO h rfl U26 rfl hr_8 fun a h=>s_cmp (b := ((t_3.length : Int) == 0)) h rfl rfl rfl (.inl ⟨rfl, rfl⟩) fun a h=>wpList_nil <| x_then_n ?_
 by_cases hc_12 : (t_3.length : Int) = 0
 ·rw [if_pos hc_12] at H
  refine c_cond_t h rfl (beq_iff_eq.2 hc_12) <| wp_seq <| wp_region_lit <| s_assign h rfl rfl fun a h=>wpList_nil ?_
  replace h : Fr 11 a [(2, nS), (3, v_7)] := h.keep [2, 3]
  refine x_then_n <| wp_ret (x_then_r ?_)
  have hS' := hS.room
  replace hS : Sep w0 w_4 [_, _, _, Mem.no] Z := hS'
  clear hS'
  obtain rfl := Option.some.inj H
  exact f_ret h (rs := [.tmp 2]) rfl (.tmp rfl .nil) ⟨_, rfl, nS, N_6, Mem.no, rfl, (Sep.sel hS [0, 3] (by decide)), (Own.nil Kd.u8 5 Mem.no)⟩
 ·rw [if_neg hc_12] at H
  refine c_cond_f h rfl (beq_eq_false_iff_ne.2 hc_12) <| wp_skip <| x_then_n (hKJ_11 _ _ ?_)
  refine wp_seq <| wp_region_lit <| s_move h rfl rfl fun a h=>?_
  obtain ⟨t_14, et_14, H⟩ := Option.bind_eq_some_iff.1 H
  refine s_call h rfl Try.call42 rfl (fram_Sealed.calls K t_3 _ t_14 w0 _ _ _ (Mem.le.refl _) (hS.enter [] (by decide)) (hr_8.rd (hS.own_zed [] 1 (by decide)) (Mem.no_le _)) et_14) ?_
  rintro v_18 w_15 ⟨_, N_16, M_20, rfl, hS', hr_19⟩
  intro a h
  obtain ⟨N_17, hS'', le_17, ln_17⟩ := hS.call [] (by decide) rfl (l' := []) (ow := [M_20]) rfl hS'
  replace hS : Sep w0 w_15 [N_17, _, _, M_20] Z := hS''
  clear hS' hS''
  refine s_assign h rfl rfl fun a h=>wpList_nil ?_
  replace h : Fr 11 a [(2, v_18)] := h.keep [2]
  refine x_then_n <| wp_ret ?_
  obtain rfl := Option.some.inj H
  exact f_ret h (rs := [.tmp 2]) rfl (.tmp rfl .nil) ⟨_, rfl, v_18, N_17, M_20, rfl, (Sep.sel hS [0, 3] (by decide)), hr_19⟩

set_option maxHeartbeats 4000000 in
set_option maxRecDepth 20000 in
theorem nets_Net_Send.calls (K : Nat) (g0 : Nat) (x0_n : Int) (x0_mask : Int) (x0_l : List nets_frame) (p0_0 : Value) (M0_0 : Mem) (x1 : api_Msg) (p1_1 : Value) (p1_2 : Value) (p1_3 : Value) (p1_4 : Value) (p1_5 : Value) (p1_6 : Value) (r : Bool × Int × Int × (List nets_frame)) (w0 w : World) (Z A : Mem) (hA : A.le Z) (hS : Sep w0 w [Mem.one g0 (.cells ([iV x0_n, iV x0_mask, p0_0] : List Value).toArray 58 (0, 0)), M0_0] Z) (hp0_0 : Own k_nets_frame 60 M0_0 A p0_0 x0_l) (hp1_1 : Rd Kd.u8 A p1_1 x1.Data) (hp1_2 : Rd (Kd.int .i64) A p1_2 x1.Have) (hp1_3 : Rd (Kd.int .i64) A p1_3 x1.Need) (hp1_4 : Rd Kd.u8 A p1_4 x1.Entry.Cmd.Key) (hp1_5 : Rd Kd.u8 A p1_5 x1.Entry.Cmd.Val) (hp1_6 : Rd Kd.u8 A p1_6 x1.Entry.Cmd.Old)
    (H : nets_Net_Send.f K x0_n x0_mask x0_l x1 = some r) :
    Calls Try.prog 10 [.pointer (some ⟨g0, 0, none⟩), .agg ([iV x1.Kind, iV x1.From, iV x1.To, iV x1.View, iV x1.Inst, iV x1.Len, .bool x1.Has, iV x1.Members, iV x1.Source, iV x1.At, iV x1.Total, p1_1, iV x1.Hop, iV x1.Seq, p1_2, p1_3, iV x1.Index, iV x1.Entry.Sess, iV x1.Entry.Seq, iV x1.Entry.Cmd.Kind, iV x1.Entry.Cmd.Who, p1_4, p1_5, p1_6] : List Value).toArray].toArray w (Ret fun v w' => ∃ (u0 : Value) (N : Mem) (M100 : Mem), v = .bool r.1 ∧ Sep w0 w' [N, Mem.one g0 (.cells ([iV r.2.1, iV r.2.2.1, u0] : List Value).toArray 58 (0, 0)), M100] Z ∧ Own k_nets_frame 60 M100 (A.un N) u0 r.2.2.2) := by
 unfold nets_Net_Send.f at H
 refine f_enter _ Try.func10 rfl Try.ntmps10 rfl fun a h=>?_
 replace h : Fr 50 a [(0, .pointer (some ⟨g0, 0, none⟩)), (1, .agg ([iV x1.Kind, iV x1.From, iV x1.To, iV x1.View, iV x1.Inst, iV x1.Len, .bool x1.Has, iV x1.Members, iV x1.Source, iV x1.At, iV x1.Total, p1_1, iV x1.Hop, iV x1.Seq, p1_2, p1_3, iV x1.Index, iV x1.Entry.Sess, iV x1.Entry.Seq, iV x1.Entry.Cmd.Kind, iV x1.Entry.Cmd.Who, p1_4, p1_5, p1_6] : List Value).toArray)] := h
 replace hS := hS.start
 replace hS : Sep w0 w [_, _, _] Z := hS
 refine wp_seq <| wp_region_lit <| v_box (vs := [iV x1.Kind, iV x1.From, iV x1.To, iV x1.View, iV x1.Inst, iV x1.Len, .bool x1.Has, iV x1.Members, iV x1.Source, iV x1.At, iV x1.Total, p1_1, iV x1.Hop, iV x1.Seq, p1_2, p1_3, iV x1.Index, iV x1.Entry.Sess, iV x1.Entry.Seq, iV x1.Entry.Cmd.Kind, iV x1.Entry.Cmd.Who, p1_4, p1_5, p1_6]) h rfl rfl rfl hS fun w_1 g_2 hS' a h => ?_
 replace hS : Sep w0 w_1 [_, _, _, Mem.one g_2 (.cells ([iV x1.Kind, iV x1.From, iV x1.To, iV x1.View, iV x1.Inst, iV x1.Len, .bool x1.Has, iV x1.Members, iV x1.Source, iV x1.At, iV x1.Total, p1_1, iV x1.Hop, iV x1.Seq, p1_2, p1_3, iV x1.Index, iV x1.Entry.Sess, iV x1.Entry.Seq, iV x1.Entry.Cmd.Kind, iV x1.Entry.Cmd.Who, p1_4, p1_5, p1_6] : List Value).toArray 32 (0, 0))] Z := hS'
 clear hS'
 refine s_assign h rfl rfl fun a h=>wpList_nil <| x_then_n <| wp_seq <| wp_region_lit <| s_load h rfl rfl (hS.load_agg (p := 3) (us := [iV x1.Kind, iV x1.From, iV x1.To, iV x1.View, iV x1.Inst, iV x1.Len, .bool x1.Has, iV x1.Members, iV x1.Source, iV x1.At, iV x1.Total, p1_1, iV x1.Hop, iV x1.Seq, p1_2, p1_3, iV x1.Index, iV x1.Entry.Sess, iV x1.Entry.Seq, iV x1.Entry.Cmd.Kind, iV x1.Entry.Cmd.Who, p1_4, p1_5, p1_6]) rfl U32 rfl ti32 rfl rfl) fun a h=>?_
 obtain ⟨t_3, et_3, H⟩ := Option.bind_eq_some_iff.1 H
 refine s_call h rfl Try.call25 rfl (fram_Wrap.calls K x1 _ _ _ _ _ _ t_3 w0 _ _ _ (Mem.le.refl _) (hS.enter [] (by decide)) (hp1_1.mono (hA.trans (hS.le_zed []))) (hp1_2.mono (hA.trans (hS.le_zed []))) (hp1_3.mono (hA.trans (hS.le_zed []))) (hp1_4.mono (hA.trans (hS.le_zed []))) (hp1_5.mono (hA.trans (hS.le_zed []))) (hp1_6.mono (hA.trans (hS.le_zed []))) et_3) ?_
 rintro v_7 w_4 ⟨_, N_5, M_9, rfl, hS', hr_8⟩
 intro a h
 obtain ⟨N_6, hS'', le_6, ln_6⟩ := hS.call [] (by decide) rfl (l' := []) (ow := [M_9]) rfl hS'
 replace hS : Sep w0 w_4 [N_6, _, _, _, M_9] Z := hS''
 clear hS' hS''
 refine s_assign h rfl rfl fun a h=>wpList_nil <| x_then_n <| c_seq fun KJ_11 hKJ_11 => c_seq fun KJ_12 hKJ_12 => ?_
 have hJ_j_16 : ∀ (x_14 : Bool), nets_Net_Send.J1 K x0_n x0_mask x0_l x1 t_3 x_14 = some r → ∀ (a : Act) (w_15 : World), (∃ (N_13 : Mem), Fr 50 a [(0, .pointer (some ⟨g0, 0, none⟩)), (3, .pointer (some ⟨g_2, 0, none⟩)), (4, .bool false), (5, v_7), (33, .bool x_14)] ∧ Sep w0 w_15 [N_13, Mem.one g0 (.cells ([iV x0_n, iV x0_mask, p0_0] : List Value).toArray 58 (0, 0)), M0_0, Mem.one g_2 (.cells ([iV x1.Kind, iV x1.From, iV x1.To, iV x1.View, iV x1.Inst, iV x1.Len, .bool x1.Has, iV x1.Members, iV x1.Source, iV x1.At, iV x1.Total, p1_1, iV x1.Hop, iV x1.Seq, p1_2, p1_3, iV x1.Index, iV x1.Entry.Sess, iV x1.Entry.Seq, iV x1.Entry.Cmd.Kind, iV x1.Entry.Cmd.Who, p1_4, p1_5, p1_6] : List Value).toArray 32 (0, 0)), M_9] Z ∧ N_6.le N_13) → KJ_12 a w_15 := by
  clear H h hS a
  rintro x_14 H a w_15 ⟨N_13, h, hS, le_13⟩
  unfold nets_Net_Send.J1 at H
  refine hKJ_12 _ _ ?_
  by_cases hc_17 : x_14 = true
  ·rw [if_pos hc_17] at H
   refine c_cond_t h rfl hc_17 <| wp_seq <| wp_region_lit <| s_assign h rfl rfl fun a h=>wpList_nil <| x_then_n <| wp_ret (x_then_r ?_)
   obtain rfl := Option.some.inj H
   exact f_ret h (rs := [.tmp 4]) rfl (.tmp rfl .nil) ⟨_, rfl, p0_0, N_13, M0_0, rfl, (Sep.sel hS [0, 1, 2] (by decide)), (hp0_0.mono (Mem.le_un _ _))⟩
  ·rw [if_neg hc_17] at H
   refine c_cond_f h rfl (Bool.eq_false_iff.2 hc_17) <| wp_skip <| x_then_n (hKJ_11 _ _ ?_)
   refine c_seq fun KJ_18 hKJ_18 => h_begin (S := fun w => Sep w0 w [N_13, Mem.no, Mem.no, Mem.one g_2 (.cells ([iV x1.Kind, iV x1.From, iV x1.To, iV x1.View, iV x1.Inst, iV x1.Len, .bool x1.Has, iV x1.Members, iV x1.Source, iV x1.At, iV x1.Total, p1_1, iV x1.Hop, iV x1.Seq, p1_2, p1_3, iV x1.Index, iV x1.Entry.Sess, iV x1.Entry.Seq, iV x1.Entry.Cmd.Kind, iV x1.Entry.Cmd.Who, p1_4, p1_5, p1_6] : List Value).toArray 32 (0, 0)), Mem.no] Z) 17 (by kernel_rfl) rfl (bA 17 0) (by kernel_rfl) hS fun w_19 hS => ?_
   replace hS : Sep w0 w_19 [_, _, _, _, _] Z := hS
   refine t_take 0 (bA 17 1) rfl rfl rfl rfl h (hS.sub (.cons (Mem.le.refl _) (.zz (.zz (.rr (.zz .ii)))))) (v := .pointer (some ⟨g0, 0, none⟩)) (fun w hS => r_move h rfl) fun a h=>t_take 1 (bA 17 3) rfl rfl rfl rfl h (hS.sub (.cons (Mem.le.refl _) (.zz (.zz (.rr (.zz .ii)))))) (v := .pointer (some ⟨g0, 0, none⟩)) (fun w hS => r_move h rfl) fun a h=>t_take 2 (bA 17 7) rfl rfl rfl rfl h (hS.sub (.cons (Mem.le.refl _) (.zz (.zz (.rr (.zz .ii)))))) (v := .pointer (some ⟨g0, 0, none⟩)) (fun w hS => r_nilCheck h rfl) fun a h=>t_take 3 (bA 17 15) rfl rfl rfl rfl h (hS.sub (.cons (Mem.le.refl _) (.zz (.zz (.rr (.zz .ii)))))) (v := .pointer (some ⟨g0, 2, none⟩)) (fun w hS => r_fieldAddr h U58 rfl ti56 rfl rfl rfl) fun a h=>t_take 5 (bA 17 47) rfl rfl rfl rfl h (hS.sub (.cons (Mem.le.refl _) (.zz (.zz (.rr (.zz .ii)))))) (v := .pointer (some ⟨g_2, 1, none⟩)) (fun w hS => r_fieldAddr h U32 rfl ti3 rfl rfl rfl) fun a h=>t_take 6 (bA 17 111) rfl rfl rfl rfl h (hS.sub (.cons (Mem.le.refl _) (.zz (.zz (.rr (.zz .ii)))))) (v := iV x1.From) (fun w hS => r_load h rfl (hS.load_one (p := 3) rfl U3 rfl rfl)) fun a h=>?_
   refine t_take 7 (bA 17 239) rfl rfl rfl rfl h (hS.sub (.cons (Mem.le.refl _) (.zz (.zz (.rr (.zz .ii)))))) (v := .pointer (some ⟨g_2, 2, none⟩)) (fun w hS => r_fieldAddr h U32 rfl ti3 rfl rfl rfl) fun a h=>t_take 8 (bA 17 495) rfl rfl rfl rfl h (hS.sub (.cons (Mem.le.refl _) (.zz (.zz (.rr (.zz .ii)))))) (v := iV x1.To) (fun w hS => r_load h rfl (hS.load_one (p := 3) rfl U3 rfl rfl)) fun a h=>t_take 9 (bA 17 1007) rfl rfl rfl rfl h (hS.sub (.cons (Mem.le.refl _) (.zz (.zz (.rr (.zz .ii)))))) (v := v_7) (fun w hS => r_move h rfl) fun a h=>t_take 10 (bA 17 2031) rfl rfl rfl rfl h (hS.sub (.cons (Mem.le.refl _) (.zz (.zz (.rr (.zz .ii)))))) (v := .agg ([iV x1.From, iV x1.To, v_7] : List Value).toArray) (fun w hS => r_build h ti44 pl44 rfl (.cons rfl (.cons rfl (.cons hr_8.cells .nil))) (cs := [iV x1.From, iV x1.To, v_7]) (by kernel_rfl)) fun a h=>t_take 11 (bA 17 4079) rfl rfl rfl rfl h (hS.sub (.cons (Mem.le.refl _) (.zz (.zz (.rr (.zz .ii)))))) (v := .agg ([iV x1.From, iV x1.To, v_7, .bool false] : List Value).toArray) (fun w hS => r_build h ti60 pl60 rfl (.cons rfl .nil) (cs := [iV x1.From, iV x1.To, v_7, .bool false]) (by kernel_rfl)) fun a h=>?_
   obtain ⟨t_27, et_27, H⟩ := Option.bind_eq_some_iff.1 H
   refine h_events [4, 12] (by kernel_rfl) (by simp) ?_
   intro i hi; simp only [List.mem_cons, List.not_mem_nil, or_false] at hi; rcases hi with rfl | rfl
   ·refine ⟨_, (bA 17 4095), rfl, by kernel_rfl, ?_⟩
    refine s_load h rfl rfl (hS.load_one (p := 1) rfl U56 rfl rfl) fun a h=>wpList_nil <| x_then_n ⟨(hS.sub (.cons (Mem.le.refl _) (.zz (.zz (.rr (.zz .ii)))))), ?_⟩
    refine h_event 12 (bA 17 8191) rfl (by kernel_rfl) (by kernel_rfl) ?_
    obtain ⟨N_20, hS', le_20, lo_20⟩ := hS.freeze 3 rfl
    replace hS : Sep w0 w_19 [N_20, _, _, _, Mem.no] Z := hS'
    clear hS'
    have hq_25 : Reps k_nets_frame N_20 ([(⟨(⟨x1.From, x1.To, t_3⟩ : api_Flight), false⟩ : nets_frame)] : List nets_frame) _ := ((Reps.one (d := k_nets_frame) (x := (⟨(⟨x1.From, x1.To, t_3⟩ : api_Flight), false⟩ : nets_frame)) (k_nets_frame.mk' (hr_8.rd lo_20 (Mem.no_le _)))).append (Reps.nil k_nets_frame _))
    refine s_buildSlice h rfl U56 ti60 rfl rfl rfl (.cons rfl .nil) rfl rfl rfl hS hq_25 rfl fun w_21 v_22 M_23 hS' ho_24 a h => ?_
    replace hS : Sep w0 w_21 [_, _, _, _, _, M_23] Z := hS'
    clear hS' hq_25
    refine wpList_nil <| x_then_n ⟨(hS.sub (.cons le_20 (.zz (.zz (.rr (.zz .nn)))))), ?_⟩
    refine h_event 13 (bA 17 16383) rfl (by kernel_rfl) (by kernel_rfl) <| s_append (J := N_20) (I' := (A.un N_20)) (p := 2) 2932031007402 h rfl rfl rfl U56 ti60 rfl rfl rfl rfl hS rfl hp0_0 (ho_24.src (hS.own 5)) (Mem.le_un _ _) ((Mem.le.refl _).trans (hS.sndA hA)) et_27 fun w_28 v_29 M_30 hS' ho_31 a h => ?_
    replace hS : Sep w0 w_28 [_, _, M_30, _, _, _] Z := hS'
    clear hS'
    refine wpList_nil <| x_then_n ⟨(hS.sub (.cons le_20 (.zz (.zz (.rr (.zz .nn)))))), ?_⟩
    refine t_take 14 (bA 17 32767) rfl rfl rfl rfl h (hS.sub (.cons le_20 (.zz (.zz (.rr (.zz .nn)))))) (v := .pointer (some ⟨g0, 0, none⟩)) (fun w hS => r_nilCheck h rfl) fun a h=>t_take 15 (bA 17 65535) rfl rfl rfl rfl h (hS.sub (.cons le_20 (.zz (.zz (.rr (.zz .nn)))))) (v := .pointer (some ⟨g0, 2, none⟩)) (fun w hS => r_fieldAddr h U58 rfl ti56 rfl rfl rfl) fun a h=>h_event 16 (bA 17 131071) rfl (by kernel_rfl) (by kernel_rfl) ?_
    obtain ⟨w_33, hs', hS'⟩ := hS.store (P := Try.prog) (p := 1) (o := 2) (t := 56) (v := v_29) (vs := [v_29]) rfl ti56 ho_31.cellsA rfl rfl (by intro u hu; simp only [List.mem_cons, List.not_mem_nil, or_false] at hu; rcases hu with rfl <;> first | rfl | exact ho_31.one)
    refine s_store h rfl rfl hs' ?_
    replace hS : Sep w0 w_33 [_, Mem.one g0 (.cells ([_, _, v_29] : List Value).toArray 58 (0, 0)), _, _, _, _] Z := hS'
    clear hs' hS'
    refine wpList_nil <| x_then_n ⟨(hS.sub (.cons le_20 (.zz (.zz (.rr (.zz .nn)))))), ?_⟩
    refine h_done (by kernel_rfl) <| x_then_n (hKJ_18 _ _ ?_)
    refine wp_seq <| wp_region_lit <| s_assign h rfl rfl fun a h=>wpList_nil ?_
    replace h : Fr 50 a [(4, .bool true)] := h.keep [4]
    refine x_then_n <| wp_ret ?_
    obtain rfl := Option.some.inj H
    exact f_ret h (rs := [.tmp 4]) rfl (.tmp rfl .nil) ⟨_, rfl, v_29, N_20, M_30, rfl, (Sep.sel hS [0, 1, 2] (by decide)), (ho_31.mono (Mem.un_left (Mem.le.refl _)))⟩
   ·refine ⟨_, (bA 17 8175), rfl, by kernel_rfl, ?_⟩
    obtain ⟨N_34, hS', le_34, lo_34⟩ := hS.freeze 3 rfl
    replace hS : Sep w0 w_19 [N_34, _, _, _, Mem.no] Z := hS'
    clear hS'
    have hq_39 : Reps k_nets_frame N_34 ([(⟨(⟨x1.From, x1.To, t_3⟩ : api_Flight), false⟩ : nets_frame)] : List nets_frame) _ := ((Reps.one (d := k_nets_frame) (x := (⟨(⟨x1.From, x1.To, t_3⟩ : api_Flight), false⟩ : nets_frame)) (k_nets_frame.mk' (hr_8.rd lo_34 (Mem.no_le _)))).append (Reps.nil k_nets_frame _))
    refine s_buildSlice h rfl U56 ti60 rfl rfl rfl (.cons rfl .nil) rfl rfl rfl hS hq_39 rfl fun w_35 v_36 M_37 hS' ho_38 a h => ?_
    replace hS : Sep w0 w_35 [_, _, _, _, _, M_37] Z := hS'
    clear hS' hq_39
    refine wpList_nil <| x_then_n ⟨(hS.sub (.cons le_34 (.zz (.zz (.rr (.zz .nn)))))), ?_⟩
    refine h_event 4 (bA 17 8191) rfl (by kernel_rfl) (by kernel_rfl) <| s_load h rfl rfl (hS.load_one (p := 1) rfl U56 rfl rfl) fun a h=>wpList_nil <| x_then_n ⟨(hS.sub (.cons le_34 (.zz (.zz (.rr (.zz .nn)))))), ?_⟩
    refine h_event 13 (bA 17 16383) rfl (by kernel_rfl) (by kernel_rfl) <| s_append (J := N_34) (I' := (A.un N_34)) (p := 2) 2932031007402 h rfl rfl rfl U56 ti60 rfl rfl rfl rfl hS rfl hp0_0 (ho_38.src (hS.own 5)) (Mem.le_un _ _) ((Mem.le.refl _).trans (hS.sndA hA)) et_27 fun w_42 v_43 M_44 hS' ho_45 a h => ?_
    replace hS : Sep w0 w_42 [_, _, M_44, _, _, _] Z := hS'
    clear hS'
    refine wpList_nil <| x_then_n ⟨(hS.sub (.cons le_34 (.zz (.zz (.rr (.zz .nn)))))), ?_⟩
    refine t_take 14 (bA 17 32767) rfl rfl rfl rfl h (hS.sub (.cons le_34 (.zz (.zz (.rr (.zz .nn)))))) (v := .pointer (some ⟨g0, 0, none⟩)) (fun w hS => r_nilCheck h rfl) fun a h=>t_take 15 (bA 17 65535) rfl rfl rfl rfl h (hS.sub (.cons le_34 (.zz (.zz (.rr (.zz .nn)))))) (v := .pointer (some ⟨g0, 2, none⟩)) (fun w hS => r_fieldAddr h U58 rfl ti56 rfl rfl rfl) fun a h=>h_event 16 (bA 17 131071) rfl (by kernel_rfl) (by kernel_rfl) ?_
    obtain ⟨w_47, hs', hS'⟩ := hS.store (P := Try.prog) (p := 1) (o := 2) (t := 56) (v := v_43) (vs := [v_43]) rfl ti56 ho_45.cellsA rfl rfl (by intro u hu; simp only [List.mem_cons, List.not_mem_nil, or_false] at hu; rcases hu with rfl <;> first | rfl | exact ho_45.one)
    refine s_store h rfl rfl hs' ?_
    replace hS : Sep w0 w_47 [_, Mem.one g0 (.cells ([_, _, v_43] : List Value).toArray 58 (0, 0)), _, _, _, _] Z := hS'
    clear hs' hS'
    refine wpList_nil <| x_then_n ⟨(hS.sub (.cons le_34 (.zz (.zz (.rr (.zz .nn)))))), ?_⟩
    refine h_done (by kernel_rfl) <| x_then_n (hKJ_18 _ _ ?_)
    refine wp_seq <| wp_region_lit <| s_assign h rfl rfl fun a h=>wpList_nil ?_
    replace h : Fr 50 a [(4, .bool true)] := h.keep [4]
    refine x_then_n <| wp_ret ?_
    obtain rfl := Option.some.inj H
    exact f_ret h (rs := [.tmp 4]) rfl (.tmp rfl .nil) ⟨_, rfl, v_43, N_34, M_44, rfl, (Sep.sel hS [0, 1, 2] (by decide)), (ho_45.mono (Mem.un_left (Mem.le.refl _)))⟩
 clear hKJ_12
 refine h_begin (S := fun w => Sep w0 w [N_6, Mem.one g0 (.cells ([iV x0_n, iV x0_mask, p0_0] : List Value).toArray 58 (0, 0)), M0_0, Mem.one g_2 (.cells ([iV x1.Kind, iV x1.From, iV x1.To, iV x1.View, iV x1.Inst, iV x1.Len, .bool x1.Has, iV x1.Members, iV x1.Source, iV x1.At, iV x1.Total, p1_1, iV x1.Hop, iV x1.Seq, p1_2, p1_3, iV x1.Index, iV x1.Entry.Sess, iV x1.Entry.Seq, iV x1.Entry.Cmd.Kind, iV x1.Entry.Cmd.Who, p1_4, p1_5, p1_6] : List Value).toArray 32 (0, 0)), M_9] Z) 26 (by kernel_rfl) rfl (bA 26 0) (by kernel_rfl) hS fun w_48 hS => ?_
 replace hS : Sep w0 w_48 [_, _, _, _, _] Z := hS
 refine t_take 0 (bA 26 1) rfl rfl rfl rfl h (hS.sub .ii) (v := v_7) (fun w hS => r_move h rfl) fun a h=>t_take 1 (bA 26 3) rfl rfl rfl rfl h (hS.sub .ii) (v := iV (t_3.length : Int)) (fun w hS => r_lenO h U26 rfl hr_8) fun a h=>t_take 2 (bA 26 7) rfl rfl rfl rfl h (hS.sub .ii) (v := .bool ((t_3.length : Int) == 0)) (fun w hS => r_cmp (b := ((t_3.length : Int) == 0)) h rfl rfl (.inl ⟨rfl, rfl⟩)) fun a h=>t_take 3 (bA 26 15) rfl rfl rfl rfl h (hS.sub .ii) (v := .bool ((t_3.length : Int) == 0)) (fun w hS => r_move h rfl) fun a h=>?_
 by_cases hc_49 : (t_3.length : Int) = 0
 ·rw [if_pos hc_49] at H
  refine t_take_off 4 (bA 26 31) rfl rfl rfl rfl (.inl (congrArg Value.bool (beq_iff_eq.2 hc_49))) rfl rfl h (hS.sub .ii) fun a h=>t_take_off 5 (bA 26 63) rfl rfl rfl rfl (.inl (congrArg Value.bool (beq_iff_eq.2 hc_49))) rfl rfl h (hS.sub .ii) fun a h=>t_take_off 6 (bA 26 127) rfl rfl rfl rfl (.inl (congrArg Value.bool (beq_iff_eq.2 hc_49))) rfl rfl h (hS.sub .ii) fun a h=>t_take_off 7 (bA 26 255) rfl rfl rfl rfl (.inl (congrArg Value.bool (beq_iff_eq.2 hc_49))) rfl rfl h (hS.sub .ii) fun a h=>t_take_off 8 (bA 26 511) rfl rfl rfl rfl (.inl (congrArg Value.bool (beq_iff_eq.2 hc_49))) rfl rfl h (hS.sub .ii) fun a h=>t_take_off 9 (bA 26 1023) rfl rfl rfl rfl (.inl (congrArg Value.bool (beq_iff_eq.2 hc_49))) rfl rfl h (hS.sub .ii) fun a h=>t_take_off 10 (bA 26 2047) rfl rfl rfl rfl (.inl (congrArg Value.bool (beq_iff_eq.2 hc_49))) rfl rfl h (hS.sub .ii) fun a h=>t_take 11 (bA 26 4095) rfl rfl rfl rfl h (hS.sub .ii) (v := .bool true) (fun w hS => r_pick_t h rfl (beq_iff_eq.2 hc_49) rfl) fun a h=>t_take 12 (bA 26 8191) rfl rfl rfl rfl h (hS.sub .ii) (v := .bool true) (fun w hS => r_move h rfl) fun a h=>t_take_off 13 (bA 26 16383) rfl rfl rfl rfl (.inl (congrArg Value.bool rfl)) rfl rfl h (hS.sub .ii) fun a h=>?_
  refine t_take_off 14 (bA 26 32767) rfl rfl rfl rfl (.inl (congrArg Value.bool rfl)) rfl rfl h (hS.sub .ii) fun a h=>t_take_off 15 (bA 26 65535) rfl rfl rfl rfl (.inl (congrArg Value.bool rfl)) rfl rfl h (hS.sub .ii) fun a h=>t_take_off 16 (bA 26 131071) rfl rfl rfl rfl (.inl (congrArg Value.bool rfl)) rfl rfl h (hS.sub .ii) fun a h=>t_take_off 17 (bA 26 262143) rfl rfl rfl rfl (.inl (congrArg Value.bool rfl)) rfl rfl h (hS.sub .ii) fun a h=>t_take_off 18 (bA 26 524287) rfl rfl rfl rfl (.inl (congrArg Value.bool rfl)) rfl rfl h (hS.sub .ii) fun a h=>t_take_off 19 (bA 26 1048575) rfl rfl rfl rfl (.inl (congrArg Value.bool rfl)) rfl rfl h (hS.sub .ii) fun a h=>t_take 20 (bA 26 2097151) rfl rfl rfl rfl h (hS.sub .ii) (v := .bool true) (fun w hS => r_pick_t h rfl rfl rfl) fun a h=>t_take 21 (bA 26 4194303) rfl rfl rfl rfl h (hS.sub .ii) (v := .bool true) (fun w hS => r_move h rfl) fun a h=>t_take_off 22 (bA 26 8388607) rfl rfl rfl rfl (.inl (congrArg Value.bool rfl)) rfl rfl h (hS.sub .ii) fun a h=>t_take_off 23 (bA 26 16777215) rfl rfl rfl rfl (.inl (congrArg Value.bool rfl)) rfl rfl h (hS.sub .ii) fun a h=>?_
  refine t_take_off 24 (bA 26 33554431) rfl rfl rfl rfl (.inl (congrArg Value.bool rfl)) rfl rfl h (hS.sub .ii) fun a h=>t_take 25 (bA 26 67108863) rfl rfl rfl rfl h (hS.sub .ii) (v := .bool true) (fun w hS => r_pick_t h rfl rfl rfl) fun a h=>h_done (by kernel_rfl) ?_
  replace hS : Sep w0 w_48 [_, _, _, _, _] Z := hS
  replace h : Fr 50 a [(0, _), (3, .pointer (some ⟨g_2, 0, none⟩)), (4, .bool false), (5, v_7), (33, .bool true)] := h.keep [0, 3, 4, 5, 33]
  exact x_then_n (hJ_j_16 true H _ _ ⟨N_6, h, (Sep.sel hS [0, 1, 2, 3, 4] (by decide)), (Mem.le.refl _)⟩)
 ·rw [if_neg hc_49] at H
  refine t_take_on 4 (bA 26 31) rfl rfl rfl rfl (beq_eq_false_iff_ne.2 hc_49) rfl rfl h (hS.sub .ii) (v := .pointer (some ⟨g_2, 1, none⟩)) (fun w hS => r_fieldAddr h U32 rfl ti3 rfl rfl rfl) fun a h=>t_take_on 5 (bA 26 63) rfl rfl rfl rfl (beq_eq_false_iff_ne.2 hc_49) rfl rfl h (hS.sub .ii) (v := iV x1.From) (fun w hS => r_load h rfl (hS.load_one (p := 3) rfl U3 rfl rfl)) fun a h=>t_take_on 6 (bA 26 127) rfl rfl rfl rfl (beq_eq_false_iff_ne.2 hc_49) rfl rfl h (hS.sub .ii) (v := .pointer (some ⟨g0, 0, none⟩)) (fun w hS => r_move h rfl) fun a h=>t_take_on 7 (bA 26 255) rfl rfl rfl rfl (beq_eq_false_iff_ne.2 hc_49) rfl rfl h (hS.sub .ii) (v := .pointer (some ⟨g0, 0, none⟩)) (fun w hS => r_nilCheck h rfl) fun a h=>t_take_on 8 (bA 26 511) rfl rfl rfl rfl (beq_eq_false_iff_ne.2 hc_49) rfl rfl h (hS.sub .ii) (v := .pointer (some ⟨g0, 0, none⟩)) (fun w hS => r_fieldAddr h U58 rfl ti3 rfl rfl rfl) fun a h=>t_take_on 9 (bA 26 1023) rfl rfl rfl rfl (beq_eq_false_iff_ne.2 hc_49) rfl rfl h (hS.sub .ii) (v := iV x0_n) (fun w hS => r_load h rfl (hS.load_one (p := 1) rfl U3 rfl rfl)) fun a h=>?_
  refine t_take_on 10 (bA 26 2047) rfl rfl rfl rfl (beq_eq_false_iff_ne.2 hc_49) rfl rfl h (hS.sub .ii) (v := .bool (decide (x1.From ≥ x0_n))) (fun w hS => r_cmp (b := decide (x1.From ≥ x0_n)) h rfl rfl (.inr (.inr (.inr (.inr (.inr ⟨rfl, rfl⟩)))))) fun a h=>t_take 11 (bA 26 4095) rfl rfl rfl rfl h (hS.sub .ii) (v := .bool (decide (x1.From ≥ x0_n))) (fun w hS => r_pick_f h rfl (beq_eq_false_iff_ne.2 hc_49) rfl) fun a h=>t_take 12 (bA 26 8191) rfl rfl rfl rfl h (hS.sub .ii) (v := .bool (decide (x1.From ≥ x0_n))) (fun w hS => r_move h rfl) fun a h=>?_
  by_cases hc_50 : x1.From ≥ x0_n
  ·rw [if_pos hc_50] at H
   refine t_take_off 13 (bA 26 16383) rfl rfl rfl rfl (.inl (congrArg Value.bool (decide_eq_true hc_50))) rfl rfl h (hS.sub .ii) fun a h=>t_take_off 14 (bA 26 32767) rfl rfl rfl rfl (.inl (congrArg Value.bool (decide_eq_true hc_50))) rfl rfl h (hS.sub .ii) fun a h=>t_take_off 15 (bA 26 65535) rfl rfl rfl rfl (.inl (congrArg Value.bool (decide_eq_true hc_50))) rfl rfl h (hS.sub .ii) fun a h=>t_take_off 16 (bA 26 131071) rfl rfl rfl rfl (.inl (congrArg Value.bool (decide_eq_true hc_50))) rfl rfl h (hS.sub .ii) fun a h=>t_take_off 17 (bA 26 262143) rfl rfl rfl rfl (.inl (congrArg Value.bool (decide_eq_true hc_50))) rfl rfl h (hS.sub .ii) fun a h=>t_take_off 18 (bA 26 524287) rfl rfl rfl rfl (.inl (congrArg Value.bool (decide_eq_true hc_50))) rfl rfl h (hS.sub .ii) fun a h=>t_take_off 19 (bA 26 1048575) rfl rfl rfl rfl (.inl (congrArg Value.bool (decide_eq_true hc_50))) rfl rfl h (hS.sub .ii) fun a h=>t_take 20 (bA 26 2097151) rfl rfl rfl rfl h (hS.sub .ii) (v := .bool true) (fun w hS => r_pick_t h rfl (decide_eq_true hc_50) rfl) fun a h=>t_take 21 (bA 26 4194303) rfl rfl rfl rfl h (hS.sub .ii) (v := .bool true) (fun w hS => r_move h rfl) fun a h=>?_
   refine t_take_off 22 (bA 26 8388607) rfl rfl rfl rfl (.inl (congrArg Value.bool rfl)) rfl rfl h (hS.sub .ii) fun a h=>t_take_off 23 (bA 26 16777215) rfl rfl rfl rfl (.inl (congrArg Value.bool rfl)) rfl rfl h (hS.sub .ii) fun a h=>t_take_off 24 (bA 26 33554431) rfl rfl rfl rfl (.inl (congrArg Value.bool rfl)) rfl rfl h (hS.sub .ii) fun a h=>t_take 25 (bA 26 67108863) rfl rfl rfl rfl h (hS.sub .ii) (v := .bool true) (fun w hS => r_pick_t h rfl rfl rfl) fun a h=>h_done (by kernel_rfl) ?_
   replace hS : Sep w0 w_48 [_, _, _, _, _] Z := hS
   replace h : Fr 50 a [(0, _), (3, .pointer (some ⟨g_2, 0, none⟩)), (4, .bool false), (5, v_7), (33, .bool true)] := h.keep [0, 3, 4, 5, 33]
   exact x_then_n (hJ_j_16 true H _ _ ⟨N_6, h, (Sep.sel hS [0, 1, 2, 3, 4] (by decide)), (Mem.le.refl _)⟩)
  ·rw [if_neg hc_50] at H
   refine t_take_on 13 (bA 26 16383) rfl rfl rfl rfl (decide_eq_false hc_50) rfl rfl h (hS.sub .ii) (v := .pointer (some ⟨g_2, 2, none⟩)) (fun w hS => r_fieldAddr h U32 rfl ti3 rfl rfl rfl) fun a h=>t_take_on 14 (bA 26 32767) rfl rfl rfl rfl (decide_eq_false hc_50) rfl rfl h (hS.sub .ii) (v := iV x1.To) (fun w hS => r_load h rfl (hS.load_one (p := 3) rfl U3 rfl rfl)) fun a h=>t_take_on 15 (bA 26 65535) rfl rfl rfl rfl (decide_eq_false hc_50) rfl rfl h (hS.sub .ii) (v := .pointer (some ⟨g0, 0, none⟩)) (fun w hS => r_move h rfl) fun a h=>t_take_on 16 (bA 26 131071) rfl rfl rfl rfl (decide_eq_false hc_50) rfl rfl h (hS.sub .ii) (v := .pointer (some ⟨g0, 0, none⟩)) (fun w hS => r_nilCheck h rfl) fun a h=>t_take_on 17 (bA 26 262143) rfl rfl rfl rfl (decide_eq_false hc_50) rfl rfl h (hS.sub .ii) (v := .pointer (some ⟨g0, 0, none⟩)) (fun w hS => r_fieldAddr h U58 rfl ti3 rfl rfl rfl) fun a h=>t_take_on 18 (bA 26 524287) rfl rfl rfl rfl (decide_eq_false hc_50) rfl rfl h (hS.sub .ii) (v := iV x0_n) (fun w hS => r_load h rfl (hS.load_one (p := 1) rfl U3 rfl rfl)) fun a h=>?_
   refine t_take_on 19 (bA 26 1048575) rfl rfl rfl rfl (decide_eq_false hc_50) rfl rfl h (hS.sub .ii) (v := .bool (decide (x1.To ≥ x0_n))) (fun w hS => r_cmp (b := decide (x1.To ≥ x0_n)) h rfl rfl (.inr (.inr (.inr (.inr (.inr ⟨rfl, rfl⟩)))))) fun a h=>t_take 20 (bA 26 2097151) rfl rfl rfl rfl h (hS.sub .ii) (v := .bool (decide (x1.To ≥ x0_n))) (fun w hS => r_pick_f h rfl (decide_eq_false hc_50) rfl) fun a h=>t_take 21 (bA 26 4194303) rfl rfl rfl rfl h (hS.sub .ii) (v := .bool (decide (x1.To ≥ x0_n))) (fun w hS => r_move h rfl) fun a h=>?_
   by_cases hc_51 : x1.To ≥ x0_n
   ·rw [if_pos hc_51] at H
    refine t_take_off 22 (bA 26 8388607) rfl rfl rfl rfl (.inl (congrArg Value.bool (decide_eq_true hc_51))) rfl rfl h (hS.sub .ii) fun a h=>t_take_off 23 (bA 26 16777215) rfl rfl rfl rfl (.inl (congrArg Value.bool (decide_eq_true hc_51))) rfl rfl h (hS.sub .ii) fun a h=>t_take_off 24 (bA 26 33554431) rfl rfl rfl rfl (.inl (congrArg Value.bool (decide_eq_true hc_51))) rfl rfl h (hS.sub .ii) fun a h=>t_take 25 (bA 26 67108863) rfl rfl rfl rfl h (hS.sub .ii) (v := .bool true) (fun w hS => r_pick_t h rfl (decide_eq_true hc_51) rfl) fun a h=>h_done (by kernel_rfl) ?_
    replace hS : Sep w0 w_48 [_, _, _, _, _] Z := hS
    replace h : Fr 50 a [(0, _), (3, .pointer (some ⟨g_2, 0, none⟩)), (4, .bool false), (5, v_7), (33, .bool true)] := h.keep [0, 3, 4, 5, 33]
    exact x_then_n (hJ_j_16 true H _ _ ⟨N_6, h, (Sep.sel hS [0, 1, 2, 3, 4] (by decide)), (Mem.le.refl _)⟩)
   ·rw [if_neg hc_51] at H
    refine t_take_on 22 (bA 26 8388607) rfl rfl rfl rfl (decide_eq_false hc_51) rfl rfl h (hS.sub .ii) (v := .pointer (some ⟨g0, 0, none⟩)) (fun w hS => r_move h rfl) fun a h=>h_event 23 (bA 26 16777215) rfl (by kernel_rfl) (by kernel_rfl) <| s_on h rfl rfl (decide_eq_false hc_51) ?_
    obtain ⟨t_52, et_52, H⟩ := Option.bind_eq_some_iff.1 H
    refine s_call h rfl Try.call26 rfl (nets_Net_room.calls _ x0_n x0_mask x0_l _ t_52 w0 _ _ _ (Mem.le.refl _) (hS.enter [0] (by decide)) (hp0_0.rd (hS.own_zed [0] 1 (by decide)) (hA.trans (hS.le_zed [0]))) et_52) ?_
    rintro _ w_53 ⟨N_54, rfl, hS'⟩
    intro a h
    obtain ⟨N_55, hS'', le_55, ln_55⟩ := hS.call [0] (by decide) rfl (l' := [Mem.one g0 (.cells ([iV x0_n, iV x0_mask, p0_0] : List Value).toArray 58 (0, 0))]) (ow := []) rfl hS'
    replace hS : Sep w0 w_53 [N_55, _, _, _, _] Z := hS''
    clear hS' hS''
    refine wpList_nil <| x_then_n ⟨(hS.sub (.cons le_55 .ii)), ?_⟩
    refine t_take_on 24 (bA 26 33554431) rfl rfl rfl rfl (decide_eq_false hc_51) rfl rfl h (hS.sub (.cons le_55 .ii)) (v := .bool (!t_52)) (fun w hS => r_not h rfl) fun a h=>t_take 25 (bA 26 67108863) rfl rfl rfl rfl h (hS.sub (.cons le_55 .ii)) (v := .bool (!t_52)) (fun w hS => r_pick_f h rfl (decide_eq_false hc_51) rfl) fun a h=>h_done (by kernel_rfl) ?_
    replace hS : Sep w0 w_53 [_, _, _, _, _] Z := hS
    replace h : Fr 50 a [(0, _), (3, .pointer (some ⟨g_2, 0, none⟩)), (4, .bool false), (5, v_7), (33, .bool (!t_52))] := h.keep [0, 3, 4, 5, 33]
    exact x_then_n (hJ_j_16 (!t_52) H _ _ ⟨N_55, h, (Sep.sel hS [0, 1, 2, 3, 4] (by decide)), le_55⟩)

set_option maxHeartbeats 4000000 in
set_option maxRecDepth 20000 in
theorem hocketlaw23_awake.calls (K : Nat) (r : Unit) (w0 w : World) (Z A : Mem) (hA : A.le Z) (hS : Sep w0 w [] Z)
    (H : hocketlaw23_awake.f K = some r) :
    Calls Try.prog 13 [].toArray w (Ret fun v w' => ∃ (N : Mem), v = .bool true ∧ Sep w0 w' [N] Z) := by
 unfold hocketlaw23_awake.f at H
 refine f_enter _ Try.func13 rfl Try.ntmps13 rfl fun a h=>?_
 replace h : Fr 72 a [] := h
 replace hS := hS.start
 replace hS : Sep w0 w [_] Z := hS
 refine wp_seq <| wp_region_lit <| s_assign h rfl rfl fun a h=>wpList_nil <| x_then_n <| wp_seq <| wp_region_lit ?_
 obtain ⟨t_1, et_1, H⟩ := Option.bind_eq_some_iff.1 H
 refine s_call h rfl Try.call9 rfl (nets_New.calls 3 t_1 w0 _ _ _ (Mem.le.refl _) (hS.enter [] (by decide))  et_1) ?_
 rintro _ w_2 ⟨g_5, v_6, N_3, M_8, rfl, hS', hr_7⟩
 intro a h
 obtain ⟨N_4, hS'', le_4, ln_4⟩ := hS.call [] (by decide) rfl (l' := []) (ow := [Mem.one g_5 (.cells ([iV t_1.1, iV t_1.2.1, v_6] : List Value).toArray 58 (0, 0)), M_8]) rfl hS'
 replace hS : Sep w0 w_2 [N_4, Mem.one g_5 (.cells ([iV t_1.1, iV t_1.2.1, v_6] : List Value).toArray 58 (0, 0)), M_8] Z := hS''
 clear hS' hS''
 refine s_assign h rfl rfl fun a h=>wpList_nil <| x_then_n <| c_seq fun KJ_10 hKJ_10 => wp_seq <| wp_region_lit <| s_move h rfl rfl fun a h=>s_ptrNil (b := false) h rfl U23 rfl (.inl ⟨rfl, rfl⟩) fun a h=>wpList_nil <| x_then_n <| c_cond_f h rfl rfl <| wp_skip <| x_then_n (hKJ_10 _ _ ?_)
 refine wp_seq <| wp_region_lit <| s_move h rfl rfl fun a h=>s_build h rfl ti32 pl32 rfl (.cons rfl (.cons rfl (.cons rfl (.cons rfl .nil)))) (cs := [iV 1, iV 0, iV 1, iV 8, iV 0, iV 0, .bool false, iV 0, iV 0, iV 0, iV 0, nS, iV 0, iV 0, nS, nS, iV 0, iV 0, iV 0, iV 0, iV 0, nS, nS, nS]) (by kernel_rfl) fun a h=>?_
 obtain ⟨t_11, et_11, H⟩ := Option.bind_eq_some_iff.1 H
 refine s_call h rfl Try.call10 rfl (nets_Net_Send.calls K _ t_1.1 t_1.2.1 t_1.2.2 _ _ (⟨1, 0, 1, 8, 0, 0, false, 0, 0, 0, 0, ([] : List UInt8), 0, 0, ([] : List Int), ([] : List Int), 0, (⟨0, 0, (⟨0, 0, ([] : List UInt8), ([] : List UInt8), ([] : List UInt8)⟩ : api_Cmd)⟩ : api_Entry)⟩ : api_Msg) _ _ _ _ _ _ t_11 w0 _ _ N_4 (hS.new_zed [0, 1]) (hS.enter [0, 1] (by decide)) ((hr_7.mono ln_4).mono (Mem.le.refl _)) (Rd.nil _ _) (Rd.nil _ _) (Rd.nil _ _) (Rd.nil _ _) (Rd.nil _ _) (Rd.nil _ _) et_11) ?_
 rintro _ w_12 ⟨v_15, N_13, M_17, rfl, hS', hr_16⟩
 intro a h
 obtain ⟨N_14, hS'', le_14, ln_14⟩ := hS.call [0, 1] (by decide) rfl (l' := [Mem.one g_5 (.cells ([iV t_11.2.1, iV t_11.2.2.1, v_15] : List Value).toArray 58 (0, 0)), M_17]) (ow := []) rfl hS'
 replace hS : Sep w0 w_12 [N_14, Mem.one g_5 (.cells ([iV t_11.2.1, iV t_11.2.2.1, v_15] : List Value).toArray 58 (0, 0)), M_17] Z := hS''
 clear hS' hS''
 refine s_assign h rfl rfl fun a h=>wpList_nil ?_
 replace h : Fr 72 a [(0, .bool false), (1, .pointer (some ⟨g_5, 0, none⟩)), (2, .bool t_11.1)] := h.keep [0, 1, 2]
 refine x_then_n <| wp_seq <| wp_region_lit <| s_move h rfl rfl fun a h=>s_build h rfl ti32 pl32 rfl (.cons rfl (.cons rfl (.cons rfl (.cons rfl .nil)))) (cs := [iV 1, iV 0, iV 3, iV 8, iV 0, iV 0, .bool false, iV 0, iV 0, iV 0, iV 0, nS, iV 0, iV 0, nS, nS, iV 0, iV 0, iV 0, iV 0, iV 0, nS, nS, nS]) (by kernel_rfl) fun a h=>?_
 obtain ⟨t_19, et_19, H⟩ := Option.bind_eq_some_iff.1 H
 refine s_call h rfl Try.call10 rfl (nets_Net_Send.calls K _ t_11.2.1 t_11.2.2.1 t_11.2.2.2 _ _ (⟨1, 0, 3, 8, 0, 0, false, 0, 0, 0, 0, ([] : List UInt8), 0, 0, ([] : List Int), ([] : List Int), 0, (⟨0, 0, (⟨0, 0, ([] : List UInt8), ([] : List UInt8), ([] : List UInt8)⟩ : api_Cmd)⟩ : api_Entry)⟩ : api_Msg) _ _ _ _ _ _ t_19 w0 _ _ N_14 (hS.new_zed [0, 1]) (hS.enter [0, 1] (by decide)) ((hr_16.mono (Mem.un_le le_14 ln_14)).mono (Mem.le.refl _)) (Rd.nil _ _) (Rd.nil _ _) (Rd.nil _ _) (Rd.nil _ _) (Rd.nil _ _) (Rd.nil _ _) et_19) ?_
 rintro _ w_20 ⟨v_23, N_21, M_25, rfl, hS', hr_24⟩
 intro a h
 obtain ⟨N_22, hS'', le_22, ln_22⟩ := hS.call [0, 1] (by decide) rfl (l' := [Mem.one g_5 (.cells ([iV t_19.2.1, iV t_19.2.2.1, v_23] : List Value).toArray 58 (0, 0)), M_25]) (ow := []) rfl hS'
 replace hS : Sep w0 w_20 [N_22, Mem.one g_5 (.cells ([iV t_19.2.1, iV t_19.2.2.1, v_23] : List Value).toArray 58 (0, 0)), M_25] Z := hS''
 clear hS' hS''
 refine s_assign h rfl rfl fun a h=>wpList_nil <| x_then_n <| wp_seq <| wp_region_lit <| s_move h rfl rfl fun a h=>?_
 obtain ⟨t_27, et_27, H⟩ := Option.bind_eq_some_iff.1 H
 refine s_call h rfl Try.call15 rfl (nets_Net_Twice.calls _ t_19.2.1 t_19.2.2.1 t_19.2.2.2 _ _ 0 t_27 w0 _ _ N_22 (hS.new_zed [0, 1]) (hS.enter [0, 1] (by decide)) ((hr_24.mono (Mem.un_le le_22 ln_22)).mono (Mem.le.refl _)) et_27) ?_
 rintro _ w_28 ⟨v_31, N_29, M_33, rfl, hS', hr_32⟩
 intro a h
 obtain ⟨N_30, hS'', le_30, ln_30⟩ := hS.call [0, 1] (by decide) rfl (l' := [Mem.one g_5 (.cells ([iV t_27.2.1, iV t_27.2.2.1, v_31] : List Value).toArray 58 (0, 0)), M_33]) (ow := []) rfl hS'
 replace hS : Sep w0 w_28 [N_30, Mem.one g_5 (.cells ([iV t_27.2.1, iV t_27.2.2.1, v_31] : List Value).toArray 58 (0, 0)), M_33] Z := hS''
 clear hS' hS''
 refine s_assign h rfl rfl fun a h=>wpList_nil <| x_then_n <| wp_seq <| wp_region_lit <| s_move h rfl rfl fun a h=>?_
 obtain ⟨t_35, et_35, H⟩ := Option.bind_eq_some_iff.1 H
 refine s_call h rfl Try.call16 rfl (nets_Net_Flip.calls _ t_27.2.1 t_27.2.2.1 t_27.2.2.2 _ _ 0 3 t_35 w0 _ _ N_30 (hS.new_zed [0, 1]) (hS.enter [0, 1] (by decide)) ((hr_32.mono (Mem.un_le le_30 ln_30)).mono (Mem.le.refl _)) et_35) ?_
 rintro _ w_36 ⟨v_39, N_37, M_41, rfl, hS', hr_40⟩
 intro a h
 obtain ⟨N_38, hS'', le_38, ln_38⟩ := hS.call [0, 1] (by decide) rfl (l' := [Mem.one g_5 (.cells ([iV t_35.2.1, iV t_35.2.2.1, v_39] : List Value).toArray 58 (0, 0)), M_41]) (ow := []) rfl hS'
 replace hS : Sep w0 w_36 [N_38, Mem.one g_5 (.cells ([iV t_35.2.1, iV t_35.2.2.1, v_39] : List Value).toArray 58 (0, 0)), M_41] Z := hS''
 clear hS' hS''
 refine s_assign h rfl rfl fun a h=>wpList_nil <| x_then_n <| wp_seq <| wp_region_lit <| s_move h rfl rfl fun a h=>?_
 obtain ⟨t_43, et_43, H⟩ := Option.bind_eq_some_iff.1 H
 refine s_call h rfl Try.call11 rfl (nets_Net_Take.calls K _ t_35.2.1 t_35.2.2.1 t_35.2.2.2 _ _ 0 t_43 w0 _ _ N_38 (hS.new_zed [0, 1]) (hS.enter [0, 1] (by decide)) ((hr_40.mono (Mem.un_le le_38 ln_38)).mono (Mem.le.refl _)) et_43) ?_
 rintro _ w_44 ⟨v_47, v_51, v_55, v_59, v_63, v_67, v_71, N_45, M_49, M_53, M_57, M_61, M_65, M_69, M_73, rfl, hS', hr_48, hr_52, hr_56, hr_60, hr_64, hr_68, hr_72⟩
 intro a h
 obtain ⟨N_46, hS'', le_46, ln_46⟩ := hS.call [0, 1] (by decide) rfl (l' := [Mem.one g_5 (.cells ([iV t_43.2.2.1, iV t_43.2.2.2.1, v_71] : List Value).toArray 58 (0, 0)), M_73]) (ow := [M_49, M_53, M_57, M_61, M_65, M_69]) rfl hS'
 replace hS : Sep w0 w_44 [N_46, Mem.one g_5 (.cells ([iV t_43.2.2.1, iV t_43.2.2.2.1, v_71] : List Value).toArray 58 (0, 0)), M_73, M_49, M_53, M_57, M_61, M_65, M_69] Z := hS''
 clear hS' hS''
 refine s_move h rfl rfl fun a h=>s_extract h rfl rfl rfl fun a h=>s_extract h rfl rfl rfl fun a h=>v_alloc h rfl ti32 hS fun w_75 g_76 hS' a h => ?_
 replace hS : Sep w0 w_75 [_, _, _, _, _, _, _, _, _, Mem.one g_76 (.cells ([iV 0, iV 0, iV 0, iV 0, iV 0, iV 0, .bool false, iV 0, iV 0, iV 0, iV 0, nS, iV 0, iV 0, nS, nS, iV 0, iV 0, iV 0, iV 0, iV 0, nS, nS, nS] : List Value).toArray 32 (0, 0))] Z := hS'
 clear hS'
 obtain ⟨w_77, hs', hS'⟩ := hS.store (P := Try.prog) (p := 9) (o := 0) (t := 32) (v := .agg ([iV t_43.1.Kind, iV t_43.1.From, iV t_43.1.To, iV t_43.1.View, iV t_43.1.Inst, iV t_43.1.Len, .bool t_43.1.Has, iV t_43.1.Members, iV t_43.1.Source, iV t_43.1.At, iV t_43.1.Total, v_47, iV t_43.1.Hop, iV t_43.1.Seq, v_51, v_55, iV t_43.1.Index, iV t_43.1.Entry.Sess, iV t_43.1.Entry.Seq, iV t_43.1.Entry.Cmd.Kind, iV t_43.1.Entry.Cmd.Who, v_59, v_63, v_67] : List Value).toArray) (vs := [iV t_43.1.Kind, iV t_43.1.From, iV t_43.1.To, iV t_43.1.View, iV t_43.1.Inst, iV t_43.1.Len, .bool t_43.1.Has, iV t_43.1.Members, iV t_43.1.Source, iV t_43.1.At, iV t_43.1.Total, v_47, iV t_43.1.Hop, iV t_43.1.Seq, v_51, v_55, iV t_43.1.Index, iV t_43.1.Entry.Sess, iV t_43.1.Entry.Seq, iV t_43.1.Entry.Cmd.Kind, iV t_43.1.Entry.Cmd.Who, v_59, v_63, v_67]) rfl ti32 rfl rfl rfl (by intro u hu; simp only [List.mem_cons, List.not_mem_nil, or_false] at hu; rcases hu with rfl | rfl | rfl | rfl | rfl | rfl | rfl | rfl | rfl | rfl | rfl | rfl | rfl | rfl | rfl | rfl | rfl | rfl | rfl | rfl | rfl | rfl | rfl | rfl <;> first | rfl | exact hr_48.one | exact hr_52.one | exact hr_56.one | exact hr_60.one | exact hr_64.one | exact hr_68.one)
 refine s_store h rfl rfl hs' ?_
 replace hS : Sep w0 w_77 [_, _, _, _, _, _, _, _, _, Mem.one g_76 (.cells ([iV t_43.1.Kind, iV t_43.1.From, iV t_43.1.To, iV t_43.1.View, iV t_43.1.Inst, iV t_43.1.Len, .bool t_43.1.Has, iV t_43.1.Members, iV t_43.1.Source, iV t_43.1.At, iV t_43.1.Total, v_47, iV t_43.1.Hop, iV t_43.1.Seq, v_51, v_55, iV t_43.1.Index, iV t_43.1.Entry.Sess, iV t_43.1.Entry.Seq, iV t_43.1.Entry.Cmd.Kind, iV t_43.1.Entry.Cmd.Who, v_59, v_63, v_67] : List Value).toArray 32 (0, 0))] Z := hS'
 clear hs' hS'
 refine s_assign h rfl rfl fun a h=>wpList_nil ?_
 replace h : Fr 72 a [(0, _), (1, _), (2, _), (3, .bool t_19.1), (4, .bool t_27.1), (5, .bool t_35.1), (7, .bool t_43.2.1)] := h.keep [0, 1, 2, 3, 4, 5, 7]
 refine x_then_n <| wp_seq <| wp_region_lit <| s_move h rfl rfl fun a h=>?_
 obtain ⟨t_78, et_78, H⟩ := Option.bind_eq_some_iff.1 H
 refine s_call h rfl Try.call11 rfl (nets_Net_Take.calls K _ t_43.2.2.1 t_43.2.2.2.1 t_43.2.2.2.2 _ _ 0 t_78 w0 _ _ N_46 (hS.new_zed [0, 1]) (hS.enter [0, 1] (by decide)) ((hr_72.mono (Mem.un_le le_46 ln_46)).mono (Mem.le.refl _)) et_78) ?_
 rintro _ w_79 ⟨v_82, v_86, v_90, v_94, v_98, v_102, v_106, N_80, M_84, M_88, M_92, M_96, M_100, M_104, M_108, rfl, hS', hr_83, hr_87, hr_91, hr_95, hr_99, hr_103, hr_107⟩
 intro a h
 obtain ⟨N_81, hS'', le_81, ln_81⟩ := hS.call [0, 1] (by decide) rfl (l' := [Mem.one g_5 (.cells ([iV t_78.2.2.1, iV t_78.2.2.2.1, v_106] : List Value).toArray 58 (0, 0)), M_108]) (ow := [M_84, M_88, M_92, M_96, M_100, M_104]) rfl hS'
 replace hS : Sep w0 w_79 [N_81, Mem.one g_5 (.cells ([iV t_78.2.2.1, iV t_78.2.2.2.1, v_106] : List Value).toArray 58 (0, 0)), M_108, _, _, _, _, _, _, _, M_84, M_88, M_92, M_96, M_100, M_104] Z := hS''
 clear hS' hS''
 refine s_move h rfl rfl fun a h=>s_extract h rfl rfl rfl fun a h=>s_extract h rfl rfl rfl fun a h=>v_alloc h rfl ti32 hS fun w_110 g_111 hS' a h => ?_
 replace hS : Sep w0 w_110 [_, _, _, _, _, _, _, _, _, _, _, _, _, _, _, _, Mem.one g_111 (.cells ([iV 0, iV 0, iV 0, iV 0, iV 0, iV 0, .bool false, iV 0, iV 0, iV 0, iV 0, nS, iV 0, iV 0, nS, nS, iV 0, iV 0, iV 0, iV 0, iV 0, nS, nS, nS] : List Value).toArray 32 (0, 0))] Z := hS'
 clear hS'
 obtain ⟨w_112, hs', hS'⟩ := hS.store (P := Try.prog) (p := 16) (o := 0) (t := 32) (v := .agg ([iV t_78.1.Kind, iV t_78.1.From, iV t_78.1.To, iV t_78.1.View, iV t_78.1.Inst, iV t_78.1.Len, .bool t_78.1.Has, iV t_78.1.Members, iV t_78.1.Source, iV t_78.1.At, iV t_78.1.Total, v_82, iV t_78.1.Hop, iV t_78.1.Seq, v_86, v_90, iV t_78.1.Index, iV t_78.1.Entry.Sess, iV t_78.1.Entry.Seq, iV t_78.1.Entry.Cmd.Kind, iV t_78.1.Entry.Cmd.Who, v_94, v_98, v_102] : List Value).toArray) (vs := [iV t_78.1.Kind, iV t_78.1.From, iV t_78.1.To, iV t_78.1.View, iV t_78.1.Inst, iV t_78.1.Len, .bool t_78.1.Has, iV t_78.1.Members, iV t_78.1.Source, iV t_78.1.At, iV t_78.1.Total, v_82, iV t_78.1.Hop, iV t_78.1.Seq, v_86, v_90, iV t_78.1.Index, iV t_78.1.Entry.Sess, iV t_78.1.Entry.Seq, iV t_78.1.Entry.Cmd.Kind, iV t_78.1.Entry.Cmd.Who, v_94, v_98, v_102]) rfl ti32 rfl rfl rfl (by intro u hu; simp only [List.mem_cons, List.not_mem_nil, or_false] at hu; rcases hu with rfl | rfl | rfl | rfl | rfl | rfl | rfl | rfl | rfl | rfl | rfl | rfl | rfl | rfl | rfl | rfl | rfl | rfl | rfl | rfl | rfl | rfl | rfl | rfl <;> first | rfl | exact hr_83.one | exact hr_87.one | exact hr_91.one | exact hr_95.one | exact hr_99.one | exact hr_103.one)
 refine s_store h rfl rfl hs' ?_
 replace hS : Sep w0 w_112 [_, _, _, _, _, _, _, _, _, _, _, _, _, _, _, _, Mem.one g_111 (.cells ([iV t_78.1.Kind, iV t_78.1.From, iV t_78.1.To, iV t_78.1.View, iV t_78.1.Inst, iV t_78.1.Len, .bool t_78.1.Has, iV t_78.1.Members, iV t_78.1.Source, iV t_78.1.At, iV t_78.1.Total, v_82, iV t_78.1.Hop, iV t_78.1.Seq, v_86, v_90, iV t_78.1.Index, iV t_78.1.Entry.Sess, iV t_78.1.Entry.Seq, iV t_78.1.Entry.Cmd.Kind, iV t_78.1.Entry.Cmd.Who, v_94, v_98, v_102] : List Value).toArray 32 (0, 0))] Z := hS'
 clear hs' hS'
 refine s_assign h rfl rfl fun a h=>wpList_nil <| x_then_n <| wp_seq <| wp_region_lit <| s_move h rfl rfl fun a h=>?_
 obtain ⟨t_113, et_113, H⟩ := Option.bind_eq_some_iff.1 H
 refine s_call h rfl Try.call19 rfl (nets_Net_Split.calls _ t_78.2.2.1 t_78.2.2.2.1 t_78.2.2.2.2 _ _ 1 t_113 w0 _ _ N_81 (hS.new_zed [0, 1]) (hS.enter [0, 1] (by decide)) ((hr_107.mono (Mem.un_le le_81 ln_81)).mono (Mem.le.refl _)) et_113) ?_
 rintro _ w_114 ⟨v_117, N_115, M_119, rfl, hS', hr_118⟩
 intro a h
 obtain ⟨N_116, hS'', le_116, ln_116⟩ := hS.call [0, 1] (by decide) rfl (l' := [Mem.one g_5 (.cells ([iV t_113.1, iV t_113.2.1, v_117] : List Value).toArray 58 (0, 0)), M_119]) (ow := []) rfl hS'
 replace hS : Sep w0 w_114 [N_116, Mem.one g_5 (.cells ([iV t_113.1, iV t_113.2.1, v_117] : List Value).toArray 58 (0, 0)), M_119, _, _, _, _, _, _, _, _, _, _, _, _, _, _] Z := hS''
 clear hS' hS''
 refine wpList_nil <| x_then_n <| c_seq fun KJ_121 hKJ_121 => wp_region_lit <| s_move h rfl rfl fun a h=>s_move h rfl rfl fun a h=>?_
 by_cases hc_122 : t_11.1 = true
 ·rw [if_pos hc_122] at H
  refine s_on h rfl rfl hc_122 <| s_move h rfl rfl fun a h=>s_on h rfl rfl hc_122 <| s_not h rfl rfl fun a h=>s_pick_t h rfl rfl hc_122 rfl fun a h=>s_move h rfl rfl fun a h=>?_
  by_cases hc_123 : t_19.1 = true
  ·rw [if_pos hc_123] at H
   cases H
  ·rw [if_neg hc_123] at H
   refine s_on h rfl rfl (nt (Bool.eq_false_iff.2 hc_123)) <| s_move h rfl rfl fun a h=>s_pick_t h rfl rfl (nt (Bool.eq_false_iff.2 hc_123)) rfl fun a h=>s_move h rfl rfl fun a h=>?_
   by_cases hc_124 : t_27.1 = true
   ·rw [if_pos hc_124] at H
    refine s_on h rfl rfl hc_124 <| s_move h rfl rfl fun a h=>s_pick_t h rfl rfl hc_124 rfl fun a h=>s_move h rfl rfl fun a h=>?_
    by_cases hc_125 : t_35.1 = true
    ·rw [if_pos hc_125] at H
     refine s_on h rfl rfl hc_125 <| s_move h rfl rfl fun a h=>s_on h rfl rfl hc_125 <| s_not h rfl rfl fun a h=>s_pick_t h rfl rfl hc_125 rfl fun a h=>s_move h rfl rfl fun a h=>?_
     by_cases hc_126 : t_43.2.1 = true
     ·rw [if_pos hc_126] at H
      cases H
     ·rw [if_neg hc_126] at H
      refine s_on h rfl rfl (nt (Bool.eq_false_iff.2 hc_126)) <| s_move h rfl rfl fun a h=>s_pick_t h rfl rfl (nt (Bool.eq_false_iff.2 hc_126)) rfl fun a h=>s_move h rfl rfl fun a h=>?_
      by_cases hc_127 : t_78.2.1 = true
      ·rw [if_pos hc_127] at H
       refine s_on h rfl rfl hc_127 <| s_fieldAddr h rfl U32 rfl ti3 rfl rfl fun a h=>s_on h rfl rfl hc_127 <| s_load h rfl rfl (hS.load_one (p := 16) rfl U3 rfl rfl) fun a h=>s_on h rfl rfl hc_127 <| s_cmp (b := (t_78.1.View == 8)) h rfl rfl rfl (.inl ⟨rfl, rfl⟩) fun a h=>s_pick_t h rfl rfl hc_127 rfl fun a h=>s_move h rfl rfl fun a h=>?_
       by_cases hc_128 : t_78.1.View = 8
       ·rw [if_pos hc_128] at H
        refine s_on h rfl rfl (beq_iff_eq.2 hc_128) <| s_move h rfl rfl fun a h=>s_on h rfl rfl (beq_iff_eq.2 hc_128) ?_
        obtain ⟨t_129, et_129, H⟩ := Option.bind_eq_some_iff.1 H
        refine s_call h rfl Try.call12 rfl (nets_Net_Count.calls _ t_113.1 t_113.2.1 t_113.2.2 _ t_129 w0 _ _ _ (Mem.le.refl _) (hS.enter [0] (by decide)) ((hr_118.mono (Mem.un_le le_116 ln_116)).rd (hS.own_zed [0] 1 (by decide)) ((Mem.le.refl _).trans (hS.new_zed [0]))) et_129) ?_
        rintro _ w_130 ⟨N_131, rfl, hS'⟩
        intro a h
        obtain ⟨N_132, hS'', le_132, ln_132⟩ := hS.call [0] (by decide) rfl (l' := [Mem.one g_5 (.cells ([iV t_113.1, iV t_113.2.1, v_117] : List Value).toArray 58 (0, 0))]) (ow := []) rfl hS'
        replace hS : Sep w0 w_130 [N_132, _, _, _, _, _, _, _, _, _, _, _, _, _, _, _, _] Z := hS''
        clear hS' hS''
        refine s_on h rfl rfl (beq_iff_eq.2 hc_128) <| s_cmp (b := (t_129 == 0)) h rfl rfl rfl (.inl ⟨rfl, rfl⟩) fun a h=>s_pick_t h rfl rfl (beq_iff_eq.2 hc_128) rfl fun a h=>s_move h rfl rfl fun a h=>?_
        by_cases hc_133 : t_129 = 0
        ·rw [if_pos hc_133] at H
         refine s_on h rfl rfl (beq_iff_eq.2 hc_133) <| s_move h rfl rfl fun a h=>s_on h rfl rfl (beq_iff_eq.2 hc_133) ?_
         obtain ⟨t_134, et_134, H⟩ := Option.bind_eq_some_iff.1 H
         refine s_call h rfl Try.call20 rfl (nets_Net_Apart.calls _ t_113.1 t_113.2.1 t_113.2.2 _ 0 1 t_134 w0 _ _ _ (Mem.le.refl _) (hS.enter [0] (by decide)) ((hr_118.mono (Mem.un_le le_116 ln_116)).rd (hS.own_zed [0] 1 (by decide)) (le_132.trans (hS.new_zed [0]))) et_134) ?_
         rintro _ w_135 ⟨N_136, rfl, hS'⟩
         intro a h
         obtain ⟨N_137, hS'', le_137, ln_137⟩ := hS.call [0] (by decide) rfl (l' := [Mem.one g_5 (.cells ([iV t_113.1, iV t_113.2.1, v_117] : List Value).toArray 58 (0, 0))]) (ow := []) rfl hS'
         replace hS : Sep w0 w_135 [N_137, _, _, _, _, _, _, _, _, _, _, _, _, _, _, _, _] Z := hS''
         clear hS' hS''
         refine s_pick_t h rfl rfl (beq_iff_eq.2 hc_133) rfl fun a h=>s_move h rfl rfl fun a h=>?_
         by_cases hc_138 : t_134 = true
         ·rw [if_pos hc_138] at H
          refine s_on h rfl rfl hc_138 <| s_move h rfl rfl fun a h=>s_on h rfl rfl hc_138 ?_
          obtain ⟨t_139, et_139, H⟩ := Option.bind_eq_some_iff.1 H
          refine s_call h rfl Try.call20 rfl (nets_Net_Apart.calls _ t_113.1 t_113.2.1 t_113.2.2 _ 1 2 t_139 w0 _ _ _ (Mem.le.refl _) (hS.enter [0] (by decide)) ((hr_118.mono (Mem.un_le le_116 ln_116)).rd (hS.own_zed [0] 1 (by decide)) ((le_132.trans le_137).trans (hS.new_zed [0]))) et_139) ?_
          rintro _ w_140 ⟨N_141, rfl, hS'⟩
          intro a h
          obtain ⟨N_142, hS'', le_142, ln_142⟩ := hS.call [0] (by decide) rfl (l' := [Mem.one g_5 (.cells ([iV t_113.1, iV t_113.2.1, v_117] : List Value).toArray 58 (0, 0))]) (ow := []) rfl hS'
          replace hS : Sep w0 w_140 [N_142, _, _, _, _, _, _, _, _, _, _, _, _, _, _, _, _] Z := hS''
          clear hS' hS''
          refine s_on h rfl rfl hc_138 <| s_not h rfl rfl fun a h=>s_pick_t h rfl rfl hc_138 rfl fun a h=>s_assign h rfl rfl fun a h=>wpList_nil <| x_then_n (hKJ_121 _ _ ?_)
          refine wp_ret ?_
          by_cases hc_143 : t_139 = true
          ·rw [if_pos hc_143] at H
           cases H
          ·rw [if_neg hc_143] at H
           exact f_ret h (rs := [.tmp 0]) rfl (.tmp rfl .nil) ⟨_, rfl, N_142, (by rw [(nt (Bool.eq_false_iff.2 hc_143))]; rfl), (Sep.sel hS [0] (by decide))⟩
         ·rw [if_neg hc_138] at H
          cases H
        ·rw [if_neg hc_133] at H
         cases H
       ·rw [if_neg hc_128] at H
        cases H
      ·rw [if_neg hc_127] at H
       cases H
    ·rw [if_neg hc_125] at H
     cases H
   ·rw [if_neg hc_124] at H
    cases H
 ·rw [if_neg hc_122] at H
  cases H

set_option maxHeartbeats 4000000 in
set_option maxRecDepth 20000 in
theorem hocketlaw23_NetsFull.calls (K : Nat) (x0 : Int) (x1 : Int) (r : Unit) (w0 w : World) (Z A : Mem) (hA : A.le Z) (hS : Sep w0 w [] Z)
    (H : hocketlaw23_NetsFull.f K x0 x1 = some r) :
    Calls Try.prog 8 [iV x0, iV x1].toArray w (Ret fun v w' => ∃ (N : Mem), v = .bool true ∧ Sep w0 w' [N] Z) := by
 unfold hocketlaw23_NetsFull.f at H
 refine f_enter _ Try.func8 rfl Try.ntmps8 rfl fun a h=>?_
 replace h : Fr 80 a [(0, iV x0), (1, iV x1)] := h
 replace hS := hS.start
 replace hS : Sep w0 w [_] Z := hS
 refine wp_seq <| wp_region_lit <| s_assign h rfl rfl fun a h=>wpList_nil <| x_then_n <| wp_seq <| wp_region_lit ?_
 obtain ⟨t_1, et_1, H⟩ := Option.bind_eq_some_iff.1 H
 refine s_call h rfl Try.call9 rfl (nets_New.calls 2 t_1 w0 _ _ _ (Mem.le.refl _) (hS.enter [] (by decide))  et_1) ?_
 rintro _ w_2 ⟨g_5, v_6, N_3, M_8, rfl, hS', hr_7⟩
 intro a h
 obtain ⟨N_4, hS'', le_4, ln_4⟩ := hS.call [] (by decide) rfl (l' := []) (ow := [Mem.one g_5 (.cells ([iV t_1.1, iV t_1.2.1, v_6] : List Value).toArray 58 (0, 0)), M_8]) rfl hS'
 replace hS : Sep w0 w_2 [N_4, Mem.one g_5 (.cells ([iV t_1.1, iV t_1.2.1, v_6] : List Value).toArray 58 (0, 0)), M_8] Z := hS''
 clear hS' hS''
 refine s_assign h rfl rfl fun a h=>wpList_nil <| x_then_n <| c_seq fun KJ_10 hKJ_10 => wp_seq <| wp_region_lit <| s_move h rfl rfl fun a h=>s_ptrNil (b := false) h rfl U23 rfl (.inl ⟨rfl, rfl⟩) fun a h=>wpList_nil <| x_then_n <| c_cond_f h rfl rfl <| wp_skip <| x_then_n (hKJ_10 _ _ ?_)
 refine wp_seq <| wp_region_lit <| s_move h rfl rfl fun a h=>s_bits (i := x0) (j := 255) (r := band .i64 x0 255) h rfl rfl rfl (.inl ⟨rfl, rfl⟩) fun a h=>s_move h rfl rfl fun a h=>s_bits (i := x1) (j := 255) (r := band .i64 x1 255) h rfl rfl rfl (.inl ⟨rfl, rfl⟩) fun a h=>s_assign h rfl rfl fun a h=>s_assign h rfl rfl fun a h=>wpList_nil ?_
 replace h : Fr 80 a [(0, iV (band .i64 x0 255)), (1, iV (band .i64 x1 255)), (4, .bool false), (5, .pointer (some ⟨g_5, 0, none⟩))] := h.keep [0, 1, 4, 5]
 refine x_then_n <| c_seq fun KJ_11 hKJ_11 => wp_seq <| wp_region_lit <| s_assign h rfl rfl fun a h=>wpList_nil <| x_then_n ?_
 have hJ_j_19 : ∀ (x_13 : nets_Net), hocketlaw23_NetsFull.J1 K x1 x0 x_13 = some r → ∀ (a : Act) (w_18 : World), (∃ (v_16 : Value) (N_12 : Mem) (M_14 : Mem), Fr 80 a [(0, iV (band .i64 x0 255)), (1, iV (band .i64 x1 255)), (4, .bool false), (5, .pointer (some ⟨g_5, 0, none⟩))] ∧ Sep w0 w_18 [N_12, Mem.one g_5 (.cells ([iV x_13.n, iV x_13.mask, v_16] : List Value).toArray 58 (0, 0)), M_14] Z ∧ N_4.le N_12 ∧ Own k_nets_frame 60 M_14 N_12 v_16 x_13.l) → KJ_11 a w_18 := by
  clear H h hS a
  rintro x_13 H a w_18 ⟨v_16, N_12, M_14, h, hS, le_12, ho_17⟩
  unfold hocketlaw23_NetsFull.J1 at H
  refine hKJ_11 _ _ <| c_seq fun KJ_20 hKJ_20 => wp_seq <| wp_region_lit <| s_assign h rfl rfl fun a h=>wpList_nil <| x_then_n ?_
  have hJ_j_28 : ∀ (x_22 : nets_Net), hocketlaw23_NetsFull.J2 K x0 x1 x_22 = some r → ∀ (a : Act) (w_27 : World), (∃ (v_25 : Value) (N_21 : Mem) (M_23 : Mem), Fr 80 a [(0, iV (band .i64 x0 255)), (1, iV (band .i64 x1 255)), (4, .bool false), (5, .pointer (some ⟨g_5, 0, none⟩))] ∧ Sep w0 w_27 [N_21, Mem.one g_5 (.cells ([iV x_22.n, iV x_22.mask, v_25] : List Value).toArray 58 (0, 0)), M_23] Z ∧ N_12.le N_21 ∧ Own k_nets_frame 60 M_23 N_21 v_25 x_22.l) → KJ_20 a w_27 := by
   clear H h hS a
   rintro x_22 H a w_27 ⟨v_25, N_21, M_23, h, hS, le_21, ho_26⟩
   unfold hocketlaw23_NetsFull.J2 at H
   refine hKJ_20 _ _ <| wp_seq <| wp_region_lit <| s_move h rfl rfl fun a h=>s_move h rfl rfl fun a h=>s_arith (r := w64 ((band .i64 x0 255) + (band .i64 x1 255))) h rfl rfl rfl (.inl ⟨rfl, rfl⟩) fun a h=>s_min h rfl rfl rfl fun a h=>s_assign h rfl rfl fun a h=>wpList_nil <| x_then_n <| c_seq fun KJ_29 hKJ_29 => wp_seq <| wp_region_lit ?_
   refine s_move h rfl rfl fun a h=>s_cmp (b := ((band .i64 x0 255) == 0)) h rfl rfl rfl (.inl ⟨rfl, rfl⟩) fun a h=>wpList_nil ?_
   replace h : Fr 80 a [(0, _), (4, _), (5, _), (8, iV (mn (w64 ((band .i64 x0 255) + (band .i64 x1 255))) 200)), (52, .bool ((band .i64 x0 255) == 0))] := h.keep [0, 4, 5, 8, 52]
   refine x_then_n ?_
   have hJ_j_33 : ∀ (x_31 : Int), hocketlaw23_NetsFull.J3 K x_22 x0 x_31 = some r → ∀ (a : Act) (w_32 : World), (∃ (N_30 : Mem), Fr 80 a [(0, iV (band .i64 x0 255)), (4, .bool false), (5, .pointer (some ⟨g_5, 0, none⟩)), (8, iV x_31)] ∧ Sep w0 w_32 [N_30, Mem.one g_5 (.cells ([iV x_22.n, iV x_22.mask, v_25] : List Value).toArray 58 (0, 0)), M_23] Z ∧ N_21.le N_30) → KJ_29 a w_32 := by
    clear H h hS a
    rintro x_31 H a w_32 ⟨N_30, h, hS, le_30⟩
    unfold hocketlaw23_NetsFull.J3 at H
    refine hKJ_29 _ _ <| c_seq fun KJ_34 hKJ_34 => wp_seq <| wp_region_lit <| s_move h rfl rfl fun a h=>?_
    obtain ⟨t_35, et_35, H⟩ := Option.bind_eq_some_iff.1 H
    refine s_call h rfl Try.call12 rfl (nets_Net_Count.calls _ x_22.n x_22.mask x_22.l _ t_35 w0 _ _ _ (Mem.le.refl _) (hS.enter [0] (by decide)) (ho_26.rd (hS.own_zed [0] 1 (by decide)) (le_30.trans (hS.new_zed [0]))) et_35) ?_
    rintro _ w_36 ⟨N_37, rfl, hS'⟩
    intro a h
    obtain ⟨N_38, hS'', le_38, ln_38⟩ := hS.call [0] (by decide) rfl (l' := [Mem.one g_5 (.cells ([iV x_22.n, iV x_22.mask, v_25] : List Value).toArray 58 (0, 0))]) (ow := []) rfl hS'
    replace hS : Sep w0 w_36 [N_38, _, _] Z := hS''
    clear hS' hS''
    refine s_move h rfl rfl fun a h=>s_move h rfl rfl fun a h=>s_min h rfl rfl rfl fun a h=>s_max h rfl rfl rfl fun a h=>s_cmp (b := (t_35 != (mx x_31 (mn (band .i64 x0 255) 200)))) h rfl rfl rfl (.inr (.inl ⟨rfl, rfl⟩)) fun a h=>wpList_nil <| x_then_n ?_
    by_cases hc_39 : t_35 = (mx x_31 (mn (band .i64 x0 255) 200))
    ·rw [if_pos hc_39] at H
     refine c_cond_f h rfl (bne_eq_false_iff_eq.2 hc_39) <| wp_skip <| x_then_n (hKJ_34 _ _ ?_)
     refine c_seq fun KJ_40 hKJ_40 => wp_seq <| wp_region_lit <| s_assign h rfl rfl fun a h=>wpList_nil <| x_then_n ?_
     have hJ_j_43 : hocketlaw23_NetsFull.J4 K = some r → ∀ (a : Act) (w_42 : World), (∃ (N_41 : Mem), Fr 80 a [(4, .bool false)] ∧ Sep w0 w_42 [N_41, Mem.no, Mem.no] Z ∧ N_38.le N_41) → KJ_40 a w_42 := by
      clear H h hS a
      rintro H a w_42 ⟨N_41, h, hS, le_41⟩
      unfold hocketlaw23_NetsFull.J4 at H
      refine hKJ_40 _ _ <| wp_seq <| wp_region_lit ?_
      obtain ⟨t_44, et_44, H⟩ := Option.bind_eq_some_iff.1 H
      refine s_call h rfl Try.call13 rfl (hocketlaw23_awake.calls K  t_44 w0 _ _ _ (Mem.le.refl _) (hS.enter [] (by decide))  et_44) ?_
      rintro _ w_45 ⟨N_46, rfl, hS'⟩
      intro a h
      obtain ⟨N_47, hS'', le_47, ln_47⟩ := hS.call [] (by decide) rfl (l' := []) (ow := []) rfl hS'
      replace hS : Sep w0 w_45 [N_47, _, _] Z := hS''
      clear hS' hS''
      refine s_assign h rfl rfl fun a h=>wpList_nil <| x_then_n <| wp_ret ?_
      exact f_ret h (rs := [.tmp 4]) rfl (.tmp rfl .nil) ⟨_, rfl, N_47, rfl, (Sep.sel hS [0] (by decide))⟩
     clear hKJ_40
     replace hS : Sep w0 w_36 [_, _, _] Z := hS
     replace h : Fr 80 a [(0, _), (4, _), (5, _), (9, iV 0)] := h.keep [0, 4, 5, 9]
     refine c_block <| c_loop (fun k_55 a w_55 => ∃ (x_49 : Int) (x_50 : nets_Net) (v_53 : Value) (N_48 : Mem) (M_51 : Mem), hocketlaw23_NetsFull.L1 K x0 (fun v => hocketlaw23_NetsFull.J4 K) k_55 (x_49, x_50) = some r ∧ Fr 80 a [(0, iV (band .i64 x0 255)), (4, .bool false), (5, .pointer (some ⟨g_5, 0, none⟩)), (9, iV x_49)] ∧ Sep w0 w_55 [N_48, Mem.one g_5 (.cells ([iV x_50.n, iV x_50.mask, v_53] : List Value).toArray 58 (0, 0)), M_51] Z ∧ N_38.le N_48 ∧ Own k_nets_frame 60 M_51 N_48 v_53 x_50.l) K ⟨0, x_22, v_25, N_38, M_23, H, h, (Sep.sel hS [0, 1, 2] (by decide)), (Mem.le.refl _), (ho_26.mono (le_30.trans le_38))⟩ (fun a w h => by obtain ⟨_, _, _, _, _, H, _⟩ := h; cases (show (none : Option (Unit)) = some r from H)) ?_
     clear h hS a H
     rintro k_55 a w_55 KL_55 hKL_55 ⟨x_49, x_50, v_53, N_48, M_51, H, h, hS, le_48, ho_54⟩
     replace H : hocketlaw23_NetsFull.B1 K x0 (fun v => hocketlaw23_NetsFull.J4 K) (hocketlaw23_NetsFull.L1 K x0 (fun v => hocketlaw23_NetsFull.J4 K) k_55) x_49 x_50 = some r := H
     unfold hocketlaw23_NetsFull.B1 at H
     refine c_seq fun KJ_57 hKJ_57 => wp_seq <| wp_region_lit <| s_move h rfl rfl fun a h=>s_move h rfl rfl fun a h=>s_min h rfl rfl rfl fun a h=>s_cmp (b := decide (x_49 < (mn (band .i64 x0 255) 200))) h rfl rfl rfl (.inr (.inr (.inl ⟨rfl, rfl⟩))) fun a h=>wpList_nil <| x_then_n ?_
     by_cases hc_58 : x_49 < (mn (band .i64 x0 255) 200)
     ·rw [if_pos hc_58] at H
      refine c_cond_t h rfl (decide_eq_true hc_58) <| wp_skip <| x_then_n (hKJ_57 _ _ ?_)
      refine c_seq fun KJ_59 hKJ_59 => c_block <| wp_seq <| wp_region_lit <| s_move h rfl rfl fun a h=>?_
      obtain ⟨t_60, et_60, H⟩ := Option.bind_eq_some_iff.1 H
      refine s_call h rfl Try.call11 rfl (nets_Net_Take.calls K _ x_50.n x_50.mask x_50.l _ _ 0 t_60 w0 _ _ N_48 (hS.new_zed [0, 1]) (hS.enter [0, 1] (by decide)) (ho_54.mono (Mem.le.refl _)) et_60) ?_
      rintro _ w_61 ⟨v_64, v_68, v_72, v_76, v_80, v_84, v_88, N_62, M_66, M_70, M_74, M_78, M_82, M_86, M_90, rfl, hS', hr_65, hr_69, hr_73, hr_77, hr_81, hr_85, hr_89⟩
      intro a h
      obtain ⟨N_63, hS'', le_63, ln_63⟩ := hS.call [0, 1] (by decide) rfl (l' := [Mem.one g_5 (.cells ([iV t_60.2.2.1, iV t_60.2.2.2.1, v_88] : List Value).toArray 58 (0, 0)), M_90]) (ow := [M_66, M_70, M_74, M_78, M_82, M_86]) rfl hS'
      replace hS : Sep w0 w_61 [N_63, Mem.one g_5 (.cells ([iV t_60.2.2.1, iV t_60.2.2.2.1, v_88] : List Value).toArray 58 (0, 0)), M_90, M_66, M_70, M_74, M_78, M_82, M_86] Z := hS''
      clear hS' hS''
      refine s_move h rfl rfl fun a h=>s_extract h rfl rfl rfl fun a h=>s_extract h rfl rfl rfl fun a h=>v_alloc h rfl ti32 hS fun w_92 g_93 hS' a h => ?_
      replace hS : Sep w0 w_92 [_, _, _, _, _, _, _, _, _, Mem.one g_93 (.cells ([iV 0, iV 0, iV 0, iV 0, iV 0, iV 0, .bool false, iV 0, iV 0, iV 0, iV 0, nS, iV 0, iV 0, nS, nS, iV 0, iV 0, iV 0, iV 0, iV 0, nS, nS, nS] : List Value).toArray 32 (0, 0))] Z := hS'
      clear hS'
      obtain ⟨w_94, hs', hS'⟩ := hS.store (P := Try.prog) (p := 9) (o := 0) (t := 32) (v := .agg ([iV t_60.1.Kind, iV t_60.1.From, iV t_60.1.To, iV t_60.1.View, iV t_60.1.Inst, iV t_60.1.Len, .bool t_60.1.Has, iV t_60.1.Members, iV t_60.1.Source, iV t_60.1.At, iV t_60.1.Total, v_64, iV t_60.1.Hop, iV t_60.1.Seq, v_68, v_72, iV t_60.1.Index, iV t_60.1.Entry.Sess, iV t_60.1.Entry.Seq, iV t_60.1.Entry.Cmd.Kind, iV t_60.1.Entry.Cmd.Who, v_76, v_80, v_84] : List Value).toArray) (vs := [iV t_60.1.Kind, iV t_60.1.From, iV t_60.1.To, iV t_60.1.View, iV t_60.1.Inst, iV t_60.1.Len, .bool t_60.1.Has, iV t_60.1.Members, iV t_60.1.Source, iV t_60.1.At, iV t_60.1.Total, v_64, iV t_60.1.Hop, iV t_60.1.Seq, v_68, v_72, iV t_60.1.Index, iV t_60.1.Entry.Sess, iV t_60.1.Entry.Seq, iV t_60.1.Entry.Cmd.Kind, iV t_60.1.Entry.Cmd.Who, v_76, v_80, v_84]) rfl ti32 rfl rfl rfl (by intro u hu; simp only [List.mem_cons, List.not_mem_nil, or_false] at hu; rcases hu with rfl | rfl | rfl | rfl | rfl | rfl | rfl | rfl | rfl | rfl | rfl | rfl | rfl | rfl | rfl | rfl | rfl | rfl | rfl | rfl | rfl | rfl | rfl | rfl <;> first | rfl | exact hr_65.one | exact hr_69.one | exact hr_73.one | exact hr_77.one | exact hr_81.one | exact hr_85.one)
      refine s_store h rfl rfl hs' ?_
      replace hS : Sep w0 w_94 [_, _, _, _, _, _, _, _, _, Mem.one g_93 (.cells ([iV t_60.1.Kind, iV t_60.1.From, iV t_60.1.To, iV t_60.1.View, iV t_60.1.Inst, iV t_60.1.Len, .bool t_60.1.Has, iV t_60.1.Members, iV t_60.1.Source, iV t_60.1.At, iV t_60.1.Total, v_64, iV t_60.1.Hop, iV t_60.1.Seq, v_68, v_72, iV t_60.1.Index, iV t_60.1.Entry.Sess, iV t_60.1.Entry.Seq, iV t_60.1.Entry.Cmd.Kind, iV t_60.1.Entry.Cmd.Who, v_76, v_80, v_84] : List Value).toArray 32 (0, 0))] Z := hS'
      clear hs' hS'
      refine s_assign h rfl rfl fun a h=>wpList_nil ?_
      replace h : Fr 80 a [(0, _), (4, _), (5, _), (9, _), (10, .pointer (some ⟨g_93, 0, none⟩)), (11, .bool t_60.2.1)] := h.keep [0, 4, 5, 9, 10, 11]
      refine x_then_n <| c_seq fun KJ_95 hKJ_95 => ?_
      have hJ_j_99 : ∀ (x_97 : Bool), hocketlaw23_NetsFull.J5 K (hocketlaw23_NetsFull.L1 K x0 (fun v => hocketlaw23_NetsFull.J4 K) k_55) x_49 t_60 x_97 = some r → ∀ (a : Act) (w_98 : World), (∃ (N_96 : Mem), Fr 80 a [(0, iV (band .i64 x0 255)), (4, .bool false), (5, .pointer (some ⟨g_5, 0, none⟩)), (9, iV x_49), (78, .bool x_97)] ∧ Sep w0 w_98 [N_96, Mem.one g_5 (.cells ([iV t_60.2.2.1, iV t_60.2.2.2.1, v_88] : List Value).toArray 58 (0, 0)), M_90, Mem.no, Mem.no, Mem.no, Mem.no, Mem.no, Mem.no, Mem.no] Z ∧ N_63.le N_96) → KJ_95 a w_98 := by
       clear H h hS a
       rintro x_97 H a w_98 ⟨N_96, h, hS, le_96⟩
       unfold hocketlaw23_NetsFull.J5 at H
       refine hKJ_95 _ _ ?_
       by_cases hc_100 : x_97 = true
       ·rw [if_pos hc_100] at H
        cases H
       ·rw [if_neg hc_100] at H
        refine c_cond_f h rfl (Bool.eq_false_iff.2 hc_100) <| wp_skip <| x_block_n <| x_then_n (hKJ_59 _ _ ?_)
        replace hS : Sep w0 w_98 [N_96, Mem.one g_5 (.cells ([iV t_60.2.2.1, iV t_60.2.2.2.1, v_88] : List Value).toArray 58 (0, 0)), M_90] Z := hS.sel [0, 1, 2] (by decide)
        refine wp_region_lit <| s_move h rfl rfl fun a h=>s_arith (r := w64 (x_49 + 1)) h rfl rfl rfl (.inl ⟨rfl, rfl⟩) fun a h=>s_assign h rfl rfl fun a h=>wpList_nil <| x_then_n (hKL_55 _ _ ?_)
        replace hS : Sep w0 w_98 [_, _, _] Z := hS
        replace h : Fr 80 a [(0, _), (4, _), (5, _), (9, iV (w64 (x_49 + 1)))] := h.keep [0, 4, 5, 9]
        exact ⟨w64 (x_49 + 1), (⟨t_60.2.2.1, t_60.2.2.2.1, t_60.2.2.2.2⟩ : nets_Net), v_88, N_96, M_90, H, h, (Sep.sel hS [0, 1, 2] (by decide)), (le_48.trans (le_63.trans le_96)), ((hr_89.mono (Mem.un_le le_63 ln_63)).mono le_96)⟩
      clear hKJ_95
      refine wp_region_lit <| s_move h rfl rfl fun a h=>s_not h rfl rfl fun a h=>s_move h rfl rfl fun a h=>?_
      by_cases hc_101 : t_60.2.1 = true
      ·rw [if_pos hc_101] at H
       refine s_on h rfl rfl (nf hc_101) <| s_fieldAddr h rfl U32 rfl ti3 rfl rfl fun a h=>s_on h rfl rfl (nf hc_101) <| s_load h rfl rfl (hS.load_one (p := 9) rfl U3 rfl rfl) fun a h=>s_on h rfl rfl (nf hc_101) <| s_move h rfl rfl fun a h=>s_on h rfl rfl (nf hc_101) <| s_cmp (b := (t_60.1.View != x_49)) h rfl rfl rfl (.inr (.inl ⟨rfl, rfl⟩)) fun a h=>s_pick_f h rfl rfl (nf hc_101) rfl fun a h=>wpList_nil ?_
       replace hS : Sep w0 w_94 [_, _, _, _, _, _, _, _, _, _] Z := hS
       replace h : Fr 80 a [(0, _), (4, _), (5, _), (9, _), (78, .bool (t_60.1.View != x_49))] := h.keep [0, 4, 5, 9, 78]
       exact x_then_n (hJ_j_99 (t_60.1.View != x_49) H _ _ ⟨N_63, h, (Sep.sel hS [0, 1, 2, 1002, 1003, 1004, 1005, 1006, 1007, 1008] (by decide)), (Mem.le.refl _)⟩)
      ·rw [if_neg hc_101] at H
       refine s_off h rfl rfl rfl (nt (Bool.eq_false_iff.2 hc_101)) fun a h=>s_off h rfl rfl rfl (nt (Bool.eq_false_iff.2 hc_101)) fun a h=>s_off h rfl rfl rfl (nt (Bool.eq_false_iff.2 hc_101)) fun a h=>s_off h rfl rfl rfl (nt (Bool.eq_false_iff.2 hc_101)) fun a h=>s_pick_t h rfl rfl (nt (Bool.eq_false_iff.2 hc_101)) rfl fun a h=>wpList_nil ?_
       replace hS : Sep w0 w_94 [_, _, _, _, _, _, _, _, _, _] Z := hS
       replace h : Fr 80 a [(0, _), (4, _), (5, _), (9, _), (78, .bool true)] := h.keep [0, 4, 5, 9, 78]
       exact x_then_n (hJ_j_99 true H _ _ ⟨N_63, h, (Sep.sel hS [0, 1, 2, 1002, 1003, 1004, 1005, 1006, 1007, 1008] (by decide)), (Mem.le.refl _)⟩)
     ·rw [if_neg hc_58] at H
      refine c_cond_f h rfl (decide_eq_false hc_58) <| wp_exit (x_then_x (x_then_x (x_block_t ?_)))
      replace hS : Sep w0 w_55 [_, _, _] Z := hS
      replace h : Fr 80 a [(4, _)] := h.keep [4]
      exact x_then_n (hJ_j_43  H _ _ ⟨N_48, h, (Sep.sel hS [0, 1000, 1001] (by decide)), le_48⟩)
    ·rw [if_neg hc_39] at H
     cases H
   clear hKJ_29
   by_cases hc_102 : (band .i64 x0 255) = 0
   ·rw [if_pos hc_102] at H
    refine c_cond_t h rfl (beq_iff_eq.2 hc_102) <| wp_region_lit <| s_assign h rfl rfl fun a h=>wpList_nil ?_
    replace hS : Sep w0 w_27 [_, _, _] Z := hS
    replace h : Fr 80 a [(0, _), (4, _), (5, _), (8, iV 0)] := h.keep [0, 4, 5, 8]
    exact x_then_n (hJ_j_33 0 H _ _ ⟨N_21, h, (Sep.sel hS [0, 1, 2] (by decide)), (Mem.le.refl _)⟩)
   ·rw [if_neg hc_102] at H
    refine c_cond_f h rfl (beq_eq_false_iff_ne.2 hc_102) <| wp_skip ?_
    replace hS : Sep w0 w_27 [_, _, _] Z := hS
    replace h : Fr 80 a [(0, _), (4, _), (5, _), (8, _)] := h.keep [0, 4, 5, 8]
    exact x_then_n (hJ_j_33 (mn (w64 ((band .i64 x0 255) + (band .i64 x1 255))) 200) H _ _ ⟨N_21, h, (Sep.sel hS [0, 1, 2] (by decide)), (Mem.le.refl _)⟩)
  clear hKJ_20
  replace hS : Sep w0 w_18 [_, _, _] Z := hS
  replace h : Fr 80 a [(0, _), (1, _), (4, _), (5, _), (7, iV 0)] := h.keep [0, 1, 4, 5, 7]
  refine c_block <| c_loop (fun k_110 a w_110 => ∃ (x_104 : Int) (x_105 : nets_Net) (v_108 : Value) (N_103 : Mem) (M_106 : Mem), hocketlaw23_NetsFull.L2 K x1 x0 (fun v => hocketlaw23_NetsFull.J2 K x0 x1 v) k_110 (x_104, x_105) = some r ∧ Fr 80 a [(0, iV (band .i64 x0 255)), (1, iV (band .i64 x1 255)), (4, .bool false), (5, .pointer (some ⟨g_5, 0, none⟩)), (7, iV x_104)] ∧ Sep w0 w_110 [N_103, Mem.one g_5 (.cells ([iV x_105.n, iV x_105.mask, v_108] : List Value).toArray 58 (0, 0)), M_106] Z ∧ N_12.le N_103 ∧ Own k_nets_frame 60 M_106 N_103 v_108 x_105.l) K ⟨0, x_13, v_16, N_12, M_14, H, h, (Sep.sel hS [0, 1, 2] (by decide)), (Mem.le.refl _), (ho_17.mono (Mem.le.refl _))⟩ (fun a w h => by obtain ⟨_, _, _, _, _, H, _⟩ := h; cases (show (none : Option (Unit)) = some r from H)) ?_
  clear h hS a H
  rintro k_110 a w_110 KL_110 hKL_110 ⟨x_104, x_105, v_108, N_103, M_106, H, h, hS, le_103, ho_109⟩
  replace H : hocketlaw23_NetsFull.B2 K x1 x0 (fun v => hocketlaw23_NetsFull.J2 K x0 x1 v) (hocketlaw23_NetsFull.L2 K x1 x0 (fun v => hocketlaw23_NetsFull.J2 K x0 x1 v) k_110) x_104 x_105 = some r := H
  unfold hocketlaw23_NetsFull.B2 at H
  refine c_seq fun KJ_112 hKJ_112 => c_seq fun KJ_113 hKJ_113 => ?_
  have hJ_j_117 : ∀ (x_115 : Bool), hocketlaw23_NetsFull.J6 K x_105 x0 x_104 (hocketlaw23_NetsFull.L2 K x1 x0 (fun v => hocketlaw23_NetsFull.J2 K x0 x1 v) k_110) (fun v => hocketlaw23_NetsFull.J2 K x0 x1 v) x_115 = some r → ∀ (a : Act) (w_116 : World), (∃ (N_114 : Mem), Fr 80 a [(0, iV (band .i64 x0 255)), (1, iV (band .i64 x1 255)), (4, .bool false), (5, .pointer (some ⟨g_5, 0, none⟩)), (7, iV x_104), (37, .bool x_115)] ∧ Sep w0 w_116 [N_114, Mem.one g_5 (.cells ([iV x_105.n, iV x_105.mask, v_108] : List Value).toArray 58 (0, 0)), M_106] Z ∧ N_103.le N_114) → KJ_113 a w_116 := by
   clear H h hS a
   rintro x_115 H a w_116 ⟨N_114, h, hS, le_114⟩
   unfold hocketlaw23_NetsFull.J6 at H
   refine hKJ_113 _ _ ?_
   by_cases hc_118 : x_115 = true
   ·rw [if_pos hc_118] at H
    refine c_cond_t h rfl hc_118 <| wp_skip <| x_then_n (hKJ_112 _ _ ?_)
    refine c_seq fun KJ_119 hKJ_119 => c_block <| wp_seq <| wp_region_lit <| s_move h rfl rfl fun a h=>?_
    obtain ⟨t_120, et_120, H⟩ := Option.bind_eq_some_iff.1 H
    refine s_call h rfl Try.call15 rfl (nets_Net_Twice.calls _ x_105.n x_105.mask x_105.l _ _ 0 t_120 w0 _ _ N_114 (hS.new_zed [0, 1]) (hS.enter [0, 1] (by decide)) (ho_109.mono le_114) et_120) ?_
    rintro _ w_121 ⟨v_124, N_122, M_126, rfl, hS', hr_125⟩
    intro a h
    obtain ⟨N_123, hS'', le_123, ln_123⟩ := hS.call [0, 1] (by decide) rfl (l' := [Mem.one g_5 (.cells ([iV t_120.2.1, iV t_120.2.2.1, v_124] : List Value).toArray 58 (0, 0)), M_126]) (ow := []) rfl hS'
    replace hS : Sep w0 w_121 [N_123, Mem.one g_5 (.cells ([iV t_120.2.1, iV t_120.2.2.1, v_124] : List Value).toArray 58 (0, 0)), M_126] Z := hS''
    clear hS' hS''
    refine s_move h rfl rfl fun a h=>s_move h rfl rfl fun a h=>s_arith (r := w64 ((band .i64 x0 255) + x_104)) h rfl rfl rfl (.inl ⟨rfl, rfl⟩) fun a h=>s_cmp (b := decide ((w64 ((band .i64 x0 255) + x_104)) < 200)) h rfl rfl rfl (.inr (.inr (.inl ⟨rfl, rfl⟩))) fun a h=>s_beq (b := !(t_120.1 == (decide ((w64 ((band .i64 x0 255) + x_104)) < 200)))) h rfl U4 rfl rfl (.inr ⟨rfl, rfl⟩) fun a h=>wpList_nil <| x_then_n ?_
    by_cases hc_128 : t_120.1 = (decide ((w64 ((band .i64 x0 255) + x_104)) < 200))
    ·rw [if_pos hc_128] at H
     refine c_cond_f h rfl (nf (beq_iff_eq.2 hc_128)) <| wp_skip <| x_block_n <| x_then_n (hKJ_119 _ _ ?_)
     refine wp_region_lit <| s_move h rfl rfl fun a h=>s_arith (r := w64 (x_104 + 1)) h rfl rfl rfl (.inl ⟨rfl, rfl⟩) fun a h=>s_assign h rfl rfl fun a h=>wpList_nil ?_
     replace h : Fr 80 a [(0, _), (1, _), (4, _), (5, _), (7, iV (w64 (x_104 + 1)))] := h.keep [0, 1, 4, 5, 7]
     refine x_then_n (hKL_110 _ _ ?_)
     replace hS : Sep w0 w_121 [_, _, _] Z := hS
     replace h : Fr 80 a [(0, _), (1, _), (4, _), (5, _), (7, _)] := h.keep [0, 1, 4, 5, 7]
     exact ⟨w64 (x_104 + 1), (⟨t_120.2.1, t_120.2.2.1, t_120.2.2.2⟩ : nets_Net), v_124, N_123, M_126, H, h, (Sep.sel hS [0, 1, 2] (by decide)), (le_103.trans (le_114.trans le_123)), ((hr_125.mono (Mem.un_le le_123 ln_123)).mono (Mem.le.refl _))⟩
    ·rw [if_neg hc_128] at H
     cases H
   ·rw [if_neg hc_118] at H
    refine c_cond_f h rfl (Bool.eq_false_iff.2 hc_118) <| wp_exit (x_then_x (x_then_x (x_block_t ?_)))
    replace hS : Sep w0 w_116 [_, _, _] Z := hS
    replace h : Fr 80 a [(0, _), (1, _), (4, _), (5, _)] := h.keep [0, 1, 4, 5]
    exact x_then_n (hJ_j_28 x_105 H _ _ ⟨v_108, N_114, M_106, h, (Sep.sel hS [0, 1, 2] (by decide)), (le_103.trans le_114), (ho_109.mono le_114)⟩)
  clear hKJ_113
  refine wp_region_lit <| s_move h rfl rfl fun a h=>s_move h rfl rfl fun a h=>s_cmp (b := decide (x_104 < (band .i64 x1 255))) h rfl rfl rfl (.inr (.inr (.inl ⟨rfl, rfl⟩))) fun a h=>s_move h rfl rfl fun a h=>?_
  by_cases hc_129 : x_104 < (band .i64 x1 255)
  ·rw [if_pos hc_129] at H
   refine s_on h rfl rfl (decide_eq_true hc_129) <| s_move h rfl rfl fun a h=>s_on h rfl rfl (decide_eq_true hc_129) <| s_cmp (b := decide ((band .i64 x0 255) > 0)) h rfl rfl rfl (.inr (.inr (.inr (.inr (.inl ⟨rfl, rfl⟩))))) fun a h=>s_pick_t h rfl rfl (decide_eq_true hc_129) rfl fun a h=>wpList_nil ?_
   replace hS : Sep w0 w_110 [_, _, _] Z := hS
   replace h : Fr 80 a [(0, _), (1, _), (4, _), (5, _), (7, _), (37, .bool (decide ((band .i64 x0 255) > 0)))] := h.keep [0, 1, 4, 5, 7, 37]
   exact x_then_n (hJ_j_117 (decide ((band .i64 x0 255) > 0)) H _ _ ⟨N_103, h, (Sep.sel hS [0, 1, 2] (by decide)), (Mem.le.refl _)⟩)
  ·rw [if_neg hc_129] at H
   refine s_off h rfl rfl rfl (decide_eq_false hc_129) fun a h=>s_off h rfl rfl rfl (decide_eq_false hc_129) fun a h=>s_pick_f h rfl rfl (decide_eq_false hc_129) rfl fun a h=>wpList_nil ?_
   replace hS : Sep w0 w_110 [_, _, _] Z := hS
   replace h : Fr 80 a [(0, _), (1, _), (4, _), (5, _), (7, _), (37, .bool false)] := h.keep [0, 1, 4, 5, 7, 37]
   exact x_then_n (hJ_j_117 false H _ _ ⟨N_103, h, (Sep.sel hS [0, 1, 2] (by decide)), (Mem.le.refl _)⟩)
 clear hKJ_11
 replace hS : Sep w0 w_2 [_, _, _] Z := hS
 replace h : Fr 80 a [(0, _), (1, _), (4, _), (5, _), (6, iV 0)] := h.keep [0, 1, 4, 5, 6]
 refine c_block <| c_loop (fun k_137 a w_137 => ∃ (x_131 : Int) (x_132 : nets_Net) (v_135 : Value) (N_130 : Mem) (M_133 : Mem), hocketlaw23_NetsFull.L3 K x0 (fun v => hocketlaw23_NetsFull.J1 K x1 x0 v) k_137 (x_131, x_132) = some r ∧ Fr 80 a [(0, iV (band .i64 x0 255)), (1, iV (band .i64 x1 255)), (4, .bool false), (5, .pointer (some ⟨g_5, 0, none⟩)), (6, iV x_131)] ∧ Sep w0 w_137 [N_130, Mem.one g_5 (.cells ([iV x_132.n, iV x_132.mask, v_135] : List Value).toArray 58 (0, 0)), M_133] Z ∧ N_4.le N_130 ∧ Own k_nets_frame 60 M_133 N_130 v_135 x_132.l) K ⟨0, (⟨t_1.1, t_1.2.1, t_1.2.2⟩ : nets_Net), v_6, N_4, M_8, H, h, (Sep.sel hS [0, 1, 2] (by decide)), (Mem.le.refl _), ((hr_7.mono ln_4).mono (Mem.le.refl _))⟩ (fun a w h => by obtain ⟨_, _, _, _, _, H, _⟩ := h; cases (show (none : Option (Unit)) = some r from H)) ?_
 clear h hS a H
 rintro k_137 a w_137 KL_137 hKL_137 ⟨x_131, x_132, v_135, N_130, M_133, H, h, hS, le_130, ho_136⟩
 replace H : hocketlaw23_NetsFull.B3 K x0 (fun v => hocketlaw23_NetsFull.J1 K x1 x0 v) (hocketlaw23_NetsFull.L3 K x0 (fun v => hocketlaw23_NetsFull.J1 K x1 x0 v) k_137) x_131 x_132 = some r := H
 unfold hocketlaw23_NetsFull.B3 at H
 refine c_seq fun KJ_139 hKJ_139 => wp_seq <| wp_region_lit <| s_move h rfl rfl fun a h=>s_move h rfl rfl fun a h=>s_cmp (b := decide (x_131 < (band .i64 x0 255))) h rfl rfl rfl (.inr (.inr (.inl ⟨rfl, rfl⟩))) fun a h=>wpList_nil <| x_then_n ?_
 by_cases hc_140 : x_131 < (band .i64 x0 255)
 ·rw [if_pos hc_140] at H
  refine c_cond_t h rfl (decide_eq_true hc_140) <| wp_skip <| x_then_n (hKJ_139 _ _ ?_)
  refine c_seq fun KJ_141 hKJ_141 => c_block <| wp_seq <| wp_region_lit <| s_move h rfl rfl fun a h=>s_move h rfl rfl fun a h=>s_build h rfl ti32 pl32 rfl (.cons rfl (.cons rfl (.cons rfl (.cons rfl .nil)))) (cs := [iV 6, iV 0, iV 1, iV x_131, iV 0, iV 0, .bool false, iV 0, iV 0, iV 0, iV 0, nS, iV 0, iV 0, nS, nS, iV 0, iV 0, iV 0, iV 0, iV 0, nS, nS, nS]) (by kernel_rfl) fun a h=>?_
  obtain ⟨t_142, et_142, H⟩ := Option.bind_eq_some_iff.1 H
  refine s_call h rfl Try.call10 rfl (nets_Net_Send.calls K _ x_132.n x_132.mask x_132.l _ _ (⟨6, 0, 1, x_131, 0, 0, false, 0, 0, 0, 0, ([] : List UInt8), 0, 0, ([] : List Int), ([] : List Int), 0, (⟨0, 0, (⟨0, 0, ([] : List UInt8), ([] : List UInt8), ([] : List UInt8)⟩ : api_Cmd)⟩ : api_Entry)⟩ : api_Msg) _ _ _ _ _ _ t_142 w0 _ _ N_130 (hS.new_zed [0, 1]) (hS.enter [0, 1] (by decide)) (ho_136.mono (Mem.le.refl _)) (Rd.nil _ _) (Rd.nil _ _) (Rd.nil _ _) (Rd.nil _ _) (Rd.nil _ _) (Rd.nil _ _) et_142) ?_
  rintro _ w_143 ⟨v_146, N_144, M_148, rfl, hS', hr_147⟩
  intro a h
  obtain ⟨N_145, hS'', le_145, ln_145⟩ := hS.call [0, 1] (by decide) rfl (l' := [Mem.one g_5 (.cells ([iV t_142.2.1, iV t_142.2.2.1, v_146] : List Value).toArray 58 (0, 0)), M_148]) (ow := []) rfl hS'
  replace hS : Sep w0 w_143 [N_145, Mem.one g_5 (.cells ([iV t_142.2.1, iV t_142.2.2.1, v_146] : List Value).toArray 58 (0, 0)), M_148] Z := hS''
  clear hS' hS''
  refine s_move h rfl rfl fun a h=>s_cmp (b := decide (x_131 < 200)) h rfl rfl rfl (.inr (.inr (.inl ⟨rfl, rfl⟩))) fun a h=>s_beq (b := !(t_142.1 == (decide (x_131 < 200)))) h rfl U4 rfl rfl (.inr ⟨rfl, rfl⟩) fun a h=>wpList_nil <| x_then_n ?_
  by_cases hc_150 : t_142.1 = (decide (x_131 < 200))
  ·rw [if_pos hc_150] at H
   refine c_cond_f h rfl (nf (beq_iff_eq.2 hc_150)) <| wp_skip <| x_block_n <| x_then_n (hKJ_141 _ _ ?_)
   refine wp_region_lit <| s_move h rfl rfl fun a h=>s_arith (r := w64 (x_131 + 1)) h rfl rfl rfl (.inl ⟨rfl, rfl⟩) fun a h=>s_assign h rfl rfl fun a h=>wpList_nil ?_
   replace h : Fr 80 a [(0, _), (1, _), (4, _), (5, _), (6, iV (w64 (x_131 + 1)))] := h.keep [0, 1, 4, 5, 6]
   refine x_then_n (hKL_137 _ _ ?_)
   replace hS : Sep w0 w_143 [_, _, _] Z := hS
   replace h : Fr 80 a [(0, _), (1, _), (4, _), (5, _), (6, _)] := h.keep [0, 1, 4, 5, 6]
   exact ⟨w64 (x_131 + 1), (⟨t_142.2.1, t_142.2.2.1, t_142.2.2.2⟩ : nets_Net), v_146, N_145, M_148, H, h, (Sep.sel hS [0, 1, 2] (by decide)), (le_130.trans le_145), ((hr_147.mono (Mem.un_le le_145 ln_145)).mono (Mem.le.refl _))⟩
  ·rw [if_neg hc_150] at H
   cases H
 ·rw [if_neg hc_140] at H
  refine c_cond_f h rfl (decide_eq_false hc_140) <| wp_exit (x_then_x (x_then_x (x_block_t ?_)))
  replace hS : Sep w0 w_137 [_, _, _] Z := hS
  replace h : Fr 80 a [(0, _), (1, _), (4, _), (5, _)] := h.keep [0, 1, 4, 5]
  exact x_then_n (hJ_j_19 x_132 H _ _ ⟨v_135, N_130, M_133, h, (Sep.sel hS [0, 1, 2] (by decide)), le_130, (ho_136.mono (Mem.le.refl _))⟩)
end Go.Proofs
