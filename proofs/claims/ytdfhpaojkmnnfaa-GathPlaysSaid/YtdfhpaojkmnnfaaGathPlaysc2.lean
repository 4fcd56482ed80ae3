/- What the calls do: each function once. -/
import Derived.Test.YtdfhpaojkmnnfaaGathPlaysc1
namespace Go.Proofs
open Go.Gp
set_option linter.unusedVariables false
set_option maxHeartbeats 4000000 in
set_option maxRecDepth 20000 in
theorem view_Choose.calls (K : Nat) (x0 : List api_Msg) (p0_0 : Value) (x1 : Int) (r : Int × Int × Int × Bool) (w0 w : World) (Z A : Mem) (hA : A.le Z) (hS : Sep w0 w [] Z) (hp0_0 : Rd k_api_Msg A p0_0 x0)
    (H : view_Choose.f K x0 x1 = some r) :
    Calls Try.prog 25 [p0_0, iV x1].toArray w (Ret fun v w' => ∃ (N : Mem), v = .tuple [iV r.1, iV r.2.1, iV r.2.2.1, .bool r.2.2.2].toArray ∧ Sep w0 w' [N] Z) := by
 unfold view_Choose.f at H
 refine f_enter _ Try.func25 rfl Try.ntmps25 rfl fun a h=>?_
 replace h : Fr 79 a [(0, p0_0), (1, iV x1)] := h
 replace hS := hS.start
 replace hS : Sep w0 w [_] Z := hS
 refine wp_seq <| wp_region_lit <| s_assign h rfl rfl fun a h=>s_assign h rfl rfl fun a h=>s_assign h rfl rfl fun a h=>s_assign h rfl rfl fun a h=>wpList_nil <| x_then_n <| wp_seq <| wp_region_lit <| s_move h rfl rfl fun a h=>s_move h rfl rfl fun a h=>?_
 obtain ⟨t_1, et_1, H⟩ := Option.bind_eq_some_iff.1 H
 refine s_call h rfl Try.call32 rfl (view_firsts.calls K x0 _ x1 t_1 w0 _ _ A (hA.trans (hS.le_zed [])) (hS.enter [] (by decide)) hp0_0 et_1) ?_
 rintro v_5 w_2 ⟨_, N_3, M_7, rfl, hS', hr_6⟩
 intro a h
 obtain ⟨N_4, hS'', le_4, ln_4⟩ := hS.call [] (by decide) rfl (l' := []) (ow := [M_7]) rfl hS'
 replace hS : Sep w0 w_2 [N_4, M_7] Z := hS''
 clear hS' hS''
 have hr_9 : Own k_api_Msg 29 M_7 (A.un N_4) v_5 t_1 := hr_6.mono (Mem.un_left ln_4)
 refine s_assign h rfl rfl fun a h=>wpList_nil <| x_then_n <| wp_seq <| wp_region_lit <| s_assign h rfl rfl fun a h=>wpList_nil <| x_then_n <| c_seq fun KJ_10 hKJ_10 => wp_seq <| wp_region_lit <| s_move h rfl rfl fun a h=>?_
 refine s_lenO h rfl U30 rfl hr_9 fun a h=>s_move h rfl rfl fun a h=>wpList_nil ?_
 replace h : Fr 79 a [(1, _), (4, iV 0), (5, iV 0), (6, iV 0), (7, .bool false), (8, v_5), (9, iV 0), (18, v_5), (19, iV (t_1.length : Int)), (20, iV 0)] := h.keep [1, 4, 5, 6, 7, 8, 9, 18, 19, 20]
 refine x_then_n ?_
 have hJ_j_15 : ∀ (x_12 : Int), ∀ (x_13 : Int), view_Choose.J1 K t_1 x1 x_12 x_13 = some r → ∀ (a : Act) (w_14 : World), (∃ (N_11 : Mem), Fr 79 a [(1, iV x1), (4, iV x_12), (5, iV 0), (6, iV 0), (7, .bool false), (8, v_5), (9, iV x_13)] ∧ Sep w0 w_14 [N_11, M_7] Z ∧ N_4.le N_11) → KJ_10 a w_14 := by
  clear H h hS a
  rintro x_12 x_13 H a w_14 ⟨N_11, h, hS, le_11⟩
  unfold view_Choose.J1 at H
  refine hKJ_10 _ _ <| wp_seq <| wp_region_lit <| v_alloc h rfl ti29 hS fun w_16 g_17 hS' a h => ?_
  replace hS : Sep w0 w_16 [_, _, Mem.one g_17 (.cells ([iV 0, iV 0, iV 0, iV 0, iV 0, iV 0, .bool false, iV 0, iV 0, iV 0, iV 0, nS, iV 0, iV 0, nS, nS, iV 0, iV 0, iV 0, iV 0, iV 0, nS, nS, nS] : List Value).toArray 29 (0, 0))] Z := hS'
  clear hS'
  refine wpList_nil <| x_then_n <| c_seq fun KJ_18 hKJ_18 => wp_seq <| wp_region_lit <| s_move h rfl rfl fun a h=>s_lenO h rfl U30 rfl hr_9 fun a h=>s_move h rfl rfl fun a h=>wpList_nil <| x_then_n ?_
  have hJ_j_35 : ∀ (x_20 : Bool), ∀ (x_21 : api_Msg), view_Choose.J2 K x_12 x1 x_20 x_21 = some r → ∀ (a : Act) (w_34 : World), (∃ (v_22 : Value) (v_24 : Value) (v_26 : Value) (v_28 : Value) (v_30 : Value) (v_32 : Value) (N_19 : Mem), Fr 79 a [(1, iV x1), (4, iV x_12), (5, iV 0), (6, iV 0), (7, .bool x_20), (12, .pointer (some ⟨g_17, 0, none⟩))] ∧ Sep w0 w_34 [N_19, Mem.no, Mem.one g_17 (.cells ([iV x_21.Kind, iV x_21.From, iV x_21.To, iV x_21.View, iV x_21.Inst, iV x_21.Len, .bool x_21.Has, iV x_21.Members, iV x_21.Source, iV x_21.At, iV x_21.Total, v_22, iV x_21.Hop, iV x_21.Seq, v_24, v_26, iV x_21.Index, iV x_21.Entry.Sess, iV x_21.Entry.Seq, iV x_21.Entry.Cmd.Kind, iV x_21.Entry.Cmd.Who, v_28, v_30, v_32] : List Value).toArray 29 (0, 0))] Z ∧ N_11.le N_19 ∧ Rd Kd.u8 (A.un N_19) v_22 x_21.Data ∧ Rd (Kd.int .i64) (A.un N_19) v_24 x_21.Have ∧ Rd (Kd.int .i64) (A.un N_19) v_26 x_21.Need ∧ Rd Kd.u8 (A.un N_19) v_28 x_21.Entry.Cmd.Key ∧ Rd Kd.u8 (A.un N_19) v_30 x_21.Entry.Cmd.Val ∧ Rd Kd.u8 (A.un N_19) v_32 x_21.Entry.Cmd.Old) → KJ_18 a w_34 := by
   clear H h hS a
   rintro x_20 x_21 H a w_34 ⟨v_22, v_24, v_26, v_28, v_30, v_32, N_19, h, hS, le_19, hr_23, hr_25, hr_27, hr_29, hr_31, hr_33⟩
   unfold view_Choose.J2 at H
   refine hKJ_18 _ _ <| c_seq fun KJ_36 hKJ_36 => c_seq fun KJ_37 hKJ_37 => ?_
   have hJ_j_41 : ∀ (x_39 : Bool), view_Choose.J3 K x_12 x_21 x_39 = some r → ∀ (a : Act) (w_40 : World), (∃ (N_38 : Mem), Fr 79 a [(4, iV x_12), (5, iV 0), (6, iV 0), (7, .bool x_20), (12, .pointer (some ⟨g_17, 0, none⟩)), (73, .bool x_39)] ∧ Sep w0 w_40 [N_38, Mem.no, Mem.one g_17 (.cells ([iV x_21.Kind, iV x_21.From, iV x_21.To, iV x_21.View, iV x_21.Inst, iV x_21.Len, .bool x_21.Has, iV x_21.Members, iV x_21.Source, iV x_21.At, iV x_21.Total, v_22, iV x_21.Hop, iV x_21.Seq, v_24, v_26, iV x_21.Index, iV x_21.Entry.Sess, iV x_21.Entry.Seq, iV x_21.Entry.Cmd.Kind, iV x_21.Entry.Cmd.Who, v_28, v_30, v_32] : List Value).toArray 29 (0, 0))] Z ∧ N_19.le N_38) → KJ_37 a w_40 := by
    clear H h hS a
    rintro x_39 H a w_40 ⟨N_38, h, hS, le_38⟩
    unfold view_Choose.J3 at H
    refine hKJ_37 _ _ ?_
    by_cases hc_42 : x_39 = true
    ·rw [if_pos hc_42] at H
     refine c_cond_t h rfl hc_42 <| wp_seq <| wp_region_lit <| s_assign h rfl rfl fun a h=>s_assign h rfl rfl fun a h=>s_assign h rfl rfl fun a h=>s_assign h rfl rfl fun a h=>wpList_nil <| x_then_n <| wp_ret (x_then_r ?_)
     obtain rfl := Option.some.inj H
     exact f_ret h (rs := [.tmp 4, .tmp 5, .tmp 6, .tmp 7]) rfl (.tmp rfl (.tmp rfl (.tmp rfl (.tmp rfl .nil)))) ⟨_, rfl, N_38, rfl, (Sep.sel hS [0] (by decide))⟩
    ·rw [if_neg hc_42] at H
     refine c_cond_f h rfl (Bool.eq_false_iff.2 hc_42) <| wp_skip <| x_then_n (hKJ_36 _ _ ?_)
     refine c_seq fun KJ_43 hKJ_43 => h_begin (S := fun w => Sep w0 w [N_38, Mem.no, Mem.one g_17 (.cells ([iV x_21.Kind, iV x_21.From, iV x_21.To, iV x_21.View, iV x_21.Inst, iV x_21.Len, .bool x_21.Has, iV x_21.Members, iV x_21.Source, iV x_21.At, iV x_21.Total, v_22, iV x_21.Hop, iV x_21.Seq, v_24, v_26, iV x_21.Index, iV x_21.Entry.Sess, iV x_21.Entry.Seq, iV x_21.Entry.Cmd.Kind, iV x_21.Entry.Cmd.Who, v_28, v_30, v_32] : List Value).toArray 29 (0, 0))] Z) 9 (by kernel_rfl) rfl (bA 9 0) (by kernel_rfl) hS fun w_44 hS => ?_
     replace hS : Sep w0 w_44 [_, _, _] Z := hS
     refine t_take 0 (bA 9 1) rfl rfl rfl rfl h (hS.sub (.cons (Mem.le.refl _) (.zz .ii))) (v := iV x_12) (fun w hS => r_move h rfl) fun a h=>t_take 1 (bA 9 3) rfl rfl rfl rfl h (hS.sub (.cons (Mem.le.refl _) (.zz .ii))) (v := .pointer (some ⟨g_17, 1, none⟩)) (fun w hS => r_fieldAddr h U29 rfl ti3 rfl rfl rfl) fun a h=>t_take 2 (bA 9 7) rfl rfl rfl rfl h (hS.sub (.cons (Mem.le.refl _) (.zz .ii))) (v := iV x_21.From) (fun w hS => r_load h rfl (hS.load_one (p := 2) rfl U3 rfl rfl)) fun a h=>t_take 3 (bA 9 15) rfl rfl rfl rfl h (hS.sub (.cons (Mem.le.refl _) (.zz .ii))) (v := .pointer (some ⟨g_17, 5, none⟩)) (fun w hS => r_fieldAddr h U29 rfl ti3 rfl rfl rfl) fun a h=>t_take 4 (bA 9 31) rfl rfl rfl rfl h (hS.sub (.cons (Mem.le.refl _) (.zz .ii))) (v := iV x_21.Len) (fun w hS => r_load h rfl (hS.load_one (p := 2) rfl U3 rfl rfl)) fun a h=>t_take 5 (bA 9 63) rfl rfl rfl rfl h (hS.sub (.cons (Mem.le.refl _) (.zz .ii))) (v := iV x_12) (fun w hS => r_assign h rfl) fun a h=>?_
     refine t_take 6 (bA 9 127) rfl rfl rfl rfl h (hS.sub (.cons (Mem.le.refl _) (.zz .ii))) (v := iV x_21.From) (fun w hS => r_assign h rfl) fun a h=>t_take 7 (bA 9 255) rfl rfl rfl rfl h (hS.sub (.cons (Mem.le.refl _) (.zz .ii))) (v := iV x_21.Len) (fun w hS => r_assign h rfl) fun a h=>t_take 8 (bA 9 511) rfl rfl rfl rfl h (hS.sub (.cons (Mem.le.refl _) (.zz .ii))) (v := .bool true) (fun w hS => r_assign h rfl) fun a h=>h_done (by kernel_rfl) <| x_then_n (hKJ_43 _ _ ?_)
     refine wp_ret ?_
     obtain rfl := Option.some.inj H
     exact f_ret h (rs := [.tmp 4, .tmp 5, .tmp 6, .tmp 7]) rfl (.tmp rfl (.tmp rfl (.tmp rfl (.tmp rfl .nil)))) ⟨_, rfl, N_38, rfl, (Sep.sel hS [0] (by decide))⟩
   clear hKJ_37
   refine wp_region_lit <| s_move h rfl rfl fun a h=>s_not h rfl rfl fun a h=>s_move h rfl rfl fun a h=>?_
   by_cases hc_45 : x_20 = true
   ·rw [if_pos hc_45] at H
    refine s_on h rfl rfl (nf hc_45) <| s_move h rfl rfl fun a h=>s_on h rfl rfl (nf hc_45) <| s_move h rfl rfl fun a h=>s_on h rfl rfl (nf hc_45) ?_
    obtain ⟨t_46, et_46, H⟩ := Option.bind_eq_some_iff.1 H
    refine s_call h rfl Try.call34 rfl (view_Most.calls x_12 x1 t_46 w0 _ _ _ (Mem.le.refl _) (hS.enter [] (by decide))  et_46) ?_
    rintro _ w_47 ⟨N_48, rfl, hS'⟩
    intro a h
    obtain ⟨N_49, hS'', le_49, ln_49⟩ := hS.call [] (by decide) rfl (l' := []) (ow := []) rfl hS'
    replace hS : Sep w0 w_47 [N_49, _, _] Z := hS''
    clear hS' hS''
    refine s_on h rfl rfl (nf hc_45) <| s_not h rfl rfl fun a h=>s_pick_f h rfl rfl (nf hc_45) rfl fun a h=>wpList_nil ?_
    replace hS : Sep w0 w_47 [_, _, _] Z := hS
    replace h : Fr 79 a [(4, _), (5, _), (6, _), (7, _), (12, _), (73, .bool (!t_46))] := h.keep [4, 5, 6, 7, 12, 73]
    exact x_then_n (hJ_j_41 (!t_46) H _ _ ⟨N_49, h, (Sep.sel hS [0, 1000, 2] (by decide)), le_49⟩)
   ·rw [if_neg hc_45] at H
    refine s_off h rfl rfl rfl (nt (Bool.eq_false_iff.2 hc_45)) fun a h=>s_off h rfl rfl rfl (nt (Bool.eq_false_iff.2 hc_45)) fun a h=>s_off h rfl rfl rfl (nt (Bool.eq_false_iff.2 hc_45)) fun a h=>s_off h rfl rfl rfl (nt (Bool.eq_false_iff.2 hc_45)) fun a h=>s_pick_t h rfl rfl (nt (Bool.eq_false_iff.2 hc_45)) rfl fun a h=>wpList_nil ?_
    replace hS : Sep w0 w_34 [_, _, _] Z := hS
    replace h : Fr 79 a [(4, _), (5, _), (6, _), (7, _), (12, _), (73, .bool true)] := h.keep [4, 5, 6, 7, 12, 73]
    exact x_then_n (hJ_j_41 true H _ _ ⟨N_19, h, (Sep.sel hS [0, 1000, 2] (by decide)), (Mem.le.refl _)⟩)
  clear hKJ_18
  replace hS : Sep w0 w_16 [_, _, _] Z := hS
  replace h : Fr 79 a [(1, _), (4, _), (5, _), (6, _), (7, _), (9, _), (12, .pointer (some ⟨g_17, 0, none⟩)), (41, v_5), (42, iV (t_1.length : Int)), (43, iV 0)] := h.keep [1, 4, 5, 6, 7, 9, 12, 41, 42, 43]
  refine c_block <| c_loop (fun k_66 a w_66 => ∃ (x_51 : Bool) (x_52 : Int) (x_53 : api_Msg) (v_54 : Value) (v_56 : Value) (v_58 : Value) (v_60 : Value) (v_62 : Value) (v_64 : Value) (N_50 : Mem), view_Choose.L1 K t_1 x_13 (fun v => view_Choose.J2 K x_12 x1 v.1 v.2) k_66 (x_51, x_52, x_53) = some r ∧ Fr 79 a [(1, iV x1), (4, iV x_12), (5, iV 0), (6, iV 0), (7, .bool x_51), (9, iV x_13), (12, .pointer (some ⟨g_17, 0, none⟩)), (41, v_5), (42, iV (t_1.length : Int)), (43, iV x_52)] ∧ Sep w0 w_66 [N_50, M_7, Mem.one g_17 (.cells ([iV x_53.Kind, iV x_53.From, iV x_53.To, iV x_53.View, iV x_53.Inst, iV x_53.Len, .bool x_53.Has, iV x_53.Members, iV x_53.Source, iV x_53.At, iV x_53.Total, v_54, iV x_53.Hop, iV x_53.Seq, v_56, v_58, iV x_53.Index, iV x_53.Entry.Sess, iV x_53.Entry.Seq, iV x_53.Entry.Cmd.Kind, iV x_53.Entry.Cmd.Who, v_60, v_62, v_64] : List Value).toArray 29 (0, 0))] Z ∧ N_11.le N_50 ∧ Rd Kd.u8 (A.un N_50) v_54 x_53.Data ∧ Rd (Kd.int .i64) (A.un N_50) v_56 x_53.Have ∧ Rd (Kd.int .i64) (A.un N_50) v_58 x_53.Need ∧ Rd Kd.u8 (A.un N_50) v_60 x_53.Entry.Cmd.Key ∧ Rd Kd.u8 (A.un N_50) v_62 x_53.Entry.Cmd.Val ∧ Rd Kd.u8 (A.un N_50) v_64 x_53.Entry.Cmd.Old) K ⟨false, 0, (⟨0, 0, 0, 0, 0, 0, false, 0, 0, 0, 0, ([] : List UInt8), 0, 0, ([] : List Int), ([] : List Int), 0, (⟨0, 0, (⟨0, 0, ([] : List UInt8), ([] : List UInt8), ([] : List UInt8)⟩ : api_Cmd)⟩ : api_Entry)⟩ : api_Msg), nS, nS, nS, nS, nS, nS, N_11, H, h, (Sep.sel hS [0, 1, 2] (by decide)), (Mem.le.refl _), (Rd.nil _ _), (Rd.nil _ _), (Rd.nil _ _), (Rd.nil _ _), (Rd.nil _ _), (Rd.nil _ _)⟩ (fun a w h => by obtain ⟨_, _, _, _, _, _, _, _, _, _, H, _⟩ := h; cases (show (none : Option (Int × Int × Int × Bool)) = some r from H)) ?_
  clear h hS a H
  rintro k_66 a w_66 KL_66 hKL_66 ⟨x_51, x_52, x_53, v_54, v_56, v_58, v_60, v_62, v_64, N_50, H, h, hS, le_50, hr_55, hr_57, hr_59, hr_61, hr_63, hr_65⟩
  replace H : view_Choose.B1 K t_1 x_13 (fun v => view_Choose.J2 K x_12 x1 v.1 v.2) (view_Choose.L1 K t_1 x_13 (fun v => view_Choose.J2 K x_12 x1 v.1 v.2) k_66) x_51 x_52 x_53 = some r := H
  unfold view_Choose.B1 at H
  refine wp_seq <| wp_region_lit <| s_cmp (b := decide (x_52 < (t_1.length : Int))) h rfl rfl rfl (.inr (.inr (.inl ⟨rfl, rfl⟩))) fun a h=>wpList_nil <| x_then_n <| c_seq fun KJ_68 hKJ_68 => ?_
  by_cases hc_69 : x_52 < (t_1.length : Int)
  ·rw [if_pos hc_69] at H
   refine c_cond_t h rfl (decide_eq_true hc_69) <| wp_skip <| x_then_n (hKJ_68 _ _ ?_)
   refine c_seq fun KJ_70 hKJ_70 => c_block <| wp_seq <| wp_region_lit ?_
   obtain ⟨t_71, et_71, H⟩ := Option.bind_eq_some_iff.1 H
   refine v_indexO h rfl U30 ti29 rfl rfl rfl hr_9 (hS.own 1) et_71 fun ad_72 cs_73 hk_74 hc_75 => ?_
   obtain ⟨v_76, v_78, v_80, v_82, v_84, v_86, rfl, hr_77, hr_79, hr_81, hr_83, hr_85, hr_87⟩ := k_api_Msg.open' hk_74
   intro a h
   refine s_load h rfl rfl (el_agg (o := 0) (us := [iV t_71.Kind, iV t_71.From, iV t_71.To, iV t_71.View, iV t_71.Inst, iV t_71.Len, .bool t_71.Has, iV t_71.Members, iV t_71.Source, iV t_71.At, iV t_71.Total, v_76, iV t_71.Hop, iV t_71.Seq, v_78, v_80, iV t_71.Index, iV t_71.Entry.Sess, iV t_71.Entry.Seq, iV t_71.Entry.Cmd.Kind, iV t_71.Entry.Cmd.Who, v_82, v_84, v_86]) hc_75 U29 rfl ti29 rfl rfl) fun a h=>v_alloc h rfl ti29 hS fun w_88 g_89 hS' a h => ?_
   replace hS : Sep w0 w_88 [_, _, _, Mem.one g_89 (.cells ([iV 0, iV 0, iV 0, iV 0, iV 0, iV 0, .bool false, iV 0, iV 0, iV 0, iV 0, nS, iV 0, iV 0, nS, nS, iV 0, iV 0, iV 0, iV 0, iV 0, nS, nS, nS] : List Value).toArray 29 (0, 0))] Z := hS'
   clear hS'
   obtain ⟨w_90, hs', hS'⟩ := hS.store (P := Try.prog) (p := 3) (o := 0) (t := 29) (v := .agg ([iV t_71.Kind, iV t_71.From, iV t_71.To, iV t_71.View, iV t_71.Inst, iV t_71.Len, .bool t_71.Has, iV t_71.Members, iV t_71.Source, iV t_71.At, iV t_71.Total, v_76, iV t_71.Hop, iV t_71.Seq, v_78, v_80, iV t_71.Index, iV t_71.Entry.Sess, iV t_71.Entry.Seq, iV t_71.Entry.Cmd.Kind, iV t_71.Entry.Cmd.Who, v_82, v_84, v_86] : List Value).toArray) (vs := [iV t_71.Kind, iV t_71.From, iV t_71.To, iV t_71.View, iV t_71.Inst, iV t_71.Len, .bool t_71.Has, iV t_71.Members, iV t_71.Source, iV t_71.At, iV t_71.Total, v_76, iV t_71.Hop, iV t_71.Seq, v_78, v_80, iV t_71.Index, iV t_71.Entry.Sess, iV t_71.Entry.Seq, iV t_71.Entry.Cmd.Kind, iV t_71.Entry.Cmd.Who, v_82, v_84, v_86]) rfl ti29 rfl rfl rfl (by intro u hu; simp only [List.mem_cons, List.not_mem_nil, or_false] at hu; rcases hu with rfl | rfl | rfl | rfl | rfl | rfl | rfl | rfl | rfl | rfl | rfl | rfl | rfl | rfl | rfl | rfl | rfl | rfl | rfl | rfl | rfl | rfl | rfl | rfl <;> first | rfl | exact hr_77.one | exact hr_79.one | exact hr_81.one | exact hr_83.one | exact hr_85.one | exact hr_87.one)
   refine s_store h rfl rfl hs' ?_
   replace hS : Sep w0 w_90 [_, _, _, Mem.one g_89 (.cells ([iV t_71.Kind, iV t_71.From, iV t_71.To, iV t_71.View, iV t_71.Inst, iV t_71.Len, .bool t_71.Has, iV t_71.Members, iV t_71.Source, iV t_71.At, iV t_71.Total, v_76, iV t_71.Hop, iV t_71.Seq, v_78, v_80, iV t_71.Index, iV t_71.Entry.Sess, iV t_71.Entry.Seq, iV t_71.Entry.Cmd.Kind, iV t_71.Entry.Cmd.Who, v_82, v_84, v_86] : List Value).toArray 29 (0, 0))] Z := hS'
   clear hs' hS'
   refine wpList_nil ?_
   replace h : Fr 79 a [(1, _), (4, _), (5, _), (6, _), (7, _), (9, _), (12, _), (14, .pointer (some ⟨g_89, 0, none⟩)), (41, _), (42, _), (43, _)] := h.keep [1, 4, 5, 6, 7, 9, 12, 14, 41, 42, 43]
   refine x_then_n <| c_seq fun KJ_91 hKJ_91 => ?_
   have hJ_j_95 : ∀ (x_93 : Bool), view_Choose.J4 K (view_Choose.L1 K t_1 x_13 (fun v => view_Choose.J2 K x_12 x1 v.1 v.2) k_66) x_52 t_71 x_51 x_53 x_93 = some r → ∀ (a : Act) (w_94 : World), (∃ (N_92 : Mem), Fr 79 a [(1, iV x1), (4, iV x_12), (5, iV 0), (6, iV 0), (7, .bool x_51), (9, iV x_13), (12, .pointer (some ⟨g_17, 0, none⟩)), (14, .pointer (some ⟨g_89, 0, none⟩)), (41, v_5), (42, iV (t_1.length : Int)), (43, iV x_52), (63, .bool x_93)] ∧ Sep w0 w_94 [N_92, M_7, Mem.one g_17 (.cells ([iV x_53.Kind, iV x_53.From, iV x_53.To, iV x_53.View, iV x_53.Inst, iV x_53.Len, .bool x_53.Has, iV x_53.Members, iV x_53.Source, iV x_53.At, iV x_53.Total, v_54, iV x_53.Hop, iV x_53.Seq, v_56, v_58, iV x_53.Index, iV x_53.Entry.Sess, iV x_53.Entry.Seq, iV x_53.Entry.Cmd.Kind, iV x_53.Entry.Cmd.Who, v_60, v_62, v_64] : List Value).toArray 29 (0, 0)), Mem.one g_89 (.cells ([iV t_71.Kind, iV t_71.From, iV t_71.To, iV t_71.View, iV t_71.Inst, iV t_71.Len, .bool t_71.Has, iV t_71.Members, iV t_71.Source, iV t_71.At, iV t_71.Total, v_76, iV t_71.Hop, iV t_71.Seq, v_78, v_80, iV t_71.Index, iV t_71.Entry.Sess, iV t_71.Entry.Seq, iV t_71.Entry.Cmd.Kind, iV t_71.Entry.Cmd.Who, v_82, v_84, v_86] : List Value).toArray 29 (0, 0))] Z ∧ N_50.le N_92) → KJ_91 a w_94 := by
    clear H h hS a
    rintro x_93 H a w_94 ⟨N_92, h, hS, le_92⟩
    unfold view_Choose.J4 at H
    refine hKJ_91 _ _ ?_
    by_cases hc_96 : x_93 = true
    ·rw [if_pos hc_96] at H
     refine c_cond_t h rfl hc_96 <| wp_region_lit <| s_load h rfl rfl (hS.load_agg (p := 3) (us := [iV t_71.Kind, iV t_71.From, iV t_71.To, iV t_71.View, iV t_71.Inst, iV t_71.Len, .bool t_71.Has, iV t_71.Members, iV t_71.Source, iV t_71.At, iV t_71.Total, v_76, iV t_71.Hop, iV t_71.Seq, v_78, v_80, iV t_71.Index, iV t_71.Entry.Sess, iV t_71.Entry.Seq, iV t_71.Entry.Cmd.Kind, iV t_71.Entry.Cmd.Who, v_82, v_84, v_86]) rfl U29 rfl ti29 rfl rfl) fun a h=>?_
     obtain ⟨w_97, hs', hS'⟩ := hS.store (P := Try.prog) (p := 2) (o := 0) (t := 29) (v := .agg ([iV t_71.Kind, iV t_71.From, iV t_71.To, iV t_71.View, iV t_71.Inst, iV t_71.Len, .bool t_71.Has, iV t_71.Members, iV t_71.Source, iV t_71.At, iV t_71.Total, v_76, iV t_71.Hop, iV t_71.Seq, v_78, v_80, iV t_71.Index, iV t_71.Entry.Sess, iV t_71.Entry.Seq, iV t_71.Entry.Cmd.Kind, iV t_71.Entry.Cmd.Who, v_82, v_84, v_86] : List Value).toArray) (vs := [iV t_71.Kind, iV t_71.From, iV t_71.To, iV t_71.View, iV t_71.Inst, iV t_71.Len, .bool t_71.Has, iV t_71.Members, iV t_71.Source, iV t_71.At, iV t_71.Total, v_76, iV t_71.Hop, iV t_71.Seq, v_78, v_80, iV t_71.Index, iV t_71.Entry.Sess, iV t_71.Entry.Seq, iV t_71.Entry.Cmd.Kind, iV t_71.Entry.Cmd.Who, v_82, v_84, v_86]) rfl ti29 rfl rfl rfl (by intro u hu; simp only [List.mem_cons, List.not_mem_nil, or_false] at hu; rcases hu with rfl | rfl | rfl | rfl | rfl | rfl | rfl | rfl | rfl | rfl | rfl | rfl | rfl | rfl | rfl | rfl | rfl | rfl | rfl | rfl | rfl | rfl | rfl | rfl <;> first | rfl | exact hr_77.one | exact hr_79.one | exact hr_81.one | exact hr_83.one | exact hr_85.one | exact hr_87.one)
     refine s_store h rfl rfl hs' ?_
     replace hS : Sep w0 w_97 [_, _, Mem.one g_17 (.cells ([iV t_71.Kind, iV t_71.From, iV t_71.To, iV t_71.View, iV t_71.Inst, iV t_71.Len, .bool t_71.Has, iV t_71.Members, iV t_71.Source, iV t_71.At, iV t_71.Total, v_76, iV t_71.Hop, iV t_71.Seq, v_78, v_80, iV t_71.Index, iV t_71.Entry.Sess, iV t_71.Entry.Seq, iV t_71.Entry.Cmd.Kind, iV t_71.Entry.Cmd.Who, v_82, v_84, v_86] : List Value).toArray 29 (0, 0)), _] Z := hS'
     clear hs' hS'
     refine s_assign h rfl rfl fun a h=>wpList_nil <| x_block_n <| x_then_n (hKJ_70 _ _ ?_)
     refine wp_region_lit <| s_arith (r := w64 (x_52 + 1)) h rfl rfl rfl (.inl ⟨rfl, rfl⟩) fun a h=>s_move h rfl rfl fun a h=>wpList_nil <| x_then_n (hKL_66 _ _ ?_)
     replace hS : Sep w0 w_97 [_, _, _, _] Z := hS
     replace h : Fr 79 a [(1, _), (4, _), (5, _), (6, _), (7, .bool true), (9, _), (12, _), (41, _), (42, _), (43, iV (w64 (x_52 + 1)))] := h.keep [1, 4, 5, 6, 7, 9, 12, 41, 42, 43]
     exact ⟨true, w64 (x_52 + 1), t_71, v_76, v_78, v_80, v_82, v_84, v_86, N_92, H, h, (Sep.sel hS [0, 1, 2] (by decide)), (le_50.trans le_92), (hr_77.mono (Mem.un_left (le_11.trans (le_50.trans le_92)))), (hr_79.mono (Mem.un_left (le_11.trans (le_50.trans le_92)))), (hr_81.mono (Mem.un_left (le_11.trans (le_50.trans le_92)))), (hr_83.mono (Mem.un_left (le_11.trans (le_50.trans le_92)))), (hr_85.mono (Mem.un_left (le_11.trans (le_50.trans le_92)))), (hr_87.mono (Mem.un_left (le_11.trans (le_50.trans le_92))))⟩
    ·rw [if_neg hc_96] at H
     refine c_cond_f h rfl (Bool.eq_false_iff.2 hc_96) <| wp_skip <| x_block_n <| x_then_n (hKJ_70 _ _ ?_)
     refine wp_region_lit <| s_arith (r := w64 (x_52 + 1)) h rfl rfl rfl (.inl ⟨rfl, rfl⟩) fun a h=>s_move h rfl rfl fun a h=>wpList_nil <| x_then_n (hKL_66 _ _ ?_)
     replace hS : Sep w0 w_94 [_, _, _, _] Z := hS
     replace h : Fr 79 a [(1, _), (4, _), (5, _), (6, _), (7, _), (9, _), (12, _), (41, _), (42, _), (43, iV (w64 (x_52 + 1)))] := h.keep [1, 4, 5, 6, 7, 9, 12, 41, 42, 43]
     exact ⟨x_51, w64 (x_52 + 1), x_53, v_54, v_56, v_58, v_60, v_62, v_64, N_92, H, h, (Sep.sel hS [0, 1, 2] (by decide)), (le_50.trans le_92), (hr_55.mono (Mem.un_left le_92)), (hr_57.mono (Mem.un_left le_92)), (hr_59.mono (Mem.un_left le_92)), (hr_61.mono (Mem.un_left le_92)), (hr_63.mono (Mem.un_left le_92)), (hr_65.mono (Mem.un_left le_92))⟩
   clear hKJ_91
   refine wp_region_lit <| s_fieldAddr h rfl U29 rfl ti4 rfl rfl fun a h=>s_load h rfl rfl (hS.load_one (p := 3) rfl U4 rfl rfl) fun a h=>s_move h rfl rfl fun a h=>?_
   by_cases hc_98 : t_71.Has = true
   ·rw [if_pos hc_98] at H
    refine s_on h rfl rfl hc_98 <| s_fieldAddr h rfl U29 rfl ti3 rfl rfl fun a h=>s_on h rfl rfl hc_98 <| s_load h rfl rfl (hS.load_one (p := 3) rfl U3 rfl rfl) fun a h=>s_on h rfl rfl hc_98 <| s_move h rfl rfl fun a h=>s_on h rfl rfl hc_98 <| s_cmp (b := (t_71.Inst == x_13)) h rfl rfl rfl (.inl ⟨rfl, rfl⟩) fun a h=>s_pick_t h rfl rfl hc_98 rfl fun a h=>s_move h rfl rfl fun a h=>?_
    by_cases hc_99 : t_71.Inst = x_13
    ·rw [if_pos hc_99] at H
     refine s_on h rfl rfl (beq_iff_eq.2 hc_99) <| s_move h rfl rfl fun a h=>s_on h rfl rfl (beq_iff_eq.2 hc_99) <| s_not h rfl rfl fun a h=>s_on h rfl rfl (beq_iff_eq.2 hc_99) <| s_move h rfl rfl fun a h=>?_
     by_cases hc_100 : x_51 = true
     ·rw [if_pos hc_100] at H
      refine s_on h rfl rfl (nf hc_100) <| s_load h rfl rfl (hS.load_agg (p := 3) (us := [iV t_71.Kind, iV t_71.From, iV t_71.To, iV t_71.View, iV t_71.Inst, iV t_71.Len, .bool t_71.Has, iV t_71.Members, iV t_71.Source, iV t_71.At, iV t_71.Total, v_76, iV t_71.Hop, iV t_71.Seq, v_78, v_80, iV t_71.Index, iV t_71.Entry.Sess, iV t_71.Entry.Seq, iV t_71.Entry.Cmd.Kind, iV t_71.Entry.Cmd.Who, v_82, v_84, v_86]) rfl U29 rfl ti29 rfl rfl) fun a h=>s_on h rfl rfl (nf hc_100) <| s_load h rfl rfl (hS.load_agg (p := 2) (us := [iV x_53.Kind, iV x_53.From, iV x_53.To, iV x_53.View, iV x_53.Inst, iV x_53.Len, .bool x_53.Has, iV x_53.Members, iV x_53.Source, iV x_53.At, iV x_53.Total, v_54, iV x_53.Hop, iV x_53.Seq, v_56, v_58, iV x_53.Index, iV x_53.Entry.Sess, iV x_53.Entry.Seq, iV x_53.Entry.Cmd.Kind, iV x_53.Entry.Cmd.Who, v_60, v_62, v_64]) rfl U29 rfl ti29 rfl rfl) fun a h=>s_on h rfl rfl (nf hc_100) ?_
      obtain ⟨t_101, et_101, H⟩ := Option.bind_eq_some_iff.1 H
      refine s_call h rfl Try.call33 rfl (view_better.calls t_71 _ _ _ _ _ _ x_53 _ _ _ _ _ _ t_101 w0 _ _ _ (Mem.le.refl _) (hS.enter [] (by decide)) (hr_77.mono (Mem.un_le (hA.trans (hS.le_zed [])) ((le_11.trans le_50).trans (hS.new_zed [])))) (hr_79.mono (Mem.un_le (hA.trans (hS.le_zed [])) ((le_11.trans le_50).trans (hS.new_zed [])))) (hr_81.mono (Mem.un_le (hA.trans (hS.le_zed [])) ((le_11.trans le_50).trans (hS.new_zed [])))) (hr_83.mono (Mem.un_le (hA.trans (hS.le_zed [])) ((le_11.trans le_50).trans (hS.new_zed [])))) (hr_85.mono (Mem.un_le (hA.trans (hS.le_zed [])) ((le_11.trans le_50).trans (hS.new_zed [])))) (hr_87.mono (Mem.un_le (hA.trans (hS.le_zed [])) ((le_11.trans le_50).trans (hS.new_zed [])))) (hr_55.mono (Mem.un_le (hA.trans (hS.le_zed [])) ((Mem.le.refl _).trans (hS.new_zed [])))) (hr_57.mono (Mem.un_le (hA.trans (hS.le_zed [])) ((Mem.le.refl _).trans (hS.new_zed [])))) (hr_59.mono (Mem.un_le (hA.trans (hS.le_zed [])) ((Mem.le.refl _).trans (hS.new_zed [])))) (hr_61.mono (Mem.un_le (hA.trans (hS.le_zed [])) ((Mem.le.refl _).trans (hS.new_zed [])))) (hr_63.mono (Mem.un_le (hA.trans (hS.le_zed [])) ((Mem.le.refl _).trans (hS.new_zed [])))) (hr_65.mono (Mem.un_le (hA.trans (hS.le_zed [])) ((Mem.le.refl _).trans (hS.new_zed [])))) et_101) ?_
      rintro _ w_102 ⟨N_103, rfl, hS'⟩
      intro a h
      obtain ⟨N_104, hS'', le_104, ln_104⟩ := hS.call [] (by decide) rfl (l' := []) (ow := []) rfl hS'
      replace hS : Sep w0 w_102 [N_104, _, _, _] Z := hS''
      clear hS' hS''
      refine s_on h rfl rfl (beq_iff_eq.2 hc_99) <| s_pick_f h rfl rfl (nf hc_100) rfl fun a h=>s_pick_t h rfl rfl (beq_iff_eq.2 hc_99) rfl fun a h=>wpList_nil ?_
      replace hS : Sep w0 w_102 [_, _, _, _] Z := hS
      replace h : Fr 79 a [(1, _), (4, _), (5, _), (6, _), (7, _), (9, _), (12, _), (14, _), (41, _), (42, _), (43, _), (63, .bool t_101)] := h.keep [1, 4, 5, 6, 7, 9, 12, 14, 41, 42, 43, 63]
      exact x_then_n (hJ_j_95 t_101 H _ _ ⟨N_104, h, (Sep.sel hS [0, 1, 2, 3] (by decide)), le_104⟩)
     ·rw [if_neg hc_100] at H
      refine s_off h rfl rfl rfl (nt (Bool.eq_false_iff.2 hc_100)) fun a h=>s_off h rfl rfl rfl (nt (Bool.eq_false_iff.2 hc_100)) fun a h=>s_off h rfl rfl rfl (nt (Bool.eq_false_iff.2 hc_100)) fun a h=>s_on h rfl rfl (beq_iff_eq.2 hc_99) <| s_pick_t h rfl rfl (nt (Bool.eq_false_iff.2 hc_100)) rfl fun a h=>s_pick_t h rfl rfl (beq_iff_eq.2 hc_99) rfl fun a h=>wpList_nil ?_
      replace hS : Sep w0 w_90 [_, _, _, _] Z := hS
      replace h : Fr 79 a [(1, _), (4, _), (5, _), (6, _), (7, _), (9, _), (12, _), (14, _), (41, _), (42, _), (43, _), (63, .bool true)] := h.keep [1, 4, 5, 6, 7, 9, 12, 14, 41, 42, 43, 63]
      exact x_then_n (hJ_j_95 true H _ _ ⟨N_50, h, (Sep.sel hS [0, 1, 2, 3] (by decide)), (Mem.le.refl _)⟩)
    ·rw [if_neg hc_99] at H
     refine s_off h rfl rfl rfl (beq_eq_false_iff_ne.2 hc_99) fun a h=>s_off h rfl rfl rfl (beq_eq_false_iff_ne.2 hc_99) fun a h=>s_off h rfl rfl rfl (beq_eq_false_iff_ne.2 hc_99) fun a h=>s_offu h rfl rfl rfl fun a h=>s_offu h rfl rfl rfl fun a h=>s_offu h rfl rfl rfl fun a h=>s_off h rfl rfl rfl (beq_eq_false_iff_ne.2 hc_99) fun a h=>s_pick_f h rfl rfl (beq_eq_false_iff_ne.2 hc_99) rfl fun a h=>wpList_nil ?_
     replace hS : Sep w0 w_90 [_, _, _, _] Z := hS
     replace h : Fr 79 a [(1, _), (4, _), (5, _), (6, _), (7, _), (9, _), (12, _), (14, _), (41, _), (42, _), (43, _), (63, .bool false)] := h.keep [1, 4, 5, 6, 7, 9, 12, 14, 41, 42, 43, 63]
     exact x_then_n (hJ_j_95 false H _ _ ⟨N_50, h, (Sep.sel hS [0, 1, 2, 3] (by decide)), (Mem.le.refl _)⟩)
   ·rw [if_neg hc_98] at H
    refine s_off h rfl rfl rfl (Bool.eq_false_iff.2 hc_98) fun a h=>s_off h rfl rfl rfl (Bool.eq_false_iff.2 hc_98) fun a h=>s_off h rfl rfl rfl (Bool.eq_false_iff.2 hc_98) fun a h=>s_off h rfl rfl rfl (Bool.eq_false_iff.2 hc_98) fun a h=>s_pick_f h rfl rfl (Bool.eq_false_iff.2 hc_98) rfl fun a h=>s_move h rfl rfl fun a h=>s_off h rfl rfl rfl rfl fun a h=>s_off h rfl rfl rfl rfl fun a h=>s_off h rfl rfl rfl rfl fun a h=>s_offu h rfl rfl rfl fun a h=>s_offu h rfl rfl rfl fun a h=>s_offu h rfl rfl rfl fun a h=>?_
    refine s_off h rfl rfl rfl rfl fun a h=>s_pick_f h rfl rfl rfl rfl fun a h=>wpList_nil ?_
    replace hS : Sep w0 w_90 [_, _, _, _] Z := hS
    replace h : Fr 79 a [(1, _), (4, _), (5, _), (6, _), (7, _), (9, _), (12, _), (14, _), (41, _), (42, _), (43, _), (63, .bool false)] := h.keep [1, 4, 5, 6, 7, 9, 12, 14, 41, 42, 43, 63]
    exact x_then_n (hJ_j_95 false H _ _ ⟨N_50, h, (Sep.sel hS [0, 1, 2, 3] (by decide)), (Mem.le.refl _)⟩)
  ·rw [if_neg hc_69] at H
   refine c_cond_f h rfl (decide_eq_false hc_69) <| wp_exit (x_then_x (x_then_x (x_block_t ?_)))
   replace hS : Sep w0 w_66 [_, _, _] Z := hS
   replace h : Fr 79 a [(1, _), (4, _), (5, _), (6, _), (7, _), (12, _)] := h.keep [1, 4, 5, 6, 7, 12]
   exact x_then_n (hJ_j_35 x_51 x_53 H _ _ ⟨v_54, v_56, v_58, v_60, v_62, v_64, N_50, h, (Sep.sel hS [0, 1000, 2] (by decide)), le_50, hr_55, hr_57, hr_59, hr_61, hr_63, hr_65⟩)
 clear hKJ_10
 replace hS : Sep w0 w_2 [_, _] Z := hS
 replace h : Fr 79 a [(1, _), (4, _), (5, _), (6, _), (7, _), (8, _), (9, _), (18, _), (19, _), (20, _)] := h.keep [1, 4, 5, 6, 7, 8, 9, 18, 19, 20]
 refine c_block <| c_loop (fun k_109 a w_109 => ∃ (x_106 : Int) (x_107 : Int) (x_108 : Int) (N_105 : Mem), view_Choose.L2 K t_1 (fun v => view_Choose.J1 K t_1 x1 v.1 v.2) k_109 (x_106, x_107, x_108) = some r ∧ Fr 79 a [(1, iV x1), (4, iV x_106), (5, iV 0), (6, iV 0), (7, .bool false), (8, v_5), (9, iV x_107), (18, v_5), (19, iV (t_1.length : Int)), (20, iV x_108)] ∧ Sep w0 w_109 [N_105, M_7] Z ∧ N_4.le N_105) K ⟨0, 0, 0, N_4, H, h, (Sep.sel hS [0, 1] (by decide)), (Mem.le.refl _)⟩ (fun a w h => by obtain ⟨_, _, _, _, H, _⟩ := h; cases (show (none : Option (Int × Int × Int × Bool)) = some r from H)) ?_
 clear h hS a H
 rintro k_109 a w_109 KL_109 hKL_109 ⟨x_106, x_107, x_108, N_105, H, h, hS, le_105⟩
 replace H : view_Choose.B2 K t_1 (fun v => view_Choose.J1 K t_1 x1 v.1 v.2) (view_Choose.L2 K t_1 (fun v => view_Choose.J1 K t_1 x1 v.1 v.2) k_109) x_106 x_107 x_108 = some r := H
 unfold view_Choose.B2 at H
 refine wp_seq <| wp_region_lit <| s_cmp (b := decide (x_108 < (t_1.length : Int))) h rfl rfl rfl (.inr (.inr (.inl ⟨rfl, rfl⟩))) fun a h=>wpList_nil <| x_then_n <| c_seq fun KJ_111 hKJ_111 => ?_
 by_cases hc_112 : x_108 < (t_1.length : Int)
 ·rw [if_pos hc_112] at H
  refine c_cond_t h rfl (decide_eq_true hc_112) <| wp_skip <| x_then_n (hKJ_111 _ _ ?_)
  refine c_seq fun KJ_113 hKJ_113 => c_block <| wp_seq <| wp_region_lit <| s_move h rfl rfl fun a h=>?_
  obtain ⟨t_114, et_114, H⟩ := Option.bind_eq_some_iff.1 H
  refine v_indexO h rfl U30 ti29 rfl rfl rfl hr_9 (hS.own 1) et_114 fun ad_115 cs_116 hk_117 hc_118 => ?_
  obtain ⟨v_119, v_121, v_123, v_125, v_127, v_129, rfl, hr_120, hr_122, hr_124, hr_126, hr_128, hr_130⟩ := k_api_Msg.open' hk_117
  intro a h
  refine s_load h rfl rfl (el_agg (o := 0) (us := [iV t_114.Kind, iV t_114.From, iV t_114.To, iV t_114.View, iV t_114.Inst, iV t_114.Len, .bool t_114.Has, iV t_114.Members, iV t_114.Source, iV t_114.At, iV t_114.Total, v_119, iV t_114.Hop, iV t_114.Seq, v_121, v_123, iV t_114.Index, iV t_114.Entry.Sess, iV t_114.Entry.Seq, iV t_114.Entry.Cmd.Kind, iV t_114.Entry.Cmd.Who, v_125, v_127, v_129]) hc_118 U29 rfl ti29 rfl rfl) fun a h=>v_alloc h rfl ti29 hS fun w_131 g_132 hS' a h => ?_
  replace hS : Sep w0 w_131 [_, _, Mem.one g_132 (.cells ([iV 0, iV 0, iV 0, iV 0, iV 0, iV 0, .bool false, iV 0, iV 0, iV 0, iV 0, nS, iV 0, iV 0, nS, nS, iV 0, iV 0, iV 0, iV 0, iV 0, nS, nS, nS] : List Value).toArray 29 (0, 0))] Z := hS'
  clear hS'
  refine s_assign h rfl rfl fun a h=>?_
  obtain ⟨w_133, hs', hS'⟩ := hS.store (P := Try.prog) (p := 2) (o := 0) (t := 29) (v := .agg ([iV t_114.Kind, iV t_114.From, iV t_114.To, iV t_114.View, iV t_114.Inst, iV t_114.Len, .bool t_114.Has, iV t_114.Members, iV t_114.Source, iV t_114.At, iV t_114.Total, v_119, iV t_114.Hop, iV t_114.Seq, v_121, v_123, iV t_114.Index, iV t_114.Entry.Sess, iV t_114.Entry.Seq, iV t_114.Entry.Cmd.Kind, iV t_114.Entry.Cmd.Who, v_125, v_127, v_129] : List Value).toArray) (vs := [iV t_114.Kind, iV t_114.From, iV t_114.To, iV t_114.View, iV t_114.Inst, iV t_114.Len, .bool t_114.Has, iV t_114.Members, iV t_114.Source, iV t_114.At, iV t_114.Total, v_119, iV t_114.Hop, iV t_114.Seq, v_121, v_123, iV t_114.Index, iV t_114.Entry.Sess, iV t_114.Entry.Seq, iV t_114.Entry.Cmd.Kind, iV t_114.Entry.Cmd.Who, v_125, v_127, v_129]) rfl ti29 rfl rfl rfl (by intro u hu; simp only [List.mem_cons, List.not_mem_nil, or_false] at hu; rcases hu with rfl | rfl | rfl | rfl | rfl | rfl | rfl | rfl | rfl | rfl | rfl | rfl | rfl | rfl | rfl | rfl | rfl | rfl | rfl | rfl | rfl | rfl | rfl | rfl <;> first | rfl | exact hr_120.one | exact hr_122.one | exact hr_124.one | exact hr_126.one | exact hr_128.one | exact hr_130.one)
  refine s_store h rfl rfl hs' ?_
  replace hS : Sep w0 w_133 [_, _, Mem.one g_132 (.cells ([iV t_114.Kind, iV t_114.From, iV t_114.To, iV t_114.View, iV t_114.Inst, iV t_114.Len, .bool t_114.Has, iV t_114.Members, iV t_114.Source, iV t_114.At, iV t_114.Total, v_119, iV t_114.Hop, iV t_114.Seq, v_121, v_123, iV t_114.Index, iV t_114.Entry.Sess, iV t_114.Entry.Seq, iV t_114.Entry.Cmd.Kind, iV t_114.Entry.Cmd.Who, v_125, v_127, v_129] : List Value).toArray 29 (0, 0))] Z := hS'
  clear hs' hS'
  refine wpList_nil <| x_then_n <| wp_seq <| wp_region_lit <| s_move h rfl rfl fun a h=>s_fieldAddr h rfl U29 rfl ti3 rfl rfl fun a h=>s_load h rfl rfl (hS.load_one (p := 2) rfl U3 rfl rfl) fun a h=>?_
  obtain ⟨u_134, eu_134, H⟩ := Option.bind_eq_some_iff.1 H
  refine s_shift (r := shl .i64 1 t_114.From) h rfl rfl rfl (must_some eu_134) (.inl ⟨rfl, rfl⟩) fun a h=>s_bits (i := x_106) (j := shl .i64 1 t_114.From) (r := bor .i64 x_106 (shl .i64 1 t_114.From)) h rfl rfl rfl (.inr (.inl ⟨rfl, rfl⟩)) fun a h=>s_assign h rfl rfl fun a h=>wpList_nil <| x_then_n <| c_seq fun KJ_135 hKJ_135 => ?_
  have hJ_j_139 : ∀ (x_137 : Bool), view_Choose.J5 K (view_Choose.L2 K t_1 (fun v => view_Choose.J1 K t_1 x1 v.1 v.2) k_109) x_106 t_114 x_108 x_107 x_137 = some r → ∀ (a : Act) (w_138 : World), (∃ (N_136 : Mem), Fr 79 a [(1, iV x1), (4, iV (bor .i64 x_106 (shl .i64 1 t_114.From))), (5, iV 0), (6, iV 0), (7, .bool false), (8, v_5), (9, iV x_107), (11, .pointer (some ⟨g_132, 0, none⟩)), (18, v_5), (19, iV (t_1.length : Int)), (20, iV x_108), (37, .bool x_137)] ∧ Sep w0 w_138 [N_136, M_7, Mem.one g_132 (.cells ([iV t_114.Kind, iV t_114.From, iV t_114.To, iV t_114.View, iV t_114.Inst, iV t_114.Len, .bool t_114.Has, iV t_114.Members, iV t_114.Source, iV t_114.At, iV t_114.Total, v_119, iV t_114.Hop, iV t_114.Seq, v_121, v_123, iV t_114.Index, iV t_114.Entry.Sess, iV t_114.Entry.Seq, iV t_114.Entry.Cmd.Kind, iV t_114.Entry.Cmd.Who, v_125, v_127, v_129] : List Value).toArray 29 (0, 0))] Z ∧ N_105.le N_136) → KJ_135 a w_138 := by
   clear H h hS a
   rintro x_137 H a w_138 ⟨N_136, h, hS, le_136⟩
   unfold view_Choose.J5 at H
   refine hKJ_135 _ _ ?_
   by_cases hc_140 : x_137 = true
   ·rw [if_pos hc_140] at H
    refine c_cond_t h rfl hc_140 <| wp_region_lit <| s_fieldAddr h rfl U29 rfl ti3 rfl rfl fun a h=>s_load h rfl rfl (hS.load_one (p := 2) rfl U3 rfl rfl) fun a h=>s_assign h rfl rfl fun a h=>wpList_nil ?_
    replace h : Fr 79 a [(1, _), (4, _), (5, _), (6, _), (7, _), (8, _), (9, iV t_114.Inst), (18, _), (19, _), (20, _)] := h.keep [1, 4, 5, 6, 7, 8, 9, 18, 19, 20]
    refine x_block_n <| x_then_n (hKJ_113 _ _ ?_)
    refine wp_region_lit <| s_arith (r := w64 (x_108 + 1)) h rfl rfl rfl (.inl ⟨rfl, rfl⟩) fun a h=>s_move h rfl rfl fun a h=>wpList_nil <| x_then_n (hKL_109 _ _ ?_)
    replace hS : Sep w0 w_138 [_, _, _] Z := hS
    replace h : Fr 79 a [(1, _), (4, _), (5, _), (6, _), (7, _), (8, _), (9, _), (18, _), (19, _), (20, iV (w64 (x_108 + 1)))] := h.keep [1, 4, 5, 6, 7, 8, 9, 18, 19, 20]
    exact ⟨bor .i64 x_106 (shl .i64 1 t_114.From), t_114.Inst, w64 (x_108 + 1), N_136, H, h, (Sep.sel hS [0, 1] (by decide)), (le_105.trans le_136)⟩
   ·rw [if_neg hc_140] at H
    refine c_cond_f h rfl (Bool.eq_false_iff.2 hc_140) <| wp_skip <| x_block_n <| x_then_n (hKJ_113 _ _ ?_)
    refine wp_region_lit <| s_arith (r := w64 (x_108 + 1)) h rfl rfl rfl (.inl ⟨rfl, rfl⟩) fun a h=>s_move h rfl rfl fun a h=>wpList_nil ?_
    replace h : Fr 79 a [(1, _), (4, _), (5, _), (6, _), (7, _), (8, _), (9, _), (18, _), (19, _), (20, iV (w64 (x_108 + 1)))] := h.keep [1, 4, 5, 6, 7, 8, 9, 18, 19, 20]
    refine x_then_n (hKL_109 _ _ ?_)
    replace hS : Sep w0 w_138 [_, _, _] Z := hS
    replace h : Fr 79 a [(1, _), (4, _), (5, _), (6, _), (7, _), (8, _), (9, _), (18, _), (19, _), (20, _)] := h.keep [1, 4, 5, 6, 7, 8, 9, 18, 19, 20]
    exact ⟨bor .i64 x_106 (shl .i64 1 t_114.From), x_107, w64 (x_108 + 1), N_136, H, h, (Sep.sel hS [0, 1] (by decide)), (le_105.trans le_136)⟩
  clear hKJ_135
  refine wp_region_lit <| s_move h rfl rfl fun a h=>s_cmp (b := (x_108 == 0)) h rfl rfl rfl (.inl ⟨rfl, rfl⟩) fun a h=>s_move h rfl rfl fun a h=>?_
  by_cases hc_141 : x_108 = 0
  ·rw [if_pos hc_141] at H
   refine s_off h rfl rfl rfl (beq_iff_eq.2 hc_141) fun a h=>s_off h rfl rfl rfl (beq_iff_eq.2 hc_141) fun a h=>s_off h rfl rfl rfl (beq_iff_eq.2 hc_141) fun a h=>s_off h rfl rfl rfl (beq_iff_eq.2 hc_141) fun a h=>s_pick_t h rfl rfl (beq_iff_eq.2 hc_141) rfl fun a h=>wpList_nil ?_
   replace h : Fr 79 a [(1, _), (4, iV (bor .i64 x_106 (shl .i64 1 t_114.From))), (5, _), (6, _), (7, _), (8, _), (9, _), (11, .pointer (some ⟨g_132, 0, none⟩)), (18, _), (19, _), (20, _), (37, .bool true)] := h.keep [1, 4, 5, 6, 7, 8, 9, 11, 18, 19, 20, 37]
   replace hS : Sep w0 w_133 [_, _, _] Z := hS
   replace h : Fr 79 a [(1, _), (4, _), (5, _), (6, _), (7, _), (8, _), (9, _), (11, _), (18, _), (19, _), (20, _), (37, _)] := h.keep [1, 4, 5, 6, 7, 8, 9, 11, 18, 19, 20, 37]
   exact x_then_n (hJ_j_139 true H _ _ ⟨N_105, h, (Sep.sel hS [0, 1, 2] (by decide)), (Mem.le.refl _)⟩)
  ·rw [if_neg hc_141] at H
   refine s_on h rfl rfl (beq_eq_false_iff_ne.2 hc_141) <| s_fieldAddr h rfl U29 rfl ti3 rfl rfl fun a h=>s_on h rfl rfl (beq_eq_false_iff_ne.2 hc_141) <| s_load h rfl rfl (hS.load_one (p := 2) rfl U3 rfl rfl) fun a h=>s_on h rfl rfl (beq_eq_false_iff_ne.2 hc_141) <| s_move h rfl rfl fun a h=>s_on h rfl rfl (beq_eq_false_iff_ne.2 hc_141) <| s_cmp (b := decide (t_114.Inst > x_107)) h rfl rfl rfl (.inr (.inr (.inr (.inr (.inl ⟨rfl, rfl⟩))))) fun a h=>s_pick_f h rfl rfl (beq_eq_false_iff_ne.2 hc_141) rfl fun a h=>wpList_nil ?_
   replace h : Fr 79 a [(1, _), (4, iV (bor .i64 x_106 (shl .i64 1 t_114.From))), (5, _), (6, _), (7, _), (8, _), (9, _), (11, .pointer (some ⟨g_132, 0, none⟩)), (18, _), (19, _), (20, _), (37, .bool (decide (t_114.Inst > x_107)))] := h.keep [1, 4, 5, 6, 7, 8, 9, 11, 18, 19, 20, 37]
   replace hS : Sep w0 w_133 [_, _, _] Z := hS
   replace h : Fr 79 a [(1, _), (4, _), (5, _), (6, _), (7, _), (8, _), (9, _), (11, _), (18, _), (19, _), (20, _), (37, _)] := h.keep [1, 4, 5, 6, 7, 8, 9, 11, 18, 19, 20, 37]
   exact x_then_n (hJ_j_139 (decide (t_114.Inst > x_107)) H _ _ ⟨N_105, h, (Sep.sel hS [0, 1, 2] (by decide)), (Mem.le.refl _)⟩)
 ·rw [if_neg hc_112] at H
  refine c_cond_f h rfl (decide_eq_false hc_112) <| wp_exit (x_then_x (x_then_x (x_block_t ?_)))
  replace hS : Sep w0 w_109 [_, _] Z := hS
  replace h : Fr 79 a [(1, _), (4, _), (5, _), (6, _), (7, _), (8, _), (9, _)] := h.keep [1, 4, 5, 6, 7, 8, 9]
  exact x_then_n (hJ_j_15 x_106 x_107 H _ _ ⟨N_105, h, (Sep.sel hS [0, 1] (by decide)), le_105⟩)

set_option maxHeartbeats 4000000 in
set_option maxRecDepth 20000 in
theorem gath_Gather_Commit.calls (K : Nat) (g0 : Nat) (x0_n : Int) (x0_id : Int) (x0_v : Int) (x0_l : List api_Msg) (p0_0 : Value) (M0_0 : Mem) (x0_come : Int) (x0_ready : Int) (x0_commit_Kind : Int) (x0_commit_From : Int) (x0_commit_To : Int) (x0_commit_View : Int) (x0_commit_Inst : Int) (x0_commit_Len : Int) (x0_commit_Has : Bool) (x0_commit_Members : Int) (x0_commit_Source : Int) (x0_commit_At : Int) (x0_commit_Total : Int) (x0_commit_Data : List UInt8) (p0_1 : Value) (x0_commit_Hop : Int) (x0_commit_Seq : Int) (x0_commit_Have : List Int) (p0_2 : Value) (x0_commit_Need : List Int) (p0_3 : Value) (x0_commit_Index : Int) (x0_commit_Entry_Sess : Int) (x0_commit_Entry_Seq : Int) (x0_commit_Entry_Cmd_Kind : Int) (x0_commit_Entry_Cmd_Who : Int) (x0_commit_Entry_Cmd_Key : List UInt8) (p0_4 : Value) (x0_commit_Entry_Cmd_Val : List UInt8) (p0_5 : Value) (x0_commit_Entry_Cmd_Old : List UInt8) (p0_6 : Value) (x0_is : Bool) (r : api_Msg × Bool × Int × Int × Int × (List api_Msg) × Int × Int × Int × Int × Int × Int × Int × Int × Bool × Int × Int × Int × Int × (List UInt8) × Int × Int × (List Int) × (List Int) × Int × Int × Int × Int × Int × (List UInt8) × (List UInt8) × (List UInt8) × Bool) (w0 w : World) (Z A : Mem) (hA : A.le Z) (hS : Sep w0 w [Mem.one g0 (.cells ([iV x0_n, iV x0_id, iV x0_v, p0_0, iV x0_come, iV x0_ready, iV x0_commit_Kind, iV x0_commit_From, iV x0_commit_To, iV x0_commit_View, iV x0_commit_Inst, iV x0_commit_Len, .bool x0_commit_Has, iV x0_commit_Members, iV x0_commit_Source, iV x0_commit_At, iV x0_commit_Total, p0_1, iV x0_commit_Hop, iV x0_commit_Seq, p0_2, p0_3, iV x0_commit_Index, iV x0_commit_Entry_Sess, iV x0_commit_Entry_Seq, iV x0_commit_Entry_Cmd_Kind, iV x0_commit_Entry_Cmd_Who, p0_4, p0_5, p0_6, .bool x0_is] : List Value).toArray 47 (0, 0)), M0_0] Z) (hp0_0 : Own k_api_Msg 29 M0_0 A p0_0 x0_l) (hp0_1 : Rd Kd.u8 A p0_1 x0_commit_Data) (hp0_2 : Rd (Kd.int .i64) A p0_2 x0_commit_Have) (hp0_3 : Rd (Kd.int .i64) A p0_3 x0_commit_Need) (hp0_4 : Rd Kd.u8 A p0_4 x0_commit_Entry_Cmd_Key) (hp0_5 : Rd Kd.u8 A p0_5 x0_commit_Entry_Cmd_Val) (hp0_6 : Rd Kd.u8 A p0_6 x0_commit_Entry_Cmd_Old)
    (H : gath_Gather_Commit.f K x0_n x0_id x0_v x0_l x0_come x0_ready x0_commit_Kind x0_commit_From x0_commit_To x0_commit_View x0_commit_Inst x0_commit_Len x0_commit_Has x0_commit_Members x0_commit_Source x0_commit_At x0_commit_Total x0_commit_Data x0_commit_Hop x0_commit_Seq x0_commit_Have x0_commit_Need x0_commit_Index x0_commit_Entry_Sess x0_commit_Entry_Seq x0_commit_Entry_Cmd_Kind x0_commit_Entry_Cmd_Who x0_commit_Entry_Cmd_Key x0_commit_Entry_Cmd_Val x0_commit_Entry_Cmd_Old x0_is = some r) :
    Calls Try.prog 9 [.pointer (some ⟨g0, 0, none⟩)].toArray w (Ret fun v w' => ∃ (u0 : Value) (u1 : Value) (u2 : Value) (u3 : Value) (u4 : Value) (u5 : Value) (u6 : Value) (u7 : Value) (u8 : Value) (u9 : Value) (u10 : Value) (u11 : Value) (u12 : Value) (N : Mem) (M100 : Mem), v = .tuple [.agg [iV r.1.Kind, iV r.1.From, iV r.1.To, iV r.1.View, iV r.1.Inst, iV r.1.Len, .bool r.1.Has, iV r.1.Members, iV r.1.Source, iV r.1.At, iV r.1.Total, u0, iV r.1.Hop, iV r.1.Seq, u1, u2, iV r.1.Index, iV r.1.Entry.Sess, iV r.1.Entry.Seq, iV r.1.Entry.Cmd.Kind, iV r.1.Entry.Cmd.Who, u3, u4, u5].toArray, .bool r.2.1].toArray ∧ Sep w0 w' [N, Mem.one g0 (.cells ([iV r.2.2.1, iV r.2.2.2.1, iV r.2.2.2.2.1, u6, iV r.2.2.2.2.2.2.1, iV r.2.2.2.2.2.2.2.1, iV r.2.2.2.2.2.2.2.2.1, iV r.2.2.2.2.2.2.2.2.2.1, iV r.2.2.2.2.2.2.2.2.2.2.1, iV r.2.2.2.2.2.2.2.2.2.2.2.1, iV r.2.2.2.2.2.2.2.2.2.2.2.2.1, iV r.2.2.2.2.2.2.2.2.2.2.2.2.2.1, .bool r.2.2.2.2.2.2.2.2.2.2.2.2.2.2.1, iV r.2.2.2.2.2.2.2.2.2.2.2.2.2.2.2.1, iV r.2.2.2.2.2.2.2.2.2.2.2.2.2.2.2.2.1, iV r.2.2.2.2.2.2.2.2.2.2.2.2.2.2.2.2.2.1, iV r.2.2.2.2.2.2.2.2.2.2.2.2.2.2.2.2.2.2.1, u7, iV r.2.2.2.2.2.2.2.2.2.2.2.2.2.2.2.2.2.2.2.2.1, iV r.2.2.2.2.2.2.2.2.2.2.2.2.2.2.2.2.2.2.2.2.2.1, u8, u9, iV r.2.2.2.2.2.2.2.2.2.2.2.2.2.2.2.2.2.2.2.2.2.2.2.2.1, iV r.2.2.2.2.2.2.2.2.2.2.2.2.2.2.2.2.2.2.2.2.2.2.2.2.2.1, iV r.2.2.2.2.2.2.2.2.2.2.2.2.2.2.2.2.2.2.2.2.2.2.2.2.2.2.1, iV r.2.2.2.2.2.2.2.2.2.2.2.2.2.2.2.2.2.2.2.2.2.2.2.2.2.2.2.1, iV r.2.2.2.2.2.2.2.2.2.2.2.2.2.2.2.2.2.2.2.2.2.2.2.2.2.2.2.2.1, u10, u11, u12, .bool r.2.2.2.2.2.2.2.2.2.2.2.2.2.2.2.2.2.2.2.2.2.2.2.2.2.2.2.2.2.2.2.2] : List Value).toArray 47 (0, 0)), M100] Z ∧ Rd Kd.u8 (A.un N) u0 r.1.Data ∧ Rd (Kd.int .i64) (A.un N) u1 r.1.Have ∧ Rd (Kd.int .i64) (A.un N) u2 r.1.Need ∧ Rd Kd.u8 (A.un N) u3 r.1.Entry.Cmd.Key ∧ Rd Kd.u8 (A.un N) u4 r.1.Entry.Cmd.Val ∧ Rd Kd.u8 (A.un N) u5 r.1.Entry.Cmd.Old ∧ Own k_api_Msg 29 M100 (A.un N) u6 r.2.2.2.2.2.1 ∧ Rd Kd.u8 (A.un N) u7 r.2.2.2.2.2.2.2.2.2.2.2.2.2.2.2.2.2.2.2.1 ∧ Rd (Kd.int .i64) (A.un N) u8 r.2.2.2.2.2.2.2.2.2.2.2.2.2.2.2.2.2.2.2.2.2.2.1 ∧ Rd (Kd.int .i64) (A.un N) u9 r.2.2.2.2.2.2.2.2.2.2.2.2.2.2.2.2.2.2.2.2.2.2.2.1 ∧ Rd Kd.u8 (A.un N) u10 r.2.2.2.2.2.2.2.2.2.2.2.2.2.2.2.2.2.2.2.2.2.2.2.2.2.2.2.2.2.1 ∧ Rd Kd.u8 (A.un N) u11 r.2.2.2.2.2.2.2.2.2.2.2.2.2.2.2.2.2.2.2.2.2.2.2.2.2.2.2.2.2.2.1 ∧ Rd Kd.u8 (A.un N) u12 r.2.2.2.2.2.2.2.2.2.2.2.2.2.2.2.2.2.2.2.2.2.2.2.2.2.2.2.2.2.2.2.1) := by
 unfold gath_Gather_Commit.f at H
 refine f_enter _ Try.func9 rfl Try.ntmps9 rfl fun a h=>?_
 replace h : Fr 52 a [(0, .pointer (some ⟨g0, 0, none⟩))] := h
 replace hS := hS.start
 replace hS : Sep w0 w [_, _, _] Z := hS
 refine wp_seq <| wp_region_lit <| v_alloc h rfl ti29 hS fun w_1 g_2 hS' a h => ?_
 replace hS : Sep w0 w_1 [_, _, _, Mem.one g_2 (.cells ([iV 0, iV 0, iV 0, iV 0, iV 0, iV 0, .bool false, iV 0, iV 0, iV 0, iV 0, nS, iV 0, iV 0, nS, nS, iV 0, iV 0, iV 0, iV 0, iV 0, nS, nS, nS] : List Value).toArray 29 (0, 0))] Z := hS'
 clear hS'
 refine s_assign h rfl rfl fun a h=>wpList_nil <| x_then_n <| c_seq fun KJ_3 hKJ_3 => wp_seq <| wp_region_lit <| s_move h rfl rfl fun a h=>s_nilCheck h rfl rfl fun a h=>s_fieldAddr h rfl U47 rfl ti4 rfl rfl fun a h=>s_load h rfl rfl (hS.load_one (p := 1) rfl U4 rfl rfl) fun a h=>s_not h rfl rfl fun a h=>wpList_nil <| x_then_n ?_
 have hJ_j_43 : ∀ (x_5 : Int), ∀ (x_6 : Int), ∀ (x_7 : Int), ∀ (x_8 : Int), ∀ (x_9 : Int), ∀ (x_10 : Int), ∀ (x_11 : Bool), ∀ (x_12 : Int), ∀ (x_13 : Int), ∀ (x_14 : Int), ∀ (x_15 : Int), ∀ (x_16 : List UInt8), ∀ (x_19 : Int), ∀ (x_20 : Int), ∀ (x_21 : List Int), ∀ (x_24 : List Int), ∀ (x_27 : Int), ∀ (x_28 : Int), ∀ (x_29 : Int), ∀ (x_30 : Int), ∀ (x_31 : Int), ∀ (x_32 : List UInt8), ∀ (x_35 : List UInt8), ∀ (x_38 : List UInt8), ∀ (x_41 : Bool), gath_Gather_Commit.J1 K x0_n x0_id x0_v x0_l x0_come x0_ready x_5 x_6 x_7 x_8 x_9 x_10 x_11 x_12 x_13 x_14 x_15 x_16 x_19 x_20 x_21 x_24 x_27 x_28 x_29 x_30 x_31 x_32 x_35 x_38 x_41 = some r → ∀ (a : Act) (w_42 : World), (∃ (v_17 : Value) (v_22 : Value) (v_25 : Value) (v_33 : Value) (v_36 : Value) (v_39 : Value) (N_4 : Mem), Fr 52 a [(0, .pointer (some ⟨g0, 0, none⟩)), (2, .pointer (some ⟨g_2, 0, none⟩)), (3, .bool false)] ∧ Sep w0 w_42 [N_4, Mem.one g0 (.cells ([iV x0_n, iV x0_id, iV x0_v, p0_0, iV x0_come, iV x0_ready, iV x_5, iV x_6, iV x_7, iV x_8, iV x_9, iV x_10, .bool x_11, iV x_12, iV x_13, iV x_14, iV x_15, v_17, iV x_19, iV x_20, v_22, v_25, iV x_27, iV x_28, iV x_29, iV x_30, iV x_31, v_33, v_36, v_39, .bool x_41] : List Value).toArray 47 (0, 0)), M0_0, Mem.one g_2 (.cells ([iV 0, iV 0, iV 0, iV 0, iV 0, iV 0, .bool false, iV 0, iV 0, iV 0, iV 0, nS, iV 0, iV 0, nS, nS, iV 0, iV 0, iV 0, iV 0, iV 0, nS, nS, nS] : List Value).toArray 29 (0, 0))] Z ∧ Mem.no.le N_4 ∧ Rd Kd.u8 A v_17 x_16 ∧ Rd (Kd.int .i64) A v_22 x_21 ∧ Rd (Kd.int .i64) A v_25 x_24 ∧ Rd Kd.u8 A v_33 x_32 ∧ Rd Kd.u8 A v_36 x_35 ∧ Rd Kd.u8 A v_39 x_38) → KJ_3 a w_42 := by
  clear H h hS a
  rintro x_5 x_6 x_7 x_8 x_9 x_10 x_11 x_12 x_13 x_14 x_15 x_16 x_19 x_20 x_21 x_24 x_27 x_28 x_29 x_30 x_31 x_32 x_35 x_38 x_41 H a w_42 ⟨v_17, v_22, v_25, v_33, v_36, v_39, N_4, h, hS, le_4, hr_18, hr_23, hr_26, hr_34, hr_37, hr_40⟩
  unfold gath_Gather_Commit.J1 at H
  refine hKJ_3 _ _ <| wp_seq <| wp_region_lit <| s_move h rfl rfl fun a h=>s_nilCheck h rfl rfl fun a h=>s_fieldAddr h rfl U47 rfl ti29 rfl rfl fun a h=>s_load h rfl rfl (hS.load_agg (p := 1) (us := [iV x_5, iV x_6, iV x_7, iV x_8, iV x_9, iV x_10, .bool x_11, iV x_12, iV x_13, iV x_14, iV x_15, v_17, iV x_19, iV x_20, v_22, v_25, iV x_27, iV x_28, iV x_29, iV x_30, iV x_31, v_33, v_36, v_39]) rfl U29 rfl ti29 rfl rfl) fun a h=>?_
  obtain ⟨w_44, hs', hS'⟩ := hS.store (P := Try.prog) (p := 3) (o := 0) (t := 29) (v := .agg ([iV x_5, iV x_6, iV x_7, iV x_8, iV x_9, iV x_10, .bool x_11, iV x_12, iV x_13, iV x_14, iV x_15, v_17, iV x_19, iV x_20, v_22, v_25, iV x_27, iV x_28, iV x_29, iV x_30, iV x_31, v_33, v_36, v_39] : List Value).toArray) (vs := [iV x_5, iV x_6, iV x_7, iV x_8, iV x_9, iV x_10, .bool x_11, iV x_12, iV x_13, iV x_14, iV x_15, v_17, iV x_19, iV x_20, v_22, v_25, iV x_27, iV x_28, iV x_29, iV x_30, iV x_31, v_33, v_36, v_39]) rfl ti29 rfl rfl rfl (by intro u hu; simp only [List.mem_cons, List.not_mem_nil, or_false] at hu; rcases hu with rfl | rfl | rfl | rfl | rfl | rfl | rfl | rfl | rfl | rfl | rfl | rfl | rfl | rfl | rfl | rfl | rfl | rfl | rfl | rfl | rfl | rfl | rfl | rfl <;> first | rfl | exact hr_18.one | exact hr_23.one | exact hr_26.one | exact hr_34.one | exact hr_37.one | exact hr_40.one)
  refine s_store h rfl rfl hs' ?_
  replace hS : Sep w0 w_44 [_, _, _, Mem.one g_2 (.cells ([iV x_5, iV x_6, iV x_7, iV x_8, iV x_9, iV x_10, .bool x_11, iV x_12, iV x_13, iV x_14, iV x_15, v_17, iV x_19, iV x_20, v_22, v_25, iV x_27, iV x_28, iV x_29, iV x_30, iV x_31, v_33, v_36, v_39] : List Value).toArray 29 (0, 0))] Z := hS'
  clear hs' hS'
  refine s_assign h rfl rfl fun a h=>wpList_nil <| x_then_n <| wp_ret ?_
  obtain rfl := Option.some.inj H
  exact f_ret h (rs := [.cell 2 29, .tmp 3]) rfl (.cell rfl (hS.load_agg (p := 3) (us := [iV x_5, iV x_6, iV x_7, iV x_8, iV x_9, iV x_10, .bool x_11, iV x_12, iV x_13, iV x_14, iV x_15, v_17, iV x_19, iV x_20, v_22, v_25, iV x_27, iV x_28, iV x_29, iV x_30, iV x_31, v_33, v_36, v_39]) rfl U29 rfl ti29 rfl rfl) (.tmp rfl .nil)) ⟨_, rfl, v_17, v_22, v_25, v_33, v_36, v_39, p0_0, v_17, v_22, v_25, v_33, v_36, v_39, N_4, M0_0, rfl, (Sep.sel hS [0, 1, 2] (by decide)), (hr_18.mono (Mem.le_un _ _)), (hr_23.mono (Mem.le_un _ _)), (hr_26.mono (Mem.le_un _ _)), (hr_34.mono (Mem.le_un _ _)), (hr_37.mono (Mem.le_un _ _)), (hr_40.mono (Mem.le_un _ _)), (hp0_0.mono (Mem.le_un _ _)), (hr_18.mono (Mem.le_un _ _)), (hr_23.mono (Mem.le_un _ _)), (hr_26.mono (Mem.le_un _ _)), (hr_34.mono (Mem.le_un _ _)), (hr_37.mono (Mem.le_un _ _)), (hr_40.mono (Mem.le_un _ _))⟩
 clear hKJ_3
 by_cases hc_45 : x0_is = true
 ·rw [if_pos hc_45] at H
  refine c_cond_f h rfl (nf hc_45) <| wp_skip ?_
  replace hS : Sep w0 w_1 [_, _, _, _] Z := hS
  replace h : Fr 52 a [(0, _), (2, .pointer (some ⟨g_2, 0, none⟩)), (3, .bool false)] := h.keep [0, 2, 3]
  exact x_then_n (hJ_j_43 x0_commit_Kind x0_commit_From x0_commit_To x0_commit_View x0_commit_Inst x0_commit_Len x0_commit_Has x0_commit_Members x0_commit_Source x0_commit_At x0_commit_Total x0_commit_Data x0_commit_Hop x0_commit_Seq x0_commit_Have x0_commit_Need x0_commit_Index x0_commit_Entry_Sess x0_commit_Entry_Seq x0_commit_Entry_Cmd_Kind x0_commit_Entry_Cmd_Who x0_commit_Entry_Cmd_Key x0_commit_Entry_Cmd_Val x0_commit_Entry_Cmd_Old x0_is H _ _ ⟨p0_1, p0_2, p0_3, p0_4, p0_5, p0_6, Mem.no, h, (Sep.sel hS [0, 1, 2, 3] (by decide)), (Mem.le.refl _), hp0_1, hp0_2, hp0_3, hp0_4, hp0_5, hp0_6⟩)
 ·rw [if_neg hc_45] at H
  refine c_cond_t h rfl (nt (Bool.eq_false_iff.2 hc_45)) <| c_seq fun KJ_46 hKJ_46 => h_begin (S := fun w => Sep w0 w [Mem.no, Mem.one g0 (.cells ([iV x0_n, iV x0_id, iV x0_v, p0_0, iV x0_come, iV x0_ready, iV x0_commit_Kind, iV x0_commit_From, iV x0_commit_To, iV x0_commit_View, iV x0_commit_Inst, iV x0_commit_Len, .bool x0_commit_Has, iV x0_commit_Members, iV x0_commit_Source, iV x0_commit_At, iV x0_commit_Total, p0_1, iV x0_commit_Hop, iV x0_commit_Seq, p0_2, p0_3, iV x0_commit_Index, iV x0_commit_Entry_Sess, iV x0_commit_Entry_Seq, iV x0_commit_Entry_Cmd_Kind, iV x0_commit_Entry_Cmd_Who, p0_4, p0_5, p0_6, .bool x0_is] : List Value).toArray 47 (0, 0)), M0_0, Mem.one g_2 (.cells ([iV 0, iV 0, iV 0, iV 0, iV 0, iV 0, .bool false, iV 0, iV 0, iV 0, iV 0, nS, iV 0, iV 0, nS, nS, iV 0, iV 0, iV 0, iV 0, iV 0, nS, nS, nS] : List Value).toArray 29 (0, 0))] Z) 18 (by kernel_rfl) rfl (bA 18 0) (by kernel_rfl) hS fun w_47 hS => ?_
  replace hS : Sep w0 w_47 [_, _, _, _] Z := hS
  refine t_take 0 (bA 18 1) rfl rfl rfl rfl h (hS.sub .ii) (v := .pointer (some ⟨g0, 0, none⟩)) (fun w hS => r_move h rfl) fun a h=>t_take 1 (bA 18 3) rfl rfl rfl rfl h (hS.sub .ii) (v := .pointer (some ⟨g0, 0, none⟩)) (fun w hS => r_nilCheck h rfl) fun a h=>t_take 2 (bA 18 7) rfl rfl rfl rfl h (hS.sub .ii) (v := .pointer (some ⟨g0, 3, none⟩)) (fun w hS => r_fieldAddr h U47 rfl ti30 rfl rfl rfl) fun a h=>t_take 3 (bA 18 15) rfl rfl rfl rfl h (hS.sub .ii) (v := p0_0) (fun w hS => r_load h rfl (hS.load_one (p := 1) rfl U30 rfl rfl)) fun a h=>t_take 4 (bA 18 31) rfl rfl rfl rfl h (hS.sub .ii) (v := .pointer (some ⟨g0, 0, none⟩)) (fun w hS => r_move h rfl) fun a h=>t_take 5 (bA 18 63) rfl rfl rfl rfl h (hS.sub .ii) (v := .pointer (some ⟨g0, 0, none⟩)) (fun w hS => r_nilCheck h rfl) fun a h=>?_
  refine t_take 6 (bA 18 127) rfl rfl rfl rfl h (hS.sub .ii) (v := .pointer (some ⟨g0, 0, none⟩)) (fun w hS => r_fieldAddr h U47 rfl ti3 rfl rfl rfl) fun a h=>t_take 7 (bA 18 255) rfl rfl rfl rfl h (hS.sub .ii) (v := iV x0_n) (fun w hS => r_load h rfl (hS.load_one (p := 1) rfl U3 rfl rfl)) fun a h=>h_event 8 (bA 18 511) rfl (by kernel_rfl) (by kernel_rfl) ?_
  obtain ⟨t_48, et_48, H⟩ := Option.bind_eq_some_iff.1 H
  refine s_call h rfl Try.call25 rfl (view_Choose.calls K x0_l _ x0_n t_48 w0 _ _ _ (Mem.le.refl _) (hS.enter [] (by decide)) (hp0_0.rd (hS.own_zed [] 1 (by decide)) (hA.trans (hS.le_zed []))) et_48) ?_
  rintro _ w_49 ⟨N_50, rfl, hS'⟩
  intro a h
  obtain ⟨N_51, hS'', le_51, ln_51⟩ := hS.call [] (by decide) rfl (l' := []) (ow := []) rfl hS'
  replace hS : Sep w0 w_49 [N_51, _, _, _] Z := hS''
  clear hS' hS''
  refine wpList_nil <| x_then_n ⟨(hS.sub (.cons le_51 .ii)), ?_⟩
  refine t_take 9 (bA 18 1023) rfl rfl rfl rfl h (hS.sub (.cons le_51 .ii)) (v := .tuple [iV t_48.1, iV t_48.2.1, iV t_48.2.2.1, .bool t_48.2.2.2].toArray) (fun w hS => r_move h rfl) fun a h=>t_take 10 (bA 18 2047) rfl rfl rfl rfl h (hS.sub (.cons le_51 .ii)) (v := iV t_48.1) (fun w hS => r_extract h rfl rfl) fun a h=>t_take 11 (bA 18 4095) rfl rfl rfl rfl h (hS.sub (.cons le_51 .ii)) (v := iV t_48.2.1) (fun w hS => r_extract h rfl rfl) fun a h=>t_take 12 (bA 18 8191) rfl rfl rfl rfl h (hS.sub (.cons le_51 .ii)) (v := iV t_48.2.2.1) (fun w hS => r_extract h rfl rfl) fun a h=>t_take 13 (bA 18 16383) rfl rfl rfl rfl h (hS.sub (.cons le_51 .ii)) (v := .bool t_48.2.2.2) (fun w hS => r_extract h rfl rfl) fun a h=>t_take 14 (bA 18 32767) rfl rfl rfl rfl h (hS.sub (.cons le_51 .ii)) (v := iV t_48.1) (fun w hS => r_assign h rfl) fun a h=>?_
  refine t_take 15 (bA 18 65535) rfl rfl rfl rfl h (hS.sub (.cons le_51 .ii)) (v := iV t_48.2.1) (fun w hS => r_assign h rfl) fun a h=>t_take 16 (bA 18 131071) rfl rfl rfl rfl h (hS.sub (.cons le_51 .ii)) (v := iV t_48.2.2.1) (fun w hS => r_assign h rfl) fun a h=>t_take 17 (bA 18 262143) rfl rfl rfl rfl h (hS.sub (.cons le_51 .ii)) (v := .bool t_48.2.2.2) (fun w hS => r_assign h rfl) fun a h=>h_done (by kernel_rfl) <| x_then_n (hKJ_46 _ _ ?_)
  refine c_seq fun KJ_52 hKJ_52 => wp_seq <| wp_region_lit <| s_move h rfl rfl fun a h=>s_not h rfl rfl fun a h=>wpList_nil ?_
  replace h : Fr 52 a [(0, _), (2, .pointer (some ⟨g_2, 0, none⟩)), (3, .bool false), (4, iV t_48.1), (5, iV t_48.2.1), (6, iV t_48.2.2.1), (28, .bool (!t_48.2.2.2))] := h.keep [0, 2, 3, 4, 5, 6, 28]
  refine x_then_n ?_
  by_cases hc_53 : t_48.2.2.2 = true
  ·rw [if_pos hc_53] at H
   refine c_cond_f h rfl (nf hc_53) <| wp_skip <| x_then_n (hKJ_52 _ _ ?_)
   refine wp_seq <| wp_region_lit <| s_move h rfl rfl fun a h=>s_nilCheck h rfl rfl fun a h=>s_fieldAddr h rfl U47 rfl ti4 rfl rfl fun a h=>?_
   obtain ⟨w_54, hs', hS'⟩ := hS.store (P := Try.prog) (p := 1) (o := 30) (t := 4) (v := .bool true) (vs := [.bool true]) rfl ti4 rfl rfl rfl (by intro u hu; simp only [List.mem_cons, List.not_mem_nil, or_false] at hu; rcases hu with rfl <;> rfl)
   refine s_store h rfl rfl hs' ?_
   replace hS : Sep w0 w_54 [_, Mem.one g0 (.cells ([_, _, _, _, _, _, _, _, _, _, _, _, _, _, _, _, _, _, _, _, _, _, _, _, _, _, _, _, _, _, .bool true] : List Value).toArray 47 (0, 0)), _, _] Z := hS'
   clear hs' hS'
   refine wpList_nil <| x_then_n <| h_begin (S := fun w => Sep w0 w [N_51, Mem.no, M0_0, Mem.one g_2 (.cells ([iV 0, iV 0, iV 0, iV 0, iV 0, iV 0, .bool false, iV 0, iV 0, iV 0, iV 0, nS, iV 0, iV 0, nS, nS, iV 0, iV 0, iV 0, iV 0, iV 0, nS, nS, nS] : List Value).toArray 29 (0, 0))] Z) 16 (by kernel_rfl) rfl (bA 16 0) (by kernel_rfl) hS fun w_55 hS => ?_
   replace hS : Sep w0 w_55 [_, _, _, _] Z := hS
   refine t_take 0 (bA 16 1) rfl rfl rfl rfl h (hS.sub (.cons (Mem.le.refl _) (.zz .ii))) (v := .pointer (some ⟨g0, 0, none⟩)) (fun w hS => r_move h rfl) fun a h=>t_take 1 (bA 16 3) rfl rfl rfl rfl h (hS.sub (.cons (Mem.le.refl _) (.zz .ii))) (v := .pointer (some ⟨g0, 0, none⟩)) (fun w hS => r_move h rfl) fun a h=>t_take 2 (bA 16 7) rfl rfl rfl rfl h (hS.sub (.cons (Mem.le.refl _) (.zz .ii))) (v := .pointer (some ⟨g0, 0, none⟩)) (fun w hS => r_nilCheck h rfl) fun a h=>t_take 3 (bA 16 15) rfl rfl rfl rfl h (hS.sub (.cons (Mem.le.refl _) (.zz .ii))) (v := .pointer (some ⟨g0, 1, none⟩)) (fun w hS => r_fieldAddr h U47 rfl ti3 rfl rfl rfl) fun a h=>t_take 5 (bA 16 47) rfl rfl rfl rfl h (hS.sub (.cons (Mem.le.refl _) (.zz .ii))) (v := .pointer (some ⟨g0, 0, none⟩)) (fun w hS => r_move h rfl) fun a h=>t_take 6 (bA 16 111) rfl rfl rfl rfl h (hS.sub (.cons (Mem.le.refl _) (.zz .ii))) (v := .pointer (some ⟨g0, 0, none⟩)) (fun w hS => r_nilCheck h rfl) fun a h=>?_
   refine t_take 7 (bA 16 239) rfl rfl rfl rfl h (hS.sub (.cons (Mem.le.refl _) (.zz .ii))) (v := .pointer (some ⟨g0, 2, none⟩)) (fun w hS => r_fieldAddr h U47 rfl ti3 rfl rfl rfl) fun a h=>t_take 9 (bA 16 751) rfl rfl rfl rfl h (hS.sub (.cons (Mem.le.refl _) (.zz .ii))) (v := iV t_48.1) (fun w hS => r_move h rfl) fun a h=>t_take 10 (bA 16 1775) rfl rfl rfl rfl h (hS.sub (.cons (Mem.le.refl _) (.zz .ii))) (v := iV t_48.2.1) (fun w hS => r_move h rfl) fun a h=>t_take 11 (bA 16 3823) rfl rfl rfl rfl h (hS.sub (.cons (Mem.le.refl _) (.zz .ii))) (v := iV t_48.2.2.1) (fun w hS => r_move h rfl) fun a h=>h_events [4, 8] (by kernel_rfl) (by simp) ?_
   intro i hi; simp only [List.mem_cons, List.not_mem_nil, or_false] at hi; rcases hi with rfl | rfl
   ·refine ⟨_, (bA 16 3839), rfl, by kernel_rfl, ?_⟩
    refine s_load h rfl rfl (hS.load_one (p := 1) rfl U3 rfl rfl) fun a h=>wpList_nil <| x_then_n ⟨(hS.sub (.cons (Mem.le.refl _) (.zz .ii))), ?_⟩
    refine h_event 8 (bA 16 4095) rfl (by kernel_rfl) (by kernel_rfl) <| s_load h rfl rfl (hS.load_one (p := 1) rfl U3 rfl rfl) fun a h=>wpList_nil <| x_then_n ⟨(hS.sub (.cons (Mem.le.refl _) (.zz .ii))), ?_⟩
    refine t_take 12 (bA 16 8191) rfl rfl rfl rfl h (hS.sub (.cons (Mem.le.refl _) (.zz .ii))) (v := .agg ([iV 3, iV x0_id, iV 0, iV x0_v, iV 0, iV t_48.2.2.1, .bool false, iV t_48.1, iV t_48.2.1, iV 0, iV 0, nS, iV 0, iV 0, nS, nS, iV 0, iV 0, iV 0, iV 0, iV 0, nS, nS, nS] : List Value).toArray) (fun w hS => r_build h ti29 pl29 rfl (.cons rfl (.cons rfl (.cons rfl (.cons rfl (.cons rfl (.cons rfl .nil)))))) (cs := [iV 3, iV x0_id, iV 0, iV x0_v, iV 0, iV t_48.2.2.1, .bool false, iV t_48.1, iV t_48.2.1, iV 0, iV 0, nS, iV 0, iV 0, nS, nS, iV 0, iV 0, iV 0, iV 0, iV 0, nS, nS, nS]) (by kernel_rfl)) fun a h=>t_take 13 (bA 16 16383) rfl rfl rfl rfl h (hS.sub (.cons (Mem.le.refl _) (.zz .ii))) (v := .pointer (some ⟨g0, 0, none⟩)) (fun w hS => r_nilCheck h rfl) fun a h=>t_take 14 (bA 16 32767) rfl rfl rfl rfl h (hS.sub (.cons (Mem.le.refl _) (.zz .ii))) (v := .pointer (some ⟨g0, 6, none⟩)) (fun w hS => r_fieldAddr h U47 rfl ti29 rfl rfl rfl) fun a h=>?_
    refine h_event 15 (bA 16 65535) rfl (by kernel_rfl) (by kernel_rfl) ?_
    obtain ⟨w_56, hs', hS'⟩ := hS.store (P := Try.prog) (p := 1) (o := 6) (t := 29) (v := .agg ([iV 3, iV x0_id, iV 0, iV x0_v, iV 0, iV t_48.2.2.1, .bool false, iV t_48.1, iV t_48.2.1, iV 0, iV 0, nS, iV 0, iV 0, nS, nS, iV 0, iV 0, iV 0, iV 0, iV 0, nS, nS, nS] : List Value).toArray) (vs := [iV 3, iV x0_id, iV 0, iV x0_v, iV 0, iV t_48.2.2.1, .bool false, iV t_48.1, iV t_48.2.1, iV 0, iV 0, nS, iV 0, iV 0, nS, nS, iV 0, iV 0, iV 0, iV 0, iV 0, nS, nS, nS]) rfl ti29 rfl rfl rfl (by intro u hu; simp only [List.mem_cons, List.not_mem_nil, or_false] at hu; rcases hu with rfl | rfl | rfl | rfl | rfl | rfl | rfl | rfl | rfl | rfl | rfl | rfl | rfl | rfl | rfl | rfl | rfl | rfl | rfl | rfl | rfl | rfl | rfl | rfl <;> rfl)
    refine s_store h rfl rfl hs' ?_
    replace hS : Sep w0 w_56 [_, Mem.one g0 (.cells ([_, _, _, _, _, _, iV 3, iV x0_id, iV 0, iV x0_v, iV 0, iV t_48.2.2.1, .bool false, iV t_48.1, iV t_48.2.1, iV 0, iV 0, nS, iV 0, iV 0, nS, nS, iV 0, iV 0, iV 0, iV 0, iV 0, nS, nS, nS, _] : List Value).toArray 47 (0, 0)), _, _] Z := hS'
    clear hs' hS'
    refine wpList_nil <| x_then_n ⟨(hS.sub (.cons (Mem.le.refl _) (.zz .ii))), ?_⟩
    refine h_done (by kernel_rfl) ?_
    replace hS : Sep w0 w_56 [_, _, _, _] Z := hS
    replace h : Fr 52 a [(0, _), (2, _), (3, _)] := h.keep [0, 2, 3]
    exact x_then_n (hJ_j_43 3 x0_id 0 x0_v 0 t_48.2.2.1 false t_48.1 t_48.2.1 0 0 ([] : List UInt8) 0 0 ([] : List Int) ([] : List Int) 0 0 0 0 0 ([] : List UInt8) ([] : List UInt8) ([] : List UInt8) true H _ _ ⟨nS, nS, nS, nS, nS, nS, N_51, h, (Sep.sel hS [0, 1, 2, 3] (by decide)), le_51, (Rd.nil _ _), (Rd.nil _ _), (Rd.nil _ _), (Rd.nil _ _), (Rd.nil _ _), (Rd.nil _ _)⟩)
   ·refine ⟨_, (bA 16 4079), rfl, by kernel_rfl, ?_⟩
    refine s_load h rfl rfl (hS.load_one (p := 1) rfl U3 rfl rfl) fun a h=>wpList_nil <| x_then_n ⟨(hS.sub (.cons (Mem.le.refl _) (.zz .ii))), ?_⟩
    refine h_event 4 (bA 16 4095) rfl (by kernel_rfl) (by kernel_rfl) <| s_load h rfl rfl (hS.load_one (p := 1) rfl U3 rfl rfl) fun a h=>wpList_nil <| x_then_n ⟨(hS.sub (.cons (Mem.le.refl _) (.zz .ii))), ?_⟩
    refine t_take 12 (bA 16 8191) rfl rfl rfl rfl h (hS.sub (.cons (Mem.le.refl _) (.zz .ii))) (v := .agg ([iV 3, iV x0_id, iV 0, iV x0_v, iV 0, iV t_48.2.2.1, .bool false, iV t_48.1, iV t_48.2.1, iV 0, iV 0, nS, iV 0, iV 0, nS, nS, iV 0, iV 0, iV 0, iV 0, iV 0, nS, nS, nS] : List Value).toArray) (fun w hS => r_build h ti29 pl29 rfl (.cons rfl (.cons rfl (.cons rfl (.cons rfl (.cons rfl (.cons rfl .nil)))))) (cs := [iV 3, iV x0_id, iV 0, iV x0_v, iV 0, iV t_48.2.2.1, .bool false, iV t_48.1, iV t_48.2.1, iV 0, iV 0, nS, iV 0, iV 0, nS, nS, iV 0, iV 0, iV 0, iV 0, iV 0, nS, nS, nS]) (by kernel_rfl)) fun a h=>t_take 13 (bA 16 16383) rfl rfl rfl rfl h (hS.sub (.cons (Mem.le.refl _) (.zz .ii))) (v := .pointer (some ⟨g0, 0, none⟩)) (fun w hS => r_nilCheck h rfl) fun a h=>t_take 14 (bA 16 32767) rfl rfl rfl rfl h (hS.sub (.cons (Mem.le.refl _) (.zz .ii))) (v := .pointer (some ⟨g0, 6, none⟩)) (fun w hS => r_fieldAddr h U47 rfl ti29 rfl rfl rfl) fun a h=>?_
    refine h_event 15 (bA 16 65535) rfl (by kernel_rfl) (by kernel_rfl) ?_
    obtain ⟨w_57, hs', hS'⟩ := hS.store (P := Try.prog) (p := 1) (o := 6) (t := 29) (v := .agg ([iV 3, iV x0_id, iV 0, iV x0_v, iV 0, iV t_48.2.2.1, .bool false, iV t_48.1, iV t_48.2.1, iV 0, iV 0, nS, iV 0, iV 0, nS, nS, iV 0, iV 0, iV 0, iV 0, iV 0, nS, nS, nS] : List Value).toArray) (vs := [iV 3, iV x0_id, iV 0, iV x0_v, iV 0, iV t_48.2.2.1, .bool false, iV t_48.1, iV t_48.2.1, iV 0, iV 0, nS, iV 0, iV 0, nS, nS, iV 0, iV 0, iV 0, iV 0, iV 0, nS, nS, nS]) rfl ti29 rfl rfl rfl (by intro u hu; simp only [List.mem_cons, List.not_mem_nil, or_false] at hu; rcases hu with rfl | rfl | rfl | rfl | rfl | rfl | rfl | rfl | rfl | rfl | rfl | rfl | rfl | rfl | rfl | rfl | rfl | rfl | rfl | rfl | rfl | rfl | rfl | rfl <;> rfl)
    refine s_store h rfl rfl hs' ?_
    replace hS : Sep w0 w_57 [_, Mem.one g0 (.cells ([_, _, _, _, _, _, iV 3, iV x0_id, iV 0, iV x0_v, iV 0, iV t_48.2.2.1, .bool false, iV t_48.1, iV t_48.2.1, iV 0, iV 0, nS, iV 0, iV 0, nS, nS, iV 0, iV 0, iV 0, iV 0, iV 0, nS, nS, nS, _] : List Value).toArray 47 (0, 0)), _, _] Z := hS'
    clear hs' hS'
    refine wpList_nil <| x_then_n ⟨(hS.sub (.cons (Mem.le.refl _) (.zz .ii))), ?_⟩
    refine h_done (by kernel_rfl) ?_
    replace hS : Sep w0 w_57 [_, _, _, _] Z := hS
    replace h : Fr 52 a [(0, _), (2, _), (3, _)] := h.keep [0, 2, 3]
    exact x_then_n (hJ_j_43 3 x0_id 0 x0_v 0 t_48.2.2.1 false t_48.1 t_48.2.1 0 0 ([] : List UInt8) 0 0 ([] : List Int) ([] : List Int) 0 0 0 0 0 ([] : List UInt8) ([] : List UInt8) ([] : List UInt8) true H _ _ ⟨nS, nS, nS, nS, nS, nS, N_51, h, (Sep.sel hS [0, 1, 2, 3] (by decide)), le_51, (Rd.nil _ _), (Rd.nil _ _), (Rd.nil _ _), (Rd.nil _ _), (Rd.nil _ _), (Rd.nil _ _)⟩)
  ·rw [if_neg hc_53] at H
   refine c_cond_t h rfl (nt (Bool.eq_false_iff.2 hc_53)) <| wp_seq <| wp_region_lit <| s_build h rfl ti29 pl29 rfl .nil (cs := [iV 0, iV 0, iV 0, iV 0, iV 0, iV 0, .bool false, iV 0, iV 0, iV 0, iV 0, nS, iV 0, iV 0, nS, nS, iV 0, iV 0, iV 0, iV 0, iV 0, nS, nS, nS]) (by kernel_rfl) fun a h=>?_
   obtain ⟨w_58, hs', hS'⟩ := hS.store (P := Try.prog) (p := 3) (o := 0) (t := 29) (v := .agg ([iV 0, iV 0, iV 0, iV 0, iV 0, iV 0, .bool false, iV 0, iV 0, iV 0, iV 0, nS, iV 0, iV 0, nS, nS, iV 0, iV 0, iV 0, iV 0, iV 0, nS, nS, nS] : List Value).toArray) (vs := [iV 0, iV 0, iV 0, iV 0, iV 0, iV 0, .bool false, iV 0, iV 0, iV 0, iV 0, nS, iV 0, iV 0, nS, nS, iV 0, iV 0, iV 0, iV 0, iV 0, nS, nS, nS]) rfl ti29 rfl rfl rfl (by intro u hu; simp only [List.mem_cons, List.not_mem_nil, or_false] at hu; rcases hu with rfl | rfl | rfl | rfl | rfl | rfl | rfl | rfl | rfl | rfl | rfl | rfl | rfl | rfl | rfl | rfl | rfl | rfl | rfl | rfl | rfl | rfl | rfl | rfl <;> rfl)
   refine s_store h rfl rfl hs' ?_
   replace hS : Sep w0 w_58 [_, _, _, _] Z := hS'
   clear hs' hS'
   refine s_assign h rfl rfl fun a h=>wpList_nil <| x_then_n <| wp_ret (x_then_r (x_then_r ?_))
   obtain rfl := Option.some.inj H
   exact f_ret h (rs := [.cell 2 29, .tmp 3]) rfl (.cell rfl (hS.load_agg (p := 3) (us := [iV 0, iV 0, iV 0, iV 0, iV 0, iV 0, .bool false, iV 0, iV 0, iV 0, iV 0, nS, iV 0, iV 0, nS, nS, iV 0, iV 0, iV 0, iV 0, iV 0, nS, nS, nS]) rfl U29 rfl ti29 rfl rfl) (.tmp rfl .nil)) ⟨_, rfl, nS, nS, nS, nS, nS, nS, p0_0, p0_1, p0_2, p0_3, p0_4, p0_5, p0_6, N_51, M0_0, rfl, (Sep.sel hS [0, 1, 2] (by decide)), (Rd.nil _ _), (Rd.nil _ _), (Rd.nil _ _), (Rd.nil _ _), (Rd.nil _ _), (Rd.nil _ _), (hp0_0.mono (Mem.le_un _ _)), (hp0_1.mono (Mem.le_un _ _)), (hp0_2.mono (Mem.le_un _ _)), (hp0_3.mono (Mem.le_un _ _)), (hp0_4.mono (Mem.le_un _ _)), (hp0_5.mono (Mem.le_un _ _)), (hp0_6.mono (Mem.le_un _ _))⟩

set_option maxHeartbeats 4000000 in
set_option maxRecDepth 20000 in
theorem hocketref11_Members.calls (K : Nat) (x0 : Int) (r : (List Int)) (w0 w : World) (Z A : Mem) (hA : A.le Z) (hS : Sep w0 w [] Z)
    (H : hocketref11_Members.f K x0 = some r) :
    Calls Try.prog 30 [iV x0].toArray w (Ret fun v w' => ∃ (u0 : Value) (N : Mem) (M0 : Mem), v = u0 ∧ Sep w0 w' [N, M0] Z ∧ Own (Kd.int .i64) 3 M0 Mem.no u0 r) := by
 unfold hocketref11_Members.f at H
 refine f_enter _ Try.func30 rfl Try.ntmps30 rfl fun a h=>?_
 replace h : Fr 20 a [(0, iV x0)] := h
 replace hS := hS.start
 replace hS : Sep w0 w [_] Z := hS
 refine wp_seq <| wp_region_lit <| s_assign h rfl rfl fun a h=>wpList_nil <| x_then_n <| wp_seq <| wp_region_lit <| s_assign h rfl rfl fun a h=>wpList_nil <| x_then_n <| c_seq fun KJ_1 hKJ_1 => wp_seq <| wp_region_lit ?_
 refine s_assign h rfl rfl fun a h=>wpList_nil <| x_then_n ?_
 have hJ_j_9 : ∀ (x_3 : List Int), hocketref11_Members.J1 K x_3 = some r → ∀ (a : Act) (w_8 : World), (∃ (v_6 : Value) (N_2 : Mem) (M_4 : Mem), Fr 20 a [(2, nS), (3, v_6)] ∧ Sep w0 w_8 [N_2, M_4] Z ∧ Mem.no.le N_2 ∧ Own (Kd.int .i64) 3 M_4 Mem.no v_6 x_3) → KJ_1 a w_8 := by
  clear H h hS a
  rintro x_3 H a w_8 ⟨v_6, N_2, M_4, h, hS, le_2, ho_7⟩
  unfold hocketref11_Members.J1 at H
  refine hKJ_1 _ _ <| wp_seq <| wp_region_lit <| s_move h rfl rfl fun a h=>s_assign h rfl rfl fun a h=>wpList_nil ?_
  replace h : Fr 20 a [(2, v_6)] := h.keep [2]
  refine x_then_n <| wp_ret ?_
  obtain rfl := Option.some.inj H
  exact f_ret h (rs := [.tmp 2]) rfl (.tmp rfl .nil) ⟨_, rfl, v_6, N_2, M_4, rfl, (Sep.sel hS [0, 1] (by decide)), ho_7⟩
 clear hKJ_1
 have hS' := hS.room
 replace hS : Sep w0 w [_, Mem.no] Z := hS'
 clear hS'
 replace hS : Sep w0 w [_, _] Z := hS
 replace h : Fr 20 a [(0, _), (2, nS), (3, nS), (4, iV 0)] := h.keep [0, 2, 3, 4]
 refine c_block <| c_loop (fun k_17 a w_17 => ∃ (x_11 : List Int) (x_16 : Int) (v_14 : Value) (N_10 : Mem) (M_12 : Mem), hocketref11_Members.L1 K x0 (fun v => hocketref11_Members.J1 K v) k_17 (x_11, x_16) = some r ∧ Fr 20 a [(0, iV x0), (2, nS), (3, v_14), (4, iV x_16)] ∧ Sep w0 w_17 [N_10, M_12] Z ∧ Mem.no.le N_10 ∧ Own (Kd.int .i64) 3 M_12 Mem.no v_14 x_11) K ⟨([] : List Int), 0, nS, Mem.no, Mem.no, H, h, (Sep.sel hS [0, 1] (by decide)), (Mem.le.refl _), (Own.nil (Kd.int .i64) 3 Mem.no)⟩ (fun a w h => by obtain ⟨_, _, _, _, _, H, _⟩ := h; cases (show (none : Option ((List Int))) = some r from H)) ?_
 clear h hS a H
 rintro k_17 a w_17 KL_17 hKL_17 ⟨x_11, x_16, v_14, N_10, M_12, H, h, hS, le_10, ho_15⟩
 replace H : hocketref11_Members.B1 K x0 (fun v => hocketref11_Members.J1 K v) (hocketref11_Members.L1 K x0 (fun v => hocketref11_Members.J1 K v) k_17) x_11 x_16 = some r := H
 unfold hocketref11_Members.B1 at H
 refine c_seq fun KJ_20 hKJ_20 => wp_seq <| wp_region_lit <| s_move h rfl rfl fun a h=>s_cmp (b := decide (x_16 < 7)) h rfl rfl rfl (.inr (.inr (.inl ⟨rfl, rfl⟩))) fun a h=>wpList_nil ?_
 replace h : Fr 20 a [(0, _), (2, _), (3, _), (4, _), (6, .bool (decide (x_16 < 7)))] := h.keep [0, 2, 3, 4, 6]
 refine x_then_n ?_
 by_cases hc_21 : x_16 < 7
 ·rw [if_pos hc_21] at H
  refine c_cond_t h rfl (decide_eq_true hc_21) <| wp_skip <| x_then_n (hKJ_20 _ _ ?_)
  refine c_seq fun KJ_22 hKJ_22 => c_block <| wp_seq <| wp_region_lit <| s_move h rfl rfl fun a h=>s_move h rfl rfl fun a h=>s_conv (wu64 x_16) h rfl U3 U36 rfl rfl fun a h=>s_shift (r := shr .i64 x0 (wu64 x_16)) h rfl rfl rfl (wu64_nn _) (.inr ⟨rfl, rfl⟩) fun a h=>s_bits (i := shr .i64 x0 (wu64 x_16)) (j := 1) (r := band .i64 (shr .i64 x0 (wu64 x_16)) 1) h rfl rfl rfl (.inl ⟨rfl, rfl⟩) fun a h=>s_cmp (b := ((band .i64 (shr .i64 x0 (wu64 x_16)) 1) == 1)) h rfl rfl rfl (.inl ⟨rfl, rfl⟩) fun a h=>wpList_nil <| x_then_n ?_
  by_cases hc_23 : (band .i64 (shr .i64 x0 (wu64 x_16)) 1) = 1
  ·rw [if_pos hc_23] at H
   refine c_cond_t h rfl (beq_iff_eq.2 hc_23) <| wp_region_lit <| s_move h rfl rfl fun a h=>s_move h rfl rfl fun a h=>?_
   have hq_28 : Reps (Kd.int .i64) Mem.no ([x_16] : List Int) _ := ((Reps.one (d := (Kd.int .i64)) (x := x_16) (show (Kd.int .i64).K _ _ [iV x_16] from rfl)).append (Reps.nil (Kd.int .i64) _))
   refine s_buildSlice h rfl U23 ti3 rfl rfl rfl (.cons rfl .nil) rfl rfl rfl hS hq_28 rfl fun w_24 v_25 M_26 hS' ho_27 a h => ?_
   replace hS : Sep w0 w_24 [_, _, M_26] Z := hS'
   clear hS' hq_28
   obtain ⟨t_30, et_30, H⟩ := Option.bind_eq_some_iff.1 H
   refine s_append (J := Mem.no) (I' := Mem.no) (p := 1) 17592186044416 h rfl rfl rfl U23 ti3 rfl rfl rfl rfl hS rfl ho_15 (Src.flat (flat_int .i64) (ho_27.src (hS.own 2))) (Mem.le.refl _) (Mem.le.refl _) et_30 fun w_31 v_32 M_33 hS' ho_34 a h => ?_
   replace hS : Sep w0 w_31 [_, M_33, _] Z := hS'
   clear hS'
   refine s_assign h rfl rfl fun a h=>wpList_nil <| x_block_n <| x_then_n (hKJ_22 _ _ ?_)
   refine wp_region_lit <| s_move h rfl rfl fun a h=>s_arith (r := w64 (x_16 + 1)) h rfl rfl rfl (.inl ⟨rfl, rfl⟩) fun a h=>s_assign h rfl rfl fun a h=>wpList_nil <| x_then_n (hKL_17 _ _ ?_)
   replace hS : Sep w0 w_31 [_, _, _] Z := hS
   replace h : Fr 20 a [(0, _), (2, _), (3, v_32), (4, iV (w64 (x_16 + 1)))] := h.keep [0, 2, 3, 4]
   exact ⟨t_30, w64 (x_16 + 1), v_32, N_10, M_33, H, h, (Sep.sel hS [0, 1] (by decide)), le_10, ho_34⟩
  ·rw [if_neg hc_23] at H
   refine c_cond_f h rfl (beq_eq_false_iff_ne.2 hc_23) <| wp_skip <| x_block_n <| x_then_n (hKJ_22 _ _ ?_)
   refine wp_region_lit <| s_move h rfl rfl fun a h=>s_arith (r := w64 (x_16 + 1)) h rfl rfl rfl (.inl ⟨rfl, rfl⟩) fun a h=>s_assign h rfl rfl fun a h=>wpList_nil <| x_then_n (hKL_17 _ _ ?_)
   replace hS : Sep w0 w_17 [_, _] Z := hS
   replace h : Fr 20 a [(0, _), (2, _), (3, _), (4, iV (w64 (x_16 + 1)))] := h.keep [0, 2, 3, 4]
   exact ⟨x_11, w64 (x_16 + 1), v_14, N_10, M_12, H, h, (Sep.sel hS [0, 1] (by decide)), le_10, ho_15⟩
 ·rw [if_neg hc_21] at H
  refine c_cond_f h rfl (decide_eq_false hc_21) <| wp_exit (x_then_x (x_then_x (x_block_t ?_)))
  replace hS : Sep w0 w_17 [_, _] Z := hS
  replace h : Fr 20 a [(2, _), (3, _)] := h.keep [2, 3]
  exact x_then_n (hJ_j_9 x_11 H _ _ ⟨v_14, N_10, M_12, h, (Sep.sel hS [0, 1] (by decide)), le_10, ho_15⟩)

set_option maxHeartbeats 4000000 in
set_option maxRecDepth 20000 in
theorem hocketref11_Most.calls (K : Nat) (x0 : Int) (x1 : Int) (r : Bool) (w0 w : World) (Z A : Mem) (hA : A.le Z) (hS : Sep w0 w [] Z)
    (H : hocketref11_Most.f K x0 x1 = some r) :
    Calls Try.prog 35 [iV x0, iV x1].toArray w (Ret fun v w' => ∃ (N : Mem), v = .bool r ∧ Sep w0 w' [N] Z) := by
 unfold hocketref11_Most.f at H
 refine f_enter _ Try.func35 rfl Try.ntmps35 rfl fun a h=>?_
 replace h : Fr 21 a [(0, iV x0), (1, iV x1)] := h
 replace hS := hS.start
 replace hS : Sep w0 w [_] Z := hS
 refine wp_seq <| wp_region_lit <| s_assign h rfl rfl fun a h=>wpList_nil <| x_then_n <| wp_seq <| wp_region_lit <| s_move h rfl rfl fun a h=>s_max h rfl rfl rfl fun a h=>s_min h rfl rfl rfl fun a h=>s_assign h rfl rfl fun a h=>wpList_nil <| x_then_n ?_
 refine c_seq fun KJ_1 hKJ_1 => wp_region_lit <| s_move h rfl rfl fun a h=>s_move h rfl rfl fun a h=>s_conv (wu64 (mn (mx x1 1) 7)) h rfl U3 U36 rfl rfl fun a h=>s_shift (r := shr .i64 x0 (wu64 (mn (mx x1 1) 7))) h rfl rfl rfl (wu64_nn _) (.inr ⟨rfl, rfl⟩) fun a h=>s_cmp (b := ((shr .i64 x0 (wu64 (mn (mx x1 1) 7))) == 0)) h rfl rfl rfl (.inl ⟨rfl, rfl⟩) fun a h=>s_move h rfl rfl fun a h=>?_
 by_cases hc_2 : (shr .i64 x0 (wu64 (mn (mx x1 1) 7))) = 0
 ·rw [if_pos hc_2] at H
  refine s_on h rfl rfl (beq_iff_eq.2 hc_2) <| s_move h rfl rfl fun a h=>s_on h rfl rfl (beq_iff_eq.2 hc_2) ?_
  obtain ⟨t_3, et_3, H⟩ := Option.bind_eq_some_iff.1 H
  refine s_call h rfl Try.call30 rfl (hocketref11_Members.calls K x0 t_3 w0 _ _ _ (Mem.le.refl _) (hS.enter [] (by decide))  et_3) ?_
  rintro v_7 w_4 ⟨_, N_5, M_9, rfl, hS', hr_8⟩
  intro a h
  obtain ⟨N_6, hS'', le_6, ln_6⟩ := hS.call [] (by decide) rfl (l' := []) (ow := [M_9]) rfl hS'
  replace hS : Sep w0 w_4 [N_6, M_9] Z := hS''
  clear hS' hS''
  refine s_on h rfl rfl (beq_iff_eq.2 hc_2) <| s_lenO h rfl U23 rfl hr_8 fun a h=>s_on h rfl rfl (beq_iff_eq.2 hc_2) <| s_arith (r := w64 (2 * (t_3.length : Int))) h rfl rfl rfl (.inr (.inr ⟨rfl, rfl⟩)) fun a h=>s_on h rfl rfl (beq_iff_eq.2 hc_2) <| s_move h rfl rfl fun a h=>s_on h rfl rfl (beq_iff_eq.2 hc_2) <| s_cmp (b := decide ((w64 (2 * (t_3.length : Int))) > (mn (mx x1 1) 7))) h rfl rfl rfl (.inr (.inr (.inr (.inr (.inl ⟨rfl, rfl⟩))))) fun a h=>s_pick_t h rfl rfl (beq_iff_eq.2 hc_2) rfl fun a h=>s_assign h rfl rfl fun a h=>wpList_nil <| x_then_n (hKJ_1 _ _ ?_)
  refine wp_ret ?_
  obtain rfl := Option.some.inj H
  exact f_ret h (rs := [.tmp 4]) rfl (.tmp rfl .nil) ⟨_, rfl, N_6, rfl, (Sep.sel hS [0] (by decide))⟩
 ·rw [if_neg hc_2] at H
  refine s_off h rfl rfl rfl (beq_eq_false_iff_ne.2 hc_2) fun a h=>s_off h rfl rfl rfl (beq_eq_false_iff_ne.2 hc_2) fun a h=>s_off h rfl rfl rfl (beq_eq_false_iff_ne.2 hc_2) fun a h=>s_off h rfl rfl rfl (beq_eq_false_iff_ne.2 hc_2) fun a h=>s_off h rfl rfl rfl (beq_eq_false_iff_ne.2 hc_2) fun a h=>s_off h rfl rfl rfl (beq_eq_false_iff_ne.2 hc_2) fun a h=>s_pick_f h rfl rfl (beq_eq_false_iff_ne.2 hc_2) rfl fun a h=>s_assign h rfl rfl fun a h=>wpList_nil <| x_then_n (hKJ_1 _ _ ?_)
  refine wp_ret ?_
  obtain rfl := Option.some.inj H
  exact f_ret h (rs := [.tmp 4]) rfl (.tmp rfl .nil) ⟨_, rfl, Mem.no, rfl, (Sep.sel hS [0] (by decide))⟩

set_option maxHeartbeats 4000000 in
set_option maxRecDepth 20000 in
theorem hocketref11_Choose.calls (K : Nat) (x0 : List api_Msg) (p0_0 : Value) (x1 : Int) (r : Int × Int × Int × Bool) (w0 w : World) (Z A : Mem) (hA : A.le Z) (hS : Sep w0 w [] Z) (hp0_0 : Rd k_api_Msg A p0_0 x0)
    (H : hocketref11_Choose.f K x0 x1 = some r) :
    Calls Try.prog 26 [p0_0, iV x1].toArray w (Ret fun v w' => ∃ (N : Mem), v = .tuple [iV r.1, iV r.2.1, iV r.2.2.1, .bool r.2.2.2].toArray ∧ Sep w0 w' [N] Z) := by
 unfold hocketref11_Choose.f at H
 refine f_enter _ Try.func26 rfl Try.ntmps26 rfl fun a h=>?_
 replace h : Fr 130 a [(0, p0_0), (1, iV x1)] := h
 replace hS := hS.start
 replace hS : Sep w0 w [_] Z := hS
 refine wp_seq <| wp_region_lit <| s_assign h rfl rfl fun a h=>s_assign h rfl rfl fun a h=>s_assign h rfl rfl fun a h=>s_assign h rfl rfl fun a h=>wpList_nil <| x_then_n <| wp_seq <| wp_region_lit <| s_move h rfl rfl fun a h=>s_max h rfl rfl rfl fun a h=>?_
 refine s_min h rfl rfl rfl fun a h=>s_assign h rfl rfl fun a h=>wpList_nil <| x_then_n <| wp_seq <| wp_region_lit <| s_assign h rfl rfl fun a h=>s_assign h rfl rfl fun a h=>wpList_nil <| x_then_n <| wp_seq <| wp_region_lit <| v_allocArr (nn := 7) (kd := k_api_Msg) (I := Mem.no) (zc := [(iV 0), (iV 0), (iV 0), (iV 0), (iV 0), (iV 0), (.bool false), (iV 0), (iV 0), (iV 0), (iV 0), (nS), (iV 0), (iV 0), (nS), (nS), (iV 0), (iV 0), (iV 0), (iV 0), (iV 0), (nS), (nS), (nS)]) (u := (⟨0, 0, 0, 0, 0, 0, false, 0, 0, 0, 0, ([] : List UInt8), 0, 0, ([] : List Int), ([] : List Int), 0, (⟨0, 0, (⟨0, 0, ([] : List UInt8), ([] : List UInt8), ([] : List UInt8)⟩ : api_Cmd)⟩ : api_Entry)⟩ : api_Msg)) h rfl ti60 rfl rfl (k_api_Msg.mk' (Rd.nil _ _) (Rd.nil _ _) (Rd.nil _ _) (Rd.nil _ _) (Rd.nil _ _) (Rd.nil _ _)) hS fun w_1 g_2 M_3 hS' ho_4 a h => ?_
 replace hS : Sep w0 w_1 [_, M_3] Z := hS'
 clear hS'
 refine wpList_nil ?_
 replace h : Fr 130 a [(0, _), (1, iV (mn (mx x1 1) 7)), (4, iV 0), (5, iV 0), (6, iV 0), (7, .bool false), (8, iV 0), (9, iV 0), (10, .pointer (some ⟨g_2, 0, none⟩))] := h.keep [0, 1, 4, 5, 6, 7, 8, 9, 10]
 refine x_then_n <| c_seq fun KJ_6 hKJ_6 => wp_seq <| wp_region_lit <| s_assign h rfl rfl fun a h=>wpList_nil <| x_then_n ?_
 have hJ_j_16 : ∀ (x_8 : Int), ∀ (x_9 : Int), ∀ (x_10 : List api_Msg), hocketref11_Choose.J1 K x1 x_8 x_9 x_10 = some r → ∀ (a : Act) (w_15 : World), (∃ (N_7 : Mem) (M_11 : Mem), Fr 130 a [(1, iV (mn (mx x1 1) 7)), (4, iV 0), (5, iV 0), (6, iV 0), (7, .bool false), (8, iV x_8), (9, iV x_9), (10, .pointer (some ⟨g_2, 0, none⟩))] ∧ Sep w0 w_15 [N_7, M_11] Z ∧ Mem.no.le N_7 ∧ Own k_api_Msg 60 M_11 (A.un N_7) (.slice (some ⟨g_2, 0, none⟩) 7 7) x_10) → KJ_6 a w_15 := by
  clear H h hS a
  rintro x_8 x_9 x_10 H a w_15 ⟨N_7, M_11, h, hS, le_7, ho_14⟩
  unfold hocketref11_Choose.J1 at H
  refine hKJ_6 _ _ <| wp_seq <| wp_region_lit <| s_assign h rfl rfl fun a h=>wpList_nil <| x_then_n <| c_seq fun KJ_17 hKJ_17 => wp_seq <| wp_region_lit <| s_assign h rfl rfl fun a h=>wpList_nil <| x_then_n ?_
  have hJ_j_21 : ∀ (x_19 : Int), hocketref11_Choose.J2 K x_10 x_8 x1 x_19 = some r → ∀ (a : Act) (w_20 : World), (∃ (N_18 : Mem), Fr 130 a [(1, iV (mn (mx x1 1) 7)), (4, iV 0), (5, iV 0), (6, iV 0), (7, .bool false), (8, iV x_8), (10, .pointer (some ⟨g_2, 0, none⟩)), (13, iV x_19)] ∧ Sep w0 w_20 [N_18, M_11] Z ∧ N_7.le N_18) → KJ_17 a w_20 := by
   clear H h hS a
   rintro x_19 H a w_20 ⟨N_18, h, hS, le_18⟩
   unfold hocketref11_Choose.J2 at H
   refine hKJ_17 _ _ <| c_seq fun KJ_22 hKJ_22 => c_seq fun KJ_23 hKJ_23 => ?_
   have hJ_j_27 : ∀ (x_25 : Bool), hocketref11_Choose.J3 K x_10 x_19 x_8 x_25 = some r → ∀ (a : Act) (w_26 : World), (∃ (N_24 : Mem), Fr 130 a [(4, iV 0), (5, iV 0), (6, iV 0), (7, .bool false), (8, iV x_8), (10, .pointer (some ⟨g_2, 0, none⟩)), (13, iV x_19), (123, .bool x_25)] ∧ Sep w0 w_26 [N_24, M_11] Z ∧ N_18.le N_24) → KJ_23 a w_26 := by
    clear H h hS a
    rintro x_25 H a w_26 ⟨N_24, h, hS, le_24⟩
    unfold hocketref11_Choose.J3 at H
    refine hKJ_23 _ _ ?_
    by_cases hc_28 : x_25 = true
    ·rw [if_pos hc_28] at H
     refine c_cond_t h rfl hc_28 <| wp_seq <| wp_region_lit <| s_assign h rfl rfl fun a h=>s_assign h rfl rfl fun a h=>s_assign h rfl rfl fun a h=>s_assign h rfl rfl fun a h=>wpList_nil ?_
     replace h : Fr 130 a [(4, _), (5, _), (6, _), (7, _), (8, _), (10, _), (13, _)] := h.keep [4, 5, 6, 7, 8, 10, 13]
     refine x_then_n <| wp_ret (x_then_r ?_)
     obtain rfl := Option.some.inj H
     exact f_ret h (rs := [.tmp 4, .tmp 5, .tmp 6, .tmp 7]) rfl (.tmp rfl (.tmp rfl (.tmp rfl (.tmp rfl .nil)))) ⟨_, rfl, N_24, rfl, (Sep.sel hS [0] (by decide))⟩
    ·rw [if_neg hc_28] at H
     refine c_cond_f h rfl (Bool.eq_false_iff.2 hc_28) <| wp_skip <| x_then_n (hKJ_22 _ _ ?_)
     refine c_seq fun KJ_29 hKJ_29 => h_begin (S := fun w => Sep w0 w [N_24, M_11] Z) 10 (by kernel_rfl) rfl (bA 10 0) (by kernel_rfl) hS fun w_30 hS => ?_
     replace hS : Sep w0 w_30 [_, _] Z := hS
     refine t_take 0 (bA 10 1) rfl rfl rfl rfl h (hS.sub .ii) (v := iV x_8) (fun w hS => r_move h rfl) fun a h=>t_take 1 (bA 10 3) rfl rfl rfl rfl h (hS.sub .ii) (v := iV x_19) (fun w hS => r_move h rfl) fun a h=>t_take 2 (bA 10 7) rfl rfl rfl rfl h (hS.sub .ii) (v := iV x_19) (fun w hS => r_move h rfl) fun a h=>?_
     obtain ⟨t_31, et_31, H⟩ := Option.bind_eq_some_iff.1 H
     refine t_takeE 3 (bA 10 15) rfl rfl rfl rfl h (hS.sub .ii) (f := fun ad => .pointer (some ad)) (r_indexArr h U60 ti29 rfl rfl rfl ho_14 et_31) ?_
     rintro ad_32 ⟨cs_33, hk_34, hc_35⟩
     obtain ⟨v_36, v_38, v_40, v_42, v_44, v_46, rfl, hr_37, hr_39, hr_41, hr_43, hr_45, hr_47⟩ := k_api_Msg.open' hk_34
     intro a h
     refine t_take 4 (bA 10 31) rfl rfl rfl rfl h (hS.sub .ii) (v := .pointer (some (ad_32.add 5))) (fun w hS => r_fieldAddr h U29 rfl ti3 rfl rfl rfl) fun a h=>t_take 5 (bA 10 63) rfl rfl rfl rfl h (hS.sub .ii) (v := iV t_31.Len) (fun w hS => r_load h rfl (el_one (o := 5) (fun j c h => Mem.cell_le (hS.own 1) (hc_35 j c h)) U3 rfl rfl)) fun a h=>t_take 6 (bA 10 127) rfl rfl rfl rfl h (hS.sub .ii) (v := iV x_8) (fun w hS => r_assign h rfl) fun a h=>t_take 7 (bA 10 255) rfl rfl rfl rfl h (hS.sub .ii) (v := iV x_19) (fun w hS => r_assign h rfl) fun a h=>t_take 8 (bA 10 511) rfl rfl rfl rfl h (hS.sub .ii) (v := iV t_31.Len) (fun w hS => r_assign h rfl) fun a h=>t_take 9 (bA 10 1023) rfl rfl rfl rfl h (hS.sub .ii) (v := .bool true) (fun w hS => r_assign h rfl) fun a h=>?_
     refine h_done (by kernel_rfl) ?_
     replace h : Fr 130 a [(4, iV x_8), (5, iV x_19), (6, iV t_31.Len), (7, .bool true)] := h.keep [4, 5, 6, 7]
     refine x_then_n (hKJ_29 _ _ ?_)
     refine wp_ret ?_
     obtain rfl := Option.some.inj H
     exact f_ret h (rs := [.tmp 4, .tmp 5, .tmp 6, .tmp 7]) rfl (.tmp rfl (.tmp rfl (.tmp rfl (.tmp rfl .nil)))) ⟨_, rfl, N_24, rfl, (Sep.sel hS [0] (by decide))⟩
   clear hKJ_23
   refine wp_region_lit <| s_move h rfl rfl fun a h=>s_cmp (b := decide (x_19 < 0)) h rfl rfl rfl (.inr (.inr (.inl ⟨rfl, rfl⟩))) fun a h=>s_move h rfl rfl fun a h=>?_
   by_cases hc_48 : x_19 < 0
   ·rw [if_pos hc_48] at H
    refine s_off h rfl rfl rfl (decide_eq_true hc_48) fun a h=>s_off h rfl rfl rfl (decide_eq_true hc_48) fun a h=>s_off h rfl rfl rfl (decide_eq_true hc_48) fun a h=>s_off h rfl rfl rfl (decide_eq_true hc_48) fun a h=>s_pick_t h rfl rfl (decide_eq_true hc_48) rfl fun a h=>wpList_nil ?_
    replace h : Fr 130 a [(4, _), (5, _), (6, _), (7, _), (8, _), (10, _), (13, _), (123, .bool true)] := h.keep [4, 5, 6, 7, 8, 10, 13, 123]
    replace hS : Sep w0 w_20 [_, _] Z := hS
    replace h : Fr 130 a [(4, _), (5, _), (6, _), (7, _), (8, _), (10, _), (13, _), (123, _)] := h.keep [4, 5, 6, 7, 8, 10, 13, 123]
    exact x_then_n (hJ_j_27 true H _ _ ⟨N_18, h, (Sep.sel hS [0, 1] (by decide)), (Mem.le.refl _)⟩)
   ·rw [if_neg hc_48] at H
    refine s_on h rfl rfl (decide_eq_false hc_48) <| s_move h rfl rfl fun a h=>s_on h rfl rfl (decide_eq_false hc_48) <| s_move h rfl rfl fun a h=>s_on h rfl rfl (decide_eq_false hc_48) ?_
    obtain ⟨t_49, et_49, H⟩ := Option.bind_eq_some_iff.1 H
    refine s_call h rfl Try.call35 rfl (hocketref11_Most.calls K x_8 (mn (mx x1 1) 7) t_49 w0 _ _ _ (Mem.le.refl _) (hS.enter [] (by decide))  et_49) ?_
    rintro _ w_50 ⟨N_51, rfl, hS'⟩
    intro a h
    obtain ⟨N_52, hS'', le_52, ln_52⟩ := hS.call [] (by decide) rfl (l' := []) (ow := []) rfl hS'
    replace hS : Sep w0 w_50 [N_52, _] Z := hS''
    clear hS' hS''
    refine s_on h rfl rfl (decide_eq_false hc_48) <| s_not h rfl rfl fun a h=>s_pick_f h rfl rfl (decide_eq_false hc_48) rfl fun a h=>wpList_nil ?_
    replace h : Fr 130 a [(4, _), (5, _), (6, _), (7, _), (8, _), (10, _), (13, _), (123, .bool (!t_49))] := h.keep [4, 5, 6, 7, 8, 10, 13, 123]
    replace hS : Sep w0 w_50 [_, _] Z := hS
    replace h : Fr 130 a [(4, _), (5, _), (6, _), (7, _), (8, _), (10, _), (13, _), (123, _)] := h.keep [4, 5, 6, 7, 8, 10, 13, 123]
    exact x_then_n (hJ_j_27 (!t_49) H _ _ ⟨N_52, h, (Sep.sel hS [0, 1] (by decide)), le_52⟩)
  clear hKJ_17
  replace hS : Sep w0 w_15 [_, _] Z := hS
  replace h : Fr 130 a [(1, _), (4, _), (5, _), (6, _), (7, _), (8, _), (9, _), (10, _), (13, iV (-1)), (14, iV 0)] := h.keep [1, 4, 5, 6, 7, 8, 9, 10, 13, 14]
  refine c_block <| c_loop (fun k_56 a w_56 => ∃ (x_54 : Int) (x_55 : Int) (N_53 : Mem), hocketref11_Choose.L1 K x1 x_8 x_10 x_9 (fun v => hocketref11_Choose.J2 K x_10 x_8 x1 v) k_56 (x_54, x_55) = some r ∧ Fr 130 a [(1, iV (mn (mx x1 1) 7)), (4, iV 0), (5, iV 0), (6, iV 0), (7, .bool false), (8, iV x_8), (9, iV x_9), (10, .pointer (some ⟨g_2, 0, none⟩)), (13, iV x_54), (14, iV x_55)] ∧ Sep w0 w_56 [N_53, M_11] Z ∧ N_7.le N_53) K ⟨(-1), 0, N_7, H, h, (Sep.sel hS [0, 1] (by decide)), (Mem.le.refl _)⟩ (fun a w h => by obtain ⟨_, _, _, H, _⟩ := h; cases (show (none : Option (Int × Int × Int × Bool)) = some r from H)) ?_
  clear h hS a H
  rintro k_56 a w_56 KL_56 hKL_56 ⟨x_54, x_55, N_53, H, h, hS, le_53⟩
  replace H : hocketref11_Choose.B1 K x1 x_8 x_10 x_9 (fun v => hocketref11_Choose.J2 K x_10 x_8 x1 v) (hocketref11_Choose.L1 K x1 x_8 x_10 x_9 (fun v => hocketref11_Choose.J2 K x_10 x_8 x1 v) k_56) x_54 x_55 = some r := H
  unfold hocketref11_Choose.B1 at H
  refine c_seq fun KJ_58 hKJ_58 => wp_seq <| wp_region_lit <| s_move h rfl rfl fun a h=>s_move h rfl rfl fun a h=>s_cmp (b := decide (x_55 < (mn (mx x1 1) 7))) h rfl rfl rfl (.inr (.inr (.inl ⟨rfl, rfl⟩))) fun a h=>wpList_nil ?_
  replace h : Fr 130 a [(1, _), (4, _), (5, _), (6, _), (7, _), (8, _), (9, _), (10, _), (13, _), (14, _), (77, .bool (decide (x_55 < (mn (mx x1 1) 7))))] := h.keep [1, 4, 5, 6, 7, 8, 9, 10, 13, 14, 77]
  refine x_then_n ?_
  by_cases hc_59 : x_55 < (mn (mx x1 1) 7)
  ·rw [if_pos hc_59] at H
   refine c_cond_t h rfl (decide_eq_true hc_59) <| wp_skip <| x_then_n (hKJ_58 _ _ ?_)
   refine c_seq fun KJ_60 hKJ_60 => c_block <| c_seq fun KJ_61 hKJ_61 => ?_
   have hJ_j_65 : ∀ (x_63 : Bool), hocketref11_Choose.J4 K (hocketref11_Choose.L1 K x1 x_8 x_10 x_9 (fun v => hocketref11_Choose.J2 K x_10 x_8 x1 v) k_56) x_55 x_54 x_63 = some r → ∀ (a : Act) (w_64 : World), (∃ (N_62 : Mem), Fr 130 a [(1, iV (mn (mx x1 1) 7)), (4, iV 0), (5, iV 0), (6, iV 0), (7, .bool false), (8, iV x_8), (9, iV x_9), (10, .pointer (some ⟨g_2, 0, none⟩)), (13, iV x_54), (14, iV x_55), (114, .bool x_63)] ∧ Sep w0 w_64 [N_62, M_11] Z ∧ N_53.le N_62) → KJ_61 a w_64 := by
    clear H h hS a
    rintro x_63 H a w_64 ⟨N_62, h, hS, le_62⟩
    unfold hocketref11_Choose.J4 at H
    refine hKJ_61 _ _ ?_
    by_cases hc_66 : x_63 = true
    ·rw [if_pos hc_66] at H
     refine c_cond_t h rfl hc_66 <| wp_region_lit <| s_move h rfl rfl fun a h=>s_assign h rfl rfl fun a h=>wpList_nil <| x_block_n <| x_then_n (hKJ_60 _ _ ?_)
     refine wp_region_lit <| s_move h rfl rfl fun a h=>s_arith (r := w64 (x_55 + 1)) h rfl rfl rfl (.inl ⟨rfl, rfl⟩) fun a h=>s_assign h rfl rfl fun a h=>wpList_nil <| x_then_n (hKL_56 _ _ ?_)
     replace hS : Sep w0 w_64 [_, _] Z := hS
     replace h : Fr 130 a [(1, _), (4, _), (5, _), (6, _), (7, _), (8, _), (9, _), (10, _), (13, iV x_55), (14, iV (w64 (x_55 + 1)))] := h.keep [1, 4, 5, 6, 7, 8, 9, 10, 13, 14]
     exact ⟨x_55, w64 (x_55 + 1), N_62, H, h, (Sep.sel hS [0, 1] (by decide)), (le_53.trans le_62)⟩
    ·rw [if_neg hc_66] at H
     refine c_cond_f h rfl (Bool.eq_false_iff.2 hc_66) <| wp_skip <| x_block_n <| x_then_n (hKJ_60 _ _ ?_)
     refine wp_region_lit <| s_move h rfl rfl fun a h=>s_arith (r := w64 (x_55 + 1)) h rfl rfl rfl (.inl ⟨rfl, rfl⟩) fun a h=>s_assign h rfl rfl fun a h=>wpList_nil <| x_then_n (hKL_56 _ _ ?_)
     replace hS : Sep w0 w_64 [_, _] Z := hS
     replace h : Fr 130 a [(1, _), (4, _), (5, _), (6, _), (7, _), (8, _), (9, _), (10, _), (13, _), (14, iV (w64 (x_55 + 1)))] := h.keep [1, 4, 5, 6, 7, 8, 9, 10, 13, 14]
     exact ⟨x_54, w64 (x_55 + 1), N_62, H, h, (Sep.sel hS [0, 1] (by decide)), (le_53.trans le_62)⟩
   clear hKJ_61
   refine h_begin (S := fun w => Sep w0 w [N_53, M_11] Z) 35 (by kernel_rfl) rfl (bA 35 0) (by kernel_rfl) hS fun w_67 hS => ?_
   replace hS : Sep w0 w_67 [_, _] Z := hS
   refine t_take 0 (bA 35 1) rfl rfl rfl rfl h (hS.sub .ii) (v := iV x_8) (fun w hS => r_move h rfl) fun a h=>t_take 1 (bA 35 3) rfl rfl rfl rfl h (hS.sub .ii) (v := iV x_55) (fun w hS => r_move h rfl) fun a h=>t_take 2 (bA 35 7) rfl rfl rfl rfl h (hS.sub .ii) (v := .int .u64 (wu64 x_55)) (fun w hS => r_conv (wu64 x_55) h U3 U36 rfl rfl) fun a h=>t_take 3 (bA 35 15) rfl rfl rfl rfl h (hS.sub .ii) (v := iV (shr .i64 x_8 (wu64 x_55))) (fun w hS => r_shift (r := shr .i64 x_8 (wu64 x_55)) h rfl rfl (wu64_nn _) (.inr ⟨rfl, rfl⟩)) fun a h=>t_take 4 (bA 35 31) rfl rfl rfl rfl h (hS.sub .ii) (v := iV (band .i64 (shr .i64 x_8 (wu64 x_55)) 1)) (fun w hS => r_bits (i := shr .i64 x_8 (wu64 x_55)) (j := 1) (r := band .i64 (shr .i64 x_8 (wu64 x_55)) 1) h rfl rfl (.inl ⟨rfl, rfl⟩)) fun a h=>t_take 5 (bA 35 63) rfl rfl rfl rfl h (hS.sub .ii) (v := .bool ((band .i64 (shr .i64 x_8 (wu64 x_55)) 1) == 1)) (fun w hS => r_cmp (b := ((band .i64 (shr .i64 x_8 (wu64 x_55)) 1) == 1)) h rfl rfl (.inl ⟨rfl, rfl⟩)) fun a h=>?_
   refine t_take 6 (bA 35 127) rfl rfl rfl rfl h (hS.sub .ii) (v := .bool ((band .i64 (shr .i64 x_8 (wu64 x_55)) 1) == 1)) (fun w hS => r_move h rfl) fun a h=>?_
   by_cases hc_68 : (band .i64 (shr .i64 x_8 (wu64 x_55)) 1) = 1
   ·rw [if_pos hc_68] at H
    refine t_take_on 7 (bA 35 255) rfl rfl rfl rfl (beq_iff_eq.2 hc_68) rfl rfl h (hS.sub .ii) (v := iV x_55) (fun w hS => r_move h rfl) fun a h=>?_
    obtain ⟨t_69, et_69, H⟩ := Option.bind_eq_some_iff.1 H
    refine t_takeE_on 8 (bA 35 511) rfl rfl rfl rfl (beq_iff_eq.2 hc_68) rfl rfl h (hS.sub .ii) (f := fun ad => .pointer (some ad)) (r_indexArr h U60 ti29 rfl rfl rfl ho_14 et_69) ?_
    rintro ad_70 ⟨cs_71, hk_72, hc_73⟩
    obtain ⟨v_74, v_76, v_78, v_80, v_82, v_84, rfl, hr_75, hr_77, hr_79, hr_81, hr_83, hr_85⟩ := k_api_Msg.open' hk_72
    intro a h
    refine t_take_on 9 (bA 35 1023) rfl rfl rfl rfl (beq_iff_eq.2 hc_68) rfl rfl h (hS.sub .ii) (v := .pointer (some (ad_70.add 6))) (fun w hS => r_fieldAddr h U29 rfl ti4 rfl rfl rfl) fun a h=>t_take_on 10 (bA 35 2047) rfl rfl rfl rfl (beq_iff_eq.2 hc_68) rfl rfl h (hS.sub .ii) (v := .bool t_69.Has) (fun w hS => r_load h rfl (el_one (o := 6) (fun j c h => Mem.cell_le (hS.own 1) (hc_73 j c h)) U4 rfl rfl)) fun a h=>t_take 11 (bA 35 4095) rfl rfl rfl rfl h (hS.sub .ii) (v := .bool t_69.Has) (fun w hS => r_pick_t h rfl (beq_iff_eq.2 hc_68) rfl) fun a h=>t_take 12 (bA 35 8191) rfl rfl rfl rfl h (hS.sub .ii) (v := .bool t_69.Has) (fun w hS => r_move h rfl) fun a h=>?_
    by_cases hc_86 : t_69.Has = true
    ·rw [if_pos hc_86] at H
     refine t_take_on 13 (bA 35 16383) rfl rfl rfl rfl hc_86 rfl rfl h (hS.sub .ii) (v := iV x_55) (fun w hS => r_move h rfl) fun a h=>?_
     obtain ⟨t_87, et_87, H⟩ := Option.bind_eq_some_iff.1 H
     refine t_takeE_on 14 (bA 35 32767) rfl rfl rfl rfl hc_86 rfl rfl h (hS.sub .ii) (f := fun ad => .pointer (some ad)) (r_indexArr h U60 ti29 rfl rfl rfl ho_14 et_87) ?_
     rintro ad_88 ⟨cs_89, hk_90, hc_91⟩
     obtain ⟨v_92, v_94, v_96, v_98, v_100, v_102, rfl, hr_93, hr_95, hr_97, hr_99, hr_101, hr_103⟩ := k_api_Msg.open' hk_90
     intro a h
     refine t_take_on 15 (bA 35 65535) rfl rfl rfl rfl hc_86 rfl rfl h (hS.sub .ii) (v := .pointer (some (ad_88.add 4))) (fun w hS => r_fieldAddr h U29 rfl ti3 rfl rfl rfl) fun a h=>t_take_on 16 (bA 35 131071) rfl rfl rfl rfl hc_86 rfl rfl h (hS.sub .ii) (v := iV t_87.Inst) (fun w hS => r_load h rfl (el_one (o := 4) (fun j c h => Mem.cell_le (hS.own 1) (hc_91 j c h)) U3 rfl rfl)) fun a h=>t_take_on 17 (bA 35 262143) rfl rfl rfl rfl hc_86 rfl rfl h (hS.sub .ii) (v := iV x_9) (fun w hS => r_move h rfl) fun a h=>t_take_on 18 (bA 35 524287) rfl rfl rfl rfl hc_86 rfl rfl h (hS.sub .ii) (v := .bool (t_87.Inst == x_9)) (fun w hS => r_cmp (b := (t_87.Inst == x_9)) h rfl rfl (.inl ⟨rfl, rfl⟩)) fun a h=>t_take 19 (bA 35 1048575) rfl rfl rfl rfl h (hS.sub .ii) (v := .bool (t_87.Inst == x_9)) (fun w hS => r_pick_t h rfl hc_86 rfl) fun a h=>t_take 20 (bA 35 2097151) rfl rfl rfl rfl h (hS.sub .ii) (v := .bool (t_87.Inst == x_9)) (fun w hS => r_move h rfl) fun a h=>?_
     by_cases hc_104 : t_87.Inst = x_9
     ·rw [if_pos hc_104] at H
      refine t_take_on 21 (bA 35 4194303) rfl rfl rfl rfl (beq_iff_eq.2 hc_104) rfl rfl h (hS.sub .ii) (v := iV x_54) (fun w hS => r_move h rfl) fun a h=>t_take_on 22 (bA 35 8388607) rfl rfl rfl rfl (beq_iff_eq.2 hc_104) rfl rfl h (hS.sub .ii) (v := .bool (decide (x_54 < 0))) (fun w hS => r_cmp (b := decide (x_54 < 0)) h rfl rfl (.inr (.inr (.inl ⟨rfl, rfl⟩)))) fun a h=>t_take_on 23 (bA 35 16777215) rfl rfl rfl rfl (beq_iff_eq.2 hc_104) rfl rfl h (hS.sub .ii) (v := .bool (decide (x_54 < 0))) (fun w hS => r_move h rfl) fun a h=>?_
      by_cases hc_105 : x_54 < 0
      ·rw [if_pos hc_105] at H
       refine t_take_off 24 (bA 35 33554431) rfl rfl rfl rfl (.inl (congrArg Value.bool (decide_eq_true hc_105))) rfl rfl h (hS.sub .ii) fun a h=>t_take_off 25 (bA 35 67108863) rfl rfl rfl rfl (.inl (congrArg Value.bool (decide_eq_true hc_105))) rfl rfl h (hS.sub .ii) fun a h=>t_take_off 26 (bA 35 134217727) rfl rfl rfl rfl (.inl (congrArg Value.bool (decide_eq_true hc_105))) rfl rfl h (hS.sub .ii) fun a h=>t_take_off 27 (bA 35 268435455) rfl rfl rfl rfl (.inl (congrArg Value.bool (decide_eq_true hc_105))) rfl rfl h (hS.sub .ii) fun a h=>t_take_off 28 (bA 35 536870911) rfl rfl rfl rfl (.inl (congrArg Value.bool (decide_eq_true hc_105))) rfl rfl h (hS.sub .ii) fun a h=>t_take_off 29 (bA 35 1073741823) rfl rfl rfl rfl (.inl (congrArg Value.bool (decide_eq_true hc_105))) rfl rfl h (hS.sub .ii) fun a h=>t_take_off 30 (bA 35 2147483647) rfl rfl rfl rfl (.inl (congrArg Value.bool (decide_eq_true hc_105))) rfl rfl h (hS.sub .ii) fun a h=>t_take_off 31 (bA 35 4294967295) rfl rfl rfl rfl (.inl (congrArg Value.bool (decide_eq_true hc_105))) rfl rfl h (hS.sub .ii) fun a h=>t_take_off 32 (bA 35 8589934591) rfl rfl rfl rfl (.inl (congrArg Value.bool (decide_eq_true hc_105))) rfl rfl h (hS.sub .ii) fun a h=>?_
       refine t_take_on 33 (bA 35 17179869183) rfl rfl rfl rfl (beq_iff_eq.2 hc_104) rfl rfl h (hS.sub .ii) (v := .bool true) (fun w hS => r_pick_t h rfl (decide_eq_true hc_105) rfl) fun a h=>t_take 34 (bA 35 34359738367) rfl rfl rfl rfl h (hS.sub .ii) (v := .bool true) (fun w hS => r_pick_t h rfl (beq_iff_eq.2 hc_104) rfl) fun a h=>h_done (by kernel_rfl) ?_
       replace hS : Sep w0 w_67 [_, _] Z := hS
       replace h : Fr 130 a [(1, _), (4, _), (5, _), (6, _), (7, _), (8, _), (9, _), (10, _), (13, _), (14, _), (114, .bool true)] := h.keep [1, 4, 5, 6, 7, 8, 9, 10, 13, 14, 114]
       exact x_then_n (hJ_j_65 true H _ _ ⟨N_53, h, (Sep.sel hS [0, 1] (by decide)), (Mem.le.refl _)⟩)
      ·rw [if_neg hc_105] at H
       refine t_take_on 24 (bA 35 33554431) rfl rfl rfl rfl (decide_eq_false hc_105) rfl rfl h (hS.sub .ii) (v := iV x_55) (fun w hS => r_move h rfl) fun a h=>?_
       obtain ⟨t_106, et_106, H⟩ := Option.bind_eq_some_iff.1 H
       refine t_takeE_on 25 (bA 35 67108863) rfl rfl rfl rfl (decide_eq_false hc_105) rfl rfl h (hS.sub .ii) (f := fun ad => .pointer (some ad)) (r_indexArr h U60 ti29 rfl rfl rfl ho_14 et_106) ?_
       rintro ad_107 ⟨cs_108, hk_109, hc_110⟩
       obtain ⟨v_111, v_113, v_115, v_117, v_119, v_121, rfl, hr_112, hr_114, hr_116, hr_118, hr_120, hr_122⟩ := k_api_Msg.open' hk_109
       intro a h
       refine t_take_on 26 (bA 35 134217727) rfl rfl rfl rfl (decide_eq_false hc_105) rfl rfl h (hS.sub .ii) (v := .pointer (some (ad_107.add 5))) (fun w hS => r_fieldAddr h U29 rfl ti3 rfl rfl rfl) fun a h=>t_take_on 27 (bA 35 268435455) rfl rfl rfl rfl (decide_eq_false hc_105) rfl rfl h (hS.sub .ii) (v := iV t_106.Len) (fun w hS => r_load h rfl (el_one (o := 5) (fun j c h => Mem.cell_le (hS.own 1) (hc_110 j c h)) U3 rfl rfl)) fun a h=>t_take_on 28 (bA 35 536870911) rfl rfl rfl rfl (decide_eq_false hc_105) rfl rfl h (hS.sub .ii) (v := iV x_54) (fun w hS => r_move h rfl) fun a h=>?_
       obtain ⟨t_123, et_123, H⟩ := Option.bind_eq_some_iff.1 H
       refine t_takeE_on 29 (bA 35 1073741823) rfl rfl rfl rfl (decide_eq_false hc_105) rfl rfl h (hS.sub .ii) (f := fun ad => .pointer (some ad)) (r_indexArr h U60 ti29 rfl rfl rfl ho_14 et_123) ?_
       rintro ad_124 ⟨cs_125, hk_126, hc_127⟩
       obtain ⟨v_128, v_130, v_132, v_134, v_136, v_138, rfl, hr_129, hr_131, hr_133, hr_135, hr_137, hr_139⟩ := k_api_Msg.open' hk_126
       intro a h
       refine t_take_on 30 (bA 35 2147483647) rfl rfl rfl rfl (decide_eq_false hc_105) rfl rfl h (hS.sub .ii) (v := .pointer (some (ad_124.add 5))) (fun w hS => r_fieldAddr h U29 rfl ti3 rfl rfl rfl) fun a h=>t_take_on 31 (bA 35 4294967295) rfl rfl rfl rfl (decide_eq_false hc_105) rfl rfl h (hS.sub .ii) (v := iV t_123.Len) (fun w hS => r_load h rfl (el_one (o := 5) (fun j c h => Mem.cell_le (hS.own 1) (hc_127 j c h)) U3 rfl rfl)) fun a h=>t_take_on 32 (bA 35 8589934591) rfl rfl rfl rfl (decide_eq_false hc_105) rfl rfl h (hS.sub .ii) (v := .bool (decide (t_106.Len > t_123.Len))) (fun w hS => r_cmp (b := decide (t_106.Len > t_123.Len)) h rfl rfl (.inr (.inr (.inr (.inr (.inl ⟨rfl, rfl⟩)))))) fun a h=>t_take_on 33 (bA 35 17179869183) rfl rfl rfl rfl (beq_iff_eq.2 hc_104) rfl rfl h (hS.sub .ii) (v := .bool (decide (t_106.Len > t_123.Len))) (fun w hS => r_pick_f h rfl (decide_eq_false hc_105) rfl) fun a h=>t_take 34 (bA 35 34359738367) rfl rfl rfl rfl h (hS.sub .ii) (v := .bool (decide (t_106.Len > t_123.Len))) (fun w hS => r_pick_t h rfl (beq_iff_eq.2 hc_104) rfl) fun a h=>h_done (by kernel_rfl) ?_
       replace hS : Sep w0 w_67 [_, _] Z := hS
       replace h : Fr 130 a [(1, _), (4, _), (5, _), (6, _), (7, _), (8, _), (9, _), (10, _), (13, _), (14, _), (114, .bool (decide (t_106.Len > t_123.Len)))] := h.keep [1, 4, 5, 6, 7, 8, 9, 10, 13, 14, 114]
       exact x_then_n (hJ_j_65 (decide (t_106.Len > t_123.Len)) H _ _ ⟨N_53, h, (Sep.sel hS [0, 1] (by decide)), (Mem.le.refl _)⟩)
     ·rw [if_neg hc_104] at H
      refine t_take_off 21 (bA 35 4194303) rfl rfl rfl rfl (.inl (congrArg Value.bool (beq_eq_false_iff_ne.2 hc_104))) rfl rfl h (hS.sub .ii) fun a h=>t_take_off 22 (bA 35 8388607) rfl rfl rfl rfl (.inl (congrArg Value.bool (beq_eq_false_iff_ne.2 hc_104))) rfl rfl h (hS.sub .ii) fun a h=>t_take_off 23 (bA 35 16777215) rfl rfl rfl rfl (.inl (congrArg Value.bool (beq_eq_false_iff_ne.2 hc_104))) rfl rfl h (hS.sub .ii) fun a h=>t_take_off 24 (bA 35 33554431) rfl rfl rfl rfl (.inr rfl) rfl rfl h (hS.sub .ii) fun a h=>t_take_off 25 (bA 35 67108863) rfl rfl rfl rfl (.inr rfl) rfl rfl h (hS.sub .ii) fun a h=>t_take_off 26 (bA 35 134217727) rfl rfl rfl rfl (.inr rfl) rfl rfl h (hS.sub .ii) fun a h=>t_take_off 27 (bA 35 268435455) rfl rfl rfl rfl (.inr rfl) rfl rfl h (hS.sub .ii) fun a h=>t_take_off 28 (bA 35 536870911) rfl rfl rfl rfl (.inr rfl) rfl rfl h (hS.sub .ii) fun a h=>t_take_off 29 (bA 35 1073741823) rfl rfl rfl rfl (.inr rfl) rfl rfl h (hS.sub .ii) fun a h=>t_take_off 30 (bA 35 2147483647) rfl rfl rfl rfl (.inr rfl) rfl rfl h (hS.sub .ii) fun a h=>t_take_off 31 (bA 35 4294967295) rfl rfl rfl rfl (.inr rfl) rfl rfl h (hS.sub .ii) fun a h=>?_
      refine t_take_off 32 (bA 35 8589934591) rfl rfl rfl rfl (.inr rfl) rfl rfl h (hS.sub .ii) fun a h=>t_take_off 33 (bA 35 17179869183) rfl rfl rfl rfl (.inl (congrArg Value.bool (beq_eq_false_iff_ne.2 hc_104))) rfl rfl h (hS.sub .ii) fun a h=>t_take 34 (bA 35 34359738367) rfl rfl rfl rfl h (hS.sub .ii) (v := .bool false) (fun w hS => r_pick_f h rfl (beq_eq_false_iff_ne.2 hc_104) rfl) fun a h=>h_done (by kernel_rfl) ?_
      replace hS : Sep w0 w_67 [_, _] Z := hS
      replace h : Fr 130 a [(1, _), (4, _), (5, _), (6, _), (7, _), (8, _), (9, _), (10, _), (13, _), (14, _), (114, .bool false)] := h.keep [1, 4, 5, 6, 7, 8, 9, 10, 13, 14, 114]
      exact x_then_n (hJ_j_65 false H _ _ ⟨N_53, h, (Sep.sel hS [0, 1] (by decide)), (Mem.le.refl _)⟩)
    ·rw [if_neg hc_86] at H
     refine t_take_off 13 (bA 35 16383) rfl rfl rfl rfl (.inl (congrArg Value.bool (Bool.eq_false_iff.2 hc_86))) rfl rfl h (hS.sub .ii) fun a h=>t_take_off 14 (bA 35 32767) rfl rfl rfl rfl (.inl (congrArg Value.bool (Bool.eq_false_iff.2 hc_86))) rfl rfl h (hS.sub .ii) fun a h=>t_take_off 15 (bA 35 65535) rfl rfl rfl rfl (.inl (congrArg Value.bool (Bool.eq_false_iff.2 hc_86))) rfl rfl h (hS.sub .ii) fun a h=>t_take_off 16 (bA 35 131071) rfl rfl rfl rfl (.inl (congrArg Value.bool (Bool.eq_false_iff.2 hc_86))) rfl rfl h (hS.sub .ii) fun a h=>t_take_off 17 (bA 35 262143) rfl rfl rfl rfl (.inl (congrArg Value.bool (Bool.eq_false_iff.2 hc_86))) rfl rfl h (hS.sub .ii) fun a h=>t_take_off 18 (bA 35 524287) rfl rfl rfl rfl (.inl (congrArg Value.bool (Bool.eq_false_iff.2 hc_86))) rfl rfl h (hS.sub .ii) fun a h=>t_take 19 (bA 35 1048575) rfl rfl rfl rfl h (hS.sub .ii) (v := .bool false) (fun w hS => r_pick_f h rfl (Bool.eq_false_iff.2 hc_86) rfl) fun a h=>t_take 20 (bA 35 2097151) rfl rfl rfl rfl h (hS.sub .ii) (v := .bool false) (fun w hS => r_move h rfl) fun a h=>t_take_off 21 (bA 35 4194303) rfl rfl rfl rfl (.inl (congrArg Value.bool rfl)) rfl rfl h (hS.sub .ii) fun a h=>?_
     refine t_take_off 22 (bA 35 8388607) rfl rfl rfl rfl (.inl (congrArg Value.bool rfl)) rfl rfl h (hS.sub .ii) fun a h=>t_take_off 23 (bA 35 16777215) rfl rfl rfl rfl (.inl (congrArg Value.bool rfl)) rfl rfl h (hS.sub .ii) fun a h=>t_take_off 24 (bA 35 33554431) rfl rfl rfl rfl (.inr rfl) rfl rfl h (hS.sub .ii) fun a h=>t_take_off 25 (bA 35 67108863) rfl rfl rfl rfl (.inr rfl) rfl rfl h (hS.sub .ii) fun a h=>t_take_off 26 (bA 35 134217727) rfl rfl rfl rfl (.inr rfl) rfl rfl h (hS.sub .ii) fun a h=>t_take_off 27 (bA 35 268435455) rfl rfl rfl rfl (.inr rfl) rfl rfl h (hS.sub .ii) fun a h=>t_take_off 28 (bA 35 536870911) rfl rfl rfl rfl (.inr rfl) rfl rfl h (hS.sub .ii) fun a h=>t_take_off 29 (bA 35 1073741823) rfl rfl rfl rfl (.inr rfl) rfl rfl h (hS.sub .ii) fun a h=>t_take_off 30 (bA 35 2147483647) rfl rfl rfl rfl (.inr rfl) rfl rfl h (hS.sub .ii) fun a h=>t_take_off 31 (bA 35 4294967295) rfl rfl rfl rfl (.inr rfl) rfl rfl h (hS.sub .ii) fun a h=>t_take_off 32 (bA 35 8589934591) rfl rfl rfl rfl (.inr rfl) rfl rfl h (hS.sub .ii) fun a h=>t_take_off 33 (bA 35 17179869183) rfl rfl rfl rfl (.inl (congrArg Value.bool rfl)) rfl rfl h (hS.sub .ii) fun a h=>?_
     refine t_take 34 (bA 35 34359738367) rfl rfl rfl rfl h (hS.sub .ii) (v := .bool false) (fun w hS => r_pick_f h rfl rfl rfl) fun a h=>h_done (by kernel_rfl) ?_
     replace hS : Sep w0 w_67 [_, _] Z := hS
     replace h : Fr 130 a [(1, _), (4, _), (5, _), (6, _), (7, _), (8, _), (9, _), (10, _), (13, _), (14, _), (114, .bool false)] := h.keep [1, 4, 5, 6, 7, 8, 9, 10, 13, 14, 114]
     exact x_then_n (hJ_j_65 false H _ _ ⟨N_53, h, (Sep.sel hS [0, 1] (by decide)), (Mem.le.refl _)⟩)
   ·rw [if_neg hc_68] at H
    refine t_take_off 7 (bA 35 255) rfl rfl rfl rfl (.inl (congrArg Value.bool (beq_eq_false_iff_ne.2 hc_68))) rfl rfl h (hS.sub .ii) fun a h=>t_take_off 8 (bA 35 511) rfl rfl rfl rfl (.inl (congrArg Value.bool (beq_eq_false_iff_ne.2 hc_68))) rfl rfl h (hS.sub .ii) fun a h=>t_take_off 9 (bA 35 1023) rfl rfl rfl rfl (.inl (congrArg Value.bool (beq_eq_false_iff_ne.2 hc_68))) rfl rfl h (hS.sub .ii) fun a h=>t_take_off 10 (bA 35 2047) rfl rfl rfl rfl (.inl (congrArg Value.bool (beq_eq_false_iff_ne.2 hc_68))) rfl rfl h (hS.sub .ii) fun a h=>t_take 11 (bA 35 4095) rfl rfl rfl rfl h (hS.sub .ii) (v := .bool false) (fun w hS => r_pick_f h rfl (beq_eq_false_iff_ne.2 hc_68) rfl) fun a h=>t_take 12 (bA 35 8191) rfl rfl rfl rfl h (hS.sub .ii) (v := .bool false) (fun w hS => r_move h rfl) fun a h=>t_take_off 13 (bA 35 16383) rfl rfl rfl rfl (.inl (congrArg Value.bool rfl)) rfl rfl h (hS.sub .ii) fun a h=>t_take_off 14 (bA 35 32767) rfl rfl rfl rfl (.inl (congrArg Value.bool rfl)) rfl rfl h (hS.sub .ii) fun a h=>t_take_off 15 (bA 35 65535) rfl rfl rfl rfl (.inl (congrArg Value.bool rfl)) rfl rfl h (hS.sub .ii) fun a h=>t_take_off 16 (bA 35 131071) rfl rfl rfl rfl (.inl (congrArg Value.bool rfl)) rfl rfl h (hS.sub .ii) fun a h=>?_
    refine t_take_off 17 (bA 35 262143) rfl rfl rfl rfl (.inl (congrArg Value.bool rfl)) rfl rfl h (hS.sub .ii) fun a h=>t_take_off 18 (bA 35 524287) rfl rfl rfl rfl (.inl (congrArg Value.bool rfl)) rfl rfl h (hS.sub .ii) fun a h=>t_take 19 (bA 35 1048575) rfl rfl rfl rfl h (hS.sub .ii) (v := .bool false) (fun w hS => r_pick_f h rfl rfl rfl) fun a h=>t_take 20 (bA 35 2097151) rfl rfl rfl rfl h (hS.sub .ii) (v := .bool false) (fun w hS => r_move h rfl) fun a h=>t_take_off 21 (bA 35 4194303) rfl rfl rfl rfl (.inl (congrArg Value.bool rfl)) rfl rfl h (hS.sub .ii) fun a h=>t_take_off 22 (bA 35 8388607) rfl rfl rfl rfl (.inl (congrArg Value.bool rfl)) rfl rfl h (hS.sub .ii) fun a h=>t_take_off 23 (bA 35 16777215) rfl rfl rfl rfl (.inl (congrArg Value.bool rfl)) rfl rfl h (hS.sub .ii) fun a h=>t_take_off 24 (bA 35 33554431) rfl rfl rfl rfl (.inr rfl) rfl rfl h (hS.sub .ii) fun a h=>t_take_off 25 (bA 35 67108863) rfl rfl rfl rfl (.inr rfl) rfl rfl h (hS.sub .ii) fun a h=>t_take_off 26 (bA 35 134217727) rfl rfl rfl rfl (.inr rfl) rfl rfl h (hS.sub .ii) fun a h=>?_
    refine t_take_off 27 (bA 35 268435455) rfl rfl rfl rfl (.inr rfl) rfl rfl h (hS.sub .ii) fun a h=>t_take_off 28 (bA 35 536870911) rfl rfl rfl rfl (.inr rfl) rfl rfl h (hS.sub .ii) fun a h=>t_take_off 29 (bA 35 1073741823) rfl rfl rfl rfl (.inr rfl) rfl rfl h (hS.sub .ii) fun a h=>t_take_off 30 (bA 35 2147483647) rfl rfl rfl rfl (.inr rfl) rfl rfl h (hS.sub .ii) fun a h=>t_take_off 31 (bA 35 4294967295) rfl rfl rfl rfl (.inr rfl) rfl rfl h (hS.sub .ii) fun a h=>t_take_off 32 (bA 35 8589934591) rfl rfl rfl rfl (.inr rfl) rfl rfl h (hS.sub .ii) fun a h=>t_take_off 33 (bA 35 17179869183) rfl rfl rfl rfl (.inl (congrArg Value.bool rfl)) rfl rfl h (hS.sub .ii) fun a h=>t_take 34 (bA 35 34359738367) rfl rfl rfl rfl h (hS.sub .ii) (v := .bool false) (fun w hS => r_pick_f h rfl rfl rfl) fun a h=>h_done (by kernel_rfl) ?_
    replace hS : Sep w0 w_67 [_, _] Z := hS
    replace h : Fr 130 a [(1, _), (4, _), (5, _), (6, _), (7, _), (8, _), (9, _), (10, _), (13, _), (14, _), (114, .bool false)] := h.keep [1, 4, 5, 6, 7, 8, 9, 10, 13, 14, 114]
    exact x_then_n (hJ_j_65 false H _ _ ⟨N_53, h, (Sep.sel hS [0, 1] (by decide)), (Mem.le.refl _)⟩)
  ·rw [if_neg hc_59] at H
   refine c_cond_f h rfl (decide_eq_false hc_59) <| wp_exit (x_then_x (x_then_x (x_block_t ?_)))
   replace hS : Sep w0 w_56 [_, _] Z := hS
   replace h : Fr 130 a [(1, _), (4, _), (5, _), (6, _), (7, _), (8, _), (10, _), (13, _)] := h.keep [1, 4, 5, 6, 7, 8, 10, 13]
   exact x_then_n (hJ_j_21 x_54 H _ _ ⟨N_53, h, (Sep.sel hS [0, 1] (by decide)), le_53⟩)
 clear hKJ_6
 replace hS : Sep w0 w_1 [_, _] Z := hS
 replace h : Fr 130 a [(0, _), (1, _), (4, _), (5, _), (6, _), (7, _), (8, _), (9, _), (10, _), (11, iV 0)] := h.keep [0, 1, 4, 5, 6, 7, 8, 9, 10, 11]
 refine c_block <| c_loop (fun k_149 a w_149 => ∃ (x_141 : Int) (x_142 : Int) (x_143 : List api_Msg) (x_148 : Int) (N_140 : Mem) (M_144 : Mem), hocketref11_Choose.L2 K x0 x1 (fun v => hocketref11_Choose.J1 K x1 v.1 v.2.1 v.2.2) k_149 (x_141, x_142, x_143, x_148) = some r ∧ Fr 130 a [(0, p0_0), (1, iV (mn (mx x1 1) 7)), (4, iV 0), (5, iV 0), (6, iV 0), (7, .bool false), (8, iV x_141), (9, iV x_142), (10, .pointer (some ⟨g_2, 0, none⟩)), (11, iV x_148)] ∧ Sep w0 w_149 [N_140, M_144] Z ∧ Mem.no.le N_140 ∧ Own k_api_Msg 60 M_144 (A.un N_140) (.slice (some ⟨g_2, 0, none⟩) 7 7) x_143) K ⟨0, 0, (List.replicate 7 (⟨0, 0, 0, 0, 0, 0, false, 0, 0, 0, 0, ([] : List UInt8), 0, 0, ([] : List Int), ([] : List Int), 0, (⟨0, 0, (⟨0, 0, ([] : List UInt8), ([] : List UInt8), ([] : List UInt8)⟩ : api_Cmd)⟩ : api_Entry)⟩ : api_Msg)), 0, Mem.no, M_3, H, h, (Sep.sel hS [0, 1] (by decide)), (Mem.le.refl _), (ho_4.mono ((Mem.le.refl _).trans (hS.sndA hA)))⟩ (fun a w h => by obtain ⟨_, _, _, _, _, _, H, _⟩ := h; cases (show (none : Option (Int × Int × Int × Bool)) = some r from H)) ?_
 clear h hS a H
 rintro k_149 a w_149 KL_149 hKL_149 ⟨x_141, x_142, x_143, x_148, N_140, M_144, H, h, hS, le_140, ho_147⟩
 replace H : hocketref11_Choose.B2 K x0 x1 (fun v => hocketref11_Choose.J1 K x1 v.1 v.2.1 v.2.2) (hocketref11_Choose.L2 K x0 x1 (fun v => hocketref11_Choose.J1 K x1 v.1 v.2.1 v.2.2) k_149) x_141 x_142 x_143 x_148 = some r := H
 unfold hocketref11_Choose.B2 at H
 refine c_seq fun KJ_151 hKJ_151 => wp_seq <| wp_region_lit <| s_move h rfl rfl fun a h=>s_move h rfl rfl fun a h=>s_len h rfl U30 rfl hp0_0 fun a h=>s_cmp (b := decide (x_148 < (x0.length : Int))) h rfl rfl rfl (.inr (.inr (.inl ⟨rfl, rfl⟩))) fun a h=>wpList_nil <| x_then_n ?_
 by_cases hc_152 : x_148 < (x0.length : Int)
 ·rw [if_pos hc_152] at H
  refine c_cond_t h rfl (decide_eq_true hc_152) <| wp_skip <| x_then_n (hKJ_151 _ _ ?_)
  refine wp_seq <| c_block <| wp_seq <| wp_region_lit <| s_move h rfl rfl fun a h=>s_move h rfl rfl fun a h=>?_
  obtain ⟨t_153, et_153, H⟩ := Option.bind_eq_some_iff.1 H
  refine v_index h rfl U30 ti29 rfl rfl rfl hp0_0 (hA.trans hS.old) et_153 fun ad_154 cs_155 hk_156 hc_157 => ?_
  obtain ⟨v_158, v_160, v_162, v_164, v_166, v_168, rfl, hr_159, hr_161, hr_163, hr_165, hr_167, hr_169⟩ := k_api_Msg.open' hk_156
  intro a h
  refine s_load h rfl rfl (el_agg (o := 0) (us := [iV t_153.Kind, iV t_153.From, iV t_153.To, iV t_153.View, iV t_153.Inst, iV t_153.Len, .bool t_153.Has, iV t_153.Members, iV t_153.Source, iV t_153.At, iV t_153.Total, v_158, iV t_153.Hop, iV t_153.Seq, v_160, v_162, iV t_153.Index, iV t_153.Entry.Sess, iV t_153.Entry.Seq, iV t_153.Entry.Cmd.Kind, iV t_153.Entry.Cmd.Who, v_164, v_166, v_168]) hc_157 U29 rfl ti29 rfl rfl) fun a h=>v_alloc h rfl ti29 hS fun w_170 g_171 hS' a h => ?_
  replace hS : Sep w0 w_170 [_, _, Mem.one g_171 (.cells ([iV 0, iV 0, iV 0, iV 0, iV 0, iV 0, .bool false, iV 0, iV 0, iV 0, iV 0, nS, iV 0, iV 0, nS, nS, iV 0, iV 0, iV 0, iV 0, iV 0, nS, nS, nS] : List Value).toArray 29 (0, 0))] Z := hS'
  clear hS'
  obtain ⟨w_172, hs', hS'⟩ := hS.store (P := Try.prog) (p := 2) (o := 0) (t := 29) (v := .agg ([iV t_153.Kind, iV t_153.From, iV t_153.To, iV t_153.View, iV t_153.Inst, iV t_153.Len, .bool t_153.Has, iV t_153.Members, iV t_153.Source, iV t_153.At, iV t_153.Total, v_158, iV t_153.Hop, iV t_153.Seq, v_160, v_162, iV t_153.Index, iV t_153.Entry.Sess, iV t_153.Entry.Seq, iV t_153.Entry.Cmd.Kind, iV t_153.Entry.Cmd.Who, v_164, v_166, v_168] : List Value).toArray) (vs := [iV t_153.Kind, iV t_153.From, iV t_153.To, iV t_153.View, iV t_153.Inst, iV t_153.Len, .bool t_153.Has, iV t_153.Members, iV t_153.Source, iV t_153.At, iV t_153.Total, v_158, iV t_153.Hop, iV t_153.Seq, v_160, v_162, iV t_153.Index, iV t_153.Entry.Sess, iV t_153.Entry.Seq, iV t_153.Entry.Cmd.Kind, iV t_153.Entry.Cmd.Who, v_164, v_166, v_168]) rfl ti29 rfl rfl rfl (by intro u hu; simp only [List.mem_cons, List.not_mem_nil, or_false] at hu; rcases hu with rfl | rfl | rfl | rfl | rfl | rfl | rfl | rfl | rfl | rfl | rfl | rfl | rfl | rfl | rfl | rfl | rfl | rfl | rfl | rfl | rfl | rfl | rfl | rfl <;> first | rfl | exact hr_159.one | exact hr_161.one | exact hr_163.one | exact hr_165.one | exact hr_167.one | exact hr_169.one)
  refine s_store h rfl rfl hs' ?_
  replace hS : Sep w0 w_172 [_, _, Mem.one g_171 (.cells ([iV t_153.Kind, iV t_153.From, iV t_153.To, iV t_153.View, iV t_153.Inst, iV t_153.Len, .bool t_153.Has, iV t_153.Members, iV t_153.Source, iV t_153.At, iV t_153.Total, v_158, iV t_153.Hop, iV t_153.Seq, v_160, v_162, iV t_153.Index, iV t_153.Entry.Sess, iV t_153.Entry.Seq, iV t_153.Entry.Cmd.Kind, iV t_153.Entry.Cmd.Who, v_164, v_166, v_168] : List Value).toArray 29 (0, 0))] Z := hS'
  clear hs' hS'
  refine wpList_nil <| x_then_n <| c_seq fun KJ_173 hKJ_173 => c_seq fun KJ_174 hKJ_174 => ?_
  have hJ_j_178 : ∀ (x_176 : Bool), hocketref11_Choose.J5 K (hocketref11_Choose.L2 K x0 x1 (fun v => hocketref11_Choose.J1 K x1 v.1 v.2.1 v.2.2) k_149) x_141 x_142 x_143 x_148 t_153 x_176 = some r → ∀ (a : Act) (w_177 : World), (∃ (N_175 : Mem), Fr 130 a [(0, p0_0), (1, iV (mn (mx x1 1) 7)), (4, iV 0), (5, iV 0), (6, iV 0), (7, .bool false), (8, iV x_141), (9, iV x_142), (10, .pointer (some ⟨g_2, 0, none⟩)), (11, iV x_148), (12, .pointer (some ⟨g_171, 0, none⟩)), (50, .bool x_176)] ∧ Sep w0 w_177 [N_175, M_144, Mem.one g_171 (.cells ([iV t_153.Kind, iV t_153.From, iV t_153.To, iV t_153.View, iV t_153.Inst, iV t_153.Len, .bool t_153.Has, iV t_153.Members, iV t_153.Source, iV t_153.At, iV t_153.Total, v_158, iV t_153.Hop, iV t_153.Seq, v_160, v_162, iV t_153.Index, iV t_153.Entry.Sess, iV t_153.Entry.Seq, iV t_153.Entry.Cmd.Kind, iV t_153.Entry.Cmd.Who, v_164, v_166, v_168] : List Value).toArray 29 (0, 0))] Z ∧ N_140.le N_175) → KJ_174 a w_177 := by
   clear H h hS a
   rintro x_176 H a w_177 ⟨N_175, h, hS, le_175⟩
   unfold hocketref11_Choose.J5 at H
   refine hKJ_174 _ _ ?_
   by_cases hc_179 : x_176 = true
   ·rw [if_pos hc_179] at H
    refine c_cond_t h rfl hc_179 <| wp_exit (x_then_x (x_block_t ?_))
    refine x_then_n <| wp_region_lit <| s_move h rfl rfl fun a h=>s_arith (r := w64 (x_148 + 1)) h rfl rfl rfl (.inl ⟨rfl, rfl⟩) fun a h=>s_assign h rfl rfl fun a h=>wpList_nil ?_
    replace h : Fr 130 a [(0, _), (1, _), (4, _), (5, _), (6, _), (7, _), (8, _), (9, _), (10, _), (11, iV (w64 (x_148 + 1)))] := h.keep [0, 1, 4, 5, 6, 7, 8, 9, 10, 11]
    refine x_then_n (hKL_149 _ _ ?_)
    replace hS : Sep w0 w_177 [_, _, _] Z := hS
    replace h : Fr 130 a [(0, _), (1, _), (4, _), (5, _), (6, _), (7, _), (8, _), (9, _), (10, _), (11, _)] := h.keep [0, 1, 4, 5, 6, 7, 8, 9, 10, 11]
    exact ⟨x_141, x_142, x_143, w64 (x_148 + 1), N_175, M_144, H, h, (Sep.sel hS [0, 1] (by decide)), (le_140.trans le_175), (ho_147.mono (Mem.un_left le_175))⟩
   ·rw [if_neg hc_179] at H
    refine c_cond_f h rfl (Bool.eq_false_iff.2 hc_179) <| wp_skip <| x_then_n (hKJ_173 _ _ ?_)
    refine wp_seq <| wp_region_lit <| s_move h rfl rfl fun a h=>s_fieldAddr h rfl U29 rfl ti3 rfl rfl fun a h=>s_load h rfl rfl (hS.load_one (p := 2) rfl U3 rfl rfl) fun a h=>s_conv (wu64 t_153.From) h rfl U3 U36 rfl rfl fun a h=>s_shift (r := shl .i64 1 (wu64 t_153.From)) h rfl rfl rfl (wu64_nn _) (.inl ⟨rfl, rfl⟩) fun a h=>s_bits (i := x_141) (j := shl .i64 1 (wu64 t_153.From)) (r := bor .i64 x_141 (shl .i64 1 (wu64 t_153.From))) h rfl rfl rfl (.inr (.inl ⟨rfl, rfl⟩)) fun a h=>s_assign h rfl rfl fun a h=>wpList_nil ?_
    replace h : Fr 130 a [(0, _), (1, _), (4, _), (5, _), (6, _), (7, _), (8, iV (bor .i64 x_141 (shl .i64 1 (wu64 t_153.From)))), (9, _), (10, _), (11, _), (12, _)] := h.keep [0, 1, 4, 5, 6, 7, 8, 9, 10, 11, 12]
    refine x_then_n <| c_seq fun KJ_180 hKJ_180 => c_seq fun KJ_181 hKJ_181 => ?_
    have hJ_j_185 : ∀ (x_183 : Bool), hocketref11_Choose.J6 K x_143 t_153 (hocketref11_Choose.L2 K x0 x1 (fun v => hocketref11_Choose.J1 K x1 v.1 v.2.1 v.2.2) k_149) x_141 x_148 x_142 x_183 = some r → ∀ (a : Act) (w_184 : World), (∃ (N_182 : Mem), Fr 130 a [(0, p0_0), (1, iV (mn (mx x1 1) 7)), (4, iV 0), (5, iV 0), (6, iV 0), (7, .bool false), (8, iV (bor .i64 x_141 (shl .i64 1 (wu64 t_153.From)))), (9, iV x_142), (10, .pointer (some ⟨g_2, 0, none⟩)), (11, iV x_148), (12, .pointer (some ⟨g_171, 0, none⟩)), (68, .bool x_183)] ∧ Sep w0 w_184 [N_182, M_144, Mem.one g_171 (.cells ([iV t_153.Kind, iV t_153.From, iV t_153.To, iV t_153.View, iV t_153.Inst, iV t_153.Len, .bool t_153.Has, iV t_153.Members, iV t_153.Source, iV t_153.At, iV t_153.Total, v_158, iV t_153.Hop, iV t_153.Seq, v_160, v_162, iV t_153.Index, iV t_153.Entry.Sess, iV t_153.Entry.Seq, iV t_153.Entry.Cmd.Kind, iV t_153.Entry.Cmd.Who, v_164, v_166, v_168] : List Value).toArray 29 (0, 0))] Z ∧ N_175.le N_182) → KJ_181 a w_184 := by
     clear H h hS a
     rintro x_183 H a w_184 ⟨N_182, h, hS, le_182⟩
     unfold hocketref11_Choose.J6 at H
     refine hKJ_181 _ _ ?_
     have hJ_j_189 : ∀ (x_187 : Int), hocketref11_Choose.J7 K x_143 t_153 (hocketref11_Choose.L2 K x0 x1 (fun v => hocketref11_Choose.J1 K x1 v.1 v.2.1 v.2.2) k_149) x_141 x_148 x_187 = some r → ∀ (a : Act) (w_188 : World), (∃ (N_186 : Mem), Fr 130 a [(0, p0_0), (1, iV (mn (mx x1 1) 7)), (4, iV 0), (5, iV 0), (6, iV 0), (7, .bool false), (8, iV (bor .i64 x_141 (shl .i64 1 (wu64 t_153.From)))), (9, iV x_187), (10, .pointer (some ⟨g_2, 0, none⟩)), (11, iV x_148), (12, .pointer (some ⟨g_171, 0, none⟩))] ∧ Sep w0 w_188 [N_186, M_144, Mem.one g_171 (.cells ([iV t_153.Kind, iV t_153.From, iV t_153.To, iV t_153.View, iV t_153.Inst, iV t_153.Len, .bool t_153.Has, iV t_153.Members, iV t_153.Source, iV t_153.At, iV t_153.Total, v_158, iV t_153.Hop, iV t_153.Seq, v_160, v_162, iV t_153.Index, iV t_153.Entry.Sess, iV t_153.Entry.Seq, iV t_153.Entry.Cmd.Kind, iV t_153.Entry.Cmd.Who, v_164, v_166, v_168] : List Value).toArray 29 (0, 0))] Z ∧ N_182.le N_186) → KJ_180 a w_188 := by
      clear H h hS a
      rintro x_187 H a w_188 ⟨N_186, h, hS, le_186⟩
      unfold hocketref11_Choose.J7 at H
      refine hKJ_180 _ _ <| wp_region_lit <| s_fieldAddr h rfl U29 rfl ti3 rfl rfl fun a h=>s_load h rfl rfl (hS.load_one (p := 2) rfl U3 rfl rfl) fun a h=>s_load h rfl rfl (hS.load_agg (p := 2) (us := [iV t_153.Kind, iV t_153.From, iV t_153.To, iV t_153.View, iV t_153.Inst, iV t_153.Len, .bool t_153.Has, iV t_153.Members, iV t_153.Source, iV t_153.At, iV t_153.Total, v_158, iV t_153.Hop, iV t_153.Seq, v_160, v_162, iV t_153.Index, iV t_153.Entry.Sess, iV t_153.Entry.Seq, iV t_153.Entry.Cmd.Kind, iV t_153.Entry.Cmd.Who, v_164, v_166, v_168]) rfl U29 rfl ti29 rfl rfl) fun a h=>?_
      obtain ⟨t_190, et_190, H⟩ := Option.bind_eq_some_iff.1 H
      refine s_indexArr h rfl U60 ti29 rfl rfl rfl ho_147 et_190 fun cur_192 hM_193 a h => ?_
      obtain ⟨w_194, M_195, hs', hS', ho_196⟩ := Own.stored (P := Try.prog) (p := 1) (t := 29) (o := 0) (nv := .agg ([iV t_153.Kind, iV t_153.From, iV t_153.To, iV t_153.View, iV t_153.Inst, iV t_153.Len, .bool t_153.Has, iV t_153.Members, iV t_153.Source, iV t_153.At, iV t_153.Total, v_158, iV t_153.Hop, iV t_153.Seq, v_160, v_162, iV t_153.Index, iV t_153.Entry.Sess, iV t_153.Entry.Seq, iV t_153.Entry.Cmd.Kind, iV t_153.Entry.Cmd.Who, v_164, v_166, v_168] : List Value).toArray) (vs := [iV t_153.Kind, iV t_153.From, iV t_153.To, iV t_153.View, iV t_153.Inst, iV t_153.Len, .bool t_153.Has, iV t_153.Members, iV t_153.Source, iV t_153.At, iV t_153.Total, v_158, iV t_153.Hop, iV t_153.Seq, v_160, v_162, iV t_153.Index, iV t_153.Entry.Sess, iV t_153.Entry.Seq, iV t_153.Entry.Cmd.Kind, iV t_153.Entry.Cmd.Who, v_164, v_166, v_168]) (u' := t_153) hS rfl (ho_147.mono (Mem.un_left (le_175.trans (le_182.trans le_186)))) hM_193 et_190 ti29 rfl rfl rfl (by intro u hu; simp only [List.mem_cons, List.not_mem_nil, or_false] at hu; rcases hu with rfl | rfl | rfl | rfl | rfl | rfl | rfl | rfl | rfl | rfl | rfl | rfl | rfl | rfl | rfl | rfl | rfl | rfl | rfl | rfl | rfl | rfl | rfl | rfl <;> first | rfl | exact hr_159.one | exact hr_161.one | exact hr_163.one | exact hr_165.one | exact hr_167.one | exact hr_169.one) (by intro cs hk; obtain ⟨v_197, v_198, v_199, v_200, v_201, v_202, rfl, hr_203, hr_204, hr_205, hr_206, hr_207, hr_208⟩ := k_api_Msg.open' hk; exact k_api_Msg.mk' (hr_159.mono (Mem.le_un _ _)) (hr_161.mono (Mem.le_un _ _)) (hr_163.mono (Mem.le_un _ _)) (hr_165.mono (Mem.le_un _ _)) (hr_167.mono (Mem.le_un _ _)) (hr_169.mono (Mem.le_un _ _)))
      refine s_store h rfl rfl hs' ?_
      replace hS : Sep w0 w_194 [_, M_195, _] Z := hS'
      clear hs' hS'
      refine wpList_nil <| x_block_n <| x_then_n <| wp_region_lit <| s_move h rfl rfl fun a h=>s_arith (r := w64 (x_148 + 1)) h rfl rfl rfl (.inl ⟨rfl, rfl⟩) fun a h=>s_assign h rfl rfl fun a h=>wpList_nil <| x_then_n (hKL_149 _ _ ?_)
      replace hS : Sep w0 w_194 [_, _, _] Z := hS
      replace h : Fr 130 a [(0, _), (1, _), (4, _), (5, _), (6, _), (7, _), (8, _), (9, _), (10, _), (11, iV (w64 (x_148 + 1)))] := h.keep [0, 1, 4, 5, 6, 7, 8, 9, 10, 11]
      exact ⟨bor .i64 x_141 (shl .i64 1 (wu64 t_153.From)), x_187, (x_143.set (t_153.From).toNat t_153), w64 (x_148 + 1), N_186, M_195, H, h, (Sep.sel hS [0, 1] (by decide)), (le_140.trans (le_175.trans (le_182.trans le_186))), (ho_196.mono (Mem.un_left (Mem.le.refl _)))⟩
     clear hKJ_180
     by_cases hc_209 : x_183 = true
     ·rw [if_pos hc_209] at H
      refine c_cond_t h rfl hc_209 <| wp_region_lit <| s_fieldAddr h rfl U29 rfl ti3 rfl rfl fun a h=>s_load h rfl rfl (hS.load_one (p := 2) rfl U3 rfl rfl) fun a h=>s_assign h rfl rfl fun a h=>wpList_nil ?_
      replace hS : Sep w0 w_184 [_, _, _] Z := hS
      replace h : Fr 130 a [(0, _), (1, _), (4, _), (5, _), (6, _), (7, _), (8, _), (9, iV t_153.Inst), (10, _), (11, _), (12, _)] := h.keep [0, 1, 4, 5, 6, 7, 8, 9, 10, 11, 12]
      exact x_then_n (hJ_j_189 t_153.Inst H _ _ ⟨N_182, h, (Sep.sel hS [0, 1, 2] (by decide)), (Mem.le.refl _)⟩)
     ·rw [if_neg hc_209] at H
      refine c_cond_f h rfl (Bool.eq_false_iff.2 hc_209) <| wp_skip ?_
      replace hS : Sep w0 w_184 [_, _, _] Z := hS
      replace h : Fr 130 a [(0, _), (1, _), (4, _), (5, _), (6, _), (7, _), (8, _), (9, _), (10, _), (11, _), (12, _)] := h.keep [0, 1, 4, 5, 6, 7, 8, 9, 10, 11, 12]
      exact x_then_n (hJ_j_189 x_142 H _ _ ⟨N_182, h, (Sep.sel hS [0, 1, 2] (by decide)), (Mem.le.refl _)⟩)
    clear hKJ_181
    refine wp_region_lit <| s_move h rfl rfl fun a h=>s_fieldAddr h rfl U29 rfl ti3 rfl rfl fun a h=>s_load h rfl rfl (hS.load_one (p := 2) rfl U3 rfl rfl) fun a h=>s_conv (wu64 t_153.From) h rfl U3 U36 rfl rfl fun a h=>s_shift (r := shl .i64 1 (wu64 t_153.From)) h rfl rfl rfl (wu64_nn _) (.inl ⟨rfl, rfl⟩) fun a h=>s_cmp (b := ((bor .i64 x_141 (shl .i64 1 (wu64 t_153.From))) == (shl .i64 1 (wu64 t_153.From)))) h rfl rfl rfl (.inl ⟨rfl, rfl⟩) fun a h=>s_move h rfl rfl fun a h=>?_
    by_cases hc_210 : (bor .i64 x_141 (shl .i64 1 (wu64 t_153.From))) = (shl .i64 1 (wu64 t_153.From))
    ·rw [if_pos hc_210] at H
     refine s_off h rfl rfl rfl (beq_iff_eq.2 hc_210) fun a h=>s_off h rfl rfl rfl (beq_iff_eq.2 hc_210) fun a h=>s_off h rfl rfl rfl (beq_iff_eq.2 hc_210) fun a h=>s_off h rfl rfl rfl (beq_iff_eq.2 hc_210) fun a h=>s_pick_t h rfl rfl (beq_iff_eq.2 hc_210) rfl fun a h=>wpList_nil ?_
     replace hS : Sep w0 w_177 [_, _, _] Z := hS
     replace h : Fr 130 a [(0, _), (1, _), (4, _), (5, _), (6, _), (7, _), (8, _), (9, _), (10, _), (11, _), (12, _), (68, .bool true)] := h.keep [0, 1, 4, 5, 6, 7, 8, 9, 10, 11, 12, 68]
     exact x_then_n (hJ_j_185 true H _ _ ⟨N_175, h, (Sep.sel hS [0, 1, 2] (by decide)), (Mem.le.refl _)⟩)
    ·rw [if_neg hc_210] at H
     refine s_on h rfl rfl (beq_eq_false_iff_ne.2 hc_210) <| s_fieldAddr h rfl U29 rfl ti3 rfl rfl fun a h=>s_on h rfl rfl (beq_eq_false_iff_ne.2 hc_210) <| s_load h rfl rfl (hS.load_one (p := 2) rfl U3 rfl rfl) fun a h=>s_on h rfl rfl (beq_eq_false_iff_ne.2 hc_210) <| s_move h rfl rfl fun a h=>s_on h rfl rfl (beq_eq_false_iff_ne.2 hc_210) <| s_cmp (b := decide (t_153.Inst > x_142)) h rfl rfl rfl (.inr (.inr (.inr (.inr (.inl ⟨rfl, rfl⟩))))) fun a h=>s_pick_f h rfl rfl (beq_eq_false_iff_ne.2 hc_210) rfl fun a h=>wpList_nil ?_
     replace hS : Sep w0 w_177 [_, _, _] Z := hS
     replace h : Fr 130 a [(0, _), (1, _), (4, _), (5, _), (6, _), (7, _), (8, _), (9, _), (10, _), (11, _), (12, _), (68, .bool (decide (t_153.Inst > x_142)))] := h.keep [0, 1, 4, 5, 6, 7, 8, 9, 10, 11, 12, 68]
     exact x_then_n (hJ_j_185 (decide (t_153.Inst > x_142)) H _ _ ⟨N_175, h, (Sep.sel hS [0, 1, 2] (by decide)), (Mem.le.refl _)⟩)
  clear hKJ_174
  refine wp_region_lit <| s_fieldAddr h rfl U29 rfl ti3 rfl rfl fun a h=>s_load h rfl rfl (hS.load_one (p := 2) rfl U3 rfl rfl) fun a h=>s_cmp (b := (t_153.Kind != 2)) h rfl rfl rfl (.inr (.inl ⟨rfl, rfl⟩)) fun a h=>s_move h rfl rfl fun a h=>?_
  by_cases hc_211 : t_153.Kind = 2
  ·rw [if_pos hc_211] at H
   refine s_on h rfl rfl (bne_eq_false_iff_eq.2 hc_211) <| s_fieldAddr h rfl U29 rfl ti3 rfl rfl fun a h=>s_on h rfl rfl (bne_eq_false_iff_eq.2 hc_211) <| s_load h rfl rfl (hS.load_one (p := 2) rfl U3 rfl rfl) fun a h=>s_on h rfl rfl (bne_eq_false_iff_eq.2 hc_211) <| s_cmp (b := decide (t_153.From < 0)) h rfl rfl rfl (.inr (.inr (.inl ⟨rfl, rfl⟩))) fun a h=>s_pick_f h rfl rfl (bne_eq_false_iff_eq.2 hc_211) rfl fun a h=>s_move h rfl rfl fun a h=>?_
   by_cases hc_212 : t_153.From < 0
   ·rw [if_pos hc_212] at H
    refine s_off h rfl rfl rfl (decide_eq_true hc_212) fun a h=>s_off h rfl rfl rfl (decide_eq_true hc_212) fun a h=>s_off h rfl rfl rfl (decide_eq_true hc_212) fun a h=>s_off h rfl rfl rfl (decide_eq_true hc_212) fun a h=>s_pick_t h rfl rfl (decide_eq_true hc_212) rfl fun a h=>s_move h rfl rfl fun a h=>s_off h rfl rfl rfl rfl fun a h=>s_off h rfl rfl rfl rfl fun a h=>s_off h rfl rfl rfl rfl fun a h=>s_off h rfl rfl rfl rfl fun a h=>s_off h rfl rfl rfl rfl fun a h=>s_off h rfl rfl rfl rfl fun a h=>?_
    refine s_off h rfl rfl rfl rfl fun a h=>s_pick_t h rfl rfl rfl rfl fun a h=>wpList_nil ?_
    replace h : Fr 130 a [(0, _), (1, _), (4, _), (5, _), (6, _), (7, _), (8, _), (9, _), (10, _), (11, _), (12, .pointer (some ⟨g_171, 0, none⟩)), (50, .bool true)] := h.keep [0, 1, 4, 5, 6, 7, 8, 9, 10, 11, 12, 50]
    replace hS : Sep w0 w_172 [_, _, _] Z := hS
    replace h : Fr 130 a [(0, _), (1, _), (4, _), (5, _), (6, _), (7, _), (8, _), (9, _), (10, _), (11, _), (12, _), (50, _)] := h.keep [0, 1, 4, 5, 6, 7, 8, 9, 10, 11, 12, 50]
    exact x_then_n (hJ_j_178 true H _ _ ⟨N_140, h, (Sep.sel hS [0, 1, 2] (by decide)), (Mem.le.refl _)⟩)
   ·rw [if_neg hc_212] at H
    refine s_on h rfl rfl (decide_eq_false hc_212) <| s_fieldAddr h rfl U29 rfl ti3 rfl rfl fun a h=>s_on h rfl rfl (decide_eq_false hc_212) <| s_load h rfl rfl (hS.load_one (p := 2) rfl U3 rfl rfl) fun a h=>s_on h rfl rfl (decide_eq_false hc_212) <| s_move h rfl rfl fun a h=>s_on h rfl rfl (decide_eq_false hc_212) <| s_cmp (b := decide (t_153.From ≥ (mn (mx x1 1) 7))) h rfl rfl rfl (.inr (.inr (.inr (.inr (.inr ⟨rfl, rfl⟩))))) fun a h=>s_pick_f h rfl rfl (decide_eq_false hc_212) rfl fun a h=>s_move h rfl rfl fun a h=>?_
    by_cases hc_213 : t_153.From ≥ (mn (mx x1 1) 7)
    ·rw [if_pos hc_213] at H
     refine s_off h rfl rfl rfl (decide_eq_true hc_213) fun a h=>s_off h rfl rfl rfl (decide_eq_true hc_213) fun a h=>s_off h rfl rfl rfl (decide_eq_true hc_213) fun a h=>s_off h rfl rfl rfl (decide_eq_true hc_213) fun a h=>s_off h rfl rfl rfl (decide_eq_true hc_213) fun a h=>s_off h rfl rfl rfl (decide_eq_true hc_213) fun a h=>s_off h rfl rfl rfl (decide_eq_true hc_213) fun a h=>s_pick_t h rfl rfl (decide_eq_true hc_213) rfl fun a h=>wpList_nil ?_
     replace h : Fr 130 a [(0, _), (1, _), (4, _), (5, _), (6, _), (7, _), (8, _), (9, _), (10, _), (11, _), (12, .pointer (some ⟨g_171, 0, none⟩)), (50, .bool true)] := h.keep [0, 1, 4, 5, 6, 7, 8, 9, 10, 11, 12, 50]
     replace hS : Sep w0 w_172 [_, _, _] Z := hS
     replace h : Fr 130 a [(0, _), (1, _), (4, _), (5, _), (6, _), (7, _), (8, _), (9, _), (10, _), (11, _), (12, _), (50, _)] := h.keep [0, 1, 4, 5, 6, 7, 8, 9, 10, 11, 12, 50]
     exact x_then_n (hJ_j_178 true H _ _ ⟨N_140, h, (Sep.sel hS [0, 1, 2] (by decide)), (Mem.le.refl _)⟩)
    ·rw [if_neg hc_213] at H
     refine s_on h rfl rfl (decide_eq_false hc_213) <| s_move h rfl rfl fun a h=>s_on h rfl rfl (decide_eq_false hc_213) <| s_fieldAddr h rfl U29 rfl ti3 rfl rfl fun a h=>s_on h rfl rfl (decide_eq_false hc_213) <| s_load h rfl rfl (hS.load_one (p := 2) rfl U3 rfl rfl) fun a h=>s_on h rfl rfl (decide_eq_false hc_213) <| s_conv (wu64 t_153.From) h rfl U3 U36 rfl rfl fun a h=>s_on h rfl rfl (decide_eq_false hc_213) <| s_shift (r := shr .i64 x_141 (wu64 t_153.From)) h rfl rfl rfl (wu64_nn _) (.inr ⟨rfl, rfl⟩) fun a h=>s_on h rfl rfl (decide_eq_false hc_213) <| s_bits (i := shr .i64 x_141 (wu64 t_153.From)) (j := 1) (r := band .i64 (shr .i64 x_141 (wu64 t_153.From)) 1) h rfl rfl rfl (.inl ⟨rfl, rfl⟩) fun a h=>?_
     refine s_on h rfl rfl (decide_eq_false hc_213) <| s_cmp (b := ((band .i64 (shr .i64 x_141 (wu64 t_153.From)) 1) == 1)) h rfl rfl rfl (.inl ⟨rfl, rfl⟩) fun a h=>s_pick_f h rfl rfl (decide_eq_false hc_213) rfl fun a h=>wpList_nil ?_
     replace h : Fr 130 a [(0, _), (1, _), (4, _), (5, _), (6, _), (7, _), (8, _), (9, _), (10, _), (11, _), (12, .pointer (some ⟨g_171, 0, none⟩)), (50, .bool ((band .i64 (shr .i64 x_141 (wu64 t_153.From)) 1) == 1))] := h.keep [0, 1, 4, 5, 6, 7, 8, 9, 10, 11, 12, 50]
     replace hS : Sep w0 w_172 [_, _, _] Z := hS
     replace h : Fr 130 a [(0, _), (1, _), (4, _), (5, _), (6, _), (7, _), (8, _), (9, _), (10, _), (11, _), (12, _), (50, _)] := h.keep [0, 1, 4, 5, 6, 7, 8, 9, 10, 11, 12, 50]
     exact x_then_n (hJ_j_178 ((band .i64 (shr .i64 x_141 (wu64 t_153.From)) 1) == 1) H _ _ ⟨N_140, h, (Sep.sel hS [0, 1, 2] (by decide)), (Mem.le.refl _)⟩)
  ·rw [if_neg hc_211] at H
   refine s_off h rfl rfl rfl (bne_iff_ne.2 hc_211) fun a h=>s_off h rfl rfl rfl (bne_iff_ne.2 hc_211) fun a h=>s_off h rfl rfl rfl (bne_iff_ne.2 hc_211) fun a h=>s_pick_t h rfl rfl (bne_iff_ne.2 hc_211) rfl fun a h=>s_move h rfl rfl fun a h=>s_off h rfl rfl rfl rfl fun a h=>s_off h rfl rfl rfl rfl fun a h=>s_off h rfl rfl rfl rfl fun a h=>s_off h rfl rfl rfl rfl fun a h=>s_pick_t h rfl rfl rfl rfl fun a h=>s_move h rfl rfl fun a h=>s_off h rfl rfl rfl rfl fun a h=>?_
   refine s_off h rfl rfl rfl rfl fun a h=>s_off h rfl rfl rfl rfl fun a h=>s_off h rfl rfl rfl rfl fun a h=>s_off h rfl rfl rfl rfl fun a h=>s_off h rfl rfl rfl rfl fun a h=>s_off h rfl rfl rfl rfl fun a h=>s_pick_t h rfl rfl rfl rfl fun a h=>wpList_nil ?_
   replace h : Fr 130 a [(0, _), (1, _), (4, _), (5, _), (6, _), (7, _), (8, _), (9, _), (10, _), (11, _), (12, .pointer (some ⟨g_171, 0, none⟩)), (50, .bool true)] := h.keep [0, 1, 4, 5, 6, 7, 8, 9, 10, 11, 12, 50]
   replace hS : Sep w0 w_172 [_, _, _] Z := hS
   replace h : Fr 130 a [(0, _), (1, _), (4, _), (5, _), (6, _), (7, _), (8, _), (9, _), (10, _), (11, _), (12, _), (50, _)] := h.keep [0, 1, 4, 5, 6, 7, 8, 9, 10, 11, 12, 50]
   exact x_then_n (hJ_j_178 true H _ _ ⟨N_140, h, (Sep.sel hS [0, 1, 2] (by decide)), (Mem.le.refl _)⟩)
 ·rw [if_neg hc_152] at H
  refine c_cond_f h rfl (decide_eq_false hc_152) <| wp_exit (x_then_x (x_then_x (x_block_t ?_)))
  replace hS : Sep w0 w_149 [_, _] Z := hS
  replace h : Fr 130 a [(1, _), (4, _), (5, _), (6, _), (7, _), (8, _), (9, _), (10, _)] := h.keep [1, 4, 5, 6, 7, 8, 9, 10]
  exact x_then_n (hJ_j_16 x_141 x_142 x_143 H _ _ ⟨N_140, M_144, h, (Sep.sel hS [0, 1] (by decide)), le_140, (ho_147.mono (Mem.un_left (Mem.le.refl _)))⟩)

set_option maxHeartbeats 4000000 in
set_option maxRecDepth 20000 in
theorem hocketref15_Gather_Commit.calls (K : Nat) (g0 : Nat) (x0_n : Int) (x0_id : Int) (x0_v : Int) (x0_l : List api_Msg) (p0_0 : Value) (M0_0 : Mem) (x0_commit_Kind : Int) (x0_commit_From : Int) (x0_commit_To : Int) (x0_commit_View : Int) (x0_commit_Inst : Int) (x0_commit_Len : Int) (x0_commit_Has : Bool) (x0_commit_Members : Int) (x0_commit_Source : Int) (x0_commit_At : Int) (x0_commit_Total : Int) (x0_commit_Data : List UInt8) (p0_1 : Value) (x0_commit_Hop : Int) (x0_commit_Seq : Int) (x0_commit_Have : List Int) (p0_2 : Value) (x0_commit_Need : List Int) (p0_3 : Value) (x0_commit_Index : Int) (x0_commit_Entry_Sess : Int) (x0_commit_Entry_Seq : Int) (x0_commit_Entry_Cmd_Kind : Int) (x0_commit_Entry_Cmd_Who : Int) (x0_commit_Entry_Cmd_Key : List UInt8) (p0_4 : Value) (x0_commit_Entry_Cmd_Val : List UInt8) (p0_5 : Value) (x0_commit_Entry_Cmd_Old : List UInt8) (p0_6 : Value) (x0_sure : Bool) (x0_ready : Int) (r : api_Msg × Bool × Int × Int × Int × (List api_Msg) × Int × Int × Int × Int × Int × Int × Bool × Int × Int × Int × Int × (List UInt8) × Int × Int × (List Int) × (List Int) × Int × Int × Int × Int × Int × (List UInt8) × (List UInt8) × (List UInt8) × Bool × Int) (w0 w : World) (Z A : Mem) (hA : A.le Z) (hS : Sep w0 w [Mem.one g0 (.cells ([iV x0_n, iV x0_id, iV x0_v, p0_0, iV x0_commit_Kind, iV x0_commit_From, iV x0_commit_To, iV x0_commit_View, iV x0_commit_Inst, iV x0_commit_Len, .bool x0_commit_Has, iV x0_commit_Members, iV x0_commit_Source, iV x0_commit_At, iV x0_commit_Total, p0_1, iV x0_commit_Hop, iV x0_commit_Seq, p0_2, p0_3, iV x0_commit_Index, iV x0_commit_Entry_Sess, iV x0_commit_Entry_Seq, iV x0_commit_Entry_Cmd_Kind, iV x0_commit_Entry_Cmd_Who, p0_4, p0_5, p0_6, .bool x0_sure, iV x0_ready] : List Value).toArray 49 (0, 0)), M0_0] Z) (hp0_0 : Own k_api_Msg 29 M0_0 A p0_0 x0_l) (hp0_1 : Rd Kd.u8 A p0_1 x0_commit_Data) (hp0_2 : Rd (Kd.int .i64) A p0_2 x0_commit_Have) (hp0_3 : Rd (Kd.int .i64) A p0_3 x0_commit_Need) (hp0_4 : Rd Kd.u8 A p0_4 x0_commit_Entry_Cmd_Key) (hp0_5 : Rd Kd.u8 A p0_5 x0_commit_Entry_Cmd_Val) (hp0_6 : Rd Kd.u8 A p0_6 x0_commit_Entry_Cmd_Old)
    (H : hocketref15_Gather_Commit.f K x0_n x0_id x0_v x0_l x0_commit_Kind x0_commit_From x0_commit_To x0_commit_View x0_commit_Inst x0_commit_Len x0_commit_Has x0_commit_Members x0_commit_Source x0_commit_At x0_commit_Total x0_commit_Data x0_commit_Hop x0_commit_Seq x0_commit_Have x0_commit_Need x0_commit_Index x0_commit_Entry_Sess x0_commit_Entry_Seq x0_commit_Entry_Cmd_Kind x0_commit_Entry_Cmd_Who x0_commit_Entry_Cmd_Key x0_commit_Entry_Cmd_Val x0_commit_Entry_Cmd_Old x0_sure x0_ready = some r) :
    Calls Try.prog 10 [.pointer (some ⟨g0, 0, none⟩)].toArray w (Ret fun v w' => ∃ (u0 : Value) (u1 : Value) (u2 : Value) (u3 : Value) (u4 : Value) (u5 : Value) (u6 : Value) (u7 : Value) (u8 : Value) (u9 : Value) (u10 : Value) (u11 : Value) (u12 : Value) (N : Mem) (M100 : Mem), v = .tuple [.agg [iV r.1.Kind, iV r.1.From, iV r.1.To, iV r.1.View, iV r.1.Inst, iV r.1.Len, .bool r.1.Has, iV r.1.Members, iV r.1.Source, iV r.1.At, iV r.1.Total, u0, iV r.1.Hop, iV r.1.Seq, u1, u2, iV r.1.Index, iV r.1.Entry.Sess, iV r.1.Entry.Seq, iV r.1.Entry.Cmd.Kind, iV r.1.Entry.Cmd.Who, u3, u4, u5].toArray, .bool r.2.1].toArray ∧ Sep w0 w' [N, Mem.one g0 (.cells ([iV r.2.2.1, iV r.2.2.2.1, iV r.2.2.2.2.1, u6, iV r.2.2.2.2.2.2.1, iV r.2.2.2.2.2.2.2.1, iV r.2.2.2.2.2.2.2.2.1, iV r.2.2.2.2.2.2.2.2.2.1, iV r.2.2.2.2.2.2.2.2.2.2.1, iV r.2.2.2.2.2.2.2.2.2.2.2.1, .bool r.2.2.2.2.2.2.2.2.2.2.2.2.1, iV r.2.2.2.2.2.2.2.2.2.2.2.2.2.1, iV r.2.2.2.2.2.2.2.2.2.2.2.2.2.2.1, iV r.2.2.2.2.2.2.2.2.2.2.2.2.2.2.2.1, iV r.2.2.2.2.2.2.2.2.2.2.2.2.2.2.2.2.1, u7, iV r.2.2.2.2.2.2.2.2.2.2.2.2.2.2.2.2.2.2.1, iV r.2.2.2.2.2.2.2.2.2.2.2.2.2.2.2.2.2.2.2.1, u8, u9, iV r.2.2.2.2.2.2.2.2.2.2.2.2.2.2.2.2.2.2.2.2.2.2.1, iV r.2.2.2.2.2.2.2.2.2.2.2.2.2.2.2.2.2.2.2.2.2.2.2.1, iV r.2.2.2.2.2.2.2.2.2.2.2.2.2.2.2.2.2.2.2.2.2.2.2.2.1, iV r.2.2.2.2.2.2.2.2.2.2.2.2.2.2.2.2.2.2.2.2.2.2.2.2.2.1, iV r.2.2.2.2.2.2.2.2.2.2.2.2.2.2.2.2.2.2.2.2.2.2.2.2.2.2.1, u10, u11, u12, .bool r.2.2.2.2.2.2.2.2.2.2.2.2.2.2.2.2.2.2.2.2.2.2.2.2.2.2.2.2.2.2.1, iV r.2.2.2.2.2.2.2.2.2.2.2.2.2.2.2.2.2.2.2.2.2.2.2.2.2.2.2.2.2.2.2] : List Value).toArray 49 (0, 0)), M100] Z ∧ Rd Kd.u8 (A.un N) u0 r.1.Data ∧ Rd (Kd.int .i64) (A.un N) u1 r.1.Have ∧ Rd (Kd.int .i64) (A.un N) u2 r.1.Need ∧ Rd Kd.u8 (A.un N) u3 r.1.Entry.Cmd.Key ∧ Rd Kd.u8 (A.un N) u4 r.1.Entry.Cmd.Val ∧ Rd Kd.u8 (A.un N) u5 r.1.Entry.Cmd.Old ∧ Own k_api_Msg 29 M100 (A.un N) u6 r.2.2.2.2.2.1 ∧ Rd Kd.u8 (A.un N) u7 r.2.2.2.2.2.2.2.2.2.2.2.2.2.2.2.2.2.1 ∧ Rd (Kd.int .i64) (A.un N) u8 r.2.2.2.2.2.2.2.2.2.2.2.2.2.2.2.2.2.2.2.2.1 ∧ Rd (Kd.int .i64) (A.un N) u9 r.2.2.2.2.2.2.2.2.2.2.2.2.2.2.2.2.2.2.2.2.2.1 ∧ Rd Kd.u8 (A.un N) u10 r.2.2.2.2.2.2.2.2.2.2.2.2.2.2.2.2.2.2.2.2.2.2.2.2.2.2.2.1 ∧ Rd Kd.u8 (A.un N) u11 r.2.2.2.2.2.2.2.2.2.2.2.2.2.2.2.2.2.2.2.2.2.2.2.2.2.2.2.2.1 ∧ Rd Kd.u8 (A.un N) u12 r.2.2.2.2.2.2.2.2.2.2.2.2.2.2.2.2.2.2.2.2.2.2.2.2.2.2.2.2.2.1) := by
 unfold hocketref15_Gather_Commit.f at H
 refine f_enter _ Try.func10 rfl Try.ntmps10 rfl fun a h=>?_
 replace h : Fr 52 a [(0, .pointer (some ⟨g0, 0, none⟩))] := h
 replace hS := hS.start
 replace hS : Sep w0 w [_, _, _] Z := hS
 refine wp_seq <| wp_region_lit <| v_alloc h rfl ti29 hS fun w_1 g_2 hS' a h => ?_
 replace hS : Sep w0 w_1 [_, _, _, Mem.one g_2 (.cells ([iV 0, iV 0, iV 0, iV 0, iV 0, iV 0, .bool false, iV 0, iV 0, iV 0, iV 0, nS, iV 0, iV 0, nS, nS, iV 0, iV 0, iV 0, iV 0, iV 0, nS, nS, nS] : List Value).toArray 29 (0, 0))] Z := hS'
 clear hS'
 refine s_assign h rfl rfl fun a h=>wpList_nil <| x_then_n <| c_seq fun KJ_3 hKJ_3 => wp_seq <| wp_region_lit <| s_move h rfl rfl fun a h=>s_nilCheck h rfl rfl fun a h=>s_fieldAddr h rfl U49 rfl ti4 rfl rfl fun a h=>s_load h rfl rfl (hS.load_one (p := 1) rfl U4 rfl rfl) fun a h=>s_not h rfl rfl fun a h=>wpList_nil <| x_then_n ?_
 have hJ_j_43 : ∀ (x_5 : Int), ∀ (x_6 : Int), ∀ (x_7 : Int), ∀ (x_8 : Int), ∀ (x_9 : Int), ∀ (x_10 : Int), ∀ (x_11 : Bool), ∀ (x_12 : Int), ∀ (x_13 : Int), ∀ (x_14 : Int), ∀ (x_15 : Int), ∀ (x_16 : List UInt8), ∀ (x_19 : Int), ∀ (x_20 : Int), ∀ (x_21 : List Int), ∀ (x_24 : List Int), ∀ (x_27 : Int), ∀ (x_28 : Int), ∀ (x_29 : Int), ∀ (x_30 : Int), ∀ (x_31 : Int), ∀ (x_32 : List UInt8), ∀ (x_35 : List UInt8), ∀ (x_38 : List UInt8), ∀ (x_41 : Bool), hocketref15_Gather_Commit.J1 K x0_n x0_id x0_v x0_l x0_ready x_5 x_6 x_7 x_8 x_9 x_10 x_11 x_12 x_13 x_14 x_15 x_16 x_19 x_20 x_21 x_24 x_27 x_28 x_29 x_30 x_31 x_32 x_35 x_38 x_41 = some r → ∀ (a : Act) (w_42 : World), (∃ (v_17 : Value) (v_22 : Value) (v_25 : Value) (v_33 : Value) (v_36 : Value) (v_39 : Value) (N_4 : Mem), Fr 52 a [(0, .pointer (some ⟨g0, 0, none⟩)), (2, .pointer (some ⟨g_2, 0, none⟩)), (3, .bool false)] ∧ Sep w0 w_42 [N_4, Mem.one g0 (.cells ([iV x0_n, iV x0_id, iV x0_v, p0_0, iV x_5, iV x_6, iV x_7, iV x_8, iV x_9, iV x_10, .bool x_11, iV x_12, iV x_13, iV x_14, iV x_15, v_17, iV x_19, iV x_20, v_22, v_25, iV x_27, iV x_28, iV x_29, iV x_30, iV x_31, v_33, v_36, v_39, .bool x_41, iV x0_ready] : List Value).toArray 49 (0, 0)), M0_0, Mem.one g_2 (.cells ([iV 0, iV 0, iV 0, iV 0, iV 0, iV 0, .bool false, iV 0, iV 0, iV 0, iV 0, nS, iV 0, iV 0, nS, nS, iV 0, iV 0, iV 0, iV 0, iV 0, nS, nS, nS] : List Value).toArray 29 (0, 0))] Z ∧ Mem.no.le N_4 ∧ Rd Kd.u8 A v_17 x_16 ∧ Rd (Kd.int .i64) A v_22 x_21 ∧ Rd (Kd.int .i64) A v_25 x_24 ∧ Rd Kd.u8 A v_33 x_32 ∧ Rd Kd.u8 A v_36 x_35 ∧ Rd Kd.u8 A v_39 x_38) → KJ_3 a w_42 := by
  clear H h hS a
  rintro x_5 x_6 x_7 x_8 x_9 x_10 x_11 x_12 x_13 x_14 x_15 x_16 x_19 x_20 x_21 x_24 x_27 x_28 x_29 x_30 x_31 x_32 x_35 x_38 x_41 H a w_42 ⟨v_17, v_22, v_25, v_33, v_36, v_39, N_4, h, hS, le_4, hr_18, hr_23, hr_26, hr_34, hr_37, hr_40⟩
  unfold hocketref15_Gather_Commit.J1 at H
  refine hKJ_3 _ _ <| wp_seq <| wp_region_lit <| s_move h rfl rfl fun a h=>s_nilCheck h rfl rfl fun a h=>s_fieldAddr h rfl U49 rfl ti29 rfl rfl fun a h=>s_load h rfl rfl (hS.load_agg (p := 1) (us := [iV x_5, iV x_6, iV x_7, iV x_8, iV x_9, iV x_10, .bool x_11, iV x_12, iV x_13, iV x_14, iV x_15, v_17, iV x_19, iV x_20, v_22, v_25, iV x_27, iV x_28, iV x_29, iV x_30, iV x_31, v_33, v_36, v_39]) rfl U29 rfl ti29 rfl rfl) fun a h=>?_
  obtain ⟨w_44, hs', hS'⟩ := hS.store (P := Try.prog) (p := 3) (o := 0) (t := 29) (v := .agg ([iV x_5, iV x_6, iV x_7, iV x_8, iV x_9, iV x_10, .bool x_11, iV x_12, iV x_13, iV x_14, iV x_15, v_17, iV x_19, iV x_20, v_22, v_25, iV x_27, iV x_28, iV x_29, iV x_30, iV x_31, v_33, v_36, v_39] : List Value).toArray) (vs := [iV x_5, iV x_6, iV x_7, iV x_8, iV x_9, iV x_10, .bool x_11, iV x_12, iV x_13, iV x_14, iV x_15, v_17, iV x_19, iV x_20, v_22, v_25, iV x_27, iV x_28, iV x_29, iV x_30, iV x_31, v_33, v_36, v_39]) rfl ti29 rfl rfl rfl (by intro u hu; simp only [List.mem_cons, List.not_mem_nil, or_false] at hu; rcases hu with rfl | rfl | rfl | rfl | rfl | rfl | rfl | rfl | rfl | rfl | rfl | rfl | rfl | rfl | rfl | rfl | rfl | rfl | rfl | rfl | rfl | rfl | rfl | rfl <;> first | rfl | exact hr_18.one | exact hr_23.one | exact hr_26.one | exact hr_34.one | exact hr_37.one | exact hr_40.one)
  refine s_store h rfl rfl hs' ?_
  replace hS : Sep w0 w_44 [_, _, _, Mem.one g_2 (.cells ([iV x_5, iV x_6, iV x_7, iV x_8, iV x_9, iV x_10, .bool x_11, iV x_12, iV x_13, iV x_14, iV x_15, v_17, iV x_19, iV x_20, v_22, v_25, iV x_27, iV x_28, iV x_29, iV x_30, iV x_31, v_33, v_36, v_39] : List Value).toArray 29 (0, 0))] Z := hS'
  clear hs' hS'
  refine s_assign h rfl rfl fun a h=>wpList_nil <| x_then_n <| wp_ret ?_
  obtain rfl := Option.some.inj H
  exact f_ret h (rs := [.cell 2 29, .tmp 3]) rfl (.cell rfl (hS.load_agg (p := 3) (us := [iV x_5, iV x_6, iV x_7, iV x_8, iV x_9, iV x_10, .bool x_11, iV x_12, iV x_13, iV x_14, iV x_15, v_17, iV x_19, iV x_20, v_22, v_25, iV x_27, iV x_28, iV x_29, iV x_30, iV x_31, v_33, v_36, v_39]) rfl U29 rfl ti29 rfl rfl) (.tmp rfl .nil)) ⟨_, rfl, v_17, v_22, v_25, v_33, v_36, v_39, p0_0, v_17, v_22, v_25, v_33, v_36, v_39, N_4, M0_0, rfl, (Sep.sel hS [0, 1, 2] (by decide)), (hr_18.mono (Mem.le_un _ _)), (hr_23.mono (Mem.le_un _ _)), (hr_26.mono (Mem.le_un _ _)), (hr_34.mono (Mem.le_un _ _)), (hr_37.mono (Mem.le_un _ _)), (hr_40.mono (Mem.le_un _ _)), (hp0_0.mono (Mem.le_un _ _)), (hr_18.mono (Mem.le_un _ _)), (hr_23.mono (Mem.le_un _ _)), (hr_26.mono (Mem.le_un _ _)), (hr_34.mono (Mem.le_un _ _)), (hr_37.mono (Mem.le_un _ _)), (hr_40.mono (Mem.le_un _ _))⟩
 clear hKJ_3
 by_cases hc_45 : x0_sure = true
 ·rw [if_pos hc_45] at H
  refine c_cond_f h rfl (nf hc_45) <| wp_skip ?_
  replace hS : Sep w0 w_1 [_, _, _, _] Z := hS
  replace h : Fr 52 a [(0, _), (2, .pointer (some ⟨g_2, 0, none⟩)), (3, .bool false)] := h.keep [0, 2, 3]
  exact x_then_n (hJ_j_43 x0_commit_Kind x0_commit_From x0_commit_To x0_commit_View x0_commit_Inst x0_commit_Len x0_commit_Has x0_commit_Members x0_commit_Source x0_commit_At x0_commit_Total x0_commit_Data x0_commit_Hop x0_commit_Seq x0_commit_Have x0_commit_Need x0_commit_Index x0_commit_Entry_Sess x0_commit_Entry_Seq x0_commit_Entry_Cmd_Kind x0_commit_Entry_Cmd_Who x0_commit_Entry_Cmd_Key x0_commit_Entry_Cmd_Val x0_commit_Entry_Cmd_Old x0_sure H _ _ ⟨p0_1, p0_2, p0_3, p0_4, p0_5, p0_6, Mem.no, h, (Sep.sel hS [0, 1, 2, 3] (by decide)), (Mem.le.refl _), hp0_1, hp0_2, hp0_3, hp0_4, hp0_5, hp0_6⟩)
 ·rw [if_neg hc_45] at H
  refine c_cond_t h rfl (nt (Bool.eq_false_iff.2 hc_45)) <| c_seq fun KJ_46 hKJ_46 => h_begin (S := fun w => Sep w0 w [Mem.no, Mem.one g0 (.cells ([iV x0_n, iV x0_id, iV x0_v, p0_0, iV x0_commit_Kind, iV x0_commit_From, iV x0_commit_To, iV x0_commit_View, iV x0_commit_Inst, iV x0_commit_Len, .bool x0_commit_Has, iV x0_commit_Members, iV x0_commit_Source, iV x0_commit_At, iV x0_commit_Total, p0_1, iV x0_commit_Hop, iV x0_commit_Seq, p0_2, p0_3, iV x0_commit_Index, iV x0_commit_Entry_Sess, iV x0_commit_Entry_Seq, iV x0_commit_Entry_Cmd_Kind, iV x0_commit_Entry_Cmd_Who, p0_4, p0_5, p0_6, .bool x0_sure, iV x0_ready] : List Value).toArray 49 (0, 0)), M0_0, Mem.one g_2 (.cells ([iV 0, iV 0, iV 0, iV 0, iV 0, iV 0, .bool false, iV 0, iV 0, iV 0, iV 0, nS, iV 0, iV 0, nS, nS, iV 0, iV 0, iV 0, iV 0, iV 0, nS, nS, nS] : List Value).toArray 29 (0, 0))] Z) 18 (by kernel_rfl) rfl (bA 18 0) (by kernel_rfl) hS fun w_47 hS => ?_
  replace hS : Sep w0 w_47 [_, _, _, _] Z := hS
  refine t_take 0 (bA 18 1) rfl rfl rfl rfl h (hS.sub .ii) (v := .pointer (some ⟨g0, 0, none⟩)) (fun w hS => r_move h rfl) fun a h=>t_take 1 (bA 18 3) rfl rfl rfl rfl h (hS.sub .ii) (v := .pointer (some ⟨g0, 0, none⟩)) (fun w hS => r_nilCheck h rfl) fun a h=>t_take 2 (bA 18 7) rfl rfl rfl rfl h (hS.sub .ii) (v := .pointer (some ⟨g0, 3, none⟩)) (fun w hS => r_fieldAddr h U49 rfl ti30 rfl rfl rfl) fun a h=>t_take 3 (bA 18 15) rfl rfl rfl rfl h (hS.sub .ii) (v := p0_0) (fun w hS => r_load h rfl (hS.load_one (p := 1) rfl U30 rfl rfl)) fun a h=>t_take 4 (bA 18 31) rfl rfl rfl rfl h (hS.sub .ii) (v := .pointer (some ⟨g0, 0, none⟩)) (fun w hS => r_move h rfl) fun a h=>t_take 5 (bA 18 63) rfl rfl rfl rfl h (hS.sub .ii) (v := .pointer (some ⟨g0, 0, none⟩)) (fun w hS => r_nilCheck h rfl) fun a h=>?_
  refine t_take 6 (bA 18 127) rfl rfl rfl rfl h (hS.sub .ii) (v := .pointer (some ⟨g0, 0, none⟩)) (fun w hS => r_fieldAddr h U49 rfl ti3 rfl rfl rfl) fun a h=>t_take 7 (bA 18 255) rfl rfl rfl rfl h (hS.sub .ii) (v := iV x0_n) (fun w hS => r_load h rfl (hS.load_one (p := 1) rfl U3 rfl rfl)) fun a h=>h_event 8 (bA 18 511) rfl (by kernel_rfl) (by kernel_rfl) ?_
  obtain ⟨t_48, et_48, H⟩ := Option.bind_eq_some_iff.1 H
  refine s_call h rfl Try.call26 rfl (hocketref11_Choose.calls K x0_l _ x0_n t_48 w0 _ _ _ (Mem.le.refl _) (hS.enter [] (by decide)) (hp0_0.rd (hS.own_zed [] 1 (by decide)) (hA.trans (hS.le_zed []))) et_48) ?_
  rintro _ w_49 ⟨N_50, rfl, hS'⟩
  intro a h
  obtain ⟨N_51, hS'', le_51, ln_51⟩ := hS.call [] (by decide) rfl (l' := []) (ow := []) rfl hS'
  replace hS : Sep w0 w_49 [N_51, _, _, _] Z := hS''
  clear hS' hS''
  refine wpList_nil <| x_then_n ⟨(hS.sub (.cons le_51 .ii)), ?_⟩
  refine t_take 9 (bA 18 1023) rfl rfl rfl rfl h (hS.sub (.cons le_51 .ii)) (v := .tuple [iV t_48.1, iV t_48.2.1, iV t_48.2.2.1, .bool t_48.2.2.2].toArray) (fun w hS => r_move h rfl) fun a h=>t_take 10 (bA 18 2047) rfl rfl rfl rfl h (hS.sub (.cons le_51 .ii)) (v := iV t_48.1) (fun w hS => r_extract h rfl rfl) fun a h=>t_take 11 (bA 18 4095) rfl rfl rfl rfl h (hS.sub (.cons le_51 .ii)) (v := iV t_48.2.1) (fun w hS => r_extract h rfl rfl) fun a h=>t_take 12 (bA 18 8191) rfl rfl rfl rfl h (hS.sub (.cons le_51 .ii)) (v := iV t_48.2.2.1) (fun w hS => r_extract h rfl rfl) fun a h=>t_take 13 (bA 18 16383) rfl rfl rfl rfl h (hS.sub (.cons le_51 .ii)) (v := .bool t_48.2.2.2) (fun w hS => r_extract h rfl rfl) fun a h=>t_take 14 (bA 18 32767) rfl rfl rfl rfl h (hS.sub (.cons le_51 .ii)) (v := iV t_48.1) (fun w hS => r_assign h rfl) fun a h=>?_
  refine t_take 15 (bA 18 65535) rfl rfl rfl rfl h (hS.sub (.cons le_51 .ii)) (v := iV t_48.2.1) (fun w hS => r_assign h rfl) fun a h=>t_take 16 (bA 18 131071) rfl rfl rfl rfl h (hS.sub (.cons le_51 .ii)) (v := iV t_48.2.2.1) (fun w hS => r_assign h rfl) fun a h=>t_take 17 (bA 18 262143) rfl rfl rfl rfl h (hS.sub (.cons le_51 .ii)) (v := .bool t_48.2.2.2) (fun w hS => r_assign h rfl) fun a h=>h_done (by kernel_rfl) <| x_then_n (hKJ_46 _ _ ?_)
  refine c_seq fun KJ_52 hKJ_52 => wp_seq <| wp_region_lit <| s_move h rfl rfl fun a h=>s_not h rfl rfl fun a h=>wpList_nil ?_
  replace h : Fr 52 a [(0, _), (2, .pointer (some ⟨g_2, 0, none⟩)), (3, .bool false), (4, iV t_48.1), (5, iV t_48.2.1), (6, iV t_48.2.2.1), (28, .bool (!t_48.2.2.2))] := h.keep [0, 2, 3, 4, 5, 6, 28]
  refine x_then_n ?_
  by_cases hc_53 : t_48.2.2.2 = true
  ·rw [if_pos hc_53] at H
   refine c_cond_f h rfl (nf hc_53) <| wp_skip <| x_then_n (hKJ_52 _ _ ?_)
   refine wp_seq <| wp_region_lit <| s_move h rfl rfl fun a h=>s_nilCheck h rfl rfl fun a h=>s_fieldAddr h rfl U49 rfl ti4 rfl rfl fun a h=>?_
   obtain ⟨w_54, hs', hS'⟩ := hS.store (P := Try.prog) (p := 1) (o := 28) (t := 4) (v := .bool true) (vs := [.bool true]) rfl ti4 rfl rfl rfl (by intro u hu; simp only [List.mem_cons, List.not_mem_nil, or_false] at hu; rcases hu with rfl <;> rfl)
   refine s_store h rfl rfl hs' ?_
   replace hS : Sep w0 w_54 [_, Mem.one g0 (.cells ([_, _, _, _, _, _, _, _, _, _, _, _, _, _, _, _, _, _, _, _, _, _, _, _, _, _, _, _, .bool true, _] : List Value).toArray 49 (0, 0)), _, _] Z := hS'
   clear hs' hS'
   refine wpList_nil <| x_then_n <| h_begin (S := fun w => Sep w0 w [N_51, Mem.no, M0_0, Mem.one g_2 (.cells ([iV 0, iV 0, iV 0, iV 0, iV 0, iV 0, .bool false, iV 0, iV 0, iV 0, iV 0, nS, iV 0, iV 0, nS, nS, iV 0, iV 0, iV 0, iV 0, iV 0, nS, nS, nS] : List Value).toArray 29 (0, 0))] Z) 16 (by kernel_rfl) rfl (bA 16 0) (by kernel_rfl) hS fun w_55 hS => ?_
   replace hS : Sep w0 w_55 [_, _, _, _] Z := hS
   refine t_take 0 (bA 16 1) rfl rfl rfl rfl h (hS.sub (.cons (Mem.le.refl _) (.zz .ii))) (v := .pointer (some ⟨g0, 0, none⟩)) (fun w hS => r_move h rfl) fun a h=>t_take 1 (bA 16 3) rfl rfl rfl rfl h (hS.sub (.cons (Mem.le.refl _) (.zz .ii))) (v := .pointer (some ⟨g0, 0, none⟩)) (fun w hS => r_move h rfl) fun a h=>t_take 2 (bA 16 7) rfl rfl rfl rfl h (hS.sub (.cons (Mem.le.refl _) (.zz .ii))) (v := .pointer (some ⟨g0, 0, none⟩)) (fun w hS => r_nilCheck h rfl) fun a h=>t_take 3 (bA 16 15) rfl rfl rfl rfl h (hS.sub (.cons (Mem.le.refl _) (.zz .ii))) (v := .pointer (some ⟨g0, 1, none⟩)) (fun w hS => r_fieldAddr h U49 rfl ti3 rfl rfl rfl) fun a h=>t_take 5 (bA 16 47) rfl rfl rfl rfl h (hS.sub (.cons (Mem.le.refl _) (.zz .ii))) (v := .pointer (some ⟨g0, 0, none⟩)) (fun w hS => r_move h rfl) fun a h=>t_take 6 (bA 16 111) rfl rfl rfl rfl h (hS.sub (.cons (Mem.le.refl _) (.zz .ii))) (v := .pointer (some ⟨g0, 0, none⟩)) (fun w hS => r_nilCheck h rfl) fun a h=>?_
   refine t_take 7 (bA 16 239) rfl rfl rfl rfl h (hS.sub (.cons (Mem.le.refl _) (.zz .ii))) (v := .pointer (some ⟨g0, 2, none⟩)) (fun w hS => r_fieldAddr h U49 rfl ti3 rfl rfl rfl) fun a h=>t_take 9 (bA 16 751) rfl rfl rfl rfl h (hS.sub (.cons (Mem.le.refl _) (.zz .ii))) (v := iV t_48.1) (fun w hS => r_move h rfl) fun a h=>t_take 10 (bA 16 1775) rfl rfl rfl rfl h (hS.sub (.cons (Mem.le.refl _) (.zz .ii))) (v := iV t_48.2.1) (fun w hS => r_move h rfl) fun a h=>t_take 11 (bA 16 3823) rfl rfl rfl rfl h (hS.sub (.cons (Mem.le.refl _) (.zz .ii))) (v := iV t_48.2.2.1) (fun w hS => r_move h rfl) fun a h=>h_events [4, 8] (by kernel_rfl) (by simp) ?_
   intro i hi; simp only [List.mem_cons, List.not_mem_nil, or_false] at hi; rcases hi with rfl | rfl
   ·refine ⟨_, (bA 16 3839), rfl, by kernel_rfl, ?_⟩
    refine s_load h rfl rfl (hS.load_one (p := 1) rfl U3 rfl rfl) fun a h=>wpList_nil <| x_then_n ⟨(hS.sub (.cons (Mem.le.refl _) (.zz .ii))), ?_⟩
    refine h_event 8 (bA 16 4095) rfl (by kernel_rfl) (by kernel_rfl) <| s_load h rfl rfl (hS.load_one (p := 1) rfl U3 rfl rfl) fun a h=>wpList_nil <| x_then_n ⟨(hS.sub (.cons (Mem.le.refl _) (.zz .ii))), ?_⟩
    refine t_take 12 (bA 16 8191) rfl rfl rfl rfl h (hS.sub (.cons (Mem.le.refl _) (.zz .ii))) (v := .agg ([iV 3, iV x0_id, iV 0, iV x0_v, iV 0, iV t_48.2.2.1, .bool false, iV t_48.1, iV t_48.2.1, iV 0, iV 0, nS, iV 0, iV 0, nS, nS, iV 0, iV 0, iV 0, iV 0, iV 0, nS, nS, nS] : List Value).toArray) (fun w hS => r_build h ti29 pl29 rfl (.cons rfl (.cons rfl (.cons rfl (.cons rfl (.cons rfl (.cons rfl .nil)))))) (cs := [iV 3, iV x0_id, iV 0, iV x0_v, iV 0, iV t_48.2.2.1, .bool false, iV t_48.1, iV t_48.2.1, iV 0, iV 0, nS, iV 0, iV 0, nS, nS, iV 0, iV 0, iV 0, iV 0, iV 0, nS, nS, nS]) (by kernel_rfl)) fun a h=>t_take 13 (bA 16 16383) rfl rfl rfl rfl h (hS.sub (.cons (Mem.le.refl _) (.zz .ii))) (v := .pointer (some ⟨g0, 0, none⟩)) (fun w hS => r_nilCheck h rfl) fun a h=>t_take 14 (bA 16 32767) rfl rfl rfl rfl h (hS.sub (.cons (Mem.le.refl _) (.zz .ii))) (v := .pointer (some ⟨g0, 4, none⟩)) (fun w hS => r_fieldAddr h U49 rfl ti29 rfl rfl rfl) fun a h=>?_
    refine h_event 15 (bA 16 65535) rfl (by kernel_rfl) (by kernel_rfl) ?_
    obtain ⟨w_56, hs', hS'⟩ := hS.store (P := Try.prog) (p := 1) (o := 4) (t := 29) (v := .agg ([iV 3, iV x0_id, iV 0, iV x0_v, iV 0, iV t_48.2.2.1, .bool false, iV t_48.1, iV t_48.2.1, iV 0, iV 0, nS, iV 0, iV 0, nS, nS, iV 0, iV 0, iV 0, iV 0, iV 0, nS, nS, nS] : List Value).toArray) (vs := [iV 3, iV x0_id, iV 0, iV x0_v, iV 0, iV t_48.2.2.1, .bool false, iV t_48.1, iV t_48.2.1, iV 0, iV 0, nS, iV 0, iV 0, nS, nS, iV 0, iV 0, iV 0, iV 0, iV 0, nS, nS, nS]) rfl ti29 rfl rfl rfl (by intro u hu; simp only [List.mem_cons, List.not_mem_nil, or_false] at hu; rcases hu with rfl | rfl | rfl | rfl | rfl | rfl | rfl | rfl | rfl | rfl | rfl | rfl | rfl | rfl | rfl | rfl | rfl | rfl | rfl | rfl | rfl | rfl | rfl | rfl <;> rfl)
    refine s_store h rfl rfl hs' ?_
    replace hS : Sep w0 w_56 [_, Mem.one g0 (.cells ([_, _, _, _, iV 3, iV x0_id, iV 0, iV x0_v, iV 0, iV t_48.2.2.1, .bool false, iV t_48.1, iV t_48.2.1, iV 0, iV 0, nS, iV 0, iV 0, nS, nS, iV 0, iV 0, iV 0, iV 0, iV 0, nS, nS, nS, _, _] : List Value).toArray 49 (0, 0)), _, _] Z := hS'
    clear hs' hS'
    refine wpList_nil <| x_then_n ⟨(hS.sub (.cons (Mem.le.refl _) (.zz .ii))), ?_⟩
    refine h_done (by kernel_rfl) ?_
    replace hS : Sep w0 w_56 [_, _, _, _] Z := hS
    replace h : Fr 52 a [(0, _), (2, _), (3, _)] := h.keep [0, 2, 3]
    exact x_then_n (hJ_j_43 3 x0_id 0 x0_v 0 t_48.2.2.1 false t_48.1 t_48.2.1 0 0 ([] : List UInt8) 0 0 ([] : List Int) ([] : List Int) 0 0 0 0 0 ([] : List UInt8) ([] : List UInt8) ([] : List UInt8) true H _ _ ⟨nS, nS, nS, nS, nS, nS, N_51, h, (Sep.sel hS [0, 1, 2, 3] (by decide)), le_51, (Rd.nil _ _), (Rd.nil _ _), (Rd.nil _ _), (Rd.nil _ _), (Rd.nil _ _), (Rd.nil _ _)⟩)
   ·refine ⟨_, (bA 16 4079), rfl, by kernel_rfl, ?_⟩
    refine s_load h rfl rfl (hS.load_one (p := 1) rfl U3 rfl rfl) fun a h=>wpList_nil <| x_then_n ⟨(hS.sub (.cons (Mem.le.refl _) (.zz .ii))), ?_⟩
    refine h_event 4 (bA 16 4095) rfl (by kernel_rfl) (by kernel_rfl) <| s_load h rfl rfl (hS.load_one (p := 1) rfl U3 rfl rfl) fun a h=>wpList_nil <| x_then_n ⟨(hS.sub (.cons (Mem.le.refl _) (.zz .ii))), ?_⟩
    refine t_take 12 (bA 16 8191) rfl rfl rfl rfl h (hS.sub (.cons (Mem.le.refl _) (.zz .ii))) (v := .agg ([iV 3, iV x0_id, iV 0, iV x0_v, iV 0, iV t_48.2.2.1, .bool false, iV t_48.1, iV t_48.2.1, iV 0, iV 0, nS, iV 0, iV 0, nS, nS, iV 0, iV 0, iV 0, iV 0, iV 0, nS, nS, nS] : List Value).toArray) (fun w hS => r_build h ti29 pl29 rfl (.cons rfl (.cons rfl (.cons rfl (.cons rfl (.cons rfl (.cons rfl .nil)))))) (cs := [iV 3, iV x0_id, iV 0, iV x0_v, iV 0, iV t_48.2.2.1, .bool false, iV t_48.1, iV t_48.2.1, iV 0, iV 0, nS, iV 0, iV 0, nS, nS, iV 0, iV 0, iV 0, iV 0, iV 0, nS, nS, nS]) (by kernel_rfl)) fun a h=>t_take 13 (bA 16 16383) rfl rfl rfl rfl h (hS.sub (.cons (Mem.le.refl _) (.zz .ii))) (v := .pointer (some ⟨g0, 0, none⟩)) (fun w hS => r_nilCheck h rfl) fun a h=>t_take 14 (bA 16 32767) rfl rfl rfl rfl h (hS.sub (.cons (Mem.le.refl _) (.zz .ii))) (v := .pointer (some ⟨g0, 4, none⟩)) (fun w hS => r_fieldAddr h U49 rfl ti29 rfl rfl rfl) fun a h=>?_
    refine h_event 15 (bA 16 65535) rfl (by kernel_rfl) (by kernel_rfl) ?_
    obtain ⟨w_57, hs', hS'⟩ := hS.store (P := Try.prog) (p := 1) (o := 4) (t := 29) (v := .agg ([iV 3, iV x0_id, iV 0, iV x0_v, iV 0, iV t_48.2.2.1, .bool false, iV t_48.1, iV t_48.2.1, iV 0, iV 0, nS, iV 0, iV 0, nS, nS, iV 0, iV 0, iV 0, iV 0, iV 0, nS, nS, nS] : List Value).toArray) (vs := [iV 3, iV x0_id, iV 0, iV x0_v, iV 0, iV t_48.2.2.1, .bool false, iV t_48.1, iV t_48.2.1, iV 0, iV 0, nS, iV 0, iV 0, nS, nS, iV 0, iV 0, iV 0, iV 0, iV 0, nS, nS, nS]) rfl ti29 rfl rfl rfl (by intro u hu; simp only [List.mem_cons, List.not_mem_nil, or_false] at hu; rcases hu with rfl | rfl | rfl | rfl | rfl | rfl | rfl | rfl | rfl | rfl | rfl | rfl | rfl | rfl | rfl | rfl | rfl | rfl | rfl | rfl | rfl | rfl | rfl | rfl <;> rfl)
    refine s_store h rfl rfl hs' ?_
    replace hS : Sep w0 w_57 [_, Mem.one g0 (.cells ([_, _, _, _, iV 3, iV x0_id, iV 0, iV x0_v, iV 0, iV t_48.2.2.1, .bool false, iV t_48.1, iV t_48.2.1, iV 0, iV 0, nS, iV 0, iV 0, nS, nS, iV 0, iV 0, iV 0, iV 0, iV 0, nS, nS, nS, _, _] : List Value).toArray 49 (0, 0)), _, _] Z := hS'
    clear hs' hS'
    refine wpList_nil <| x_then_n ⟨(hS.sub (.cons (Mem.le.refl _) (.zz .ii))), ?_⟩
    refine h_done (by kernel_rfl) ?_
    replace hS : Sep w0 w_57 [_, _, _, _] Z := hS
    replace h : Fr 52 a [(0, _), (2, _), (3, _)] := h.keep [0, 2, 3]
    exact x_then_n (hJ_j_43 3 x0_id 0 x0_v 0 t_48.2.2.1 false t_48.1 t_48.2.1 0 0 ([] : List UInt8) 0 0 ([] : List Int) ([] : List Int) 0 0 0 0 0 ([] : List UInt8) ([] : List UInt8) ([] : List UInt8) true H _ _ ⟨nS, nS, nS, nS, nS, nS, N_51, h, (Sep.sel hS [0, 1, 2, 3] (by decide)), le_51, (Rd.nil _ _), (Rd.nil _ _), (Rd.nil _ _), (Rd.nil _ _), (Rd.nil _ _), (Rd.nil _ _)⟩)
  ·rw [if_neg hc_53] at H
   refine c_cond_t h rfl (nt (Bool.eq_false_iff.2 hc_53)) <| wp_seq <| wp_region_lit <| s_build h rfl ti29 pl29 rfl .nil (cs := [iV 0, iV 0, iV 0, iV 0, iV 0, iV 0, .bool false, iV 0, iV 0, iV 0, iV 0, nS, iV 0, iV 0, nS, nS, iV 0, iV 0, iV 0, iV 0, iV 0, nS, nS, nS]) (by kernel_rfl) fun a h=>?_
   obtain ⟨w_58, hs', hS'⟩ := hS.store (P := Try.prog) (p := 3) (o := 0) (t := 29) (v := .agg ([iV 0, iV 0, iV 0, iV 0, iV 0, iV 0, .bool false, iV 0, iV 0, iV 0, iV 0, nS, iV 0, iV 0, nS, nS, iV 0, iV 0, iV 0, iV 0, iV 0, nS, nS, nS] : List Value).toArray) (vs := [iV 0, iV 0, iV 0, iV 0, iV 0, iV 0, .bool false, iV 0, iV 0, iV 0, iV 0, nS, iV 0, iV 0, nS, nS, iV 0, iV 0, iV 0, iV 0, iV 0, nS, nS, nS]) rfl ti29 rfl rfl rfl (by intro u hu; simp only [List.mem_cons, List.not_mem_nil, or_false] at hu; rcases hu with rfl | rfl | rfl | rfl | rfl | rfl | rfl | rfl | rfl | rfl | rfl | rfl | rfl | rfl | rfl | rfl | rfl | rfl | rfl | rfl | rfl | rfl | rfl | rfl <;> rfl)
   refine s_store h rfl rfl hs' ?_
   replace hS : Sep w0 w_58 [_, _, _, _] Z := hS'
   clear hs' hS'
   refine s_assign h rfl rfl fun a h=>wpList_nil <| x_then_n <| wp_ret (x_then_r (x_then_r ?_))
   obtain rfl := Option.some.inj H
   exact f_ret h (rs := [.cell 2 29, .tmp 3]) rfl (.cell rfl (hS.load_agg (p := 3) (us := [iV 0, iV 0, iV 0, iV 0, iV 0, iV 0, .bool false, iV 0, iV 0, iV 0, iV 0, nS, iV 0, iV 0, nS, nS, iV 0, iV 0, iV 0, iV 0, iV 0, nS, nS, nS]) rfl U29 rfl ti29 rfl rfl) (.tmp rfl .nil)) ⟨_, rfl, nS, nS, nS, nS, nS, nS, p0_0, p0_1, p0_2, p0_3, p0_4, p0_5, p0_6, N_51, M0_0, rfl, (Sep.sel hS [0, 1, 2] (by decide)), (Rd.nil _ _), (Rd.nil _ _), (Rd.nil _ _), (Rd.nil _ _), (Rd.nil _ _), (Rd.nil _ _), (hp0_0.mono (Mem.le_un _ _)), (hp0_1.mono (Mem.le_un _ _)), (hp0_2.mono (Mem.le_un _ _)), (hp0_3.mono (Mem.le_un _ _)), (hp0_4.mono (Mem.le_un _ _)), (hp0_5.mono (Mem.le_un _ _)), (hp0_6.mono (Mem.le_un _ _))⟩

set_option maxHeartbeats 4000000 in
set_option maxRecDepth 20000 in
theorem hocketref1_SameInts.calls (K : Nat) (x0 : List Int) (p0_0 : Value) (x1 : List Int) (p1_1 : Value) (r : Bool) (w0 w : World) (Z A : Mem) (hA : A.le Z) (hS : Sep w0 w [] Z) (hp0_0 : Rd (Kd.int .i64) A p0_0 x0) (hp1_1 : Rd (Kd.int .i64) A p1_1 x1)
    (H : hocketref1_SameInts.f K x0 x1 = some r) :
    Calls Try.prog 14 [p0_0, p1_1].toArray w (Ret fun v w' => ∃ (N : Mem), v = .bool r ∧ Sep w0 w' [N] Z) := by
 unfold hocketref1_SameInts.f at H
 refine f_enter _ Try.func14 rfl Try.ntmps14 rfl fun a h=>?_
 replace h : Fr 26 a [(0, p0_0), (1, p1_1)] := h
 replace hS := hS.start
 replace hS : Sep w0 w [_] Z := hS
 refine wp_seq <| wp_region_lit <| s_assign h rfl rfl fun a h=>wpList_nil <| x_then_n <| c_seq fun KJ_1 hKJ_1 => wp_seq <| wp_region_lit <| s_move h rfl rfl fun a h=>s_len h rfl U23 rfl hp0_0 fun a h=>s_move h rfl rfl fun a h=>s_len h rfl U23 rfl hp1_1 fun a h=>?_
 refine s_cmp (b := ((x0.length : Int) != (x1.length : Int))) h rfl rfl rfl (.inr (.inl ⟨rfl, rfl⟩)) fun a h=>wpList_nil <| x_then_n ?_
 by_cases hc_2 : (x0.length : Int) = (x1.length : Int)
 ·rw [if_pos hc_2] at H
  refine c_cond_f h rfl (bne_eq_false_iff_eq.2 hc_2) <| wp_skip <| x_then_n (hKJ_1 _ _ ?_)
  refine c_seq fun KJ_3 hKJ_3 => wp_seq <| wp_region_lit <| s_assign h rfl rfl fun a h=>wpList_nil <| x_then_n ?_
  have hJ_j_6 : hocketref1_SameInts.J1 K = some r → ∀ (a : Act) (w_5 : World), (∃ (N_4 : Mem), Fr 26 a [(4, .bool false)] ∧ Sep w0 w_5 [N_4] Z ∧ Mem.no.le N_4) → KJ_3 a w_5 := by
   clear H h hS a
   rintro H a w_5 ⟨N_4, h, hS, le_4⟩
   unfold hocketref1_SameInts.J1 at H
   refine hKJ_3 _ _ <| wp_seq <| wp_region_lit <| s_assign h rfl rfl fun a h=>wpList_nil ?_
   replace h : Fr 26 a [(4, .bool true)] := h.keep [4]
   refine x_then_n <| wp_ret ?_
   obtain rfl := Option.some.inj H
   exact f_ret h (rs := [.tmp 4]) rfl (.tmp rfl .nil) ⟨_, rfl, N_4, rfl, (Sep.sel hS [0] (by decide))⟩
  clear hKJ_3
  replace hS : Sep w0 w [_] Z := hS
  replace h : Fr 26 a [(0, _), (1, _), (4, .bool false), (5, iV 0)] := h.keep [0, 1, 4, 5]
  refine c_block <| c_loop (fun k_9 a w_9 => ∃ (x_8 : Int) (N_7 : Mem), hocketref1_SameInts.L1 K x0 x1 (fun v => hocketref1_SameInts.J1 K) k_9 x_8 = some r ∧ Fr 26 a [(0, p0_0), (1, p1_1), (4, .bool false), (5, iV x_8)] ∧ Sep w0 w_9 [N_7] Z ∧ Mem.no.le N_7) K ⟨0, Mem.no, H, h, (Sep.sel hS [0] (by decide)), (Mem.le.refl _)⟩ (fun a w h => by obtain ⟨_, _, H, _⟩ := h; cases (show (none : Option (Bool)) = some r from H)) ?_
  clear h hS a H
  rintro k_9 a w_9 KL_9 hKL_9 ⟨x_8, N_7, H, h, hS, le_7⟩
  replace H : hocketref1_SameInts.B1 K x0 x1 (fun v => hocketref1_SameInts.J1 K) (hocketref1_SameInts.L1 K x0 x1 (fun v => hocketref1_SameInts.J1 K) k_9) x_8 = some r := H
  unfold hocketref1_SameInts.B1 at H
  refine c_seq fun KJ_11 hKJ_11 => wp_seq <| wp_region_lit <| s_move h rfl rfl fun a h=>s_move h rfl rfl fun a h=>s_len h rfl U23 rfl hp0_0 fun a h=>s_cmp (b := decide (x_8 < (x0.length : Int))) h rfl rfl rfl (.inr (.inr (.inl ⟨rfl, rfl⟩))) fun a h=>wpList_nil ?_
  replace h : Fr 26 a [(0, _), (1, _), (4, _), (5, _), (14, .bool (decide (x_8 < (x0.length : Int))))] := h.keep [0, 1, 4, 5, 14]
  refine x_then_n ?_
  by_cases hc_12 : x_8 < (x0.length : Int)
  ·rw [if_pos hc_12] at H
   refine c_cond_t h rfl (decide_eq_true hc_12) <| wp_skip <| x_then_n (hKJ_11 _ _ ?_)
   refine c_seq fun KJ_13 hKJ_13 => c_block <| c_seq fun KJ_14 hKJ_14 => h_begin (S := fun w => Sep w0 w [N_7] Z) 9 (by kernel_rfl) rfl (bA 9 0) (by kernel_rfl) hS fun w_15 hS => ?_
   replace hS : Sep w0 w_15 [_] Z := hS
   refine t_take 0 (bA 9 1) rfl rfl rfl rfl h (hS.sub .ii) (v := p0_0) (fun w hS => r_move h rfl) fun a h=>t_take 1 (bA 9 3) rfl rfl rfl rfl h (hS.sub .ii) (v := iV x_8) (fun w hS => r_move h rfl) fun a h=>?_
   obtain ⟨t_16, et_16, H⟩ := Option.bind_eq_some_iff.1 H
   refine t_takeE 2 (bA 9 7) rfl rfl rfl rfl h (hS.sub .ii) (f := fun ad => .pointer (some ad)) (r_index h U23 ti3 rfl rfl rfl hp0_0 et_16) ?_
   rintro ad_17 ⟨cs_18, hk_19, hc_20⟩
   obtain rfl := (show cs_18 = [iV t_16] from hk_19)
   intro a h
   refine t_take 3 (bA 9 15) rfl rfl rfl rfl h (hS.sub .ii) (v := iV t_16) (fun w hS => r_load h rfl (el_one (o := 0) (fun j c h => Mem.cell_le (hA.trans hS.old) (hc_20 j c h)) U3 rfl rfl)) fun a h=>t_take 4 (bA 9 31) rfl rfl rfl rfl h (hS.sub .ii) (v := p1_1) (fun w hS => r_move h rfl) fun a h=>t_take 5 (bA 9 63) rfl rfl rfl rfl h (hS.sub .ii) (v := iV x_8) (fun w hS => r_move h rfl) fun a h=>?_
   obtain ⟨t_21, et_21, H⟩ := Option.bind_eq_some_iff.1 H
   refine t_takeE 6 (bA 9 127) rfl rfl rfl rfl h (hS.sub .ii) (f := fun ad => .pointer (some ad)) (r_index h U23 ti3 rfl rfl rfl hp1_1 et_21) ?_
   rintro ad_22 ⟨cs_23, hk_24, hc_25⟩
   obtain rfl := (show cs_23 = [iV t_21] from hk_24)
   intro a h
   refine t_take 7 (bA 9 255) rfl rfl rfl rfl h (hS.sub .ii) (v := iV t_21) (fun w hS => r_load h rfl (el_one (o := 0) (fun j c h => Mem.cell_le (hA.trans hS.old) (hc_25 j c h)) U3 rfl rfl)) fun a h=>t_take 8 (bA 9 511) rfl rfl rfl rfl h (hS.sub .ii) (v := .bool (t_16 != t_21)) (fun w hS => r_cmp (b := (t_16 != t_21)) h rfl rfl (.inr (.inl ⟨rfl, rfl⟩))) fun a h=>h_done (by kernel_rfl) <| x_then_n (hKJ_14 _ _ ?_)
   by_cases hc_26 : t_16 = t_21
   ·rw [if_pos hc_26] at H
    refine c_cond_f h rfl (bne_eq_false_iff_eq.2 hc_26) <| wp_skip <| x_block_n <| x_then_n (hKJ_13 _ _ ?_)
    refine wp_region_lit <| s_move h rfl rfl fun a h=>s_arith (r := w64 (x_8 + 1)) h rfl rfl rfl (.inl ⟨rfl, rfl⟩) fun a h=>s_assign h rfl rfl fun a h=>wpList_nil <| x_then_n (hKL_9 _ _ ?_)
    replace hS : Sep w0 w_15 [_] Z := hS
    replace h : Fr 26 a [(0, _), (1, _), (4, _), (5, iV (w64 (x_8 + 1)))] := h.keep [0, 1, 4, 5]
    exact ⟨w64 (x_8 + 1), N_7, H, h, (Sep.sel hS [0] (by decide)), le_7⟩
   ·rw [if_neg hc_26] at H
    refine c_cond_t h rfl (bne_iff_ne.2 hc_26) <| wp_seq <| wp_region_lit <| s_assign h rfl rfl fun a h=>wpList_nil <| x_then_n <| wp_ret (x_block_r (x_then_r (x_then_r (x_block_r (x_then_r ?_)))))
    obtain rfl := Option.some.inj H
    exact f_ret h (rs := [.tmp 4]) rfl (.tmp rfl .nil) ⟨_, rfl, N_7, rfl, (Sep.sel hS [0] (by decide))⟩
  ·rw [if_neg hc_12] at H
   refine c_cond_f h rfl (decide_eq_false hc_12) <| wp_exit (x_then_x (x_then_x (x_block_t ?_)))
   replace hS : Sep w0 w_9 [_] Z := hS
   replace h : Fr 26 a [(4, _)] := h.keep [4]
   exact x_then_n (hJ_j_6  H _ _ ⟨N_7, h, (Sep.sel hS [0] (by decide)), le_7⟩)
 ·rw [if_neg hc_2] at H
  refine c_cond_t h rfl (bne_iff_ne.2 hc_2) <| wp_seq <| wp_region_lit <| s_assign h rfl rfl fun a h=>wpList_nil <| x_then_n <| wp_ret (x_then_r ?_)
  obtain rfl := Option.some.inj H
  exact f_ret h (rs := [.tmp 4]) rfl (.tmp rfl .nil) ⟨_, rfl, Mem.no, rfl, (Sep.sel hS [0] (by decide))⟩

set_option maxHeartbeats 4000000 in
set_option maxRecDepth 20000 in
theorem hocketref4_SameEntry.calls (x0 : api_Entry) (p0_0 : Value) (p0_1 : Value) (p0_2 : Value) (x1 : api_Entry) (p1_3 : Value) (p1_4 : Value) (p1_5 : Value) (r : Bool) (w0 w : World) (Z A : Mem) (hA : A.le Z) (hS : Sep w0 w [] Z) (hp0_0 : Rd Kd.u8 A p0_0 x0.Cmd.Key) (hp0_1 : Rd Kd.u8 A p0_1 x0.Cmd.Val) (hp0_2 : Rd Kd.u8 A p0_2 x0.Cmd.Old) (hp1_3 : Rd Kd.u8 A p1_3 x1.Cmd.Key) (hp1_4 : Rd Kd.u8 A p1_4 x1.Cmd.Val) (hp1_5 : Rd Kd.u8 A p1_5 x1.Cmd.Old)
    (H : hocketref4_SameEntry.f x0 x1 = some r) :
    Calls Try.prog 27 [.agg ([iV x0.Sess, iV x0.Seq, iV x0.Cmd.Kind, iV x0.Cmd.Who, p0_0, p0_1, p0_2] : List Value).toArray, .agg ([iV x1.Sess, iV x1.Seq, iV x1.Cmd.Kind, iV x1.Cmd.Who, p1_3, p1_4, p1_5] : List Value).toArray].toArray w (Ret fun v w' => ∃ (N : Mem), v = .bool r ∧ Sep w0 w' [N] Z) := by
 unfold hocketref4_SameEntry.f at H
 refine f_enter _ Try.func27 rfl Try.ntmps27 rfl fun a h=>?_
 replace h : Fr 68 a [(0, .agg ([iV x0.Sess, iV x0.Seq, iV x0.Cmd.Kind, iV x0.Cmd.Who, p0_0, p0_1, p0_2] : List Value).toArray), (1, .agg ([iV x1.Sess, iV x1.Seq, iV x1.Cmd.Kind, iV x1.Cmd.Who, p1_3, p1_4, p1_5] : List Value).toArray)] := h
 replace hS := hS.start
 replace hS : Sep w0 w [_] Z := hS
 refine wp_seq <| wp_region_lit <| v_box (vs := [iV x0.Sess, iV x0.Seq, iV x0.Cmd.Kind, iV x0.Cmd.Who, p0_0, p0_1, p0_2]) h rfl rfl rfl hS fun w_1 g_2 hS' a h => ?_
 replace hS : Sep w0 w_1 [_, Mem.one g_2 (.cells ([iV x0.Sess, iV x0.Seq, iV x0.Cmd.Kind, iV x0.Cmd.Who, p0_0, p0_1, p0_2] : List Value).toArray 27 (0, 0))] Z := hS'
 clear hS'
 refine v_box (vs := [iV x1.Sess, iV x1.Seq, iV x1.Cmd.Kind, iV x1.Cmd.Who, p1_3, p1_4, p1_5]) h rfl rfl rfl hS fun w_3 g_4 hS' a h => ?_
 replace hS : Sep w0 w_3 [_, _, Mem.one g_4 (.cells ([iV x1.Sess, iV x1.Seq, iV x1.Cmd.Kind, iV x1.Cmd.Who, p1_3, p1_4, p1_5] : List Value).toArray 27 (0, 0))] Z := hS'
 clear hS'
 refine s_assign h rfl rfl fun a h=>wpList_nil <| x_then_n <| c_seq fun KJ_5 hKJ_5 => wp_region_lit <| s_fieldAddr h rfl U27 rfl ti3 rfl rfl fun a h=>s_load h rfl rfl (hS.load_one (p := 1) rfl U3 rfl rfl) fun a h=>s_fieldAddr h rfl U27 rfl ti3 rfl rfl fun a h=>s_load h rfl rfl (hS.load_one (p := 2) rfl U3 rfl rfl) fun a h=>s_cmp (b := (x0.Sess == x1.Sess)) h rfl rfl rfl (.inl ⟨rfl, rfl⟩) fun a h=>s_move h rfl rfl fun a h=>?_
 by_cases hc_6 : x0.Sess = x1.Sess
 ·rw [if_pos hc_6] at H
  refine s_on h rfl rfl (beq_iff_eq.2 hc_6) <| s_fieldAddr h rfl U27 rfl ti3 rfl rfl fun a h=>s_on h rfl rfl (beq_iff_eq.2 hc_6) <| s_load h rfl rfl (hS.load_one (p := 1) rfl U3 rfl rfl) fun a h=>s_on h rfl rfl (beq_iff_eq.2 hc_6) <| s_fieldAddr h rfl U27 rfl ti3 rfl rfl fun a h=>s_on h rfl rfl (beq_iff_eq.2 hc_6) <| s_load h rfl rfl (hS.load_one (p := 2) rfl U3 rfl rfl) fun a h=>s_on h rfl rfl (beq_iff_eq.2 hc_6) <| s_cmp (b := (x0.Seq == x1.Seq)) h rfl rfl rfl (.inl ⟨rfl, rfl⟩) fun a h=>s_pick_t h rfl rfl (beq_iff_eq.2 hc_6) rfl fun a h=>s_move h rfl rfl fun a h=>?_
  by_cases hc_7 : x0.Seq = x1.Seq
  ·rw [if_pos hc_7] at H
   refine s_on h rfl rfl (beq_iff_eq.2 hc_7) <| s_fieldAddr h rfl U27 rfl ti25 rfl rfl fun a h=>s_on h rfl rfl (beq_iff_eq.2 hc_7) <| s_fieldAddr h rfl U25 rfl ti3 rfl rfl fun a h=>s_on h rfl rfl (beq_iff_eq.2 hc_7) <| s_load h rfl rfl (hS.load_one (p := 1) rfl U3 rfl rfl) fun a h=>s_on h rfl rfl (beq_iff_eq.2 hc_7) <| s_fieldAddr h rfl U27 rfl ti25 rfl rfl fun a h=>s_on h rfl rfl (beq_iff_eq.2 hc_7) <| s_fieldAddr h rfl U25 rfl ti3 rfl rfl fun a h=>s_on h rfl rfl (beq_iff_eq.2 hc_7) <| s_load h rfl rfl (hS.load_one (p := 2) rfl U3 rfl rfl) fun a h=>?_
   refine s_on h rfl rfl (beq_iff_eq.2 hc_7) <| s_cmp (b := (x0.Cmd.Kind == x1.Cmd.Kind)) h rfl rfl rfl (.inl ⟨rfl, rfl⟩) fun a h=>s_pick_t h rfl rfl (beq_iff_eq.2 hc_7) rfl fun a h=>s_move h rfl rfl fun a h=>?_
   by_cases hc_8 : x0.Cmd.Kind = x1.Cmd.Kind
   ·rw [if_pos hc_8] at H
    refine s_on h rfl rfl (beq_iff_eq.2 hc_8) <| s_fieldAddr h rfl U27 rfl ti25 rfl rfl fun a h=>s_on h rfl rfl (beq_iff_eq.2 hc_8) <| s_fieldAddr h rfl U25 rfl ti3 rfl rfl fun a h=>s_on h rfl rfl (beq_iff_eq.2 hc_8) <| s_load h rfl rfl (hS.load_one (p := 1) rfl U3 rfl rfl) fun a h=>s_on h rfl rfl (beq_iff_eq.2 hc_8) <| s_fieldAddr h rfl U27 rfl ti25 rfl rfl fun a h=>s_on h rfl rfl (beq_iff_eq.2 hc_8) <| s_fieldAddr h rfl U25 rfl ti3 rfl rfl fun a h=>s_on h rfl rfl (beq_iff_eq.2 hc_8) <| s_load h rfl rfl (hS.load_one (p := 2) rfl U3 rfl rfl) fun a h=>?_
    refine s_on h rfl rfl (beq_iff_eq.2 hc_8) <| s_cmp (b := (x0.Cmd.Who == x1.Cmd.Who)) h rfl rfl rfl (.inl ⟨rfl, rfl⟩) fun a h=>s_pick_t h rfl rfl (beq_iff_eq.2 hc_8) rfl fun a h=>s_move h rfl rfl fun a h=>?_
    by_cases hc_9 : x0.Cmd.Who = x1.Cmd.Who
    ·rw [if_pos hc_9] at H
     refine s_on h rfl rfl (beq_iff_eq.2 hc_9) <| s_fieldAddr h rfl U27 rfl ti25 rfl rfl fun a h=>s_on h rfl rfl (beq_iff_eq.2 hc_9) <| s_fieldAddr h rfl U25 rfl ti22 rfl rfl fun a h=>s_on h rfl rfl (beq_iff_eq.2 hc_9) <| s_load h rfl rfl (hS.load_one (p := 1) rfl U22 rfl rfl) fun a h=>s_on h rfl rfl (beq_iff_eq.2 hc_9) <| s_b2s h rfl U22 U5 U9 rfl hp0_0 (hA.trans hS.old) fun a h=>s_on h rfl rfl (beq_iff_eq.2 hc_9) <| s_fieldAddr h rfl U27 rfl ti25 rfl rfl fun a h=>s_on h rfl rfl (beq_iff_eq.2 hc_9) <| s_fieldAddr h rfl U25 rfl ti22 rfl rfl fun a h=>?_
     refine s_on h rfl rfl (beq_iff_eq.2 hc_9) <| s_load h rfl rfl (hS.load_one (p := 2) rfl U22 rfl rfl) fun a h=>s_on h rfl rfl (beq_iff_eq.2 hc_9) <| s_b2s h rfl U22 U5 U9 rfl hp1_3 (hA.trans hS.old) fun a h=>s_on h rfl rfl (beq_iff_eq.2 hc_9) <| s_strEq (b := (x0.Cmd.Key == x1.Cmd.Key)) h rfl rfl rfl (.inl ⟨rfl, rfl⟩) fun a h=>s_pick_t h rfl rfl (beq_iff_eq.2 hc_9) rfl fun a h=>s_move h rfl rfl fun a h=>?_
     by_cases hc_10 : x0.Cmd.Key = x1.Cmd.Key
     ·rw [if_pos hc_10] at H
      refine s_on h rfl rfl (beq_iff_eq.2 hc_10) <| s_fieldAddr h rfl U27 rfl ti25 rfl rfl fun a h=>s_on h rfl rfl (beq_iff_eq.2 hc_10) <| s_fieldAddr h rfl U25 rfl ti22 rfl rfl fun a h=>s_on h rfl rfl (beq_iff_eq.2 hc_10) <| s_load h rfl rfl (hS.load_one (p := 1) rfl U22 rfl rfl) fun a h=>s_on h rfl rfl (beq_iff_eq.2 hc_10) <| s_b2s h rfl U22 U5 U9 rfl hp0_1 (hA.trans hS.old) fun a h=>s_on h rfl rfl (beq_iff_eq.2 hc_10) <| s_fieldAddr h rfl U27 rfl ti25 rfl rfl fun a h=>s_on h rfl rfl (beq_iff_eq.2 hc_10) <| s_fieldAddr h rfl U25 rfl ti22 rfl rfl fun a h=>?_
      refine s_on h rfl rfl (beq_iff_eq.2 hc_10) <| s_load h rfl rfl (hS.load_one (p := 2) rfl U22 rfl rfl) fun a h=>s_on h rfl rfl (beq_iff_eq.2 hc_10) <| s_b2s h rfl U22 U5 U9 rfl hp1_4 (hA.trans hS.old) fun a h=>s_on h rfl rfl (beq_iff_eq.2 hc_10) <| s_strEq (b := (x0.Cmd.Val == x1.Cmd.Val)) h rfl rfl rfl (.inl ⟨rfl, rfl⟩) fun a h=>s_pick_t h rfl rfl (beq_iff_eq.2 hc_10) rfl fun a h=>s_move h rfl rfl fun a h=>?_
      by_cases hc_11 : x0.Cmd.Val = x1.Cmd.Val
      ·rw [if_pos hc_11] at H
       refine s_on h rfl rfl (beq_iff_eq.2 hc_11) <| s_fieldAddr h rfl U27 rfl ti25 rfl rfl fun a h=>s_on h rfl rfl (beq_iff_eq.2 hc_11) <| s_fieldAddr h rfl U25 rfl ti22 rfl rfl fun a h=>s_on h rfl rfl (beq_iff_eq.2 hc_11) <| s_load h rfl rfl (hS.load_one (p := 1) rfl U22 rfl rfl) fun a h=>s_on h rfl rfl (beq_iff_eq.2 hc_11) <| s_b2s h rfl U22 U5 U9 rfl hp0_2 (hA.trans hS.old) fun a h=>s_on h rfl rfl (beq_iff_eq.2 hc_11) <| s_fieldAddr h rfl U27 rfl ti25 rfl rfl fun a h=>s_on h rfl rfl (beq_iff_eq.2 hc_11) <| s_fieldAddr h rfl U25 rfl ti22 rfl rfl fun a h=>?_
       refine s_on h rfl rfl (beq_iff_eq.2 hc_11) <| s_load h rfl rfl (hS.load_one (p := 2) rfl U22 rfl rfl) fun a h=>s_on h rfl rfl (beq_iff_eq.2 hc_11) <| s_b2s h rfl U22 U5 U9 rfl hp1_5 (hA.trans hS.old) fun a h=>s_on h rfl rfl (beq_iff_eq.2 hc_11) <| s_strEq (b := (x0.Cmd.Old == x1.Cmd.Old)) h rfl rfl rfl (.inl ⟨rfl, rfl⟩) fun a h=>s_pick_t h rfl rfl (beq_iff_eq.2 hc_11) rfl fun a h=>s_assign h rfl rfl fun a h=>wpList_nil <| x_then_n (hKJ_5 _ _ ?_)
       refine wp_ret ?_
       obtain rfl := Option.some.inj H
       exact f_ret h (rs := [.tmp 4]) rfl (.tmp rfl .nil) ⟨_, rfl, Mem.no, rfl, (Sep.sel hS [0] (by decide))⟩
      ·rw [if_neg hc_11] at H
       refine s_off h rfl rfl rfl (beq_eq_false_iff_ne.2 hc_11) fun a h=>s_off h rfl rfl rfl (beq_eq_false_iff_ne.2 hc_11) fun a h=>s_off h rfl rfl rfl (beq_eq_false_iff_ne.2 hc_11) fun a h=>s_off h rfl rfl rfl (beq_eq_false_iff_ne.2 hc_11) fun a h=>s_off h rfl rfl rfl (beq_eq_false_iff_ne.2 hc_11) fun a h=>s_off h rfl rfl rfl (beq_eq_false_iff_ne.2 hc_11) fun a h=>s_off h rfl rfl rfl (beq_eq_false_iff_ne.2 hc_11) fun a h=>s_off h rfl rfl rfl (beq_eq_false_iff_ne.2 hc_11) fun a h=>s_off h rfl rfl rfl (beq_eq_false_iff_ne.2 hc_11) fun a h=>s_pick_f h rfl rfl (beq_eq_false_iff_ne.2 hc_11) rfl fun a h=>s_assign h rfl rfl fun a h=>wpList_nil <| x_then_n (hKJ_5 _ _ ?_)
       refine wp_ret ?_
       obtain rfl := Option.some.inj H
       exact f_ret h (rs := [.tmp 4]) rfl (.tmp rfl .nil) ⟨_, rfl, Mem.no, rfl, (Sep.sel hS [0] (by decide))⟩
     ·rw [if_neg hc_10] at H
      refine s_off h rfl rfl rfl (beq_eq_false_iff_ne.2 hc_10) fun a h=>s_off h rfl rfl rfl (beq_eq_false_iff_ne.2 hc_10) fun a h=>s_off h rfl rfl rfl (beq_eq_false_iff_ne.2 hc_10) fun a h=>s_off h rfl rfl rfl (beq_eq_false_iff_ne.2 hc_10) fun a h=>s_off h rfl rfl rfl (beq_eq_false_iff_ne.2 hc_10) fun a h=>s_off h rfl rfl rfl (beq_eq_false_iff_ne.2 hc_10) fun a h=>s_off h rfl rfl rfl (beq_eq_false_iff_ne.2 hc_10) fun a h=>s_off h rfl rfl rfl (beq_eq_false_iff_ne.2 hc_10) fun a h=>s_off h rfl rfl rfl (beq_eq_false_iff_ne.2 hc_10) fun a h=>s_pick_f h rfl rfl (beq_eq_false_iff_ne.2 hc_10) rfl fun a h=>s_move h rfl rfl fun a h=>s_off h rfl rfl rfl rfl fun a h=>?_
      refine s_off h rfl rfl rfl rfl fun a h=>s_off h rfl rfl rfl rfl fun a h=>s_off h rfl rfl rfl rfl fun a h=>s_off h rfl rfl rfl rfl fun a h=>s_off h rfl rfl rfl rfl fun a h=>s_off h rfl rfl rfl rfl fun a h=>s_off h rfl rfl rfl rfl fun a h=>s_off h rfl rfl rfl rfl fun a h=>s_pick_f h rfl rfl rfl rfl fun a h=>s_assign h rfl rfl fun a h=>wpList_nil <| x_then_n (hKJ_5 _ _ ?_)
      refine wp_ret ?_
      obtain rfl := Option.some.inj H
      exact f_ret h (rs := [.tmp 4]) rfl (.tmp rfl .nil) ⟨_, rfl, Mem.no, rfl, (Sep.sel hS [0] (by decide))⟩
    ·rw [if_neg hc_9] at H
     refine s_off h rfl rfl rfl (beq_eq_false_iff_ne.2 hc_9) fun a h=>s_off h rfl rfl rfl (beq_eq_false_iff_ne.2 hc_9) fun a h=>s_off h rfl rfl rfl (beq_eq_false_iff_ne.2 hc_9) fun a h=>s_off h rfl rfl rfl (beq_eq_false_iff_ne.2 hc_9) fun a h=>s_off h rfl rfl rfl (beq_eq_false_iff_ne.2 hc_9) fun a h=>s_off h rfl rfl rfl (beq_eq_false_iff_ne.2 hc_9) fun a h=>s_off h rfl rfl rfl (beq_eq_false_iff_ne.2 hc_9) fun a h=>s_off h rfl rfl rfl (beq_eq_false_iff_ne.2 hc_9) fun a h=>s_off h rfl rfl rfl (beq_eq_false_iff_ne.2 hc_9) fun a h=>s_pick_f h rfl rfl (beq_eq_false_iff_ne.2 hc_9) rfl fun a h=>s_move h rfl rfl fun a h=>s_off h rfl rfl rfl rfl fun a h=>?_
     refine s_off h rfl rfl rfl rfl fun a h=>s_off h rfl rfl rfl rfl fun a h=>s_off h rfl rfl rfl rfl fun a h=>s_off h rfl rfl rfl rfl fun a h=>s_off h rfl rfl rfl rfl fun a h=>s_off h rfl rfl rfl rfl fun a h=>s_off h rfl rfl rfl rfl fun a h=>s_off h rfl rfl rfl rfl fun a h=>s_pick_f h rfl rfl rfl rfl fun a h=>s_move h rfl rfl fun a h=>s_off h rfl rfl rfl rfl fun a h=>s_off h rfl rfl rfl rfl fun a h=>?_
     refine s_off h rfl rfl rfl rfl fun a h=>s_off h rfl rfl rfl rfl fun a h=>s_off h rfl rfl rfl rfl fun a h=>s_off h rfl rfl rfl rfl fun a h=>s_off h rfl rfl rfl rfl fun a h=>s_off h rfl rfl rfl rfl fun a h=>s_off h rfl rfl rfl rfl fun a h=>s_pick_f h rfl rfl rfl rfl fun a h=>s_assign h rfl rfl fun a h=>wpList_nil <| x_then_n (hKJ_5 _ _ ?_)
     refine wp_ret ?_
     obtain rfl := Option.some.inj H
     exact f_ret h (rs := [.tmp 4]) rfl (.tmp rfl .nil) ⟨_, rfl, Mem.no, rfl, (Sep.sel hS [0] (by decide))⟩
   ·rw [if_neg hc_8] at H
    refine s_off h rfl rfl rfl (beq_eq_false_iff_ne.2 hc_8) fun a h=>s_off h rfl rfl rfl (beq_eq_false_iff_ne.2 hc_8) fun a h=>s_off h rfl rfl rfl (beq_eq_false_iff_ne.2 hc_8) fun a h=>s_off h rfl rfl rfl (beq_eq_false_iff_ne.2 hc_8) fun a h=>s_off h rfl rfl rfl (beq_eq_false_iff_ne.2 hc_8) fun a h=>s_off h rfl rfl rfl (beq_eq_false_iff_ne.2 hc_8) fun a h=>s_off h rfl rfl rfl (beq_eq_false_iff_ne.2 hc_8) fun a h=>s_pick_f h rfl rfl (beq_eq_false_iff_ne.2 hc_8) rfl fun a h=>s_move h rfl rfl fun a h=>s_off h rfl rfl rfl rfl fun a h=>s_off h rfl rfl rfl rfl fun a h=>s_off h rfl rfl rfl rfl fun a h=>?_
    refine s_off h rfl rfl rfl rfl fun a h=>s_off h rfl rfl rfl rfl fun a h=>s_off h rfl rfl rfl rfl fun a h=>s_off h rfl rfl rfl rfl fun a h=>s_off h rfl rfl rfl rfl fun a h=>s_off h rfl rfl rfl rfl fun a h=>s_pick_f h rfl rfl rfl rfl fun a h=>s_move h rfl rfl fun a h=>s_off h rfl rfl rfl rfl fun a h=>s_off h rfl rfl rfl rfl fun a h=>s_off h rfl rfl rfl rfl fun a h=>s_off h rfl rfl rfl rfl fun a h=>?_
    refine s_off h rfl rfl rfl rfl fun a h=>s_off h rfl rfl rfl rfl fun a h=>s_off h rfl rfl rfl rfl fun a h=>s_off h rfl rfl rfl rfl fun a h=>s_off h rfl rfl rfl rfl fun a h=>s_pick_f h rfl rfl rfl rfl fun a h=>s_move h rfl rfl fun a h=>s_off h rfl rfl rfl rfl fun a h=>s_off h rfl rfl rfl rfl fun a h=>s_off h rfl rfl rfl rfl fun a h=>s_off h rfl rfl rfl rfl fun a h=>s_off h rfl rfl rfl rfl fun a h=>?_
    refine s_off h rfl rfl rfl rfl fun a h=>s_off h rfl rfl rfl rfl fun a h=>s_off h rfl rfl rfl rfl fun a h=>s_off h rfl rfl rfl rfl fun a h=>s_pick_f h rfl rfl rfl rfl fun a h=>s_assign h rfl rfl fun a h=>wpList_nil <| x_then_n (hKJ_5 _ _ ?_)
    refine wp_ret ?_
    obtain rfl := Option.some.inj H
    exact f_ret h (rs := [.tmp 4]) rfl (.tmp rfl .nil) ⟨_, rfl, Mem.no, rfl, (Sep.sel hS [0] (by decide))⟩
  ·rw [if_neg hc_7] at H
   refine s_off h rfl rfl rfl (beq_eq_false_iff_ne.2 hc_7) fun a h=>s_off h rfl rfl rfl (beq_eq_false_iff_ne.2 hc_7) fun a h=>s_off h rfl rfl rfl (beq_eq_false_iff_ne.2 hc_7) fun a h=>s_off h rfl rfl rfl (beq_eq_false_iff_ne.2 hc_7) fun a h=>s_off h rfl rfl rfl (beq_eq_false_iff_ne.2 hc_7) fun a h=>s_off h rfl rfl rfl (beq_eq_false_iff_ne.2 hc_7) fun a h=>s_off h rfl rfl rfl (beq_eq_false_iff_ne.2 hc_7) fun a h=>s_pick_f h rfl rfl (beq_eq_false_iff_ne.2 hc_7) rfl fun a h=>s_move h rfl rfl fun a h=>s_off h rfl rfl rfl rfl fun a h=>s_off h rfl rfl rfl rfl fun a h=>s_off h rfl rfl rfl rfl fun a h=>?_
   refine s_off h rfl rfl rfl rfl fun a h=>s_off h rfl rfl rfl rfl fun a h=>s_off h rfl rfl rfl rfl fun a h=>s_off h rfl rfl rfl rfl fun a h=>s_pick_f h rfl rfl rfl rfl fun a h=>s_move h rfl rfl fun a h=>s_off h rfl rfl rfl rfl fun a h=>s_off h rfl rfl rfl rfl fun a h=>s_off h rfl rfl rfl rfl fun a h=>s_off h rfl rfl rfl rfl fun a h=>s_off h rfl rfl rfl rfl fun a h=>s_off h rfl rfl rfl rfl fun a h=>?_
   refine s_off h rfl rfl rfl rfl fun a h=>s_off h rfl rfl rfl rfl fun a h=>s_off h rfl rfl rfl rfl fun a h=>s_pick_f h rfl rfl rfl rfl fun a h=>s_move h rfl rfl fun a h=>s_off h rfl rfl rfl rfl fun a h=>s_off h rfl rfl rfl rfl fun a h=>s_off h rfl rfl rfl rfl fun a h=>s_off h rfl rfl rfl rfl fun a h=>s_off h rfl rfl rfl rfl fun a h=>s_off h rfl rfl rfl rfl fun a h=>s_off h rfl rfl rfl rfl fun a h=>?_
   refine s_off h rfl rfl rfl rfl fun a h=>s_off h rfl rfl rfl rfl fun a h=>s_pick_f h rfl rfl rfl rfl fun a h=>s_move h rfl rfl fun a h=>s_off h rfl rfl rfl rfl fun a h=>s_off h rfl rfl rfl rfl fun a h=>s_off h rfl rfl rfl rfl fun a h=>s_off h rfl rfl rfl rfl fun a h=>s_off h rfl rfl rfl rfl fun a h=>s_off h rfl rfl rfl rfl fun a h=>s_off h rfl rfl rfl rfl fun a h=>s_off h rfl rfl rfl rfl fun a h=>?_
   refine s_off h rfl rfl rfl rfl fun a h=>s_pick_f h rfl rfl rfl rfl fun a h=>s_assign h rfl rfl fun a h=>wpList_nil <| x_then_n (hKJ_5 _ _ ?_)
   refine wp_ret ?_
   obtain rfl := Option.some.inj H
   exact f_ret h (rs := [.tmp 4]) rfl (.tmp rfl .nil) ⟨_, rfl, Mem.no, rfl, (Sep.sel hS [0] (by decide))⟩
 ·rw [if_neg hc_6] at H
  refine s_off h rfl rfl rfl (beq_eq_false_iff_ne.2 hc_6) fun a h=>s_off h rfl rfl rfl (beq_eq_false_iff_ne.2 hc_6) fun a h=>s_off h rfl rfl rfl (beq_eq_false_iff_ne.2 hc_6) fun a h=>s_off h rfl rfl rfl (beq_eq_false_iff_ne.2 hc_6) fun a h=>s_off h rfl rfl rfl (beq_eq_false_iff_ne.2 hc_6) fun a h=>s_pick_f h rfl rfl (beq_eq_false_iff_ne.2 hc_6) rfl fun a h=>s_move h rfl rfl fun a h=>s_off h rfl rfl rfl rfl fun a h=>s_off h rfl rfl rfl rfl fun a h=>s_off h rfl rfl rfl rfl fun a h=>s_off h rfl rfl rfl rfl fun a h=>s_off h rfl rfl rfl rfl fun a h=>?_
  refine s_off h rfl rfl rfl rfl fun a h=>s_off h rfl rfl rfl rfl fun a h=>s_pick_f h rfl rfl rfl rfl fun a h=>s_move h rfl rfl fun a h=>s_off h rfl rfl rfl rfl fun a h=>s_off h rfl rfl rfl rfl fun a h=>s_off h rfl rfl rfl rfl fun a h=>s_off h rfl rfl rfl rfl fun a h=>s_off h rfl rfl rfl rfl fun a h=>s_off h rfl rfl rfl rfl fun a h=>s_off h rfl rfl rfl rfl fun a h=>s_pick_f h rfl rfl rfl rfl fun a h=>?_
  refine s_move h rfl rfl fun a h=>s_off h rfl rfl rfl rfl fun a h=>s_off h rfl rfl rfl rfl fun a h=>s_off h rfl rfl rfl rfl fun a h=>s_off h rfl rfl rfl rfl fun a h=>s_off h rfl rfl rfl rfl fun a h=>s_off h rfl rfl rfl rfl fun a h=>s_off h rfl rfl rfl rfl fun a h=>s_off h rfl rfl rfl rfl fun a h=>s_off h rfl rfl rfl rfl fun a h=>s_pick_f h rfl rfl rfl rfl fun a h=>s_move h rfl rfl fun a h=>?_
  refine s_off h rfl rfl rfl rfl fun a h=>s_off h rfl rfl rfl rfl fun a h=>s_off h rfl rfl rfl rfl fun a h=>s_off h rfl rfl rfl rfl fun a h=>s_off h rfl rfl rfl rfl fun a h=>s_off h rfl rfl rfl rfl fun a h=>s_off h rfl rfl rfl rfl fun a h=>s_off h rfl rfl rfl rfl fun a h=>s_off h rfl rfl rfl rfl fun a h=>s_pick_f h rfl rfl rfl rfl fun a h=>s_move h rfl rfl fun a h=>s_off h rfl rfl rfl rfl fun a h=>?_
  refine s_off h rfl rfl rfl rfl fun a h=>s_off h rfl rfl rfl rfl fun a h=>s_off h rfl rfl rfl rfl fun a h=>s_off h rfl rfl rfl rfl fun a h=>s_off h rfl rfl rfl rfl fun a h=>s_off h rfl rfl rfl rfl fun a h=>s_off h rfl rfl rfl rfl fun a h=>s_off h rfl rfl rfl rfl fun a h=>s_pick_f h rfl rfl rfl rfl fun a h=>s_assign h rfl rfl fun a h=>wpList_nil <| x_then_n (hKJ_5 _ _ ?_)
  refine wp_ret ?_
  obtain rfl := Option.some.inj H
  exact f_ret h (rs := [.tmp 4]) rfl (.tmp rfl .nil) ⟨_, rfl, Mem.no, rfl, (Sep.sel hS [0] (by decide))⟩


end Go.Proofs
