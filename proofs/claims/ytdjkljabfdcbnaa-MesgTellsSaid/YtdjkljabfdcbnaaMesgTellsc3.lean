/- What the calls do: each function once. -/
import Derived.Test.YtdjkljabfdcbnaaMesgTellsc2
namespace Go.Proofs
open Go.Gp
set_option linter.unusedVariables false
set_option maxHeartbeats 4000000 in
set_option maxRecDepth 20000 in
theorem hocketref11_Ok.calls (K : Nat) (x0 : api_Msg) (p0_0 : Value) (p0_1 : Value) (p0_2 : Value) (p0_3 : Value) (p0_4 : Value) (p0_5 : Value) (r : Bool) (w0 w : World) (Z A : Mem) (hA : A.le Z) (hS : Sep w0 w [] Z) (hp0_0 : Rd Kd.u8 A p0_0 x0.Data) (hp0_1 : Rd (Kd.int .i64) A p0_1 x0.Have) (hp0_2 : Rd (Kd.int .i64) A p0_2 x0.Need) (hp0_3 : Rd Kd.u8 A p0_3 x0.Entry.Cmd.Key) (hp0_4 : Rd Kd.u8 A p0_4 x0.Entry.Cmd.Val) (hp0_5 : Rd Kd.u8 A p0_5 x0.Entry.Cmd.Old)
    (H : hocketref11_Ok.f K x0 = some r) :
    Calls Try.prog 31 [.agg ([iV x0.Kind, iV x0.From, iV x0.To, iV x0.View, iV x0.Inst, iV x0.Len, .bool x0.Has, iV x0.Members, iV x0.Source, iV x0.At, iV x0.Total, p0_0, iV x0.Hop, iV x0.Seq, p0_1, p0_2, iV x0.Index, iV x0.Entry.Sess, iV x0.Entry.Seq, iV x0.Entry.Cmd.Kind, iV x0.Entry.Cmd.Who, p0_3, p0_4, p0_5] : List Value).toArray].toArray w (Ret fun v w' => ∃ (N : Mem), v = .bool r ∧ Sep w0 w' [N] Z) := by
 unfold hocketref11_Ok.f at H
 refine f_enter _ Try.func31 rfl Try.ntmps31 rfl fun a h=>?_
 replace h : Fr 119 a [(0, .agg ([iV x0.Kind, iV x0.From, iV x0.To, iV x0.View, iV x0.Inst, iV x0.Len, .bool x0.Has, iV x0.Members, iV x0.Source, iV x0.At, iV x0.Total, p0_0, iV x0.Hop, iV x0.Seq, p0_1, p0_2, iV x0.Index, iV x0.Entry.Sess, iV x0.Entry.Seq, iV x0.Entry.Cmd.Kind, iV x0.Entry.Cmd.Who, p0_3, p0_4, p0_5] : List Value).toArray)] := h
 replace hS := hS.start
 replace hS : Sep w0 w [_] Z := hS
 refine wp_seq <| wp_region_lit <| v_box (vs := [iV x0.Kind, iV x0.From, iV x0.To, iV x0.View, iV x0.Inst, iV x0.Len, .bool x0.Has, iV x0.Members, iV x0.Source, iV x0.At, iV x0.Total, p0_0, iV x0.Hop, iV x0.Seq, p0_1, p0_2, iV x0.Index, iV x0.Entry.Sess, iV x0.Entry.Seq, iV x0.Entry.Cmd.Kind, iV x0.Entry.Cmd.Who, p0_3, p0_4, p0_5]) h rfl rfl rfl hS fun w_1 g_2 hS' a h => ?_
 replace hS : Sep w0 w_1 [_, Mem.one g_2 (.cells ([iV x0.Kind, iV x0.From, iV x0.To, iV x0.View, iV x0.Inst, iV x0.Len, .bool x0.Has, iV x0.Members, iV x0.Source, iV x0.At, iV x0.Total, p0_0, iV x0.Hop, iV x0.Seq, p0_1, p0_2, iV x0.Index, iV x0.Entry.Sess, iV x0.Entry.Seq, iV x0.Entry.Cmd.Kind, iV x0.Entry.Cmd.Who, p0_3, p0_4, p0_5] : List Value).toArray 29 (0, 0))] Z := hS'
 clear hS'
 refine s_assign h rfl rfl fun a h=>wpList_nil <| x_then_n <| c_seq fun KJ_3 hKJ_3 => c_seq fun KJ_4 hKJ_4 => ?_
 have hJ_j_8 : ∀ (x_6 : Bool), hocketref11_Ok.J1 K x0 x_6 = some r → ∀ (a : Act) (w_7 : World), (∃ (N_5 : Mem), Fr 119 a [(1, .pointer (some ⟨g_2, 0, none⟩)), (2, .bool false), (30, .bool x_6)] ∧ Sep w0 w_7 [N_5, Mem.one g_2 (.cells ([iV x0.Kind, iV x0.From, iV x0.To, iV x0.View, iV x0.Inst, iV x0.Len, .bool x0.Has, iV x0.Members, iV x0.Source, iV x0.At, iV x0.Total, p0_0, iV x0.Hop, iV x0.Seq, p0_1, p0_2, iV x0.Index, iV x0.Entry.Sess, iV x0.Entry.Seq, iV x0.Entry.Cmd.Kind, iV x0.Entry.Cmd.Who, p0_3, p0_4, p0_5] : List Value).toArray 29 (0, 0))] Z ∧ Mem.no.le N_5) → KJ_4 a w_7 := by
  clear H h hS a
  rintro x_6 H a w_7 ⟨N_5, h, hS, le_5⟩
  unfold hocketref11_Ok.J1 at H
  refine hKJ_4 _ _ ?_
  by_cases hc_9 : x_6 = true
  ·rw [if_pos hc_9] at H
   refine c_cond_t h rfl hc_9 <| wp_seq <| wp_region_lit <| s_assign h rfl rfl fun a h=>wpList_nil <| x_then_n <| wp_ret (x_then_r ?_)
   obtain rfl := Option.some.inj H
   exact f_ret h (rs := [.tmp 2]) rfl (.tmp rfl .nil) ⟨_, rfl, N_5, rfl, (Sep.sel hS [0] (by decide))⟩
  ·rw [if_neg hc_9] at H
   refine c_cond_f h rfl (Bool.eq_false_iff.2 hc_9) <| wp_skip <| x_then_n (hKJ_3 _ _ ?_)
   refine c_seq fun KJ_10 hKJ_10 => wp_seq <| wp_region_lit <| s_fieldAddr h rfl U29 rfl ti3 rfl rfl fun a h=>s_load h rfl rfl (hS.load_one (p := 1) rfl U3 rfl rfl) fun a h=>wpList_nil <| x_then_n <| c_block <| c_seq fun KJ_11 hKJ_11 => wp_seq <| wp_region_lit <| s_cmp (b := (x0.Kind == 1)) h rfl rfl rfl (.inl ⟨rfl, rfl⟩) fun a h=>?_
   refine s_assign h rfl rfl fun a h=>wpList_nil <| x_then_n ?_
   have hJ_j_15 : ∀ (x_13 : Bool), hocketref11_Ok.J2 K x0 x_13 = some r → ∀ (a : Act) (w_14 : World), (∃ (N_12 : Mem), Fr 119 a [(1, .pointer (some ⟨g_2, 0, none⟩)), (2, .bool false), (32, iV x0.Kind), (33, .bool x_13)] ∧ Sep w0 w_14 [N_12, Mem.one g_2 (.cells ([iV x0.Kind, iV x0.From, iV x0.To, iV x0.View, iV x0.Inst, iV x0.Len, .bool x0.Has, iV x0.Members, iV x0.Source, iV x0.At, iV x0.Total, p0_0, iV x0.Hop, iV x0.Seq, p0_1, p0_2, iV x0.Index, iV x0.Entry.Sess, iV x0.Entry.Seq, iV x0.Entry.Cmd.Kind, iV x0.Entry.Cmd.Who, p0_3, p0_4, p0_5] : List Value).toArray 29 (0, 0))] Z ∧ N_5.le N_12) → KJ_11 a w_14 := by
    clear H h hS a
    rintro x_13 H a w_14 ⟨N_12, h, hS, le_12⟩
    unfold hocketref11_Ok.J2 at H
    refine hKJ_11 _ _ ?_
    by_cases hc_16 : x_13 = true
    ·rw [if_pos hc_16] at H
     refine c_cond_t h rfl hc_16 <| wp_seq <| wp_region_lit <| s_assign h rfl rfl fun a h=>wpList_nil ?_
     replace h : Fr 119 a [(2, .bool true)] := h.keep [2]
     refine x_then_n <| wp_ret (x_block_r (x_then_r ?_))
     obtain rfl := Option.some.inj H
     exact f_ret h (rs := [.tmp 2]) rfl (.tmp rfl .nil) ⟨_, rfl, N_12, rfl, (Sep.sel hS [0] (by decide))⟩
    ·rw [if_neg hc_16] at H
     refine c_cond_f h rfl (Bool.eq_false_iff.2 hc_16) <| wp_seq <| wp_region_lit <| s_cmp (b := (x0.Kind == 2)) h rfl rfl rfl (.inl ⟨rfl, rfl⟩) fun a h=>s_assign h rfl rfl fun a h=>wpList_nil ?_
     replace h : Fr 119 a [(1, _), (2, _), (32, _), (36, .bool (x0.Kind == 2))] := h.keep [1, 2, 32, 36]
     refine x_then_n ?_
     by_cases hc_17 : x0.Kind = 2
     ·rw [if_pos hc_17] at H
      refine c_cond_t h rfl (beq_iff_eq.2 hc_17) <| wp_seq <| wp_region_lit <| s_fieldAddr h rfl U29 rfl ti3 rfl rfl fun a h=>s_load h rfl rfl (hS.load_one (p := 1) rfl U3 rfl rfl) fun a h=>s_fieldAddr h rfl U29 rfl ti3 rfl rfl fun a h=>s_load h rfl rfl (hS.load_one (p := 1) rfl U3 rfl rfl) fun a h=>?_
      have hq_22 : Reps (Kd.int .i64) Mem.no ([x0.Inst, x0.Len] : List Int) _ := ((Reps.one (d := (Kd.int .i64)) (x := x0.Inst) (show (Kd.int .i64).K _ _ [iV x0.Inst] from rfl)).append ((Reps.one (d := (Kd.int .i64)) (x := x0.Len) (show (Kd.int .i64).K _ _ [iV x0.Len] from rfl)).append (Reps.nil (Kd.int .i64) _)))
      refine s_buildSlice h rfl U22 ti3 rfl rfl rfl (.cons rfl (.cons rfl .nil)) rfl rfl rfl hS hq_22 rfl fun w_18 v_19 M_20 hS' ho_21 a h => ?_
      replace hS : Sep w0 w_18 [_, _, M_20] Z := hS'
      clear hS' hq_22
      obtain ⟨t_24, et_24, H⟩ := Option.bind_eq_some_iff.1 H
      refine s_call h rfl Try.call58 rfl (hocketref11_within.calls K ([x0.Inst, x0.Len] : List Int) _ 2 t_24 w0 _ _ _ (Mem.le.refl _) (hS.enter [] (by decide)) (ho_21.rd (hS.own_zed [] 1 (by decide)) (Mem.no_le _)) et_24) ?_
      rintro _ w_25 ⟨N_26, rfl, hS'⟩
      intro a h
      obtain ⟨N_27, hS'', le_27, ln_27⟩ := hS.call [] (by decide) rfl (l' := []) (ow := []) rfl hS'
      replace hS : Sep w0 w_25 [N_27, _, _] Z := hS''
      clear hS' hS''
      refine s_assign h rfl rfl fun a h=>wpList_nil <| x_then_n <| wp_ret (x_block_r (x_then_r ?_))
      obtain rfl := Option.some.inj H
      exact f_ret h (rs := [.tmp 2]) rfl (.tmp rfl .nil) ⟨_, rfl, N_27, rfl, (Sep.sel hS [0] (by decide))⟩
     ·rw [if_neg hc_17] at H
      refine c_cond_f h rfl (beq_eq_false_iff_ne.2 hc_17) <| wp_seq <| wp_region_lit <| s_cmp (b := (x0.Kind == 3)) h rfl rfl rfl (.inl ⟨rfl, rfl⟩) fun a h=>s_assign h rfl rfl fun a h=>wpList_nil <| x_then_n ?_
      by_cases hc_28 : x0.Kind = 3
      ·rw [if_pos hc_28] at H
       refine c_cond_t h rfl (beq_iff_eq.2 hc_28) <| c_seq fun KJ_29 hKJ_29 => wp_region_lit <| s_fieldAddr h rfl U29 rfl ti3 rfl rfl fun a h=>s_load h rfl rfl (hS.load_one (p := 1) rfl U3 rfl rfl) fun a h=>s_cmp (b := decide (x0.Members ≥ 0)) h rfl rfl rfl (.inr (.inr (.inr (.inr (.inr ⟨rfl, rfl⟩))))) fun a h=>s_move h rfl rfl fun a h=>?_
       by_cases hc_30 : x0.Members ≥ 0
       ·rw [if_pos hc_30] at H
        refine s_on h rfl rfl (decide_eq_true hc_30) <| s_fieldAddr h rfl U29 rfl ti3 rfl rfl fun a h=>s_on h rfl rfl (decide_eq_true hc_30) <| s_load h rfl rfl (hS.load_one (p := 1) rfl U3 rfl rfl) fun a h=>s_on h rfl rfl (decide_eq_true hc_30) <| s_cmp (b := decide (x0.Members ≤ 127)) h rfl rfl rfl (.inr (.inr (.inr (.inl ⟨rfl, rfl⟩)))) fun a h=>s_pick_t h rfl rfl (decide_eq_true hc_30) rfl fun a h=>s_move h rfl rfl fun a h=>?_
        by_cases hc_31 : x0.Members ≤ 127
        ·rw [if_pos hc_31] at H
         refine s_on h rfl rfl (decide_eq_true hc_31) <| s_fieldAddr h rfl U29 rfl ti3 rfl rfl fun a h=>s_on h rfl rfl (decide_eq_true hc_31) <| s_load h rfl rfl (hS.load_one (p := 1) rfl U3 rfl rfl) fun a h=>s_on h rfl rfl (decide_eq_true hc_31) <| s_cmp (b := decide (x0.Source ≥ 0)) h rfl rfl rfl (.inr (.inr (.inr (.inr (.inr ⟨rfl, rfl⟩))))) fun a h=>s_pick_t h rfl rfl (decide_eq_true hc_31) rfl fun a h=>s_move h rfl rfl fun a h=>?_
         by_cases hc_32 : x0.Source ≥ 0
         ·rw [if_pos hc_32] at H
          refine s_on h rfl rfl (decide_eq_true hc_32) <| s_fieldAddr h rfl U29 rfl ti3 rfl rfl fun a h=>s_on h rfl rfl (decide_eq_true hc_32) <| s_load h rfl rfl (hS.load_one (p := 1) rfl U3 rfl rfl) fun a h=>s_on h rfl rfl (decide_eq_true hc_32) <| s_cmp (b := decide (x0.Source ≤ 6)) h rfl rfl rfl (.inr (.inr (.inr (.inl ⟨rfl, rfl⟩)))) fun a h=>s_pick_t h rfl rfl (decide_eq_true hc_32) rfl fun a h=>s_move h rfl rfl fun a h=>?_
          by_cases hc_33 : x0.Source ≤ 6
          ·rw [if_pos hc_33] at H
           refine s_on h rfl rfl (decide_eq_true hc_33) <| s_fieldAddr h rfl U29 rfl ti3 rfl rfl fun a h=>s_on h rfl rfl (decide_eq_true hc_33) <| s_load h rfl rfl (hS.load_one (p := 1) rfl U3 rfl rfl) fun a h=>s_on h rfl rfl (decide_eq_true hc_33) ?_
           have hq_38 : Reps (Kd.int .i64) Mem.no ([x0.Len] : List Int) _ := ((Reps.one (d := (Kd.int .i64)) (x := x0.Len) (show (Kd.int .i64).K _ _ [iV x0.Len] from rfl)).append (Reps.nil (Kd.int .i64) _))
           refine s_buildSlice h rfl U22 ti3 rfl rfl rfl (.cons rfl .nil) rfl rfl rfl hS hq_38 rfl fun w_34 v_35 M_36 hS' ho_37 a h => ?_
           replace hS : Sep w0 w_34 [_, _, M_36] Z := hS'
           clear hS' hq_38
           refine s_on h rfl rfl (decide_eq_true hc_33) ?_
           obtain ⟨t_40, et_40, H⟩ := Option.bind_eq_some_iff.1 H
           refine s_call h rfl Try.call58 rfl (hocketref11_within.calls K ([x0.Len] : List Int) _ 1 t_40 w0 _ _ _ (Mem.le.refl _) (hS.enter [] (by decide)) (ho_37.rd (hS.own_zed [] 1 (by decide)) (Mem.no_le _)) et_40) ?_
           rintro _ w_41 ⟨N_42, rfl, hS'⟩
           intro a h
           obtain ⟨N_43, hS'', le_43, ln_43⟩ := hS.call [] (by decide) rfl (l' := []) (ow := []) rfl hS'
           replace hS : Sep w0 w_41 [N_43, _, _] Z := hS''
           clear hS' hS''
           refine s_pick_t h rfl rfl (decide_eq_true hc_33) rfl fun a h=>s_assign h rfl rfl fun a h=>wpList_nil <| x_then_n (hKJ_29 _ _ ?_)
           refine wp_ret (x_block_r (x_then_r ?_))
           obtain rfl := Option.some.inj H
           exact f_ret h (rs := [.tmp 2]) rfl (.tmp rfl .nil) ⟨_, rfl, N_43, rfl, (Sep.sel hS [0] (by decide))⟩
          ·rw [if_neg hc_33] at H
           refine s_off h rfl rfl rfl (decide_eq_false hc_33) fun a h=>s_off h rfl rfl rfl (decide_eq_false hc_33) fun a h=>s_off h rfl rfl rfl (decide_eq_false hc_33) fun a h=>s_off h rfl rfl rfl (decide_eq_false hc_33) fun a h=>s_pick_f h rfl rfl (decide_eq_false hc_33) rfl fun a h=>s_assign h rfl rfl fun a h=>wpList_nil <| x_then_n (hKJ_29 _ _ ?_)
           refine wp_ret (x_block_r (x_then_r ?_))
           obtain rfl := Option.some.inj H
           exact f_ret h (rs := [.tmp 2]) rfl (.tmp rfl .nil) ⟨_, rfl, N_12, rfl, (Sep.sel hS [0] (by decide))⟩
         ·rw [if_neg hc_32] at H
          refine s_off h rfl rfl rfl (decide_eq_false hc_32) fun a h=>s_off h rfl rfl rfl (decide_eq_false hc_32) fun a h=>s_off h rfl rfl rfl (decide_eq_false hc_32) fun a h=>s_pick_f h rfl rfl (decide_eq_false hc_32) rfl fun a h=>s_move h rfl rfl fun a h=>s_off h rfl rfl rfl rfl fun a h=>s_off h rfl rfl rfl rfl fun a h=>s_off h rfl rfl rfl rfl fun a h=>s_off h rfl rfl rfl rfl fun a h=>s_pick_f h rfl rfl rfl rfl fun a h=>s_assign h rfl rfl fun a h=>wpList_nil <| x_then_n (hKJ_29 _ _ ?_)
          refine wp_ret (x_block_r (x_then_r ?_))
          obtain rfl := Option.some.inj H
          exact f_ret h (rs := [.tmp 2]) rfl (.tmp rfl .nil) ⟨_, rfl, N_12, rfl, (Sep.sel hS [0] (by decide))⟩
        ·rw [if_neg hc_31] at H
         refine s_off h rfl rfl rfl (decide_eq_false hc_31) fun a h=>s_off h rfl rfl rfl (decide_eq_false hc_31) fun a h=>s_off h rfl rfl rfl (decide_eq_false hc_31) fun a h=>s_pick_f h rfl rfl (decide_eq_false hc_31) rfl fun a h=>s_move h rfl rfl fun a h=>s_off h rfl rfl rfl rfl fun a h=>s_off h rfl rfl rfl rfl fun a h=>s_off h rfl rfl rfl rfl fun a h=>s_pick_f h rfl rfl rfl rfl fun a h=>s_move h rfl rfl fun a h=>s_off h rfl rfl rfl rfl fun a h=>s_off h rfl rfl rfl rfl fun a h=>?_
         refine s_off h rfl rfl rfl rfl fun a h=>s_off h rfl rfl rfl rfl fun a h=>s_pick_f h rfl rfl rfl rfl fun a h=>s_assign h rfl rfl fun a h=>wpList_nil <| x_then_n (hKJ_29 _ _ ?_)
         refine wp_ret (x_block_r (x_then_r ?_))
         obtain rfl := Option.some.inj H
         exact f_ret h (rs := [.tmp 2]) rfl (.tmp rfl .nil) ⟨_, rfl, N_12, rfl, (Sep.sel hS [0] (by decide))⟩
       ·rw [if_neg hc_30] at H
        refine s_off h rfl rfl rfl (decide_eq_false hc_30) fun a h=>s_off h rfl rfl rfl (decide_eq_false hc_30) fun a h=>s_off h rfl rfl rfl (decide_eq_false hc_30) fun a h=>s_pick_f h rfl rfl (decide_eq_false hc_30) rfl fun a h=>s_move h rfl rfl fun a h=>s_off h rfl rfl rfl rfl fun a h=>s_off h rfl rfl rfl rfl fun a h=>s_off h rfl rfl rfl rfl fun a h=>s_pick_f h rfl rfl rfl rfl fun a h=>s_move h rfl rfl fun a h=>s_off h rfl rfl rfl rfl fun a h=>s_off h rfl rfl rfl rfl fun a h=>?_
        refine s_off h rfl rfl rfl rfl fun a h=>s_pick_f h rfl rfl rfl rfl fun a h=>s_move h rfl rfl fun a h=>s_off h rfl rfl rfl rfl fun a h=>s_off h rfl rfl rfl rfl fun a h=>s_off h rfl rfl rfl rfl fun a h=>s_off h rfl rfl rfl rfl fun a h=>s_pick_f h rfl rfl rfl rfl fun a h=>s_assign h rfl rfl fun a h=>wpList_nil <| x_then_n (hKJ_29 _ _ ?_)
        refine wp_ret (x_block_r (x_then_r ?_))
        obtain rfl := Option.some.inj H
        exact f_ret h (rs := [.tmp 2]) rfl (.tmp rfl .nil) ⟨_, rfl, N_12, rfl, (Sep.sel hS [0] (by decide))⟩
      ·rw [if_neg hc_28] at H
       refine c_cond_f h rfl (beq_eq_false_iff_ne.2 hc_28) <| wp_seq <| wp_region_lit <| s_cmp (b := (x0.Kind == 4)) h rfl rfl rfl (.inl ⟨rfl, rfl⟩) fun a h=>s_assign h rfl rfl fun a h=>wpList_nil <| x_then_n ?_
       by_cases hc_44 : x0.Kind = 4
       ·rw [if_pos hc_44] at H
        refine c_cond_t h rfl (beq_iff_eq.2 hc_44) <| wp_seq <| wp_region_lit <| s_fieldAddr h rfl U29 rfl ti3 rfl rfl fun a h=>s_load h rfl rfl (hS.load_one (p := 1) rfl U3 rfl rfl) fun a h=>?_
        have hq_49 : Reps (Kd.int .i64) Mem.no ([x0.At] : List Int) _ := ((Reps.one (d := (Kd.int .i64)) (x := x0.At) (show (Kd.int .i64).K _ _ [iV x0.At] from rfl)).append (Reps.nil (Kd.int .i64) _))
        refine s_buildSlice h rfl U22 ti3 rfl rfl rfl (.cons rfl .nil) rfl rfl rfl hS hq_49 rfl fun w_45 v_46 M_47 hS' ho_48 a h => ?_
        replace hS : Sep w0 w_45 [_, _, M_47] Z := hS'
        clear hS' hq_49
        obtain ⟨t_51, et_51, H⟩ := Option.bind_eq_some_iff.1 H
        refine s_call h rfl Try.call58 rfl (hocketref11_within.calls K ([x0.At] : List Int) _ 1 t_51 w0 _ _ _ (Mem.le.refl _) (hS.enter [] (by decide)) (ho_48.rd (hS.own_zed [] 1 (by decide)) (Mem.no_le _)) et_51) ?_
        rintro _ w_52 ⟨N_53, rfl, hS'⟩
        intro a h
        obtain ⟨N_54, hS'', le_54, ln_54⟩ := hS.call [] (by decide) rfl (l' := []) (ow := []) rfl hS'
        replace hS : Sep w0 w_52 [N_54, _, _] Z := hS''
        clear hS' hS''
        refine s_assign h rfl rfl fun a h=>wpList_nil <| x_then_n <| wp_ret (x_block_r (x_then_r ?_))
        obtain rfl := Option.some.inj H
        exact f_ret h (rs := [.tmp 2]) rfl (.tmp rfl .nil) ⟨_, rfl, N_54, rfl, (Sep.sel hS [0] (by decide))⟩
       ·rw [if_neg hc_44] at H
        refine c_cond_f h rfl (beq_eq_false_iff_ne.2 hc_44) <| wp_seq <| wp_region_lit <| s_cmp (b := (x0.Kind == 5)) h rfl rfl rfl (.inl ⟨rfl, rfl⟩) fun a h=>s_assign h rfl rfl fun a h=>wpList_nil <| x_then_n ?_
        by_cases hc_55 : x0.Kind = 5
        ·rw [if_pos hc_55] at H
         refine c_cond_t h rfl (beq_iff_eq.2 hc_55) <| c_seq fun KJ_56 hKJ_56 => wp_region_lit <| s_fieldAddr h rfl U29 rfl ti3 rfl rfl fun a h=>s_load h rfl rfl (hS.load_one (p := 1) rfl U3 rfl rfl) fun a h=>s_fieldAddr h rfl U29 rfl ti3 rfl rfl fun a h=>s_load h rfl rfl (hS.load_one (p := 1) rfl U3 rfl rfl) fun a h=>?_
         have hq_61 : Reps (Kd.int .i64) Mem.no ([x0.At, x0.Total] : List Int) _ := ((Reps.one (d := (Kd.int .i64)) (x := x0.At) (show (Kd.int .i64).K _ _ [iV x0.At] from rfl)).append ((Reps.one (d := (Kd.int .i64)) (x := x0.Total) (show (Kd.int .i64).K _ _ [iV x0.Total] from rfl)).append (Reps.nil (Kd.int .i64) _)))
         refine s_buildSlice h rfl U22 ti3 rfl rfl rfl (.cons rfl (.cons rfl .nil)) rfl rfl rfl hS hq_61 rfl fun w_57 v_58 M_59 hS' ho_60 a h => ?_
         replace hS : Sep w0 w_57 [_, _, M_59] Z := hS'
         clear hS' hq_61
         obtain ⟨t_63, et_63, H⟩ := Option.bind_eq_some_iff.1 H
         refine s_call h rfl Try.call58 rfl (hocketref11_within.calls K ([x0.At, x0.Total] : List Int) _ 2 t_63 w0 _ _ _ (Mem.le.refl _) (hS.enter [] (by decide)) (ho_60.rd (hS.own_zed [] 1 (by decide)) (Mem.no_le _)) et_63) ?_
         rintro _ w_64 ⟨N_65, rfl, hS'⟩
         intro a h
         obtain ⟨N_66, hS'', le_66, ln_66⟩ := hS.call [] (by decide) rfl (l' := []) (ow := []) rfl hS'
         replace hS : Sep w0 w_64 [N_66, _, _] Z := hS''
         clear hS' hS''
         refine s_move h rfl rfl fun a h=>?_
         by_cases hc_67 : t_63 = true
         ·rw [if_pos hc_67] at H
          refine s_on h rfl rfl hc_67 <| s_fieldAddr h rfl U29 rfl ti23 rfl rfl fun a h=>s_on h rfl rfl hc_67 <| s_load h rfl rfl (hS.load_one (p := 1) rfl U23 rfl rfl) fun a h=>s_on h rfl rfl hc_67 <| s_len h rfl U23 rfl hp0_0 fun a h=>s_on h rfl rfl hc_67 <| s_cmp (b := decide ((x0.Data.length : Int) ≤ 64)) h rfl rfl rfl (.inr (.inr (.inr (.inl ⟨rfl, rfl⟩)))) fun a h=>s_pick_t h rfl rfl hc_67 rfl fun a h=>s_assign h rfl rfl fun a h=>wpList_nil ?_
          replace h : Fr 119 a [(2, .bool (decide ((x0.Data.length : Int) ≤ 64)))] := h.keep [2]
          refine x_then_n (hKJ_56 _ _ ?_)
          refine wp_ret (x_block_r (x_then_r ?_))
          obtain rfl := Option.some.inj H
          exact f_ret h (rs := [.tmp 2]) rfl (.tmp rfl .nil) ⟨_, rfl, N_66, rfl, (Sep.sel hS [0] (by decide))⟩
         ·rw [if_neg hc_67] at H
          refine s_off h rfl rfl rfl (Bool.eq_false_iff.2 hc_67) fun a h=>s_off h rfl rfl rfl (Bool.eq_false_iff.2 hc_67) fun a h=>s_off h rfl rfl rfl (Bool.eq_false_iff.2 hc_67) fun a h=>s_off h rfl rfl rfl (Bool.eq_false_iff.2 hc_67) fun a h=>s_pick_f h rfl rfl (Bool.eq_false_iff.2 hc_67) rfl fun a h=>s_assign h rfl rfl fun a h=>wpList_nil ?_
          replace h : Fr 119 a [(2, _)] := h.keep [2]
          refine x_then_n (hKJ_56 _ _ ?_)
          refine wp_ret (x_block_r (x_then_r ?_))
          obtain rfl := Option.some.inj H
          exact f_ret h (rs := [.tmp 2]) rfl (.tmp rfl .nil) ⟨_, rfl, N_66, rfl, (Sep.sel hS [0] (by decide))⟩
        ·rw [if_neg hc_55] at H
         refine c_cond_f h rfl (beq_eq_false_iff_ne.2 hc_55) <| wp_seq <| wp_region_lit <| s_cmp (b := (x0.Kind == 7)) h rfl rfl rfl (.inl ⟨rfl, rfl⟩) fun a h=>s_assign h rfl rfl fun a h=>wpList_nil ?_
         replace h : Fr 119 a [(1, _), (2, _), (32, _), (90, .bool (x0.Kind == 7))] := h.keep [1, 2, 32, 90]
         refine x_then_n ?_
         by_cases hc_68 : x0.Kind = 7
         ·rw [if_pos hc_68] at H
          refine c_cond_t h rfl (beq_iff_eq.2 hc_68) <| c_seq fun KJ_69 hKJ_69 => wp_region_lit <| s_fieldAddr h rfl U29 rfl ti3 rfl rfl fun a h=>s_load h rfl rfl (hS.load_one (p := 1) rfl U3 rfl rfl) fun a h=>s_fieldAddr h rfl U29 rfl ti3 rfl rfl fun a h=>s_load h rfl rfl (hS.load_one (p := 1) rfl U3 rfl rfl) fun a h=>?_
          have hq_74 : Reps (Kd.int .i64) Mem.no ([x0.Hop, x0.Seq] : List Int) _ := ((Reps.one (d := (Kd.int .i64)) (x := x0.Hop) (show (Kd.int .i64).K _ _ [iV x0.Hop] from rfl)).append ((Reps.one (d := (Kd.int .i64)) (x := x0.Seq) (show (Kd.int .i64).K _ _ [iV x0.Seq] from rfl)).append (Reps.nil (Kd.int .i64) _)))
          refine s_buildSlice h rfl U22 ti3 rfl rfl rfl (.cons rfl (.cons rfl .nil)) rfl rfl rfl hS hq_74 rfl fun w_70 v_71 M_72 hS' ho_73 a h => ?_
          replace hS : Sep w0 w_70 [_, _, M_72] Z := hS'
          clear hS' hq_74
          obtain ⟨t_76, et_76, H⟩ := Option.bind_eq_some_iff.1 H
          refine s_call h rfl Try.call58 rfl (hocketref11_within.calls K ([x0.Hop, x0.Seq] : List Int) _ 2 t_76 w0 _ _ _ (Mem.le.refl _) (hS.enter [] (by decide)) (ho_73.rd (hS.own_zed [] 1 (by decide)) (Mem.no_le _)) et_76) ?_
          rintro _ w_77 ⟨N_78, rfl, hS'⟩
          intro a h
          obtain ⟨N_79, hS'', le_79, ln_79⟩ := hS.call [] (by decide) rfl (l' := []) (ow := []) rfl hS'
          replace hS : Sep w0 w_77 [N_79, _, _] Z := hS''
          clear hS' hS''
          refine s_move h rfl rfl fun a h=>?_
          by_cases hc_80 : t_76 = true
          ·rw [if_pos hc_80] at H
           refine s_on h rfl rfl hc_80 <| s_fieldAddr h rfl U29 rfl ti22 rfl rfl fun a h=>s_on h rfl rfl hc_80 <| s_load h rfl rfl (hS.load_one (p := 1) rfl U22 rfl rfl) fun a h=>s_on h rfl rfl hc_80 ?_
           obtain ⟨t_81, et_81, H⟩ := Option.bind_eq_some_iff.1 H
           refine s_call h rfl Try.call58 rfl (hocketref11_within.calls K x0.Have _ 7 t_81 w0 _ _ _ (Mem.le.refl _) (hS.enter [] (by decide)) (hp0_1.mono (hA.trans (hS.le_zed []))) et_81) ?_
           rintro _ w_82 ⟨N_83, rfl, hS'⟩
           intro a h
           obtain ⟨N_84, hS'', le_84, ln_84⟩ := hS.call [] (by decide) rfl (l' := []) (ow := []) rfl hS'
           replace hS : Sep w0 w_82 [N_84, _, _] Z := hS''
           clear hS' hS''
           refine s_pick_t h rfl rfl hc_80 rfl fun a h=>s_move h rfl rfl fun a h=>?_
           by_cases hc_85 : t_81 = true
           ·rw [if_pos hc_85] at H
            refine s_on h rfl rfl hc_85 <| s_fieldAddr h rfl U29 rfl ti22 rfl rfl fun a h=>s_on h rfl rfl hc_85 <| s_load h rfl rfl (hS.load_one (p := 1) rfl U22 rfl rfl) fun a h=>s_on h rfl rfl hc_85 ?_
            obtain ⟨t_86, et_86, H⟩ := Option.bind_eq_some_iff.1 H
            refine s_call h rfl Try.call58 rfl (hocketref11_within.calls K x0.Need _ 8 t_86 w0 _ _ _ (Mem.le.refl _) (hS.enter [] (by decide)) (hp0_2.mono (hA.trans (hS.le_zed []))) et_86) ?_
            rintro _ w_87 ⟨N_88, rfl, hS'⟩
            intro a h
            obtain ⟨N_89, hS'', le_89, ln_89⟩ := hS.call [] (by decide) rfl (l' := []) (ow := []) rfl hS'
            replace hS : Sep w0 w_87 [N_89, _, _] Z := hS''
            clear hS' hS''
            refine s_pick_t h rfl rfl hc_85 rfl fun a h=>s_assign h rfl rfl fun a h=>wpList_nil <| x_then_n (hKJ_69 _ _ ?_)
            refine wp_ret (x_block_r (x_then_r ?_))
            obtain rfl := Option.some.inj H
            exact f_ret h (rs := [.tmp 2]) rfl (.tmp rfl .nil) ⟨_, rfl, N_89, rfl, (Sep.sel hS [0] (by decide))⟩
           ·rw [if_neg hc_85] at H
            refine s_off h rfl rfl rfl (Bool.eq_false_iff.2 hc_85) fun a h=>s_off h rfl rfl rfl (Bool.eq_false_iff.2 hc_85) fun a h=>s_off h rfl rfl rfl (Bool.eq_false_iff.2 hc_85) fun a h=>s_pick_f h rfl rfl (Bool.eq_false_iff.2 hc_85) rfl fun a h=>s_assign h rfl rfl fun a h=>wpList_nil <| x_then_n (hKJ_69 _ _ ?_)
            refine wp_ret (x_block_r (x_then_r ?_))
            obtain rfl := Option.some.inj H
            exact f_ret h (rs := [.tmp 2]) rfl (.tmp rfl .nil) ⟨_, rfl, N_84, rfl, (Sep.sel hS [0] (by decide))⟩
          ·rw [if_neg hc_80] at H
           refine s_off h rfl rfl rfl (Bool.eq_false_iff.2 hc_80) fun a h=>s_off h rfl rfl rfl (Bool.eq_false_iff.2 hc_80) fun a h=>s_off h rfl rfl rfl (Bool.eq_false_iff.2 hc_80) fun a h=>s_pick_f h rfl rfl (Bool.eq_false_iff.2 hc_80) rfl fun a h=>s_move h rfl rfl fun a h=>s_off h rfl rfl rfl rfl fun a h=>s_off h rfl rfl rfl rfl fun a h=>s_off h rfl rfl rfl rfl fun a h=>s_pick_f h rfl rfl rfl rfl fun a h=>s_assign h rfl rfl fun a h=>wpList_nil <| x_then_n (hKJ_69 _ _ ?_)
           refine wp_ret (x_block_r (x_then_r ?_))
           obtain rfl := Option.some.inj H
           exact f_ret h (rs := [.tmp 2]) rfl (.tmp rfl .nil) ⟨_, rfl, N_79, rfl, (Sep.sel hS [0] (by decide))⟩
         ·rw [if_neg hc_68] at H
          refine c_cond_f h rfl (beq_eq_false_iff_ne.2 hc_68) <| wp_seq <| wp_region_lit <| s_cmp (b := (x0.Kind == 8)) h rfl rfl rfl (.inl ⟨rfl, rfl⟩) fun a h=>s_assign h rfl rfl fun a h=>wpList_nil <| x_then_n ?_
          by_cases hc_90 : x0.Kind = 8
          ·rw [if_pos hc_90] at H
           refine c_cond_t h rfl (beq_iff_eq.2 hc_90) <| c_seq fun KJ_91 hKJ_91 => wp_region_lit <| s_fieldAddr h rfl U29 rfl ti3 rfl rfl fun a h=>s_load h rfl rfl (hS.load_one (p := 1) rfl U3 rfl rfl) fun a h=>?_
           have hq_96 : Reps (Kd.int .i64) Mem.no ([x0.Index] : List Int) _ := ((Reps.one (d := (Kd.int .i64)) (x := x0.Index) (show (Kd.int .i64).K _ _ [iV x0.Index] from rfl)).append (Reps.nil (Kd.int .i64) _))
           refine s_buildSlice h rfl U22 ti3 rfl rfl rfl (.cons rfl .nil) rfl rfl rfl hS hq_96 rfl fun w_92 v_93 M_94 hS' ho_95 a h => ?_
           replace hS : Sep w0 w_92 [_, _, M_94] Z := hS'
           clear hS' hq_96
           obtain ⟨t_98, et_98, H⟩ := Option.bind_eq_some_iff.1 H
           refine s_call h rfl Try.call58 rfl (hocketref11_within.calls K ([x0.Index] : List Int) _ 1 t_98 w0 _ _ _ (Mem.le.refl _) (hS.enter [] (by decide)) (ho_95.rd (hS.own_zed [] 1 (by decide)) (Mem.no_le _)) et_98) ?_
           rintro _ w_99 ⟨N_100, rfl, hS'⟩
           intro a h
           obtain ⟨N_101, hS'', le_101, ln_101⟩ := hS.call [] (by decide) rfl (l' := []) (ow := []) rfl hS'
           replace hS : Sep w0 w_99 [N_101, _, _] Z := hS''
           clear hS' hS''
           refine s_move h rfl rfl fun a h=>?_
           by_cases hc_102 : t_98 = true
           ·rw [if_pos hc_102] at H
            refine s_on h rfl rfl hc_102 <| s_fieldAddr h rfl U29 rfl ti27 rfl rfl fun a h=>s_on h rfl rfl hc_102 <| s_load h rfl rfl (hS.load_agg (p := 1) (us := [iV x0.Entry.Sess, iV x0.Entry.Seq, iV x0.Entry.Cmd.Kind, iV x0.Entry.Cmd.Who, p0_3, p0_4, p0_5]) rfl U27 rfl ti27 rfl rfl) fun a h=>s_on h rfl rfl hc_102 ?_
            obtain ⟨t_103, et_103, H⟩ := Option.bind_eq_some_iff.1 H
            refine s_call h rfl Try.call59 rfl (hocketref11_entry.calls x0.Entry _ _ _ t_103 w0 _ _ _ (Mem.le.refl _) (hS.enter [] (by decide)) (hp0_3.mono (hA.trans (hS.le_zed []))) (hp0_4.mono (hA.trans (hS.le_zed []))) (hp0_5.mono (hA.trans (hS.le_zed []))) et_103) ?_
            rintro _ w_104 ⟨N_105, rfl, hS'⟩
            intro a h
            obtain ⟨N_106, hS'', le_106, ln_106⟩ := hS.call [] (by decide) rfl (l' := []) (ow := []) rfl hS'
            replace hS : Sep w0 w_104 [N_106, _, _] Z := hS''
            clear hS' hS''
            refine s_pick_t h rfl rfl hc_102 rfl fun a h=>s_assign h rfl rfl fun a h=>wpList_nil <| x_then_n (hKJ_91 _ _ ?_)
            refine wp_ret (x_block_r (x_then_r ?_))
            obtain rfl := Option.some.inj H
            exact f_ret h (rs := [.tmp 2]) rfl (.tmp rfl .nil) ⟨_, rfl, N_106, rfl, (Sep.sel hS [0] (by decide))⟩
           ·rw [if_neg hc_102] at H
            refine s_off h rfl rfl rfl (Bool.eq_false_iff.2 hc_102) fun a h=>s_off h rfl rfl rfl (Bool.eq_false_iff.2 hc_102) fun a h=>s_off h rfl rfl rfl (Bool.eq_false_iff.2 hc_102) fun a h=>s_pick_f h rfl rfl (Bool.eq_false_iff.2 hc_102) rfl fun a h=>s_assign h rfl rfl fun a h=>wpList_nil <| x_then_n (hKJ_91 _ _ ?_)
            refine wp_ret (x_block_r (x_then_r ?_))
            obtain rfl := Option.some.inj H
            exact f_ret h (rs := [.tmp 2]) rfl (.tmp rfl .nil) ⟨_, rfl, N_101, rfl, (Sep.sel hS [0] (by decide))⟩
          ·rw [if_neg hc_90] at H
           refine c_cond_f h rfl (beq_eq_false_iff_ne.2 hc_90) <| wp_skip <| x_block_n <| x_then_n (hKJ_10 _ _ ?_)
           refine wp_seq <| wp_region_lit <| s_assign h rfl rfl fun a h=>wpList_nil <| x_then_n <| wp_ret ?_
           obtain rfl := Option.some.inj H
           exact f_ret h (rs := [.tmp 2]) rfl (.tmp rfl .nil) ⟨_, rfl, N_12, rfl, (Sep.sel hS [0] (by decide))⟩
   clear hKJ_11
   by_cases hc_107 : x0.Kind = 1
   ·rw [if_pos hc_107] at H
    refine c_cond_t h rfl (beq_iff_eq.2 hc_107) <| wp_skip ?_
    replace hS : Sep w0 w_7 [_, _] Z := hS
    replace h : Fr 119 a [(1, _), (2, _), (32, iV x0.Kind), (33, .bool (x0.Kind == 1))] := h.keep [1, 2, 32, 33]
    exact x_then_n (hJ_j_15 (x0.Kind == 1) H _ _ ⟨N_5, h, (Sep.sel hS [0, 1] (by decide)), (Mem.le.refl _)⟩)
   ·rw [if_neg hc_107] at H
    refine c_cond_f h rfl (beq_eq_false_iff_ne.2 hc_107) <| wp_region_lit <| s_cmp (b := (x0.Kind == 6)) h rfl rfl rfl (.inl ⟨rfl, rfl⟩) fun a h=>s_assign h rfl rfl fun a h=>wpList_nil ?_
    replace h : Fr 119 a [(1, _), (2, _), (32, iV x0.Kind), (33, .bool (x0.Kind == 6))] := h.keep [1, 2, 32, 33]
    replace hS : Sep w0 w_7 [_, _] Z := hS
    replace h : Fr 119 a [(1, _), (2, _), (32, _), (33, _)] := h.keep [1, 2, 32, 33]
    exact x_then_n (hJ_j_15 (x0.Kind == 6) H _ _ ⟨N_5, h, (Sep.sel hS [0, 1] (by decide)), (Mem.le.refl _)⟩)
 clear hKJ_4
 refine wp_region_lit <| s_fieldAddr h rfl U29 rfl ti3 rfl rfl fun a h=>s_load h rfl rfl (hS.load_one (p := 1) rfl U3 rfl rfl) fun a h=>s_cmp (b := decide (x0.From < 0)) h rfl rfl rfl (.inr (.inr (.inl ⟨rfl, rfl⟩))) fun a h=>s_move h rfl rfl fun a h=>?_
 by_cases hc_108 : x0.From < 0
 ·rw [if_pos hc_108] at H
  refine s_off h rfl rfl rfl (decide_eq_true hc_108) fun a h=>s_off h rfl rfl rfl (decide_eq_true hc_108) fun a h=>s_off h rfl rfl rfl (decide_eq_true hc_108) fun a h=>s_pick_t h rfl rfl (decide_eq_true hc_108) rfl fun a h=>s_move h rfl rfl fun a h=>s_off h rfl rfl rfl rfl fun a h=>s_off h rfl rfl rfl rfl fun a h=>s_off h rfl rfl rfl rfl fun a h=>s_pick_t h rfl rfl rfl rfl fun a h=>s_move h rfl rfl fun a h=>s_off h rfl rfl rfl rfl fun a h=>s_off h rfl rfl rfl rfl fun a h=>?_
  refine s_off h rfl rfl rfl rfl fun a h=>s_pick_t h rfl rfl rfl rfl fun a h=>s_move h rfl rfl fun a h=>s_off h rfl rfl rfl rfl fun a h=>s_off h rfl rfl rfl rfl fun a h=>s_off h rfl rfl rfl rfl fun a h=>s_pick_t h rfl rfl rfl rfl fun a h=>s_move h rfl rfl fun a h=>s_off h rfl rfl rfl rfl fun a h=>s_off h rfl rfl rfl rfl fun a h=>s_off h rfl rfl rfl rfl fun a h=>s_pick_t h rfl rfl rfl rfl fun a h=>?_
  refine wpList_nil ?_
  replace hS : Sep w0 w_1 [_, _] Z := hS
  replace h : Fr 119 a [(1, .pointer (some ⟨g_2, 0, none⟩)), (2, .bool false), (30, .bool true)] := h.keep [1, 2, 30]
  exact x_then_n (hJ_j_8 true H _ _ ⟨Mem.no, h, (Sep.sel hS [0, 1] (by decide)), (Mem.le.refl _)⟩)
 ·rw [if_neg hc_108] at H
  refine s_on h rfl rfl (decide_eq_false hc_108) <| s_fieldAddr h rfl U29 rfl ti3 rfl rfl fun a h=>s_on h rfl rfl (decide_eq_false hc_108) <| s_load h rfl rfl (hS.load_one (p := 1) rfl U3 rfl rfl) fun a h=>s_on h rfl rfl (decide_eq_false hc_108) <| s_cmp (b := decide (x0.From > 6)) h rfl rfl rfl (.inr (.inr (.inr (.inr (.inl ⟨rfl, rfl⟩))))) fun a h=>s_pick_f h rfl rfl (decide_eq_false hc_108) rfl fun a h=>s_move h rfl rfl fun a h=>?_
  by_cases hc_109 : x0.From > 6
  ·rw [if_pos hc_109] at H
   refine s_off h rfl rfl rfl (decide_eq_true hc_109) fun a h=>s_off h rfl rfl rfl (decide_eq_true hc_109) fun a h=>s_off h rfl rfl rfl (decide_eq_true hc_109) fun a h=>s_pick_t h rfl rfl (decide_eq_true hc_109) rfl fun a h=>s_move h rfl rfl fun a h=>s_off h rfl rfl rfl rfl fun a h=>s_off h rfl rfl rfl rfl fun a h=>s_off h rfl rfl rfl rfl fun a h=>s_pick_t h rfl rfl rfl rfl fun a h=>s_move h rfl rfl fun a h=>s_off h rfl rfl rfl rfl fun a h=>s_off h rfl rfl rfl rfl fun a h=>?_
   refine s_off h rfl rfl rfl rfl fun a h=>s_pick_t h rfl rfl rfl rfl fun a h=>s_move h rfl rfl fun a h=>s_off h rfl rfl rfl rfl fun a h=>s_off h rfl rfl rfl rfl fun a h=>s_off h rfl rfl rfl rfl fun a h=>s_pick_t h rfl rfl rfl rfl fun a h=>wpList_nil ?_
   replace hS : Sep w0 w_1 [_, _] Z := hS
   replace h : Fr 119 a [(1, .pointer (some ⟨g_2, 0, none⟩)), (2, .bool false), (30, .bool true)] := h.keep [1, 2, 30]
   exact x_then_n (hJ_j_8 true H _ _ ⟨Mem.no, h, (Sep.sel hS [0, 1] (by decide)), (Mem.le.refl _)⟩)
  ·rw [if_neg hc_109] at H
   refine s_on h rfl rfl (decide_eq_false hc_109) <| s_fieldAddr h rfl U29 rfl ti3 rfl rfl fun a h=>s_on h rfl rfl (decide_eq_false hc_109) <| s_load h rfl rfl (hS.load_one (p := 1) rfl U3 rfl rfl) fun a h=>s_on h rfl rfl (decide_eq_false hc_109) <| s_cmp (b := decide (x0.To < 0)) h rfl rfl rfl (.inr (.inr (.inl ⟨rfl, rfl⟩))) fun a h=>s_pick_f h rfl rfl (decide_eq_false hc_109) rfl fun a h=>s_move h rfl rfl fun a h=>?_
   by_cases hc_110 : x0.To < 0
   ·rw [if_pos hc_110] at H
    refine s_off h rfl rfl rfl (decide_eq_true hc_110) fun a h=>s_off h rfl rfl rfl (decide_eq_true hc_110) fun a h=>s_off h rfl rfl rfl (decide_eq_true hc_110) fun a h=>s_pick_t h rfl rfl (decide_eq_true hc_110) rfl fun a h=>s_move h rfl rfl fun a h=>s_off h rfl rfl rfl rfl fun a h=>s_off h rfl rfl rfl rfl fun a h=>s_off h rfl rfl rfl rfl fun a h=>s_pick_t h rfl rfl rfl rfl fun a h=>s_move h rfl rfl fun a h=>s_off h rfl rfl rfl rfl fun a h=>s_off h rfl rfl rfl rfl fun a h=>?_
    refine s_off h rfl rfl rfl rfl fun a h=>s_pick_t h rfl rfl rfl rfl fun a h=>wpList_nil ?_
    replace hS : Sep w0 w_1 [_, _] Z := hS
    replace h : Fr 119 a [(1, .pointer (some ⟨g_2, 0, none⟩)), (2, .bool false), (30, .bool true)] := h.keep [1, 2, 30]
    exact x_then_n (hJ_j_8 true H _ _ ⟨Mem.no, h, (Sep.sel hS [0, 1] (by decide)), (Mem.le.refl _)⟩)
   ·rw [if_neg hc_110] at H
    refine s_on h rfl rfl (decide_eq_false hc_110) <| s_fieldAddr h rfl U29 rfl ti3 rfl rfl fun a h=>s_on h rfl rfl (decide_eq_false hc_110) <| s_load h rfl rfl (hS.load_one (p := 1) rfl U3 rfl rfl) fun a h=>s_on h rfl rfl (decide_eq_false hc_110) <| s_cmp (b := decide (x0.To > 6)) h rfl rfl rfl (.inr (.inr (.inr (.inr (.inl ⟨rfl, rfl⟩))))) fun a h=>s_pick_f h rfl rfl (decide_eq_false hc_110) rfl fun a h=>s_move h rfl rfl fun a h=>?_
    by_cases hc_111 : x0.To > 6
    ·rw [if_pos hc_111] at H
     refine s_off h rfl rfl rfl (decide_eq_true hc_111) fun a h=>s_off h rfl rfl rfl (decide_eq_true hc_111) fun a h=>s_off h rfl rfl rfl (decide_eq_true hc_111) fun a h=>s_pick_t h rfl rfl (decide_eq_true hc_111) rfl fun a h=>s_move h rfl rfl fun a h=>s_off h rfl rfl rfl rfl fun a h=>s_off h rfl rfl rfl rfl fun a h=>s_off h rfl rfl rfl rfl fun a h=>s_pick_t h rfl rfl rfl rfl fun a h=>wpList_nil ?_
     replace hS : Sep w0 w_1 [_, _] Z := hS
     replace h : Fr 119 a [(1, .pointer (some ⟨g_2, 0, none⟩)), (2, .bool false), (30, .bool true)] := h.keep [1, 2, 30]
     exact x_then_n (hJ_j_8 true H _ _ ⟨Mem.no, h, (Sep.sel hS [0, 1] (by decide)), (Mem.le.refl _)⟩)
    ·rw [if_neg hc_111] at H
     refine s_on h rfl rfl (decide_eq_false hc_111) <| s_fieldAddr h rfl U29 rfl ti3 rfl rfl fun a h=>s_on h rfl rfl (decide_eq_false hc_111) <| s_load h rfl rfl (hS.load_one (p := 1) rfl U3 rfl rfl) fun a h=>s_on h rfl rfl (decide_eq_false hc_111) <| s_cmp (b := decide (x0.View < 0)) h rfl rfl rfl (.inr (.inr (.inl ⟨rfl, rfl⟩))) fun a h=>s_pick_f h rfl rfl (decide_eq_false hc_111) rfl fun a h=>s_move h rfl rfl fun a h=>?_
     by_cases hc_112 : x0.View < 0
     ·rw [if_pos hc_112] at H
      refine s_off h rfl rfl rfl (decide_eq_true hc_112) fun a h=>s_off h rfl rfl rfl (decide_eq_true hc_112) fun a h=>s_off h rfl rfl rfl (decide_eq_true hc_112) fun a h=>s_pick_t h rfl rfl (decide_eq_true hc_112) rfl fun a h=>wpList_nil ?_
      replace hS : Sep w0 w_1 [_, _] Z := hS
      replace h : Fr 119 a [(1, .pointer (some ⟨g_2, 0, none⟩)), (2, .bool false), (30, .bool true)] := h.keep [1, 2, 30]
      exact x_then_n (hJ_j_8 true H _ _ ⟨Mem.no, h, (Sep.sel hS [0, 1] (by decide)), (Mem.le.refl _)⟩)
     ·rw [if_neg hc_112] at H
      refine s_on h rfl rfl (decide_eq_false hc_112) <| s_fieldAddr h rfl U29 rfl ti3 rfl rfl fun a h=>s_on h rfl rfl (decide_eq_false hc_112) <| s_load h rfl rfl (hS.load_one (p := 1) rfl U3 rfl rfl) fun a h=>s_on h rfl rfl (decide_eq_false hc_112) <| s_cmp (b := decide (x0.View > 1099511627776)) h rfl rfl rfl (.inr (.inr (.inr (.inr (.inl ⟨rfl, rfl⟩))))) fun a h=>s_pick_f h rfl rfl (decide_eq_false hc_112) rfl fun a h=>wpList_nil ?_
      replace hS : Sep w0 w_1 [_, _] Z := hS
      replace h : Fr 119 a [(1, .pointer (some ⟨g_2, 0, none⟩)), (2, .bool false), (30, .bool (decide (x0.View > 1099511627776)))] := h.keep [1, 2, 30]
      exact x_then_n (hJ_j_8 (decide (x0.View > 1099511627776)) H _ _ ⟨Mem.no, h, (Sep.sel hS [0, 1] (by decide)), (Mem.le.refl _)⟩)

set_option maxHeartbeats 4000000 in
set_option maxRecDepth 20000 in
theorem hocketref1_Num.calls (K : Nat) (x0 : List UInt8) (p0_0 : Value) (x1 : Int) (r : (List UInt8)) (w0 w : World) (Z A : Mem) (hA : A.le Z) (hS : Sep w0 w [] Z) (hp0_0 : Rd Kd.u8 A p0_0 x0)
    (H : hocketref1_Num.f K x0 x1 = some r) :
    Calls Try.prog 60 [p0_0, iV x1].toArray w (Ret fun v w' => ∃ (u0 : Value) (N : Mem) (M0 : Mem), v = u0 ∧ Sep w0 w' [N, M0] Z ∧ Own Kd.u8 5 M0 Mem.no u0 r) := by
 unfold hocketref1_Num.f at H
 refine f_enter _ Try.func60 rfl Try.ntmps60 rfl fun a h=>?_
 replace h : Fr 28 a [(0, p0_0), (1, iV x1)] := h
 replace hS := hS.start
 replace hS : Sep w0 w [_] Z := hS
 refine wp_seq <| wp_region_lit <| s_assign h rfl rfl fun a h=>wpList_nil <| x_then_n <| wp_seq <| wp_region_lit ?_
 have hq_5 : Reps Kd.u8 Mem.no ([] : List UInt8) _ := (Reps.nil Kd.u8 _)
 refine s_buildSlice h rfl U23 ti5 rfl rfl rfl .nil rfl rfl rfl hS hq_5 rfl fun w_1 v_2 M_3 hS' ho_4 a h => ?_
 replace hS : Sep w0 w_1 [_, M_3] Z := hS'
 clear hS' hq_5
 refine s_move h rfl rfl fun a h=>?_
 obtain ⟨t_7, et_7, H⟩ := Option.bind_eq_some_iff.1 H
 refine s_append (J := Mem.no) (I' := Mem.no) (p := 1) 140737488355328 h rfl rfl rfl U23 ti5 rfl rfl rfl rfl hS rfl ho_4 (Src.flat flat_u8 (hp0_0.src (hA.trans hS.old))) (Mem.le.refl _) (Mem.le.refl _) et_7 fun w_8 v_9 M_10 hS' ho_11 a h => ?_
 replace hS : Sep w0 w_8 [_, M_10] Z := hS'
 clear hS'
 refine s_assign h rfl rfl fun a h=>wpList_nil <| x_then_n <| wp_seq <| wp_region_lit <| s_move h rfl rfl fun a h=>s_max h rfl rfl rfl fun a h=>s_min h rfl rfl rfl fun a h=>s_assign h rfl rfl fun a h=>wpList_nil <| x_then_n <| c_seq fun KJ_13 hKJ_13 => ?_
 have hJ_j_22 : ∀ (x_15 : Int), ∀ (x_16 : List UInt8), hocketref1_Num.J1 K x_15 x_16 = some r → ∀ (a : Act) (w_21 : World), (∃ (v_19 : Value) (N_14 : Mem) (M_17 : Mem), Fr 28 a [(1, iV x_15), (4, nS), (5, v_19)] ∧ Sep w0 w_21 [N_14, M_17] Z ∧ Mem.no.le N_14 ∧ Own Kd.u8 5 M_17 Mem.no v_19 x_16) → KJ_13 a w_21 := by
  clear H h hS a
  rintro x_15 x_16 H a w_21 ⟨v_19, N_14, M_17, h, hS, le_14, ho_20⟩
  unfold hocketref1_Num.J1 at H
  refine hKJ_13 _ _ <| wp_seq <| wp_region_lit <| s_move h rfl rfl fun a h=>s_move h rfl rfl fun a h=>s_conv (((toU8 x_15).toNat : Int)) h rfl U3 U5 rfl (wrap_u8 _).symm fun a h=>?_
  have hq_27 : Reps Kd.u8 Mem.no ([toU8 x_15] : List UInt8) _ := ((Reps.one (d := Kd.u8) (x := toU8 x_15) (show Kd.u8.K _ _ [.int .u8 ((toU8 x_15).toNat : Int)] from rfl)).append (Reps.nil Kd.u8 _))
  refine s_buildSlice h rfl U23 ti5 rfl rfl rfl (.cons rfl .nil) rfl rfl rfl hS hq_27 rfl fun w_23 v_24 M_25 hS' ho_26 a h => ?_
  replace hS : Sep w0 w_23 [_, _, M_25] Z := hS'
  clear hS' hq_27
  obtain ⟨t_29, et_29, H⟩ := Option.bind_eq_some_iff.1 H
  refine s_append (J := Mem.no) (I' := Mem.no) (p := 1) 140737488355328 h rfl rfl rfl U23 ti5 rfl rfl rfl rfl hS rfl ho_20 (Src.flat flat_u8 (ho_26.src (hS.own 2))) (Mem.le.refl _) (Mem.le.refl _) et_29 fun w_30 v_31 M_32 hS' ho_33 a h => ?_
  replace hS : Sep w0 w_30 [_, M_32, _] Z := hS'
  clear hS'
  refine s_assign h rfl rfl fun a h=>wpList_nil ?_
  replace h : Fr 28 a [(4, v_31)] := h.keep [4]
  refine x_then_n <| wp_ret ?_
  obtain rfl := Option.some.inj H
  exact f_ret h (rs := [.tmp 4]) rfl (.tmp rfl .nil) ⟨_, rfl, v_31, N_14, M_32, rfl, (Sep.sel hS [0, 1] (by decide)), ho_33⟩
 clear hKJ_13
 replace hS : Sep w0 w_8 [_, _] Z := hS
 replace h : Fr 28 a [(1, iV (mn (mx x1 0) 4611686018427387904)), (4, nS), (5, v_9)] := h.keep [1, 4, 5]
 refine c_block <| c_loop (fun k_42 a w_42 => ∃ (x_36 : Int) (x_37 : List UInt8) (v_40 : Value) (N_35 : Mem) (M_38 : Mem), hocketref1_Num.L1 K (fun v => hocketref1_Num.J1 K v.1 v.2) k_42 (x_36, x_37) = some r ∧ Fr 28 a [(1, iV x_36), (4, nS), (5, v_40)] ∧ Sep w0 w_42 [N_35, M_38] Z ∧ Mem.no.le N_35 ∧ Own Kd.u8 5 M_38 Mem.no v_40 x_37) K ⟨mn (mx x1 0) 4611686018427387904, t_7, v_9, Mem.no, M_10, H, h, (Sep.sel hS [0, 1] (by decide)), (Mem.le.refl _), ho_11⟩ (fun a w h => by obtain ⟨_, _, _, _, _, H, _⟩ := h; cases (show (none : Option ((List UInt8))) = some r from H)) ?_
 clear h hS a H
 rintro k_42 a w_42 KL_42 hKL_42 ⟨x_36, x_37, v_40, N_35, M_38, H, h, hS, le_35, ho_41⟩
 replace H : hocketref1_Num.B1 K (fun v => hocketref1_Num.J1 K v.1 v.2) (hocketref1_Num.L1 K (fun v => hocketref1_Num.J1 K v.1 v.2) k_42) x_36 x_37 = some r := H
 unfold hocketref1_Num.B1 at H
 refine c_seq fun KJ_44 hKJ_44 => wp_seq <| wp_region_lit <| s_move h rfl rfl fun a h=>s_cmp (b := decide (x_36 > 127)) h rfl rfl rfl (.inr (.inr (.inr (.inr (.inl ⟨rfl, rfl⟩))))) fun a h=>wpList_nil ?_
 replace h : Fr 28 a [(1, _), (4, _), (5, _), (13, .bool (decide (x_36 > 127)))] := h.keep [1, 4, 5, 13]
 refine x_then_n ?_
 by_cases hc_45 : x_36 > 127
 ·rw [if_pos hc_45] at H
  refine c_cond_t h rfl (decide_eq_true hc_45) <| wp_skip <| x_then_n (hKJ_44 _ _ ?_)
  refine c_block <| wp_seq <| wp_region_lit <| s_move h rfl rfl fun a h=>s_move h rfl rfl fun a h=>s_bits (i := x_36) (j := 127) (r := band .i64 x_36 127) h rfl rfl rfl (.inl ⟨rfl, rfl⟩) fun a h=>s_bits (i := band .i64 x_36 127) (j := 128) (r := bor .i64 (band .i64 x_36 127) 128) h rfl rfl rfl (.inr (.inl ⟨rfl, rfl⟩)) fun a h=>s_conv (((toU8 (bor .i64 (band .i64 x_36 127) 128)).toNat : Int)) h rfl U3 U5 rfl (wrap_u8 _).symm fun a h=>?_
  have hq_50 : Reps Kd.u8 Mem.no ([toU8 (bor .i64 (band .i64 x_36 127) 128)] : List UInt8) _ := ((Reps.one (d := Kd.u8) (x := toU8 (bor .i64 (band .i64 x_36 127) 128)) (show Kd.u8.K _ _ [.int .u8 ((toU8 (bor .i64 (band .i64 x_36 127) 128)).toNat : Int)] from rfl)).append (Reps.nil Kd.u8 _))
  refine s_buildSlice h rfl U23 ti5 rfl rfl rfl (.cons rfl .nil) rfl rfl rfl hS hq_50 rfl fun w_46 v_47 M_48 hS' ho_49 a h => ?_
  replace hS : Sep w0 w_46 [_, _, M_48] Z := hS'
  clear hS' hq_50
  obtain ⟨t_52, et_52, H⟩ := Option.bind_eq_some_iff.1 H
  refine s_append (J := Mem.no) (I' := Mem.no) (p := 1) 140737488355328 h rfl rfl rfl U23 ti5 rfl rfl rfl rfl hS rfl ho_41 (Src.flat flat_u8 (ho_49.src (hS.own 2))) (Mem.le.refl _) (Mem.le.refl _) et_52 fun w_53 v_54 M_55 hS' ho_56 a h => ?_
  replace hS : Sep w0 w_53 [_, M_55, _] Z := hS'
  clear hS'
  refine s_assign h rfl rfl fun a h=>wpList_nil <| x_then_n <| wp_region_lit <| s_move h rfl rfl fun a h=>s_shift (r := shr .i64 x_36 7) h rfl rfl rfl (by decide) (.inr ⟨rfl, rfl⟩) fun a h=>s_assign h rfl rfl fun a h=>wpList_nil <| x_block_n <| x_then_n (hKL_42 _ _ ?_)
  replace hS : Sep w0 w_53 [_, _, _] Z := hS
  replace h : Fr 28 a [(1, iV (shr .i64 x_36 7)), (4, _), (5, v_54)] := h.keep [1, 4, 5]
  exact ⟨shr .i64 x_36 7, t_52, v_54, N_35, M_55, H, h, (Sep.sel hS [0, 1] (by decide)), le_35, ho_56⟩
 ·rw [if_neg hc_45] at H
  refine c_cond_f h rfl (decide_eq_false hc_45) <| wp_exit (x_then_x (x_then_x (x_block_t ?_)))
  replace hS : Sep w0 w_42 [_, _] Z := hS
  replace h : Fr 28 a [(1, _), (4, _), (5, _)] := h.keep [1, 4, 5]
  exact x_then_n (hJ_j_22 x_36 x_37 H _ _ ⟨v_40, N_35, M_38, h, (Sep.sel hS [0, 1] (by decide)), le_35, ho_41⟩)

set_option maxHeartbeats 4000000 in
set_option maxRecDepth 20000 in
theorem hocketref11_nums.calls (K : Nat) (x0 : List UInt8) (p0_0 : Value) (x1 : List Int) (p1_1 : Value) (r : (List UInt8)) (w0 w : World) (Z A : Mem) (hA : A.le Z) (hS : Sep w0 w [] Z) (hp0_0 : Rd Kd.u8 A p0_0 x0) (hp1_1 : Rd (Kd.int .i64) A p1_1 x1)
    (H : hocketref11_nums.f K x0 x1 = some r) :
    Calls Try.prog 32 [p0_0, p1_1].toArray w (Ret fun v w' => ∃ (u0 : Value) (N : Mem), v = u0 ∧ Sep w0 w' [N] Z ∧ Rd Kd.u8 (A.un N) u0 r) := by
 unfold hocketref11_nums.f at H
 refine f_enter _ Try.func32 rfl Try.ntmps32 rfl fun a h=>?_
 replace h : Fr 19 a [(0, p0_0), (1, p1_1)] := h
 replace hS := hS.start
 replace hS : Sep w0 w [_] Z := hS
 refine wp_seq <| wp_region_lit <| s_assign h rfl rfl fun a h=>wpList_nil <| x_then_n <| c_seq fun KJ_1 hKJ_1 => wp_seq <| wp_region_lit <| s_assign h rfl rfl fun a h=>wpList_nil <| x_then_n ?_
 have hJ_j_7 : ∀ (x_3 : List UInt8), hocketref11_nums.J1 K x_3 = some r → ∀ (a : Act) (w_6 : World), (∃ (v_4 : Value) (N_2 : Mem), Fr 19 a [(0, v_4), (4, nS)] ∧ Sep w0 w_6 [N_2] Z ∧ Mem.no.le N_2 ∧ Rd Kd.u8 (A.un N_2) v_4 x_3) → KJ_1 a w_6 := by
  clear H h hS a
  rintro x_3 H a w_6 ⟨v_4, N_2, h, hS, le_2, hr_5⟩
  unfold hocketref11_nums.J1 at H
  refine hKJ_1 _ _ <| wp_seq <| wp_region_lit <| s_move h rfl rfl fun a h=>s_assign h rfl rfl fun a h=>wpList_nil <| x_then_n <| wp_ret ?_
  obtain rfl := Option.some.inj H
  exact f_ret h (rs := [.tmp 4]) rfl (.tmp rfl .nil) ⟨_, rfl, v_4, N_2, rfl, (Sep.sel hS [0] (by decide)), hr_5⟩
 clear hKJ_1
 replace hS : Sep w0 w [_] Z := hS
 replace h : Fr 19 a [(0, _), (1, _), (4, nS), (5, iV 0)] := h.keep [0, 1, 4, 5]
 refine c_block <| c_loop (fun k_13 a w_13 => ∃ (x_9 : List UInt8) (x_12 : Int) (v_10 : Value) (N_8 : Mem), hocketref11_nums.L1 K x1 (fun v => hocketref11_nums.J1 K v) k_13 (x_9, x_12) = some r ∧ Fr 19 a [(0, v_10), (1, p1_1), (4, nS), (5, iV x_12)] ∧ Sep w0 w_13 [N_8] Z ∧ Mem.no.le N_8 ∧ Rd Kd.u8 (A.un N_8) v_10 x_9) K ⟨x0, 0, p0_0, Mem.no, H, h, (Sep.sel hS [0] (by decide)), (Mem.le.refl _), (hp0_0.mono (Mem.le_un _ _))⟩ (fun a w h => by obtain ⟨_, _, _, _, H, _⟩ := h; cases (show (none : Option ((List UInt8))) = some r from H)) ?_
 clear h hS a H
 rintro k_13 a w_13 KL_13 hKL_13 ⟨x_9, x_12, v_10, N_8, H, h, hS, le_8, hr_11⟩
 replace H : hocketref11_nums.B1 K x1 (fun v => hocketref11_nums.J1 K v) (hocketref11_nums.L1 K x1 (fun v => hocketref11_nums.J1 K v) k_13) x_9 x_12 = some r := H
 unfold hocketref11_nums.B1 at H
 refine c_seq fun KJ_15 hKJ_15 => wp_seq <| wp_region_lit <| s_move h rfl rfl fun a h=>s_move h rfl rfl fun a h=>s_len h rfl U22 rfl hp1_1 fun a h=>s_cmp (b := decide (x_12 < (x1.length : Int))) h rfl rfl rfl (.inr (.inr (.inl ⟨rfl, rfl⟩))) fun a h=>wpList_nil <| x_then_n ?_
 by_cases hc_16 : x_12 < (x1.length : Int)
 ·rw [if_pos hc_16] at H
  refine c_cond_t h rfl (decide_eq_true hc_16) <| wp_skip <| x_then_n (hKJ_15 _ _ ?_)
  refine wp_seq <| c_block <| wp_region_lit <| s_move h rfl rfl fun a h=>s_move h rfl rfl fun a h=>s_move h rfl rfl fun a h=>?_
  obtain ⟨t_17, et_17, H⟩ := Option.bind_eq_some_iff.1 H
  refine v_index h rfl U22 ti3 rfl rfl rfl hp1_1 (hA.trans hS.old) et_17 fun ad_18 cs_19 hk_20 hc_21 => ?_
  obtain rfl := (show cs_19 = [iV t_17] from hk_20)
  intro a h
  refine s_load h rfl rfl (el_one (o := 0) hc_21 U3 rfl rfl) fun a h=>?_
  obtain ⟨t_22, et_22, H⟩ := Option.bind_eq_some_iff.1 H
  refine s_call h rfl Try.call60 rfl (hocketref1_Num.calls K x_9 _ t_17 t_22 w0 _ _ _ (Mem.le.refl _) (hS.enter [] (by decide)) (hr_11.mono (Mem.un_le (hA.trans (hS.le_zed [])) ((Mem.le.refl _).trans (hS.new_zed [])))) et_22) ?_
  rintro v_26 w_23 ⟨_, N_24, M_28, rfl, hS', hr_27⟩
  intro a h
  obtain ⟨N_25, hS'', le_25, ln_25⟩ := hS.call [] (by decide) rfl (l' := []) (ow := [M_28]) rfl hS'
  replace hS : Sep w0 w_23 [N_25, M_28] Z := hS''
  clear hS' hS''
  refine s_assign h rfl rfl fun a h=>wpList_nil ?_
  replace h : Fr 19 a [(0, v_26), (1, _), (4, _), (5, _)] := h.keep [0, 1, 4, 5]
  refine x_block_n <| x_then_n <| wp_region_lit <| s_move h rfl rfl fun a h=>s_arith (r := w64 (x_12 + 1)) h rfl rfl rfl (.inl ⟨rfl, rfl⟩) fun a h=>s_assign h rfl rfl fun a h=>wpList_nil <| x_then_n (hKL_13 _ _ ?_)
  obtain ⟨N_30, hS', le_30, lo_30⟩ := hS.freeze 0 rfl
  replace hS : Sep w0 w_23 [N_30, Mem.no] Z := hS'
  clear hS'
  replace hS : Sep w0 w_23 [_, _] Z := hS
  replace h : Fr 19 a [(0, _), (1, _), (4, _), (5, iV (w64 (x_12 + 1)))] := h.keep [0, 1, 4, 5]
  exact ⟨t_22, w64 (x_12 + 1), v_26, N_30, H, h, (Sep.sel hS [0] (by decide)), (le_8.trans (le_25.trans le_30)), ((hr_27.rd lo_30 (Mem.no_le _)).mono ((Mem.le.refl _).trans (hS.sndA hA)))⟩
 ·rw [if_neg hc_16] at H
  refine c_cond_f h rfl (decide_eq_false hc_16) <| wp_exit (x_then_x (x_then_x (x_block_t ?_)))
  replace hS : Sep w0 w_13 [_] Z := hS
  replace h : Fr 19 a [(0, _), (4, _)] := h.keep [0, 4]
  exact x_then_n (hJ_j_7 x_9 H _ _ ⟨v_10, N_8, h, (Sep.sel hS [0] (by decide)), le_8, hr_11⟩)

set_option maxHeartbeats 4000000 in
set_option maxRecDepth 20000 in
theorem hocketref1_Bytes.calls (K : Nat) (x0 : List UInt8) (p0_0 : Value) (x1 : List UInt8) (p1_1 : Value) (r : (List UInt8)) (w0 w : World) (Z A : Mem) (hA : A.le Z) (hS : Sep w0 w [] Z) (hp0_0 : Rd Kd.u8 A p0_0 x0) (hp1_1 : Rd Kd.u8 A p1_1 x1)
    (H : hocketref1_Bytes.f K x0 x1 = some r) :
    Calls Try.prog 33 [p0_0, p1_1].toArray w (Ret fun v w' => ∃ (u0 : Value) (N : Mem) (M0 : Mem), v = u0 ∧ Sep w0 w' [N, M0] Z ∧ Own Kd.u8 5 M0 Mem.no u0 r) := by
 unfold hocketref1_Bytes.f at H
 refine f_enter _ Try.func33 rfl Try.ntmps33 rfl fun a h=>?_
 replace h : Fr 11 a [(0, p0_0), (1, p1_1)] := h
 replace hS := hS.start
 replace hS : Sep w0 w [_] Z := hS
 refine wp_seq <| wp_region_lit <| s_assign h rfl rfl fun a h=>wpList_nil <| x_then_n <| wp_seq <| wp_region_lit <| s_move h rfl rfl fun a h=>s_move h rfl rfl fun a h=>s_len h rfl U23 rfl hp1_1 fun a h=>?_
 obtain ⟨t_1, et_1, H⟩ := Option.bind_eq_some_iff.1 H
 refine s_call h rfl Try.call60 rfl (hocketref1_Num.calls K x0 _ (x1.length : Int) t_1 w0 _ _ _ (Mem.le.refl _) (hS.enter [] (by decide)) (hp0_0.mono (hA.trans (hS.le_zed []))) et_1) ?_
 rintro v_5 w_2 ⟨_, N_3, M_7, rfl, hS', hr_6⟩
 intro a h
 obtain ⟨N_4, hS'', le_4, ln_4⟩ := hS.call [] (by decide) rfl (l' := []) (ow := [M_7]) rfl hS'
 replace hS : Sep w0 w_2 [N_4, M_7] Z := hS''
 clear hS' hS''
 refine s_move h rfl rfl fun a h=>?_
 obtain ⟨t_9, et_9, H⟩ := Option.bind_eq_some_iff.1 H
 refine s_append (J := Mem.no) (I' := Mem.no) (p := 1) 140737488355328 h rfl rfl rfl U23 ti5 rfl rfl rfl rfl hS rfl hr_6 (Src.flat flat_u8 (hp1_1.src (hA.trans hS.old))) (Mem.le.refl _) (Mem.le.refl _) et_9 fun w_10 v_11 M_12 hS' ho_13 a h => ?_
 replace hS : Sep w0 w_10 [_, M_12] Z := hS'
 clear hS'
 refine s_assign h rfl rfl fun a h=>wpList_nil <| x_then_n <| wp_ret ?_
 obtain rfl := Option.some.inj H
 exact f_ret h (rs := [.tmp 4]) rfl (.tmp rfl .nil) ⟨_, rfl, v_11, N_4, M_12, rfl, (Sep.sel hS [0, 1] (by decide)), ho_13⟩

set_option maxHeartbeats 4000000 in
set_option maxRecDepth 20000 in
theorem hocketref4_PutEntry.calls (K : Nat) (x0 : List UInt8) (p0_0 : Value) (x1 : api_Entry) (p1_1 : Value) (p1_2 : Value) (p1_3 : Value) (r : (List UInt8)) (w0 w : World) (Z A : Mem) (hA : A.le Z) (hS : Sep w0 w [] Z) (hp0_0 : Rd Kd.u8 A p0_0 x0) (hp1_1 : Rd Kd.u8 A p1_1 x1.Cmd.Key) (hp1_2 : Rd Kd.u8 A p1_2 x1.Cmd.Val) (hp1_3 : Rd Kd.u8 A p1_3 x1.Cmd.Old)
    (H : hocketref4_PutEntry.f K x0 x1 = some r) :
    Calls Try.prog 34 [p0_0, .agg ([iV x1.Sess, iV x1.Seq, iV x1.Cmd.Kind, iV x1.Cmd.Who, p1_1, p1_2, p1_3] : List Value).toArray].toArray w (Ret fun v w' => ∃ (u0 : Value) (N : Mem) (M0 : Mem), v = u0 ∧ Sep w0 w' [N, M0] Z ∧ Own Kd.u8 5 M0 Mem.no u0 r) := by
 unfold hocketref4_PutEntry.f at H
 refine f_enter _ Try.func34 rfl Try.ntmps34 rfl fun a h=>?_
 replace h : Fr 33 a [(0, p0_0), (1, .agg ([iV x1.Sess, iV x1.Seq, iV x1.Cmd.Kind, iV x1.Cmd.Who, p1_1, p1_2, p1_3] : List Value).toArray)] := h
 replace hS := hS.start
 replace hS : Sep w0 w [_] Z := hS
 refine wp_seq <| wp_region_lit <| v_box (vs := [iV x1.Sess, iV x1.Seq, iV x1.Cmd.Kind, iV x1.Cmd.Who, p1_1, p1_2, p1_3]) h rfl rfl rfl hS fun w_1 g_2 hS' a h => ?_
 replace hS : Sep w0 w_1 [_, Mem.one g_2 (.cells ([iV x1.Sess, iV x1.Seq, iV x1.Cmd.Kind, iV x1.Cmd.Who, p1_1, p1_2, p1_3] : List Value).toArray 27 (0, 0))] Z := hS'
 clear hS'
 refine s_assign h rfl rfl fun a h=>wpList_nil <| x_then_n <| c_seq fun KJ_3 hKJ_3 => h_begin (S := fun w => Sep w0 w [Mem.no, Mem.one g_2 (.cells ([iV x1.Sess, iV x1.Seq, iV x1.Cmd.Kind, iV x1.Cmd.Who, p1_1, p1_2, p1_3] : List Value).toArray 27 (0, 0))] Z) 16 (by kernel_rfl) rfl (bA 16 0) (by kernel_rfl) hS fun w_4 hS => ?_
 replace hS : Sep w0 w_4 [_, _] Z := hS
 refine t_take 0 (bA 16 1) rfl rfl rfl rfl h (hS.sub .ii) (v := p0_0) (fun w hS => r_move h rfl) fun a h=>t_take 1 (bA 16 3) rfl rfl rfl rfl h (hS.sub .ii) (v := .pointer (some ⟨g_2, 0, none⟩)) (fun w hS => r_fieldAddr h U27 rfl ti3 rfl rfl rfl) fun a h=>t_take 2 (bA 16 7) rfl rfl rfl rfl h (hS.sub .ii) (v := iV x1.Sess) (fun w hS => r_load h rfl (hS.load_one (p := 1) rfl U3 rfl rfl)) fun a h=>t_take 4 (bA 16 23) rfl rfl rfl rfl h (hS.sub .ii) (v := .pointer (some ⟨g_2, 1, none⟩)) (fun w hS => r_fieldAddr h U27 rfl ti3 rfl rfl rfl) fun a h=>t_take 5 (bA 16 55) rfl rfl rfl rfl h (hS.sub .ii) (v := iV x1.Seq) (fun w hS => r_load h rfl (hS.load_one (p := 1) rfl U3 rfl rfl)) fun a h=>t_take 7 (bA 16 183) rfl rfl rfl rfl h (hS.sub .ii) (v := .pointer (some ⟨g_2, 2, none⟩)) (fun w hS => r_fieldAddr h U27 rfl ti25 rfl rfl rfl) fun a h=>?_
 refine t_take 8 (bA 16 439) rfl rfl rfl rfl h (hS.sub .ii) (v := .pointer (some ⟨g_2, 2, none⟩)) (fun w hS => r_fieldAddr h U25 rfl ti3 rfl rfl rfl) fun a h=>t_take 9 (bA 16 951) rfl rfl rfl rfl h (hS.sub .ii) (v := iV x1.Cmd.Kind) (fun w hS => r_load h rfl (hS.load_one (p := 1) rfl U3 rfl rfl)) fun a h=>t_take 11 (bA 16 2999) rfl rfl rfl rfl h (hS.sub .ii) (v := .pointer (some ⟨g_2, 2, none⟩)) (fun w hS => r_fieldAddr h U27 rfl ti25 rfl rfl rfl) fun a h=>t_take 12 (bA 16 7095) rfl rfl rfl rfl h (hS.sub .ii) (v := .pointer (some ⟨g_2, 3, none⟩)) (fun w hS => r_fieldAddr h U25 rfl ti3 rfl rfl rfl) fun a h=>t_take 13 (bA 16 15287) rfl rfl rfl rfl h (hS.sub .ii) (v := iV x1.Cmd.Who) (fun w hS => r_load h rfl (hS.load_one (p := 1) rfl U3 rfl rfl)) fun a h=>h_event 3 (bA 16 15295) rfl (by kernel_rfl) (by kernel_rfl) ?_
 obtain ⟨t_5, et_5, H⟩ := Option.bind_eq_some_iff.1 H
 refine s_call h rfl Try.call60 rfl (hocketref1_Num.calls K x0 _ x1.Sess t_5 w0 _ _ _ (Mem.le.refl _) (hS.enter [] (by decide)) (hp0_0.mono (hA.trans (hS.le_zed []))) et_5) ?_
 rintro v_9 w_6 ⟨_, N_7, M_11, rfl, hS', hr_10⟩
 intro a h
 obtain ⟨N_8, hS'', le_8, ln_8⟩ := hS.call [] (by decide) rfl (l' := []) (ow := [M_11]) rfl hS'
 replace hS : Sep w0 w_6 [N_8, _, M_11] Z := hS''
 clear hS' hS''
 refine wpList_nil <| x_then_n ⟨(hS.sub (.cons le_8 (.rr .nn))), ?_⟩
 refine h_event 6 (bA 16 15359) rfl (by kernel_rfl) (by kernel_rfl) ?_
 obtain ⟨t_13, et_13, H⟩ := Option.bind_eq_some_iff.1 H
 refine s_call h rfl Try.call60 rfl (hocketref1_Num.calls K t_5 _ x1.Seq t_13 w0 _ _ _ (Mem.le.refl _) (hS.enter [] (by decide)) (hr_10.rd (hS.own_zed [] 1 (by decide)) (Mem.no_le _)) et_13) ?_
 rintro v_17 w_14 ⟨_, N_15, M_19, rfl, hS', hr_18⟩
 intro a h
 obtain ⟨N_16, hS'', le_16, ln_16⟩ := hS.call [] (by decide) rfl (l' := []) (ow := [M_19]) rfl hS'
 replace hS : Sep w0 w_14 [N_16, _, _, M_19] Z := hS''
 clear hS' hS''
 refine wpList_nil <| x_then_n ⟨(hS.sub (.cons (le_8.trans le_16) (.rr .nn))), ?_⟩
 refine h_event 10 (bA 16 16383) rfl (by kernel_rfl) (by kernel_rfl) ?_
 obtain ⟨t_21, et_21, H⟩ := Option.bind_eq_some_iff.1 H
 refine s_call h rfl Try.call60 rfl (hocketref1_Num.calls K t_13 _ x1.Cmd.Kind t_21 w0 _ _ _ (Mem.le.refl _) (hS.enter [] (by decide)) (hr_18.rd (hS.own_zed [] 2 (by decide)) (Mem.no_le _)) et_21) ?_
 rintro v_25 w_22 ⟨_, N_23, M_27, rfl, hS', hr_26⟩
 intro a h
 obtain ⟨N_24, hS'', le_24, ln_24⟩ := hS.call [] (by decide) rfl (l' := []) (ow := [M_27]) rfl hS'
 replace hS : Sep w0 w_22 [N_24, _, _, _, M_27] Z := hS''
 clear hS' hS''
 refine wpList_nil <| x_then_n ⟨(hS.sub (.cons (le_8.trans (le_16.trans le_24)) (.rr .nn))), ?_⟩
 refine h_event 14 (bA 16 32767) rfl (by kernel_rfl) (by kernel_rfl) ?_
 obtain ⟨t_29, et_29, H⟩ := Option.bind_eq_some_iff.1 H
 refine s_call h rfl Try.call60 rfl (hocketref1_Num.calls K t_21 _ x1.Cmd.Who t_29 w0 _ _ _ (Mem.le.refl _) (hS.enter [] (by decide)) (hr_26.rd (hS.own_zed [] 3 (by decide)) (Mem.no_le _)) et_29) ?_
 rintro v_33 w_30 ⟨_, N_31, M_35, rfl, hS', hr_34⟩
 intro a h
 obtain ⟨N_32, hS'', le_32, ln_32⟩ := hS.call [] (by decide) rfl (l' := []) (ow := [M_35]) rfl hS'
 replace hS : Sep w0 w_30 [N_32, _, _, _, _, M_35] Z := hS''
 clear hS' hS''
 refine wpList_nil <| x_then_n ⟨(hS.sub (.cons (le_8.trans (le_16.trans (le_24.trans le_32))) (.rr .nn))), ?_⟩
 refine t_take 15 (bA 16 65535) rfl rfl rfl rfl h (hS.sub (.cons (le_8.trans (le_16.trans (le_24.trans le_32))) (.rr .nn))) (v := v_33) (fun w hS => r_assign h rfl) fun a h=>h_done (by kernel_rfl) <| x_then_n (hKJ_3 _ _ ?_)
 refine c_seq fun KJ_37 hKJ_37 => h_begin (S := fun w => Sep w0 w [N_32, Mem.one g_2 (.cells ([iV x1.Sess, iV x1.Seq, iV x1.Cmd.Kind, iV x1.Cmd.Who, p1_1, p1_2, p1_3] : List Value).toArray 27 (0, 0)), M_11, M_19, M_27, M_35] Z) 14 (by kernel_rfl) rfl (bA 14 0) (by kernel_rfl) hS fun w_38 hS => ?_
 replace hS : Sep w0 w_38 [_, _, _, _, _, _] Z := hS
 refine t_take 0 (bA 14 1) rfl rfl rfl rfl h (hS.sub .ii) (v := v_33) (fun w hS => r_move h rfl) fun a h=>t_take 1 (bA 14 3) rfl rfl rfl rfl h (hS.sub .ii) (v := .pointer (some ⟨g_2, 2, none⟩)) (fun w hS => r_fieldAddr h U27 rfl ti25 rfl rfl rfl) fun a h=>t_take 2 (bA 14 7) rfl rfl rfl rfl h (hS.sub .ii) (v := .pointer (some ⟨g_2, 4, none⟩)) (fun w hS => r_fieldAddr h U25 rfl ti23 rfl rfl rfl) fun a h=>t_take 3 (bA 14 15) rfl rfl rfl rfl h (hS.sub .ii) (v := p1_1) (fun w hS => r_load h rfl (hS.load_one (p := 1) rfl U23 rfl rfl)) fun a h=>t_take 5 (bA 14 47) rfl rfl rfl rfl h (hS.sub .ii) (v := .pointer (some ⟨g_2, 2, none⟩)) (fun w hS => r_fieldAddr h U27 rfl ti25 rfl rfl rfl) fun a h=>t_take 6 (bA 14 111) rfl rfl rfl rfl h (hS.sub .ii) (v := .pointer (some ⟨g_2, 5, none⟩)) (fun w hS => r_fieldAddr h U25 rfl ti23 rfl rfl rfl) fun a h=>?_
 refine t_take 7 (bA 14 239) rfl rfl rfl rfl h (hS.sub .ii) (v := p1_2) (fun w hS => r_load h rfl (hS.load_one (p := 1) rfl U23 rfl rfl)) fun a h=>t_take 9 (bA 14 751) rfl rfl rfl rfl h (hS.sub .ii) (v := .pointer (some ⟨g_2, 2, none⟩)) (fun w hS => r_fieldAddr h U27 rfl ti25 rfl rfl rfl) fun a h=>t_take 10 (bA 14 1775) rfl rfl rfl rfl h (hS.sub .ii) (v := .pointer (some ⟨g_2, 6, none⟩)) (fun w hS => r_fieldAddr h U25 rfl ti23 rfl rfl rfl) fun a h=>t_take 11 (bA 14 3823) rfl rfl rfl rfl h (hS.sub .ii) (v := p1_3) (fun w hS => r_load h rfl (hS.load_one (p := 1) rfl U23 rfl rfl)) fun a h=>h_event 4 (bA 14 3839) rfl (by kernel_rfl) (by kernel_rfl) ?_
 obtain ⟨t_39, et_39, H⟩ := Option.bind_eq_some_iff.1 H
 refine s_call h rfl Try.call33 rfl (hocketref1_Bytes.calls K t_29 _ x1.Cmd.Key _ t_39 w0 _ _ _ (Mem.le.refl _) (hS.enter [] (by decide)) (hr_34.rd (hS.own_zed [] 4 (by decide)) (Mem.no_le _)) (hp1_1.mono (hA.trans (hS.le_zed []))) et_39) ?_
 rintro v_43 w_40 ⟨_, N_41, M_45, rfl, hS', hr_44⟩
 intro a h
 obtain ⟨N_42, hS'', le_42, ln_42⟩ := hS.call [] (by decide) rfl (l' := []) (ow := [M_45]) rfl hS'
 replace hS : Sep w0 w_40 [N_42, _, _, _, _, _, M_45] Z := hS''
 clear hS' hS''
 refine wpList_nil <| x_then_n ⟨(hS.sub (.cons le_42 (.rr (.rr (.rr (.rr (.rr .nn))))))), ?_⟩
 refine h_event 8 (bA 14 4095) rfl (by kernel_rfl) (by kernel_rfl) ?_
 obtain ⟨t_47, et_47, H⟩ := Option.bind_eq_some_iff.1 H
 refine s_call h rfl Try.call33 rfl (hocketref1_Bytes.calls K t_39 _ x1.Cmd.Val _ t_47 w0 _ _ _ (Mem.le.refl _) (hS.enter [] (by decide)) (hr_44.rd (hS.own_zed [] 5 (by decide)) (Mem.no_le _)) (hp1_2.mono (hA.trans (hS.le_zed []))) et_47) ?_
 rintro v_51 w_48 ⟨_, N_49, M_53, rfl, hS', hr_52⟩
 intro a h
 obtain ⟨N_50, hS'', le_50, ln_50⟩ := hS.call [] (by decide) rfl (l' := []) (ow := [M_53]) rfl hS'
 replace hS : Sep w0 w_48 [N_50, _, _, _, _, _, _, M_53] Z := hS''
 clear hS' hS''
 refine wpList_nil <| x_then_n ⟨(hS.sub (.cons (le_42.trans le_50) (.rr (.rr (.rr (.rr (.rr .nn))))))), ?_⟩
 refine h_event 12 (bA 14 8191) rfl (by kernel_rfl) (by kernel_rfl) ?_
 obtain ⟨t_55, et_55, H⟩ := Option.bind_eq_some_iff.1 H
 refine s_call h rfl Try.call33 rfl (hocketref1_Bytes.calls K t_47 _ x1.Cmd.Old _ t_55 w0 _ _ _ (Mem.le.refl _) (hS.enter [] (by decide)) (hr_52.rd (hS.own_zed [] 6 (by decide)) (Mem.no_le _)) (hp1_3.mono (hA.trans (hS.le_zed []))) et_55) ?_
 rintro v_59 w_56 ⟨_, N_57, M_61, rfl, hS', hr_60⟩
 intro a h
 obtain ⟨N_58, hS'', le_58, ln_58⟩ := hS.call [] (by decide) rfl (l' := []) (ow := [M_61]) rfl hS'
 replace hS : Sep w0 w_56 [N_58, _, _, _, _, _, _, _, M_61] Z := hS''
 clear hS' hS''
 refine wpList_nil <| x_then_n ⟨(hS.sub (.cons (le_42.trans (le_50.trans le_58)) (.rr (.rr (.rr (.rr (.rr .nn))))))), ?_⟩
 refine t_take 13 (bA 14 16383) rfl rfl rfl rfl h (hS.sub (.cons (le_42.trans (le_50.trans le_58)) (.rr (.rr (.rr (.rr (.rr .nn))))))) (v := v_59) (fun w hS => r_assign h rfl) fun a h=>h_done (by kernel_rfl) <| x_then_n (hKJ_37 _ _ ?_)
 refine wp_ret ?_
 obtain rfl := Option.some.inj H
 exact f_ret h (rs := [.tmp 4]) rfl (.tmp rfl .nil) ⟨_, rfl, v_59, N_58, M_61, rfl, (Sep.sel hS [0, 8] (by decide)), hr_60⟩

set_option maxHeartbeats 4000000 in
set_option maxRecDepth 20000 in
theorem hocketref11_Encode.calls (K : Nat) (x0 : api_Msg) (p0_0 : Value) (p0_1 : Value) (p0_2 : Value) (p0_3 : Value) (p0_4 : Value) (p0_5 : Value) (r : (List UInt8)) (w0 w : World) (Z A : Mem) (hA : A.le Z) (hS : Sep w0 w [] Z) (hp0_0 : Rd Kd.u8 A p0_0 x0.Data) (hp0_1 : Rd (Kd.int .i64) A p0_1 x0.Have) (hp0_2 : Rd (Kd.int .i64) A p0_2 x0.Need) (hp0_3 : Rd Kd.u8 A p0_3 x0.Entry.Cmd.Key) (hp0_4 : Rd Kd.u8 A p0_4 x0.Entry.Cmd.Val) (hp0_5 : Rd Kd.u8 A p0_5 x0.Entry.Cmd.Old)
    (H : hocketref11_Encode.f K x0 = some r) :
    Calls Try.prog 16 [.agg ([iV x0.Kind, iV x0.From, iV x0.To, iV x0.View, iV x0.Inst, iV x0.Len, .bool x0.Has, iV x0.Members, iV x0.Source, iV x0.At, iV x0.Total, p0_0, iV x0.Hop, iV x0.Seq, p0_1, p0_2, iV x0.Index, iV x0.Entry.Sess, iV x0.Entry.Seq, iV x0.Entry.Cmd.Kind, iV x0.Entry.Cmd.Who, p0_3, p0_4, p0_5] : List Value).toArray].toArray w (Ret fun v w' => ∃ (u0 : Value) (N : Mem), v = u0 ∧ Sep w0 w' [N] Z ∧ Rd Kd.u8 (A.un N) u0 r) := by
 unfold hocketref11_Encode.f at H
 refine f_enter _ Try.func16 rfl Try.ntmps16 rfl fun a h=>?_
 replace h : Fr 97 a [(0, .agg ([iV x0.Kind, iV x0.From, iV x0.To, iV x0.View, iV x0.Inst, iV x0.Len, .bool x0.Has, iV x0.Members, iV x0.Source, iV x0.At, iV x0.Total, p0_0, iV x0.Hop, iV x0.Seq, p0_1, p0_2, iV x0.Index, iV x0.Entry.Sess, iV x0.Entry.Seq, iV x0.Entry.Cmd.Kind, iV x0.Entry.Cmd.Who, p0_3, p0_4, p0_5] : List Value).toArray)] := h
 replace hS := hS.start
 replace hS : Sep w0 w [_] Z := hS
 refine wp_seq <| wp_region_lit <| v_box (vs := [iV x0.Kind, iV x0.From, iV x0.To, iV x0.View, iV x0.Inst, iV x0.Len, .bool x0.Has, iV x0.Members, iV x0.Source, iV x0.At, iV x0.Total, p0_0, iV x0.Hop, iV x0.Seq, p0_1, p0_2, iV x0.Index, iV x0.Entry.Sess, iV x0.Entry.Seq, iV x0.Entry.Cmd.Kind, iV x0.Entry.Cmd.Who, p0_3, p0_4, p0_5]) h rfl rfl rfl hS fun w_1 g_2 hS' a h => ?_
 replace hS : Sep w0 w_1 [_, Mem.one g_2 (.cells ([iV x0.Kind, iV x0.From, iV x0.To, iV x0.View, iV x0.Inst, iV x0.Len, .bool x0.Has, iV x0.Members, iV x0.Source, iV x0.At, iV x0.Total, p0_0, iV x0.Hop, iV x0.Seq, p0_1, p0_2, iV x0.Index, iV x0.Entry.Sess, iV x0.Entry.Seq, iV x0.Entry.Cmd.Kind, iV x0.Entry.Cmd.Who, p0_3, p0_4, p0_5] : List Value).toArray 29 (0, 0))] Z := hS'
 clear hS'
 refine s_assign h rfl rfl fun a h=>wpList_nil <| x_then_n <| c_seq fun KJ_3 hKJ_3 => wp_seq <| wp_region_lit <| s_load h rfl rfl (hS.load_agg (p := 1) (us := [iV x0.Kind, iV x0.From, iV x0.To, iV x0.View, iV x0.Inst, iV x0.Len, .bool x0.Has, iV x0.Members, iV x0.Source, iV x0.At, iV x0.Total, p0_0, iV x0.Hop, iV x0.Seq, p0_1, p0_2, iV x0.Index, iV x0.Entry.Sess, iV x0.Entry.Seq, iV x0.Entry.Cmd.Kind, iV x0.Entry.Cmd.Who, p0_3, p0_4, p0_5]) rfl U29 rfl ti29 rfl rfl) fun a h=>?_
 obtain ⟨t_4, et_4, H⟩ := Option.bind_eq_some_iff.1 H
 refine s_call h rfl Try.call31 rfl (hocketref11_Ok.calls K x0 _ _ _ _ _ _ t_4 w0 _ _ _ (Mem.le.refl _) (hS.enter [] (by decide)) (hp0_0.mono (hA.trans (hS.le_zed []))) (hp0_1.mono (hA.trans (hS.le_zed []))) (hp0_2.mono (hA.trans (hS.le_zed []))) (hp0_3.mono (hA.trans (hS.le_zed []))) (hp0_4.mono (hA.trans (hS.le_zed []))) (hp0_5.mono (hA.trans (hS.le_zed []))) et_4) ?_
 rintro _ w_5 ⟨N_6, rfl, hS'⟩
 intro a h
 obtain ⟨N_7, hS'', le_7, ln_7⟩ := hS.call [] (by decide) rfl (l' := []) (ow := []) rfl hS'
 replace hS : Sep w0 w_5 [N_7, _] Z := hS''
 clear hS' hS''
 refine s_not h rfl rfl fun a h=>wpList_nil <| x_then_n ?_
 by_cases hc_8 : t_4 = true
 ·rw [if_pos hc_8] at H
  refine c_cond_f h rfl (nf hc_8) <| wp_skip <| x_then_n (hKJ_3 _ _ ?_)
  refine wp_seq <| wp_region_lit <| s_fieldAddr h rfl U29 rfl ti3 rfl rfl fun a h=>s_load h rfl rfl (hS.load_one (p := 1) rfl U3 rfl rfl) fun a h=>s_fieldAddr h rfl U29 rfl ti3 rfl rfl fun a h=>s_load h rfl rfl (hS.load_one (p := 1) rfl U3 rfl rfl) fun a h=>s_fieldAddr h rfl U29 rfl ti3 rfl rfl fun a h=>s_load h rfl rfl (hS.load_one (p := 1) rfl U3 rfl rfl) fun a h=>s_fieldAddr h rfl U29 rfl ti3 rfl rfl fun a h=>s_load h rfl rfl (hS.load_one (p := 1) rfl U3 rfl rfl) fun a h=>?_
  have hq_13 : Reps (Kd.int .i64) Mem.no ([x0.Kind, x0.From, x0.To, x0.View] : List Int) _ := ((Reps.one (d := (Kd.int .i64)) (x := x0.Kind) (show (Kd.int .i64).K _ _ [iV x0.Kind] from rfl)).append ((Reps.one (d := (Kd.int .i64)) (x := x0.From) (show (Kd.int .i64).K _ _ [iV x0.From] from rfl)).append ((Reps.one (d := (Kd.int .i64)) (x := x0.To) (show (Kd.int .i64).K _ _ [iV x0.To] from rfl)).append ((Reps.one (d := (Kd.int .i64)) (x := x0.View) (show (Kd.int .i64).K _ _ [iV x0.View] from rfl)).append (Reps.nil (Kd.int .i64) _)))))
  refine s_buildSlice h rfl U22 ti3 rfl rfl rfl (.cons rfl (.cons rfl (.cons rfl (.cons rfl .nil)))) rfl rfl rfl hS hq_13 rfl fun w_9 v_10 M_11 hS' ho_12 a h => ?_
  replace hS : Sep w0 w_9 [_, _, M_11] Z := hS'
  clear hS' hq_13
  obtain ⟨N_15, hS', le_15, lo_15⟩ := hS.freeze 1 rfl
  replace hS : Sep w0 w_9 [N_15, _, Mem.no] Z := hS'
  clear hS'
  obtain ⟨t_16, et_16, H⟩ := Option.bind_eq_some_iff.1 H
  refine s_call h rfl Try.call32 rfl (hocketref11_nums.calls K ([] : List UInt8) _ ([x0.Kind, x0.From, x0.To, x0.View] : List Int) _ t_16 w0 _ _ N_15 (hS.new_zed []) (hS.enter [] (by decide)) (Rd.nil _ _) (ho_12.rd lo_15 (Mem.no_le _)) et_16) ?_
  rintro v_20 w_17 ⟨_, N_18, rfl, hS', hr_21⟩
  intro a h
  obtain ⟨N_19, hS'', le_19, ln_19⟩ := hS.call [] (by decide) rfl (l' := []) (ow := []) rfl hS'
  replace hS : Sep w0 w_17 [N_19, _, _] Z := hS''
  clear hS' hS''
  refine s_assign h rfl rfl fun a h=>wpList_nil <| x_then_n <| c_seq fun KJ_22 hKJ_22 => wp_seq <| wp_region_lit <| s_fieldAddr h rfl U29 rfl ti3 rfl rfl fun a h=>s_load h rfl rfl (hS.load_one (p := 1) rfl U3 rfl rfl) fun a h=>wpList_nil ?_
  replace h : Fr 97 a [(1, .pointer (some ⟨g_2, 0, none⟩)), (2, nS), (3, v_20), (19, iV x0.Kind)] := h.keep [1, 2, 3, 19]
  refine x_then_n <| c_block <| wp_seq <| wp_region_lit <| s_cmp (b := (x0.Kind == 2)) h rfl rfl rfl (.inl ⟨rfl, rfl⟩) fun a h=>s_assign h rfl rfl fun a h=>wpList_nil <| x_then_n ?_
  by_cases hc_23 : x0.Kind = 2
  ·rw [if_pos hc_23] at H
   refine c_cond_t h rfl (beq_iff_eq.2 hc_23) <| wp_seq <| wp_region_lit <| s_assign h rfl rfl fun a h=>wpList_nil <| x_then_n <| c_seq fun KJ_24 hKJ_24 => wp_seq <| wp_region_lit <| s_fieldAddr h rfl U29 rfl ti4 rfl rfl fun a h=>s_load h rfl rfl (hS.load_one (p := 1) rfl U4 rfl rfl) fun a h=>wpList_nil <| x_then_n ?_
   have hJ_j_28 : ∀ (x_26 : Int), hocketref11_Encode.J1 K t_16 x0 x_26 = some r → ∀ (a : Act) (w_27 : World), (∃ (N_25 : Mem), Fr 97 a [(1, .pointer (some ⟨g_2, 0, none⟩)), (2, nS), (3, v_20), (4, iV x_26)] ∧ Sep w0 w_27 [N_25, Mem.one g_2 (.cells ([iV x0.Kind, iV x0.From, iV x0.To, iV x0.View, iV x0.Inst, iV x0.Len, .bool x0.Has, iV x0.Members, iV x0.Source, iV x0.At, iV x0.Total, p0_0, iV x0.Hop, iV x0.Seq, p0_1, p0_2, iV x0.Index, iV x0.Entry.Sess, iV x0.Entry.Seq, iV x0.Entry.Cmd.Kind, iV x0.Entry.Cmd.Who, p0_3, p0_4, p0_5] : List Value).toArray 29 (0, 0)), Mem.no] Z ∧ N_19.le N_25) → KJ_24 a w_27 := by
    clear H h hS a
    rintro x_26 H a w_27 ⟨N_25, h, hS, le_25⟩
    unfold hocketref11_Encode.J1 at H
    refine hKJ_24 _ _ <| wp_seq <| wp_region_lit <| s_move h rfl rfl fun a h=>s_fieldAddr h rfl U29 rfl ti3 rfl rfl fun a h=>s_load h rfl rfl (hS.load_one (p := 1) rfl U3 rfl rfl) fun a h=>s_fieldAddr h rfl U29 rfl ti3 rfl rfl fun a h=>s_load h rfl rfl (hS.load_one (p := 1) rfl U3 rfl rfl) fun a h=>s_move h rfl rfl fun a h=>?_
    have hq_33 : Reps (Kd.int .i64) Mem.no ([x0.Inst, x0.Len, x_26] : List Int) _ := ((Reps.one (d := (Kd.int .i64)) (x := x0.Inst) (show (Kd.int .i64).K _ _ [iV x0.Inst] from rfl)).append ((Reps.one (d := (Kd.int .i64)) (x := x0.Len) (show (Kd.int .i64).K _ _ [iV x0.Len] from rfl)).append ((Reps.one (d := (Kd.int .i64)) (x := x_26) (show (Kd.int .i64).K _ _ [iV x_26] from rfl)).append (Reps.nil (Kd.int .i64) _))))
    refine s_buildSlice h rfl U22 ti3 rfl rfl rfl (.cons rfl (.cons rfl (.cons rfl .nil))) rfl rfl rfl hS hq_33 rfl fun w_29 v_30 M_31 hS' ho_32 a h => ?_
    replace hS : Sep w0 w_29 [_, _, _, M_31] Z := hS'
    clear hS' hq_33
    obtain ⟨N_35, hS', le_35, lo_35⟩ := hS.freeze 2 rfl
    replace hS : Sep w0 w_29 [N_35, _, _, Mem.no] Z := hS'
    clear hS'
    obtain ⟨t_36, et_36, H⟩ := Option.bind_eq_some_iff.1 H
    refine s_call h rfl Try.call32 rfl (hocketref11_nums.calls K t_16 _ ([x0.Inst, x0.Len, x_26] : List Int) _ t_36 w0 _ _ N_35 (hS.new_zed []) (hS.enter [] (by decide)) ((hr_21.mono (Mem.un_le le_19 ln_19)).mono (le_25.trans le_35)) (ho_32.rd lo_35 (Mem.no_le _)) et_36) ?_
    rintro v_40 w_37 ⟨_, N_38, rfl, hS', hr_41⟩
    intro a h
    obtain ⟨N_39, hS'', le_39, ln_39⟩ := hS.call [] (by decide) rfl (l' := []) (ow := []) rfl hS'
    replace hS : Sep w0 w_37 [N_39, _, _, _] Z := hS''
    clear hS' hS''
    refine s_assign h rfl rfl fun a h=>wpList_nil ?_
    replace h : Fr 97 a [(2, v_40), (3, _)] := h.keep [2, 3]
    refine x_then_n <| wp_ret (x_block_r (x_then_r ?_))
    obtain rfl := Option.some.inj H
    exact f_ret h (rs := [.tmp 2]) rfl (.tmp rfl .nil) ⟨_, rfl, v_40, N_39, rfl, (Sep.sel hS [0] (by decide)), ((hr_41.mono (Mem.un_le le_39 ln_39)).mono ((Mem.le.refl _).trans (hS.sndA hA)))⟩
   clear hKJ_24
   by_cases hc_42 : x0.Has = true
   ·rw [if_pos hc_42] at H
    refine c_cond_t h rfl hc_42 <| wp_region_lit <| s_assign h rfl rfl fun a h=>wpList_nil ?_
    replace h : Fr 97 a [(1, _), (2, _), (3, _), (4, iV 1)] := h.keep [1, 2, 3, 4]
    replace hS : Sep w0 w_17 [_, _, _] Z := hS
    replace h : Fr 97 a [(1, _), (2, _), (3, _), (4, _)] := h.keep [1, 2, 3, 4]
    exact x_then_n (hJ_j_28 1 H _ _ ⟨N_19, h, (Sep.sel hS [0, 1, 1001] (by decide)), (Mem.le.refl _)⟩)
   ·rw [if_neg hc_42] at H
    refine c_cond_f h rfl (Bool.eq_false_iff.2 hc_42) <| wp_skip ?_
    replace hS : Sep w0 w_17 [_, _, _] Z := hS
    replace h : Fr 97 a [(1, _), (2, _), (3, _), (4, iV 0)] := h.keep [1, 2, 3, 4]
    exact x_then_n (hJ_j_28 0 H _ _ ⟨N_19, h, (Sep.sel hS [0, 1, 1001] (by decide)), (Mem.le.refl _)⟩)
  ·rw [if_neg hc_23] at H
   refine c_cond_f h rfl (beq_eq_false_iff_ne.2 hc_23) <| wp_seq <| wp_region_lit <| s_cmp (b := (x0.Kind == 3)) h rfl rfl rfl (.inl ⟨rfl, rfl⟩) fun a h=>s_assign h rfl rfl fun a h=>wpList_nil <| x_then_n ?_
   by_cases hc_43 : x0.Kind = 3
   ·rw [if_pos hc_43] at H
    refine c_cond_t h rfl (beq_iff_eq.2 hc_43) <| wp_seq <| wp_region_lit <| s_move h rfl rfl fun a h=>s_fieldAddr h rfl U29 rfl ti3 rfl rfl fun a h=>s_load h rfl rfl (hS.load_one (p := 1) rfl U3 rfl rfl) fun a h=>s_fieldAddr h rfl U29 rfl ti3 rfl rfl fun a h=>s_load h rfl rfl (hS.load_one (p := 1) rfl U3 rfl rfl) fun a h=>s_fieldAddr h rfl U29 rfl ti3 rfl rfl fun a h=>s_load h rfl rfl (hS.load_one (p := 1) rfl U3 rfl rfl) fun a h=>?_
    have hq_48 : Reps (Kd.int .i64) Mem.no ([x0.Members, x0.Source, x0.Len] : List Int) _ := ((Reps.one (d := (Kd.int .i64)) (x := x0.Members) (show (Kd.int .i64).K _ _ [iV x0.Members] from rfl)).append ((Reps.one (d := (Kd.int .i64)) (x := x0.Source) (show (Kd.int .i64).K _ _ [iV x0.Source] from rfl)).append ((Reps.one (d := (Kd.int .i64)) (x := x0.Len) (show (Kd.int .i64).K _ _ [iV x0.Len] from rfl)).append (Reps.nil (Kd.int .i64) _))))
    refine s_buildSlice h rfl U22 ti3 rfl rfl rfl (.cons rfl (.cons rfl (.cons rfl .nil))) rfl rfl rfl hS hq_48 rfl fun w_44 v_45 M_46 hS' ho_47 a h => ?_
    replace hS : Sep w0 w_44 [_, _, _, M_46] Z := hS'
    clear hS' hq_48
    obtain ⟨N_50, hS', le_50, lo_50⟩ := hS.freeze 2 rfl
    replace hS : Sep w0 w_44 [N_50, _, _, Mem.no] Z := hS'
    clear hS'
    obtain ⟨t_51, et_51, H⟩ := Option.bind_eq_some_iff.1 H
    refine s_call h rfl Try.call32 rfl (hocketref11_nums.calls K t_16 _ ([x0.Members, x0.Source, x0.Len] : List Int) _ t_51 w0 _ _ N_50 (hS.new_zed []) (hS.enter [] (by decide)) ((hr_21.mono (Mem.un_le le_19 ln_19)).mono le_50) (ho_47.rd lo_50 (Mem.no_le _)) et_51) ?_
    rintro v_55 w_52 ⟨_, N_53, rfl, hS', hr_56⟩
    intro a h
    obtain ⟨N_54, hS'', le_54, ln_54⟩ := hS.call [] (by decide) rfl (l' := []) (ow := []) rfl hS'
    replace hS : Sep w0 w_52 [N_54, _, _, _] Z := hS''
    clear hS' hS''
    refine s_assign h rfl rfl fun a h=>wpList_nil <| x_then_n <| wp_ret (x_block_r (x_then_r ?_))
    obtain rfl := Option.some.inj H
    exact f_ret h (rs := [.tmp 2]) rfl (.tmp rfl .nil) ⟨_, rfl, v_55, N_54, rfl, (Sep.sel hS [0] (by decide)), ((hr_56.mono (Mem.un_le le_54 ln_54)).mono ((Mem.le.refl _).trans (hS.sndA hA)))⟩
   ·rw [if_neg hc_43] at H
    refine c_cond_f h rfl (beq_eq_false_iff_ne.2 hc_43) <| wp_seq <| wp_region_lit <| s_cmp (b := (x0.Kind == 4)) h rfl rfl rfl (.inl ⟨rfl, rfl⟩) fun a h=>s_assign h rfl rfl fun a h=>wpList_nil <| x_then_n ?_
    by_cases hc_57 : x0.Kind = 4
    ·rw [if_pos hc_57] at H
     refine c_cond_t h rfl (beq_iff_eq.2 hc_57) <| wp_seq <| wp_region_lit <| s_move h rfl rfl fun a h=>s_fieldAddr h rfl U29 rfl ti3 rfl rfl fun a h=>s_load h rfl rfl (hS.load_one (p := 1) rfl U3 rfl rfl) fun a h=>?_
     have hq_62 : Reps (Kd.int .i64) Mem.no ([x0.At] : List Int) _ := ((Reps.one (d := (Kd.int .i64)) (x := x0.At) (show (Kd.int .i64).K _ _ [iV x0.At] from rfl)).append (Reps.nil (Kd.int .i64) _))
     refine s_buildSlice h rfl U22 ti3 rfl rfl rfl (.cons rfl .nil) rfl rfl rfl hS hq_62 rfl fun w_58 v_59 M_60 hS' ho_61 a h => ?_
     replace hS : Sep w0 w_58 [_, _, _, M_60] Z := hS'
     clear hS' hq_62
     obtain ⟨N_64, hS', le_64, lo_64⟩ := hS.freeze 2 rfl
     replace hS : Sep w0 w_58 [N_64, _, _, Mem.no] Z := hS'
     clear hS'
     obtain ⟨t_65, et_65, H⟩ := Option.bind_eq_some_iff.1 H
     refine s_call h rfl Try.call32 rfl (hocketref11_nums.calls K t_16 _ ([x0.At] : List Int) _ t_65 w0 _ _ N_64 (hS.new_zed []) (hS.enter [] (by decide)) ((hr_21.mono (Mem.un_le le_19 ln_19)).mono le_64) (ho_61.rd lo_64 (Mem.no_le _)) et_65) ?_
     rintro v_69 w_66 ⟨_, N_67, rfl, hS', hr_70⟩
     intro a h
     obtain ⟨N_68, hS'', le_68, ln_68⟩ := hS.call [] (by decide) rfl (l' := []) (ow := []) rfl hS'
     replace hS : Sep w0 w_66 [N_68, _, _, _] Z := hS''
     clear hS' hS''
     refine s_assign h rfl rfl fun a h=>wpList_nil ?_
     replace h : Fr 97 a [(2, v_69), (3, _)] := h.keep [2, 3]
     refine x_then_n <| wp_ret (x_block_r (x_then_r ?_))
     obtain rfl := Option.some.inj H
     exact f_ret h (rs := [.tmp 2]) rfl (.tmp rfl .nil) ⟨_, rfl, v_69, N_68, rfl, (Sep.sel hS [0] (by decide)), ((hr_70.mono (Mem.un_le le_68 ln_68)).mono ((Mem.le.refl _).trans (hS.sndA hA)))⟩
    ·rw [if_neg hc_57] at H
     refine c_cond_f h rfl (beq_eq_false_iff_ne.2 hc_57) <| wp_seq <| wp_region_lit <| s_cmp (b := (x0.Kind == 5)) h rfl rfl rfl (.inl ⟨rfl, rfl⟩) fun a h=>s_assign h rfl rfl fun a h=>wpList_nil ?_
     replace h : Fr 97 a [(1, _), (2, _), (3, _), (19, _), (50, .bool (x0.Kind == 5))] := h.keep [1, 2, 3, 19, 50]
     refine x_then_n ?_
     by_cases hc_71 : x0.Kind = 5
     ·rw [if_pos hc_71] at H
      refine c_cond_t h rfl (beq_iff_eq.2 hc_71) <| c_seq fun KJ_72 hKJ_72 => h_begin (S := fun w => Sep w0 w [N_19, Mem.one g_2 (.cells ([iV x0.Kind, iV x0.From, iV x0.To, iV x0.View, iV x0.Inst, iV x0.Len, .bool x0.Has, iV x0.Members, iV x0.Source, iV x0.At, iV x0.Total, p0_0, iV x0.Hop, iV x0.Seq, p0_1, p0_2, iV x0.Index, iV x0.Entry.Sess, iV x0.Entry.Seq, iV x0.Entry.Cmd.Kind, iV x0.Entry.Cmd.Who, p0_3, p0_4, p0_5] : List Value).toArray 29 (0, 0)), Mem.no] Z) 11 (by kernel_rfl) rfl (bA 11 0) (by kernel_rfl) hS fun w_73 hS => ?_
      replace hS : Sep w0 w_73 [_, _, _] Z := hS
      refine t_take 0 (bA 11 1) rfl rfl rfl rfl h (hS.sub (.cons (Mem.le.refl _) (.rr (.zz .ii)))) (v := v_20) (fun w hS => r_move h rfl) fun a h=>t_take 1 (bA 11 3) rfl rfl rfl rfl h (hS.sub (.cons (Mem.le.refl _) (.rr (.zz .ii)))) (v := .pointer (some ⟨g_2, 9, none⟩)) (fun w hS => r_fieldAddr h U29 rfl ti3 rfl rfl rfl) fun a h=>t_take 2 (bA 11 7) rfl rfl rfl rfl h (hS.sub (.cons (Mem.le.refl _) (.rr (.zz .ii)))) (v := iV x0.At) (fun w hS => r_load h rfl (hS.load_one (p := 1) rfl U3 rfl rfl)) fun a h=>t_take 3 (bA 11 15) rfl rfl rfl rfl h (hS.sub (.cons (Mem.le.refl _) (.rr (.zz .ii)))) (v := .pointer (some ⟨g_2, 10, none⟩)) (fun w hS => r_fieldAddr h U29 rfl ti3 rfl rfl rfl) fun a h=>t_take 4 (bA 11 31) rfl rfl rfl rfl h (hS.sub (.cons (Mem.le.refl _) (.rr (.zz .ii)))) (v := iV x0.Total) (fun w hS => r_load h rfl (hS.load_one (p := 1) rfl U3 rfl rfl)) fun a h=>t_take 7 (bA 11 159) rfl rfl rfl rfl h (hS.sub (.cons (Mem.le.refl _) (.rr (.zz .ii)))) (v := .pointer (some ⟨g_2, 11, none⟩)) (fun w hS => r_fieldAddr h U29 rfl ti23 rfl rfl rfl) fun a h=>?_
      refine t_take 8 (bA 11 415) rfl rfl rfl rfl h (hS.sub (.cons (Mem.le.refl _) (.rr (.zz .ii)))) (v := p0_0) (fun w hS => r_load h rfl (hS.load_one (p := 1) rfl U23 rfl rfl)) fun a h=>h_event 5 (bA 11 447) rfl (by kernel_rfl) (by kernel_rfl) ?_
      have hq_78 : Reps (Kd.int .i64) Mem.no ([x0.At, x0.Total] : List Int) _ := ((Reps.one (d := (Kd.int .i64)) (x := x0.At) (show (Kd.int .i64).K _ _ [iV x0.At] from rfl)).append ((Reps.one (d := (Kd.int .i64)) (x := x0.Total) (show (Kd.int .i64).K _ _ [iV x0.Total] from rfl)).append (Reps.nil (Kd.int .i64) _)))
      refine s_buildSlice h rfl U22 ti3 rfl rfl rfl (.cons rfl (.cons rfl .nil)) rfl rfl rfl hS hq_78 rfl fun w_74 v_75 M_76 hS' ho_77 a h => ?_
      replace hS : Sep w0 w_74 [_, _, _, M_76] Z := hS'
      clear hS' hq_78
      refine wpList_nil <| x_then_n ⟨(hS.sub (.cons (Mem.le.refl _) (.rr (.zz .nn)))), ?_⟩
      refine h_event 6 (bA 11 511) rfl (by kernel_rfl) (by kernel_rfl) ?_
      obtain ⟨N_80, hS', le_80, lo_80⟩ := hS.freeze 2 rfl
      replace hS : Sep w0 w_74 [N_80, _, _, Mem.no] Z := hS'
      clear hS'
      obtain ⟨t_81, et_81, H⟩ := Option.bind_eq_some_iff.1 H
      refine s_call h rfl Try.call32 rfl (hocketref11_nums.calls K t_16 _ ([x0.At, x0.Total] : List Int) _ t_81 w0 _ _ N_80 (hS.new_zed []) (hS.enter [] (by decide)) ((hr_21.mono (Mem.un_le le_19 ln_19)).mono le_80) (ho_77.rd lo_80 (Mem.no_le _)) et_81) ?_
      rintro v_85 w_82 ⟨_, N_83, rfl, hS', hr_86⟩
      intro a h
      obtain ⟨N_84, hS'', le_84, ln_84⟩ := hS.call [] (by decide) rfl (l' := []) (ow := []) rfl hS'
      replace hS : Sep w0 w_82 [N_84, _, _, _] Z := hS''
      clear hS' hS''
      refine wpList_nil <| x_then_n ⟨(hS.sub (.cons (le_80.trans le_84) (.rr (.zz .nn)))), ?_⟩
      refine h_event 9 (bA 11 1023) rfl (by kernel_rfl) (by kernel_rfl) ?_
      obtain ⟨t_87, et_87, H⟩ := Option.bind_eq_some_iff.1 H
      refine s_call h rfl Try.call33 rfl (hocketref1_Bytes.calls K t_81 _ x0.Data _ t_87 w0 _ _ _ (Mem.le.refl _) (hS.enter [] (by decide)) ((hr_86.mono (Mem.un_le le_84 ln_84)).mono ((Mem.le.refl _).trans (hS.new_zed []))) (hp0_0.mono (hA.trans (hS.le_zed []))) et_87) ?_
      rintro v_91 w_88 ⟨_, N_89, M_93, rfl, hS', hr_92⟩
      intro a h
      obtain ⟨N_90, hS'', le_90, ln_90⟩ := hS.call [] (by decide) rfl (l' := []) (ow := [M_93]) rfl hS'
      replace hS : Sep w0 w_88 [N_90, _, _, _, M_93] Z := hS''
      clear hS' hS''
      refine wpList_nil <| x_then_n ⟨(hS.sub (.cons (le_80.trans (le_84.trans le_90)) (.rr (.zz .nn)))), ?_⟩
      refine t_take 10 (bA 11 2047) rfl rfl rfl rfl h (hS.sub (.cons (le_80.trans (le_84.trans le_90)) (.rr (.zz .nn)))) (v := v_91) (fun w hS => r_assign h rfl) fun a h=>h_done (by kernel_rfl) <| x_then_n (hKJ_72 _ _ ?_)
      refine wp_ret (x_block_r (x_then_r ?_))
      obtain ⟨N_95, hS', le_95, lo_95⟩ := hS.freeze 3 rfl
      replace hS : Sep w0 w_88 [N_95, _, _, _, Mem.no] Z := hS'
      clear hS'
      obtain rfl := Option.some.inj H
      exact f_ret h (rs := [.tmp 2]) rfl (.tmp rfl .nil) ⟨_, rfl, v_91, N_95, rfl, (Sep.sel hS [0] (by decide)), ((hr_92.rd lo_95 (Mem.no_le _)).mono ((Mem.le.refl _).trans (hS.sndA hA)))⟩
     ·rw [if_neg hc_71] at H
      refine c_cond_f h rfl (beq_eq_false_iff_ne.2 hc_71) <| wp_seq <| wp_region_lit <| s_cmp (b := (x0.Kind == 7)) h rfl rfl rfl (.inl ⟨rfl, rfl⟩) fun a h=>s_assign h rfl rfl fun a h=>wpList_nil <| x_then_n ?_
      by_cases hc_96 : x0.Kind = 7
      ·rw [if_pos hc_96] at H
       refine c_cond_t h rfl (beq_iff_eq.2 hc_96) <| c_seq fun KJ_97 hKJ_97 => h_begin (S := fun w => Sep w0 w [N_19, Mem.one g_2 (.cells ([iV x0.Kind, iV x0.From, iV x0.To, iV x0.View, iV x0.Inst, iV x0.Len, .bool x0.Has, iV x0.Members, iV x0.Source, iV x0.At, iV x0.Total, p0_0, iV x0.Hop, iV x0.Seq, p0_1, p0_2, iV x0.Index, iV x0.Entry.Sess, iV x0.Entry.Seq, iV x0.Entry.Cmd.Kind, iV x0.Entry.Cmd.Who, p0_3, p0_4, p0_5] : List Value).toArray 29 (0, 0)), Mem.no] Z) 14 (by kernel_rfl) rfl (bA 14 0) (by kernel_rfl) hS fun w_98 hS => ?_
       replace hS : Sep w0 w_98 [_, _, _] Z := hS
       refine t_take 0 (bA 14 1) rfl rfl rfl rfl h (hS.sub (.cons (Mem.le.refl _) (.rr (.zz .ii)))) (v := v_20) (fun w hS => r_move h rfl) fun a h=>t_take 1 (bA 14 3) rfl rfl rfl rfl h (hS.sub (.cons (Mem.le.refl _) (.rr (.zz .ii)))) (v := .pointer (some ⟨g_2, 12, none⟩)) (fun w hS => r_fieldAddr h U29 rfl ti3 rfl rfl rfl) fun a h=>t_take 2 (bA 14 7) rfl rfl rfl rfl h (hS.sub (.cons (Mem.le.refl _) (.rr (.zz .ii)))) (v := iV x0.Hop) (fun w hS => r_load h rfl (hS.load_one (p := 1) rfl U3 rfl rfl)) fun a h=>t_take 3 (bA 14 15) rfl rfl rfl rfl h (hS.sub (.cons (Mem.le.refl _) (.rr (.zz .ii)))) (v := .pointer (some ⟨g_2, 13, none⟩)) (fun w hS => r_fieldAddr h U29 rfl ti3 rfl rfl rfl) fun a h=>t_take 4 (bA 14 31) rfl rfl rfl rfl h (hS.sub (.cons (Mem.le.refl _) (.rr (.zz .ii)))) (v := iV x0.Seq) (fun w hS => r_load h rfl (hS.load_one (p := 1) rfl U3 rfl rfl)) fun a h=>t_take 5 (bA 14 63) rfl rfl rfl rfl h (hS.sub (.cons (Mem.le.refl _) (.rr (.zz .ii)))) (v := .pointer (some ⟨g_2, 14, none⟩)) (fun w hS => r_fieldAddr h U29 rfl ti22 rfl rfl rfl) fun a h=>?_
       refine t_take 6 (bA 14 127) rfl rfl rfl rfl h (hS.sub (.cons (Mem.le.refl _) (.rr (.zz .ii)))) (v := p0_1) (fun w hS => r_load h rfl (hS.load_one (p := 1) rfl U22 rfl rfl)) fun a h=>t_take 7 (bA 14 255) rfl rfl rfl rfl h (hS.sub (.cons (Mem.le.refl _) (.rr (.zz .ii)))) (v := iV (x0.Have.length : Int)) (fun w hS => r_len h U22 rfl hp0_1) fun a h=>t_take 10 (bA 14 1279) rfl rfl rfl rfl h (hS.sub (.cons (Mem.le.refl _) (.rr (.zz .ii)))) (v := .pointer (some ⟨g_2, 14, none⟩)) (fun w hS => r_fieldAddr h U29 rfl ti22 rfl rfl rfl) fun a h=>t_take 11 (bA 14 3327) rfl rfl rfl rfl h (hS.sub (.cons (Mem.le.refl _) (.rr (.zz .ii)))) (v := p0_1) (fun w hS => r_load h rfl (hS.load_one (p := 1) rfl U22 rfl rfl)) fun a h=>h_event 8 (bA 14 3583) rfl (by kernel_rfl) (by kernel_rfl) ?_
       have hq_103 : Reps (Kd.int .i64) Mem.no ([x0.Hop, x0.Seq, (x0.Have.length : Int)] : List Int) _ := ((Reps.one (d := (Kd.int .i64)) (x := x0.Hop) (show (Kd.int .i64).K _ _ [iV x0.Hop] from rfl)).append ((Reps.one (d := (Kd.int .i64)) (x := x0.Seq) (show (Kd.int .i64).K _ _ [iV x0.Seq] from rfl)).append ((Reps.one (d := (Kd.int .i64)) (x := (x0.Have.length : Int)) (show (Kd.int .i64).K _ _ [iV (x0.Have.length : Int)] from rfl)).append (Reps.nil (Kd.int .i64) _))))
       refine s_buildSlice h rfl U22 ti3 rfl rfl rfl (.cons rfl (.cons rfl (.cons rfl .nil))) rfl rfl rfl hS hq_103 rfl fun w_99 v_100 M_101 hS' ho_102 a h => ?_
       replace hS : Sep w0 w_99 [_, _, _, M_101] Z := hS'
       clear hS' hq_103
       refine wpList_nil <| x_then_n ⟨(hS.sub (.cons (Mem.le.refl _) (.rr (.zz .nn)))), ?_⟩
       refine h_event 9 (bA 14 4095) rfl (by kernel_rfl) (by kernel_rfl) ?_
       obtain ⟨N_105, hS', le_105, lo_105⟩ := hS.freeze 2 rfl
       replace hS : Sep w0 w_99 [N_105, _, _, Mem.no] Z := hS'
       clear hS'
       obtain ⟨t_106, et_106, H⟩ := Option.bind_eq_some_iff.1 H
       refine s_call h rfl Try.call32 rfl (hocketref11_nums.calls K t_16 _ ([x0.Hop, x0.Seq, (x0.Have.length : Int)] : List Int) _ t_106 w0 _ _ N_105 (hS.new_zed []) (hS.enter [] (by decide)) ((hr_21.mono (Mem.un_le le_19 ln_19)).mono le_105) (ho_102.rd lo_105 (Mem.no_le _)) et_106) ?_
       rintro v_110 w_107 ⟨_, N_108, rfl, hS', hr_111⟩
       intro a h
       obtain ⟨N_109, hS'', le_109, ln_109⟩ := hS.call [] (by decide) rfl (l' := []) (ow := []) rfl hS'
       replace hS : Sep w0 w_107 [N_109, _, _, _] Z := hS''
       clear hS' hS''
       refine wpList_nil <| x_then_n ⟨(hS.sub (.cons (le_105.trans le_109) (.rr (.zz .nn)))), ?_⟩
       refine h_event 12 (bA 14 8191) rfl (by kernel_rfl) (by kernel_rfl) ?_
       obtain ⟨t_112, et_112, H⟩ := Option.bind_eq_some_iff.1 H
       refine s_call h rfl Try.call32 rfl (hocketref11_nums.calls K t_106 _ x0.Have _ t_112 w0 _ _ (A.un N_109) (Mem.un_le (hA.trans (hS.le_zed [])) (hS.new_zed [])) (hS.enter [] (by decide)) ((hr_111.mono (Mem.un_le le_109 ln_109)).mono ((Mem.le.refl _).trans (hS.sndA hA))) (hp0_1.mono (Mem.le_un _ _)) et_112) ?_
       rintro v_116 w_113 ⟨_, N_114, rfl, hS', hr_117⟩
       intro a h
       obtain ⟨N_115, hS'', le_115, ln_115⟩ := hS.call [] (by decide) rfl (l' := []) (ow := []) rfl hS'
       replace hS : Sep w0 w_113 [N_115, _, _, _] Z := hS''
       clear hS' hS''
       have hr_118 : Rd Kd.u8 (A.un N_115) v_116 t_112 := hr_117.mono (Mem.un_le (Mem.un_left le_115) (ln_115.trans (hS.sndA hA)))
       refine wpList_nil <| x_then_n ⟨(hS.sub (.cons (le_105.trans (le_109.trans le_115)) (.rr (.zz .nn)))), ?_⟩
       refine t_take 13 (bA 14 16383) rfl rfl rfl rfl h (hS.sub (.cons (le_105.trans (le_109.trans le_115)) (.rr (.zz .nn)))) (v := v_116) (fun w hS => r_assign h rfl) fun a h=>h_done (by kernel_rfl) <| x_then_n (hKJ_97 _ _ ?_)
       refine c_seq fun KJ_119 hKJ_119 => h_begin (S := fun w => Sep w0 w [N_115, Mem.one g_2 (.cells ([iV x0.Kind, iV x0.From, iV x0.To, iV x0.View, iV x0.Inst, iV x0.Len, .bool x0.Has, iV x0.Members, iV x0.Source, iV x0.At, iV x0.Total, p0_0, iV x0.Hop, iV x0.Seq, p0_1, p0_2, iV x0.Index, iV x0.Entry.Sess, iV x0.Entry.Seq, iV x0.Entry.Cmd.Kind, iV x0.Entry.Cmd.Who, p0_3, p0_4, p0_5] : List Value).toArray 29 (0, 0)), Mem.no, Mem.no] Z) 10 (by kernel_rfl) rfl (bA 10 0) (by kernel_rfl) hS fun w_120 hS => ?_
       replace hS : Sep w0 w_120 [_, _, _, _] Z := hS
       refine t_take 0 (bA 10 1) rfl rfl rfl rfl h (hS.sub (.cons (Mem.le.refl _) (.rr (.zz (.zz .ii))))) (v := v_116) (fun w hS => r_move h rfl) fun a h=>t_take 1 (bA 10 3) rfl rfl rfl rfl h (hS.sub (.cons (Mem.le.refl _) (.rr (.zz (.zz .ii))))) (v := .pointer (some ⟨g_2, 15, none⟩)) (fun w hS => r_fieldAddr h U29 rfl ti22 rfl rfl rfl) fun a h=>t_take 2 (bA 10 7) rfl rfl rfl rfl h (hS.sub (.cons (Mem.le.refl _) (.rr (.zz (.zz .ii))))) (v := p0_2) (fun w hS => r_load h rfl (hS.load_one (p := 1) rfl U22 rfl rfl)) fun a h=>t_take 3 (bA 10 15) rfl rfl rfl rfl h (hS.sub (.cons (Mem.le.refl _) (.rr (.zz (.zz .ii))))) (v := iV (x0.Need.length : Int)) (fun w hS => r_len h U22 rfl hp0_2) fun a h=>t_take 6 (bA 10 79) rfl rfl rfl rfl h (hS.sub (.cons (Mem.le.refl _) (.rr (.zz (.zz .ii))))) (v := .pointer (some ⟨g_2, 15, none⟩)) (fun w hS => r_fieldAddr h U29 rfl ti22 rfl rfl rfl) fun a h=>t_take 7 (bA 10 207) rfl rfl rfl rfl h (hS.sub (.cons (Mem.le.refl _) (.rr (.zz (.zz .ii))))) (v := p0_2) (fun w hS => r_load h rfl (hS.load_one (p := 1) rfl U22 rfl rfl)) fun a h=>?_
       refine h_event 4 (bA 10 223) rfl (by kernel_rfl) (by kernel_rfl) ?_
       have hq_125 : Reps (Kd.int .i64) Mem.no ([(x0.Need.length : Int)] : List Int) _ := ((Reps.one (d := (Kd.int .i64)) (x := (x0.Need.length : Int)) (show (Kd.int .i64).K _ _ [iV (x0.Need.length : Int)] from rfl)).append (Reps.nil (Kd.int .i64) _))
       refine s_buildSlice h rfl U22 ti3 rfl rfl rfl (.cons rfl .nil) rfl rfl rfl hS hq_125 rfl fun w_121 v_122 M_123 hS' ho_124 a h => ?_
       replace hS : Sep w0 w_121 [_, _, _, _, M_123] Z := hS'
       clear hS' hq_125
       refine wpList_nil <| x_then_n ⟨(hS.sub (.cons (Mem.le.refl _) (.rr (.zz (.zz .nn))))), ?_⟩
       refine h_event 5 (bA 10 255) rfl (by kernel_rfl) (by kernel_rfl) ?_
       obtain ⟨N_127, hS', le_127, lo_127⟩ := hS.freeze 3 rfl
       replace hS : Sep w0 w_121 [N_127, _, _, _, Mem.no] Z := hS'
       clear hS'
       obtain ⟨t_128, et_128, H⟩ := Option.bind_eq_some_iff.1 H
       refine s_call h rfl Try.call32 rfl (hocketref11_nums.calls K t_112 _ ([(x0.Need.length : Int)] : List Int) _ t_128 w0 _ _ (A.un N_127) (Mem.un_le (hA.trans (hS.le_zed [])) (hS.new_zed [])) (hS.enter [] (by decide)) (hr_118.mono (Mem.un_left le_127)) ((ho_124.rd lo_127 (Mem.no_le _)).mono ((Mem.le.refl _).trans (hS.sndA hA))) et_128) ?_
       rintro v_132 w_129 ⟨_, N_130, rfl, hS', hr_133⟩
       intro a h
       obtain ⟨N_131, hS'', le_131, ln_131⟩ := hS.call [] (by decide) rfl (l' := []) (ow := []) rfl hS'
       replace hS : Sep w0 w_129 [N_131, _, _, _, _] Z := hS''
       clear hS' hS''
       have hr_134 : Rd Kd.u8 (A.un N_131) v_132 t_128 := hr_133.mono (Mem.un_le (Mem.un_left le_131) (ln_131.trans (hS.sndA hA)))
       refine wpList_nil <| x_then_n ⟨(hS.sub (.cons (le_127.trans le_131) (.rr (.zz (.zz .nn))))), ?_⟩
       refine h_event 8 (bA 10 511) rfl (by kernel_rfl) (by kernel_rfl) ?_
       obtain ⟨t_135, et_135, H⟩ := Option.bind_eq_some_iff.1 H
       refine s_call h rfl Try.call32 rfl (hocketref11_nums.calls K t_128 _ x0.Need _ t_135 w0 _ _ (A.un N_131) (Mem.un_le (hA.trans (hS.le_zed [])) (hS.new_zed [])) (hS.enter [] (by decide)) hr_134 (hp0_2.mono (Mem.le_un _ _)) et_135) ?_
       rintro v_139 w_136 ⟨_, N_137, rfl, hS', hr_140⟩
       intro a h
       obtain ⟨N_138, hS'', le_138, ln_138⟩ := hS.call [] (by decide) rfl (l' := []) (ow := []) rfl hS'
       replace hS : Sep w0 w_136 [N_138, _, _, _, _] Z := hS''
       clear hS' hS''
       have hr_141 : Rd Kd.u8 (A.un N_138) v_139 t_135 := hr_140.mono (Mem.un_le (Mem.un_left le_138) (ln_138.trans (hS.sndA hA)))
       refine wpList_nil <| x_then_n ⟨(hS.sub (.cons (le_127.trans (le_131.trans le_138)) (.rr (.zz (.zz .nn))))), ?_⟩
       refine t_take 9 (bA 10 1023) rfl rfl rfl rfl h (hS.sub (.cons (le_127.trans (le_131.trans le_138)) (.rr (.zz (.zz .nn))))) (v := v_139) (fun w hS => r_assign h rfl) fun a h=>h_done (by kernel_rfl) <| x_then_n (hKJ_119 _ _ ?_)
       refine wp_ret (x_block_r (x_then_r ?_))
       obtain rfl := Option.some.inj H
       exact f_ret h (rs := [.tmp 2]) rfl (.tmp rfl .nil) ⟨_, rfl, v_139, N_138, rfl, (Sep.sel hS [0] (by decide)), hr_141⟩
      ·rw [if_neg hc_96] at H
       refine c_cond_f h rfl (beq_eq_false_iff_ne.2 hc_96) <| wp_seq <| wp_region_lit <| s_cmp (b := (x0.Kind == 8)) h rfl rfl rfl (.inl ⟨rfl, rfl⟩) fun a h=>s_assign h rfl rfl fun a h=>wpList_nil <| x_then_n ?_
       by_cases hc_142 : x0.Kind = 8
       ·rw [if_pos hc_142] at H
        refine c_cond_t h rfl (beq_iff_eq.2 hc_142) <| c_seq fun KJ_143 hKJ_143 => h_begin (S := fun w => Sep w0 w [N_19, Mem.one g_2 (.cells ([iV x0.Kind, iV x0.From, iV x0.To, iV x0.View, iV x0.Inst, iV x0.Len, .bool x0.Has, iV x0.Members, iV x0.Source, iV x0.At, iV x0.Total, p0_0, iV x0.Hop, iV x0.Seq, p0_1, p0_2, iV x0.Index, iV x0.Entry.Sess, iV x0.Entry.Seq, iV x0.Entry.Cmd.Kind, iV x0.Entry.Cmd.Who, p0_3, p0_4, p0_5] : List Value).toArray 29 (0, 0)), Mem.no] Z) 9 (by kernel_rfl) rfl (bA 9 0) (by kernel_rfl) hS fun w_144 hS => ?_
        replace hS : Sep w0 w_144 [_, _, _] Z := hS
        refine t_take 0 (bA 9 1) rfl rfl rfl rfl h (hS.sub (.cons (Mem.le.refl _) (.rr (.zz .ii)))) (v := v_20) (fun w hS => r_move h rfl) fun a h=>t_take 1 (bA 9 3) rfl rfl rfl rfl h (hS.sub (.cons (Mem.le.refl _) (.rr (.zz .ii)))) (v := .pointer (some ⟨g_2, 16, none⟩)) (fun w hS => r_fieldAddr h U29 rfl ti3 rfl rfl rfl) fun a h=>t_take 2 (bA 9 7) rfl rfl rfl rfl h (hS.sub (.cons (Mem.le.refl _) (.rr (.zz .ii)))) (v := iV x0.Index) (fun w hS => r_load h rfl (hS.load_one (p := 1) rfl U3 rfl rfl)) fun a h=>t_take 5 (bA 9 39) rfl rfl rfl rfl h (hS.sub (.cons (Mem.le.refl _) (.rr (.zz .ii)))) (v := .pointer (some ⟨g_2, 17, none⟩)) (fun w hS => r_fieldAddr h U29 rfl ti27 rfl rfl rfl) fun a h=>t_take 6 (bA 9 103) rfl rfl rfl rfl h (hS.sub (.cons (Mem.le.refl _) (.rr (.zz .ii)))) (v := .agg ([iV x0.Entry.Sess, iV x0.Entry.Seq, iV x0.Entry.Cmd.Kind, iV x0.Entry.Cmd.Who, p0_3, p0_4, p0_5] : List Value).toArray) (fun w hS => r_load h rfl (hS.load_agg (p := 1) (us := [iV x0.Entry.Sess, iV x0.Entry.Seq, iV x0.Entry.Cmd.Kind, iV x0.Entry.Cmd.Who, p0_3, p0_4, p0_5]) rfl U27 rfl ti27 rfl rfl)) fun a h=>?_
        refine h_event 3 (bA 9 111) rfl (by kernel_rfl) (by kernel_rfl) ?_
        have hq_149 : Reps (Kd.int .i64) Mem.no ([x0.Index] : List Int) _ := ((Reps.one (d := (Kd.int .i64)) (x := x0.Index) (show (Kd.int .i64).K _ _ [iV x0.Index] from rfl)).append (Reps.nil (Kd.int .i64) _))
        refine s_buildSlice h rfl U22 ti3 rfl rfl rfl (.cons rfl .nil) rfl rfl rfl hS hq_149 rfl fun w_145 v_146 M_147 hS' ho_148 a h => ?_
        replace hS : Sep w0 w_145 [_, _, _, M_147] Z := hS'
        clear hS' hq_149
        refine wpList_nil <| x_then_n ⟨(hS.sub (.cons (Mem.le.refl _) (.rr (.zz .nn)))), ?_⟩
        refine h_event 4 (bA 9 127) rfl (by kernel_rfl) (by kernel_rfl) ?_
        obtain ⟨N_151, hS', le_151, lo_151⟩ := hS.freeze 2 rfl
        replace hS : Sep w0 w_145 [N_151, _, _, Mem.no] Z := hS'
        clear hS'
        obtain ⟨t_152, et_152, H⟩ := Option.bind_eq_some_iff.1 H
        refine s_call h rfl Try.call32 rfl (hocketref11_nums.calls K t_16 _ ([x0.Index] : List Int) _ t_152 w0 _ _ N_151 (hS.new_zed []) (hS.enter [] (by decide)) ((hr_21.mono (Mem.un_le le_19 ln_19)).mono le_151) (ho_148.rd lo_151 (Mem.no_le _)) et_152) ?_
        rintro v_156 w_153 ⟨_, N_154, rfl, hS', hr_157⟩
        intro a h
        obtain ⟨N_155, hS'', le_155, ln_155⟩ := hS.call [] (by decide) rfl (l' := []) (ow := []) rfl hS'
        replace hS : Sep w0 w_153 [N_155, _, _, _] Z := hS''
        clear hS' hS''
        refine wpList_nil <| x_then_n ⟨(hS.sub (.cons (le_151.trans le_155) (.rr (.zz .nn)))), ?_⟩
        refine h_event 7 (bA 9 255) rfl (by kernel_rfl) (by kernel_rfl) ?_
        obtain ⟨t_158, et_158, H⟩ := Option.bind_eq_some_iff.1 H
        refine s_call h rfl Try.call34 rfl (hocketref4_PutEntry.calls K t_152 _ x0.Entry _ _ _ t_158 w0 _ _ _ (Mem.le.refl _) (hS.enter [] (by decide)) ((hr_157.mono (Mem.un_le le_155 ln_155)).mono ((Mem.le.refl _).trans (hS.new_zed []))) (hp0_3.mono (hA.trans (hS.le_zed []))) (hp0_4.mono (hA.trans (hS.le_zed []))) (hp0_5.mono (hA.trans (hS.le_zed []))) et_158) ?_
        rintro v_162 w_159 ⟨_, N_160, M_164, rfl, hS', hr_163⟩
        intro a h
        obtain ⟨N_161, hS'', le_161, ln_161⟩ := hS.call [] (by decide) rfl (l' := []) (ow := [M_164]) rfl hS'
        replace hS : Sep w0 w_159 [N_161, _, _, _, M_164] Z := hS''
        clear hS' hS''
        refine wpList_nil <| x_then_n ⟨(hS.sub (.cons (le_151.trans (le_155.trans le_161)) (.rr (.zz .nn)))), ?_⟩
        refine t_take 8 (bA 9 511) rfl rfl rfl rfl h (hS.sub (.cons (le_151.trans (le_155.trans le_161)) (.rr (.zz .nn)))) (v := v_162) (fun w hS => r_assign h rfl) fun a h=>h_done (by kernel_rfl) <| x_then_n (hKJ_143 _ _ ?_)
        refine wp_ret (x_block_r (x_then_r ?_))
        obtain ⟨N_166, hS', le_166, lo_166⟩ := hS.freeze 3 rfl
        replace hS : Sep w0 w_159 [N_166, _, _, _, Mem.no] Z := hS'
        clear hS'
        obtain rfl := Option.some.inj H
        exact f_ret h (rs := [.tmp 2]) rfl (.tmp rfl .nil) ⟨_, rfl, v_162, N_166, rfl, (Sep.sel hS [0] (by decide)), ((hr_163.rd lo_166 (Mem.no_le _)).mono ((Mem.le.refl _).trans (hS.sndA hA)))⟩
       ·rw [if_neg hc_142] at H
        refine c_cond_f h rfl (beq_eq_false_iff_ne.2 hc_142) <| wp_skip <| x_block_n <| x_then_n (hKJ_22 _ _ ?_)
        refine wp_seq <| wp_region_lit <| s_move h rfl rfl fun a h=>s_assign h rfl rfl fun a h=>wpList_nil <| x_then_n <| wp_ret ?_
        obtain rfl := Option.some.inj H
        exact f_ret h (rs := [.tmp 2]) rfl (.tmp rfl .nil) ⟨_, rfl, v_20, N_19, rfl, (Sep.sel hS [0] (by decide)), ((hr_21.mono (Mem.un_le le_19 ln_19)).mono ((Mem.le.refl _).trans (hS.sndA hA)))⟩
 ·rw [if_neg hc_8] at H
  refine c_cond_t h rfl (nt (Bool.eq_false_iff.2 hc_8)) <| wp_seq <| wp_region_lit <| s_assign h rfl rfl fun a h=>wpList_nil <| x_then_n <| wp_ret (x_then_r ?_)
  obtain rfl := Option.some.inj H
  exact f_ret h (rs := [.tmp 2]) rfl (.tmp rfl .nil) ⟨_, rfl, nS, N_7, rfl, (Sep.sel hS [0] (by decide)), (Rd.nil _ _)⟩

set_option maxHeartbeats 4000000 in
set_option maxRecDepth 20000 in
theorem hocketref1_Reader_Num.calls (K : Nat) (g0 : Nat) (x0_B : List UInt8) (p0_0 : Value) (x0_Bad : Bool) (x1 : Int) (r : Int × (List UInt8) × Bool) (w0 w : World) (Z A : Mem) (hA : A.le Z) (hS : Sep w0 w [Mem.one g0 (.cells ([p0_0, .bool x0_Bad] : List Value).toArray 56 (0, 0))] Z) (hp0_0 : Rd Kd.u8 A p0_0 x0_B)
    (H : hocketref1_Reader_Num.f K x0_B x0_Bad x1 = some r) :
    Calls Try.prog 35 [.pointer (some ⟨g0, 0, none⟩), iV x1].toArray w (Ret fun v w' => ∃ (u0 : Value) (N : Mem), v = iV r.1 ∧ Sep w0 w' [N, Mem.one g0 (.cells ([u0, .bool r.2.2] : List Value).toArray 56 (0, 0))] Z ∧ Rd Kd.u8 (A.un N) u0 r.2.1) := by
 unfold hocketref1_Reader_Num.f at H
 refine f_enter _ Try.func35 rfl Try.ntmps35 rfl fun a h=>?_
 replace h : Fr 75 a [(0, .pointer (some ⟨g0, 0, none⟩)), (1, iV x1)] := h
 replace hS := hS.start
 replace hS : Sep w0 w [_, _] Z := hS
 refine wp_seq <| wp_region_lit <| s_assign h rfl rfl fun a h=>wpList_nil <| x_then_n <| wp_seq <| wp_region_lit <| s_assign h rfl rfl fun a h=>s_assign h rfl rfl fun a h=>wpList_nil <| x_then_n <| c_seq fun KJ_1 hKJ_1 => ?_
 have hJ_j_5 : ∀ (x_3 : Bool), hocketref1_Reader_Num.J1 K x0_B x_3 = some r → ∀ (a : Act) (w_4 : World), (∃ (N_2 : Mem), Fr 75 a [(4, iV 0)] ∧ Sep w0 w_4 [N_2, Mem.one g0 (.cells ([p0_0, .bool x_3] : List Value).toArray 56 (0, 0))] Z ∧ Mem.no.le N_2) → KJ_1 a w_4 := by
  clear H h hS a
  rintro x_3 H a w_4 ⟨N_2, h, hS, le_2⟩
  unfold hocketref1_Reader_Num.J1 at H
  refine hKJ_1 _ _ <| wp_seq <| wp_region_lit <| s_assign h rfl rfl fun a h=>wpList_nil <| x_then_n <| wp_ret ?_
  obtain rfl := Option.some.inj H
  exact f_ret h (rs := [.tmp 4]) rfl (.tmp rfl .nil) ⟨_, rfl, p0_0, N_2, rfl, (Sep.sel hS [0, 1] (by decide)), (hp0_0.mono (Mem.le_un _ _))⟩
 clear hKJ_1
 replace hS : Sep w0 w [_, _] Z := hS
 replace h : Fr 75 a [(0, _), (1, _), (4, iV 0), (5, .int .u64 0), (6, iV 0)] := h.keep [0, 1, 4, 5, 6]
 refine c_block <| c_loop (fun k_9 a w_9 => ∃ (x_7 : Int) (x_8 : Int) (N_6 : Mem), hocketref1_Reader_Num.L1 K x0_Bad x0_B x1 (fun v => hocketref1_Reader_Num.J1 K x0_B v) k_9 (x_7, x_8) = some r ∧ Fr 75 a [(0, .pointer (some ⟨g0, 0, none⟩)), (1, iV x1), (4, iV 0), (5, .int .u64 x_7), (6, iV x_8)] ∧ Sep w0 w_9 [N_6, Mem.one g0 (.cells ([p0_0, .bool x0_Bad] : List Value).toArray 56 (0, 0))] Z ∧ Mem.no.le N_6) K ⟨0, 0, Mem.no, H, h, (Sep.sel hS [0, 1] (by decide)), (Mem.le.refl _)⟩ (fun a w h => by obtain ⟨_, _, _, H, _⟩ := h; cases (show (none : Option (Int × (List UInt8) × Bool)) = some r from H)) ?_
 clear h hS a H
 rintro k_9 a w_9 KL_9 hKL_9 ⟨x_7, x_8, N_6, H, h, hS, le_6⟩
 replace H : hocketref1_Reader_Num.B1 K x0_Bad x0_B x1 (fun v => hocketref1_Reader_Num.J1 K x0_B v) (hocketref1_Reader_Num.L1 K x0_Bad x0_B x1 (fun v => hocketref1_Reader_Num.J1 K x0_B v) k_9) x_7 x_8 = some r := H
 unfold hocketref1_Reader_Num.B1 at H
 refine c_seq fun KJ_11 hKJ_11 => wp_seq <| wp_region_lit <| s_move h rfl rfl fun a h=>s_nilCheck h rfl rfl fun a h=>s_fieldAddr h rfl U56 rfl ti4 rfl rfl fun a h=>s_load h rfl rfl (hS.load_one (p := 1) rfl U4 rfl rfl) fun a h=>s_not h rfl rfl fun a h=>wpList_nil <| x_then_n ?_
 by_cases hc_12 : x0_Bad = true
 ·rw [if_pos hc_12] at H
  refine c_cond_f h rfl (nf hc_12) <| wp_exit (x_then_x (x_then_x (x_block_t ?_)))
  replace hS : Sep w0 w_9 [_, _] Z := hS
  replace h : Fr 75 a [(4, _)] := h.keep [4]
  exact x_then_n (hJ_j_5 x0_Bad H _ _ ⟨N_6, h, (Sep.sel hS [0, 1] (by decide)), le_6⟩)
 ·rw [if_neg hc_12] at H
  refine c_cond_t h rfl (nt (Bool.eq_false_iff.2 hc_12)) <| wp_skip <| x_then_n (hKJ_11 _ _ ?_)
  refine c_block <| c_seq fun KJ_13 hKJ_13 => c_seq fun KJ_14 hKJ_14 => ?_
  have hJ_j_18 : ∀ (x_16 : Bool), hocketref1_Reader_Num.J2 K (fun v => hocketref1_Reader_Num.J1 K x0_B v) x0_B x_8 x_7 x0_Bad x1 (hocketref1_Reader_Num.L1 K x0_Bad x0_B x1 (fun v => hocketref1_Reader_Num.J1 K x0_B v) k_9) x_16 = some r → ∀ (a : Act) (w_17 : World), (∃ (N_15 : Mem), Fr 75 a [(0, .pointer (some ⟨g0, 0, none⟩)), (1, iV x1), (4, iV 0), (5, .int .u64 x_7), (6, iV x_8), (23, .bool x_16)] ∧ Sep w0 w_17 [N_15, Mem.one g0 (.cells ([p0_0, .bool x0_Bad] : List Value).toArray 56 (0, 0))] Z ∧ N_6.le N_15) → KJ_14 a w_17 := by
   clear H h hS a
   rintro x_16 H a w_17 ⟨N_15, h, hS, le_15⟩
   unfold hocketref1_Reader_Num.J2 at H
   refine hKJ_14 _ _ ?_
   by_cases hc_19 : x_16 = true
   ·rw [if_pos hc_19] at H
    refine c_cond_t h rfl hc_19 <| wp_seq <| wp_region_lit <| s_move h rfl rfl fun a h=>s_nilCheck h rfl rfl fun a h=>s_fieldAddr h rfl U56 rfl ti4 rfl rfl fun a h=>?_
    obtain ⟨w_20, hs', hS'⟩ := hS.store (P := Try.prog) (p := 1) (o := 1) (t := 4) (v := .bool true) (vs := [.bool true]) rfl ti4 rfl rfl rfl (by intro u hu; simp only [List.mem_cons, List.not_mem_nil, or_false] at hu; rcases hu with rfl <;> rfl)
    refine s_store h rfl rfl hs' ?_
    replace hS : Sep w0 w_20 [_, Mem.one g0 (.cells ([_, .bool true] : List Value).toArray 56 (0, 0))] Z := hS'
    clear hs' hS'
    refine wpList_nil ?_
    replace h : Fr 75 a [(0, _), (1, _), (4, _), (5, _), (6, _)] := h.keep [0, 1, 4, 5, 6]
    refine x_then_n <| wp_exit (x_then_x (x_block_x rfl (x_then_x (x_block_t ?_))))
    replace hS : Sep w0 w_20 [_, _] Z := hS
    replace h : Fr 75 a [(4, _)] := h.keep [4]
    exact x_then_n (hJ_j_5 true H _ _ ⟨N_15, h, (Sep.sel hS [0, 1] (by decide)), (le_6.trans le_15)⟩)
   ·rw [if_neg hc_19] at H
    refine c_cond_f h rfl (Bool.eq_false_iff.2 hc_19) <| wp_skip <| x_then_n (hKJ_13 _ _ ?_)
    refine wp_seq <| wp_region_lit <| s_move h rfl rfl fun a h=>s_nilCheck h rfl rfl fun a h=>s_fieldAddr h rfl U56 rfl ti23 rfl rfl fun a h=>s_load h rfl rfl (hS.load_one (p := 1) rfl U23 rfl rfl) fun a h=>s_move h rfl rfl fun a h=>?_
    obtain ⟨t_21, et_21, H⟩ := Option.bind_eq_some_iff.1 H
    refine v_index h rfl U23 ti5 rfl rfl rfl hp0_0 (hA.trans hS.old) et_21 fun ad_22 cs_23 hk_24 hc_25 => ?_
    obtain rfl := (show cs_23 = [.int .u8 (t_21.toNat : Int)] from hk_24)
    intro a h
    refine s_load h rfl rfl (el_one (o := 0) hc_25 U5 rfl rfl) fun a h=>s_assign h rfl rfl fun a h=>wpList_nil ?_
    replace h : Fr 75 a [(0, _), (1, _), (4, _), (5, _), (6, _), (7, .int .u8 (t_21.toNat : Int))] := h.keep [0, 1, 4, 5, 6, 7]
    refine x_then_n <| wp_seq <| wp_region_lit <| s_move h rfl rfl fun a h=>s_move h rfl rfl fun a h=>s_bits (i := (t_21.toNat : Int)) (j := ((127 : UInt8).toNat : Int)) (r := ((t_21 &&& (127 : UInt8)).toNat : Int)) h rfl rfl rfl (.inl ⟨rfl, (band8 _ _).symm⟩) fun a h=>s_conv (wu64 ((t_21 &&& (127 : UInt8)).toNat : Int)) h rfl U5 U74 rfl rfl fun a h=>s_move h rfl rfl fun a h=>s_arith (r := w64 (7 * x_8)) h rfl rfl rfl (.inr (.inr ⟨rfl, rfl⟩)) fun a h=>s_conv (wu64 (w64 (7 * x_8))) h rfl U3 U45 rfl rfl fun a h=>s_shift (r := shl .u64 (wu64 ((t_21 &&& (127 : UInt8)).toNat : Int)) (wu64 (w64 (7 * x_8)))) h rfl rfl rfl (wu64_nn _) (.inl ⟨rfl, rfl⟩) fun a h=>s_bits (i := x_7) (j := shl .u64 (wu64 ((t_21 &&& (127 : UInt8)).toNat : Int)) (wu64 (w64 (7 * x_8)))) (r := bor .u64 x_7 (shl .u64 (wu64 ((t_21 &&& (127 : UInt8)).toNat : Int)) (wu64 (w64 (7 * x_8))))) h rfl rfl rfl (.inr (.inl ⟨rfl, rfl⟩)) fun a h=>?_
    refine s_assign h rfl rfl fun a h=>wpList_nil <| x_then_n <| wp_seq <| wp_region_lit <| s_move h rfl rfl fun a h=>s_arith (r := w64 (x_8 + 1)) h rfl rfl rfl (.inl ⟨rfl, rfl⟩) fun a h=>s_assign h rfl rfl fun a h=>wpList_nil <| x_then_n <| wp_seq <| wp_region_lit <| s_move h rfl rfl fun a h=>?_
    refine s_cmp (b := decide ((t_21.toNat : Int) < ((128 : UInt8).toNat : Int))) h rfl rfl rfl (.inr (.inr (.inl ⟨rfl, rfl⟩))) fun a h=>wpList_nil <| x_then_n ?_
    by_cases hc_26 : (t_21.toNat : Int) < ((128 : UInt8).toNat : Int)
    ·rw [if_pos hc_26] at H
     refine c_cond_t h rfl (decide_eq_true hc_26) <| c_seq fun KJ_27 hKJ_27 => c_seq fun KJ_28 hKJ_28 => ?_
     have hJ_j_32 : ∀ (x_30 : Bool), hocketref1_Reader_Num.J3 K (fun v => hocketref1_Reader_Num.J1 K x0_B v) x0_B x_8 x_7 t_21 x0_Bad x_30 = some r → ∀ (a : Act) (w_31 : World), (∃ (N_29 : Mem), Fr 75 a [(0, .pointer (some ⟨g0, 0, none⟩)), (1, iV x1), (4, iV 0), (5, .int .u64 (bor .u64 x_7 (shl .u64 (wu64 ((t_21 &&& (127 : UInt8)).toNat : Int)) (wu64 (w64 (7 * x_8)))))), (6, iV (w64 (x_8 + 1))), (60, .bool x_30)] ∧ Sep w0 w_31 [N_29, Mem.one g0 (.cells ([p0_0, .bool x0_Bad] : List Value).toArray 56 (0, 0))] Z ∧ N_15.le N_29) → KJ_28 a w_31 := by
      clear H h hS a
      rintro x_30 H a w_31 ⟨N_29, h, hS, le_29⟩
      unfold hocketref1_Reader_Num.J3 at H
      refine hKJ_28 _ _ ?_
      by_cases hc_33 : x_30 = true
      ·rw [if_pos hc_33] at H
       refine c_cond_t h rfl hc_33 <| wp_seq <| wp_region_lit <| s_move h rfl rfl fun a h=>s_nilCheck h rfl rfl fun a h=>s_fieldAddr h rfl U56 rfl ti4 rfl rfl fun a h=>?_
       obtain ⟨w_34, hs', hS'⟩ := hS.store (P := Try.prog) (p := 1) (o := 1) (t := 4) (v := .bool true) (vs := [.bool true]) rfl ti4 rfl rfl rfl (by intro u hu; simp only [List.mem_cons, List.not_mem_nil, or_false] at hu; rcases hu with rfl <;> rfl)
       refine s_store h rfl rfl hs' ?_
       replace hS : Sep w0 w_34 [_, Mem.one g0 (.cells ([_, .bool true] : List Value).toArray 56 (0, 0))] Z := hS'
       clear hs' hS'
       refine wpList_nil ?_
       replace h : Fr 75 a [(0, _), (1, _), (4, _), (5, _), (6, _)] := h.keep [0, 1, 4, 5, 6]
       refine x_then_n <| wp_exit (x_then_x (x_block_x rfl (x_then_x (x_block_t ?_))))
       replace hS : Sep w0 w_34 [_, _] Z := hS
       replace h : Fr 75 a [(4, _)] := h.keep [4]
       exact x_then_n (hJ_j_5 true H _ _ ⟨N_29, h, (Sep.sel hS [0, 1] (by decide)), (le_6.trans (le_15.trans le_29))⟩)
      ·rw [if_neg hc_33] at H
       refine c_cond_f h rfl (Bool.eq_false_iff.2 hc_33) <| wp_skip <| x_then_n (hKJ_27 _ _ ?_)
       refine wp_seq <| wp_region_lit <| s_move h rfl rfl fun a h=>s_move h rfl rfl fun a h=>s_nilCheck h rfl rfl fun a h=>s_fieldAddr h rfl U56 rfl ti23 rfl rfl fun a h=>s_load h rfl rfl (hS.load_one (p := 1) rfl U23 rfl rfl) fun a h=>s_move h rfl rfl fun a h=>?_
       obtain ⟨t_35, et_35, H⟩ := Option.bind_eq_some_iff.1 H
       refine s_slice h rfl U23 ti5 rfl rfl hp0_0 rfl rfl et_35 fun v_36 hr_37 a h => s_nilCheck h rfl rfl fun a h=>s_fieldAddr h rfl U56 rfl ti23 rfl rfl fun a h=>?_
       obtain ⟨w_38, hs', hS'⟩ := hS.store (P := Try.prog) (p := 1) (o := 0) (t := 23) (v := v_36) (vs := [v_36]) rfl ti23 hr_37.cellsA rfl rfl (by intro u hu; simp only [List.mem_cons, List.not_mem_nil, or_false] at hu; rcases hu with rfl <;> first | rfl | exact hr_37.one)
       refine s_store h rfl rfl hs' ?_
       replace hS : Sep w0 w_38 [_, Mem.one g0 (.cells ([v_36, _] : List Value).toArray 56 (0, 0))] Z := hS'
       clear hs' hS'
       refine wpList_nil ?_
       replace h : Fr 75 a [(0, _), (1, _), (4, _), (5, _), (6, _)] := h.keep [0, 1, 4, 5, 6]
       refine x_then_n <| wp_seq <| wp_region_lit <| s_move h rfl rfl fun a h=>s_conv (w64 (bor .u64 x_7 (shl .u64 (wu64 ((t_21 &&& (127 : UInt8)).toNat : Int)) (wu64 (w64 (7 * x_8)))))) h rfl U74 U3 rfl rfl fun a h=>s_assign h rfl rfl fun a h=>wpList_nil <| x_then_n <| wp_ret (x_block_r (x_then_r (x_block_r (x_then_r ?_))))
       obtain rfl := Option.some.inj H
       exact f_ret h (rs := [.tmp 4]) rfl (.tmp rfl .nil) ⟨_, rfl, v_36, N_29, rfl, (Sep.sel hS [0, 1] (by decide)), (hr_37.mono (Mem.le_un _ _))⟩
     clear hKJ_28
     refine wp_region_lit <| s_move h rfl rfl fun a h=>s_cmp (b := ((t_21.toNat : Int) == ((0 : UInt8).toNat : Int))) h rfl rfl rfl (.inl ⟨rfl, rfl⟩) fun a h=>s_move h rfl rfl fun a h=>?_
     by_cases hc_39 : (t_21.toNat : Int) = ((0 : UInt8).toNat : Int)
     ·rw [if_pos hc_39] at H
      refine s_on h rfl rfl (beq_iff_eq.2 hc_39) <| s_move h rfl rfl fun a h=>s_on h rfl rfl (beq_iff_eq.2 hc_39) <| s_cmp (b := decide ((w64 (x_8 + 1)) > 1)) h rfl rfl rfl (.inr (.inr (.inr (.inr (.inl ⟨rfl, rfl⟩))))) fun a h=>s_pick_t h rfl rfl (beq_iff_eq.2 hc_39) rfl fun a h=>s_move h rfl rfl fun a h=>?_
      by_cases hc_40 : (w64 (x_8 + 1)) > 1
      ·rw [if_pos hc_40] at H
       refine s_off h rfl rfl rfl (decide_eq_true hc_40) fun a h=>s_off h rfl rfl rfl (decide_eq_true hc_40) fun a h=>s_off h rfl rfl rfl (decide_eq_true hc_40) fun a h=>s_off h rfl rfl rfl (decide_eq_true hc_40) fun a h=>s_off h rfl rfl rfl (decide_eq_true hc_40) fun a h=>s_off h rfl rfl rfl (decide_eq_true hc_40) fun a h=>s_pick_t h rfl rfl (decide_eq_true hc_40) rfl fun a h=>wpList_nil ?_
       replace h : Fr 75 a [(0, _), (1, _), (4, _), (5, .int .u64 (bor .u64 x_7 (shl .u64 (wu64 ((t_21 &&& (127 : UInt8)).toNat : Int)) (wu64 (w64 (7 * x_8)))))), (6, iV (w64 (x_8 + 1))), (60, .bool true)] := h.keep [0, 1, 4, 5, 6, 60]
       replace hS : Sep w0 w_17 [_, _] Z := hS
       replace h : Fr 75 a [(0, _), (1, _), (4, _), (5, _), (6, _), (60, _)] := h.keep [0, 1, 4, 5, 6, 60]
       exact x_then_n (hJ_j_32 true H _ _ ⟨N_15, h, (Sep.sel hS [0, 1] (by decide)), (Mem.le.refl _)⟩)
      ·rw [if_neg hc_40] at H
       refine s_on h rfl rfl (decide_eq_false hc_40) <| s_move h rfl rfl fun a h=>s_on h rfl rfl (decide_eq_false hc_40) <| s_move h rfl rfl fun a h=>s_on h rfl rfl (decide_eq_false hc_40) <| s_max h rfl rfl rfl fun a h=>s_on h rfl rfl (decide_eq_false hc_40) <| s_min h rfl rfl rfl fun a h=>s_on h rfl rfl (decide_eq_false hc_40) <| s_conv (wu64 (mn (mx x1 0) 4611686018427387904)) h rfl U3 U74 rfl rfl fun a h=>s_on h rfl rfl (decide_eq_false hc_40) <| s_cmp (b := decide ((bor .u64 x_7 (shl .u64 (wu64 ((t_21 &&& (127 : UInt8)).toNat : Int)) (wu64 (w64 (7 * x_8))))) > (wu64 (mn (mx x1 0) 4611686018427387904)))) h rfl rfl rfl (.inr (.inr (.inr (.inr (.inl ⟨rfl, rfl⟩))))) fun a h=>?_
       refine s_pick_f h rfl rfl (decide_eq_false hc_40) rfl fun a h=>wpList_nil ?_
       replace h : Fr 75 a [(0, _), (1, _), (4, _), (5, .int .u64 (bor .u64 x_7 (shl .u64 (wu64 ((t_21 &&& (127 : UInt8)).toNat : Int)) (wu64 (w64 (7 * x_8)))))), (6, iV (w64 (x_8 + 1))), (60, .bool (decide ((bor .u64 x_7 (shl .u64 (wu64 ((t_21 &&& (127 : UInt8)).toNat : Int)) (wu64 (w64 (7 * x_8))))) > (wu64 (mn (mx x1 0) 4611686018427387904)))))] := h.keep [0, 1, 4, 5, 6, 60]
       replace hS : Sep w0 w_17 [_, _] Z := hS
       replace h : Fr 75 a [(0, _), (1, _), (4, _), (5, _), (6, _), (60, _)] := h.keep [0, 1, 4, 5, 6, 60]
       exact x_then_n (hJ_j_32 (decide ((bor .u64 x_7 (shl .u64 (wu64 ((t_21 &&& (127 : UInt8)).toNat : Int)) (wu64 (w64 (7 * x_8))))) > (wu64 (mn (mx x1 0) 4611686018427387904)))) H _ _ ⟨N_15, h, (Sep.sel hS [0, 1] (by decide)), (Mem.le.refl _)⟩)
     ·rw [if_neg hc_39] at H
      refine s_off h rfl rfl rfl (beq_eq_false_iff_ne.2 hc_39) fun a h=>s_off h rfl rfl rfl (beq_eq_false_iff_ne.2 hc_39) fun a h=>s_pick_f h rfl rfl (beq_eq_false_iff_ne.2 hc_39) rfl fun a h=>s_move h rfl rfl fun a h=>s_on h rfl rfl rfl <| s_move h rfl rfl fun a h=>s_on h rfl rfl rfl <| s_move h rfl rfl fun a h=>s_on h rfl rfl rfl <| s_max h rfl rfl rfl fun a h=>s_on h rfl rfl rfl <| s_min h rfl rfl rfl fun a h=>?_
      refine s_on h rfl rfl rfl <| s_conv (wu64 (mn (mx x1 0) 4611686018427387904)) h rfl U3 U74 rfl rfl fun a h=>s_on h rfl rfl rfl <| s_cmp (b := decide ((bor .u64 x_7 (shl .u64 (wu64 ((t_21 &&& (127 : UInt8)).toNat : Int)) (wu64 (w64 (7 * x_8))))) > (wu64 (mn (mx x1 0) 4611686018427387904)))) h rfl rfl rfl (.inr (.inr (.inr (.inr (.inl ⟨rfl, rfl⟩))))) fun a h=>s_pick_f h rfl rfl rfl rfl fun a h=>wpList_nil ?_
      replace h : Fr 75 a [(0, _), (1, _), (4, _), (5, .int .u64 (bor .u64 x_7 (shl .u64 (wu64 ((t_21 &&& (127 : UInt8)).toNat : Int)) (wu64 (w64 (7 * x_8)))))), (6, iV (w64 (x_8 + 1))), (60, .bool (decide ((bor .u64 x_7 (shl .u64 (wu64 ((t_21 &&& (127 : UInt8)).toNat : Int)) (wu64 (w64 (7 * x_8))))) > (wu64 (mn (mx x1 0) 4611686018427387904)))))] := h.keep [0, 1, 4, 5, 6, 60]
      replace hS : Sep w0 w_17 [_, _] Z := hS
      replace h : Fr 75 a [(0, _), (1, _), (4, _), (5, _), (6, _), (60, _)] := h.keep [0, 1, 4, 5, 6, 60]
      exact x_then_n (hJ_j_32 (decide ((bor .u64 x_7 (shl .u64 (wu64 ((t_21 &&& (127 : UInt8)).toNat : Int)) (wu64 (w64 (7 * x_8))))) > (wu64 (mn (mx x1 0) 4611686018427387904)))) H _ _ ⟨N_15, h, (Sep.sel hS [0, 1] (by decide)), (Mem.le.refl _)⟩)
    ·rw [if_neg hc_26] at H
     refine c_cond_f h rfl (decide_eq_false hc_26) <| wp_skip <| x_block_n <| x_then_n (hKL_9 _ _ ?_)
     replace hS : Sep w0 w_17 [_, _] Z := hS
     replace h : Fr 75 a [(0, _), (1, _), (4, _), (5, .int .u64 (bor .u64 x_7 (shl .u64 (wu64 ((t_21 &&& (127 : UInt8)).toNat : Int)) (wu64 (w64 (7 * x_8)))))), (6, iV (w64 (x_8 + 1)))] := h.keep [0, 1, 4, 5, 6]
     exact ⟨bor .u64 x_7 (shl .u64 (wu64 ((t_21 &&& (127 : UInt8)).toNat : Int)) (wu64 (w64 (7 * x_8)))), w64 (x_8 + 1), N_15, H, h, (Sep.sel hS [0, 1] (by decide)), (le_6.trans le_15)⟩
  clear hKJ_14
  refine wp_region_lit <| s_move h rfl rfl fun a h=>s_move h rfl rfl fun a h=>s_nilCheck h rfl rfl fun a h=>s_fieldAddr h rfl U56 rfl ti23 rfl rfl fun a h=>s_load h rfl rfl (hS.load_one (p := 1) rfl U23 rfl rfl) fun a h=>s_len h rfl U23 rfl hp0_0 fun a h=>s_cmp (b := decide (x_8 ≥ (x0_B.length : Int))) h rfl rfl rfl (.inr (.inr (.inr (.inr (.inr ⟨rfl, rfl⟩))))) fun a h=>s_move h rfl rfl fun a h=>?_
  by_cases hc_41 : x_8 ≥ (x0_B.length : Int)
  ·rw [if_pos hc_41] at H
   refine s_off h rfl rfl rfl (decide_eq_true hc_41) fun a h=>s_off h rfl rfl rfl (decide_eq_true hc_41) fun a h=>s_pick_t h rfl rfl (decide_eq_true hc_41) rfl fun a h=>wpList_nil ?_
   replace h : Fr 75 a [(0, _), (1, _), (4, _), (5, _), (6, _), (23, .bool true)] := h.keep [0, 1, 4, 5, 6, 23]
   replace hS : Sep w0 w_9 [_, _] Z := hS
   replace h : Fr 75 a [(0, _), (1, _), (4, _), (5, _), (6, _), (23, _)] := h.keep [0, 1, 4, 5, 6, 23]
   exact x_then_n (hJ_j_18 true H _ _ ⟨N_6, h, (Sep.sel hS [0, 1] (by decide)), (Mem.le.refl _)⟩)
  ·rw [if_neg hc_41] at H
   refine s_on h rfl rfl (decide_eq_false hc_41) <| s_move h rfl rfl fun a h=>s_on h rfl rfl (decide_eq_false hc_41) <| s_cmp (b := decide (x_8 > 8)) h rfl rfl rfl (.inr (.inr (.inr (.inr (.inl ⟨rfl, rfl⟩))))) fun a h=>s_pick_f h rfl rfl (decide_eq_false hc_41) rfl fun a h=>wpList_nil ?_
   replace h : Fr 75 a [(0, _), (1, _), (4, _), (5, _), (6, _), (23, .bool (decide (x_8 > 8)))] := h.keep [0, 1, 4, 5, 6, 23]
   replace hS : Sep w0 w_9 [_, _] Z := hS
   replace h : Fr 75 a [(0, _), (1, _), (4, _), (5, _), (6, _), (23, _)] := h.keep [0, 1, 4, 5, 6, 23]
   exact x_then_n (hJ_j_18 (decide (x_8 > 8)) H _ _ ⟨N_6, h, (Sep.sel hS [0, 1] (by decide)), (Mem.le.refl _)⟩)

set_option maxHeartbeats 4000000 in
set_option maxRecDepth 20000 in
theorem hocketref1_Reader_Bytes.calls (K : Nat) (g0 : Nat) (x0_B : List UInt8) (p0_0 : Value) (x0_Bad : Bool) (x1 : Int) (r : (List UInt8) × (List UInt8) × Bool) (w0 w : World) (Z A : Mem) (hA : A.le Z) (hS : Sep w0 w [Mem.one g0 (.cells ([p0_0, .bool x0_Bad] : List Value).toArray 56 (0, 0))] Z) (hp0_0 : Rd Kd.u8 A p0_0 x0_B)
    (H : hocketref1_Reader_Bytes.f K x0_B x0_Bad x1 = some r) :
    Calls Try.prog 36 [.pointer (some ⟨g0, 0, none⟩), iV x1].toArray w (Ret fun v w' => ∃ (u0 : Value) (u1 : Value) (N : Mem) (M0 : Mem), v = u0 ∧ Sep w0 w' [N, Mem.one g0 (.cells ([u1, .bool r.2.2] : List Value).toArray 56 (0, 0)), M0] Z ∧ Own Kd.u8 5 M0 Mem.no u0 r.1 ∧ Rd Kd.u8 (A.un N) u1 r.2.1) := by
 unfold hocketref1_Reader_Bytes.f at H
 refine f_enter _ Try.func36 rfl Try.ntmps36 rfl fun a h=>?_
 replace h : Fr 53 a [(0, .pointer (some ⟨g0, 0, none⟩)), (1, iV x1)] := h
 replace hS := hS.start
 replace hS : Sep w0 w [_, _] Z := hS
 refine wp_seq <| wp_region_lit <| s_assign h rfl rfl fun a h=>wpList_nil <| x_then_n <| wp_seq <| wp_region_lit <| s_move h rfl rfl fun a h=>s_nilCheck h rfl rfl fun a h=>s_fieldAddr h rfl U56 rfl ti23 rfl rfl fun a h=>s_load h rfl rfl (hS.load_one (p := 1) rfl U23 rfl rfl) fun a h=>s_assign h rfl rfl fun a h=>?_
 refine wpList_nil <| x_then_n <| wp_seq <| wp_region_lit <| s_move h rfl rfl fun a h=>s_move h rfl rfl fun a h=>?_
 obtain ⟨t_1, et_1, H⟩ := Option.bind_eq_some_iff.1 H
 refine s_call h rfl Try.call35 rfl (hocketref1_Reader_Num.calls K _ x0_B _ x0_Bad x1 t_1 w0 _ _ A (hA.trans (hS.le_zed [0])) (hS.enter [0] (by decide)) hp0_0 et_1) ?_
 rintro _ w_2 ⟨v_5, N_3, rfl, hS', hr_6⟩
 intro a h
 obtain ⟨N_4, hS'', le_4, ln_4⟩ := hS.call [0] (by decide) rfl (l' := [Mem.one g0 (.cells ([v_5, .bool t_1.2.2] : List Value).toArray 56 (0, 0))]) (ow := []) rfl hS'
 replace hS : Sep w0 w_2 [N_4, Mem.one g0 (.cells ([v_5, .bool t_1.2.2] : List Value).toArray 56 (0, 0))] Z := hS''
 clear hS' hS''
 have hr_7 : Rd Kd.u8 (A.un N_4) v_5 t_1.2.1 := hr_6.mono (Mem.un_left ln_4)
 refine s_assign h rfl rfl fun a h=>wpList_nil <| x_then_n <| c_seq fun KJ_8 hKJ_8 => c_seq fun KJ_9 hKJ_9 => ?_
 have hJ_j_13 : ∀ (x_11 : Bool), hocketref1_Reader_Bytes.J1 K x0_B t_1 x_11 = some r → ∀ (a : Act) (w_12 : World), (∃ (N_10 : Mem), Fr 53 a [(0, .pointer (some ⟨g0, 0, none⟩)), (4, nS), (5, p0_0), (6, iV t_1.1), (27, .bool x_11)] ∧ Sep w0 w_12 [N_10, Mem.one g0 (.cells ([v_5, .bool t_1.2.2] : List Value).toArray 56 (0, 0))] Z ∧ N_4.le N_10) → KJ_9 a w_12 := by
  clear H h hS a
  rintro x_11 H a w_12 ⟨N_10, h, hS, le_10⟩
  unfold hocketref1_Reader_Bytes.J1 at H
  refine hKJ_9 _ _ ?_
  by_cases hc_14 : x_11 = true
  ·rw [if_pos hc_14] at H
   refine c_cond_t h rfl hc_14 <| wp_seq <| wp_region_lit <| s_move h rfl rfl fun a h=>s_move h rfl rfl fun a h=>s_move h rfl rfl fun a h=>s_nilCheck h rfl rfl fun a h=>s_fieldAddr h rfl U56 rfl ti4 rfl rfl fun a h=>?_
   obtain ⟨w_15, hs', hS'⟩ := hS.store (P := Try.prog) (p := 1) (o := 1) (t := 4) (v := .bool true) (vs := [.bool true]) rfl ti4 rfl rfl rfl (by intro u hu; simp only [List.mem_cons, List.not_mem_nil, or_false] at hu; rcases hu with rfl <;> rfl)
   refine s_store h rfl rfl hs' ?_
   replace hS : Sep w0 w_15 [_, Mem.one g0 (.cells ([_, .bool true] : List Value).toArray 56 (0, 0))] Z := hS'
   clear hs' hS'
   refine s_nilCheck h rfl rfl fun a h=>s_fieldAddr h rfl U56 rfl ti23 rfl rfl fun a h=>?_
   obtain ⟨w_16, hs', hS'⟩ := hS.store (P := Try.prog) (p := 1) (o := 0) (t := 23) (v := p0_0) (vs := [p0_0]) rfl ti23 hp0_0.cellsA rfl rfl (by intro u hu; simp only [List.mem_cons, List.not_mem_nil, or_false] at hu; rcases hu with rfl <;> first | rfl | exact hp0_0.one)
   refine s_store h rfl rfl hs' ?_
   replace hS : Sep w0 w_16 [_, Mem.one g0 (.cells ([p0_0, _] : List Value).toArray 56 (0, 0))] Z := hS'
   clear hs' hS'
   refine wpList_nil ?_
   replace h : Fr 53 a [(0, _), (4, _), (6, _)] := h.keep [0, 4, 6]
   refine x_then_n <| wp_seq <| wp_region_lit <| s_assign h rfl rfl fun a h=>wpList_nil <| x_then_n <| wp_ret (x_then_r ?_)
   have hS' := hS.room
   replace hS : Sep w0 w_16 [_, _, Mem.no] Z := hS'
   clear hS'
   obtain rfl := Option.some.inj H
   exact f_ret h (rs := [.tmp 4]) rfl (.tmp rfl .nil) ⟨_, rfl, nS, p0_0, N_10, Mem.no, rfl, (Sep.sel hS [0, 1, 2] (by decide)), (Own.nil Kd.u8 5 Mem.no), (hp0_0.mono (Mem.le_un _ _))⟩
  ·rw [if_neg hc_14] at H
   refine c_cond_f h rfl (Bool.eq_false_iff.2 hc_14) <| wp_skip <| x_then_n (hKJ_8 _ _ ?_)
   refine wp_seq <| wp_region_lit ?_
   have hq_22 : Reps Kd.u8 Mem.no ([] : List UInt8) _ := (Reps.nil Kd.u8 _)
   refine s_buildSlice h rfl U23 ti5 rfl rfl rfl .nil rfl rfl rfl hS hq_22 rfl fun w_18 v_19 M_20 hS' ho_21 a h => ?_
   replace hS : Sep w0 w_18 [_, _, M_20] Z := hS'
   clear hS' hq_22
   refine s_move h rfl rfl fun a h=>s_nilCheck h rfl rfl fun a h=>s_fieldAddr h rfl U56 rfl ti23 rfl rfl fun a h=>s_load h rfl rfl (hS.load_one (p := 1) rfl U23 rfl rfl) fun a h=>s_move h rfl rfl fun a h=>?_
   obtain ⟨t_24, et_24, H⟩ := Option.bind_eq_some_iff.1 H
   refine s_slice h rfl U23 ti5 rfl rfl hr_7 rfl rfl et_24 fun v_25 hr_26 a h => ?_
   obtain ⟨t_27, et_27, H⟩ := Option.bind_eq_some_iff.1 H
   refine s_append (J := Mem.no) (I' := Mem.no) (p := 2) 140737488355328 h rfl rfl rfl U23 ti5 rfl rfl rfl rfl hS rfl ho_21 (Src.flat flat_u8 (hr_26.src (Mem.un_le (hA.trans hS.old) (le_10.trans (hS.own 0))))) (Mem.le.refl _) (Mem.le.refl _) et_27 fun w_28 v_29 M_30 hS' ho_31 a h => ?_
   replace hS : Sep w0 w_28 [_, _, M_30] Z := hS'
   clear hS'
   refine s_assign h rfl rfl fun a h=>wpList_nil ?_
   replace h : Fr 53 a [(0, _), (4, _), (6, _), (7, v_29)] := h.keep [0, 4, 6, 7]
   refine x_then_n <| wp_seq <| wp_region_lit <| s_move h rfl rfl fun a h=>s_move h rfl rfl fun a h=>s_nilCheck h rfl rfl fun a h=>s_fieldAddr h rfl U56 rfl ti23 rfl rfl fun a h=>s_load h rfl rfl (hS.load_one (p := 1) rfl U23 rfl rfl) fun a h=>s_move h rfl rfl fun a h=>?_
   obtain ⟨t_33, et_33, H⟩ := Option.bind_eq_some_iff.1 H
   refine s_slice h rfl U23 ti5 rfl rfl hr_7 rfl rfl et_33 fun v_34 hr_35 a h => s_nilCheck h rfl rfl fun a h=>s_fieldAddr h rfl U56 rfl ti23 rfl rfl fun a h=>?_
   obtain ⟨w_36, hs', hS'⟩ := hS.store (P := Try.prog) (p := 1) (o := 0) (t := 23) (v := v_34) (vs := [v_34]) rfl ti23 hr_35.cellsA rfl rfl (by intro u hu; simp only [List.mem_cons, List.not_mem_nil, or_false] at hu; rcases hu with rfl <;> first | rfl | exact hr_35.one)
   refine s_store h rfl rfl hs' ?_
   replace hS : Sep w0 w_36 [_, Mem.one g0 (.cells ([v_34, _] : List Value).toArray 56 (0, 0)), _] Z := hS'
   clear hs' hS'
   refine wpList_nil <| x_then_n <| wp_seq <| wp_region_lit <| s_move h rfl rfl fun a h=>s_assign h rfl rfl fun a h=>wpList_nil <| x_then_n <| wp_ret ?_
   obtain rfl := Option.some.inj H
   exact f_ret h (rs := [.tmp 4]) rfl (.tmp rfl .nil) ⟨_, rfl, v_29, v_34, N_10, M_30, rfl, (Sep.sel hS [0, 1, 2] (by decide)), ho_31, (hr_35.mono (Mem.un_left le_10))⟩
 clear hKJ_9
 refine wp_region_lit <| s_move h rfl rfl fun a h=>s_nilCheck h rfl rfl fun a h=>s_fieldAddr h rfl U56 rfl ti4 rfl rfl fun a h=>s_load h rfl rfl (hS.load_one (p := 1) rfl U4 rfl rfl) fun a h=>s_move h rfl rfl fun a h=>?_
 by_cases hc_37 : t_1.2.2 = true
 ·rw [if_pos hc_37] at H
  refine s_off h rfl rfl rfl hc_37 fun a h=>s_off h rfl rfl rfl hc_37 fun a h=>s_off h rfl rfl rfl hc_37 fun a h=>s_off h rfl rfl rfl hc_37 fun a h=>s_off h rfl rfl rfl hc_37 fun a h=>s_off h rfl rfl rfl hc_37 fun a h=>s_off h rfl rfl rfl hc_37 fun a h=>s_pick_t h rfl rfl hc_37 rfl fun a h=>wpList_nil ?_
  replace h : Fr 53 a [(0, _), (4, nS), (5, p0_0), (6, iV t_1.1), (27, .bool true)] := h.keep [0, 4, 5, 6, 27]
  replace hS : Sep w0 w_2 [_, _] Z := hS
  replace h : Fr 53 a [(0, _), (4, _), (5, _), (6, _), (27, _)] := h.keep [0, 4, 5, 6, 27]
  exact x_then_n (hJ_j_13 true H _ _ ⟨N_4, h, (Sep.sel hS [0, 1] (by decide)), (Mem.le.refl _)⟩)
 ·rw [if_neg hc_37] at H
  refine s_on h rfl rfl (Bool.eq_false_iff.2 hc_37) <| s_move h rfl rfl fun a h=>s_on h rfl rfl (Bool.eq_false_iff.2 hc_37) <| s_move h rfl rfl fun a h=>s_on h rfl rfl (Bool.eq_false_iff.2 hc_37) <| s_nilCheck h rfl rfl fun a h=>s_on h rfl rfl (Bool.eq_false_iff.2 hc_37) <| s_fieldAddr h rfl U56 rfl ti23 rfl rfl fun a h=>s_on h rfl rfl (Bool.eq_false_iff.2 hc_37) <| s_load h rfl rfl (hS.load_one (p := 1) rfl U23 rfl rfl) fun a h=>s_on h rfl rfl (Bool.eq_false_iff.2 hc_37) <| s_len h rfl U23 rfl hr_7 fun a h=>?_
  refine s_on h rfl rfl (Bool.eq_false_iff.2 hc_37) <| s_cmp (b := decide (t_1.1 > (t_1.2.1.length : Int))) h rfl rfl rfl (.inr (.inr (.inr (.inr (.inl ⟨rfl, rfl⟩))))) fun a h=>s_pick_f h rfl rfl (Bool.eq_false_iff.2 hc_37) rfl fun a h=>wpList_nil ?_
  replace h : Fr 53 a [(0, _), (4, nS), (5, p0_0), (6, iV t_1.1), (27, .bool (decide (t_1.1 > (t_1.2.1.length : Int))))] := h.keep [0, 4, 5, 6, 27]
  replace hS : Sep w0 w_2 [_, _] Z := hS
  replace h : Fr 53 a [(0, _), (4, _), (5, _), (6, _), (27, _)] := h.keep [0, 4, 5, 6, 27]
  exact x_then_n (hJ_j_13 (decide (t_1.1 > (t_1.2.1.length : Int))) H _ _ ⟨N_4, h, (Sep.sel hS [0, 1] (by decide)), (Mem.le.refl _)⟩)

set_option maxHeartbeats 4000000 in
set_option maxRecDepth 20000 in
theorem hocketref11_row.calls (K : Nat) (g0 : Nat) (x0_B : List UInt8) (p0_0 : Value) (x0_Bad : Bool) (x1 : Int) (r : (List Int) × (List UInt8) × Bool) (w0 w : World) (Z A : Mem) (hA : A.le Z) (hS : Sep w0 w [Mem.one g0 (.cells ([p0_0, .bool x0_Bad] : List Value).toArray 56 (0, 0))] Z) (hp0_0 : Rd Kd.u8 A p0_0 x0_B)
    (H : hocketref11_row.f K x0_B x0_Bad x1 = some r) :
    Calls Try.prog 37 [.pointer (some ⟨g0, 0, none⟩), iV x1].toArray w (Ret fun v w' => ∃ (u0 : Value) (u1 : Value) (N : Mem) (M0 : Mem), v = u0 ∧ Sep w0 w' [N, Mem.one g0 (.cells ([u1, .bool r.2.2] : List Value).toArray 56 (0, 0)), M0] Z ∧ Own (Kd.int .i64) 3 M0 Mem.no u0 r.1 ∧ Rd Kd.u8 (A.un N) u1 r.2.1) := by
 unfold hocketref11_row.f at H
 refine f_enter _ Try.func37 rfl Try.ntmps37 rfl fun a h=>?_
 replace h : Fr 20 a [(0, .pointer (some ⟨g0, 0, none⟩)), (1, iV x1)] := h
 replace hS := hS.start
 replace hS : Sep w0 w [_, _] Z := hS
 refine wp_seq <| wp_region_lit <| s_assign h rfl rfl fun a h=>wpList_nil <| x_then_n <| wp_seq <| wp_region_lit <| s_assign h rfl rfl fun a h=>wpList_nil <| x_then_n <| c_seq fun KJ_1 hKJ_1 => wp_seq <| wp_region_lit ?_
 refine s_move h rfl rfl fun a h=>s_move h rfl rfl fun a h=>?_
 obtain ⟨t_2, et_2, H⟩ := Option.bind_eq_some_iff.1 H
 refine s_call h rfl Try.call35 rfl (hocketref1_Reader_Num.calls K _ x0_B _ x0_Bad x1 t_2 w0 _ _ A (hA.trans (hS.le_zed [0])) (hS.enter [0] (by decide)) hp0_0 et_2) ?_
 rintro _ w_3 ⟨v_6, N_4, rfl, hS', hr_7⟩
 intro a h
 obtain ⟨N_5, hS'', le_5, ln_5⟩ := hS.call [0] (by decide) rfl (l' := [Mem.one g0 (.cells ([v_6, .bool t_2.2.2] : List Value).toArray 56 (0, 0))]) (ow := []) rfl hS'
 replace hS : Sep w0 w_3 [N_5, Mem.one g0 (.cells ([v_6, .bool t_2.2.2] : List Value).toArray 56 (0, 0))] Z := hS''
 clear hS' hS''
 have hr_8 : Rd Kd.u8 (A.un N_5) v_6 t_2.2.1 := hr_7.mono (Mem.un_left ln_5)
 refine s_assign h rfl rfl fun a h=>wpList_nil <| x_then_n ?_
 have hJ_j_20 : ∀ (x_10 : List Int), ∀ (x_15 : List UInt8), ∀ (x_18 : Bool), hocketref11_row.J1 K x_10 x_15 x_18 = some r → ∀ (a : Act) (w_19 : World), (∃ (v_13 : Value) (v_16 : Value) (N_9 : Mem) (M_11 : Mem), Fr 20 a [(4, nS), (5, v_13)] ∧ Sep w0 w_19 [N_9, Mem.one g0 (.cells ([v_16, .bool x_18] : List Value).toArray 56 (0, 0)), M_11] Z ∧ N_5.le N_9 ∧ Own (Kd.int .i64) 3 M_11 Mem.no v_13 x_10 ∧ Rd Kd.u8 (A.un N_9) v_16 x_15) → KJ_1 a w_19 := by
  clear H h hS a
  rintro x_10 x_15 x_18 H a w_19 ⟨v_13, v_16, N_9, M_11, h, hS, le_9, ho_14, hr_17⟩
  unfold hocketref11_row.J1 at H
  refine hKJ_1 _ _ <| wp_seq <| wp_region_lit <| s_move h rfl rfl fun a h=>s_assign h rfl rfl fun a h=>wpList_nil ?_
  replace h : Fr 20 a [(4, v_13)] := h.keep [4]
  refine x_then_n <| wp_ret ?_
  obtain rfl := Option.some.inj H
  exact f_ret h (rs := [.tmp 4]) rfl (.tmp rfl .nil) ⟨_, rfl, v_13, v_16, N_9, M_11, rfl, (Sep.sel hS [0, 1, 2] (by decide)), ho_14, hr_17⟩
 clear hKJ_1
 have hS' := hS.room
 replace hS : Sep w0 w_3 [_, _, Mem.no] Z := hS'
 clear hS'
 replace hS : Sep w0 w_3 [_, _, _] Z := hS
 replace h : Fr 20 a [(0, _), (4, nS), (5, nS), (6, iV t_2.1)] := h.keep [0, 4, 5, 6]
 refine c_block <| c_loop (fun k_32 a w_32 => ∃ (x_22 : List Int) (x_27 : Int) (x_28 : List UInt8) (x_31 : Bool) (v_25 : Value) (v_29 : Value) (N_21 : Mem) (M_23 : Mem), hocketref11_row.L1 K (fun v => hocketref11_row.J1 K v.1 v.2.1 v.2.2) k_32 (x_22, x_27, x_28, x_31) = some r ∧ Fr 20 a [(0, .pointer (some ⟨g0, 0, none⟩)), (4, nS), (5, v_25), (6, iV x_27)] ∧ Sep w0 w_32 [N_21, Mem.one g0 (.cells ([v_29, .bool x_31] : List Value).toArray 56 (0, 0)), M_23] Z ∧ N_5.le N_21 ∧ Own (Kd.int .i64) 3 M_23 Mem.no v_25 x_22 ∧ Rd Kd.u8 (A.un N_21) v_29 x_28) K ⟨([] : List Int), t_2.1, t_2.2.1, t_2.2.2, nS, v_6, N_5, Mem.no, H, h, (Sep.sel hS [0, 1, 2] (by decide)), (Mem.le.refl _), (Own.nil (Kd.int .i64) 3 Mem.no), hr_8⟩ (fun a w h => by obtain ⟨_, _, _, _, _, _, _, _, H, _⟩ := h; cases (show (none : Option ((List Int) × (List UInt8) × Bool)) = some r from H)) ?_
 clear h hS a H
 rintro k_32 a w_32 KL_32 hKL_32 ⟨x_22, x_27, x_28, x_31, v_25, v_29, N_21, M_23, H, h, hS, le_21, ho_26, hr_30⟩
 replace H : hocketref11_row.B1 K (fun v => hocketref11_row.J1 K v.1 v.2.1 v.2.2) (hocketref11_row.L1 K (fun v => hocketref11_row.J1 K v.1 v.2.1 v.2.2) k_32) x_22 x_27 x_28 x_31 = some r := H
 unfold hocketref11_row.B1 at H
 refine c_seq fun KJ_35 hKJ_35 => wp_seq <| wp_region_lit <| s_move h rfl rfl fun a h=>s_cmp (b := decide (x_27 > 0)) h rfl rfl rfl (.inr (.inr (.inr (.inr (.inl ⟨rfl, rfl⟩))))) fun a h=>wpList_nil ?_
 replace h : Fr 20 a [(0, _), (4, _), (5, _), (6, _), (11, .bool (decide (x_27 > 0)))] := h.keep [0, 4, 5, 6, 11]
 refine x_then_n ?_
 by_cases hc_36 : x_27 > 0
 ·rw [if_pos hc_36] at H
  refine c_cond_t h rfl (decide_eq_true hc_36) <| wp_skip <| x_then_n (hKJ_35 _ _ ?_)
  refine wp_seq <| c_block <| wp_region_lit <| s_move h rfl rfl fun a h=>s_move h rfl rfl fun a h=>?_
  obtain ⟨t_37, et_37, H⟩ := Option.bind_eq_some_iff.1 H
  refine s_call h rfl Try.call35 rfl (hocketref1_Reader_Num.calls K _ x_28 _ x_31 1099511627776 t_37 w0 _ _ (A.un N_21) (Mem.un_le (hA.trans (hS.le_zed [0])) (hS.new_zed [0])) (hS.enter [0] (by decide)) hr_30 et_37) ?_
  rintro _ w_38 ⟨v_41, N_39, rfl, hS', hr_42⟩
  intro a h
  obtain ⟨N_40, hS'', le_40, ln_40⟩ := hS.call [0] (by decide) rfl (l' := [Mem.one g0 (.cells ([v_41, .bool t_37.2.2] : List Value).toArray 56 (0, 0))]) (ow := []) rfl hS'
  replace hS : Sep w0 w_38 [N_40, Mem.one g0 (.cells ([v_41, .bool t_37.2.2] : List Value).toArray 56 (0, 0)), _] Z := hS''
  clear hS' hS''
  have hr_43 : Rd Kd.u8 (A.un N_40) v_41 t_37.2.1 := hr_42.mono (Mem.un_le (Mem.un_left le_40) (ln_40.trans (hS.sndA hA)))
  have hq_48 : Reps (Kd.int .i64) Mem.no ([t_37.1] : List Int) _ := ((Reps.one (d := (Kd.int .i64)) (x := t_37.1) (show (Kd.int .i64).K _ _ [iV t_37.1] from rfl)).append (Reps.nil (Kd.int .i64) _))
  refine s_buildSlice h rfl U22 ti3 rfl rfl rfl (.cons rfl .nil) rfl rfl rfl hS hq_48 rfl fun w_44 v_45 M_46 hS' ho_47 a h => ?_
  replace hS : Sep w0 w_44 [_, _, _, M_46] Z := hS'
  clear hS' hq_48
  obtain ⟨t_50, et_50, H⟩ := Option.bind_eq_some_iff.1 H
  refine s_append (J := Mem.no) (I' := Mem.no) (p := 2) 17592186044416 h rfl rfl rfl U22 ti3 rfl rfl rfl rfl hS rfl ho_26 (Src.flat (flat_int .i64) (ho_47.src (hS.own 3))) (Mem.le.refl _) (Mem.le.refl _) et_50 fun w_51 v_52 M_53 hS' ho_54 a h => ?_
  replace hS : Sep w0 w_51 [_, _, M_53, _] Z := hS'
  clear hS'
  refine s_assign h rfl rfl fun a h=>wpList_nil <| x_block_n <| x_then_n <| wp_region_lit <| s_move h rfl rfl fun a h=>s_arith (r := w64 (x_27 - 1)) h rfl rfl rfl (.inr (.inl ⟨rfl, rfl⟩)) fun a h=>s_assign h rfl rfl fun a h=>wpList_nil <| x_then_n (hKL_32 _ _ ?_)
  replace hS : Sep w0 w_51 [_, _, _, _] Z := hS
  replace h : Fr 20 a [(0, _), (4, _), (5, v_52), (6, iV (w64 (x_27 - 1)))] := h.keep [0, 4, 5, 6]
  exact ⟨t_50, w64 (x_27 - 1), t_37.2.1, t_37.2.2, v_52, v_41, N_40, M_53, H, h, (Sep.sel hS [0, 1, 2] (by decide)), (le_21.trans le_40), ho_54, hr_43⟩
 ·rw [if_neg hc_36] at H
  refine c_cond_f h rfl (decide_eq_false hc_36) <| wp_exit (x_then_x (x_then_x (x_block_t ?_)))
  replace hS : Sep w0 w_32 [_, _, _] Z := hS
  replace h : Fr 20 a [(4, _), (5, _)] := h.keep [4, 5]
  exact x_then_n (hJ_j_20 x_22 x_28 x_31 H _ _ ⟨v_25, v_29, N_21, M_23, h, (Sep.sel hS [0, 1, 2] (by decide)), le_21, ho_26, hr_30⟩)

set_option maxHeartbeats 4000000 in
set_option maxRecDepth 20000 in
theorem hocketref4_GetEntry.calls (K : Nat) (g0 : Nat) (x0_B : List UInt8) (p0_0 : Value) (x0_Bad : Bool) (r : api_Entry × (List UInt8) × Bool) (w0 w : World) (Z A : Mem) (hA : A.le Z) (hS : Sep w0 w [Mem.one g0 (.cells ([p0_0, .bool x0_Bad] : List Value).toArray 56 (0, 0))] Z) (hp0_0 : Rd Kd.u8 A p0_0 x0_B)
    (H : hocketref4_GetEntry.f K x0_B x0_Bad = some r) :
    Calls Try.prog 38 [.pointer (some ⟨g0, 0, none⟩)].toArray w (Ret fun v w' => ∃ (u0 : Value) (u1 : Value) (u2 : Value) (u3 : Value) (N : Mem) (M0 : Mem) (M1 : Mem) (M2 : Mem), v = .agg [iV r.1.Sess, iV r.1.Seq, iV r.1.Cmd.Kind, iV r.1.Cmd.Who, u0, u1, u2].toArray ∧ Sep w0 w' [N, Mem.one g0 (.cells ([u3, .bool r.2.2] : List Value).toArray 56 (0, 0)), M0, M1, M2] Z ∧ Own Kd.u8 5 M0 Mem.no u0 r.1.Cmd.Key ∧ Own Kd.u8 5 M1 Mem.no u1 r.1.Cmd.Val ∧ Own Kd.u8 5 M2 Mem.no u2 r.1.Cmd.Old ∧ Rd Kd.u8 (A.un N) u3 r.2.1) := by
 unfold hocketref4_GetEntry.f at H
 refine f_enter _ Try.func38 rfl Try.ntmps38 rfl fun a h=>?_
 replace h : Fr 35 a [(0, .pointer (some ⟨g0, 0, none⟩))] := h
 replace hS := hS.start
 replace hS : Sep w0 w [_, _] Z := hS
 refine wp_seq <| wp_region_lit <| v_alloc h rfl ti27 hS fun w_1 g_2 hS' a h => ?_
 replace hS : Sep w0 w_1 [_, _, Mem.one g_2 (.cells ([iV 0, iV 0, iV 0, iV 0, nS, nS, nS] : List Value).toArray 27 (0, 0))] Z := hS'
 clear hS'
 refine wpList_nil <| x_then_n <| wp_seq <| wp_region_lit <| s_move h rfl rfl fun a h=>?_
 obtain ⟨t_3, et_3, H⟩ := Option.bind_eq_some_iff.1 H
 refine s_call h rfl Try.call35 rfl (hocketref1_Reader_Num.calls K _ x0_B _ x0_Bad 1073741824 t_3 w0 _ _ A (hA.trans (hS.le_zed [0])) (hS.enter [0] (by decide)) hp0_0 et_3) ?_
 rintro _ w_4 ⟨v_7, N_5, rfl, hS', hr_8⟩
 intro a h
 obtain ⟨N_6, hS'', le_6, ln_6⟩ := hS.call [0] (by decide) rfl (l' := [Mem.one g0 (.cells ([v_7, .bool t_3.2.2] : List Value).toArray 56 (0, 0))]) (ow := []) rfl hS'
 replace hS : Sep w0 w_4 [N_6, Mem.one g0 (.cells ([v_7, .bool t_3.2.2] : List Value).toArray 56 (0, 0)), _] Z := hS''
 clear hS' hS''
 have hr_9 : Rd Kd.u8 (A.un N_6) v_7 t_3.2.1 := hr_8.mono (Mem.un_left ln_6)
 refine s_move h rfl rfl fun a h=>?_
 obtain ⟨t_10, et_10, H⟩ := Option.bind_eq_some_iff.1 H
 refine s_call h rfl Try.call35 rfl (hocketref1_Reader_Num.calls K _ t_3.2.1 _ t_3.2.2 1073741824 t_10 w0 _ _ (A.un N_6) (Mem.un_le (hA.trans (hS.le_zed [0])) (hS.new_zed [0])) (hS.enter [0] (by decide)) hr_9 et_10) ?_
 rintro _ w_11 ⟨v_14, N_12, rfl, hS', hr_15⟩
 intro a h
 obtain ⟨N_13, hS'', le_13, ln_13⟩ := hS.call [0] (by decide) rfl (l' := [Mem.one g0 (.cells ([v_14, .bool t_10.2.2] : List Value).toArray 56 (0, 0))]) (ow := []) rfl hS'
 replace hS : Sep w0 w_11 [N_13, Mem.one g0 (.cells ([v_14, .bool t_10.2.2] : List Value).toArray 56 (0, 0)), _] Z := hS''
 clear hS' hS''
 have hr_16 : Rd Kd.u8 (A.un N_13) v_14 t_10.2.1 := hr_15.mono (Mem.un_le (Mem.un_left le_13) (ln_13.trans (hS.sndA hA)))
 refine s_build h rfl ti27 pl27 rfl (.cons rfl (.cons rfl .nil)) (cs := [iV t_3.1, iV t_10.1, iV 0, iV 0, nS, nS, nS]) (by kernel_rfl) fun a h=>v_alloc h rfl ti27 hS fun w_17 g_18 hS' a h => ?_
 replace hS : Sep w0 w_17 [_, _, _, Mem.one g_18 (.cells ([iV 0, iV 0, iV 0, iV 0, nS, nS, nS] : List Value).toArray 27 (0, 0))] Z := hS'
 clear hS'
 obtain ⟨w_19, hs', hS'⟩ := hS.store (P := Try.prog) (p := 3) (o := 0) (t := 27) (v := .agg ([iV t_3.1, iV t_10.1, iV 0, iV 0, nS, nS, nS] : List Value).toArray) (vs := [iV t_3.1, iV t_10.1, iV 0, iV 0, nS, nS, nS]) rfl ti27 rfl rfl rfl (by intro u hu; simp only [List.mem_cons, List.not_mem_nil, or_false] at hu; rcases hu with rfl | rfl | rfl | rfl | rfl | rfl | rfl <;> rfl)
 refine s_store h rfl rfl hs' ?_
 replace hS : Sep w0 w_19 [_, _, _, Mem.one g_18 (.cells ([iV t_3.1, iV t_10.1, _, _, _, _, _] : List Value).toArray 27 (0, 0))] Z := hS'
 clear hs' hS'
 refine wpList_nil <| x_then_n <| wp_seq <| wp_region_lit <| s_move h rfl rfl fun a h=>?_
 obtain ⟨t_20, et_20, H⟩ := Option.bind_eq_some_iff.1 H
 refine s_call h rfl Try.call35 rfl (hocketref1_Reader_Num.calls K _ t_10.2.1 _ t_10.2.2 1073741824 t_20 w0 _ _ (A.un N_13) (Mem.un_le (hA.trans (hS.le_zed [0])) (hS.new_zed [0])) (hS.enter [0] (by decide)) hr_16 et_20) ?_
 rintro _ w_21 ⟨v_24, N_22, rfl, hS', hr_25⟩
 intro a h
 obtain ⟨N_23, hS'', le_23, ln_23⟩ := hS.call [0] (by decide) rfl (l' := [Mem.one g0 (.cells ([v_24, .bool t_20.2.2] : List Value).toArray 56 (0, 0))]) (ow := []) rfl hS'
 replace hS : Sep w0 w_21 [N_23, Mem.one g0 (.cells ([v_24, .bool t_20.2.2] : List Value).toArray 56 (0, 0)), _, _] Z := hS''
 clear hS' hS''
 have hr_26 : Rd Kd.u8 (A.un N_23) v_24 t_20.2.1 := hr_25.mono (Mem.un_le (Mem.un_left le_23) (ln_23.trans (hS.sndA hA)))
 refine s_move h rfl rfl fun a h=>?_
 obtain ⟨t_27, et_27, H⟩ := Option.bind_eq_some_iff.1 H
 refine s_call h rfl Try.call35 rfl (hocketref1_Reader_Num.calls K _ t_20.2.1 _ t_20.2.2 1073741824 t_27 w0 _ _ (A.un N_23) (Mem.un_le (hA.trans (hS.le_zed [0])) (hS.new_zed [0])) (hS.enter [0] (by decide)) hr_26 et_27) ?_
 rintro _ w_28 ⟨v_31, N_29, rfl, hS', hr_32⟩
 intro a h
 obtain ⟨N_30, hS'', le_30, ln_30⟩ := hS.call [0] (by decide) rfl (l' := [Mem.one g0 (.cells ([v_31, .bool t_27.2.2] : List Value).toArray 56 (0, 0))]) (ow := []) rfl hS'
 replace hS : Sep w0 w_28 [N_30, Mem.one g0 (.cells ([v_31, .bool t_27.2.2] : List Value).toArray 56 (0, 0)), _, _] Z := hS''
 clear hS' hS''
 have hr_33 : Rd Kd.u8 (A.un N_30) v_31 t_27.2.1 := hr_32.mono (Mem.un_le (Mem.un_left le_30) (ln_30.trans (hS.sndA hA)))
 refine s_fieldAddr h rfl U27 rfl ti25 rfl rfl fun a h=>s_fieldAddr h rfl U25 rfl ti3 rfl rfl fun a h=>?_
 obtain ⟨w_34, hs', hS'⟩ := hS.store (P := Try.prog) (p := 3) (o := 2) (t := 3) (v := iV t_20.1) (vs := [iV t_20.1]) rfl ti3 rfl rfl rfl (by intro u hu; simp only [List.mem_cons, List.not_mem_nil, or_false] at hu; rcases hu with rfl <;> rfl)
 refine s_store h rfl rfl hs' ?_
 replace hS : Sep w0 w_34 [_, _, _, Mem.one g_18 (.cells ([_, _, iV t_20.1, _, _, _, _] : List Value).toArray 27 (0, 0))] Z := hS'
 clear hs' hS'
 refine s_fieldAddr h rfl U27 rfl ti25 rfl rfl fun a h=>s_fieldAddr h rfl U25 rfl ti3 rfl rfl fun a h=>?_
 obtain ⟨w_35, hs', hS'⟩ := hS.store (P := Try.prog) (p := 3) (o := 3) (t := 3) (v := iV t_27.1) (vs := [iV t_27.1]) rfl ti3 rfl rfl rfl (by intro u hu; simp only [List.mem_cons, List.not_mem_nil, or_false] at hu; rcases hu with rfl <;> rfl)
 refine s_store h rfl rfl hs' ?_
 replace hS : Sep w0 w_35 [_, _, _, Mem.one g_18 (.cells ([_, _, _, iV t_27.1, _, _, _] : List Value).toArray 27 (0, 0))] Z := hS'
 clear hs' hS'
 refine wpList_nil <| x_then_n <| wp_seq <| wp_region_lit <| s_move h rfl rfl fun a h=>?_
 obtain ⟨t_36, et_36, H⟩ := Option.bind_eq_some_iff.1 H
 refine s_call h rfl Try.call36 rfl (hocketref1_Reader_Bytes.calls K _ t_27.2.1 _ t_27.2.2 32 t_36 w0 _ _ (A.un N_30) (Mem.un_le (hA.trans (hS.le_zed [0])) (hS.new_zed [0])) (hS.enter [0] (by decide)) hr_33 et_36) ?_
 rintro v_40 w_37 ⟨_, v_44, N_38, M_42, rfl, hS', hr_41, hr_45⟩
 intro a h
 obtain ⟨N_39, hS'', le_39, ln_39⟩ := hS.call [0] (by decide) rfl (l' := [Mem.one g0 (.cells ([v_44, .bool t_36.2.2] : List Value).toArray 56 (0, 0))]) (ow := [M_42]) rfl hS'
 replace hS : Sep w0 w_37 [N_39, Mem.one g0 (.cells ([v_44, .bool t_36.2.2] : List Value).toArray 56 (0, 0)), _, _, M_42] Z := hS''
 clear hS' hS''
 have hr_46 : Rd Kd.u8 (A.un N_39) v_44 t_36.2.1 := hr_45.mono (Mem.un_le (Mem.un_left le_39) (ln_39.trans (hS.sndA hA)))
 refine s_move h rfl rfl fun a h=>?_
 obtain ⟨t_47, et_47, H⟩ := Option.bind_eq_some_iff.1 H
 refine s_call h rfl Try.call36 rfl (hocketref1_Reader_Bytes.calls K _ t_36.2.1 _ t_36.2.2 32 t_47 w0 _ _ (A.un N_39) (Mem.un_le (hA.trans (hS.le_zed [0])) (hS.new_zed [0])) (hS.enter [0] (by decide)) hr_46 et_47) ?_
 rintro v_51 w_48 ⟨_, v_55, N_49, M_53, rfl, hS', hr_52, hr_56⟩
 intro a h
 obtain ⟨N_50, hS'', le_50, ln_50⟩ := hS.call [0] (by decide) rfl (l' := [Mem.one g0 (.cells ([v_55, .bool t_47.2.2] : List Value).toArray 56 (0, 0))]) (ow := [M_53]) rfl hS'
 replace hS : Sep w0 w_48 [N_50, Mem.one g0 (.cells ([v_55, .bool t_47.2.2] : List Value).toArray 56 (0, 0)), _, _, _, M_53] Z := hS''
 clear hS' hS''
 have hr_57 : Rd Kd.u8 (A.un N_50) v_55 t_47.2.1 := hr_56.mono (Mem.un_le (Mem.un_left le_50) (ln_50.trans (hS.sndA hA)))
 refine s_move h rfl rfl fun a h=>?_
 obtain ⟨t_58, et_58, H⟩ := Option.bind_eq_some_iff.1 H
 refine s_call h rfl Try.call36 rfl (hocketref1_Reader_Bytes.calls K _ t_47.2.1 _ t_47.2.2 32 t_58 w0 _ _ (A.un N_50) (Mem.un_le (hA.trans (hS.le_zed [0])) (hS.new_zed [0])) (hS.enter [0] (by decide)) hr_57 et_58) ?_
 rintro v_62 w_59 ⟨_, v_66, N_60, M_64, rfl, hS', hr_63, hr_67⟩
 intro a h
 obtain ⟨N_61, hS'', le_61, ln_61⟩ := hS.call [0] (by decide) rfl (l' := [Mem.one g0 (.cells ([v_66, .bool t_58.2.2] : List Value).toArray 56 (0, 0))]) (ow := [M_64]) rfl hS'
 replace hS : Sep w0 w_59 [N_61, Mem.one g0 (.cells ([v_66, .bool t_58.2.2] : List Value).toArray 56 (0, 0)), _, _, _, _, M_64] Z := hS''
 clear hS' hS''
 have hr_68 : Rd Kd.u8 (A.un N_61) v_66 t_58.2.1 := hr_67.mono (Mem.un_le (Mem.un_left le_61) (ln_61.trans (hS.sndA hA)))
 refine s_fieldAddr h rfl U27 rfl ti25 rfl rfl fun a h=>s_fieldAddr h rfl U25 rfl ti23 rfl rfl fun a h=>?_
 obtain ⟨w_69, hs', hS'⟩ := hS.store (P := Try.prog) (p := 3) (o := 4) (t := 23) (v := v_40) (vs := [v_40]) rfl ti23 hr_41.cellsA rfl rfl (by intro u hu; simp only [List.mem_cons, List.not_mem_nil, or_false] at hu; rcases hu with rfl <;> first | rfl | exact hr_41.one)
 refine s_store h rfl rfl hs' ?_
 replace hS : Sep w0 w_69 [_, _, _, Mem.one g_18 (.cells ([_, _, _, _, v_40, _, _] : List Value).toArray 27 (0, 0)), _, _, _] Z := hS'
 clear hs' hS'
 refine s_fieldAddr h rfl U27 rfl ti25 rfl rfl fun a h=>s_fieldAddr h rfl U25 rfl ti23 rfl rfl fun a h=>?_
 obtain ⟨w_70, hs', hS'⟩ := hS.store (P := Try.prog) (p := 3) (o := 5) (t := 23) (v := v_51) (vs := [v_51]) rfl ti23 hr_52.cellsA rfl rfl (by intro u hu; simp only [List.mem_cons, List.not_mem_nil, or_false] at hu; rcases hu with rfl <;> first | rfl | exact hr_52.one)
 refine s_store h rfl rfl hs' ?_
 replace hS : Sep w0 w_70 [_, _, _, Mem.one g_18 (.cells ([_, _, _, _, _, v_51, _] : List Value).toArray 27 (0, 0)), _, _, _] Z := hS'
 clear hs' hS'
 refine s_fieldAddr h rfl U27 rfl ti25 rfl rfl fun a h=>s_fieldAddr h rfl U25 rfl ti23 rfl rfl fun a h=>?_
 obtain ⟨w_71, hs', hS'⟩ := hS.store (P := Try.prog) (p := 3) (o := 6) (t := 23) (v := v_62) (vs := [v_62]) rfl ti23 hr_63.cellsA rfl rfl (by intro u hu; simp only [List.mem_cons, List.not_mem_nil, or_false] at hu; rcases hu with rfl <;> first | rfl | exact hr_63.one)
 refine s_store h rfl rfl hs' ?_
 replace hS : Sep w0 w_71 [_, _, _, Mem.one g_18 (.cells ([_, _, _, _, _, _, v_62] : List Value).toArray 27 (0, 0)), _, _, _] Z := hS'
 clear hs' hS'
 refine wpList_nil ?_
 replace h : Fr 35 a [(0, _), (2, .pointer (some ⟨g_2, 0, none⟩)), (3, .pointer (some ⟨g_18, 0, none⟩))] := h.keep [0, 2, 3]
 refine x_then_n <| c_seq fun KJ_72 hKJ_72 => wp_seq <| wp_region_lit <| s_move h rfl rfl fun a h=>s_nilCheck h rfl rfl fun a h=>s_fieldAddr h rfl U56 rfl ti4 rfl rfl fun a h=>s_load h rfl rfl (hS.load_one (p := 1) rfl U4 rfl rfl) fun a h=>wpList_nil <| x_then_n ?_
 by_cases hc_73 : t_58.2.2 = true
 ·rw [if_pos hc_73] at H
  refine c_cond_t h rfl hc_73 <| wp_seq <| wp_region_lit <| s_build h rfl ti27 pl27 rfl .nil (cs := [iV 0, iV 0, iV 0, iV 0, nS, nS, nS]) (by kernel_rfl) fun a h=>?_
  obtain ⟨w_74, hs', hS'⟩ := hS.store (P := Try.prog) (p := 2) (o := 0) (t := 27) (v := .agg ([iV 0, iV 0, iV 0, iV 0, nS, nS, nS] : List Value).toArray) (vs := [iV 0, iV 0, iV 0, iV 0, nS, nS, nS]) rfl ti27 rfl rfl rfl (by intro u hu; simp only [List.mem_cons, List.not_mem_nil, or_false] at hu; rcases hu with rfl | rfl | rfl | rfl | rfl | rfl | rfl <;> rfl)
  refine s_store h rfl rfl hs' ?_
  replace hS : Sep w0 w_74 [_, _, _, _, _, _, _] Z := hS'
  clear hs' hS'
  refine wpList_nil <| x_then_n <| wp_ret (x_then_r ?_)
  have hS' := hS.room
  replace hS : Sep w0 w_74 [_, _, _, _, _, _, _, Mem.no] Z := hS'
  clear hS'
  replace hS : Sep w0 w_74 [_, _, _, _, _, _, _, _] Z := hS
  have hS' := hS.room
  replace hS : Sep w0 w_74 [_, _, _, _, _, _, _, _, Mem.no] Z := hS'
  clear hS'
  replace hS : Sep w0 w_74 [_, _, _, _, _, _, _, _, _] Z := hS
  have hS' := hS.room
  replace hS : Sep w0 w_74 [_, _, _, _, _, _, _, _, _, Mem.no] Z := hS'
  clear hS'
  replace hS : Sep w0 w_74 [_, _, _, _, _, _, _, _, _, _] Z := hS
  obtain rfl := Option.some.inj H
  exact f_ret h (rs := [.cell 2 27]) rfl (.cell rfl (hS.load_agg (p := 2) (us := [iV 0, iV 0, iV 0, iV 0, nS, nS, nS]) rfl U27 rfl ti27 rfl rfl) .nil) ⟨_, rfl, nS, nS, nS, v_66, N_61, Mem.no, Mem.no, Mem.no, rfl, (Sep.sel hS [0, 1, 7, 8, 9] (by decide)), (Own.nil Kd.u8 5 Mem.no), (Own.nil Kd.u8 5 Mem.no), (Own.nil Kd.u8 5 Mem.no), hr_68⟩
 ·rw [if_neg hc_73] at H
  refine c_cond_f h rfl (Bool.eq_false_iff.2 hc_73) <| wp_skip <| x_then_n (hKJ_72 _ _ ?_)
  refine wp_seq <| wp_region_lit <| s_load h rfl rfl (hS.load_agg (p := 3) (us := [iV t_3.1, iV t_10.1, iV t_20.1, iV t_27.1, v_40, v_51, v_62]) rfl U27 rfl ti27 rfl rfl) fun a h=>?_
  obtain ⟨w_78, hs', hS'⟩ := hS.store (P := Try.prog) (p := 2) (o := 0) (t := 27) (v := .agg ([iV t_3.1, iV t_10.1, iV t_20.1, iV t_27.1, v_40, v_51, v_62] : List Value).toArray) (vs := [iV t_3.1, iV t_10.1, iV t_20.1, iV t_27.1, v_40, v_51, v_62]) rfl ti27 rfl rfl rfl (by intro u hu; simp only [List.mem_cons, List.not_mem_nil, or_false] at hu; rcases hu with rfl | rfl | rfl | rfl | rfl | rfl | rfl <;> first | rfl | exact hr_41.one | exact hr_52.one | exact hr_63.one)
  refine s_store h rfl rfl hs' ?_
  replace hS : Sep w0 w_78 [_, _, Mem.one g_2 (.cells ([iV t_3.1, iV t_10.1, iV t_20.1, iV t_27.1, v_40, v_51, v_62] : List Value).toArray 27 (0, 0)), _, _, _, _] Z := hS'
  clear hs' hS'
  refine wpList_nil <| x_then_n <| wp_ret ?_
  obtain rfl := Option.some.inj H
  exact f_ret h (rs := [.cell 2 27]) rfl (.cell rfl (hS.load_agg (p := 2) (us := [iV t_3.1, iV t_10.1, iV t_20.1, iV t_27.1, v_40, v_51, v_62]) rfl U27 rfl ti27 rfl rfl) .nil) ⟨_, rfl, v_40, v_51, v_62, v_66, N_61, M_42, M_53, M_64, rfl, (Sep.sel hS [0, 1, 4, 5, 6] (by decide)), hr_41, hr_52, hr_63, hr_68⟩

set_option maxHeartbeats 4000000 in
set_option maxRecDepth 20000 in
theorem hocketref1_Reader_End.calls (g0 : Nat) (x0_B : List UInt8) (p0_0 : Value) (x0_Bad : Bool) (r : Bool) (w0 w : World) (Z A : Mem) (hA : A.le Z) (hS : Sep w0 w [Mem.one g0 (.cells ([p0_0, .bool x0_Bad] : List Value).toArray 56 (0, 0))] Z) (hp0_0 : Rd Kd.u8 A p0_0 x0_B)
    (H : hocketref1_Reader_End.f x0_B x0_Bad = some r) :
    Calls Try.prog 39 [.pointer (some ⟨g0, 0, none⟩)].toArray w (Ret fun v w' => ∃ (N : Mem), v = .bool r ∧ Sep w0 w' [N, Mem.one g0 (.cells ([p0_0, .bool x0_Bad] : List Value).toArray 56 (0, 0))] Z) := by
 unfold hocketref1_Reader_End.f at H
 refine f_enter _ Try.func39 rfl Try.ntmps39 rfl fun a h=>?_
 replace h : Fr 16 a [(0, .pointer (some ⟨g0, 0, none⟩))] := h
 replace hS := hS.start
 replace hS : Sep w0 w [_, _] Z := hS
 refine wp_seq <| wp_region_lit <| s_assign h rfl rfl fun a h=>wpList_nil <| x_then_n <| c_seq fun KJ_1 hKJ_1 => wp_region_lit <| s_move h rfl rfl fun a h=>s_nilCheck h rfl rfl fun a h=>s_fieldAddr h rfl U56 rfl ti4 rfl rfl fun a h=>s_load h rfl rfl (hS.load_one (p := 1) rfl U4 rfl rfl) fun a h=>s_not h rfl rfl fun a h=>?_
 refine s_move h rfl rfl fun a h=>?_
 by_cases hc_2 : x0_Bad = true
 ·rw [if_pos hc_2] at H
  refine s_off h rfl rfl rfl (nf hc_2) fun a h=>s_off h rfl rfl rfl (nf hc_2) fun a h=>s_off h rfl rfl rfl (nf hc_2) fun a h=>s_off h rfl rfl rfl (nf hc_2) fun a h=>s_off h rfl rfl rfl (nf hc_2) fun a h=>s_off h rfl rfl rfl (nf hc_2) fun a h=>s_pick_f h rfl rfl (nf hc_2) rfl fun a h=>s_assign h rfl rfl fun a h=>wpList_nil <| x_then_n (hKJ_1 _ _ ?_)
  refine wp_ret ?_
  obtain rfl := Option.some.inj H
  exact f_ret h (rs := [.tmp 2]) rfl (.tmp rfl .nil) ⟨_, rfl, Mem.no, rfl, (Sep.sel hS [0, 1] (by decide))⟩
 ·rw [if_neg hc_2] at H
  refine s_on h rfl rfl (nt (Bool.eq_false_iff.2 hc_2)) <| s_move h rfl rfl fun a h=>s_on h rfl rfl (nt (Bool.eq_false_iff.2 hc_2)) <| s_nilCheck h rfl rfl fun a h=>s_on h rfl rfl (nt (Bool.eq_false_iff.2 hc_2)) <| s_fieldAddr h rfl U56 rfl ti23 rfl rfl fun a h=>s_on h rfl rfl (nt (Bool.eq_false_iff.2 hc_2)) <| s_load h rfl rfl (hS.load_one (p := 1) rfl U23 rfl rfl) fun a h=>s_on h rfl rfl (nt (Bool.eq_false_iff.2 hc_2)) <| s_len h rfl U23 rfl hp0_0 fun a h=>s_on h rfl rfl (nt (Bool.eq_false_iff.2 hc_2)) <| s_cmp (b := ((x0_B.length : Int) == 0)) h rfl rfl rfl (.inl ⟨rfl, rfl⟩) fun a h=>?_
  refine s_pick_t h rfl rfl (nt (Bool.eq_false_iff.2 hc_2)) rfl fun a h=>s_assign h rfl rfl fun a h=>wpList_nil <| x_then_n (hKJ_1 _ _ ?_)
  refine wp_ret ?_
  obtain rfl := Option.some.inj H
  exact f_ret h (rs := [.tmp 2]) rfl (.tmp rfl .nil) ⟨_, rfl, Mem.no, rfl, (Sep.sel hS [0, 1] (by decide))⟩


end Go.Proofs
