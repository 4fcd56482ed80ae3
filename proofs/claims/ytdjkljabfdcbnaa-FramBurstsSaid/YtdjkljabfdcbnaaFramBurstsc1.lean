/- What the calls do: each function once. -/
import Derived.Test.YtdjkljabfdcbnaaFramBurstsc0
namespace Go.Proofs
open Go.Gp
set_option linter.unusedVariables false
set_option maxHeartbeats 4000000 in
set_option maxRecDepth 20000 in
theorem mach_SameEntry.calls (x0 : api_Entry) (p0_0 : Value) (p0_1 : Value) (p0_2 : Value) (x1 : api_Entry) (p1_3 : Value) (p1_4 : Value) (p1_5 : Value) (r : Bool) (w0 w : World) (Z A : Mem) (hA : A.le Z) (hS : Sep w0 w [] Z) (hp0_0 : Rd Kd.u8 A p0_0 x0.Cmd.Key) (hp0_1 : Rd Kd.u8 A p0_1 x0.Cmd.Val) (hp0_2 : Rd Kd.u8 A p0_2 x0.Cmd.Old) (hp1_3 : Rd Kd.u8 A p1_3 x1.Cmd.Key) (hp1_4 : Rd Kd.u8 A p1_4 x1.Cmd.Val) (hp1_5 : Rd Kd.u8 A p1_5 x1.Cmd.Old)
    (H : mach_SameEntry.f x0 x1 = some r) :
    Calls Try.prog 70 [.agg ([.int .i64 x0.Sess, .int .i64 x0.Seq, .int .i64 x0.Cmd.Kind, .int .i64 x0.Cmd.Who, p0_0, p0_1, p0_2] : List Value).toArray, .agg ([.int .i64 x1.Sess, .int .i64 x1.Seq, .int .i64 x1.Cmd.Kind, .int .i64 x1.Cmd.Who, p1_3, p1_4, p1_5] : List Value).toArray].toArray w (Ret fun v w' => ∃ (N : Mem), v = .bool r ∧ Sep w0 w' [N] Z) := by
 unfold mach_SameEntry.f at H
 refine f_enter _ Try.func70 rfl Try.ntmps70 rfl fun a hm => ?_
 replace hm : Fr 58 a [(0, .agg ([.int .i64 x0.Sess, .int .i64 x0.Seq, .int .i64 x0.Cmd.Kind, .int .i64 x0.Cmd.Who, p0_0, p0_1, p0_2] : List Value).toArray), (1, .agg ([.int .i64 x1.Sess, .int .i64 x1.Seq, .int .i64 x1.Cmd.Kind, .int .i64 x1.Cmd.Who, p1_3, p1_4, p1_5] : List Value).toArray)] := hm
 replace hS := hS.start
 replace hS : Sep w0 w [_] Z := hS
 refine wp_seq <| wp_region_lit <| v_box (vs := [.int .i64 x0.Sess, .int .i64 x0.Seq, .int .i64 x0.Cmd.Kind, .int .i64 x0.Cmd.Who, p0_0, p0_1, p0_2]) hm rfl rfl rfl hS fun w_1 g_2 hS' a hm => ?_
 replace hS : Sep w0 w_1 [_, Mem.one g_2 (.cells ([.int .i64 x0.Sess, .int .i64 x0.Seq, .int .i64 x0.Cmd.Kind, .int .i64 x0.Cmd.Who, p0_0, p0_1, p0_2] : List Value).toArray 27 (0, 0))] Z := hS'
 clear hS'
 refine v_box (vs := [.int .i64 x1.Sess, .int .i64 x1.Seq, .int .i64 x1.Cmd.Kind, .int .i64 x1.Cmd.Who, p1_3, p1_4, p1_5]) hm rfl rfl rfl hS fun w_3 g_4 hS' a hm => ?_
 replace hS : Sep w0 w_3 [_, _, Mem.one g_4 (.cells ([.int .i64 x1.Sess, .int .i64 x1.Seq, .int .i64 x1.Cmd.Kind, .int .i64 x1.Cmd.Who, p1_3, p1_4, p1_5] : List Value).toArray 27 (0, 0))] Z := hS'
 clear hS'
 refine s_assign hm rfl rfl fun a hm => wpList_nil ?_
 replace hm : Fr 58 a [(2, .pointer (some ⟨g_2, 0, none⟩)), (3, .pointer (some ⟨g_4, 0, none⟩)), (4, .bool false)] := hm.keep [2, 3, 4]
 refine x_then_n <| c_seq fun KJ_5 hKJ_5 => ?_
 have hJ_j_10 : mach_SameEntry.J1 x0 x1 = some r → ∀ (a : Act) (w_9 : World), (∃ (g_7 : Nat) (g_8 : Nat) (N_6 : Mem), Fr 58 a [(2, .pointer (some ⟨g_2, 0, none⟩)), (3, .pointer (some ⟨g_4, 0, none⟩)), (4, .bool false), (5, .pointer (some ⟨g_7, 0, none⟩)), (6, .pointer (some ⟨g_8, 0, none⟩))] ∧ Sep w0 w_9 [N_6, Mem.one g_2 (.cells ([.int .i64 x0.Sess, .int .i64 x0.Seq, .int .i64 x0.Cmd.Kind, .int .i64 x0.Cmd.Who, p0_0, p0_1, p0_2] : List Value).toArray 27 (0, 0)), Mem.one g_4 (.cells ([.int .i64 x1.Sess, .int .i64 x1.Seq, .int .i64 x1.Cmd.Kind, .int .i64 x1.Cmd.Who, p1_3, p1_4, p1_5] : List Value).toArray 27 (0, 0)), Mem.one g_7 (.cells ([.int .i64 x0.Cmd.Kind, .int .i64 x0.Cmd.Who, p0_0, p0_1, p0_2] : List Value).toArray 25 (0, 0)), Mem.one g_8 (.cells ([.int .i64 x1.Cmd.Kind, .int .i64 x1.Cmd.Who, p1_3, p1_4, p1_5] : List Value).toArray 25 (0, 0))] Z ∧ Mem.no.le N_6) → KJ_5 a w_9 := by
  clear H hm hS a
  rintro H a w_9 ⟨g_7, g_8, N_6, hm, hS, le_6⟩
  unfold mach_SameEntry.J1 at H
  refine hKJ_5 _ _ <| c_seq fun KJ_11 hKJ_11 => wp_region_lit <| s_fieldAddr hm rfl Try.underlying27 rfl ti3 rfl rfl fun a hm => s_load hm rfl rfl (hS.load_one (p := 1) rfl Try.underlying3 rfl rfl) fun a hm => s_fieldAddr hm rfl Try.underlying27 rfl ti3 rfl rfl fun a hm => s_load hm rfl rfl (hS.load_one (p := 2) rfl Try.underlying3 rfl rfl) fun a hm => s_cmp (b := (x0.Sess == x1.Sess)) hm rfl rfl rfl (.inl ⟨rfl, rfl⟩) fun a hm => s_move hm rfl rfl fun a hm => ?_
  by_cases hc_12 : x0.Sess = x1.Sess
  ·rw [if_pos hc_12] at H
   refine s_on hm rfl rfl (beq_iff_eq.2 hc_12) <| s_fieldAddr hm rfl Try.underlying27 rfl ti3 rfl rfl fun a hm => s_on hm rfl rfl (beq_iff_eq.2 hc_12) <| s_load hm rfl rfl (hS.load_one (p := 1) rfl Try.underlying3 rfl rfl) fun a hm => s_on hm rfl rfl (beq_iff_eq.2 hc_12) <| s_fieldAddr hm rfl Try.underlying27 rfl ti3 rfl rfl fun a hm => s_on hm rfl rfl (beq_iff_eq.2 hc_12) <| s_load hm rfl rfl (hS.load_one (p := 2) rfl Try.underlying3 rfl rfl) fun a hm => s_on hm rfl rfl (beq_iff_eq.2 hc_12) <| s_cmp (b := (x0.Seq == x1.Seq)) hm rfl rfl rfl (.inl ⟨rfl, rfl⟩) fun a hm => s_pick_t hm rfl rfl (beq_iff_eq.2 hc_12) rfl fun a hm => s_move hm rfl rfl fun a hm => ?_
   by_cases hc_13 : x0.Seq = x1.Seq
   ·rw [if_pos hc_13] at H
    refine s_on hm rfl rfl (beq_iff_eq.2 hc_13) <| s_fieldAddr hm rfl Try.underlying25 rfl ti3 rfl rfl fun a hm => s_on hm rfl rfl (beq_iff_eq.2 hc_13) <| s_load hm rfl rfl (hS.load_one (p := 3) rfl Try.underlying3 rfl rfl) fun a hm => s_on hm rfl rfl (beq_iff_eq.2 hc_13) <| s_fieldAddr hm rfl Try.underlying25 rfl ti3 rfl rfl fun a hm => s_on hm rfl rfl (beq_iff_eq.2 hc_13) <| s_load hm rfl rfl (hS.load_one (p := 4) rfl Try.underlying3 rfl rfl) fun a hm => s_on hm rfl rfl (beq_iff_eq.2 hc_13) <| s_cmp (b := (x0.Cmd.Kind == x1.Cmd.Kind)) hm rfl rfl rfl (.inl ⟨rfl, rfl⟩) fun a hm => s_pick_t hm rfl rfl (beq_iff_eq.2 hc_13) rfl fun a hm => s_move hm rfl rfl fun a hm => ?_
    by_cases hc_14 : x0.Cmd.Kind = x1.Cmd.Kind
    ·rw [if_pos hc_14] at H
     refine s_on hm rfl rfl (beq_iff_eq.2 hc_14) <| s_fieldAddr hm rfl Try.underlying25 rfl ti3 rfl rfl fun a hm => s_on hm rfl rfl (beq_iff_eq.2 hc_14) <| s_load hm rfl rfl (hS.load_one (p := 3) rfl Try.underlying3 rfl rfl) fun a hm => s_on hm rfl rfl (beq_iff_eq.2 hc_14) <| s_fieldAddr hm rfl Try.underlying25 rfl ti3 rfl rfl fun a hm => s_on hm rfl rfl (beq_iff_eq.2 hc_14) <| s_load hm rfl rfl (hS.load_one (p := 4) rfl Try.underlying3 rfl rfl) fun a hm => s_on hm rfl rfl (beq_iff_eq.2 hc_14) <| s_cmp (b := (x0.Cmd.Who == x1.Cmd.Who)) hm rfl rfl rfl (.inl ⟨rfl, rfl⟩) fun a hm => s_pick_t hm rfl rfl (beq_iff_eq.2 hc_14) rfl fun a hm => s_move hm rfl rfl fun a hm => ?_
     by_cases hc_15 : x0.Cmd.Who = x1.Cmd.Who
     ·rw [if_pos hc_15] at H
      refine s_on hm rfl rfl (beq_iff_eq.2 hc_15) <| s_fieldAddr hm rfl Try.underlying25 rfl ti23 rfl rfl fun a hm => s_on hm rfl rfl (beq_iff_eq.2 hc_15) <| s_load hm rfl rfl (hS.load_one (p := 3) rfl Try.underlying23 rfl rfl) fun a hm => s_on hm rfl rfl (beq_iff_eq.2 hc_15) <| s_fieldAddr hm rfl Try.underlying25 rfl ti23 rfl rfl fun a hm => s_on hm rfl rfl (beq_iff_eq.2 hc_15) <| s_load hm rfl rfl (hS.load_one (p := 4) rfl Try.underlying23 rfl rfl) fun a hm => s_on hm rfl rfl (beq_iff_eq.2 hc_15) ?_
      obtain ⟨t_16, et_16, H⟩ := Option.bind_eq_some_iff.1 H
      refine s_call hm rfl Try.call68 rfl (bytes_Equal.calls x0.Cmd.Key _ x1.Cmd.Key _ t_16 w0 _ _ _ (Mem.le.refl _) (hS.enter [] (by decide)) (hp0_0.mono (hA.trans (hS.le_zed []))) (hp1_3.mono (hA.trans (hS.le_zed []))) et_16) ?_
      rintro _ w_17 ⟨N_18, rfl, hS'⟩
      intro a hm
      obtain ⟨N_19, hS'', le_19, ln_19⟩ := hS.call [] (by decide) rfl (l' := []) (ow := []) rfl hS'
      replace hS : Sep w0 w_17 [N_19, _, _, _, _] Z := hS''
      clear hS' hS''
      refine s_pick_t hm rfl rfl (beq_iff_eq.2 hc_15) rfl fun a hm => s_move hm rfl rfl fun a hm => ?_
      by_cases hc_20 : t_16 = true
      ·rw [if_pos hc_20] at H
       refine s_on hm rfl rfl hc_20 <| s_fieldAddr hm rfl Try.underlying25 rfl ti23 rfl rfl fun a hm => s_on hm rfl rfl hc_20 <| s_load hm rfl rfl (hS.load_one (p := 3) rfl Try.underlying23 rfl rfl) fun a hm => s_on hm rfl rfl hc_20 <| s_fieldAddr hm rfl Try.underlying25 rfl ti23 rfl rfl fun a hm => s_on hm rfl rfl hc_20 <| s_load hm rfl rfl (hS.load_one (p := 4) rfl Try.underlying23 rfl rfl) fun a hm => s_on hm rfl rfl hc_20 ?_
       obtain ⟨t_21, et_21, H⟩ := Option.bind_eq_some_iff.1 H
       refine s_call hm rfl Try.call68 rfl (bytes_Equal.calls x0.Cmd.Val _ x1.Cmd.Val _ t_21 w0 _ _ _ (Mem.le.refl _) (hS.enter [] (by decide)) (hp0_1.mono (hA.trans (hS.le_zed []))) (hp1_4.mono (hA.trans (hS.le_zed []))) et_21) ?_
       rintro _ w_22 ⟨N_23, rfl, hS'⟩
       intro a hm
       obtain ⟨N_24, hS'', le_24, ln_24⟩ := hS.call [] (by decide) rfl (l' := []) (ow := []) rfl hS'
       replace hS : Sep w0 w_22 [N_24, _, _, _, _] Z := hS''
       clear hS' hS''
       refine s_pick_t hm rfl rfl hc_20 rfl fun a hm => s_move hm rfl rfl fun a hm => ?_
       by_cases hc_25 : t_21 = true
       ·rw [if_pos hc_25] at H
        refine s_on hm rfl rfl hc_25 <| s_fieldAddr hm rfl Try.underlying25 rfl ti23 rfl rfl fun a hm => s_on hm rfl rfl hc_25 <| s_load hm rfl rfl (hS.load_one (p := 3) rfl Try.underlying23 rfl rfl) fun a hm => s_on hm rfl rfl hc_25 <| s_fieldAddr hm rfl Try.underlying25 rfl ti23 rfl rfl fun a hm => s_on hm rfl rfl hc_25 <| s_load hm rfl rfl (hS.load_one (p := 4) rfl Try.underlying23 rfl rfl) fun a hm => s_on hm rfl rfl hc_25 ?_
        obtain ⟨t_26, et_26, H⟩ := Option.bind_eq_some_iff.1 H
        refine s_call hm rfl Try.call68 rfl (bytes_Equal.calls x0.Cmd.Old _ x1.Cmd.Old _ t_26 w0 _ _ _ (Mem.le.refl _) (hS.enter [] (by decide)) (hp0_2.mono (hA.trans (hS.le_zed []))) (hp1_5.mono (hA.trans (hS.le_zed []))) et_26) ?_
        rintro _ w_27 ⟨N_28, rfl, hS'⟩
        intro a hm
        obtain ⟨N_29, hS'', le_29, ln_29⟩ := hS.call [] (by decide) rfl (l' := []) (ow := []) rfl hS'
        replace hS : Sep w0 w_27 [N_29, _, _, _, _] Z := hS''
        clear hS' hS''
        refine s_pick_t hm rfl rfl hc_25 rfl fun a hm => s_assign hm rfl rfl fun a hm => wpList_nil ?_
        replace hm : Fr 58 a [(4, .bool t_26)] := hm.keep [4]
        refine x_then_n (hKJ_11 _ _ ?_)
        refine wp_ret ?_
        obtain rfl := Option.some.inj H
        exact f_ret hm (rs := [.tmp 4]) rfl (.tmp rfl .nil) ⟨_, rfl, N_29, rfl, (Sep.sel hS [0] (by decide))⟩
       ·rw [if_neg hc_25] at H
        refine s_off hm rfl rfl rfl (Bool.eq_false_iff.2 hc_25) fun a hm => s_off hm rfl rfl rfl (Bool.eq_false_iff.2 hc_25) fun a hm => s_off hm rfl rfl rfl (Bool.eq_false_iff.2 hc_25) fun a hm => s_off hm rfl rfl rfl (Bool.eq_false_iff.2 hc_25) fun a hm => s_off hm rfl rfl rfl (Bool.eq_false_iff.2 hc_25) fun a hm => s_pick_f hm rfl rfl (Bool.eq_false_iff.2 hc_25) rfl fun a hm => s_assign hm rfl rfl fun a hm => wpList_nil ?_
        replace hm : Fr 58 a [(4, _)] := hm.keep [4]
        refine x_then_n (hKJ_11 _ _ ?_)
        refine wp_ret ?_
        obtain rfl := Option.some.inj H
        exact f_ret hm (rs := [.tmp 4]) rfl (.tmp rfl .nil) ⟨_, rfl, N_24, rfl, (Sep.sel hS [0] (by decide))⟩
      ·rw [if_neg hc_20] at H
       refine s_off hm rfl rfl rfl (Bool.eq_false_iff.2 hc_20) fun a hm => s_off hm rfl rfl rfl (Bool.eq_false_iff.2 hc_20) fun a hm => s_off hm rfl rfl rfl (Bool.eq_false_iff.2 hc_20) fun a hm => s_off hm rfl rfl rfl (Bool.eq_false_iff.2 hc_20) fun a hm => s_off hm rfl rfl rfl (Bool.eq_false_iff.2 hc_20) fun a hm => s_pick_f hm rfl rfl (Bool.eq_false_iff.2 hc_20) rfl fun a hm => s_move hm rfl rfl fun a hm => s_off hm rfl rfl rfl rfl fun a hm => s_off hm rfl rfl rfl rfl fun a hm => s_off hm rfl rfl rfl rfl fun a hm => s_off hm rfl rfl rfl rfl fun a hm => s_off hm rfl rfl rfl rfl fun a hm => ?_
       refine s_pick_f hm rfl rfl rfl rfl fun a hm => s_assign hm rfl rfl fun a hm => wpList_nil ?_
       replace hm : Fr 58 a [(4, _)] := hm.keep [4]
       refine x_then_n (hKJ_11 _ _ ?_)
       refine wp_ret ?_
       obtain rfl := Option.some.inj H
       exact f_ret hm (rs := [.tmp 4]) rfl (.tmp rfl .nil) ⟨_, rfl, N_19, rfl, (Sep.sel hS [0] (by decide))⟩
     ·rw [if_neg hc_15] at H
      refine s_off hm rfl rfl rfl (beq_eq_false_iff_ne.2 hc_15) fun a hm => s_off hm rfl rfl rfl (beq_eq_false_iff_ne.2 hc_15) fun a hm => s_off hm rfl rfl rfl (beq_eq_false_iff_ne.2 hc_15) fun a hm => s_off hm rfl rfl rfl (beq_eq_false_iff_ne.2 hc_15) fun a hm => s_off hm rfl rfl rfl (beq_eq_false_iff_ne.2 hc_15) fun a hm => s_pick_f hm rfl rfl (beq_eq_false_iff_ne.2 hc_15) rfl fun a hm => s_move hm rfl rfl fun a hm => s_off hm rfl rfl rfl rfl fun a hm => s_off hm rfl rfl rfl rfl fun a hm => s_off hm rfl rfl rfl rfl fun a hm => s_off hm rfl rfl rfl rfl fun a hm => s_off hm rfl rfl rfl rfl fun a hm => ?_
      refine s_pick_f hm rfl rfl rfl rfl fun a hm => s_move hm rfl rfl fun a hm => s_off hm rfl rfl rfl rfl fun a hm => s_off hm rfl rfl rfl rfl fun a hm => s_off hm rfl rfl rfl rfl fun a hm => s_off hm rfl rfl rfl rfl fun a hm => s_off hm rfl rfl rfl rfl fun a hm => s_pick_f hm rfl rfl rfl rfl fun a hm => s_assign hm rfl rfl fun a hm => wpList_nil ?_
      replace hm : Fr 58 a [(4, _)] := hm.keep [4]
      refine x_then_n (hKJ_11 _ _ ?_)
      refine wp_ret ?_
      obtain rfl := Option.some.inj H
      exact f_ret hm (rs := [.tmp 4]) rfl (.tmp rfl .nil) ⟨_, rfl, N_6, rfl, (Sep.sel hS [0] (by decide))⟩
    ·rw [if_neg hc_14] at H
     refine s_off hm rfl rfl rfl (beq_eq_false_iff_ne.2 hc_14) fun a hm => s_off hm rfl rfl rfl (beq_eq_false_iff_ne.2 hc_14) fun a hm => s_off hm rfl rfl rfl (beq_eq_false_iff_ne.2 hc_14) fun a hm => s_off hm rfl rfl rfl (beq_eq_false_iff_ne.2 hc_14) fun a hm => s_off hm rfl rfl rfl (beq_eq_false_iff_ne.2 hc_14) fun a hm => s_pick_f hm rfl rfl (beq_eq_false_iff_ne.2 hc_14) rfl fun a hm => s_move hm rfl rfl fun a hm => s_off hm rfl rfl rfl rfl fun a hm => s_off hm rfl rfl rfl rfl fun a hm => s_off hm rfl rfl rfl rfl fun a hm => s_off hm rfl rfl rfl rfl fun a hm => s_off hm rfl rfl rfl rfl fun a hm => ?_
     refine s_pick_f hm rfl rfl rfl rfl fun a hm => s_move hm rfl rfl fun a hm => s_off hm rfl rfl rfl rfl fun a hm => s_off hm rfl rfl rfl rfl fun a hm => s_off hm rfl rfl rfl rfl fun a hm => s_off hm rfl rfl rfl rfl fun a hm => s_off hm rfl rfl rfl rfl fun a hm => s_pick_f hm rfl rfl rfl rfl fun a hm => s_move hm rfl rfl fun a hm => s_off hm rfl rfl rfl rfl fun a hm => s_off hm rfl rfl rfl rfl fun a hm => s_off hm rfl rfl rfl rfl fun a hm => ?_
     refine s_off hm rfl rfl rfl rfl fun a hm => s_off hm rfl rfl rfl rfl fun a hm => s_pick_f hm rfl rfl rfl rfl fun a hm => s_assign hm rfl rfl fun a hm => wpList_nil ?_
     replace hm : Fr 58 a [(4, _)] := hm.keep [4]
     refine x_then_n (hKJ_11 _ _ ?_)
     refine wp_ret ?_
     obtain rfl := Option.some.inj H
     exact f_ret hm (rs := [.tmp 4]) rfl (.tmp rfl .nil) ⟨_, rfl, N_6, rfl, (Sep.sel hS [0] (by decide))⟩
   ·rw [if_neg hc_13] at H
    refine s_off hm rfl rfl rfl (beq_eq_false_iff_ne.2 hc_13) fun a hm => s_off hm rfl rfl rfl (beq_eq_false_iff_ne.2 hc_13) fun a hm => s_off hm rfl rfl rfl (beq_eq_false_iff_ne.2 hc_13) fun a hm => s_off hm rfl rfl rfl (beq_eq_false_iff_ne.2 hc_13) fun a hm => s_off hm rfl rfl rfl (beq_eq_false_iff_ne.2 hc_13) fun a hm => s_pick_f hm rfl rfl (beq_eq_false_iff_ne.2 hc_13) rfl fun a hm => s_move hm rfl rfl fun a hm => s_off hm rfl rfl rfl rfl fun a hm => s_off hm rfl rfl rfl rfl fun a hm => s_off hm rfl rfl rfl rfl fun a hm => s_off hm rfl rfl rfl rfl fun a hm => s_off hm rfl rfl rfl rfl fun a hm => ?_
    refine s_pick_f hm rfl rfl rfl rfl fun a hm => s_move hm rfl rfl fun a hm => s_off hm rfl rfl rfl rfl fun a hm => s_off hm rfl rfl rfl rfl fun a hm => s_off hm rfl rfl rfl rfl fun a hm => s_off hm rfl rfl rfl rfl fun a hm => s_off hm rfl rfl rfl rfl fun a hm => s_pick_f hm rfl rfl rfl rfl fun a hm => s_move hm rfl rfl fun a hm => s_off hm rfl rfl rfl rfl fun a hm => s_off hm rfl rfl rfl rfl fun a hm => s_off hm rfl rfl rfl rfl fun a hm => ?_
    refine s_off hm rfl rfl rfl rfl fun a hm => s_off hm rfl rfl rfl rfl fun a hm => s_pick_f hm rfl rfl rfl rfl fun a hm => s_move hm rfl rfl fun a hm => s_off hm rfl rfl rfl rfl fun a hm => s_off hm rfl rfl rfl rfl fun a hm => s_off hm rfl rfl rfl rfl fun a hm => s_off hm rfl rfl rfl rfl fun a hm => s_off hm rfl rfl rfl rfl fun a hm => s_pick_f hm rfl rfl rfl rfl fun a hm => s_assign hm rfl rfl fun a hm => wpList_nil ?_
    replace hm : Fr 58 a [(4, _)] := hm.keep [4]
    refine x_then_n (hKJ_11 _ _ ?_)
    refine wp_ret ?_
    obtain rfl := Option.some.inj H
    exact f_ret hm (rs := [.tmp 4]) rfl (.tmp rfl .nil) ⟨_, rfl, N_6, rfl, (Sep.sel hS [0] (by decide))⟩
  ·rw [if_neg hc_12] at H
   refine s_off hm rfl rfl rfl (beq_eq_false_iff_ne.2 hc_12) fun a hm => s_off hm rfl rfl rfl (beq_eq_false_iff_ne.2 hc_12) fun a hm => s_off hm rfl rfl rfl (beq_eq_false_iff_ne.2 hc_12) fun a hm => s_off hm rfl rfl rfl (beq_eq_false_iff_ne.2 hc_12) fun a hm => s_off hm rfl rfl rfl (beq_eq_false_iff_ne.2 hc_12) fun a hm => s_pick_f hm rfl rfl (beq_eq_false_iff_ne.2 hc_12) rfl fun a hm => s_move hm rfl rfl fun a hm => s_off hm rfl rfl rfl rfl fun a hm => s_off hm rfl rfl rfl rfl fun a hm => s_off hm rfl rfl rfl rfl fun a hm => s_off hm rfl rfl rfl rfl fun a hm => s_off hm rfl rfl rfl rfl fun a hm => ?_
   refine s_pick_f hm rfl rfl rfl rfl fun a hm => s_move hm rfl rfl fun a hm => s_off hm rfl rfl rfl rfl fun a hm => s_off hm rfl rfl rfl rfl fun a hm => s_off hm rfl rfl rfl rfl fun a hm => s_off hm rfl rfl rfl rfl fun a hm => s_off hm rfl rfl rfl rfl fun a hm => s_pick_f hm rfl rfl rfl rfl fun a hm => s_move hm rfl rfl fun a hm => s_off hm rfl rfl rfl rfl fun a hm => s_off hm rfl rfl rfl rfl fun a hm => s_off hm rfl rfl rfl rfl fun a hm => ?_
   refine s_off hm rfl rfl rfl rfl fun a hm => s_off hm rfl rfl rfl rfl fun a hm => s_pick_f hm rfl rfl rfl rfl fun a hm => s_move hm rfl rfl fun a hm => s_off hm rfl rfl rfl rfl fun a hm => s_off hm rfl rfl rfl rfl fun a hm => s_off hm rfl rfl rfl rfl fun a hm => s_off hm rfl rfl rfl rfl fun a hm => s_off hm rfl rfl rfl rfl fun a hm => s_pick_f hm rfl rfl rfl rfl fun a hm => s_move hm rfl rfl fun a hm => s_off hm rfl rfl rfl rfl fun a hm => ?_
   refine s_off hm rfl rfl rfl rfl fun a hm => s_off hm rfl rfl rfl rfl fun a hm => s_off hm rfl rfl rfl rfl fun a hm => s_off hm rfl rfl rfl rfl fun a hm => s_pick_f hm rfl rfl rfl rfl fun a hm => s_assign hm rfl rfl fun a hm => wpList_nil ?_
   replace hm : Fr 58 a [(4, _)] := hm.keep [4]
   refine x_then_n (hKJ_11 _ _ ?_)
   refine wp_ret ?_
   obtain rfl := Option.some.inj H
   exact f_ret hm (rs := [.tmp 4]) rfl (.tmp rfl .nil) ⟨_, rfl, N_6, rfl, (Sep.sel hS [0] (by decide))⟩
 clear hKJ_5
 refine h_begin (S := fun w => Sep w0 w [Mem.no, Mem.one g_2 (.cells ([.int .i64 x0.Sess, .int .i64 x0.Seq, .int .i64 x0.Cmd.Kind, .int .i64 x0.Cmd.Who, p0_0, p0_1, p0_2] : List Value).toArray 27 (0, 0)), Mem.one g_4 (.cells ([.int .i64 x1.Sess, .int .i64 x1.Seq, .int .i64 x1.Cmd.Kind, .int .i64 x1.Cmd.Who, p1_3, p1_4, p1_5] : List Value).toArray 27 (0, 0))] Z) 8 (by kernel_rfl) rfl [false, false, false, false, false, false, false, false].toArray rfl hS fun w_30 hS => ?_
 replace hS : Sep w0 w_30 [_, _, _] Z := hS
 refine t_take 0 [true, false, false, false, false, false, false, false].toArray rfl rfl rfl rfl rfl hm (hS.sub .ii) (v := .pointer (some ⟨g_2, 2, none⟩)) (fun w hS => r_fieldAddr hm Try.underlying27 rfl ti25 rfl rfl rfl) fun a hm => t_take 1 [true, true, false, false, false, false, false, false].toArray rfl rfl rfl rfl rfl hm (hS.sub .ii) (v := .agg ([.int .i64 x0.Cmd.Kind, .int .i64 x0.Cmd.Who, p0_0, p0_1, p0_2] : List Value).toArray) (fun w hS => r_load hm rfl (hS.load_agg (p := 1) (us := [.int .i64 x0.Cmd.Kind, .int .i64 x0.Cmd.Who, p0_0, p0_1, p0_2]) rfl Try.underlying25 rfl ti25 rfl rfl)) fun a hm => t_take 2 [true, true, true, false, false, false, false, false].toArray rfl rfl rfl rfl rfl hm (hS.sub .ii) (v := .pointer (some ⟨g_4, 2, none⟩)) (fun w hS => r_fieldAddr hm Try.underlying27 rfl ti25 rfl rfl rfl) fun a hm => t_take 3 [true, true, true, true, false, false, false, false].toArray rfl rfl rfl rfl rfl hm (hS.sub .ii) (v := .agg ([.int .i64 x1.Cmd.Kind, .int .i64 x1.Cmd.Who, p1_3, p1_4, p1_5] : List Value).toArray) (fun w hS => r_load hm rfl (hS.load_agg (p := 2) (us := [.int .i64 x1.Cmd.Kind, .int .i64 x1.Cmd.Who, p1_3, p1_4, p1_5]) rfl Try.underlying25 rfl ti25 rfl rfl)) fun a hm => ?_
 refine h_events [4, 5] (by kernel_rfl) (by simp) ?_
 intro i hi; simp only [List.mem_cons, List.not_mem_nil, or_false] at hi; rcases hi with rfl | rfl
 ·refine ⟨_, [true, true, true, true, true, false, false, false].toArray, rfl, rfl, ?_⟩
  refine v_alloc hm rfl ti25 hS fun w_31 g_32 hS' a hm => ?_
  replace hS : Sep w0 w_31 [_, _, _, Mem.one g_32 (.cells ([.int .i64 0, .int .i64 0, .slice none 0 0, .slice none 0 0, .slice none 0 0] : List Value).toArray 25 (0, 0))] Z := hS'
  clear hS'
  refine wpList_nil <| x_then_n ⟨(hS.sub (.cons (Mem.le.refl _) (.rr (.rr .nn)))), ?_⟩
  refine h_event 5 [true, true, true, true, true, true, false, false].toArray rfl (by kernel_rfl) rfl <| v_alloc hm rfl ti25 hS fun w_33 g_34 hS' a hm => ?_
  replace hS : Sep w0 w_33 [_, _, _, _, Mem.one g_34 (.cells ([.int .i64 0, .int .i64 0, .slice none 0 0, .slice none 0 0, .slice none 0 0] : List Value).toArray 25 (0, 0))] Z := hS'
  clear hS'
  refine wpList_nil <| x_then_n ⟨(hS.sub (.cons (Mem.le.refl _) (.rr (.rr .nn)))), ?_⟩
  refine h_event 6 [true, true, true, true, true, true, true, false].toArray rfl (by kernel_rfl) rfl ?_
  obtain ⟨w_35, hs', hS'⟩ := hS.store (P := Try.prog) (p := 3) (o := 0) (t := 25) (v := .agg ([.int .i64 x0.Cmd.Kind, .int .i64 x0.Cmd.Who, p0_0, p0_1, p0_2] : List Value).toArray) (vs := [.int .i64 x0.Cmd.Kind, .int .i64 x0.Cmd.Who, p0_0, p0_1, p0_2]) rfl ti25 rfl rfl rfl (by intro u hu; simp only [List.mem_cons, List.not_mem_nil, or_false] at hu; rcases hu with rfl | rfl | rfl | rfl | rfl <;> first | rfl | exact hp0_0.one | exact hp0_1.one | exact hp0_2.one)
  refine s_store hm rfl rfl hs' ?_
  replace hS : Sep w0 w_35 [_, _, _, Mem.one g_32 (.cells ([.int .i64 x0.Cmd.Kind, .int .i64 x0.Cmd.Who, p0_0, p0_1, p0_2] : List Value).toArray 25 (0, 0)), _] Z := hS'
  clear hs' hS'
  refine wpList_nil <| x_then_n ⟨(hS.sub (.cons (Mem.le.refl _) (.rr (.rr .nn)))), ?_⟩
  refine h_event 7 [true, true, true, true, true, true, true, true].toArray rfl (by kernel_rfl) rfl ?_
  obtain ⟨w_36, hs', hS'⟩ := hS.store (P := Try.prog) (p := 4) (o := 0) (t := 25) (v := .agg ([.int .i64 x1.Cmd.Kind, .int .i64 x1.Cmd.Who, p1_3, p1_4, p1_5] : List Value).toArray) (vs := [.int .i64 x1.Cmd.Kind, .int .i64 x1.Cmd.Who, p1_3, p1_4, p1_5]) rfl ti25 rfl rfl rfl (by intro u hu; simp only [List.mem_cons, List.not_mem_nil, or_false] at hu; rcases hu with rfl | rfl | rfl | rfl | rfl <;> first | rfl | exact hp1_3.one | exact hp1_4.one | exact hp1_5.one)
  refine s_store hm rfl rfl hs' ?_
  replace hS : Sep w0 w_36 [_, _, _, _, Mem.one g_34 (.cells ([.int .i64 x1.Cmd.Kind, .int .i64 x1.Cmd.Who, p1_3, p1_4, p1_5] : List Value).toArray 25 (0, 0))] Z := hS'
  clear hs' hS'
  refine wpList_nil <| x_then_n ⟨(hS.sub (.cons (Mem.le.refl _) (.rr (.rr .nn)))), ?_⟩
  refine h_done (by kernel_rfl) ?_
  replace hm : Fr 58 a [(2, _), (3, _), (4, _), (5, .pointer (some ⟨g_32, 0, none⟩)), (6, .pointer (some ⟨g_34, 0, none⟩))] := hm.keep [2, 3, 4, 5, 6]
  replace hS : Sep w0 w_36 [_, _, _, _, _] Z := hS
  replace hm : Fr 58 a [(2, _), (3, _), (4, _), (5, _), (6, _)] := hm.keep [2, 3, 4, 5, 6]
  exact x_then_n (hJ_j_10  H _ _ ⟨g_32, g_34, Mem.no, hm, (Sep.sel hS [0, 1, 2, 3, 4] (by decide)), (Mem.le.refl _)⟩)
 ·refine ⟨_, [true, true, true, true, false, true, false, false].toArray, rfl, rfl, ?_⟩
  refine v_alloc hm rfl ti25 hS fun w_37 g_38 hS' a hm => ?_
  replace hS : Sep w0 w_37 [_, _, _, Mem.one g_38 (.cells ([.int .i64 0, .int .i64 0, .slice none 0 0, .slice none 0 0, .slice none 0 0] : List Value).toArray 25 (0, 0))] Z := hS'
  clear hS'
  refine wpList_nil <| x_then_n ⟨(hS.sub (.cons (Mem.le.refl _) (.rr (.rr .nn)))), ?_⟩
  refine h_event 4 [true, true, true, true, true, true, false, false].toArray rfl (by kernel_rfl) rfl <| v_alloc hm rfl ti25 hS fun w_39 g_40 hS' a hm => ?_
  replace hS : Sep w0 w_39 [_, _, _, _, Mem.one g_40 (.cells ([.int .i64 0, .int .i64 0, .slice none 0 0, .slice none 0 0, .slice none 0 0] : List Value).toArray 25 (0, 0))] Z := hS'
  clear hS'
  refine wpList_nil <| x_then_n ⟨(hS.sub (.cons (Mem.le.refl _) (.rr (.rr .nn)))), ?_⟩
  refine h_event 6 [true, true, true, true, true, true, true, false].toArray rfl (by kernel_rfl) rfl ?_
  obtain ⟨w_41, hs', hS'⟩ := hS.store (P := Try.prog) (p := 4) (o := 0) (t := 25) (v := .agg ([.int .i64 x0.Cmd.Kind, .int .i64 x0.Cmd.Who, p0_0, p0_1, p0_2] : List Value).toArray) (vs := [.int .i64 x0.Cmd.Kind, .int .i64 x0.Cmd.Who, p0_0, p0_1, p0_2]) rfl ti25 rfl rfl rfl (by intro u hu; simp only [List.mem_cons, List.not_mem_nil, or_false] at hu; rcases hu with rfl | rfl | rfl | rfl | rfl <;> first | rfl | exact hp0_0.one | exact hp0_1.one | exact hp0_2.one)
  refine s_store hm rfl rfl hs' ?_
  replace hS : Sep w0 w_41 [_, _, _, _, Mem.one g_40 (.cells ([.int .i64 x0.Cmd.Kind, .int .i64 x0.Cmd.Who, p0_0, p0_1, p0_2] : List Value).toArray 25 (0, 0))] Z := hS'
  clear hs' hS'
  refine wpList_nil <| x_then_n ⟨(hS.sub (.cons (Mem.le.refl _) (.rr (.rr .nn)))), ?_⟩
  refine h_event 7 [true, true, true, true, true, true, true, true].toArray rfl (by kernel_rfl) rfl ?_
  obtain ⟨w_42, hs', hS'⟩ := hS.store (P := Try.prog) (p := 3) (o := 0) (t := 25) (v := .agg ([.int .i64 x1.Cmd.Kind, .int .i64 x1.Cmd.Who, p1_3, p1_4, p1_5] : List Value).toArray) (vs := [.int .i64 x1.Cmd.Kind, .int .i64 x1.Cmd.Who, p1_3, p1_4, p1_5]) rfl ti25 rfl rfl rfl (by intro u hu; simp only [List.mem_cons, List.not_mem_nil, or_false] at hu; rcases hu with rfl | rfl | rfl | rfl | rfl <;> first | rfl | exact hp1_3.one | exact hp1_4.one | exact hp1_5.one)
  refine s_store hm rfl rfl hs' ?_
  replace hS : Sep w0 w_42 [_, _, _, Mem.one g_38 (.cells ([.int .i64 x1.Cmd.Kind, .int .i64 x1.Cmd.Who, p1_3, p1_4, p1_5] : List Value).toArray 25 (0, 0)), _] Z := hS'
  clear hs' hS'
  refine wpList_nil <| x_then_n ⟨(hS.sub (.cons (Mem.le.refl _) (.rr (.rr .nn)))), ?_⟩
  refine h_done (by kernel_rfl) ?_
  replace hm : Fr 58 a [(2, _), (3, _), (4, _), (5, .pointer (some ⟨g_40, 0, none⟩)), (6, .pointer (some ⟨g_38, 0, none⟩))] := hm.keep [2, 3, 4, 5, 6]
  replace hS : Sep w0 w_42 [_, _, _, _, _] Z := hS
  replace hm : Fr 58 a [(2, _), (3, _), (4, _), (5, _), (6, _)] := hm.keep [2, 3, 4, 5, 6]
  exact x_then_n (hJ_j_10  H _ _ ⟨g_40, g_38, Mem.no, hm, (Sep.sel hS [0, 1, 2, 4, 3] (by decide)), (Mem.le.refl _)⟩)

set_option maxHeartbeats 4000000 in
set_option maxRecDepth 20000 in
theorem mesg_fields.calls (K : Nat) (x0 : api_Msg) (p0_0 : Value) (p0_1 : Value) (p0_2 : Value) (p0_3 : Value) (p0_4 : Value) (p0_5 : Value) (x1 : api_Msg) (p1_6 : Value) (p1_7 : Value) (p1_8 : Value) (p1_9 : Value) (p1_10 : Value) (p1_11 : Value) (r : Bool) (w0 w : World) (Z A : Mem) (hA : A.le Z) (hS : Sep w0 w [] Z) (hp0_0 : Rd Kd.u8 A p0_0 x0.Data) (hp0_1 : Rd (Kd.int .i64) A p0_1 x0.Have) (hp0_2 : Rd (Kd.int .i64) A p0_2 x0.Need) (hp0_3 : Rd Kd.u8 A p0_3 x0.Entry.Cmd.Key) (hp0_4 : Rd Kd.u8 A p0_4 x0.Entry.Cmd.Val) (hp0_5 : Rd Kd.u8 A p0_5 x0.Entry.Cmd.Old) (hp1_6 : Rd Kd.u8 A p1_6 x1.Data) (hp1_7 : Rd (Kd.int .i64) A p1_7 x1.Have) (hp1_8 : Rd (Kd.int .i64) A p1_8 x1.Need) (hp1_9 : Rd Kd.u8 A p1_9 x1.Entry.Cmd.Key) (hp1_10 : Rd Kd.u8 A p1_10 x1.Entry.Cmd.Val) (hp1_11 : Rd Kd.u8 A p1_11 x1.Entry.Cmd.Old)
    (H : mesg_fields.f K x0 x1 = some r) :
    Calls Try.prog 56 [.agg ([.int .i64 x0.Kind, .int .i64 x0.From, .int .i64 x0.To, .int .i64 x0.View, .int .i64 x0.Inst, .int .i64 x0.Len, .bool x0.Has, .int .i64 x0.Members, .int .i64 x0.Source, .int .i64 x0.At, .int .i64 x0.Total, p0_0, .int .i64 x0.Hop, .int .i64 x0.Seq, p0_1, p0_2, .int .i64 x0.Index, .int .i64 x0.Entry.Sess, .int .i64 x0.Entry.Seq, .int .i64 x0.Entry.Cmd.Kind, .int .i64 x0.Entry.Cmd.Who, p0_3, p0_4, p0_5] : List Value).toArray, .agg ([.int .i64 x1.Kind, .int .i64 x1.From, .int .i64 x1.To, .int .i64 x1.View, .int .i64 x1.Inst, .int .i64 x1.Len, .bool x1.Has, .int .i64 x1.Members, .int .i64 x1.Source, .int .i64 x1.At, .int .i64 x1.Total, p1_6, .int .i64 x1.Hop, .int .i64 x1.Seq, p1_7, p1_8, .int .i64 x1.Index, .int .i64 x1.Entry.Sess, .int .i64 x1.Entry.Seq, .int .i64 x1.Entry.Cmd.Kind, .int .i64 x1.Entry.Cmd.Who, p1_9, p1_10, p1_11] : List Value).toArray].toArray w (Ret fun v w' => ∃ (N : Mem), v = .bool r ∧ Sep w0 w' [N] Z) := by
 unfold mesg_fields.f at H
 refine f_enter _ Try.func56 rfl Try.ntmps56 rfl fun a hm => ?_
 replace hm : Fr 119 a [(0, .agg ([.int .i64 x0.Kind, .int .i64 x0.From, .int .i64 x0.To, .int .i64 x0.View, .int .i64 x0.Inst, .int .i64 x0.Len, .bool x0.Has, .int .i64 x0.Members, .int .i64 x0.Source, .int .i64 x0.At, .int .i64 x0.Total, p0_0, .int .i64 x0.Hop, .int .i64 x0.Seq, p0_1, p0_2, .int .i64 x0.Index, .int .i64 x0.Entry.Sess, .int .i64 x0.Entry.Seq, .int .i64 x0.Entry.Cmd.Kind, .int .i64 x0.Entry.Cmd.Who, p0_3, p0_4, p0_5] : List Value).toArray), (1, .agg ([.int .i64 x1.Kind, .int .i64 x1.From, .int .i64 x1.To, .int .i64 x1.View, .int .i64 x1.Inst, .int .i64 x1.Len, .bool x1.Has, .int .i64 x1.Members, .int .i64 x1.Source, .int .i64 x1.At, .int .i64 x1.Total, p1_6, .int .i64 x1.Hop, .int .i64 x1.Seq, p1_7, p1_8, .int .i64 x1.Index, .int .i64 x1.Entry.Sess, .int .i64 x1.Entry.Seq, .int .i64 x1.Entry.Cmd.Kind, .int .i64 x1.Entry.Cmd.Who, p1_9, p1_10, p1_11] : List Value).toArray)] := hm
 replace hS := hS.start
 replace hS : Sep w0 w [_] Z := hS
 refine wp_seq <| wp_region_lit <| v_box (vs := [.int .i64 x0.Kind, .int .i64 x0.From, .int .i64 x0.To, .int .i64 x0.View, .int .i64 x0.Inst, .int .i64 x0.Len, .bool x0.Has, .int .i64 x0.Members, .int .i64 x0.Source, .int .i64 x0.At, .int .i64 x0.Total, p0_0, .int .i64 x0.Hop, .int .i64 x0.Seq, p0_1, p0_2, .int .i64 x0.Index, .int .i64 x0.Entry.Sess, .int .i64 x0.Entry.Seq, .int .i64 x0.Entry.Cmd.Kind, .int .i64 x0.Entry.Cmd.Who, p0_3, p0_4, p0_5]) hm rfl rfl rfl hS fun w_1 g_2 hS' a hm => ?_
 replace hS : Sep w0 w_1 [_, Mem.one g_2 (.cells ([.int .i64 x0.Kind, .int .i64 x0.From, .int .i64 x0.To, .int .i64 x0.View, .int .i64 x0.Inst, .int .i64 x0.Len, .bool x0.Has, .int .i64 x0.Members, .int .i64 x0.Source, .int .i64 x0.At, .int .i64 x0.Total, p0_0, .int .i64 x0.Hop, .int .i64 x0.Seq, p0_1, p0_2, .int .i64 x0.Index, .int .i64 x0.Entry.Sess, .int .i64 x0.Entry.Seq, .int .i64 x0.Entry.Cmd.Kind, .int .i64 x0.Entry.Cmd.Who, p0_3, p0_4, p0_5] : List Value).toArray 29 (0, 0))] Z := hS'
 clear hS'
 refine v_box (vs := [.int .i64 x1.Kind, .int .i64 x1.From, .int .i64 x1.To, .int .i64 x1.View, .int .i64 x1.Inst, .int .i64 x1.Len, .bool x1.Has, .int .i64 x1.Members, .int .i64 x1.Source, .int .i64 x1.At, .int .i64 x1.Total, p1_6, .int .i64 x1.Hop, .int .i64 x1.Seq, p1_7, p1_8, .int .i64 x1.Index, .int .i64 x1.Entry.Sess, .int .i64 x1.Entry.Seq, .int .i64 x1.Entry.Cmd.Kind, .int .i64 x1.Entry.Cmd.Who, p1_9, p1_10, p1_11]) hm rfl rfl rfl hS fun w_3 g_4 hS' a hm => ?_
 replace hS : Sep w0 w_3 [_, _, Mem.one g_4 (.cells ([.int .i64 x1.Kind, .int .i64 x1.From, .int .i64 x1.To, .int .i64 x1.View, .int .i64 x1.Inst, .int .i64 x1.Len, .bool x1.Has, .int .i64 x1.Members, .int .i64 x1.Source, .int .i64 x1.At, .int .i64 x1.Total, p1_6, .int .i64 x1.Hop, .int .i64 x1.Seq, p1_7, p1_8, .int .i64 x1.Index, .int .i64 x1.Entry.Sess, .int .i64 x1.Entry.Seq, .int .i64 x1.Entry.Cmd.Kind, .int .i64 x1.Entry.Cmd.Who, p1_9, p1_10, p1_11] : List Value).toArray 29 (0, 0))] Z := hS'
 clear hS'
 refine s_assign hm rfl rfl fun a hm => wpList_nil ?_
 replace hm : Fr 119 a [(2, .pointer (some ⟨g_2, 0, none⟩)), (3, .pointer (some ⟨g_4, 0, none⟩)), (4, .bool false)] := hm.keep [2, 3, 4]
 refine x_then_n <| c_seq fun KJ_5 hKJ_5 => wp_seq <| wp_region_lit <| s_fieldAddr hm rfl Try.underlying29 rfl ti3 rfl rfl fun a hm => s_load hm rfl rfl (hS.load_one (p := 1) rfl Try.underlying3 rfl rfl) fun a hm => wpList_nil ?_
 replace hm : Fr 119 a [(2, _), (3, _), (4, _), (6, .int .i64 x0.Kind)] := hm.keep [2, 3, 4, 6]
 refine x_then_n <| c_block <| wp_seq <| wp_region_lit <| s_cmp (b := (x0.Kind == 2)) hm rfl rfl rfl (.inl ⟨rfl, rfl⟩) fun a hm => s_assign hm rfl rfl fun a hm => wpList_nil ?_
 replace hm : Fr 119 a [(2, _), (3, _), (4, _), (6, _), (7, .bool (x0.Kind == 2))] := hm.keep [2, 3, 4, 6, 7]
 refine x_then_n ?_
 by_cases hc_6 : x0.Kind = 2
 ·rw [if_pos hc_6] at H
  refine c_cond_t hm rfl (beq_iff_eq.2 hc_6) <| c_seq fun KJ_7 hKJ_7 => wp_region_lit <| s_fieldAddr hm rfl Try.underlying29 rfl ti3 rfl rfl fun a hm => s_load hm rfl rfl (hS.load_one (p := 1) rfl Try.underlying3 rfl rfl) fun a hm => s_fieldAddr hm rfl Try.underlying29 rfl ti3 rfl rfl fun a hm => s_load hm rfl rfl (hS.load_one (p := 2) rfl Try.underlying3 rfl rfl) fun a hm => s_cmp (b := (x0.Inst == x1.Inst)) hm rfl rfl rfl (.inl ⟨rfl, rfl⟩) fun a hm => s_move hm rfl rfl fun a hm => ?_
  by_cases hc_8 : x0.Inst = x1.Inst
  ·rw [if_pos hc_8] at H
   refine s_on hm rfl rfl (beq_iff_eq.2 hc_8) <| s_fieldAddr hm rfl Try.underlying29 rfl ti3 rfl rfl fun a hm => s_on hm rfl rfl (beq_iff_eq.2 hc_8) <| s_load hm rfl rfl (hS.load_one (p := 1) rfl Try.underlying3 rfl rfl) fun a hm => s_on hm rfl rfl (beq_iff_eq.2 hc_8) <| s_fieldAddr hm rfl Try.underlying29 rfl ti3 rfl rfl fun a hm => s_on hm rfl rfl (beq_iff_eq.2 hc_8) <| s_load hm rfl rfl (hS.load_one (p := 2) rfl Try.underlying3 rfl rfl) fun a hm => s_on hm rfl rfl (beq_iff_eq.2 hc_8) <| s_cmp (b := (x0.Len == x1.Len)) hm rfl rfl rfl (.inl ⟨rfl, rfl⟩) fun a hm => s_pick_t hm rfl rfl (beq_iff_eq.2 hc_8) rfl fun a hm => s_move hm rfl rfl fun a hm => ?_
   by_cases hc_9 : x0.Len = x1.Len
   ·rw [if_pos hc_9] at H
    refine s_on hm rfl rfl (beq_iff_eq.2 hc_9) <| s_fieldAddr hm rfl Try.underlying29 rfl ti4 rfl rfl fun a hm => s_on hm rfl rfl (beq_iff_eq.2 hc_9) <| s_load hm rfl rfl (hS.load_one (p := 1) rfl Try.underlying4 rfl rfl) fun a hm => s_on hm rfl rfl (beq_iff_eq.2 hc_9) <| s_fieldAddr hm rfl Try.underlying29 rfl ti4 rfl rfl fun a hm => s_on hm rfl rfl (beq_iff_eq.2 hc_9) <| s_load hm rfl rfl (hS.load_one (p := 2) rfl Try.underlying4 rfl rfl) fun a hm => s_on hm rfl rfl (beq_iff_eq.2 hc_9) <| s_beq (b := (x0.Has == x1.Has)) hm rfl Try.underlying4 rfl rfl (.inl ⟨rfl, rfl⟩) fun a hm => s_pick_t hm rfl rfl (beq_iff_eq.2 hc_9) rfl fun a hm => s_assign hm rfl rfl fun a hm => ?_
    refine wpList_nil ?_
    replace hm : Fr 119 a [(4, .bool (x0.Has == x1.Has))] := hm.keep [4]
    refine x_then_n (hKJ_7 _ _ ?_)
    refine wp_ret (x_block_r (x_then_r ?_))
    obtain rfl := Option.some.inj H
    exact f_ret hm (rs := [.tmp 4]) rfl (.tmp rfl .nil) ⟨_, rfl, Mem.no, rfl, (Sep.sel hS [0] (by decide))⟩
   ·rw [if_neg hc_9] at H
    refine s_off hm rfl rfl rfl (beq_eq_false_iff_ne.2 hc_9) fun a hm => s_off hm rfl rfl rfl (beq_eq_false_iff_ne.2 hc_9) fun a hm => s_off hm rfl rfl rfl (beq_eq_false_iff_ne.2 hc_9) fun a hm => s_off hm rfl rfl rfl (beq_eq_false_iff_ne.2 hc_9) fun a hm => s_off hm rfl rfl rfl (beq_eq_false_iff_ne.2 hc_9) fun a hm => s_pick_f hm rfl rfl (beq_eq_false_iff_ne.2 hc_9) rfl fun a hm => s_assign hm rfl rfl fun a hm => wpList_nil ?_
    replace hm : Fr 119 a [(4, _)] := hm.keep [4]
    refine x_then_n (hKJ_7 _ _ ?_)
    refine wp_ret (x_block_r (x_then_r ?_))
    obtain rfl := Option.some.inj H
    exact f_ret hm (rs := [.tmp 4]) rfl (.tmp rfl .nil) ⟨_, rfl, Mem.no, rfl, (Sep.sel hS [0] (by decide))⟩
  ·rw [if_neg hc_8] at H
   refine s_off hm rfl rfl rfl (beq_eq_false_iff_ne.2 hc_8) fun a hm => s_off hm rfl rfl rfl (beq_eq_false_iff_ne.2 hc_8) fun a hm => s_off hm rfl rfl rfl (beq_eq_false_iff_ne.2 hc_8) fun a hm => s_off hm rfl rfl rfl (beq_eq_false_iff_ne.2 hc_8) fun a hm => s_off hm rfl rfl rfl (beq_eq_false_iff_ne.2 hc_8) fun a hm => s_pick_f hm rfl rfl (beq_eq_false_iff_ne.2 hc_8) rfl fun a hm => s_move hm rfl rfl fun a hm => s_off hm rfl rfl rfl rfl fun a hm => s_off hm rfl rfl rfl rfl fun a hm => s_off hm rfl rfl rfl rfl fun a hm => s_off hm rfl rfl rfl rfl fun a hm => s_off hm rfl rfl rfl rfl fun a hm => ?_
   refine s_pick_f hm rfl rfl rfl rfl fun a hm => s_assign hm rfl rfl fun a hm => wpList_nil ?_
   replace hm : Fr 119 a [(4, _)] := hm.keep [4]
   refine x_then_n (hKJ_7 _ _ ?_)
   refine wp_ret (x_block_r (x_then_r ?_))
   obtain rfl := Option.some.inj H
   exact f_ret hm (rs := [.tmp 4]) rfl (.tmp rfl .nil) ⟨_, rfl, Mem.no, rfl, (Sep.sel hS [0] (by decide))⟩
 ·rw [if_neg hc_6] at H
  refine c_cond_f hm rfl (beq_eq_false_iff_ne.2 hc_6) <| wp_seq <| wp_region_lit <| s_cmp (b := (x0.Kind == 3)) hm rfl rfl rfl (.inl ⟨rfl, rfl⟩) fun a hm => s_assign hm rfl rfl fun a hm => wpList_nil ?_
  replace hm : Fr 119 a [(2, _), (3, _), (4, _), (6, _), (28, .bool (x0.Kind == 3))] := hm.keep [2, 3, 4, 6, 28]
  refine x_then_n ?_
  by_cases hc_10 : x0.Kind = 3
  ·rw [if_pos hc_10] at H
   refine c_cond_t hm rfl (beq_iff_eq.2 hc_10) <| c_seq fun KJ_11 hKJ_11 => wp_region_lit <| s_fieldAddr hm rfl Try.underlying29 rfl ti3 rfl rfl fun a hm => s_load hm rfl rfl (hS.load_one (p := 1) rfl Try.underlying3 rfl rfl) fun a hm => s_fieldAddr hm rfl Try.underlying29 rfl ti3 rfl rfl fun a hm => s_load hm rfl rfl (hS.load_one (p := 2) rfl Try.underlying3 rfl rfl) fun a hm => s_cmp (b := (x0.Members == x1.Members)) hm rfl rfl rfl (.inl ⟨rfl, rfl⟩) fun a hm => s_move hm rfl rfl fun a hm => ?_
   by_cases hc_12 : x0.Members = x1.Members
   ·rw [if_pos hc_12] at H
    refine s_on hm rfl rfl (beq_iff_eq.2 hc_12) <| s_fieldAddr hm rfl Try.underlying29 rfl ti3 rfl rfl fun a hm => s_on hm rfl rfl (beq_iff_eq.2 hc_12) <| s_load hm rfl rfl (hS.load_one (p := 1) rfl Try.underlying3 rfl rfl) fun a hm => s_on hm rfl rfl (beq_iff_eq.2 hc_12) <| s_fieldAddr hm rfl Try.underlying29 rfl ti3 rfl rfl fun a hm => s_on hm rfl rfl (beq_iff_eq.2 hc_12) <| s_load hm rfl rfl (hS.load_one (p := 2) rfl Try.underlying3 rfl rfl) fun a hm => s_on hm rfl rfl (beq_iff_eq.2 hc_12) <| s_cmp (b := (x0.Source == x1.Source)) hm rfl rfl rfl (.inl ⟨rfl, rfl⟩) fun a hm => s_pick_t hm rfl rfl (beq_iff_eq.2 hc_12) rfl fun a hm => s_move hm rfl rfl fun a hm => ?_
    by_cases hc_13 : x0.Source = x1.Source
    ·rw [if_pos hc_13] at H
     refine s_on hm rfl rfl (beq_iff_eq.2 hc_13) <| s_fieldAddr hm rfl Try.underlying29 rfl ti3 rfl rfl fun a hm => s_on hm rfl rfl (beq_iff_eq.2 hc_13) <| s_load hm rfl rfl (hS.load_one (p := 1) rfl Try.underlying3 rfl rfl) fun a hm => s_on hm rfl rfl (beq_iff_eq.2 hc_13) <| s_fieldAddr hm rfl Try.underlying29 rfl ti3 rfl rfl fun a hm => s_on hm rfl rfl (beq_iff_eq.2 hc_13) <| s_load hm rfl rfl (hS.load_one (p := 2) rfl Try.underlying3 rfl rfl) fun a hm => s_on hm rfl rfl (beq_iff_eq.2 hc_13) <| s_cmp (b := (x0.Len == x1.Len)) hm rfl rfl rfl (.inl ⟨rfl, rfl⟩) fun a hm => s_pick_t hm rfl rfl (beq_iff_eq.2 hc_13) rfl fun a hm => s_assign hm rfl rfl fun a hm => ?_
     refine wpList_nil ?_
     replace hm : Fr 119 a [(4, .bool (x0.Len == x1.Len))] := hm.keep [4]
     refine x_then_n (hKJ_11 _ _ ?_)
     refine wp_ret (x_block_r (x_then_r ?_))
     obtain rfl := Option.some.inj H
     exact f_ret hm (rs := [.tmp 4]) rfl (.tmp rfl .nil) ⟨_, rfl, Mem.no, rfl, (Sep.sel hS [0] (by decide))⟩
    ·rw [if_neg hc_13] at H
     refine s_off hm rfl rfl rfl (beq_eq_false_iff_ne.2 hc_13) fun a hm => s_off hm rfl rfl rfl (beq_eq_false_iff_ne.2 hc_13) fun a hm => s_off hm rfl rfl rfl (beq_eq_false_iff_ne.2 hc_13) fun a hm => s_off hm rfl rfl rfl (beq_eq_false_iff_ne.2 hc_13) fun a hm => s_off hm rfl rfl rfl (beq_eq_false_iff_ne.2 hc_13) fun a hm => s_pick_f hm rfl rfl (beq_eq_false_iff_ne.2 hc_13) rfl fun a hm => s_assign hm rfl rfl fun a hm => wpList_nil ?_
     replace hm : Fr 119 a [(4, _)] := hm.keep [4]
     refine x_then_n (hKJ_11 _ _ ?_)
     refine wp_ret (x_block_r (x_then_r ?_))
     obtain rfl := Option.some.inj H
     exact f_ret hm (rs := [.tmp 4]) rfl (.tmp rfl .nil) ⟨_, rfl, Mem.no, rfl, (Sep.sel hS [0] (by decide))⟩
   ·rw [if_neg hc_12] at H
    refine s_off hm rfl rfl rfl (beq_eq_false_iff_ne.2 hc_12) fun a hm => s_off hm rfl rfl rfl (beq_eq_false_iff_ne.2 hc_12) fun a hm => s_off hm rfl rfl rfl (beq_eq_false_iff_ne.2 hc_12) fun a hm => s_off hm rfl rfl rfl (beq_eq_false_iff_ne.2 hc_12) fun a hm => s_off hm rfl rfl rfl (beq_eq_false_iff_ne.2 hc_12) fun a hm => s_pick_f hm rfl rfl (beq_eq_false_iff_ne.2 hc_12) rfl fun a hm => s_move hm rfl rfl fun a hm => s_off hm rfl rfl rfl rfl fun a hm => s_off hm rfl rfl rfl rfl fun a hm => s_off hm rfl rfl rfl rfl fun a hm => s_off hm rfl rfl rfl rfl fun a hm => s_off hm rfl rfl rfl rfl fun a hm => ?_
    refine s_pick_f hm rfl rfl rfl rfl fun a hm => s_assign hm rfl rfl fun a hm => wpList_nil ?_
    replace hm : Fr 119 a [(4, _)] := hm.keep [4]
    refine x_then_n (hKJ_11 _ _ ?_)
    refine wp_ret (x_block_r (x_then_r ?_))
    obtain rfl := Option.some.inj H
    exact f_ret hm (rs := [.tmp 4]) rfl (.tmp rfl .nil) ⟨_, rfl, Mem.no, rfl, (Sep.sel hS [0] (by decide))⟩
  ·rw [if_neg hc_10] at H
   refine c_cond_f hm rfl (beq_eq_false_iff_ne.2 hc_10) <| wp_seq <| wp_region_lit <| s_cmp (b := (x0.Kind == 4)) hm rfl rfl rfl (.inl ⟨rfl, rfl⟩) fun a hm => s_assign hm rfl rfl fun a hm => wpList_nil ?_
   replace hm : Fr 119 a [(2, _), (3, _), (4, _), (6, _), (49, .bool (x0.Kind == 4))] := hm.keep [2, 3, 4, 6, 49]
   refine x_then_n ?_
   by_cases hc_14 : x0.Kind = 4
   ·rw [if_pos hc_14] at H
    refine c_cond_t hm rfl (beq_iff_eq.2 hc_14) <| wp_seq <| wp_region_lit <| s_fieldAddr hm rfl Try.underlying29 rfl ti3 rfl rfl fun a hm => s_load hm rfl rfl (hS.load_one (p := 1) rfl Try.underlying3 rfl rfl) fun a hm => s_fieldAddr hm rfl Try.underlying29 rfl ti3 rfl rfl fun a hm => s_load hm rfl rfl (hS.load_one (p := 2) rfl Try.underlying3 rfl rfl) fun a hm => s_cmp (b := (x0.At == x1.At)) hm rfl rfl rfl (.inl ⟨rfl, rfl⟩) fun a hm => s_assign hm rfl rfl fun a hm => wpList_nil ?_
    replace hm : Fr 119 a [(4, .bool (x0.At == x1.At))] := hm.keep [4]
    refine x_then_n <| wp_ret (x_block_r (x_then_r ?_))
    obtain rfl := Option.some.inj H
    exact f_ret hm (rs := [.tmp 4]) rfl (.tmp rfl .nil) ⟨_, rfl, Mem.no, rfl, (Sep.sel hS [0] (by decide))⟩
   ·rw [if_neg hc_14] at H
    refine c_cond_f hm rfl (beq_eq_false_iff_ne.2 hc_14) <| wp_seq <| wp_region_lit <| s_cmp (b := (x0.Kind == 5)) hm rfl rfl rfl (.inl ⟨rfl, rfl⟩) fun a hm => s_assign hm rfl rfl fun a hm => wpList_nil ?_
    replace hm : Fr 119 a [(2, _), (3, _), (4, _), (6, _), (56, .bool (x0.Kind == 5))] := hm.keep [2, 3, 4, 6, 56]
    refine x_then_n ?_
    by_cases hc_15 : x0.Kind = 5
    ·rw [if_pos hc_15] at H
     refine c_cond_t hm rfl (beq_iff_eq.2 hc_15) <| c_seq fun KJ_16 hKJ_16 => wp_region_lit <| s_fieldAddr hm rfl Try.underlying29 rfl ti3 rfl rfl fun a hm => s_load hm rfl rfl (hS.load_one (p := 1) rfl Try.underlying3 rfl rfl) fun a hm => s_fieldAddr hm rfl Try.underlying29 rfl ti3 rfl rfl fun a hm => s_load hm rfl rfl (hS.load_one (p := 2) rfl Try.underlying3 rfl rfl) fun a hm => s_cmp (b := (x0.At == x1.At)) hm rfl rfl rfl (.inl ⟨rfl, rfl⟩) fun a hm => s_move hm rfl rfl fun a hm => ?_
     by_cases hc_17 : x0.At = x1.At
     ·rw [if_pos hc_17] at H
      refine s_on hm rfl rfl (beq_iff_eq.2 hc_17) <| s_fieldAddr hm rfl Try.underlying29 rfl ti3 rfl rfl fun a hm => s_on hm rfl rfl (beq_iff_eq.2 hc_17) <| s_load hm rfl rfl (hS.load_one (p := 1) rfl Try.underlying3 rfl rfl) fun a hm => s_on hm rfl rfl (beq_iff_eq.2 hc_17) <| s_fieldAddr hm rfl Try.underlying29 rfl ti3 rfl rfl fun a hm => s_on hm rfl rfl (beq_iff_eq.2 hc_17) <| s_load hm rfl rfl (hS.load_one (p := 2) rfl Try.underlying3 rfl rfl) fun a hm => s_on hm rfl rfl (beq_iff_eq.2 hc_17) <| s_cmp (b := (x0.Total == x1.Total)) hm rfl rfl rfl (.inl ⟨rfl, rfl⟩) fun a hm => s_pick_t hm rfl rfl (beq_iff_eq.2 hc_17) rfl fun a hm => s_move hm rfl rfl fun a hm => ?_
      by_cases hc_18 : x0.Total = x1.Total
      ·rw [if_pos hc_18] at H
       refine s_on hm rfl rfl (beq_iff_eq.2 hc_18) <| s_fieldAddr hm rfl Try.underlying29 rfl ti23 rfl rfl fun a hm => s_on hm rfl rfl (beq_iff_eq.2 hc_18) <| s_load hm rfl rfl (hS.load_one (p := 1) rfl Try.underlying23 rfl rfl) fun a hm => s_on hm rfl rfl (beq_iff_eq.2 hc_18) <| s_fieldAddr hm rfl Try.underlying29 rfl ti23 rfl rfl fun a hm => s_on hm rfl rfl (beq_iff_eq.2 hc_18) <| s_load hm rfl rfl (hS.load_one (p := 2) rfl Try.underlying23 rfl rfl) fun a hm => s_on hm rfl rfl (beq_iff_eq.2 hc_18) ?_
       obtain ⟨t_19, et_19, H⟩ := Option.bind_eq_some_iff.1 H
       refine s_call hm rfl Try.call68 rfl (bytes_Equal.calls x0.Data _ x1.Data _ t_19 w0 _ _ _ (Mem.le.refl _) (hS.enter [] (by decide)) (hp0_0.mono (hA.trans (hS.le_zed []))) (hp1_6.mono (hA.trans (hS.le_zed []))) et_19) ?_
       rintro _ w_20 ⟨N_21, rfl, hS'⟩
       intro a hm
       obtain ⟨N_22, hS'', le_22, ln_22⟩ := hS.call [] (by decide) rfl (l' := []) (ow := []) rfl hS'
       replace hS : Sep w0 w_20 [N_22, _, _] Z := hS''
       clear hS' hS''
       refine s_pick_t hm rfl rfl (beq_iff_eq.2 hc_18) rfl fun a hm => s_assign hm rfl rfl fun a hm => wpList_nil ?_
       replace hm : Fr 119 a [(4, .bool t_19)] := hm.keep [4]
       refine x_then_n (hKJ_16 _ _ ?_)
       refine wp_ret (x_block_r (x_then_r ?_))
       obtain rfl := Option.some.inj H
       exact f_ret hm (rs := [.tmp 4]) rfl (.tmp rfl .nil) ⟨_, rfl, N_22, rfl, (Sep.sel hS [0] (by decide))⟩
      ·rw [if_neg hc_18] at H
       refine s_off hm rfl rfl rfl (beq_eq_false_iff_ne.2 hc_18) fun a hm => s_off hm rfl rfl rfl (beq_eq_false_iff_ne.2 hc_18) fun a hm => s_off hm rfl rfl rfl (beq_eq_false_iff_ne.2 hc_18) fun a hm => s_off hm rfl rfl rfl (beq_eq_false_iff_ne.2 hc_18) fun a hm => s_off hm rfl rfl rfl (beq_eq_false_iff_ne.2 hc_18) fun a hm => s_pick_f hm rfl rfl (beq_eq_false_iff_ne.2 hc_18) rfl fun a hm => s_assign hm rfl rfl fun a hm => wpList_nil ?_
       replace hm : Fr 119 a [(4, _)] := hm.keep [4]
       refine x_then_n (hKJ_16 _ _ ?_)
       refine wp_ret (x_block_r (x_then_r ?_))
       obtain rfl := Option.some.inj H
       exact f_ret hm (rs := [.tmp 4]) rfl (.tmp rfl .nil) ⟨_, rfl, Mem.no, rfl, (Sep.sel hS [0] (by decide))⟩
     ·rw [if_neg hc_17] at H
      refine s_off hm rfl rfl rfl (beq_eq_false_iff_ne.2 hc_17) fun a hm => s_off hm rfl rfl rfl (beq_eq_false_iff_ne.2 hc_17) fun a hm => s_off hm rfl rfl rfl (beq_eq_false_iff_ne.2 hc_17) fun a hm => s_off hm rfl rfl rfl (beq_eq_false_iff_ne.2 hc_17) fun a hm => s_off hm rfl rfl rfl (beq_eq_false_iff_ne.2 hc_17) fun a hm => s_pick_f hm rfl rfl (beq_eq_false_iff_ne.2 hc_17) rfl fun a hm => s_move hm rfl rfl fun a hm => s_off hm rfl rfl rfl rfl fun a hm => s_off hm rfl rfl rfl rfl fun a hm => s_off hm rfl rfl rfl rfl fun a hm => s_off hm rfl rfl rfl rfl fun a hm => s_off hm rfl rfl rfl rfl fun a hm => ?_
      refine s_pick_f hm rfl rfl rfl rfl fun a hm => s_assign hm rfl rfl fun a hm => wpList_nil ?_
      replace hm : Fr 119 a [(4, _)] := hm.keep [4]
      refine x_then_n (hKJ_16 _ _ ?_)
      refine wp_ret (x_block_r (x_then_r ?_))
      obtain rfl := Option.some.inj H
      exact f_ret hm (rs := [.tmp 4]) rfl (.tmp rfl .nil) ⟨_, rfl, Mem.no, rfl, (Sep.sel hS [0] (by decide))⟩
    ·rw [if_neg hc_15] at H
     refine c_cond_f hm rfl (beq_eq_false_iff_ne.2 hc_15) <| wp_seq <| wp_region_lit <| s_cmp (b := (x0.Kind == 7)) hm rfl rfl rfl (.inl ⟨rfl, rfl⟩) fun a hm => s_assign hm rfl rfl fun a hm => wpList_nil ?_
     replace hm : Fr 119 a [(2, _), (3, _), (4, _), (6, _), (77, .bool (x0.Kind == 7))] := hm.keep [2, 3, 4, 6, 77]
     refine x_then_n ?_
     by_cases hc_23 : x0.Kind = 7
     ·rw [if_pos hc_23] at H
      refine c_cond_t hm rfl (beq_iff_eq.2 hc_23) <| c_seq fun KJ_24 hKJ_24 => wp_region_lit <| s_fieldAddr hm rfl Try.underlying29 rfl ti3 rfl rfl fun a hm => s_load hm rfl rfl (hS.load_one (p := 1) rfl Try.underlying3 rfl rfl) fun a hm => s_fieldAddr hm rfl Try.underlying29 rfl ti3 rfl rfl fun a hm => s_load hm rfl rfl (hS.load_one (p := 2) rfl Try.underlying3 rfl rfl) fun a hm => s_cmp (b := (x0.Hop == x1.Hop)) hm rfl rfl rfl (.inl ⟨rfl, rfl⟩) fun a hm => s_move hm rfl rfl fun a hm => ?_
      by_cases hc_25 : x0.Hop = x1.Hop
      ·rw [if_pos hc_25] at H
       refine s_on hm rfl rfl (beq_iff_eq.2 hc_25) <| s_fieldAddr hm rfl Try.underlying29 rfl ti3 rfl rfl fun a hm => s_on hm rfl rfl (beq_iff_eq.2 hc_25) <| s_load hm rfl rfl (hS.load_one (p := 1) rfl Try.underlying3 rfl rfl) fun a hm => s_on hm rfl rfl (beq_iff_eq.2 hc_25) <| s_fieldAddr hm rfl Try.underlying29 rfl ti3 rfl rfl fun a hm => s_on hm rfl rfl (beq_iff_eq.2 hc_25) <| s_load hm rfl rfl (hS.load_one (p := 2) rfl Try.underlying3 rfl rfl) fun a hm => s_on hm rfl rfl (beq_iff_eq.2 hc_25) <| s_cmp (b := (x0.Seq == x1.Seq)) hm rfl rfl rfl (.inl ⟨rfl, rfl⟩) fun a hm => s_pick_t hm rfl rfl (beq_iff_eq.2 hc_25) rfl fun a hm => s_move hm rfl rfl fun a hm => ?_
       by_cases hc_26 : x0.Seq = x1.Seq
       ·rw [if_pos hc_26] at H
        refine s_on hm rfl rfl (beq_iff_eq.2 hc_26) <| s_fieldAddr hm rfl Try.underlying29 rfl ti22 rfl rfl fun a hm => s_on hm rfl rfl (beq_iff_eq.2 hc_26) <| s_load hm rfl rfl (hS.load_one (p := 1) rfl Try.underlying22 rfl rfl) fun a hm => s_on hm rfl rfl (beq_iff_eq.2 hc_26) <| s_fieldAddr hm rfl Try.underlying29 rfl ti22 rfl rfl fun a hm => s_on hm rfl rfl (beq_iff_eq.2 hc_26) <| s_load hm rfl rfl (hS.load_one (p := 2) rfl Try.underlying22 rfl rfl) fun a hm => s_on hm rfl rfl (beq_iff_eq.2 hc_26) ?_
        obtain ⟨t_27, et_27, H⟩ := Option.bind_eq_some_iff.1 H
        refine s_call hm rfl Try.call69 rfl (slices_Equal_sint_int.calls K x0.Have _ x1.Have _ t_27 w0 _ _ _ (Mem.le.refl _) (hS.enter [] (by decide)) (hp0_1.mono (hA.trans (hS.le_zed []))) (hp1_7.mono (hA.trans (hS.le_zed []))) et_27) ?_
        rintro _ w_28 ⟨N_29, rfl, hS'⟩
        intro a hm
        obtain ⟨N_30, hS'', le_30, ln_30⟩ := hS.call [] (by decide) rfl (l' := []) (ow := []) rfl hS'
        replace hS : Sep w0 w_28 [N_30, _, _] Z := hS''
        clear hS' hS''
        refine s_pick_t hm rfl rfl (beq_iff_eq.2 hc_26) rfl fun a hm => s_move hm rfl rfl fun a hm => ?_
        by_cases hc_31 : t_27 = true
        ·rw [if_pos hc_31] at H
         refine s_on hm rfl rfl hc_31 <| s_fieldAddr hm rfl Try.underlying29 rfl ti22 rfl rfl fun a hm => s_on hm rfl rfl hc_31 <| s_load hm rfl rfl (hS.load_one (p := 1) rfl Try.underlying22 rfl rfl) fun a hm => s_on hm rfl rfl hc_31 <| s_fieldAddr hm rfl Try.underlying29 rfl ti22 rfl rfl fun a hm => s_on hm rfl rfl hc_31 <| s_load hm rfl rfl (hS.load_one (p := 2) rfl Try.underlying22 rfl rfl) fun a hm => s_on hm rfl rfl hc_31 ?_
         obtain ⟨t_32, et_32, H⟩ := Option.bind_eq_some_iff.1 H
         refine s_call hm rfl Try.call69 rfl (slices_Equal_sint_int.calls K x0.Need _ x1.Need _ t_32 w0 _ _ _ (Mem.le.refl _) (hS.enter [] (by decide)) (hp0_2.mono (hA.trans (hS.le_zed []))) (hp1_8.mono (hA.trans (hS.le_zed []))) et_32) ?_
         rintro _ w_33 ⟨N_34, rfl, hS'⟩
         intro a hm
         obtain ⟨N_35, hS'', le_35, ln_35⟩ := hS.call [] (by decide) rfl (l' := []) (ow := []) rfl hS'
         replace hS : Sep w0 w_33 [N_35, _, _] Z := hS''
         clear hS' hS''
         refine s_pick_t hm rfl rfl hc_31 rfl fun a hm => s_assign hm rfl rfl fun a hm => wpList_nil ?_
         replace hm : Fr 119 a [(4, .bool t_32)] := hm.keep [4]
         refine x_then_n (hKJ_24 _ _ ?_)
         refine wp_ret (x_block_r (x_then_r ?_))
         obtain rfl := Option.some.inj H
         exact f_ret hm (rs := [.tmp 4]) rfl (.tmp rfl .nil) ⟨_, rfl, N_35, rfl, (Sep.sel hS [0] (by decide))⟩
        ·rw [if_neg hc_31] at H
         refine s_off hm rfl rfl rfl (Bool.eq_false_iff.2 hc_31) fun a hm => s_off hm rfl rfl rfl (Bool.eq_false_iff.2 hc_31) fun a hm => s_off hm rfl rfl rfl (Bool.eq_false_iff.2 hc_31) fun a hm => s_off hm rfl rfl rfl (Bool.eq_false_iff.2 hc_31) fun a hm => s_off hm rfl rfl rfl (Bool.eq_false_iff.2 hc_31) fun a hm => s_pick_f hm rfl rfl (Bool.eq_false_iff.2 hc_31) rfl fun a hm => s_assign hm rfl rfl fun a hm => wpList_nil ?_
         replace hm : Fr 119 a [(4, _)] := hm.keep [4]
         refine x_then_n (hKJ_24 _ _ ?_)
         refine wp_ret (x_block_r (x_then_r ?_))
         obtain rfl := Option.some.inj H
         exact f_ret hm (rs := [.tmp 4]) rfl (.tmp rfl .nil) ⟨_, rfl, N_30, rfl, (Sep.sel hS [0] (by decide))⟩
       ·rw [if_neg hc_26] at H
        refine s_off hm rfl rfl rfl (beq_eq_false_iff_ne.2 hc_26) fun a hm => s_off hm rfl rfl rfl (beq_eq_false_iff_ne.2 hc_26) fun a hm => s_off hm rfl rfl rfl (beq_eq_false_iff_ne.2 hc_26) fun a hm => s_off hm rfl rfl rfl (beq_eq_false_iff_ne.2 hc_26) fun a hm => s_off hm rfl rfl rfl (beq_eq_false_iff_ne.2 hc_26) fun a hm => s_pick_f hm rfl rfl (beq_eq_false_iff_ne.2 hc_26) rfl fun a hm => s_move hm rfl rfl fun a hm => s_off hm rfl rfl rfl rfl fun a hm => s_off hm rfl rfl rfl rfl fun a hm => s_off hm rfl rfl rfl rfl fun a hm => s_off hm rfl rfl rfl rfl fun a hm => s_off hm rfl rfl rfl rfl fun a hm => ?_
        refine s_pick_f hm rfl rfl rfl rfl fun a hm => s_assign hm rfl rfl fun a hm => wpList_nil ?_
        replace hm : Fr 119 a [(4, _)] := hm.keep [4]
        refine x_then_n (hKJ_24 _ _ ?_)
        refine wp_ret (x_block_r (x_then_r ?_))
        obtain rfl := Option.some.inj H
        exact f_ret hm (rs := [.tmp 4]) rfl (.tmp rfl .nil) ⟨_, rfl, Mem.no, rfl, (Sep.sel hS [0] (by decide))⟩
      ·rw [if_neg hc_25] at H
       refine s_off hm rfl rfl rfl (beq_eq_false_iff_ne.2 hc_25) fun a hm => s_off hm rfl rfl rfl (beq_eq_false_iff_ne.2 hc_25) fun a hm => s_off hm rfl rfl rfl (beq_eq_false_iff_ne.2 hc_25) fun a hm => s_off hm rfl rfl rfl (beq_eq_false_iff_ne.2 hc_25) fun a hm => s_off hm rfl rfl rfl (beq_eq_false_iff_ne.2 hc_25) fun a hm => s_pick_f hm rfl rfl (beq_eq_false_iff_ne.2 hc_25) rfl fun a hm => s_move hm rfl rfl fun a hm => s_off hm rfl rfl rfl rfl fun a hm => s_off hm rfl rfl rfl rfl fun a hm => s_off hm rfl rfl rfl rfl fun a hm => s_off hm rfl rfl rfl rfl fun a hm => s_off hm rfl rfl rfl rfl fun a hm => ?_
       refine s_pick_f hm rfl rfl rfl rfl fun a hm => s_move hm rfl rfl fun a hm => s_off hm rfl rfl rfl rfl fun a hm => s_off hm rfl rfl rfl rfl fun a hm => s_off hm rfl rfl rfl rfl fun a hm => s_off hm rfl rfl rfl rfl fun a hm => s_off hm rfl rfl rfl rfl fun a hm => s_pick_f hm rfl rfl rfl rfl fun a hm => s_assign hm rfl rfl fun a hm => wpList_nil ?_
       replace hm : Fr 119 a [(4, _)] := hm.keep [4]
       refine x_then_n (hKJ_24 _ _ ?_)
       refine wp_ret (x_block_r (x_then_r ?_))
       obtain rfl := Option.some.inj H
       exact f_ret hm (rs := [.tmp 4]) rfl (.tmp rfl .nil) ⟨_, rfl, Mem.no, rfl, (Sep.sel hS [0] (by decide))⟩
     ·rw [if_neg hc_23] at H
      refine c_cond_f hm rfl (beq_eq_false_iff_ne.2 hc_23) <| wp_seq <| wp_region_lit <| s_cmp (b := (x0.Kind == 8)) hm rfl rfl rfl (.inl ⟨rfl, rfl⟩) fun a hm => s_assign hm rfl rfl fun a hm => wpList_nil ?_
      replace hm : Fr 119 a [(2, _), (3, _), (4, _), (105, .bool (x0.Kind == 8))] := hm.keep [2, 3, 4, 105]
      refine x_then_n ?_
      by_cases hc_36 : x0.Kind = 8
      ·rw [if_pos hc_36] at H
       refine c_cond_t hm rfl (beq_iff_eq.2 hc_36) <| c_seq fun KJ_37 hKJ_37 => wp_region_lit <| s_fieldAddr hm rfl Try.underlying29 rfl ti3 rfl rfl fun a hm => s_load hm rfl rfl (hS.load_one (p := 1) rfl Try.underlying3 rfl rfl) fun a hm => s_fieldAddr hm rfl Try.underlying29 rfl ti3 rfl rfl fun a hm => s_load hm rfl rfl (hS.load_one (p := 2) rfl Try.underlying3 rfl rfl) fun a hm => s_cmp (b := (x0.Index == x1.Index)) hm rfl rfl rfl (.inl ⟨rfl, rfl⟩) fun a hm => s_move hm rfl rfl fun a hm => ?_
       by_cases hc_38 : x0.Index = x1.Index
       ·rw [if_pos hc_38] at H
        refine s_on hm rfl rfl (beq_iff_eq.2 hc_38) <| s_fieldAddr hm rfl Try.underlying29 rfl ti27 rfl rfl fun a hm => s_on hm rfl rfl (beq_iff_eq.2 hc_38) <| s_load hm rfl rfl (hS.load_agg (p := 1) (us := [.int .i64 x0.Entry.Sess, .int .i64 x0.Entry.Seq, .int .i64 x0.Entry.Cmd.Kind, .int .i64 x0.Entry.Cmd.Who, p0_3, p0_4, p0_5]) rfl Try.underlying27 rfl ti27 rfl rfl) fun a hm => s_on hm rfl rfl (beq_iff_eq.2 hc_38) <| s_fieldAddr hm rfl Try.underlying29 rfl ti27 rfl rfl fun a hm => s_on hm rfl rfl (beq_iff_eq.2 hc_38) <| s_load hm rfl rfl (hS.load_agg (p := 2) (us := [.int .i64 x1.Entry.Sess, .int .i64 x1.Entry.Seq, .int .i64 x1.Entry.Cmd.Kind, .int .i64 x1.Entry.Cmd.Who, p1_9, p1_10, p1_11]) rfl Try.underlying27 rfl ti27 rfl rfl) fun a hm => s_on hm rfl rfl (beq_iff_eq.2 hc_38) ?_
        obtain ⟨t_39, et_39, H⟩ := Option.bind_eq_some_iff.1 H
        refine s_call hm rfl Try.call70 rfl (mach_SameEntry.calls x0.Entry _ _ _ x1.Entry _ _ _ t_39 w0 _ _ _ (Mem.le.refl _) (hS.enter [] (by decide)) (hp0_3.mono (hA.trans (hS.le_zed []))) (hp0_4.mono (hA.trans (hS.le_zed []))) (hp0_5.mono (hA.trans (hS.le_zed []))) (hp1_9.mono (hA.trans (hS.le_zed []))) (hp1_10.mono (hA.trans (hS.le_zed []))) (hp1_11.mono (hA.trans (hS.le_zed []))) et_39) ?_
        rintro _ w_40 ⟨N_41, rfl, hS'⟩
        intro a hm
        obtain ⟨N_42, hS'', le_42, ln_42⟩ := hS.call [] (by decide) rfl (l' := []) (ow := []) rfl hS'
        replace hS : Sep w0 w_40 [N_42, _, _] Z := hS''
        clear hS' hS''
        refine s_pick_t hm rfl rfl (beq_iff_eq.2 hc_38) rfl fun a hm => s_assign hm rfl rfl fun a hm => wpList_nil ?_
        replace hm : Fr 119 a [(4, .bool t_39)] := hm.keep [4]
        refine x_then_n (hKJ_37 _ _ ?_)
        refine wp_ret (x_block_r (x_then_r ?_))
        obtain rfl := Option.some.inj H
        exact f_ret hm (rs := [.tmp 4]) rfl (.tmp rfl .nil) ⟨_, rfl, N_42, rfl, (Sep.sel hS [0] (by decide))⟩
       ·rw [if_neg hc_38] at H
        refine s_off hm rfl rfl rfl (beq_eq_false_iff_ne.2 hc_38) fun a hm => s_off hm rfl rfl rfl (beq_eq_false_iff_ne.2 hc_38) fun a hm => s_off hm rfl rfl rfl (beq_eq_false_iff_ne.2 hc_38) fun a hm => s_off hm rfl rfl rfl (beq_eq_false_iff_ne.2 hc_38) fun a hm => s_off hm rfl rfl rfl (beq_eq_false_iff_ne.2 hc_38) fun a hm => s_pick_f hm rfl rfl (beq_eq_false_iff_ne.2 hc_38) rfl fun a hm => s_assign hm rfl rfl fun a hm => wpList_nil ?_
        replace hm : Fr 119 a [(4, _)] := hm.keep [4]
        refine x_then_n (hKJ_37 _ _ ?_)
        refine wp_ret (x_block_r (x_then_r ?_))
        obtain rfl := Option.some.inj H
        exact f_ret hm (rs := [.tmp 4]) rfl (.tmp rfl .nil) ⟨_, rfl, Mem.no, rfl, (Sep.sel hS [0] (by decide))⟩
      ·rw [if_neg hc_36] at H
       refine c_cond_f hm rfl (beq_eq_false_iff_ne.2 hc_36) <| wp_skip <| x_block_n <| x_then_n (hKJ_5 _ _ ?_)
       refine wp_seq <| wp_region_lit <| s_assign hm rfl rfl fun a hm => wpList_nil ?_
       replace hm : Fr 119 a [(4, .bool true)] := hm.keep [4]
       refine x_then_n <| wp_ret ?_
       obtain rfl := Option.some.inj H
       exact f_ret hm (rs := [.tmp 4]) rfl (.tmp rfl .nil) ⟨_, rfl, Mem.no, rfl, (Sep.sel hS [0] (by decide))⟩

set_option maxHeartbeats 4000000 in
set_option maxRecDepth 20000 in
theorem mesg_alike.calls (K : Nat) (x0 : api_Msg) (p0_0 : Value) (p0_1 : Value) (p0_2 : Value) (p0_3 : Value) (p0_4 : Value) (p0_5 : Value) (x1 : api_Msg) (p1_6 : Value) (p1_7 : Value) (p1_8 : Value) (p1_9 : Value) (p1_10 : Value) (p1_11 : Value) (r : Bool) (w0 w : World) (Z A : Mem) (hA : A.le Z) (hS : Sep w0 w [] Z) (hp0_0 : Rd Kd.u8 A p0_0 x0.Data) (hp0_1 : Rd (Kd.int .i64) A p0_1 x0.Have) (hp0_2 : Rd (Kd.int .i64) A p0_2 x0.Need) (hp0_3 : Rd Kd.u8 A p0_3 x0.Entry.Cmd.Key) (hp0_4 : Rd Kd.u8 A p0_4 x0.Entry.Cmd.Val) (hp0_5 : Rd Kd.u8 A p0_5 x0.Entry.Cmd.Old) (hp1_6 : Rd Kd.u8 A p1_6 x1.Data) (hp1_7 : Rd (Kd.int .i64) A p1_7 x1.Have) (hp1_8 : Rd (Kd.int .i64) A p1_8 x1.Need) (hp1_9 : Rd Kd.u8 A p1_9 x1.Entry.Cmd.Key) (hp1_10 : Rd Kd.u8 A p1_10 x1.Entry.Cmd.Val) (hp1_11 : Rd Kd.u8 A p1_11 x1.Entry.Cmd.Old)
    (H : mesg_alike.f K x0 x1 = some r) :
    Calls Try.prog 27 [.agg ([.int .i64 x0.Kind, .int .i64 x0.From, .int .i64 x0.To, .int .i64 x0.View, .int .i64 x0.Inst, .int .i64 x0.Len, .bool x0.Has, .int .i64 x0.Members, .int .i64 x0.Source, .int .i64 x0.At, .int .i64 x0.Total, p0_0, .int .i64 x0.Hop, .int .i64 x0.Seq, p0_1, p0_2, .int .i64 x0.Index, .int .i64 x0.Entry.Sess, .int .i64 x0.Entry.Seq, .int .i64 x0.Entry.Cmd.Kind, .int .i64 x0.Entry.Cmd.Who, p0_3, p0_4, p0_5] : List Value).toArray, .agg ([.int .i64 x1.Kind, .int .i64 x1.From, .int .i64 x1.To, .int .i64 x1.View, .int .i64 x1.Inst, .int .i64 x1.Len, .bool x1.Has, .int .i64 x1.Members, .int .i64 x1.Source, .int .i64 x1.At, .int .i64 x1.Total, p1_6, .int .i64 x1.Hop, .int .i64 x1.Seq, p1_7, p1_8, .int .i64 x1.Index, .int .i64 x1.Entry.Sess, .int .i64 x1.Entry.Seq, .int .i64 x1.Entry.Cmd.Kind, .int .i64 x1.Entry.Cmd.Who, p1_9, p1_10, p1_11] : List Value).toArray].toArray w (Ret fun v w' => ∃ (N : Mem), v = .bool r ∧ Sep w0 w' [N] Z) := by
 unfold mesg_alike.f at H
 refine f_enter _ Try.func27 rfl Try.ntmps27 rfl fun a hm => ?_
 replace hm : Fr 36 a [(0, .agg ([.int .i64 x0.Kind, .int .i64 x0.From, .int .i64 x0.To, .int .i64 x0.View, .int .i64 x0.Inst, .int .i64 x0.Len, .bool x0.Has, .int .i64 x0.Members, .int .i64 x0.Source, .int .i64 x0.At, .int .i64 x0.Total, p0_0, .int .i64 x0.Hop, .int .i64 x0.Seq, p0_1, p0_2, .int .i64 x0.Index, .int .i64 x0.Entry.Sess, .int .i64 x0.Entry.Seq, .int .i64 x0.Entry.Cmd.Kind, .int .i64 x0.Entry.Cmd.Who, p0_3, p0_4, p0_5] : List Value).toArray), (1, .agg ([.int .i64 x1.Kind, .int .i64 x1.From, .int .i64 x1.To, .int .i64 x1.View, .int .i64 x1.Inst, .int .i64 x1.Len, .bool x1.Has, .int .i64 x1.Members, .int .i64 x1.Source, .int .i64 x1.At, .int .i64 x1.Total, p1_6, .int .i64 x1.Hop, .int .i64 x1.Seq, p1_7, p1_8, .int .i64 x1.Index, .int .i64 x1.Entry.Sess, .int .i64 x1.Entry.Seq, .int .i64 x1.Entry.Cmd.Kind, .int .i64 x1.Entry.Cmd.Who, p1_9, p1_10, p1_11] : List Value).toArray)] := hm
 replace hS := hS.start
 replace hS : Sep w0 w [_] Z := hS
 refine wp_seq <| wp_region_lit <| v_box (vs := [.int .i64 x0.Kind, .int .i64 x0.From, .int .i64 x0.To, .int .i64 x0.View, .int .i64 x0.Inst, .int .i64 x0.Len, .bool x0.Has, .int .i64 x0.Members, .int .i64 x0.Source, .int .i64 x0.At, .int .i64 x0.Total, p0_0, .int .i64 x0.Hop, .int .i64 x0.Seq, p0_1, p0_2, .int .i64 x0.Index, .int .i64 x0.Entry.Sess, .int .i64 x0.Entry.Seq, .int .i64 x0.Entry.Cmd.Kind, .int .i64 x0.Entry.Cmd.Who, p0_3, p0_4, p0_5]) hm rfl rfl rfl hS fun w_1 g_2 hS' a hm => ?_
 replace hS : Sep w0 w_1 [_, Mem.one g_2 (.cells ([.int .i64 x0.Kind, .int .i64 x0.From, .int .i64 x0.To, .int .i64 x0.View, .int .i64 x0.Inst, .int .i64 x0.Len, .bool x0.Has, .int .i64 x0.Members, .int .i64 x0.Source, .int .i64 x0.At, .int .i64 x0.Total, p0_0, .int .i64 x0.Hop, .int .i64 x0.Seq, p0_1, p0_2, .int .i64 x0.Index, .int .i64 x0.Entry.Sess, .int .i64 x0.Entry.Seq, .int .i64 x0.Entry.Cmd.Kind, .int .i64 x0.Entry.Cmd.Who, p0_3, p0_4, p0_5] : List Value).toArray 29 (0, 0))] Z := hS'
 clear hS'
 refine v_box (vs := [.int .i64 x1.Kind, .int .i64 x1.From, .int .i64 x1.To, .int .i64 x1.View, .int .i64 x1.Inst, .int .i64 x1.Len, .bool x1.Has, .int .i64 x1.Members, .int .i64 x1.Source, .int .i64 x1.At, .int .i64 x1.Total, p1_6, .int .i64 x1.Hop, .int .i64 x1.Seq, p1_7, p1_8, .int .i64 x1.Index, .int .i64 x1.Entry.Sess, .int .i64 x1.Entry.Seq, .int .i64 x1.Entry.Cmd.Kind, .int .i64 x1.Entry.Cmd.Who, p1_9, p1_10, p1_11]) hm rfl rfl rfl hS fun w_3 g_4 hS' a hm => ?_
 replace hS : Sep w0 w_3 [_, _, Mem.one g_4 (.cells ([.int .i64 x1.Kind, .int .i64 x1.From, .int .i64 x1.To, .int .i64 x1.View, .int .i64 x1.Inst, .int .i64 x1.Len, .bool x1.Has, .int .i64 x1.Members, .int .i64 x1.Source, .int .i64 x1.At, .int .i64 x1.Total, p1_6, .int .i64 x1.Hop, .int .i64 x1.Seq, p1_7, p1_8, .int .i64 x1.Index, .int .i64 x1.Entry.Sess, .int .i64 x1.Entry.Seq, .int .i64 x1.Entry.Cmd.Kind, .int .i64 x1.Entry.Cmd.Who, p1_9, p1_10, p1_11] : List Value).toArray 29 (0, 0))] Z := hS'
 clear hS'
 refine s_assign hm rfl rfl fun a hm => wpList_nil ?_
 replace hm : Fr 36 a [(2, .pointer (some ⟨g_2, 0, none⟩)), (3, .pointer (some ⟨g_4, 0, none⟩)), (4, .bool false)] := hm.keep [2, 3, 4]
 refine x_then_n <| c_seq fun KJ_5 hKJ_5 => wp_region_lit <| s_fieldAddr hm rfl Try.underlying29 rfl ti3 rfl rfl fun a hm => s_load hm rfl rfl (hS.load_one (p := 1) rfl Try.underlying3 rfl rfl) fun a hm => s_fieldAddr hm rfl Try.underlying29 rfl ti3 rfl rfl fun a hm => s_load hm rfl rfl (hS.load_one (p := 2) rfl Try.underlying3 rfl rfl) fun a hm => s_cmp (b := (x0.Kind == x1.Kind)) hm rfl rfl rfl (.inl ⟨rfl, rfl⟩) fun a hm => s_move hm rfl rfl fun a hm => ?_
 by_cases hc_6 : x0.Kind = x1.Kind
 ·rw [if_pos hc_6] at H
  refine s_on hm rfl rfl (beq_iff_eq.2 hc_6) <| s_fieldAddr hm rfl Try.underlying29 rfl ti3 rfl rfl fun a hm => s_on hm rfl rfl (beq_iff_eq.2 hc_6) <| s_load hm rfl rfl (hS.load_one (p := 1) rfl Try.underlying3 rfl rfl) fun a hm => s_on hm rfl rfl (beq_iff_eq.2 hc_6) <| s_fieldAddr hm rfl Try.underlying29 rfl ti3 rfl rfl fun a hm => s_on hm rfl rfl (beq_iff_eq.2 hc_6) <| s_load hm rfl rfl (hS.load_one (p := 2) rfl Try.underlying3 rfl rfl) fun a hm => s_on hm rfl rfl (beq_iff_eq.2 hc_6) <| s_cmp (b := (x0.From == x1.From)) hm rfl rfl rfl (.inl ⟨rfl, rfl⟩) fun a hm => s_pick_t hm rfl rfl (beq_iff_eq.2 hc_6) rfl fun a hm => s_move hm rfl rfl fun a hm => ?_
  by_cases hc_7 : x0.From = x1.From
  ·rw [if_pos hc_7] at H
   refine s_on hm rfl rfl (beq_iff_eq.2 hc_7) <| s_fieldAddr hm rfl Try.underlying29 rfl ti3 rfl rfl fun a hm => s_on hm rfl rfl (beq_iff_eq.2 hc_7) <| s_load hm rfl rfl (hS.load_one (p := 1) rfl Try.underlying3 rfl rfl) fun a hm => s_on hm rfl rfl (beq_iff_eq.2 hc_7) <| s_fieldAddr hm rfl Try.underlying29 rfl ti3 rfl rfl fun a hm => s_on hm rfl rfl (beq_iff_eq.2 hc_7) <| s_load hm rfl rfl (hS.load_one (p := 2) rfl Try.underlying3 rfl rfl) fun a hm => s_on hm rfl rfl (beq_iff_eq.2 hc_7) <| s_cmp (b := (x0.To == x1.To)) hm rfl rfl rfl (.inl ⟨rfl, rfl⟩) fun a hm => s_pick_t hm rfl rfl (beq_iff_eq.2 hc_7) rfl fun a hm => s_move hm rfl rfl fun a hm => ?_
   by_cases hc_8 : x0.To = x1.To
   ·rw [if_pos hc_8] at H
    refine s_on hm rfl rfl (beq_iff_eq.2 hc_8) <| s_fieldAddr hm rfl Try.underlying29 rfl ti3 rfl rfl fun a hm => s_on hm rfl rfl (beq_iff_eq.2 hc_8) <| s_load hm rfl rfl (hS.load_one (p := 1) rfl Try.underlying3 rfl rfl) fun a hm => s_on hm rfl rfl (beq_iff_eq.2 hc_8) <| s_fieldAddr hm rfl Try.underlying29 rfl ti3 rfl rfl fun a hm => s_on hm rfl rfl (beq_iff_eq.2 hc_8) <| s_load hm rfl rfl (hS.load_one (p := 2) rfl Try.underlying3 rfl rfl) fun a hm => s_on hm rfl rfl (beq_iff_eq.2 hc_8) <| s_cmp (b := (x0.View == x1.View)) hm rfl rfl rfl (.inl ⟨rfl, rfl⟩) fun a hm => s_pick_t hm rfl rfl (beq_iff_eq.2 hc_8) rfl fun a hm => s_move hm rfl rfl fun a hm => ?_
    by_cases hc_9 : x0.View = x1.View
    ·rw [if_pos hc_9] at H
     refine s_on hm rfl rfl (beq_iff_eq.2 hc_9) <| s_load hm rfl rfl (hS.load_agg (p := 1) (us := [.int .i64 x0.Kind, .int .i64 x0.From, .int .i64 x0.To, .int .i64 x0.View, .int .i64 x0.Inst, .int .i64 x0.Len, .bool x0.Has, .int .i64 x0.Members, .int .i64 x0.Source, .int .i64 x0.At, .int .i64 x0.Total, p0_0, .int .i64 x0.Hop, .int .i64 x0.Seq, p0_1, p0_2, .int .i64 x0.Index, .int .i64 x0.Entry.Sess, .int .i64 x0.Entry.Seq, .int .i64 x0.Entry.Cmd.Kind, .int .i64 x0.Entry.Cmd.Who, p0_3, p0_4, p0_5]) rfl Try.underlying29 rfl ti29 rfl rfl) fun a hm => s_on hm rfl rfl (beq_iff_eq.2 hc_9) <| s_load hm rfl rfl (hS.load_agg (p := 2) (us := [.int .i64 x1.Kind, .int .i64 x1.From, .int .i64 x1.To, .int .i64 x1.View, .int .i64 x1.Inst, .int .i64 x1.Len, .bool x1.Has, .int .i64 x1.Members, .int .i64 x1.Source, .int .i64 x1.At, .int .i64 x1.Total, p1_6, .int .i64 x1.Hop, .int .i64 x1.Seq, p1_7, p1_8, .int .i64 x1.Index, .int .i64 x1.Entry.Sess, .int .i64 x1.Entry.Seq, .int .i64 x1.Entry.Cmd.Kind, .int .i64 x1.Entry.Cmd.Who, p1_9, p1_10, p1_11]) rfl Try.underlying29 rfl ti29 rfl rfl) fun a hm => s_on hm rfl rfl (beq_iff_eq.2 hc_9) ?_
     obtain ⟨t_10, et_10, H⟩ := Option.bind_eq_some_iff.1 H
     refine s_call hm rfl Try.call56 rfl (mesg_fields.calls K x0 _ _ _ _ _ _ x1 _ _ _ _ _ _ t_10 w0 _ _ _ (Mem.le.refl _) (hS.enter [] (by decide)) (hp0_0.mono (hA.trans (hS.le_zed []))) (hp0_1.mono (hA.trans (hS.le_zed []))) (hp0_2.mono (hA.trans (hS.le_zed []))) (hp0_3.mono (hA.trans (hS.le_zed []))) (hp0_4.mono (hA.trans (hS.le_zed []))) (hp0_5.mono (hA.trans (hS.le_zed []))) (hp1_6.mono (hA.trans (hS.le_zed []))) (hp1_7.mono (hA.trans (hS.le_zed []))) (hp1_8.mono (hA.trans (hS.le_zed []))) (hp1_9.mono (hA.trans (hS.le_zed []))) (hp1_10.mono (hA.trans (hS.le_zed []))) (hp1_11.mono (hA.trans (hS.le_zed []))) et_10) ?_
     rintro _ w_11 ⟨N_12, rfl, hS'⟩
     intro a hm
     obtain ⟨N_13, hS'', le_13, ln_13⟩ := hS.call [] (by decide) rfl (l' := []) (ow := []) rfl hS'
     replace hS : Sep w0 w_11 [N_13, _, _] Z := hS''
     clear hS' hS''
     refine s_pick_t hm rfl rfl (beq_iff_eq.2 hc_9) rfl fun a hm => s_assign hm rfl rfl fun a hm => wpList_nil ?_
     replace hm : Fr 36 a [(4, .bool t_10)] := hm.keep [4]
     refine x_then_n (hKJ_5 _ _ ?_)
     refine wp_ret ?_
     obtain rfl := Option.some.inj H
     exact f_ret hm (rs := [.tmp 4]) rfl (.tmp rfl .nil) ⟨_, rfl, N_13, rfl, (Sep.sel hS [0] (by decide))⟩
    ·rw [if_neg hc_9] at H
     refine s_off hm rfl rfl rfl (beq_eq_false_iff_ne.2 hc_9) fun a hm => s_off hm rfl rfl rfl (beq_eq_false_iff_ne.2 hc_9) fun a hm => s_off hm rfl rfl rfl (beq_eq_false_iff_ne.2 hc_9) fun a hm => s_pick_f hm rfl rfl (beq_eq_false_iff_ne.2 hc_9) rfl fun a hm => s_assign hm rfl rfl fun a hm => wpList_nil ?_
     replace hm : Fr 36 a [(4, _)] := hm.keep [4]
     refine x_then_n (hKJ_5 _ _ ?_)
     refine wp_ret ?_
     obtain rfl := Option.some.inj H
     exact f_ret hm (rs := [.tmp 4]) rfl (.tmp rfl .nil) ⟨_, rfl, Mem.no, rfl, (Sep.sel hS [0] (by decide))⟩
   ·rw [if_neg hc_8] at H
    refine s_off hm rfl rfl rfl (beq_eq_false_iff_ne.2 hc_8) fun a hm => s_off hm rfl rfl rfl (beq_eq_false_iff_ne.2 hc_8) fun a hm => s_off hm rfl rfl rfl (beq_eq_false_iff_ne.2 hc_8) fun a hm => s_off hm rfl rfl rfl (beq_eq_false_iff_ne.2 hc_8) fun a hm => s_off hm rfl rfl rfl (beq_eq_false_iff_ne.2 hc_8) fun a hm => s_pick_f hm rfl rfl (beq_eq_false_iff_ne.2 hc_8) rfl fun a hm => s_move hm rfl rfl fun a hm => s_off hm rfl rfl rfl rfl fun a hm => s_off hm rfl rfl rfl rfl fun a hm => s_off hm rfl rfl rfl rfl fun a hm => s_pick_f hm rfl rfl rfl rfl fun a hm => s_assign hm rfl rfl fun a hm => ?_
    refine wpList_nil ?_
    replace hm : Fr 36 a [(4, _)] := hm.keep [4]
    refine x_then_n (hKJ_5 _ _ ?_)
    refine wp_ret ?_
    obtain rfl := Option.some.inj H
    exact f_ret hm (rs := [.tmp 4]) rfl (.tmp rfl .nil) ⟨_, rfl, Mem.no, rfl, (Sep.sel hS [0] (by decide))⟩
  ·rw [if_neg hc_7] at H
   refine s_off hm rfl rfl rfl (beq_eq_false_iff_ne.2 hc_7) fun a hm => s_off hm rfl rfl rfl (beq_eq_false_iff_ne.2 hc_7) fun a hm => s_off hm rfl rfl rfl (beq_eq_false_iff_ne.2 hc_7) fun a hm => s_off hm rfl rfl rfl (beq_eq_false_iff_ne.2 hc_7) fun a hm => s_off hm rfl rfl rfl (beq_eq_false_iff_ne.2 hc_7) fun a hm => s_pick_f hm rfl rfl (beq_eq_false_iff_ne.2 hc_7) rfl fun a hm => s_move hm rfl rfl fun a hm => s_off hm rfl rfl rfl rfl fun a hm => s_off hm rfl rfl rfl rfl fun a hm => s_off hm rfl rfl rfl rfl fun a hm => s_off hm rfl rfl rfl rfl fun a hm => s_off hm rfl rfl rfl rfl fun a hm => ?_
   refine s_pick_f hm rfl rfl rfl rfl fun a hm => s_move hm rfl rfl fun a hm => s_off hm rfl rfl rfl rfl fun a hm => s_off hm rfl rfl rfl rfl fun a hm => s_off hm rfl rfl rfl rfl fun a hm => s_pick_f hm rfl rfl rfl rfl fun a hm => s_assign hm rfl rfl fun a hm => wpList_nil ?_
   replace hm : Fr 36 a [(4, _)] := hm.keep [4]
   refine x_then_n (hKJ_5 _ _ ?_)
   refine wp_ret ?_
   obtain rfl := Option.some.inj H
   exact f_ret hm (rs := [.tmp 4]) rfl (.tmp rfl .nil) ⟨_, rfl, Mem.no, rfl, (Sep.sel hS [0] (by decide))⟩
 ·rw [if_neg hc_6] at H
  refine s_off hm rfl rfl rfl (beq_eq_false_iff_ne.2 hc_6) fun a hm => s_off hm rfl rfl rfl (beq_eq_false_iff_ne.2 hc_6) fun a hm => s_off hm rfl rfl rfl (beq_eq_false_iff_ne.2 hc_6) fun a hm => s_off hm rfl rfl rfl (beq_eq_false_iff_ne.2 hc_6) fun a hm => s_off hm rfl rfl rfl (beq_eq_false_iff_ne.2 hc_6) fun a hm => s_pick_f hm rfl rfl (beq_eq_false_iff_ne.2 hc_6) rfl fun a hm => s_move hm rfl rfl fun a hm => s_off hm rfl rfl rfl rfl fun a hm => s_off hm rfl rfl rfl rfl fun a hm => s_off hm rfl rfl rfl rfl fun a hm => s_off hm rfl rfl rfl rfl fun a hm => s_off hm rfl rfl rfl rfl fun a hm => ?_
  refine s_pick_f hm rfl rfl rfl rfl fun a hm => s_move hm rfl rfl fun a hm => s_off hm rfl rfl rfl rfl fun a hm => s_off hm rfl rfl rfl rfl fun a hm => s_off hm rfl rfl rfl rfl fun a hm => s_off hm rfl rfl rfl rfl fun a hm => s_off hm rfl rfl rfl rfl fun a hm => s_pick_f hm rfl rfl rfl rfl fun a hm => s_move hm rfl rfl fun a hm => s_off hm rfl rfl rfl rfl fun a hm => s_off hm rfl rfl rfl rfl fun a hm => s_off hm rfl rfl rfl rfl fun a hm => ?_
  refine s_pick_f hm rfl rfl rfl rfl fun a hm => s_assign hm rfl rfl fun a hm => wpList_nil ?_
  replace hm : Fr 36 a [(4, _)] := hm.keep [4]
  refine x_then_n (hKJ_5 _ _ ?_)
  refine wp_ret ?_
  obtain rfl := Option.some.inj H
  exact f_ret hm (rs := [.tmp 4]) rfl (.tmp rfl .nil) ⟨_, rfl, Mem.no, rfl, (Sep.sel hS [0] (by decide))⟩

set_option maxHeartbeats 4000000 in
set_option maxRecDepth 20000 in
theorem mesg_Decode.calls (K : Nat) (x0 : List UInt8) (p0_0 : Value) (r : api_Msg × Bool) (w0 w : World) (Z A : Mem) (hA : A.le Z) (hS : Sep w0 w [] Z) (hp0_0 : Rd Kd.u8 A p0_0 x0)
    (H : mesg_Decode.f K x0 = some r) :
    Calls Try.prog 12 [p0_0].toArray w (Ret fun v w' => ∃ (u0 : Value) (u1 : Value) (u2 : Value) (u3 : Value) (u4 : Value) (u5 : Value) (N : Mem) (M0 : Mem) (M1 : Mem) (M2 : Mem) (M3 : Mem) (M4 : Mem) (M5 : Mem), v = .tuple [.agg [.int .i64 r.1.Kind, .int .i64 r.1.From, .int .i64 r.1.To, .int .i64 r.1.View, .int .i64 r.1.Inst, .int .i64 r.1.Len, .bool r.1.Has, .int .i64 r.1.Members, .int .i64 r.1.Source, .int .i64 r.1.At, .int .i64 r.1.Total, u0, .int .i64 r.1.Hop, .int .i64 r.1.Seq, u1, u2, .int .i64 r.1.Index, .int .i64 r.1.Entry.Sess, .int .i64 r.1.Entry.Seq, .int .i64 r.1.Entry.Cmd.Kind, .int .i64 r.1.Entry.Cmd.Who, u3, u4, u5].toArray, .bool r.2].toArray ∧ Sep w0 w' [N, M0, M1, M2, M3, M4, M5] Z ∧ Own Kd.u8 5 M0 Mem.no u0 r.1.Data ∧ Own (Kd.int .i64) 3 M1 Mem.no u1 r.1.Have ∧ Own (Kd.int .i64) 3 M2 Mem.no u2 r.1.Need ∧ Own Kd.u8 5 M3 Mem.no u3 r.1.Entry.Cmd.Key ∧ Own Kd.u8 5 M4 Mem.no u4 r.1.Entry.Cmd.Val ∧ Own Kd.u8 5 M5 Mem.no u5 r.1.Entry.Cmd.Old) := by
 unfold mesg_Decode.f at H
 refine f_enter _ Try.func12 rfl Try.ntmps12 rfl fun a hm => ?_
 replace hm : Fr 15 a [(0, p0_0)] := hm
 replace hS := hS.start
 replace hS : Sep w0 w [_] Z := hS
 refine wp_seq <| wp_region_lit <| v_alloc hm rfl ti29 hS fun w_1 g_2 hS' a hm => ?_
 replace hS : Sep w0 w_1 [_, Mem.one g_2 (.cells ([.int .i64 0, .int .i64 0, .int .i64 0, .int .i64 0, .int .i64 0, .int .i64 0, .bool false, .int .i64 0, .int .i64 0, .int .i64 0, .int .i64 0, .slice none 0 0, .int .i64 0, .int .i64 0, .slice none 0 0, .slice none 0 0, .int .i64 0, .int .i64 0, .int .i64 0, .int .i64 0, .int .i64 0, .slice none 0 0, .slice none 0 0, .slice none 0 0] : List Value).toArray 29 (0, 0))] Z := hS'
 clear hS'
 refine s_assign hm rfl rfl fun a hm => wpList_nil ?_
 replace hm : Fr 15 a [(0, _), (2, .pointer (some ⟨g_2, 0, none⟩)), (3, .bool false)] := hm.keep [0, 2, 3]
 refine x_then_n <| wp_seq <| wp_region_lit <| s_move hm rfl rfl fun a hm => ?_
 obtain ⟨t_3, et_3, H⟩ := Option.bind_eq_some_iff.1 H
 refine s_call hm rfl Try.call26 rfl (mesg_read.calls K x0 _ t_3 w0 _ _ _ (Mem.le.refl _) (hS.enter [] (by decide)) (hp0_0.mono (hA.trans (hS.le_zed []))) et_3) ?_
 rintro _ w_4 ⟨v_7, v_11, v_15, v_19, v_23, v_27, N_5, M_9, M_13, M_17, M_21, M_25, M_29, rfl, hS', hr_8, hr_12, hr_16, hr_20, hr_24, hr_28⟩
 intro a hm
 obtain ⟨N_6, hS'', le_6, ln_6⟩ := hS.call [] (by decide) rfl (l' := []) (ow := [M_9, M_13, M_17, M_21, M_25, M_29]) rfl hS'
 replace hS : Sep w0 w_4 [N_6, _, M_9, M_13, M_17, M_21, M_25, M_29] Z := hS''
 clear hS' hS''
 refine s_move hm rfl rfl fun a hm => s_extract hm rfl rfl rfl fun a hm => s_extract hm rfl rfl rfl fun a hm => v_alloc hm rfl ti29 hS fun w_31 g_32 hS' a hm => ?_
 replace hS : Sep w0 w_31 [_, _, _, _, _, _, _, _, Mem.one g_32 (.cells ([.int .i64 0, .int .i64 0, .int .i64 0, .int .i64 0, .int .i64 0, .int .i64 0, .bool false, .int .i64 0, .int .i64 0, .int .i64 0, .int .i64 0, .slice none 0 0, .int .i64 0, .int .i64 0, .slice none 0 0, .slice none 0 0, .int .i64 0, .int .i64 0, .int .i64 0, .int .i64 0, .int .i64 0, .slice none 0 0, .slice none 0 0, .slice none 0 0] : List Value).toArray 29 (0, 0))] Z := hS'
 clear hS'
 obtain ⟨w_33, hs', hS'⟩ := hS.store (P := Try.prog) (p := 8) (o := 0) (t := 29) (v := .agg ([.int .i64 t_3.1.Kind, .int .i64 t_3.1.From, .int .i64 t_3.1.To, .int .i64 t_3.1.View, .int .i64 t_3.1.Inst, .int .i64 t_3.1.Len, .bool t_3.1.Has, .int .i64 t_3.1.Members, .int .i64 t_3.1.Source, .int .i64 t_3.1.At, .int .i64 t_3.1.Total, v_7, .int .i64 t_3.1.Hop, .int .i64 t_3.1.Seq, v_11, v_15, .int .i64 t_3.1.Index, .int .i64 t_3.1.Entry.Sess, .int .i64 t_3.1.Entry.Seq, .int .i64 t_3.1.Entry.Cmd.Kind, .int .i64 t_3.1.Entry.Cmd.Who, v_19, v_23, v_27] : List Value).toArray) (vs := [.int .i64 t_3.1.Kind, .int .i64 t_3.1.From, .int .i64 t_3.1.To, .int .i64 t_3.1.View, .int .i64 t_3.1.Inst, .int .i64 t_3.1.Len, .bool t_3.1.Has, .int .i64 t_3.1.Members, .int .i64 t_3.1.Source, .int .i64 t_3.1.At, .int .i64 t_3.1.Total, v_7, .int .i64 t_3.1.Hop, .int .i64 t_3.1.Seq, v_11, v_15, .int .i64 t_3.1.Index, .int .i64 t_3.1.Entry.Sess, .int .i64 t_3.1.Entry.Seq, .int .i64 t_3.1.Entry.Cmd.Kind, .int .i64 t_3.1.Entry.Cmd.Who, v_19, v_23, v_27]) rfl ti29 rfl rfl rfl (by intro u hu; simp only [List.mem_cons, List.not_mem_nil, or_false] at hu; rcases hu with rfl | rfl | rfl | rfl | rfl | rfl | rfl | rfl | rfl | rfl | rfl | rfl | rfl | rfl | rfl | rfl | rfl | rfl | rfl | rfl | rfl | rfl | rfl | rfl <;> first | rfl | exact hr_8.one | exact hr_12.one | exact hr_16.one | exact hr_20.one | exact hr_24.one | exact hr_28.one)
 refine s_store hm rfl rfl hs' ?_
 replace hS : Sep w0 w_33 [_, _, _, _, _, _, _, _, Mem.one g_32 (.cells ([.int .i64 t_3.1.Kind, .int .i64 t_3.1.From, .int .i64 t_3.1.To, .int .i64 t_3.1.View, .int .i64 t_3.1.Inst, .int .i64 t_3.1.Len, .bool t_3.1.Has, .int .i64 t_3.1.Members, .int .i64 t_3.1.Source, .int .i64 t_3.1.At, .int .i64 t_3.1.Total, v_7, .int .i64 t_3.1.Hop, .int .i64 t_3.1.Seq, v_11, v_15, .int .i64 t_3.1.Index, .int .i64 t_3.1.Entry.Sess, .int .i64 t_3.1.Entry.Seq, .int .i64 t_3.1.Entry.Cmd.Kind, .int .i64 t_3.1.Entry.Cmd.Who, v_19, v_23, v_27] : List Value).toArray 29 (0, 0))] Z := hS'
 clear hs' hS'
 refine s_assign hm rfl rfl fun a hm => wpList_nil ?_
 replace hm : Fr 15 a [(2, _), (3, _), (4, .pointer (some ⟨g_32, 0, none⟩)), (5, .bool t_3.2)] := hm.keep [2, 3, 4, 5]
 refine x_then_n <| c_seq fun KJ_34 hKJ_34 => wp_seq <| wp_region_lit <| s_move hm rfl rfl fun a hm => s_not hm rfl rfl fun a hm => wpList_nil ?_
 replace hm : Fr 15 a [(2, _), (3, _), (4, _), (12, .bool (!t_3.2))] := hm.keep [2, 3, 4, 12]
 refine x_then_n ?_
 by_cases hc_35 : t_3.2 = true
 ·rw [if_pos hc_35] at H
  refine c_cond_f hm rfl (nf hc_35) <| wp_skip <| x_then_n (hKJ_34 _ _ ?_)
  refine wp_seq <| wp_region_lit <| s_load hm rfl rfl (hS.load_agg (p := 8) (us := [.int .i64 t_3.1.Kind, .int .i64 t_3.1.From, .int .i64 t_3.1.To, .int .i64 t_3.1.View, .int .i64 t_3.1.Inst, .int .i64 t_3.1.Len, .bool t_3.1.Has, .int .i64 t_3.1.Members, .int .i64 t_3.1.Source, .int .i64 t_3.1.At, .int .i64 t_3.1.Total, v_7, .int .i64 t_3.1.Hop, .int .i64 t_3.1.Seq, v_11, v_15, .int .i64 t_3.1.Index, .int .i64 t_3.1.Entry.Sess, .int .i64 t_3.1.Entry.Seq, .int .i64 t_3.1.Entry.Cmd.Kind, .int .i64 t_3.1.Entry.Cmd.Who, v_19, v_23, v_27]) rfl Try.underlying29 rfl ti29 rfl rfl) fun a hm => ?_
  obtain ⟨w_36, hs', hS'⟩ := hS.store (P := Try.prog) (p := 1) (o := 0) (t := 29) (v := .agg ([.int .i64 t_3.1.Kind, .int .i64 t_3.1.From, .int .i64 t_3.1.To, .int .i64 t_3.1.View, .int .i64 t_3.1.Inst, .int .i64 t_3.1.Len, .bool t_3.1.Has, .int .i64 t_3.1.Members, .int .i64 t_3.1.Source, .int .i64 t_3.1.At, .int .i64 t_3.1.Total, v_7, .int .i64 t_3.1.Hop, .int .i64 t_3.1.Seq, v_11, v_15, .int .i64 t_3.1.Index, .int .i64 t_3.1.Entry.Sess, .int .i64 t_3.1.Entry.Seq, .int .i64 t_3.1.Entry.Cmd.Kind, .int .i64 t_3.1.Entry.Cmd.Who, v_19, v_23, v_27] : List Value).toArray) (vs := [.int .i64 t_3.1.Kind, .int .i64 t_3.1.From, .int .i64 t_3.1.To, .int .i64 t_3.1.View, .int .i64 t_3.1.Inst, .int .i64 t_3.1.Len, .bool t_3.1.Has, .int .i64 t_3.1.Members, .int .i64 t_3.1.Source, .int .i64 t_3.1.At, .int .i64 t_3.1.Total, v_7, .int .i64 t_3.1.Hop, .int .i64 t_3.1.Seq, v_11, v_15, .int .i64 t_3.1.Index, .int .i64 t_3.1.Entry.Sess, .int .i64 t_3.1.Entry.Seq, .int .i64 t_3.1.Entry.Cmd.Kind, .int .i64 t_3.1.Entry.Cmd.Who, v_19, v_23, v_27]) rfl ti29 rfl rfl rfl (by intro u hu; simp only [List.mem_cons, List.not_mem_nil, or_false] at hu; rcases hu with rfl | rfl | rfl | rfl | rfl | rfl | rfl | rfl | rfl | rfl | rfl | rfl | rfl | rfl | rfl | rfl | rfl | rfl | rfl | rfl | rfl | rfl | rfl | rfl <;> first | rfl | exact hr_8.one | exact hr_12.one | exact hr_16.one | exact hr_20.one | exact hr_24.one | exact hr_28.one)
  refine s_store hm rfl rfl hs' ?_
  replace hS : Sep w0 w_36 [_, Mem.one g_2 (.cells ([.int .i64 t_3.1.Kind, .int .i64 t_3.1.From, .int .i64 t_3.1.To, .int .i64 t_3.1.View, .int .i64 t_3.1.Inst, .int .i64 t_3.1.Len, .bool t_3.1.Has, .int .i64 t_3.1.Members, .int .i64 t_3.1.Source, .int .i64 t_3.1.At, .int .i64 t_3.1.Total, v_7, .int .i64 t_3.1.Hop, .int .i64 t_3.1.Seq, v_11, v_15, .int .i64 t_3.1.Index, .int .i64 t_3.1.Entry.Sess, .int .i64 t_3.1.Entry.Seq, .int .i64 t_3.1.Entry.Cmd.Kind, .int .i64 t_3.1.Entry.Cmd.Who, v_19, v_23, v_27] : List Value).toArray 29 (0, 0)), _, _, _, _, _, _, _] Z := hS'
  clear hs' hS'
  refine s_assign hm rfl rfl fun a hm => wpList_nil ?_
  replace hm : Fr 15 a [(2, _), (3, .bool true)] := hm.keep [2, 3]
  refine x_then_n <| wp_ret ?_
  obtain rfl := Option.some.inj H
  exact f_ret hm (rs := [.cell 2 29, .tmp 3]) rfl (.cell rfl (hS.load_agg (p := 1) (us := [.int .i64 t_3.1.Kind, .int .i64 t_3.1.From, .int .i64 t_3.1.To, .int .i64 t_3.1.View, .int .i64 t_3.1.Inst, .int .i64 t_3.1.Len, .bool t_3.1.Has, .int .i64 t_3.1.Members, .int .i64 t_3.1.Source, .int .i64 t_3.1.At, .int .i64 t_3.1.Total, v_7, .int .i64 t_3.1.Hop, .int .i64 t_3.1.Seq, v_11, v_15, .int .i64 t_3.1.Index, .int .i64 t_3.1.Entry.Sess, .int .i64 t_3.1.Entry.Seq, .int .i64 t_3.1.Entry.Cmd.Kind, .int .i64 t_3.1.Entry.Cmd.Who, v_19, v_23, v_27]) rfl Try.underlying29 rfl ti29 rfl rfl) (.tmp rfl .nil)) ⟨_, rfl, v_7, v_11, v_15, v_19, v_23, v_27, N_6, M_9, M_13, M_17, M_21, M_25, M_29, rfl, (Sep.sel hS [0, 2, 3, 4, 5, 6, 7] (by decide)), hr_8, hr_12, hr_16, hr_20, hr_24, hr_28⟩
 ·rw [if_neg hc_35] at H
  refine c_cond_t hm rfl (nt (Bool.eq_false_iff.2 hc_35)) <| wp_seq <| wp_region_lit <| s_build hm rfl ti29 pl29 rfl .nil (cs := [.int .i64 0, .int .i64 0, .int .i64 0, .int .i64 0, .int .i64 0, .int .i64 0, .bool false, .int .i64 0, .int .i64 0, .int .i64 0, .int .i64 0, .slice none 0 0, .int .i64 0, .int .i64 0, .slice none 0 0, .slice none 0 0, .int .i64 0, .int .i64 0, .int .i64 0, .int .i64 0, .int .i64 0, .slice none 0 0, .slice none 0 0, .slice none 0 0]) (by kernel_rfl) fun a hm => ?_
  obtain ⟨w_37, hs', hS'⟩ := hS.store (P := Try.prog) (p := 1) (o := 0) (t := 29) (v := .agg ([.int .i64 0, .int .i64 0, .int .i64 0, .int .i64 0, .int .i64 0, .int .i64 0, .bool false, .int .i64 0, .int .i64 0, .int .i64 0, .int .i64 0, .slice none 0 0, .int .i64 0, .int .i64 0, .slice none 0 0, .slice none 0 0, .int .i64 0, .int .i64 0, .int .i64 0, .int .i64 0, .int .i64 0, .slice none 0 0, .slice none 0 0, .slice none 0 0] : List Value).toArray) (vs := [.int .i64 0, .int .i64 0, .int .i64 0, .int .i64 0, .int .i64 0, .int .i64 0, .bool false, .int .i64 0, .int .i64 0, .int .i64 0, .int .i64 0, .slice none 0 0, .int .i64 0, .int .i64 0, .slice none 0 0, .slice none 0 0, .int .i64 0, .int .i64 0, .int .i64 0, .int .i64 0, .int .i64 0, .slice none 0 0, .slice none 0 0, .slice none 0 0]) rfl ti29 rfl rfl rfl (by intro u hu; simp only [List.mem_cons, List.not_mem_nil, or_false] at hu; rcases hu with rfl | rfl | rfl | rfl | rfl | rfl | rfl | rfl | rfl | rfl | rfl | rfl | rfl | rfl | rfl | rfl | rfl | rfl | rfl | rfl | rfl | rfl | rfl | rfl <;> rfl)
  refine s_store hm rfl rfl hs' ?_
  replace hS : Sep w0 w_37 [_, _, _, _, _, _, _, _, _] Z := hS'
  clear hs' hS'
  refine s_assign hm rfl rfl fun a hm => wpList_nil ?_
  replace hm : Fr 15 a [(2, _), (3, _), (4, _)] := hm.keep [2, 3, 4]
  refine x_then_n <| wp_ret (x_then_r ?_)
  have hS' := hS.room
  replace hS : Sep w0 w_37 [_, _, _, _, _, _, _, _, _, Mem.no] Z := hS'
  clear hS'
  replace hS : Sep w0 w_37 [_, _, _, _, _, _, _, _, _, _] Z := hS
  have hS' := hS.room
  replace hS : Sep w0 w_37 [_, _, _, _, _, _, _, _, _, _, Mem.no] Z := hS'
  clear hS'
  replace hS : Sep w0 w_37 [_, _, _, _, _, _, _, _, _, _, _] Z := hS
  have hS' := hS.room
  replace hS : Sep w0 w_37 [_, _, _, _, _, _, _, _, _, _, _, Mem.no] Z := hS'
  clear hS'
  replace hS : Sep w0 w_37 [_, _, _, _, _, _, _, _, _, _, _, _] Z := hS
  have hS' := hS.room
  replace hS : Sep w0 w_37 [_, _, _, _, _, _, _, _, _, _, _, _, Mem.no] Z := hS'
  clear hS'
  replace hS : Sep w0 w_37 [_, _, _, _, _, _, _, _, _, _, _, _, _] Z := hS
  have hS' := hS.room
  replace hS : Sep w0 w_37 [_, _, _, _, _, _, _, _, _, _, _, _, _, Mem.no] Z := hS'
  clear hS'
  replace hS : Sep w0 w_37 [_, _, _, _, _, _, _, _, _, _, _, _, _, _] Z := hS
  have hS' := hS.room
  replace hS : Sep w0 w_37 [_, _, _, _, _, _, _, _, _, _, _, _, _, _, Mem.no] Z := hS'
  clear hS'
  replace hS : Sep w0 w_37 [_, _, _, _, _, _, _, _, _, _, _, _, _, _, _] Z := hS
  obtain rfl := Option.some.inj H
  exact f_ret hm (rs := [.cell 2 29, .tmp 3]) rfl (.cell rfl (hS.load_agg (p := 1) (us := [.int .i64 0, .int .i64 0, .int .i64 0, .int .i64 0, .int .i64 0, .int .i64 0, .bool false, .int .i64 0, .int .i64 0, .int .i64 0, .int .i64 0, .slice none 0 0, .int .i64 0, .int .i64 0, .slice none 0 0, .slice none 0 0, .int .i64 0, .int .i64 0, .int .i64 0, .int .i64 0, .int .i64 0, .slice none 0 0, .slice none 0 0, .slice none 0 0]) rfl Try.underlying29 rfl ti29 rfl rfl) (.tmp rfl .nil)) ⟨_, rfl, .slice none 0 0, .slice none 0 0, .slice none 0 0, .slice none 0 0, .slice none 0 0, .slice none 0 0, N_6, Mem.no, Mem.no, Mem.no, Mem.no, Mem.no, Mem.no, rfl, (Sep.sel hS [0, 9, 10, 11, 12, 13, 14] (by decide)), (Own.nil Kd.u8 5 Mem.no), (Own.nil (Kd.int .i64) 3 Mem.no), (Own.nil (Kd.int .i64) 3 Mem.no), (Own.nil Kd.u8 5 Mem.no), (Own.nil Kd.u8 5 Mem.no), (Own.nil Kd.u8 5 Mem.no)⟩

set_option maxHeartbeats 4000000 in
set_option maxRecDepth 20000 in
theorem hocketlaw7_Keys.calls (x0 : Int) (r : (List UInt8)) (w0 w : World) (Z A : Mem) (hA : A.le Z) (hS : Sep w0 w [] Z)
    (H : hocketlaw7_Keys.f x0 = some r) :
    Calls Try.prog 71 [.int .i64 x0].toArray w (Ret fun v w' => ∃ (u0 : Value) (N : Mem), v = u0 ∧ Sep w0 w' [N] Z ∧ Rd Kd.u8 N u0 r) := by
 unfold hocketlaw7_Keys.f at H
 refine f_enter _ Try.func71 rfl Try.ntmps71 rfl fun a hm => ?_
 replace hm : Fr 9 a [(0, .int .i64 x0)] := hm
 replace hS := hS.start
 replace hS : Sep w0 w [_] Z := hS
 refine wp_seq <| wp_region_lit <| s_assign hm rfl rfl fun a hm => wpList_nil ?_
 replace hm : Fr 9 a [(0, _), (2, .slice none 0 0)] := hm.keep [0, 2]
 refine x_then_n <| wp_seq <| wp_region_lit ?_
 have hq_5 : Reps Kd.str Mem.no ([([] : List UInt8), ([97] : List UInt8), ([98] : List UInt8), ([99] : List UInt8), ([97, 98] : List UInt8), ([97, 98, 99] : List UInt8), ([122] : List UInt8), ([0] : List UInt8), ([255] : List UInt8), ([97, 98, 99, 100, 101, 102, 103, 104] : List UInt8), ([97, 98, 99, 100, 101, 102, 103, 104, 105] : List UInt8), ([107, 49] : List UInt8), ([107, 50] : List UInt8), ([107, 51] : List UInt8), ([107, 52] : List UInt8), ([107, 53] : List UInt8)] : List (List UInt8)) _ := ((Reps.one (d := Kd.str) (x := ([] : List UInt8)) (show Kd.str.K _ _ [.string ⟨([] : List UInt8).toArray⟩] from rfl)).append ((Reps.one (d := Kd.str) (x := ([97] : List UInt8)) (show Kd.str.K _ _ [.string ⟨([97] : List UInt8).toArray⟩] from rfl)).append ((Reps.one (d := Kd.str) (x := ([98] : List UInt8)) (show Kd.str.K _ _ [.string ⟨([98] : List UInt8).toArray⟩] from rfl)).append ((Reps.one (d := Kd.str) (x := ([99] : List UInt8)) (show Kd.str.K _ _ [.string ⟨([99] : List UInt8).toArray⟩] from rfl)).append ((Reps.one (d := Kd.str) (x := ([97, 98] : List UInt8)) (show Kd.str.K _ _ [.string ⟨([97, 98] : List UInt8).toArray⟩] from rfl)).append ((Reps.one (d := Kd.str) (x := ([97, 98, 99] : List UInt8)) (show Kd.str.K _ _ [.string ⟨([97, 98, 99] : List UInt8).toArray⟩] from rfl)).append ((Reps.one (d := Kd.str) (x := ([122] : List UInt8)) (show Kd.str.K _ _ [.string ⟨([122] : List UInt8).toArray⟩] from rfl)).append ((Reps.one (d := Kd.str) (x := ([0] : List UInt8)) (show Kd.str.K _ _ [.string ⟨([0] : List UInt8).toArray⟩] from rfl)).append ((Reps.one (d := Kd.str) (x := ([255] : List UInt8)) (show Kd.str.K _ _ [.string ⟨([255] : List UInt8).toArray⟩] from rfl)).append ((Reps.one (d := Kd.str) (x := ([97, 98, 99, 100, 101, 102, 103, 104] : List UInt8)) (show Kd.str.K _ _ [.string ⟨([97, 98, 99, 100, 101, 102, 103, 104] : List UInt8).toArray⟩] from rfl)).append ((Reps.one (d := Kd.str) (x := ([97, 98, 99, 100, 101, 102, 103, 104, 105] : List UInt8)) (show Kd.str.K _ _ [.string ⟨([97, 98, 99, 100, 101, 102, 103, 104, 105] : List UInt8).toArray⟩] from rfl)).append ((Reps.one (d := Kd.str) (x := ([107, 49] : List UInt8)) (show Kd.str.K _ _ [.string ⟨([107, 49] : List UInt8).toArray⟩] from rfl)).append ((Reps.one (d := Kd.str) (x := ([107, 50] : List UInt8)) (show Kd.str.K _ _ [.string ⟨([107, 50] : List UInt8).toArray⟩] from rfl)).append ((Reps.one (d := Kd.str) (x := ([107, 51] : List UInt8)) (show Kd.str.K _ _ [.string ⟨([107, 51] : List UInt8).toArray⟩] from rfl)).append ((Reps.one (d := Kd.str) (x := ([107, 52] : List UInt8)) (show Kd.str.K _ _ [.string ⟨([107, 52] : List UInt8).toArray⟩] from rfl)).append ((Reps.one (d := Kd.str) (x := ([107, 53] : List UInt8)) (show Kd.str.K _ _ [.string ⟨([107, 53] : List UInt8).toArray⟩] from rfl)).append (Reps.nil Kd.str _)))))))))))))))))
 refine s_buildSlice hm rfl Try.underlying81 ti9 rfl rfl rfl (.cons rfl (.cons rfl (.cons rfl (.cons rfl (.cons rfl (.cons rfl (.cons rfl (.cons rfl (.cons rfl (.cons rfl (.cons rfl (.cons rfl (.cons rfl (.cons rfl (.cons rfl (.cons rfl .nil)))))))))))))))) rfl rfl rfl hS hq_5 rfl fun w_1 v_2 M_3 hS' ho_4 a hm => ?_
 replace hS : Sep w0 w_1 [_, M_3] Z := hS'
 clear hS' hq_5
 refine s_move hm rfl rfl fun a hm => s_bits (i := x0) (j := 15) (r := band .i64 x0 15) hm rfl rfl rfl (.inl ⟨rfl, rfl⟩) fun a hm => ?_
 obtain ⟨t_7, et_7, H⟩ := Option.bind_eq_some_iff.1 H
 refine v_indexO hm rfl Try.underlying81 ti9 rfl rfl rfl ho_4 (hS.own 1) et_7 fun ad_8 cs_9 hk_10 hc_11 => ?_
 obtain rfl := (show cs_9 = [.string ⟨t_7.toArray⟩] from hk_10)
 intro a hm
 refine s_load hm rfl rfl (el_one (o := 0) hc_11 Try.underlying9 rfl rfl) fun a hm => ?_
 obtain ⟨u_12, eu_12, H⟩ := Option.bind_eq_some_iff.1 H
 refine s_s2b hm rfl Try.underlying9 Try.underlying23 Try.underlying5 rfl (must_some eu_12) hS fun w_13 v_14 M_15 hS' hr_16 a hm => ?_
 obtain ⟨N_17, hS'', le_17, lo_17⟩ := Sep.freeze (l := [M_3, M_15]) hS' 1 rfl
 replace hS : Sep w0 w_13 [N_17, _, Mem.no] Z := hS''
 clear hS' hS''
 refine s_assign hm rfl rfl fun a hm => wpList_nil ?_
 replace hm : Fr 9 a [(2, v_14)] := hm.keep [2]
 refine x_then_n <| wp_ret ?_
 obtain rfl := Option.some.inj H
 exact f_ret hm (rs := [.tmp 2]) rfl (.tmp rfl .nil) ⟨_, rfl, v_14, N_17, rfl, (Sep.sel hS [0] (by decide)), (hr_16.mono lo_17)⟩


end Go.Proofs
