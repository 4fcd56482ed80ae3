/- What the calls do: each function once. -/
import Derived.Test.YteojmbigbifklaaWaitPlaysc5
namespace Go.Proofs
open Go.Gp
set_option linter.unusedVariables false
set_option maxHeartbeats 4000000 in
set_option maxRecDepth 20000 in
theorem wait_Calls_find_1.calls (x0 : wait_call) (p0_0 : Value) (p0_1 : Value) (p0_2 : Value) (g1 : Nat) (x1_Sess : Int) (x1_Seq : Int) (x1_Cmd_Kind : Int) (x1_Cmd_Who : Int) (x1_Cmd_Key : List UInt8) (p1_3 : Value) (x1_Cmd_Val : List UInt8) (p1_4 : Value) (x1_Cmd_Old : List UInt8) (p1_5 : Value) (r : Bool) (w0 w : World) (Z A : Mem) (hA : A.le Z) (hS : Sep w0 w [Mem.one g1 (.cells ([.int .i64 x1_Sess, .int .i64 x1_Seq, .int .i64 x1_Cmd_Kind, .int .i64 x1_Cmd_Who, p1_3, p1_4, p1_5] : List Value).toArray 45 (0, 0))] Z) (hp0_0 : Rd Kd.u8 A p0_0 x0.e.Cmd.Key) (hp0_1 : Rd Kd.u8 A p0_1 x0.e.Cmd.Val) (hp0_2 : Rd Kd.u8 A p0_2 x0.e.Cmd.Old) (hp1_3 : Rd Kd.u8 A p1_3 x1_Cmd_Key) (hp1_4 : Rd Kd.u8 A p1_4 x1_Cmd_Val) (hp1_5 : Rd Kd.u8 A p1_5 x1_Cmd_Old)
    (H : wait_Calls_find_1.f x0 x1_Sess x1_Seq x1_Cmd_Kind x1_Cmd_Who x1_Cmd_Key x1_Cmd_Val x1_Cmd_Old = some r) :
    Calls Try.prog 53 [.agg ([.int .i64 x0.e.Sess, .int .i64 x0.e.Seq, .int .i64 x0.e.Cmd.Kind, .int .i64 x0.e.Cmd.Who, p0_0, p0_1, p0_2, .bool x0.sent] : List Value).toArray, .pointer (some ⟨g1, 0, none⟩)].toArray w (Ret fun v w' => ∃ (N : Mem), v = .bool r ∧ Sep w0 w' [N, Mem.one g1 (.cells ([.int .i64 x1_Sess, .int .i64 x1_Seq, .int .i64 x1_Cmd_Kind, .int .i64 x1_Cmd_Who, p1_3, p1_4, p1_5] : List Value).toArray 45 (0, 0))] Z) := by
  unfold wait_Calls_find_1.f at H
  refine f_enter _ Try.func53 rfl Try.ntmps53 rfl fun a hm => ?_
  replace hm : Fr 18 a [(0, .agg ([.int .i64 x0.e.Sess, .int .i64 x0.e.Seq, .int .i64 x0.e.Cmd.Kind, .int .i64 x0.e.Cmd.Who, p0_0, p0_1, p0_2, .bool x0.sent] : List Value).toArray), (1, .pointer (some ⟨g1, 0, none⟩))] := hm
  replace hS := hS.start
  replace hS : Sep w0 w [Mem.no, Mem.one g1 (.cells ([.int .i64 x1_Sess, .int .i64 x1_Seq, .int .i64 x1_Cmd_Kind, .int .i64 x1_Cmd_Who, p1_3, p1_4, p1_5] : List Value).toArray 45 (0, 0))] Z := hS
  refine wp_seq ?_
  refine wp_region_lit ?_
  refine v_box (vs := [.int .i64 x0.e.Sess, .int .i64 x0.e.Seq, .int .i64 x0.e.Cmd.Kind, .int .i64 x0.e.Cmd.Who, p0_0, p0_1, p0_2, .bool x0.sent]) hm rfl rfl rfl hS ?_
  intro w_1 g_2 hS'
  clear hm a; intro a hm
  replace hS : Sep w0 w_1 [Mem.no, Mem.one g1 (.cells ([.int .i64 x1_Sess, .int .i64 x1_Seq, .int .i64 x1_Cmd_Kind, .int .i64 x1_Cmd_Who, p1_3, p1_4, p1_5] : List Value).toArray 45 (0, 0)), Mem.one g_2 (.cells ([.int .i64 x0.e.Sess, .int .i64 x0.e.Seq, .int .i64 x0.e.Cmd.Kind, .int .i64 x0.e.Cmd.Who, p0_0, p0_1, p0_2, .bool x0.sent] : List Value).toArray 78 (0, 0))] Z := hS'
  clear hS'
  refine s_assign hm rfl rfl ?_
  clear hm a; intro a hm
  refine wpList_nil ?_
  replace hm : Fr 18 a [(1, .pointer (some ⟨g1, 0, none⟩)), (2, .pointer (some ⟨g_2, 0, none⟩)), (3, .bool false)] := hm.keep [1, 2, 3]
  refine x_then_n ?_
  refine c_seq fun KJ_3 hKJ_3 => ?_
  refine wp_region_lit ?_
  refine s_fieldAddr hm rfl Try.underlying78 rfl ti45 rfl rfl ?_
  clear hm a; intro a hm
  refine s_fieldAddr hm rfl Try.underlying45 rfl ti3 rfl rfl ?_
  clear hm a; intro a hm
  refine s_load hm rfl rfl (hS.load_one (p := 2) rfl Try.underlying3 rfl rfl) ?_
  clear hm a; intro a hm
  refine s_fieldAddr hm rfl Try.underlying45 rfl ti3 rfl rfl ?_
  clear hm a; intro a hm
  refine s_load hm rfl rfl (hS.load_one (p := 1) rfl Try.underlying3 rfl rfl) ?_
  clear hm a; intro a hm
  refine s_cmp (b := (x0.e.Sess == x1_Sess)) hm rfl rfl rfl (.inl ⟨rfl, rfl⟩) ?_
  clear hm a; intro a hm
  refine s_move hm rfl rfl ?_
  clear hm a; intro a hm
  by_cases hc_4 : x0.e.Sess = x1_Sess
  · rw [if_pos hc_4] at H
    refine s_on hm rfl rfl (beq_iff_eq.2 hc_4) ?_
    refine s_fieldAddr hm rfl Try.underlying78 rfl ti45 rfl rfl ?_
    clear hm a; intro a hm
    refine s_on hm rfl rfl (beq_iff_eq.2 hc_4) ?_
    refine s_fieldAddr hm rfl Try.underlying45 rfl ti3 rfl rfl ?_
    clear hm a; intro a hm
    refine s_on hm rfl rfl (beq_iff_eq.2 hc_4) ?_
    refine s_load hm rfl rfl (hS.load_one (p := 2) rfl Try.underlying3 rfl rfl) ?_
    clear hm a; intro a hm
    refine s_on hm rfl rfl (beq_iff_eq.2 hc_4) ?_
    refine s_fieldAddr hm rfl Try.underlying45 rfl ti3 rfl rfl ?_
    clear hm a; intro a hm
    refine s_on hm rfl rfl (beq_iff_eq.2 hc_4) ?_
    refine s_load hm rfl rfl (hS.load_one (p := 1) rfl Try.underlying3 rfl rfl) ?_
    clear hm a; intro a hm
    refine s_on hm rfl rfl (beq_iff_eq.2 hc_4) ?_
    refine s_cmp (b := (x0.e.Seq == x1_Seq)) hm rfl rfl rfl (.inl ⟨rfl, rfl⟩) ?_
    clear hm a; intro a hm
    refine s_pick_t hm rfl rfl (beq_iff_eq.2 hc_4) rfl ?_
    clear hm a; intro a hm
    refine s_assign hm rfl rfl ?_
    clear hm a; intro a hm
    refine wpList_nil ?_
    replace hm : Fr 18 a [(3, .bool (x0.e.Seq == x1_Seq))] := hm.keep [3]
    refine x_then_n (hKJ_3 _ _ ?_)
    refine wp_ret ?_
    obtain rfl := Option.some.inj H
    exact f_ret hm (rs := [.tmp 3]) rfl (.tmp rfl .nil) ⟨_, rfl, Mem.no, rfl, (Sep.sel hS [0, 1] (by decide))⟩
  · rw [if_neg hc_4] at H
    refine s_off hm rfl rfl rfl (beq_eq_false_iff_ne.2 hc_4) ?_
    clear hm a; intro a hm
    refine s_off hm rfl rfl rfl (beq_eq_false_iff_ne.2 hc_4) ?_
    clear hm a; intro a hm
    refine s_off hm rfl rfl rfl (beq_eq_false_iff_ne.2 hc_4) ?_
    clear hm a; intro a hm
    refine s_off hm rfl rfl rfl (beq_eq_false_iff_ne.2 hc_4) ?_
    clear hm a; intro a hm
    refine s_off hm rfl rfl rfl (beq_eq_false_iff_ne.2 hc_4) ?_
    clear hm a; intro a hm
    refine s_off hm rfl rfl rfl (beq_eq_false_iff_ne.2 hc_4) ?_
    clear hm a; intro a hm
    refine s_pick_f hm rfl rfl (beq_eq_false_iff_ne.2 hc_4) rfl ?_
    clear hm a; intro a hm
    refine s_assign hm rfl rfl ?_
    clear hm a; intro a hm
    refine wpList_nil ?_
    replace hm : Fr 18 a [(3, .bool false)] := hm.keep [3]
    refine x_then_n (hKJ_3 _ _ ?_)
    refine wp_ret ?_
    obtain rfl := Option.some.inj H
    exact f_ret hm (rs := [.tmp 3]) rfl (.tmp rfl .nil) ⟨_, rfl, Mem.no, rfl, (Sep.sel hS [0, 1] (by decide))⟩

set_option maxHeartbeats 4000000 in
set_option maxRecDepth 20000 in
theorem slices_IndexFunc_shocket_wait_call_hocket_wait_call_53.calls (K : Nat) (x0 : List wait_call) (p0_0 : Value) (g2 : Nat) (x2_Sess : Int) (x2_Seq : Int) (x2_Cmd_Kind : Int) (x2_Cmd_Who : Int) (x2_Cmd_Key : List UInt8) (p2_1 : Value) (x2_Cmd_Val : List UInt8) (p2_2 : Value) (x2_Cmd_Old : List UInt8) (p2_3 : Value) (r : Int) (w0 w : World) (Z A : Mem) (hA : A.le Z) (hS : Sep w0 w [Mem.one g2 (.cells ([.int .i64 x2_Sess, .int .i64 x2_Seq, .int .i64 x2_Cmd_Kind, .int .i64 x2_Cmd_Who, p2_1, p2_2, p2_3] : List Value).toArray 45 (0, 0))] Z) (hp0_0 : Rd k_wait_call A p0_0 x0) (hp2_1 : Rd Kd.u8 A p2_1 x2_Cmd_Key) (hp2_2 : Rd Kd.u8 A p2_2 x2_Cmd_Val) (hp2_3 : Rd Kd.u8 A p2_3 x2_Cmd_Old)
    (H : slices_IndexFunc_shocket_wait_call_hocket_wait_call_53.f K x0 x2_Sess x2_Seq x2_Cmd_Kind x2_Cmd_Who x2_Cmd_Key x2_Cmd_Val x2_Cmd_Old = some r) :
    Calls Try.prog 52 [p0_0, .func (.func 53) #[] [.pointer (some ⟨g2, 0, none⟩)].toArray].toArray w (Ret fun v w' => ∃ (N : Mem), v = .int .i64 r ∧ Sep w0 w' [N, Mem.one g2 (.cells ([.int .i64 x2_Sess, .int .i64 x2_Seq, .int .i64 x2_Cmd_Kind, .int .i64 x2_Cmd_Who, p2_1, p2_2, p2_3] : List Value).toArray 45 (0, 0))] Z) := by
  unfold slices_IndexFunc_shocket_wait_call_hocket_wait_call_53.f at H
  refine f_enter _ Try.func52 rfl Try.ntmps52 rfl fun a hm => ?_
  replace hm : Fr 19 a [(0, p0_0), (1, .func (.func 53) #[] [.pointer (some ⟨g2, 0, none⟩)].toArray)] := hm
  replace hS := hS.start
  replace hS : Sep w0 w [Mem.no, Mem.one g2 (.cells ([.int .i64 x2_Sess, .int .i64 x2_Seq, .int .i64 x2_Cmd_Kind, .int .i64 x2_Cmd_Who, p2_1, p2_2, p2_3] : List Value).toArray 45 (0, 0))] Z := hS
  refine wp_seq ?_
  refine wp_region_lit ?_
  refine s_assign hm rfl rfl ?_
  clear hm a; intro a hm
  refine wpList_nil ?_
  replace hm : Fr 19 a [(0, p0_0), (1, .func (.func 53) #[] [.pointer (some ⟨g2, 0, none⟩)].toArray), (4, .int .i64 0)] := hm.keep [0, 1, 4]
  refine x_then_n ?_
  refine c_seq fun KJ_1 hKJ_1 => ?_
  refine wp_seq ?_
  refine wp_region_lit ?_
  refine s_move hm rfl rfl ?_
  clear hm a; intro a hm
  refine s_len hm rfl Try.underlying72 rfl hp0_0 ?_
  clear hm a; intro a hm
  refine s_move hm rfl rfl ?_
  clear hm a; intro a hm
  refine wpList_nil ?_
  replace hm : Fr 19 a [(0, p0_0), (1, .func (.func 53) #[] [.pointer (some ⟨g2, 0, none⟩)].toArray), (4, .int .i64 0), (7, .int .i64 (x0.length : Int)), (8, .int .i64 0)] := hm.keep [0, 1, 4, 7, 8]
  refine x_then_n ?_
  have hJ_j_4 : slices_IndexFunc_shocket_wait_call_hocket_wait_call_53.J1 K = some r → ∀ (a : Act) (w_3 : World), (∃ (N_2 : Mem), Fr 19 a [(4, .int .i64 0)] ∧ Sep w0 w_3 [N_2, Mem.one g2 (.cells ([.int .i64 x2_Sess, .int .i64 x2_Seq, .int .i64 x2_Cmd_Kind, .int .i64 x2_Cmd_Who, p2_1, p2_2, p2_3] : List Value).toArray 45 (0, 0))] Z ∧ Mem.no.le N_2) → KJ_1 a w_3 := by
    clear H hm hS a
    rintro H a w_3 ⟨N_2, hm, hS, le_2⟩
    unfold slices_IndexFunc_shocket_wait_call_hocket_wait_call_53.J1 at H
    refine hKJ_1 _ _ ?_
    refine wp_seq ?_
    refine wp_region_lit ?_
    refine s_assign hm rfl rfl ?_
    clear hm a; intro a hm
    refine wpList_nil ?_
    replace hm : Fr 19 a [(4, .int .i64 (-1))] := hm.keep [4]
    refine x_then_n ?_
    refine wp_ret ?_
    obtain rfl := Option.some.inj H
    exact f_ret hm (rs := [.tmp 4]) rfl (.tmp rfl .nil) ⟨_, rfl, N_2, rfl, (Sep.sel hS [0, 1] (by decide))⟩
  clear hKJ_1
  replace hS : Sep w0 w [Mem.no, Mem.one g2 (.cells ([.int .i64 x2_Sess, .int .i64 x2_Seq, .int .i64 x2_Cmd_Kind, .int .i64 x2_Cmd_Who, p2_1, p2_2, p2_3] : List Value).toArray 45 (0, 0))] Z := hS
  replace hm : Fr 19 a [(0, p0_0), (1, .func (.func 53) #[] [.pointer (some ⟨g2, 0, none⟩)].toArray), (4, .int .i64 0), (7, .int .i64 (x0.length : Int)), (8, .int .i64 0)] := hm.keep [0, 1, 4, 7, 8]
  refine c_block ?_
  refine c_loop (fun k_7 a w_7 => ∃ (x_6 : Int) (N_5 : Mem), slices_IndexFunc_shocket_wait_call_hocket_wait_call_53.L1 K x0 x2_Sess x2_Seq x2_Cmd_Kind x2_Cmd_Who x2_Cmd_Key x2_Cmd_Val x2_Cmd_Old (fun v => slices_IndexFunc_shocket_wait_call_hocket_wait_call_53.J1 K) k_7 x_6 = some r ∧ Fr 19 a [(0, p0_0), (1, .func (.func 53) #[] [.pointer (some ⟨g2, 0, none⟩)].toArray), (4, .int .i64 0), (7, .int .i64 (x0.length : Int)), (8, .int .i64 x_6)] ∧ Sep w0 w_7 [N_5, Mem.one g2 (.cells ([.int .i64 x2_Sess, .int .i64 x2_Seq, .int .i64 x2_Cmd_Kind, .int .i64 x2_Cmd_Who, p2_1, p2_2, p2_3] : List Value).toArray 45 (0, 0))] Z ∧ Mem.no.le N_5) K ⟨0, Mem.no, H, hm, (Sep.sel hS [0, 1] (by decide)), (Mem.le.refl _)⟩ (fun a w h => by obtain ⟨_, _, H, _⟩ := h; cases (show (none : Option (Int)) = some r from H)) ?_
  clear hm hS a H
  rintro k_7 a w_7 KL_7 hKL_7 ⟨x_6, N_5, H, hm, hS, le_5⟩
  replace H : slices_IndexFunc_shocket_wait_call_hocket_wait_call_53.B1 K x0 x2_Sess x2_Seq x2_Cmd_Kind x2_Cmd_Who x2_Cmd_Key x2_Cmd_Val x2_Cmd_Old (fun v => slices_IndexFunc_shocket_wait_call_hocket_wait_call_53.J1 K) (slices_IndexFunc_shocket_wait_call_hocket_wait_call_53.L1 K x0 x2_Sess x2_Seq x2_Cmd_Kind x2_Cmd_Who x2_Cmd_Key x2_Cmd_Val x2_Cmd_Old (fun v => slices_IndexFunc_shocket_wait_call_hocket_wait_call_53.J1 K) k_7) x_6 = some r := H
  unfold slices_IndexFunc_shocket_wait_call_hocket_wait_call_53.B1 at H
  refine wp_seq ?_
  refine wp_region_lit ?_
  refine s_cmp (b := decide (x_6 < (x0.length : Int))) hm rfl rfl rfl (.inr (.inr (.inl ⟨rfl, rfl⟩))) ?_
  clear hm a; intro a hm
  refine wpList_nil ?_
  replace hm : Fr 19 a [(0, p0_0), (1, .func (.func 53) #[] [.pointer (some ⟨g2, 0, none⟩)].toArray), (4, .int .i64 0), (7, .int .i64 (x0.length : Int)), (8, .int .i64 x_6), (9, .bool (decide (x_6 < (x0.length : Int))))] := hm.keep [0, 1, 4, 7, 8, 9]
  refine x_then_n ?_
  refine c_seq fun KJ_9 hKJ_9 => ?_
  by_cases hc_10 : x_6 < (x0.length : Int)
  · rw [if_pos hc_10] at H
    refine c_cond_t hm rfl (decide_eq_true hc_10) ?_
    refine wp_skip ?_
    refine x_then_n (hKJ_9 _ _ ?_)
    refine c_seq fun KJ_11 hKJ_11 => ?_
    refine c_block ?_
    refine wp_seq ?_
    refine wp_region_lit ?_
    refine s_move hm rfl rfl ?_
    clear hm a; intro a hm
    refine s_assign hm rfl rfl ?_
    clear hm a; intro a hm
    refine wpList_nil ?_
    replace hm : Fr 19 a [(0, p0_0), (1, .func (.func 53) #[] [.pointer (some ⟨g2, 0, none⟩)].toArray), (4, .int .i64 0), (5, .int .i64 x_6), (7, .int .i64 (x0.length : Int)), (8, .int .i64 x_6)] := hm.keep [0, 1, 4, 5, 7, 8]
    refine x_then_n ?_
    refine wp_seq ?_
    refine wp_region_lit ?_
    refine s_move hm rfl rfl ?_
    clear hm a; intro a hm
    refine s_move hm rfl rfl ?_
    clear hm a; intro a hm
    refine s_move hm rfl rfl ?_
    clear hm a; intro a hm
    obtain ⟨t_12, et_12, H⟩ := Option.bind_eq_some_iff.1 H
    refine v_index hm rfl Try.underlying72 ti78 rfl rfl rfl hp0_0 (hA.trans hS.old) et_12 ?_
    intro ad_13 cs_14 hk_15 hc_16
    obtain ⟨v_17, v_19, v_21, rfl, hr_18, hr_20, hr_22⟩ := k_wait_call.open' hk_15
    clear hm a; intro a hm
    refine s_load hm rfl rfl (el_agg (o := 0) (us := [.int .i64 t_12.e.Sess, .int .i64 t_12.e.Seq, .int .i64 t_12.e.Cmd.Kind, .int .i64 t_12.e.Cmd.Who, v_17, v_19, v_21, .bool t_12.sent]) hc_16 Try.underlying78 rfl ti78 rfl rfl) ?_
    clear hm a; intro a hm
    obtain ⟨t_23, et_23, H⟩ := Option.bind_eq_some_iff.1 H
    refine s_callv hm rfl rfl Try.call53 rfl (wait_Calls_find_1.calls t_12 _ _ _ _ x2_Sess x2_Seq x2_Cmd_Kind x2_Cmd_Who x2_Cmd_Key _ x2_Cmd_Val _ x2_Cmd_Old _ t_23 w0 _ _ _ (Mem.le.refl _) (hS.enter [0] (by decide)) (hr_18.mono (hA.trans (hS.le_zed [0]))) (hr_20.mono (hA.trans (hS.le_zed [0]))) (hr_22.mono (hA.trans (hS.le_zed [0]))) (hp2_1.mono (hA.trans (hS.le_zed [0]))) (hp2_2.mono (hA.trans (hS.le_zed [0]))) (hp2_3.mono (hA.trans (hS.le_zed [0]))) et_23) ?_
    rintro _ w_24 ⟨N_25, rfl, hS'⟩
    clear hm a; intro a hm
    obtain ⟨N_26, hS'', le_26, ln_26⟩ := hS.call [0] (by decide) rfl (l' := [Mem.one g2 (.cells ([.int .i64 x2_Sess, .int .i64 x2_Seq, .int .i64 x2_Cmd_Kind, .int .i64 x2_Cmd_Who, p2_1, p2_2, p2_3] : List Value).toArray 45 (0, 0))]) (ow := []) rfl hS'
    replace hS : Sep w0 w_24 [N_26, Mem.one g2 (.cells ([.int .i64 x2_Sess, .int .i64 x2_Seq, .int .i64 x2_Cmd_Kind, .int .i64 x2_Cmd_Who, p2_1, p2_2, p2_3] : List Value).toArray 45 (0, 0))] Z := hS''
    clear hS' hS''
    refine wpList_nil ?_
    replace hm : Fr 19 a [(0, p0_0), (1, .func (.func 53) #[] [.pointer (some ⟨g2, 0, none⟩)].toArray), (4, .int .i64 0), (5, .int .i64 x_6), (7, .int .i64 (x0.length : Int)), (8, .int .i64 x_6), (16, .bool t_23)] := hm.keep [0, 1, 4, 5, 7, 8, 16]
    refine x_then_n ?_
    by_cases hc_27 : t_23 = true
    · rw [if_pos hc_27] at H
      refine c_cond_t hm rfl hc_27 ?_
      refine wp_seq ?_
      refine wp_region_lit ?_
      refine s_move hm rfl rfl ?_
      clear hm a; intro a hm
      refine s_assign hm rfl rfl ?_
      clear hm a; intro a hm
      refine wpList_nil ?_
      replace hm : Fr 19 a [(0, p0_0), (1, .func (.func 53) #[] [.pointer (some ⟨g2, 0, none⟩)].toArray), (4, .int .i64 x_6), (7, .int .i64 (x0.length : Int)), (8, .int .i64 x_6)] := hm.keep [0, 1, 4, 7, 8]
      refine x_then_n ?_
      refine wp_ret (x_block_r (x_then_r (x_then_r (x_block_r (x_then_r ?_)))))
      obtain rfl := Option.some.inj H
      exact f_ret hm (rs := [.tmp 4]) rfl (.tmp rfl .nil) ⟨_, rfl, N_26, rfl, (Sep.sel hS [0, 1] (by decide))⟩
    · rw [if_neg hc_27] at H
      refine c_cond_f hm rfl (Bool.eq_false_iff.2 hc_27) ?_
      refine wp_skip ?_
      refine x_block_n ?_
      refine x_then_n (hKJ_11 _ _ ?_)
      refine wp_region_lit ?_
      refine s_arith (r := w64 (x_6 + 1)) hm rfl rfl rfl (.inl ⟨rfl, rfl⟩) ?_
      clear hm a; intro a hm
      refine s_move hm rfl rfl ?_
      clear hm a; intro a hm
      refine wpList_nil ?_
      replace hm : Fr 19 a [(0, p0_0), (1, .func (.func 53) #[] [.pointer (some ⟨g2, 0, none⟩)].toArray), (4, .int .i64 0), (7, .int .i64 (x0.length : Int)), (8, .int .i64 (w64 (x_6 + 1)))] := hm.keep [0, 1, 4, 7, 8]
      refine x_then_n (hKL_7 _ _ ?_)
      replace hS : Sep w0 w_24 [N_26, Mem.one g2 (.cells ([.int .i64 x2_Sess, .int .i64 x2_Seq, .int .i64 x2_Cmd_Kind, .int .i64 x2_Cmd_Who, p2_1, p2_2, p2_3] : List Value).toArray 45 (0, 0))] Z := hS
      replace hm : Fr 19 a [(0, p0_0), (1, .func (.func 53) #[] [.pointer (some ⟨g2, 0, none⟩)].toArray), (4, .int .i64 0), (7, .int .i64 (x0.length : Int)), (8, .int .i64 (w64 (x_6 + 1)))] := hm.keep [0, 1, 4, 7, 8]
      exact ⟨w64 (x_6 + 1), N_26, H, hm, (Sep.sel hS [0, 1] (by decide)), (le_5.trans le_26)⟩
  · rw [if_neg hc_10] at H
    refine c_cond_f hm rfl (decide_eq_false hc_10) ?_
    refine wp_exit (x_then_x (x_then_x (x_block_t ?_)))
    replace hS : Sep w0 w_7 [N_5, Mem.one g2 (.cells ([.int .i64 x2_Sess, .int .i64 x2_Seq, .int .i64 x2_Cmd_Kind, .int .i64 x2_Cmd_Who, p2_1, p2_2, p2_3] : List Value).toArray 45 (0, 0))] Z := hS
    replace hm : Fr 19 a [(4, .int .i64 0)] := hm.keep [4]
    exact x_then_n (hJ_j_4  H _ _ ⟨N_5, hm, (Sep.sel hS [0, 1] (by decide)), le_5⟩)

set_option maxHeartbeats 4000000 in
set_option maxRecDepth 20000 in
theorem wait_Calls_find.calls (K : Nat) (g0 : Nat) (x0_l : List wait_call) (p0_0 : Value) (x0_done : List api_Reply) (p0_1 : Value) (x1 : api_Entry) (p1_2 : Value) (p1_3 : Value) (p1_4 : Value) (r : Int) (w0 w : World) (Z A : Mem) (hA : A.le Z) (hS : Sep w0 w [Mem.one g0 (.cells ([p0_0, p0_1] : List Value).toArray 74 (0, 0))] Z) (hp0_0 : Rd k_wait_call A p0_0 x0_l) (hp0_1 : Rd k_api_Reply A p0_1 x0_done) (hp1_2 : Rd Kd.u8 A p1_2 x1.Cmd.Key) (hp1_3 : Rd Kd.u8 A p1_3 x1.Cmd.Val) (hp1_4 : Rd Kd.u8 A p1_4 x1.Cmd.Old)
    (H : wait_Calls_find.f K x0_l x0_done x1 = some r) :
    Calls Try.prog 46 [.pointer (some ⟨g0, 0, none⟩), .agg ([.int .i64 x1.Sess, .int .i64 x1.Seq, .int .i64 x1.Cmd.Kind, .int .i64 x1.Cmd.Who, p1_2, p1_3, p1_4] : List Value).toArray].toArray w (Ret fun v w' => ∃ (N : Mem), v = .int .i64 r ∧ Sep w0 w' [N, Mem.one g0 (.cells ([p0_0, p0_1] : List Value).toArray 74 (0, 0))] Z) := by
  unfold wait_Calls_find.f at H
  refine f_enter _ Try.func46 rfl Try.ntmps46 rfl fun a hm => ?_
  replace hm : Fr 11 a [(0, .pointer (some ⟨g0, 0, none⟩)), (1, .agg ([.int .i64 x1.Sess, .int .i64 x1.Seq, .int .i64 x1.Cmd.Kind, .int .i64 x1.Cmd.Who, p1_2, p1_3, p1_4] : List Value).toArray)] := hm
  replace hS := hS.start
  replace hS : Sep w0 w [Mem.no, Mem.one g0 (.cells ([p0_0, p0_1] : List Value).toArray 74 (0, 0))] Z := hS
  refine wp_seq ?_
  refine wp_region_lit ?_
  refine v_box (vs := [.int .i64 x1.Sess, .int .i64 x1.Seq, .int .i64 x1.Cmd.Kind, .int .i64 x1.Cmd.Who, p1_2, p1_3, p1_4]) hm rfl rfl rfl hS ?_
  intro w_1 g_2 hS'
  clear hm a; intro a hm
  replace hS : Sep w0 w_1 [Mem.no, Mem.one g0 (.cells ([p0_0, p0_1] : List Value).toArray 74 (0, 0)), Mem.one g_2 (.cells ([.int .i64 x1.Sess, .int .i64 x1.Seq, .int .i64 x1.Cmd.Kind, .int .i64 x1.Cmd.Who, p1_2, p1_3, p1_4] : List Value).toArray 45 (0, 0))] Z := hS'
  clear hS'
  refine s_assign hm rfl rfl ?_
  clear hm a; intro a hm
  refine wpList_nil ?_
  replace hm : Fr 11 a [(0, .pointer (some ⟨g0, 0, none⟩)), (3, .pointer (some ⟨g_2, 0, none⟩)), (4, .int .i64 0)] := hm.keep [0, 3, 4]
  refine x_then_n ?_
  refine wp_seq ?_
  refine wp_region_lit ?_
  refine s_move hm rfl rfl ?_
  clear hm a; intro a hm
  refine s_nilCheck hm rfl rfl ?_
  clear hm a; intro a hm
  refine s_fieldAddr hm rfl Try.underlying74 rfl ti72 rfl rfl ?_
  clear hm a; intro a hm
  refine s_load hm rfl rfl (hS.load_one (p := 1) rfl Try.underlying72 rfl rfl) ?_
  clear hm a; intro a hm
  refine s_func hm rfl rfl ?_
  clear hm a; intro a hm
  obtain ⟨t_3, et_3, H⟩ := Option.bind_eq_some_iff.1 H
  refine s_call hm rfl Try.call52 rfl (slices_IndexFunc_shocket_wait_call_hocket_wait_call_53.calls K x0_l _ _ x1.Sess x1.Seq x1.Cmd.Kind x1.Cmd.Who x1.Cmd.Key _ x1.Cmd.Val _ x1.Cmd.Old _ t_3 w0 _ _ _ (Mem.le.refl _) (hS.enter [1] (by decide)) (hp0_0.mono (hA.trans (hS.le_zed [1]))) (hp1_2.mono (hA.trans (hS.le_zed [1]))) (hp1_3.mono (hA.trans (hS.le_zed [1]))) (hp1_4.mono (hA.trans (hS.le_zed [1]))) et_3) ?_
  rintro _ w_4 ⟨N_5, rfl, hS'⟩
  clear hm a; intro a hm
  obtain ⟨N_6, hS'', le_6, ln_6⟩ := hS.call [1] (by decide) rfl (l' := [Mem.one g_2 (.cells ([.int .i64 x1.Sess, .int .i64 x1.Seq, .int .i64 x1.Cmd.Kind, .int .i64 x1.Cmd.Who, p1_2, p1_3, p1_4] : List Value).toArray 45 (0, 0))]) (ow := []) rfl hS'
  replace hS : Sep w0 w_4 [N_6, Mem.one g0 (.cells ([p0_0, p0_1] : List Value).toArray 74 (0, 0)), Mem.one g_2 (.cells ([.int .i64 x1.Sess, .int .i64 x1.Seq, .int .i64 x1.Cmd.Kind, .int .i64 x1.Cmd.Who, p1_2, p1_3, p1_4] : List Value).toArray 45 (0, 0))] Z := hS''
  clear hS' hS''
  refine s_assign hm rfl rfl ?_
  clear hm a; intro a hm
  refine wpList_nil ?_
  replace hm : Fr 11 a [(4, .int .i64 t_3)] := hm.keep [4]
  refine x_then_n ?_
  refine wp_ret ?_
  obtain rfl := Option.some.inj H
  exact f_ret hm (rs := [.tmp 4]) rfl (.tmp rfl .nil) ⟨_, rfl, N_6, rfl, (Sep.sel hS [0, 1] (by decide))⟩

set_option maxHeartbeats 4000000 in
set_option maxRecDepth 20000 in
theorem wait_Calls_Call.calls (K : Nat) (g0 : Nat) (x0_l : List wait_call) (p0_0 : Value) (M0_0 : Mem) (x0_done : List api_Reply) (p0_1 : Value) (M0_1 : Mem) (x1 : api_Entry) (p1_2 : Value) (p1_3 : Value) (p1_4 : Value) (r : Bool × (List wait_call) × (List api_Reply)) (w0 w : World) (Z A : Mem) (hA : A.le Z) (hS : Sep w0 w [Mem.one g0 (.cells ([p0_0, p0_1] : List Value).toArray 74 (0, 0)), M0_0, M0_1] Z) (hp0_0 : Own k_wait_call 78 M0_0 A p0_0 x0_l) (hp0_1 : Own k_api_Reply 56 M0_1 A p0_1 x0_done) (hp1_2 : Rd Kd.u8 A p1_2 x1.Cmd.Key) (hp1_3 : Rd Kd.u8 A p1_3 x1.Cmd.Val) (hp1_4 : Rd Kd.u8 A p1_4 x1.Cmd.Old)
    (H : wait_Calls_Call.f K x0_l x0_done x1 = some r) :
    Calls Try.prog 22 [.pointer (some ⟨g0, 0, none⟩), .agg ([.int .i64 x1.Sess, .int .i64 x1.Seq, .int .i64 x1.Cmd.Kind, .int .i64 x1.Cmd.Who, p1_2, p1_3, p1_4] : List Value).toArray].toArray w (Ret fun v w' => ∃ (u0 : Value) (u1 : Value) (N : Mem) (M100 : Mem) (M101 : Mem), v = .bool r.1 ∧ Sep w0 w' [N, Mem.one g0 (.cells ([u0, u1] : List Value).toArray 74 (0, 0)), M100, M101] Z ∧ Own k_wait_call 78 M100 (A.un N) u0 r.2.1 ∧ Own k_api_Reply 56 M101 (A.un N) u1 r.2.2) := by
  unfold wait_Calls_Call.f at H
  refine f_enter _ Try.func22 rfl Try.ntmps22 rfl fun a hm => ?_
  replace hm : Fr 29 a [(0, .pointer (some ⟨g0, 0, none⟩)), (1, .agg ([.int .i64 x1.Sess, .int .i64 x1.Seq, .int .i64 x1.Cmd.Kind, .int .i64 x1.Cmd.Who, p1_2, p1_3, p1_4] : List Value).toArray)] := hm
  replace hS := hS.start
  replace hS : Sep w0 w [Mem.no, Mem.one g0 (.cells ([p0_0, p0_1] : List Value).toArray 74 (0, 0)), M0_0, M0_1] Z := hS
  refine wp_seq ?_
  refine wp_region_lit ?_
  refine v_box (vs := [.int .i64 x1.Sess, .int .i64 x1.Seq, .int .i64 x1.Cmd.Kind, .int .i64 x1.Cmd.Who, p1_2, p1_3, p1_4]) hm rfl rfl rfl hS ?_
  intro w_1 g_2 hS'
  clear hm a; intro a hm
  replace hS : Sep w0 w_1 [Mem.no, Mem.one g0 (.cells ([p0_0, p0_1] : List Value).toArray 74 (0, 0)), M0_0, M0_1, Mem.one g_2 (.cells ([.int .i64 x1.Sess, .int .i64 x1.Seq, .int .i64 x1.Cmd.Kind, .int .i64 x1.Cmd.Who, p1_2, p1_3, p1_4] : List Value).toArray 45 (0, 0))] Z := hS'
  clear hS'
  refine s_assign hm rfl rfl ?_
  clear hm a; intro a hm
  refine wpList_nil ?_
  replace hm : Fr 29 a [(0, .pointer (some ⟨g0, 0, none⟩)), (3, .pointer (some ⟨g_2, 0, none⟩)), (4, .bool false)] := hm.keep [0, 3, 4]
  refine x_then_n ?_
  refine c_seq fun KJ_3 hKJ_3 => ?_
  refine c_block ?_
  refine wp_seq ?_
  refine wp_region_lit ?_
  refine s_move hm rfl rfl ?_
  clear hm a; intro a hm
  refine s_load hm rfl rfl (hS.load_agg (p := 4) (us := [.int .i64 x1.Sess, .int .i64 x1.Seq, .int .i64 x1.Cmd.Kind, .int .i64 x1.Cmd.Who, p1_2, p1_3, p1_4]) rfl Try.underlying45 rfl ti45 rfl rfl) ?_
  clear hm a; intro a hm
  obtain ⟨t_4, et_4, H⟩ := Option.bind_eq_some_iff.1 H
  refine s_call hm rfl Try.call46 rfl (wait_Calls_find.calls K _ x0_l _ x0_done _ x1 _ _ _ t_4 w0 _ _ _ (Mem.le.refl _) (hS.enter [0] (by decide)) (hp0_0.rd (hS.own_zed [0] 1 (by decide)) (hA.trans (hS.le_zed [0]))) (hp0_1.rd (hS.own_zed [0] 2 (by decide)) (hA.trans (hS.le_zed [0]))) (hp1_2.mono (hA.trans (hS.le_zed [0]))) (hp1_3.mono (hA.trans (hS.le_zed [0]))) (hp1_4.mono (hA.trans (hS.le_zed [0]))) et_4) ?_
  rintro _ w_5 ⟨N_6, rfl, hS'⟩
  clear hm a; intro a hm
  obtain ⟨N_7, hS'', le_7, ln_7⟩ := hS.call [0] (by decide) rfl (l' := [Mem.one g0 (.cells ([p0_0, p0_1] : List Value).toArray 74 (0, 0))]) (ow := []) rfl hS'
  replace hS : Sep w0 w_5 [N_7, Mem.one g0 (.cells ([p0_0, p0_1] : List Value).toArray 74 (0, 0)), M0_0, M0_1, Mem.one g_2 (.cells ([.int .i64 x1.Sess, .int .i64 x1.Seq, .int .i64 x1.Cmd.Kind, .int .i64 x1.Cmd.Who, p1_2, p1_3, p1_4] : List Value).toArray 45 (0, 0))] Z := hS''
  clear hS' hS''
  refine s_cmp (b := decide (t_4 ≥ 0)) hm rfl rfl rfl (.inr (.inr (.inr (.inr (.inr ⟨rfl, rfl⟩))))) ?_
  clear hm a; intro a hm
  refine s_assign hm rfl rfl ?_
  clear hm a; intro a hm
  refine wpList_nil ?_
  replace hm : Fr 29 a [(0, .pointer (some ⟨g0, 0, none⟩)), (3, .pointer (some ⟨g_2, 0, none⟩)), (4, .bool false), (5, .bool (decide (t_4 ≥ 0)))] := hm.keep [0, 3, 4, 5]
  refine x_then_n ?_
  by_cases hc_8 : t_4 ≥ 0
  · rw [if_pos hc_8] at H
    refine c_cond_t hm rfl (decide_eq_true hc_8) ?_
    refine wp_seq ?_
    refine wp_region_lit ?_
    refine s_assign hm rfl rfl ?_
    clear hm a; intro a hm
    refine wpList_nil ?_
    replace hm : Fr 29 a [(0, .pointer (some ⟨g0, 0, none⟩)), (3, .pointer (some ⟨g_2, 0, none⟩)), (4, .bool true)] := hm.keep [0, 3, 4]
    refine x_then_n ?_
    refine wp_ret (x_block_r (x_then_r ?_))
    obtain rfl := Option.some.inj H
    exact f_ret hm (rs := [.tmp 4]) rfl (.tmp rfl .nil) ⟨_, rfl, p0_0, p0_1, N_7, M0_0, M0_1, rfl, (Sep.sel hS [0, 1, 2, 3] (by decide)), (hp0_0.mono (Mem.le_un _ _)), (hp0_1.mono (Mem.le_un _ _))⟩
  · rw [if_neg hc_8] at H
    refine c_cond_f hm rfl (decide_eq_false hc_8) ?_
    refine wp_seq ?_
    refine wp_region_lit ?_
    refine s_move hm rfl rfl ?_
    clear hm a; intro a hm
    refine s_nilCheck hm rfl rfl ?_
    clear hm a; intro a hm
    refine s_fieldAddr hm rfl Try.underlying74 rfl ti72 rfl rfl ?_
    clear hm a; intro a hm
    refine s_load hm rfl rfl (hS.load_one (p := 1) rfl Try.underlying72 rfl rfl) ?_
    clear hm a; intro a hm
    refine s_lenO hm rfl Try.underlying72 rfl hp0_0 ?_
    clear hm a; intro a hm
    refine s_cmp (b := decide ((x0_l.length : Int) ≥ 8)) hm rfl rfl rfl (.inr (.inr (.inr (.inr (.inr ⟨rfl, rfl⟩))))) ?_
    clear hm a; intro a hm
    refine s_assign hm rfl rfl ?_
    clear hm a; intro a hm
    refine wpList_nil ?_
    replace hm : Fr 29 a [(0, .pointer (some ⟨g0, 0, none⟩)), (3, .pointer (some ⟨g_2, 0, none⟩)), (4, .bool false), (10, .bool (decide ((x0_l.length : Int) ≥ 8)))] := hm.keep [0, 3, 4, 10]
    refine x_then_n ?_
    by_cases hc_9 : (x0_l.length : Int) ≥ 8
    · rw [if_pos hc_9] at H
      refine c_cond_t hm rfl (decide_eq_true hc_9) ?_
      refine wp_seq ?_
      refine wp_region_lit ?_
      refine s_assign hm rfl rfl ?_
      clear hm a; intro a hm
      refine wpList_nil ?_
      replace hm : Fr 29 a [(0, .pointer (some ⟨g0, 0, none⟩)), (3, .pointer (some ⟨g_2, 0, none⟩)), (4, .bool false)] := hm.keep [0, 3, 4]
      refine x_then_n ?_
      refine wp_ret (x_block_r (x_then_r ?_))
      obtain rfl := Option.some.inj H
      exact f_ret hm (rs := [.tmp 4]) rfl (.tmp rfl .nil) ⟨_, rfl, p0_0, p0_1, N_7, M0_0, M0_1, rfl, (Sep.sel hS [0, 1, 2, 3] (by decide)), (hp0_0.mono (Mem.le_un _ _)), (hp0_1.mono (Mem.le_un _ _))⟩
    · rw [if_neg hc_9] at H
      refine c_cond_f hm rfl (decide_eq_false hc_9) ?_
      refine wp_skip ?_
      refine x_block_n ?_
      refine x_then_n (hKJ_3 _ _ ?_)
      refine c_seq fun KJ_10 hKJ_10 => ?_
      refine h_begin (S := fun w => Sep w0 w [N_7, Mem.no, Mem.no, M0_1, Mem.one g_2 (.cells ([.int .i64 x1.Sess, .int .i64 x1.Seq, .int .i64 x1.Cmd.Kind, .int .i64 x1.Cmd.Who, p1_2, p1_3, p1_4] : List Value).toArray 45 (0, 0))] Z) 13 (by kernel_rfl) rfl [false, false, false, false, false, false, false, false, false, false, false, false, false].toArray rfl hS fun w_11 hS => ?_
      replace hS : Sep w0 w_11 [N_7, Mem.one g0 (.cells ([p0_0, p0_1] : List Value).toArray 74 (0, 0)), M0_0, M0_1, Mem.one g_2 (.cells ([.int .i64 x1.Sess, .int .i64 x1.Seq, .int .i64 x1.Cmd.Kind, .int .i64 x1.Cmd.Who, p1_2, p1_3, p1_4] : List Value).toArray 45 (0, 0))] Z := hS
      refine h_take 0 [true, false, false, false, false, false, false, false, false, false, false, false, false].toArray rfl (by kernel_rfl) (by kernel_rfl) (by kernel_rfl) (fun _ _ _ _ h => h) rfl rfl rfl rfl hm (hS.sub (.cons (Mem.le.refl _) (.cons (Mem.no_le _) (.cons (Mem.no_le _) (.cons (Mem.le.refl _) (.cons (Mem.le.refl _) (Sub.nil _))))))) (v := .pointer (some ⟨g0, 0, none⟩)) (fun w hS => r_move hm rfl) ?_
      clear hm a; intro a hm
      refine h_take 1 [true, true, false, false, false, false, false, false, false, false, false, false, false].toArray rfl (by kernel_rfl) (by kernel_rfl) (by kernel_rfl) (fun _ _ _ _ h => h) rfl rfl rfl rfl hm (hS.sub (.cons (Mem.le.refl _) (.cons (Mem.no_le _) (.cons (Mem.no_le _) (.cons (Mem.le.refl _) (.cons (Mem.le.refl _) (Sub.nil _))))))) (v := .pointer (some ⟨g0, 0, none⟩)) (fun w hS => r_move hm rfl) ?_
      clear hm a; intro a hm
      refine h_take 2 [true, true, true, false, false, false, false, false, false, false, false, false, false].toArray rfl (by kernel_rfl) (by kernel_rfl) (by kernel_rfl) (fun _ _ _ _ h => h) rfl rfl rfl rfl hm (hS.sub (.cons (Mem.le.refl _) (.cons (Mem.no_le _) (.cons (Mem.no_le _) (.cons (Mem.le.refl _) (.cons (Mem.le.refl _) (Sub.nil _))))))) (v := .pointer (some ⟨g0, 0, none⟩)) (fun w hS => r_nilCheck hm rfl) ?_
      clear hm a; intro a hm
      refine h_take 3 [true, true, true, true, false, false, false, false, false, false, false, false, false].toArray rfl (by kernel_rfl) (by kernel_rfl) (by kernel_rfl) (fun _ _ _ _ h => h) rfl rfl rfl rfl hm (hS.sub (.cons (Mem.le.refl _) (.cons (Mem.no_le _) (.cons (Mem.no_le _) (.cons (Mem.le.refl _) (.cons (Mem.le.refl _) (Sub.nil _))))))) (v := .pointer (some ⟨g0, 0, none⟩)) (fun w hS => r_fieldAddr hm Try.underlying74 rfl ti72 rfl rfl rfl) ?_
      clear hm a; intro a hm
      refine h_take 5 [true, true, true, true, false, true, false, false, false, false, false, false, false].toArray rfl (by kernel_rfl) (by kernel_rfl) (by kernel_rfl) (fun _ _ _ _ h => h) rfl rfl rfl rfl hm (hS.sub (.cons (Mem.le.refl _) (.cons (Mem.no_le _) (.cons (Mem.no_le _) (.cons (Mem.le.refl _) (.cons (Mem.le.refl _) (Sub.nil _))))))) (v := .agg ([.int .i64 x1.Sess, .int .i64 x1.Seq, .int .i64 x1.Cmd.Kind, .int .i64 x1.Cmd.Who, p1_2, p1_3, p1_4] : List Value).toArray) (fun w hS => r_load hm rfl (hS.load_agg (p := 4) (us := [.int .i64 x1.Sess, .int .i64 x1.Seq, .int .i64 x1.Cmd.Kind, .int .i64 x1.Cmd.Who, p1_2, p1_3, p1_4]) rfl Try.underlying45 rfl ti45 rfl rfl)) ?_
      clear hm a; intro a hm
      obtain ⟨t_12, et_12, H⟩ := Option.bind_eq_some_iff.1 H
      obtain ⟨t_37, et_37, H⟩ := Option.bind_eq_some_iff.1 H
      refine h_events [4, 6] (by kernel_rfl) (by simp) ?_
      intro i hi; simp only [List.mem_cons, List.not_mem_nil, or_false] at hi; rcases hi with rfl | rfl
      · refine ⟨_, [true, true, true, true, true, true, false, false, false, false, false, false, false].toArray, rfl, rfl, ?_⟩
        refine s_load hm rfl rfl (hS.load_one (p := 1) rfl Try.underlying72 rfl rfl) ?_
        clear hm a; intro a hm
        refine wpList_nil ?_
        refine x_then_n ⟨(hS.sub (.cons (Mem.le.refl _) (.cons (Mem.no_le _) (.cons (Mem.no_le _) (.cons (Mem.le.refl _) (.cons (Mem.le.refl _) (Sub.nil _))))))), ?_⟩
        refine h_event 6 [true, true, true, true, true, true, true, false, false, false, false, false, false].toArray rfl (by kernel_rfl) rfl ?_
        refine s_call hm rfl Try.call47 rfl (mach_StillEntry.calls x1 _ _ _ t_12 w0 _ _ _ (Mem.le.refl _) (hS.enter [] (by decide)) (hp1_2.mono (hA.trans (hS.le_zed []))) (hp1_3.mono (hA.trans (hS.le_zed []))) (hp1_4.mono (hA.trans (hS.le_zed []))) et_12) ?_
        rintro _ w_13 ⟨v_16, v_20, v_24, N_14, M_18, M_22, M_26, rfl, hS', hr_17, hr_21, hr_25⟩
        clear hm a; intro a hm
        obtain ⟨N_15, hS'', le_15, ln_15⟩ := hS.call [] (by decide) rfl (l' := []) (ow := [M_18, M_22, M_26]) rfl hS'
        replace hS : Sep w0 w_13 [N_15, Mem.one g0 (.cells ([p0_0, p0_1] : List Value).toArray 74 (0, 0)), M0_0, M0_1, Mem.one g_2 (.cells ([.int .i64 x1.Sess, .int .i64 x1.Seq, .int .i64 x1.Cmd.Kind, .int .i64 x1.Cmd.Who, p1_2, p1_3, p1_4] : List Value).toArray 45 (0, 0)), M_18, M_22, M_26] Z := hS''
        clear hS' hS''
        refine wpList_nil ?_
        refine x_then_n ⟨(hS.sub (.cons le_15 (.cons (Mem.no_le _) (.cons (Mem.no_le _) (.cons (Mem.le.refl _) (.cons (Mem.le.refl _) (Sub.nil _))))))), ?_⟩
        refine h_take 7 [true, true, true, true, true, true, true, true, false, false, false, false, false].toArray rfl (by kernel_rfl) (by kernel_rfl) (by kernel_rfl) (fun _ _ _ _ h => h) rfl rfl rfl rfl hm (hS.sub (.cons le_15 (.cons (Mem.no_le _) (.cons (Mem.no_le _) (.cons (Mem.le.refl _) (.cons (Mem.le.refl _) (Sub.nil _))))))) (v := .agg ([.int .i64 t_12.Sess, .int .i64 t_12.Seq, .int .i64 t_12.Cmd.Kind, .int .i64 t_12.Cmd.Who, v_16, v_20, v_24, .bool false] : List Value).toArray) (fun w hS => r_build hm ti78 pl78 rfl (.cons rfl .nil) (cs := [.int .i64 t_12.Sess, .int .i64 t_12.Seq, .int .i64 t_12.Cmd.Kind, .int .i64 t_12.Cmd.Who, v_16, v_20, v_24, .bool false]) rfl) ?_
        clear hm a; intro a hm
        refine h_event 8 [true, true, true, true, true, true, true, true, true, false, false, false, false].toArray rfl (by kernel_rfl) rfl ?_
        obtain ⟨N_28, hS', le_28, lo_28⟩ := hS.freeze 4 rfl
        replace hS : Sep w0 w_13 [N_28, Mem.one g0 (.cells ([p0_0, p0_1] : List Value).toArray 74 (0, 0)), M0_0, M0_1, Mem.one g_2 (.cells ([.int .i64 x1.Sess, .int .i64 x1.Seq, .int .i64 x1.Cmd.Kind, .int .i64 x1.Cmd.Who, p1_2, p1_3, p1_4] : List Value).toArray 45 (0, 0)), Mem.no, M_22, M_26] Z := hS'
        clear hS'
        obtain ⟨N_29, hS', le_29, lo_29⟩ := hS.freeze 5 rfl
        replace hS : Sep w0 w_13 [N_29, Mem.one g0 (.cells ([p0_0, p0_1] : List Value).toArray 74 (0, 0)), M0_0, M0_1, Mem.one g_2 (.cells ([.int .i64 x1.Sess, .int .i64 x1.Seq, .int .i64 x1.Cmd.Kind, .int .i64 x1.Cmd.Who, p1_2, p1_3, p1_4] : List Value).toArray 45 (0, 0)), Mem.no, Mem.no, M_26] Z := hS'
        clear hS'
        obtain ⟨N_30, hS', le_30, lo_30⟩ := hS.freeze 6 rfl
        replace hS : Sep w0 w_13 [N_30, Mem.one g0 (.cells ([p0_0, p0_1] : List Value).toArray 74 (0, 0)), M0_0, M0_1, Mem.one g_2 (.cells ([.int .i64 x1.Sess, .int .i64 x1.Seq, .int .i64 x1.Cmd.Kind, .int .i64 x1.Cmd.Who, p1_2, p1_3, p1_4] : List Value).toArray 45 (0, 0)), Mem.no, Mem.no, Mem.no] Z := hS'
        clear hS'
        have hq_35 : Reps k_wait_call N_30 ([(⟨t_12, false⟩ : wait_call)] : List wait_call) _ := ((Reps.one (d := k_wait_call) (x := (⟨t_12, false⟩ : wait_call)) (k_wait_call.mk' ((hr_17.rd lo_28 (Mem.no_le _)).mono (le_29.trans le_30)) ((hr_21.rd lo_29 (Mem.no_le _)).mono le_30) (hr_25.rd lo_30 (Mem.no_le _)))).append (Reps.nil k_wait_call _))
        refine s_buildSlice hm rfl Try.underlying72 ti78 rfl rfl rfl (.cons rfl .nil) rfl rfl rfl hS hq_35 rfl ?_
        intro w_31 v_32 M_33 hS' ho_34
        clear hm a; intro a hm
        replace hS : Sep w0 w_31 [N_30, Mem.one g0 (.cells ([p0_0, p0_1] : List Value).toArray 74 (0, 0)), M0_0, M0_1, Mem.one g_2 (.cells ([.int .i64 x1.Sess, .int .i64 x1.Seq, .int .i64 x1.Cmd.Kind, .int .i64 x1.Cmd.Who, p1_2, p1_3, p1_4] : List Value).toArray 45 (0, 0)), Mem.no, Mem.no, Mem.no, M_33] Z := hS'
        clear hS' hq_35
        refine wpList_nil ?_
        refine x_then_n ⟨(hS.sub (.cons (le_15.trans (le_28.trans (le_29.trans le_30))) (.cons (Mem.no_le _) (.cons (Mem.no_le _) (.cons (Mem.le.refl _) (.cons (Mem.le.refl _) (Sub.nil _))))))), ?_⟩
        refine h_event 9 [true, true, true, true, true, true, true, true, true, true, false, false, false].toArray rfl (by kernel_rfl) rfl ?_
        refine s_append (J := N_30) (I' := (A.un N_30)) (p := 2) 1256584717458 hm rfl rfl rfl Try.underlying72 ti78 rfl rfl rfl rfl hS rfl hp0_0 (ho_34.src (hS.own 8)) (Mem.le_un _ _) ((Mem.le.refl _).trans (hS.sndA hA)) et_37 ?_
        intro w_38 v_39 M_40 hS' ho_41
        clear hm a; intro a hm
        replace hS : Sep w0 w_38 [N_30, Mem.one g0 (.cells ([p0_0, p0_1] : List Value).toArray 74 (0, 0)), M_40, M0_1, Mem.one g_2 (.cells ([.int .i64 x1.Sess, .int .i64 x1.Seq, .int .i64 x1.Cmd.Kind, .int .i64 x1.Cmd.Who, p1_2, p1_3, p1_4] : List Value).toArray 45 (0, 0)), Mem.no, Mem.no, Mem.no, M_33] Z := hS'
        clear hS'
        refine wpList_nil ?_
        refine x_then_n ⟨(hS.sub (.cons (le_15.trans (le_28.trans (le_29.trans le_30))) (.cons (Mem.no_le _) (.cons (Mem.no_le _) (.cons (Mem.le.refl _) (.cons (Mem.le.refl _) (Sub.nil _))))))), ?_⟩
        refine h_take 10 [true, true, true, true, true, true, true, true, true, true, true, false, false].toArray rfl (by kernel_rfl) (by kernel_rfl) (by kernel_rfl) (fun _ _ _ _ h => h) rfl rfl rfl rfl hm (hS.sub (.cons (le_15.trans (le_28.trans (le_29.trans le_30))) (.cons (Mem.no_le _) (.cons (Mem.no_le _) (.cons (Mem.le.refl _) (.cons (Mem.le.refl _) (Sub.nil _))))))) (v := .pointer (some ⟨g0, 0, none⟩)) (fun w hS => r_nilCheck hm rfl) ?_
        clear hm a; intro a hm
        refine h_take 11 [true, true, true, true, true, true, true, true, true, true, true, true, false].toArray rfl (by kernel_rfl) (by kernel_rfl) (by kernel_rfl) (fun _ _ _ _ h => h) rfl rfl rfl rfl hm (hS.sub (.cons (le_15.trans (le_28.trans (le_29.trans le_30))) (.cons (Mem.no_le _) (.cons (Mem.no_le _) (.cons (Mem.le.refl _) (.cons (Mem.le.refl _) (Sub.nil _))))))) (v := .pointer (some ⟨g0, 0, none⟩)) (fun w hS => r_fieldAddr hm Try.underlying74 rfl ti72 rfl rfl rfl) ?_
        clear hm a; intro a hm
        refine h_event 12 [true, true, true, true, true, true, true, true, true, true, true, true, true].toArray rfl (by kernel_rfl) rfl ?_
        obtain ⟨w_43, hs', hS'⟩ := hS.store (P := Try.prog) (p := 1) (o := 0) (t := 72) (v := v_39) (vs := [v_39]) rfl ti72 ho_41.cellsA rfl rfl (by intro u hu; simp only [List.mem_cons, List.not_mem_nil, or_false] at hu; rcases hu with rfl <;> first | rfl | exact ho_41.one)
        refine s_store hm rfl rfl hs' ?_
        replace hS : Sep w0 w_43 [N_30, Mem.one g0 (.cells ([v_39, p0_1] : List Value).toArray 74 (0, 0)), M_40, M0_1, Mem.one g_2 (.cells ([.int .i64 x1.Sess, .int .i64 x1.Seq, .int .i64 x1.Cmd.Kind, .int .i64 x1.Cmd.Who, p1_2, p1_3, p1_4] : List Value).toArray 45 (0, 0)), Mem.no, Mem.no, Mem.no, M_33] Z := hS'
        clear hs' hS'
        refine wpList_nil ?_
        refine x_then_n ⟨(hS.sub (.cons (le_15.trans (le_28.trans (le_29.trans le_30))) (.cons (Mem.no_le _) (.cons (Mem.no_le _) (.cons (Mem.le.refl _) (.cons (Mem.le.refl _) (Sub.nil _))))))), ?_⟩
        refine h_done (by kernel_rfl) ?_
        replace hm : Fr 29 a [(4, .bool false)] := hm.keep [4]
        refine x_then_n (hKJ_10 _ _ ?_)
        refine wp_seq ?_
        refine wp_region_lit ?_
        refine s_assign hm rfl rfl ?_
        clear hm a; intro a hm
        refine wpList_nil ?_
        replace hm : Fr 29 a [(4, .bool true)] := hm.keep [4]
        refine x_then_n ?_
        refine wp_ret ?_
        obtain rfl := Option.some.inj H
        exact f_ret hm (rs := [.tmp 4]) rfl (.tmp rfl .nil) ⟨_, rfl, v_39, p0_1, N_30, M_40, M0_1, rfl, (Sep.sel hS [0, 1, 2, 3] (by decide)), (ho_41.mono (Mem.un_left (Mem.le.refl _))), (hp0_1.mono (Mem.le_un _ _))⟩
      · refine ⟨_, [true, true, true, true, false, true, true, false, false, false, false, false, false].toArray, rfl, rfl, ?_⟩
        refine s_call hm rfl Try.call47 rfl (mach_StillEntry.calls x1 _ _ _ t_12 w0 _ _ _ (Mem.le.refl _) (hS.enter [] (by decide)) (hp1_2.mono (hA.trans (hS.le_zed []))) (hp1_3.mono (hA.trans (hS.le_zed []))) (hp1_4.mono (hA.trans (hS.le_zed []))) et_12) ?_
        rintro _ w_45 ⟨v_48, v_52, v_56, N_46, M_50, M_54, M_58, rfl, hS', hr_49, hr_53, hr_57⟩
        clear hm a; intro a hm
        obtain ⟨N_47, hS'', le_47, ln_47⟩ := hS.call [] (by decide) rfl (l' := []) (ow := [M_50, M_54, M_58]) rfl hS'
        replace hS : Sep w0 w_45 [N_47, Mem.one g0 (.cells ([p0_0, p0_1] : List Value).toArray 74 (0, 0)), M0_0, M0_1, Mem.one g_2 (.cells ([.int .i64 x1.Sess, .int .i64 x1.Seq, .int .i64 x1.Cmd.Kind, .int .i64 x1.Cmd.Who, p1_2, p1_3, p1_4] : List Value).toArray 45 (0, 0)), M_50, M_54, M_58] Z := hS''
        clear hS' hS''
        refine wpList_nil ?_
        refine x_then_n ⟨(hS.sub (.cons le_47 (.cons (Mem.no_le _) (.cons (Mem.no_le _) (.cons (Mem.le.refl _) (.cons (Mem.le.refl _) (Sub.nil _))))))), ?_⟩
        refine h_take 7 [true, true, true, true, false, true, true, true, false, false, false, false, false].toArray rfl (by kernel_rfl) (by kernel_rfl) (by kernel_rfl) (fun _ _ _ _ h => h) rfl rfl rfl rfl hm (hS.sub (.cons le_47 (.cons (Mem.no_le _) (.cons (Mem.no_le _) (.cons (Mem.le.refl _) (.cons (Mem.le.refl _) (Sub.nil _))))))) (v := .agg ([.int .i64 t_12.Sess, .int .i64 t_12.Seq, .int .i64 t_12.Cmd.Kind, .int .i64 t_12.Cmd.Who, v_48, v_52, v_56, .bool false] : List Value).toArray) (fun w hS => r_build hm ti78 pl78 rfl (.cons rfl .nil) (cs := [.int .i64 t_12.Sess, .int .i64 t_12.Seq, .int .i64 t_12.Cmd.Kind, .int .i64 t_12.Cmd.Who, v_48, v_52, v_56, .bool false]) rfl) ?_
        clear hm a; intro a hm
        refine h_events [4, 8] (by kernel_rfl) (by simp) ?_
        intro i hi; simp only [List.mem_cons, List.not_mem_nil, or_false] at hi; rcases hi with rfl | rfl
        · refine ⟨_, [true, true, true, true, true, true, true, true, false, false, false, false, false].toArray, rfl, rfl, ?_⟩
          refine s_load hm rfl rfl (hS.load_one (p := 1) rfl Try.underlying72 rfl rfl) ?_
          clear hm a; intro a hm
          refine wpList_nil ?_
          refine x_then_n ⟨(hS.sub (.cons le_47 (.cons (Mem.no_le _) (.cons (Mem.no_le _) (.cons (Mem.le.refl _) (.cons (Mem.le.refl _) (Sub.nil _))))))), ?_⟩
          refine h_event 8 [true, true, true, true, true, true, true, true, true, false, false, false, false].toArray rfl (by kernel_rfl) rfl ?_
          obtain ⟨N_60, hS', le_60, lo_60⟩ := hS.freeze 4 rfl
          replace hS : Sep w0 w_45 [N_60, Mem.one g0 (.cells ([p0_0, p0_1] : List Value).toArray 74 (0, 0)), M0_0, M0_1, Mem.one g_2 (.cells ([.int .i64 x1.Sess, .int .i64 x1.Seq, .int .i64 x1.Cmd.Kind, .int .i64 x1.Cmd.Who, p1_2, p1_3, p1_4] : List Value).toArray 45 (0, 0)), Mem.no, M_54, M_58] Z := hS'
          clear hS'
          obtain ⟨N_61, hS', le_61, lo_61⟩ := hS.freeze 5 rfl
          replace hS : Sep w0 w_45 [N_61, Mem.one g0 (.cells ([p0_0, p0_1] : List Value).toArray 74 (0, 0)), M0_0, M0_1, Mem.one g_2 (.cells ([.int .i64 x1.Sess, .int .i64 x1.Seq, .int .i64 x1.Cmd.Kind, .int .i64 x1.Cmd.Who, p1_2, p1_3, p1_4] : List Value).toArray 45 (0, 0)), Mem.no, Mem.no, M_58] Z := hS'
          clear hS'
          obtain ⟨N_62, hS', le_62, lo_62⟩ := hS.freeze 6 rfl
          replace hS : Sep w0 w_45 [N_62, Mem.one g0 (.cells ([p0_0, p0_1] : List Value).toArray 74 (0, 0)), M0_0, M0_1, Mem.one g_2 (.cells ([.int .i64 x1.Sess, .int .i64 x1.Seq, .int .i64 x1.Cmd.Kind, .int .i64 x1.Cmd.Who, p1_2, p1_3, p1_4] : List Value).toArray 45 (0, 0)), Mem.no, Mem.no, Mem.no] Z := hS'
          clear hS'
          have hq_67 : Reps k_wait_call N_62 ([(⟨t_12, false⟩ : wait_call)] : List wait_call) _ := ((Reps.one (d := k_wait_call) (x := (⟨t_12, false⟩ : wait_call)) (k_wait_call.mk' ((hr_49.rd lo_60 (Mem.no_le _)).mono (le_61.trans le_62)) ((hr_53.rd lo_61 (Mem.no_le _)).mono le_62) (hr_57.rd lo_62 (Mem.no_le _)))).append (Reps.nil k_wait_call _))
          refine s_buildSlice hm rfl Try.underlying72 ti78 rfl rfl rfl (.cons rfl .nil) rfl rfl rfl hS hq_67 rfl ?_
          intro w_63 v_64 M_65 hS' ho_66
          clear hm a; intro a hm
          replace hS : Sep w0 w_63 [N_62, Mem.one g0 (.cells ([p0_0, p0_1] : List Value).toArray 74 (0, 0)), M0_0, M0_1, Mem.one g_2 (.cells ([.int .i64 x1.Sess, .int .i64 x1.Seq, .int .i64 x1.Cmd.Kind, .int .i64 x1.Cmd.Who, p1_2, p1_3, p1_4] : List Value).toArray 45 (0, 0)), Mem.no, Mem.no, Mem.no, M_65] Z := hS'
          clear hS' hq_67
          refine wpList_nil ?_
          refine x_then_n ⟨(hS.sub (.cons (le_47.trans (le_60.trans (le_61.trans le_62))) (.cons (Mem.no_le _) (.cons (Mem.no_le _) (.cons (Mem.le.refl _) (.cons (Mem.le.refl _) (Sub.nil _))))))), ?_⟩
          refine h_event 9 [true, true, true, true, true, true, true, true, true, true, false, false, false].toArray rfl (by kernel_rfl) rfl ?_
          refine s_append (J := N_62) (I' := (A.un N_62)) (p := 2) 1256584717458 hm rfl rfl rfl Try.underlying72 ti78 rfl rfl rfl rfl hS rfl hp0_0 (ho_66.src (hS.own 8)) (Mem.le_un _ _) ((Mem.le.refl _).trans (hS.sndA hA)) et_37 ?_
          intro w_70 v_71 M_72 hS' ho_73
          clear hm a; intro a hm
          replace hS : Sep w0 w_70 [N_62, Mem.one g0 (.cells ([p0_0, p0_1] : List Value).toArray 74 (0, 0)), M_72, M0_1, Mem.one g_2 (.cells ([.int .i64 x1.Sess, .int .i64 x1.Seq, .int .i64 x1.Cmd.Kind, .int .i64 x1.Cmd.Who, p1_2, p1_3, p1_4] : List Value).toArray 45 (0, 0)), Mem.no, Mem.no, Mem.no, M_65] Z := hS'
          clear hS'
          refine wpList_nil ?_
          refine x_then_n ⟨(hS.sub (.cons (le_47.trans (le_60.trans (le_61.trans le_62))) (.cons (Mem.no_le _) (.cons (Mem.no_le _) (.cons (Mem.le.refl _) (.cons (Mem.le.refl _) (Sub.nil _))))))), ?_⟩
          refine h_take 10 [true, true, true, true, true, true, true, true, true, true, true, false, false].toArray rfl (by kernel_rfl) (by kernel_rfl) (by kernel_rfl) (fun _ _ _ _ h => h) rfl rfl rfl rfl hm (hS.sub (.cons (le_47.trans (le_60.trans (le_61.trans le_62))) (.cons (Mem.no_le _) (.cons (Mem.no_le _) (.cons (Mem.le.refl _) (.cons (Mem.le.refl _) (Sub.nil _))))))) (v := .pointer (some ⟨g0, 0, none⟩)) (fun w hS => r_nilCheck hm rfl) ?_
          clear hm a; intro a hm
          refine h_take 11 [true, true, true, true, true, true, true, true, true, true, true, true, false].toArray rfl (by kernel_rfl) (by kernel_rfl) (by kernel_rfl) (fun _ _ _ _ h => h) rfl rfl rfl rfl hm (hS.sub (.cons (le_47.trans (le_60.trans (le_61.trans le_62))) (.cons (Mem.no_le _) (.cons (Mem.no_le _) (.cons (Mem.le.refl _) (.cons (Mem.le.refl _) (Sub.nil _))))))) (v := .pointer (some ⟨g0, 0, none⟩)) (fun w hS => r_fieldAddr hm Try.underlying74 rfl ti72 rfl rfl rfl) ?_
          clear hm a; intro a hm
          refine h_event 12 [true, true, true, true, true, true, true, true, true, true, true, true, true].toArray rfl (by kernel_rfl) rfl ?_
          obtain ⟨w_75, hs', hS'⟩ := hS.store (P := Try.prog) (p := 1) (o := 0) (t := 72) (v := v_71) (vs := [v_71]) rfl ti72 ho_73.cellsA rfl rfl (by intro u hu; simp only [List.mem_cons, List.not_mem_nil, or_false] at hu; rcases hu with rfl <;> first | rfl | exact ho_73.one)
          refine s_store hm rfl rfl hs' ?_
          replace hS : Sep w0 w_75 [N_62, Mem.one g0 (.cells ([v_71, p0_1] : List Value).toArray 74 (0, 0)), M_72, M0_1, Mem.one g_2 (.cells ([.int .i64 x1.Sess, .int .i64 x1.Seq, .int .i64 x1.Cmd.Kind, .int .i64 x1.Cmd.Who, p1_2, p1_3, p1_4] : List Value).toArray 45 (0, 0)), Mem.no, Mem.no, Mem.no, M_65] Z := hS'
          clear hs' hS'
          refine wpList_nil ?_
          refine x_then_n ⟨(hS.sub (.cons (le_47.trans (le_60.trans (le_61.trans le_62))) (.cons (Mem.no_le _) (.cons (Mem.no_le _) (.cons (Mem.le.refl _) (.cons (Mem.le.refl _) (Sub.nil _))))))), ?_⟩
          refine h_done (by kernel_rfl) ?_
          replace hm : Fr 29 a [(4, .bool false)] := hm.keep [4]
          refine x_then_n (hKJ_10 _ _ ?_)
          refine wp_seq ?_
          refine wp_region_lit ?_
          refine s_assign hm rfl rfl ?_
          clear hm a; intro a hm
          refine wpList_nil ?_
          replace hm : Fr 29 a [(4, .bool true)] := hm.keep [4]
          refine x_then_n ?_
          refine wp_ret ?_
          obtain rfl := Option.some.inj H
          exact f_ret hm (rs := [.tmp 4]) rfl (.tmp rfl .nil) ⟨_, rfl, v_71, p0_1, N_62, M_72, M0_1, rfl, (Sep.sel hS [0, 1, 2, 3] (by decide)), (ho_73.mono (Mem.un_left (Mem.le.refl _))), (hp0_1.mono (Mem.le_un _ _))⟩
        · refine ⟨_, [true, true, true, true, false, true, true, true, true, false, false, false, false].toArray, rfl, rfl, ?_⟩
          obtain ⟨N_76, hS', le_76, lo_76⟩ := hS.freeze 4 rfl
          replace hS : Sep w0 w_45 [N_76, Mem.one g0 (.cells ([p0_0, p0_1] : List Value).toArray 74 (0, 0)), M0_0, M0_1, Mem.one g_2 (.cells ([.int .i64 x1.Sess, .int .i64 x1.Seq, .int .i64 x1.Cmd.Kind, .int .i64 x1.Cmd.Who, p1_2, p1_3, p1_4] : List Value).toArray 45 (0, 0)), Mem.no, M_54, M_58] Z := hS'
          clear hS'
          obtain ⟨N_77, hS', le_77, lo_77⟩ := hS.freeze 5 rfl
          replace hS : Sep w0 w_45 [N_77, Mem.one g0 (.cells ([p0_0, p0_1] : List Value).toArray 74 (0, 0)), M0_0, M0_1, Mem.one g_2 (.cells ([.int .i64 x1.Sess, .int .i64 x1.Seq, .int .i64 x1.Cmd.Kind, .int .i64 x1.Cmd.Who, p1_2, p1_3, p1_4] : List Value).toArray 45 (0, 0)), Mem.no, Mem.no, M_58] Z := hS'
          clear hS'
          obtain ⟨N_78, hS', le_78, lo_78⟩ := hS.freeze 6 rfl
          replace hS : Sep w0 w_45 [N_78, Mem.one g0 (.cells ([p0_0, p0_1] : List Value).toArray 74 (0, 0)), M0_0, M0_1, Mem.one g_2 (.cells ([.int .i64 x1.Sess, .int .i64 x1.Seq, .int .i64 x1.Cmd.Kind, .int .i64 x1.Cmd.Who, p1_2, p1_3, p1_4] : List Value).toArray 45 (0, 0)), Mem.no, Mem.no, Mem.no] Z := hS'
          clear hS'
          have hq_83 : Reps k_wait_call N_78 ([(⟨t_12, false⟩ : wait_call)] : List wait_call) _ := ((Reps.one (d := k_wait_call) (x := (⟨t_12, false⟩ : wait_call)) (k_wait_call.mk' ((hr_49.rd lo_76 (Mem.no_le _)).mono (le_77.trans le_78)) ((hr_53.rd lo_77 (Mem.no_le _)).mono le_78) (hr_57.rd lo_78 (Mem.no_le _)))).append (Reps.nil k_wait_call _))
          refine s_buildSlice hm rfl Try.underlying72 ti78 rfl rfl rfl (.cons rfl .nil) rfl rfl rfl hS hq_83 rfl ?_
          intro w_79 v_80 M_81 hS' ho_82
          clear hm a; intro a hm
          replace hS : Sep w0 w_79 [N_78, Mem.one g0 (.cells ([p0_0, p0_1] : List Value).toArray 74 (0, 0)), M0_0, M0_1, Mem.one g_2 (.cells ([.int .i64 x1.Sess, .int .i64 x1.Seq, .int .i64 x1.Cmd.Kind, .int .i64 x1.Cmd.Who, p1_2, p1_3, p1_4] : List Value).toArray 45 (0, 0)), Mem.no, Mem.no, Mem.no, M_81] Z := hS'
          clear hS' hq_83
          refine wpList_nil ?_
          refine x_then_n ⟨(hS.sub (.cons (le_47.trans (le_76.trans (le_77.trans le_78))) (.cons (Mem.no_le _) (.cons (Mem.no_le _) (.cons (Mem.le.refl _) (.cons (Mem.le.refl _) (Sub.nil _))))))), ?_⟩
          refine h_event 4 [true, true, true, true, true, true, true, true, true, false, false, false, false].toArray rfl (by kernel_rfl) rfl ?_
          refine s_load hm rfl rfl (hS.load_one (p := 1) rfl Try.underlying72 rfl rfl) ?_
          clear hm a; intro a hm
          refine wpList_nil ?_
          refine x_then_n ⟨(hS.sub (.cons (le_47.trans (le_76.trans (le_77.trans le_78))) (.cons (Mem.no_le _) (.cons (Mem.no_le _) (.cons (Mem.le.refl _) (.cons (Mem.le.refl _) (Sub.nil _))))))), ?_⟩
          refine h_event 9 [true, true, true, true, true, true, true, true, true, true, false, false, false].toArray rfl (by kernel_rfl) rfl ?_
          refine s_append (J := N_78) (I' := (A.un N_78)) (p := 2) 1256584717458 hm rfl rfl rfl Try.underlying72 ti78 rfl rfl rfl rfl hS rfl hp0_0 (ho_82.src (hS.own 8)) (Mem.le_un _ _) ((Mem.le.refl _).trans (hS.sndA hA)) et_37 ?_
          intro w_86 v_87 M_88 hS' ho_89
          clear hm a; intro a hm
          replace hS : Sep w0 w_86 [N_78, Mem.one g0 (.cells ([p0_0, p0_1] : List Value).toArray 74 (0, 0)), M_88, M0_1, Mem.one g_2 (.cells ([.int .i64 x1.Sess, .int .i64 x1.Seq, .int .i64 x1.Cmd.Kind, .int .i64 x1.Cmd.Who, p1_2, p1_3, p1_4] : List Value).toArray 45 (0, 0)), Mem.no, Mem.no, Mem.no, M_81] Z := hS'
          clear hS'
          refine wpList_nil ?_
          refine x_then_n ⟨(hS.sub (.cons (le_47.trans (le_76.trans (le_77.trans le_78))) (.cons (Mem.no_le _) (.cons (Mem.no_le _) (.cons (Mem.le.refl _) (.cons (Mem.le.refl _) (Sub.nil _))))))), ?_⟩
          refine h_take 10 [true, true, true, true, true, true, true, true, true, true, true, false, false].toArray rfl (by kernel_rfl) (by kernel_rfl) (by kernel_rfl) (fun _ _ _ _ h => h) rfl rfl rfl rfl hm (hS.sub (.cons (le_47.trans (le_76.trans (le_77.trans le_78))) (.cons (Mem.no_le _) (.cons (Mem.no_le _) (.cons (Mem.le.refl _) (.cons (Mem.le.refl _) (Sub.nil _))))))) (v := .pointer (some ⟨g0, 0, none⟩)) (fun w hS => r_nilCheck hm rfl) ?_
          clear hm a; intro a hm
          refine h_take 11 [true, true, true, true, true, true, true, true, true, true, true, true, false].toArray rfl (by kernel_rfl) (by kernel_rfl) (by kernel_rfl) (fun _ _ _ _ h => h) rfl rfl rfl rfl hm (hS.sub (.cons (le_47.trans (le_76.trans (le_77.trans le_78))) (.cons (Mem.no_le _) (.cons (Mem.no_le _) (.cons (Mem.le.refl _) (.cons (Mem.le.refl _) (Sub.nil _))))))) (v := .pointer (some ⟨g0, 0, none⟩)) (fun w hS => r_fieldAddr hm Try.underlying74 rfl ti72 rfl rfl rfl) ?_
          clear hm a; intro a hm
          refine h_event 12 [true, true, true, true, true, true, true, true, true, true, true, true, true].toArray rfl (by kernel_rfl) rfl ?_
          obtain ⟨w_91, hs', hS'⟩ := hS.store (P := Try.prog) (p := 1) (o := 0) (t := 72) (v := v_87) (vs := [v_87]) rfl ti72 ho_89.cellsA rfl rfl (by intro u hu; simp only [List.mem_cons, List.not_mem_nil, or_false] at hu; rcases hu with rfl <;> first | rfl | exact ho_89.one)
          refine s_store hm rfl rfl hs' ?_
          replace hS : Sep w0 w_91 [N_78, Mem.one g0 (.cells ([v_87, p0_1] : List Value).toArray 74 (0, 0)), M_88, M0_1, Mem.one g_2 (.cells ([.int .i64 x1.Sess, .int .i64 x1.Seq, .int .i64 x1.Cmd.Kind, .int .i64 x1.Cmd.Who, p1_2, p1_3, p1_4] : List Value).toArray 45 (0, 0)), Mem.no, Mem.no, Mem.no, M_81] Z := hS'
          clear hs' hS'
          refine wpList_nil ?_
          refine x_then_n ⟨(hS.sub (.cons (le_47.trans (le_76.trans (le_77.trans le_78))) (.cons (Mem.no_le _) (.cons (Mem.no_le _) (.cons (Mem.le.refl _) (.cons (Mem.le.refl _) (Sub.nil _))))))), ?_⟩
          refine h_done (by kernel_rfl) ?_
          replace hm : Fr 29 a [(4, .bool false)] := hm.keep [4]
          refine x_then_n (hKJ_10 _ _ ?_)
          refine wp_seq ?_
          refine wp_region_lit ?_
          refine s_assign hm rfl rfl ?_
          clear hm a; intro a hm
          refine wpList_nil ?_
          replace hm : Fr 29 a [(4, .bool true)] := hm.keep [4]
          refine x_then_n ?_
          refine wp_ret ?_
          obtain rfl := Option.some.inj H
          exact f_ret hm (rs := [.tmp 4]) rfl (.tmp rfl .nil) ⟨_, rfl, v_87, p0_1, N_78, M_88, M0_1, rfl, (Sep.sel hS [0, 1, 2, 3] (by decide)), (ho_89.mono (Mem.un_left (Mem.le.refl _))), (hp0_1.mono (Mem.le_un _ _))⟩

set_option maxHeartbeats 4000000 in
set_option maxRecDepth 20000 in
theorem wait_Calls_Done.calls (K : Nat) (g0 : Nat) (x0_l : List wait_call) (p0_0 : Value) (M0_0 : Mem) (x0_done : List api_Reply) (p0_1 : Value) (M0_1 : Mem) (x1 : api_Done) (p1_2 : Value) (p1_3 : Value) (p1_4 : Value) (p1_5 : Value) (r : Bool × (List wait_call) × (List api_Reply)) (w0 w : World) (Z A : Mem) (hA : A.le Z) (hS : Sep w0 w [Mem.one g0 (.cells ([p0_0, p0_1] : List Value).toArray 74 (0, 0)), M0_0, M0_1] Z) (hp0_0 : Own k_wait_call 78 M0_0 A p0_0 x0_l) (hp0_1 : Own k_api_Reply 56 M0_1 A p0_1 x0_done) (hp1_2 : Rd Kd.u8 A p1_2 x1.Entry.Cmd.Key) (hp1_3 : Rd Kd.u8 A p1_3 x1.Entry.Cmd.Val) (hp1_4 : Rd Kd.u8 A p1_4 x1.Entry.Cmd.Old) (hp1_5 : Rd Kd.u8 A p1_5 x1.Result.Val)
    (H : wait_Calls_Done.f K x0_l x0_done x1 = some r) :
    Calls Try.prog 25 [.pointer (some ⟨g0, 0, none⟩), .agg ([.int .i64 x1.Index, .int .i64 x1.Entry.Sess, .int .i64 x1.Entry.Seq, .int .i64 x1.Entry.Cmd.Kind, .int .i64 x1.Entry.Cmd.Who, p1_2, p1_3, p1_4, .int .i64 x1.Result.Err, p1_5, .int .i64 x1.Result.N] : List Value).toArray].toArray w (Ret fun v w' => ∃ (u0 : Value) (u1 : Value) (N : Mem) (M100 : Mem) (M101 : Mem), v = .bool r.1 ∧ Sep w0 w' [N, Mem.one g0 (.cells ([u0, u1] : List Value).toArray 74 (0, 0)), M100, M101] Z ∧ Own k_wait_call 78 M100 (A.un N) u0 r.2.1 ∧ Own k_api_Reply 56 M101 (A.un N) u1 r.2.2) := by
  unfold wait_Calls_Done.f at H
  refine f_enter _ Try.func25 rfl Try.ntmps25 rfl fun a hm => ?_
  replace hm : Fr 49 a [(0, .pointer (some ⟨g0, 0, none⟩)), (1, .agg ([.int .i64 x1.Index, .int .i64 x1.Entry.Sess, .int .i64 x1.Entry.Seq, .int .i64 x1.Entry.Cmd.Kind, .int .i64 x1.Entry.Cmd.Who, p1_2, p1_3, p1_4, .int .i64 x1.Result.Err, p1_5, .int .i64 x1.Result.N] : List Value).toArray)] := hm
  replace hS := hS.start
  replace hS : Sep w0 w [Mem.no, Mem.one g0 (.cells ([p0_0, p0_1] : List Value).toArray 74 (0, 0)), M0_0, M0_1] Z := hS
  refine wp_seq ?_
  refine wp_region_lit ?_
  refine v_box (vs := [.int .i64 x1.Index, .int .i64 x1.Entry.Sess, .int .i64 x1.Entry.Seq, .int .i64 x1.Entry.Cmd.Kind, .int .i64 x1.Entry.Cmd.Who, p1_2, p1_3, p1_4, .int .i64 x1.Result.Err, p1_5, .int .i64 x1.Result.N]) hm rfl rfl rfl hS ?_
  intro w_1 g_2 hS'
  clear hm a; intro a hm
  replace hS : Sep w0 w_1 [Mem.no, Mem.one g0 (.cells ([p0_0, p0_1] : List Value).toArray 74 (0, 0)), M0_0, M0_1, Mem.one g_2 (.cells ([.int .i64 x1.Index, .int .i64 x1.Entry.Sess, .int .i64 x1.Entry.Seq, .int .i64 x1.Entry.Cmd.Kind, .int .i64 x1.Entry.Cmd.Who, p1_2, p1_3, p1_4, .int .i64 x1.Result.Err, p1_5, .int .i64 x1.Result.N] : List Value).toArray 51 (0, 0))] Z := hS'
  clear hS'
  refine s_assign hm rfl rfl ?_
  clear hm a; intro a hm
  refine wpList_nil ?_
  replace hm : Fr 49 a [(0, .pointer (some ⟨g0, 0, none⟩)), (3, .pointer (some ⟨g_2, 0, none⟩)), (4, .bool false)] := hm.keep [0, 3, 4]
  refine x_then_n ?_
  refine wp_seq ?_
  refine wp_region_lit ?_
  refine s_move hm rfl rfl ?_
  clear hm a; intro a hm
  refine s_fieldAddr hm rfl Try.underlying51 rfl ti45 rfl rfl ?_
  clear hm a; intro a hm
  refine s_load hm rfl rfl (hS.load_agg (p := 4) (us := [.int .i64 x1.Entry.Sess, .int .i64 x1.Entry.Seq, .int .i64 x1.Entry.Cmd.Kind, .int .i64 x1.Entry.Cmd.Who, p1_2, p1_3, p1_4]) rfl Try.underlying45 rfl ti45 rfl rfl) ?_
  clear hm a; intro a hm
  obtain ⟨t_3, et_3, H⟩ := Option.bind_eq_some_iff.1 H
  refine s_call hm rfl Try.call46 rfl (wait_Calls_find.calls K _ x0_l _ x0_done _ x1.Entry _ _ _ t_3 w0 _ _ _ (Mem.le.refl _) (hS.enter [0] (by decide)) (hp0_0.rd (hS.own_zed [0] 1 (by decide)) (hA.trans (hS.le_zed [0]))) (hp0_1.rd (hS.own_zed [0] 2 (by decide)) (hA.trans (hS.le_zed [0]))) (hp1_2.mono (hA.trans (hS.le_zed [0]))) (hp1_3.mono (hA.trans (hS.le_zed [0]))) (hp1_4.mono (hA.trans (hS.le_zed [0]))) et_3) ?_
  rintro _ w_4 ⟨N_5, rfl, hS'⟩
  clear hm a; intro a hm
  obtain ⟨N_6, hS'', le_6, ln_6⟩ := hS.call [0] (by decide) rfl (l' := [Mem.one g0 (.cells ([p0_0, p0_1] : List Value).toArray 74 (0, 0))]) (ow := []) rfl hS'
  replace hS : Sep w0 w_4 [N_6, Mem.one g0 (.cells ([p0_0, p0_1] : List Value).toArray 74 (0, 0)), M0_0, M0_1, Mem.one g_2 (.cells ([.int .i64 x1.Index, .int .i64 x1.Entry.Sess, .int .i64 x1.Entry.Seq, .int .i64 x1.Entry.Cmd.Kind, .int .i64 x1.Entry.Cmd.Who, p1_2, p1_3, p1_4, .int .i64 x1.Result.Err, p1_5, .int .i64 x1.Result.N] : List Value).toArray 51 (0, 0))] Z := hS''
  clear hS' hS''
  refine s_assign hm rfl rfl ?_
  clear hm a; intro a hm
  refine wpList_nil ?_
  replace hm : Fr 49 a [(0, .pointer (some ⟨g0, 0, none⟩)), (3, .pointer (some ⟨g_2, 0, none⟩)), (4, .bool false), (5, .int .i64 t_3)] := hm.keep [0, 3, 4, 5]
  refine x_then_n ?_
  refine c_seq fun KJ_7 hKJ_7 => ?_
  refine wp_seq ?_
  refine wp_region_lit ?_
  refine s_move hm rfl rfl ?_
  clear hm a; intro a hm
  refine s_cmp (b := decide (t_3 < 0)) hm rfl rfl rfl (.inr (.inr (.inl ⟨rfl, rfl⟩))) ?_
  clear hm a; intro a hm
  refine wpList_nil ?_
  replace hm : Fr 49 a [(0, .pointer (some ⟨g0, 0, none⟩)), (3, .pointer (some ⟨g_2, 0, none⟩)), (4, .bool false), (5, .int .i64 t_3), (12, .bool (decide (t_3 < 0)))] := hm.keep [0, 3, 4, 5, 12]
  refine x_then_n ?_
  by_cases hc_8 : t_3 < 0
  · rw [if_pos hc_8] at H
    refine c_cond_t hm rfl (decide_eq_true hc_8) ?_
    refine wp_seq ?_
    refine wp_region_lit ?_
    refine s_assign hm rfl rfl ?_
    clear hm a; intro a hm
    refine wpList_nil ?_
    replace hm : Fr 49 a [(0, .pointer (some ⟨g0, 0, none⟩)), (3, .pointer (some ⟨g_2, 0, none⟩)), (4, .bool false), (5, .int .i64 t_3)] := hm.keep [0, 3, 4, 5]
    refine x_then_n ?_
    refine wp_ret (x_then_r ?_)
    obtain rfl := Option.some.inj H
    exact f_ret hm (rs := [.tmp 4]) rfl (.tmp rfl .nil) ⟨_, rfl, p0_0, p0_1, N_6, M0_0, M0_1, rfl, (Sep.sel hS [0, 1, 2, 3] (by decide)), (hp0_0.mono (Mem.le_un _ _)), (hp0_1.mono (Mem.le_un _ _))⟩
  · rw [if_neg hc_8] at H
    refine c_cond_f hm rfl (decide_eq_false hc_8) ?_
    refine wp_skip ?_
    refine x_then_n (hKJ_7 _ _ ?_)
    refine wp_seq ?_
    refine wp_region_lit ?_
    refine s_move hm rfl rfl ?_
    clear hm a; intro a hm
    refine s_move hm rfl rfl ?_
    clear hm a; intro a hm
    refine s_nilCheck hm rfl rfl ?_
    clear hm a; intro a hm
    refine s_fieldAddr hm rfl Try.underlying74 rfl ti72 rfl rfl ?_
    clear hm a; intro a hm
    refine s_load hm rfl rfl (hS.load_one (p := 1) rfl Try.underlying72 rfl rfl) ?_
    clear hm a; intro a hm
    refine s_move hm rfl rfl ?_
    clear hm a; intro a hm
    refine s_move hm rfl rfl ?_
    clear hm a; intro a hm
    refine s_arith (r := w64 (t_3 + 1)) hm rfl rfl rfl (.inl ⟨rfl, rfl⟩) ?_
    clear hm a; intro a hm
    obtain ⟨t_9, et_9, H⟩ := Option.bind_eq_some_iff.1 H
    refine s_call hm rfl Try.call48 rfl (slices_Delete_shocket_wait_call_hocket_wait_call.calls x0_l _ _ t_3 (w64 (t_3 + 1)) t_9 w0 _ _ A (hA.trans (hS.le_zed [1])) (hS.enter [1] (by decide)) (hp0_0.mono (Mem.le.refl _)) et_9) ?_
    rintro v_13 w_10 ⟨_, N_11, M_15, rfl, hS', hr_14⟩
    clear hm a; intro a hm
    obtain ⟨N_12, hS'', le_12, ln_12⟩ := hS.call [1] (by decide) rfl (l' := [Mem.no]) (ow := [M_15]) rfl hS'
    replace hS : Sep w0 w_10 [N_12, Mem.one g0 (.cells ([p0_0, p0_1] : List Value).toArray 74 (0, 0)), Mem.no, M0_1, Mem.one g_2 (.cells ([.int .i64 x1.Index, .int .i64 x1.Entry.Sess, .int .i64 x1.Entry.Seq, .int .i64 x1.Entry.Cmd.Kind, .int .i64 x1.Entry.Cmd.Who, p1_2, p1_3, p1_4, .int .i64 x1.Result.Err, p1_5, .int .i64 x1.Result.N] : List Value).toArray 51 (0, 0)), M_15] Z := hS''
    clear hS' hS''
    have hr_17 : Own k_wait_call 78 M_15 (A.un N_12) v_13 t_9 := hr_14.mono (Mem.un_left ln_12)
    refine s_nilCheck hm rfl rfl ?_
    clear hm a; intro a hm
    refine s_fieldAddr hm rfl Try.underlying74 rfl ti72 rfl rfl ?_
    clear hm a; intro a hm
    obtain ⟨w_18, hs', hS'⟩ := hS.store (P := Try.prog) (p := 1) (o := 0) (t := 72) (v := v_13) (vs := [v_13]) rfl ti72 hr_17.cellsA rfl rfl (by intro u hu; simp only [List.mem_cons, List.not_mem_nil, or_false] at hu; rcases hu with rfl <;> first | rfl | exact hr_17.one)
    refine s_store hm rfl rfl hs' ?_
    replace hS : Sep w0 w_18 [N_12, Mem.one g0 (.cells ([v_13, p0_1] : List Value).toArray 74 (0, 0)), Mem.no, M0_1, Mem.one g_2 (.cells ([.int .i64 x1.Index, .int .i64 x1.Entry.Sess, .int .i64 x1.Entry.Seq, .int .i64 x1.Entry.Cmd.Kind, .int .i64 x1.Entry.Cmd.Who, p1_2, p1_3, p1_4, .int .i64 x1.Result.Err, p1_5, .int .i64 x1.Result.N] : List Value).toArray 51 (0, 0)), M_15] Z := hS'
    clear hs' hS'
    refine wpList_nil ?_
    replace hm : Fr 49 a [(0, .pointer (some ⟨g0, 0, none⟩)), (3, .pointer (some ⟨g_2, 0, none⟩)), (4, .bool false)] := hm.keep [0, 3, 4]
    refine x_then_n ?_
    refine wp_seq ?_
    refine wp_region_lit ?_
    refine s_fieldAddr hm rfl Try.underlying51 rfl ti45 rfl rfl ?_
    clear hm a; intro a hm
    refine s_fieldAddr hm rfl Try.underlying45 rfl ti3 rfl rfl ?_
    clear hm a; intro a hm
    refine s_load hm rfl rfl (hS.load_one (p := 4) rfl Try.underlying3 rfl rfl) ?_
    clear hm a; intro a hm
    refine s_fieldAddr hm rfl Try.underlying51 rfl ti45 rfl rfl ?_
    clear hm a; intro a hm
    refine s_fieldAddr hm rfl Try.underlying45 rfl ti3 rfl rfl ?_
    clear hm a; intro a hm
    refine s_load hm rfl rfl (hS.load_one (p := 4) rfl Try.underlying3 rfl rfl) ?_
    clear hm a; intro a hm
    refine s_fieldAddr hm rfl Try.underlying51 rfl ti28 rfl rfl ?_
    clear hm a; intro a hm
    refine s_load hm rfl rfl (hS.load_agg (p := 4) (us := [.int .i64 x1.Result.Err, p1_5, .int .i64 x1.Result.N]) rfl Try.underlying28 rfl ti28 rfl rfl) ?_
    clear hm a; intro a hm
    refine s_build hm rfl ti56 pl56 rfl (.cons rfl (.cons rfl (.cons rfl .nil))) (cs := [.int .i64 x1.Entry.Sess, .int .i64 x1.Entry.Seq, .int .i64 x1.Result.Err, p1_5, .int .i64 x1.Result.N]) rfl ?_
    clear hm a; intro a hm
    refine v_alloc hm rfl ti56 hS ?_
    intro w_19 g_20 hS'
    clear hm a; intro a hm
    replace hS : Sep w0 w_19 [N_12, Mem.one g0 (.cells ([v_13, p0_1] : List Value).toArray 74 (0, 0)), Mem.no, M0_1, Mem.one g_2 (.cells ([.int .i64 x1.Index, .int .i64 x1.Entry.Sess, .int .i64 x1.Entry.Seq, .int .i64 x1.Entry.Cmd.Kind, .int .i64 x1.Entry.Cmd.Who, p1_2, p1_3, p1_4, .int .i64 x1.Result.Err, p1_5, .int .i64 x1.Result.N] : List Value).toArray 51 (0, 0)), M_15, Mem.one g_20 (.cells ([.int .i64 0, .int .i64 0, .int .i64 0, .slice none 0 0, .int .i64 0] : List Value).toArray 56 (0, 0))] Z := hS'
    clear hS'
    obtain ⟨w_21, hs', hS'⟩ := hS.store (P := Try.prog) (p := 6) (o := 0) (t := 56) (v := .agg ([.int .i64 x1.Entry.Sess, .int .i64 x1.Entry.Seq, .int .i64 x1.Result.Err, p1_5, .int .i64 x1.Result.N] : List Value).toArray) (vs := [.int .i64 x1.Entry.Sess, .int .i64 x1.Entry.Seq, .int .i64 x1.Result.Err, p1_5, .int .i64 x1.Result.N]) rfl ti56 rfl rfl rfl (by intro u hu; simp only [List.mem_cons, List.not_mem_nil, or_false] at hu; rcases hu with rfl | rfl | rfl | rfl | rfl <;> first | rfl | exact hp1_5.one)
    refine s_store hm rfl rfl hs' ?_
    replace hS : Sep w0 w_21 [N_12, Mem.one g0 (.cells ([v_13, p0_1] : List Value).toArray 74 (0, 0)), Mem.no, M0_1, Mem.one g_2 (.cells ([.int .i64 x1.Index, .int .i64 x1.Entry.Sess, .int .i64 x1.Entry.Seq, .int .i64 x1.Entry.Cmd.Kind, .int .i64 x1.Entry.Cmd.Who, p1_2, p1_3, p1_4, .int .i64 x1.Result.Err, p1_5, .int .i64 x1.Result.N] : List Value).toArray 51 (0, 0)), M_15, Mem.one g_20 (.cells ([.int .i64 x1.Entry.Sess, .int .i64 x1.Entry.Seq, .int .i64 x1.Result.Err, p1_5, .int .i64 x1.Result.N] : List Value).toArray 56 (0, 0))] Z := hS'
    clear hs' hS'
    refine wpList_nil ?_
    replace hm : Fr 49 a [(0, .pointer (some ⟨g0, 0, none⟩)), (4, .bool false), (6, .pointer (some ⟨g_20, 0, none⟩))] := hm.keep [0, 4, 6]
    refine x_then_n ?_
    refine wp_seq ?_
    refine wp_region_lit ?_
    refine s_fieldAddr hm rfl Try.underlying56 rfl ti28 rfl rfl ?_
    clear hm a; intro a hm
    refine s_fieldAddr hm rfl Try.underlying28 rfl ti26 rfl rfl ?_
    clear hm a; intro a hm
    refine s_load hm rfl rfl (hS.load_one (p := 6) rfl Try.underlying26 rfl rfl) ?_
    clear hm a; intro a hm
    obtain ⟨t_22, et_22, H⟩ := Option.bind_eq_some_iff.1 H
    refine s_call hm rfl Try.call49 rfl (slices_Clone_sbyte_byte.calls x1.Result.Val _ t_22 w0 _ _ _ (Mem.le.refl _) (hS.enter [] (by decide)) (hp1_5.mono (hA.trans (hS.le_zed []))) et_22) ?_
    rintro v_26 w_23 ⟨_, N_24, M_28, rfl, hS', hr_27⟩
    clear hm a; intro a hm
    obtain ⟨N_25, hS'', le_25, ln_25⟩ := hS.call [] (by decide) rfl (l' := []) (ow := [M_28]) rfl hS'
    replace hS : Sep w0 w_23 [N_25, Mem.one g0 (.cells ([v_13, p0_1] : List Value).toArray 74 (0, 0)), Mem.no, M0_1, Mem.one g_2 (.cells ([.int .i64 x1.Index, .int .i64 x1.Entry.Sess, .int .i64 x1.Entry.Seq, .int .i64 x1.Entry.Cmd.Kind, .int .i64 x1.Entry.Cmd.Who, p1_2, p1_3, p1_4, .int .i64 x1.Result.Err, p1_5, .int .i64 x1.Result.N] : List Value).toArray 51 (0, 0)), M_15, Mem.one g_20 (.cells ([.int .i64 x1.Entry.Sess, .int .i64 x1.Entry.Seq, .int .i64 x1.Result.Err, p1_5, .int .i64 x1.Result.N] : List Value).toArray 56 (0, 0)), M_28] Z := hS''
    clear hS' hS''
    refine s_fieldAddr hm rfl Try.underlying56 rfl ti28 rfl rfl ?_
    clear hm a; intro a hm
    refine s_fieldAddr hm rfl Try.underlying28 rfl ti26 rfl rfl ?_
    clear hm a; intro a hm
    obtain ⟨w_30, hs', hS'⟩ := hS.store (P := Try.prog) (p := 6) (o := 3) (t := 26) (v := v_26) (vs := [v_26]) rfl ti26 hr_27.cellsA rfl rfl (by intro u hu; simp only [List.mem_cons, List.not_mem_nil, or_false] at hu; rcases hu with rfl <;> first | rfl | exact hr_27.one)
    refine s_store hm rfl rfl hs' ?_
    replace hS : Sep w0 w_30 [N_25, Mem.one g0 (.cells ([v_13, p0_1] : List Value).toArray 74 (0, 0)), Mem.no, M0_1, Mem.one g_2 (.cells ([.int .i64 x1.Index, .int .i64 x1.Entry.Sess, .int .i64 x1.Entry.Seq, .int .i64 x1.Entry.Cmd.Kind, .int .i64 x1.Entry.Cmd.Who, p1_2, p1_3, p1_4, .int .i64 x1.Result.Err, p1_5, .int .i64 x1.Result.N] : List Value).toArray 51 (0, 0)), M_15, Mem.one g_20 (.cells ([.int .i64 x1.Entry.Sess, .int .i64 x1.Entry.Seq, .int .i64 x1.Result.Err, v_26, .int .i64 x1.Result.N] : List Value).toArray 56 (0, 0)), M_28] Z := hS'
    clear hs' hS'
    refine wpList_nil ?_
    replace hm : Fr 49 a [(0, .pointer (some ⟨g0, 0, none⟩)), (4, .bool false), (6, .pointer (some ⟨g_20, 0, none⟩))] := hm.keep [0, 4, 6]
    refine x_then_n ?_
    refine c_seq fun KJ_31 hKJ_31 => ?_
    refine h_begin (S := fun w => Sep w0 w [N_25, Mem.no, Mem.no, Mem.no, Mem.one g_2 (.cells ([.int .i64 x1.Index, .int .i64 x1.Entry.Sess, .int .i64 x1.Entry.Seq, .int .i64 x1.Entry.Cmd.Kind, .int .i64 x1.Entry.Cmd.Who, p1_2, p1_3, p1_4, .int .i64 x1.Result.Err, p1_5, .int .i64 x1.Result.N] : List Value).toArray 51 (0, 0)), M_15, Mem.one g_20 (.cells ([.int .i64 x1.Entry.Sess, .int .i64 x1.Entry.Seq, .int .i64 x1.Result.Err, v_26, .int .i64 x1.Result.N] : List Value).toArray 56 (0, 0)), Mem.no] Z) 11 (by kernel_rfl) rfl [false, false, false, false, false, false, false, false, false, false, false].toArray rfl hS fun w_32 hS => ?_
    replace hS : Sep w0 w_32 [N_25, Mem.one g0 (.cells ([v_13, p0_1] : List Value).toArray 74 (0, 0)), Mem.no, M0_1, Mem.one g_2 (.cells ([.int .i64 x1.Index, .int .i64 x1.Entry.Sess, .int .i64 x1.Entry.Seq, .int .i64 x1.Entry.Cmd.Kind, .int .i64 x1.Entry.Cmd.Who, p1_2, p1_3, p1_4, .int .i64 x1.Result.Err, p1_5, .int .i64 x1.Result.N] : List Value).toArray 51 (0, 0)), M_15, Mem.one g_20 (.cells ([.int .i64 x1.Entry.Sess, .int .i64 x1.Entry.Seq, .int .i64 x1.Result.Err, v_26, .int .i64 x1.Result.N] : List Value).toArray 56 (0, 0)), M_28] Z := hS
    refine h_take 0 [true, false, false, false, false, false, false, false, false, false, false].toArray rfl (by kernel_rfl) (by kernel_rfl) (by kernel_rfl) (fun _ _ _ _ h => h) rfl rfl rfl rfl hm (hS.sub (.cons (Mem.le.refl _) (.cons (Mem.no_le _) (.cons (Mem.no_le _) (.cons (Mem.no_le _) (.cons (Mem.le.refl _) (.cons (Mem.le.refl _) (.cons (Mem.le.refl _) (.cons (Mem.no_le _) (Sub.nil _)))))))))) (v := .pointer (some ⟨g0, 0, none⟩)) (fun w hS => r_move hm rfl) ?_
    clear hm a; intro a hm
    refine h_take 1 [true, true, false, false, false, false, false, false, false, false, false].toArray rfl (by kernel_rfl) (by kernel_rfl) (by kernel_rfl) (fun _ _ _ _ h => h) rfl rfl rfl rfl hm (hS.sub (.cons (Mem.le.refl _) (.cons (Mem.no_le _) (.cons (Mem.no_le _) (.cons (Mem.no_le _) (.cons (Mem.le.refl _) (.cons (Mem.le.refl _) (.cons (Mem.le.refl _) (.cons (Mem.no_le _) (Sub.nil _)))))))))) (v := .pointer (some ⟨g0, 0, none⟩)) (fun w hS => r_move hm rfl) ?_
    clear hm a; intro a hm
    refine h_take 2 [true, true, true, false, false, false, false, false, false, false, false].toArray rfl (by kernel_rfl) (by kernel_rfl) (by kernel_rfl) (fun _ _ _ _ h => h) rfl rfl rfl rfl hm (hS.sub (.cons (Mem.le.refl _) (.cons (Mem.no_le _) (.cons (Mem.no_le _) (.cons (Mem.no_le _) (.cons (Mem.le.refl _) (.cons (Mem.le.refl _) (.cons (Mem.le.refl _) (.cons (Mem.no_le _) (Sub.nil _)))))))))) (v := .pointer (some ⟨g0, 0, none⟩)) (fun w hS => r_nilCheck hm rfl) ?_
    clear hm a; intro a hm
    refine h_take 3 [true, true, true, true, false, false, false, false, false, false, false].toArray rfl (by kernel_rfl) (by kernel_rfl) (by kernel_rfl) (fun _ _ _ _ h => h) rfl rfl rfl rfl hm (hS.sub (.cons (Mem.le.refl _) (.cons (Mem.no_le _) (.cons (Mem.no_le _) (.cons (Mem.no_le _) (.cons (Mem.le.refl _) (.cons (Mem.le.refl _) (.cons (Mem.le.refl _) (.cons (Mem.no_le _) (Sub.nil _)))))))))) (v := .pointer (some ⟨g0, 1, none⟩)) (fun w hS => r_fieldAddr hm Try.underlying74 rfl ti53 rfl rfl rfl) ?_
    clear hm a; intro a hm
    refine h_take 5 [true, true, true, true, false, true, false, false, false, false, false].toArray rfl (by kernel_rfl) (by kernel_rfl) (by kernel_rfl) (fun _ _ _ _ h => h) rfl rfl rfl rfl hm (hS.sub (.cons (Mem.le.refl _) (.cons (Mem.no_le _) (.cons (Mem.no_le _) (.cons (Mem.no_le _) (.cons (Mem.le.refl _) (.cons (Mem.le.refl _) (.cons (Mem.le.refl _) (.cons (Mem.no_le _) (Sub.nil _)))))))))) (v := .agg ([.int .i64 x1.Entry.Sess, .int .i64 x1.Entry.Seq, .int .i64 x1.Result.Err, v_26, .int .i64 x1.Result.N] : List Value).toArray) (fun w hS => r_load hm rfl (hS.load_agg (p := 6) (us := [.int .i64 x1.Entry.Sess, .int .i64 x1.Entry.Seq, .int .i64 x1.Result.Err, v_26, .int .i64 x1.Result.N]) rfl Try.underlying56 rfl ti56 rfl rfl)) ?_
    clear hm a; intro a hm
    obtain ⟨t_40, et_40, H⟩ := Option.bind_eq_some_iff.1 H
    refine h_events [4, 6] (by kernel_rfl) (by simp) ?_
    intro i hi; simp only [List.mem_cons, List.not_mem_nil, or_false] at hi; rcases hi with rfl | rfl
    · refine ⟨_, [true, true, true, true, true, true, false, false, false, false, false].toArray, rfl, rfl, ?_⟩
      refine s_load hm rfl rfl (hS.load_one (p := 1) rfl Try.underlying53 rfl rfl) ?_
      clear hm a; intro a hm
      refine wpList_nil ?_
      refine x_then_n ⟨(hS.sub (.cons (Mem.le.refl _) (.cons (Mem.no_le _) (.cons (Mem.no_le _) (.cons (Mem.no_le _) (.cons (Mem.le.refl _) (.cons (Mem.le.refl _) (.cons (Mem.le.refl _) (.cons (Mem.no_le _) (Sub.nil _)))))))))), ?_⟩
      refine h_event 6 [true, true, true, true, true, true, true, false, false, false, false].toArray rfl (by kernel_rfl) rfl ?_
      obtain ⟨N_33, hS', le_33, lo_33⟩ := hS.freeze 6 rfl
      replace hS : Sep w0 w_32 [N_33, Mem.one g0 (.cells ([v_13, p0_1] : List Value).toArray 74 (0, 0)), Mem.no, M0_1, Mem.one g_2 (.cells ([.int .i64 x1.Index, .int .i64 x1.Entry.Sess, .int .i64 x1.Entry.Seq, .int .i64 x1.Entry.Cmd.Kind, .int .i64 x1.Entry.Cmd.Who, p1_2, p1_3, p1_4, .int .i64 x1.Result.Err, p1_5, .int .i64 x1.Result.N] : List Value).toArray 51 (0, 0)), M_15, Mem.one g_20 (.cells ([.int .i64 x1.Entry.Sess, .int .i64 x1.Entry.Seq, .int .i64 x1.Result.Err, v_26, .int .i64 x1.Result.N] : List Value).toArray 56 (0, 0)), Mem.no] Z := hS'
      clear hS'
      have hq_38 : Reps k_api_Reply N_33 ([(⟨x1.Entry.Sess, x1.Entry.Seq, (⟨x1.Result.Err, t_22, x1.Result.N⟩ : api_Result)⟩ : api_Reply)] : List api_Reply) _ := ((Reps.one (d := k_api_Reply) (x := (⟨x1.Entry.Sess, x1.Entry.Seq, (⟨x1.Result.Err, t_22, x1.Result.N⟩ : api_Result)⟩ : api_Reply)) (k_api_Reply.mk' (hr_27.rd lo_33 (Mem.no_le _)))).append (Reps.nil k_api_Reply _))
      refine s_buildSlice hm rfl Try.underlying53 ti56 rfl rfl rfl (.cons rfl .nil) rfl rfl rfl hS hq_38 rfl ?_
      intro w_34 v_35 M_36 hS' ho_37
      clear hm a; intro a hm
      replace hS : Sep w0 w_34 [N_33, Mem.one g0 (.cells ([v_13, p0_1] : List Value).toArray 74 (0, 0)), Mem.no, M0_1, Mem.one g_2 (.cells ([.int .i64 x1.Index, .int .i64 x1.Entry.Sess, .int .i64 x1.Entry.Seq, .int .i64 x1.Entry.Cmd.Kind, .int .i64 x1.Entry.Cmd.Who, p1_2, p1_3, p1_4, .int .i64 x1.Result.Err, p1_5, .int .i64 x1.Result.N] : List Value).toArray 51 (0, 0)), M_15, Mem.one g_20 (.cells ([.int .i64 x1.Entry.Sess, .int .i64 x1.Entry.Seq, .int .i64 x1.Result.Err, v_26, .int .i64 x1.Result.N] : List Value).toArray 56 (0, 0)), Mem.no, M_36] Z := hS'
      clear hS' hq_38
      refine wpList_nil ?_
      refine x_then_n ⟨(hS.sub (.cons le_33 (.cons (Mem.no_le _) (.cons (Mem.no_le _) (.cons (Mem.no_le _) (.cons (Mem.le.refl _) (.cons (Mem.le.refl _) (.cons (Mem.le.refl _) (.cons (Mem.no_le _) (Sub.nil _)))))))))), ?_⟩
      refine h_event 7 [true, true, true, true, true, true, true, true, false, false, false].toArray rfl (by kernel_rfl) rfl ?_
      refine s_append (J := N_33) (I' := (A.un N_33)) (p := 3) 2513169434916 hm rfl rfl rfl Try.underlying53 ti56 rfl rfl rfl rfl hS rfl hp0_1 (ho_37.src (hS.own 8)) (Mem.le_un _ _) ((Mem.le.refl _).trans (hS.sndA hA)) et_40 ?_
      intro w_41 v_42 M_43 hS' ho_44
      clear hm a; intro a hm
      replace hS : Sep w0 w_41 [N_33, Mem.one g0 (.cells ([v_13, p0_1] : List Value).toArray 74 (0, 0)), Mem.no, M_43, Mem.one g_2 (.cells ([.int .i64 x1.Index, .int .i64 x1.Entry.Sess, .int .i64 x1.Entry.Seq, .int .i64 x1.Entry.Cmd.Kind, .int .i64 x1.Entry.Cmd.Who, p1_2, p1_3, p1_4, .int .i64 x1.Result.Err, p1_5, .int .i64 x1.Result.N] : List Value).toArray 51 (0, 0)), M_15, Mem.one g_20 (.cells ([.int .i64 x1.Entry.Sess, .int .i64 x1.Entry.Seq, .int .i64 x1.Result.Err, v_26, .int .i64 x1.Result.N] : List Value).toArray 56 (0, 0)), Mem.no, M_36] Z := hS'
      clear hS'
      refine wpList_nil ?_
      refine x_then_n ⟨(hS.sub (.cons le_33 (.cons (Mem.no_le _) (.cons (Mem.no_le _) (.cons (Mem.no_le _) (.cons (Mem.le.refl _) (.cons (Mem.le.refl _) (.cons (Mem.le.refl _) (.cons (Mem.no_le _) (Sub.nil _)))))))))), ?_⟩
      refine h_take 8 [true, true, true, true, true, true, true, true, true, false, false].toArray rfl (by kernel_rfl) (by kernel_rfl) (by kernel_rfl) (fun _ _ _ _ h => h) rfl rfl rfl rfl hm (hS.sub (.cons le_33 (.cons (Mem.no_le _) (.cons (Mem.no_le _) (.cons (Mem.no_le _) (.cons (Mem.le.refl _) (.cons (Mem.le.refl _) (.cons (Mem.le.refl _) (.cons (Mem.no_le _) (Sub.nil _)))))))))) (v := .pointer (some ⟨g0, 0, none⟩)) (fun w hS => r_nilCheck hm rfl) ?_
      clear hm a; intro a hm
      refine h_take 9 [true, true, true, true, true, true, true, true, true, true, false].toArray rfl (by kernel_rfl) (by kernel_rfl) (by kernel_rfl) (fun _ _ _ _ h => h) rfl rfl rfl rfl hm (hS.sub (.cons le_33 (.cons (Mem.no_le _) (.cons (Mem.no_le _) (.cons (Mem.no_le _) (.cons (Mem.le.refl _) (.cons (Mem.le.refl _) (.cons (Mem.le.refl _) (.cons (Mem.no_le _) (Sub.nil _)))))))))) (v := .pointer (some ⟨g0, 1, none⟩)) (fun w hS => r_fieldAddr hm Try.underlying74 rfl ti53 rfl rfl rfl) ?_
      clear hm a; intro a hm
      refine h_event 10 [true, true, true, true, true, true, true, true, true, true, true].toArray rfl (by kernel_rfl) rfl ?_
      obtain ⟨w_46, hs', hS'⟩ := hS.store (P := Try.prog) (p := 1) (o := 1) (t := 53) (v := v_42) (vs := [v_42]) rfl ti53 ho_44.cellsA rfl rfl (by intro u hu; simp only [List.mem_cons, List.not_mem_nil, or_false] at hu; rcases hu with rfl <;> first | rfl | exact ho_44.one)
      refine s_store hm rfl rfl hs' ?_
      replace hS : Sep w0 w_46 [N_33, Mem.one g0 (.cells ([v_13, v_42] : List Value).toArray 74 (0, 0)), Mem.no, M_43, Mem.one g_2 (.cells ([.int .i64 x1.Index, .int .i64 x1.Entry.Sess, .int .i64 x1.Entry.Seq, .int .i64 x1.Entry.Cmd.Kind, .int .i64 x1.Entry.Cmd.Who, p1_2, p1_3, p1_4, .int .i64 x1.Result.Err, p1_5, .int .i64 x1.Result.N] : List Value).toArray 51 (0, 0)), M_15, Mem.one g_20 (.cells ([.int .i64 x1.Entry.Sess, .int .i64 x1.Entry.Seq, .int .i64 x1.Result.Err, v_26, .int .i64 x1.Result.N] : List Value).toArray 56 (0, 0)), Mem.no, M_36] Z := hS'
      clear hs' hS'
      refine wpList_nil ?_
      refine x_then_n ⟨(hS.sub (.cons le_33 (.cons (Mem.no_le _) (.cons (Mem.no_le _) (.cons (Mem.no_le _) (.cons (Mem.le.refl _) (.cons (Mem.le.refl _) (.cons (Mem.le.refl _) (.cons (Mem.no_le _) (Sub.nil _)))))))))), ?_⟩
      refine h_done (by kernel_rfl) ?_
      replace hm : Fr 49 a [(4, .bool false)] := hm.keep [4]
      refine x_then_n (hKJ_31 _ _ ?_)
      refine wp_seq ?_
      refine wp_region_lit ?_
      refine s_assign hm rfl rfl ?_
      clear hm a; intro a hm
      refine wpList_nil ?_
      replace hm : Fr 49 a [(4, .bool true)] := hm.keep [4]
      refine x_then_n ?_
      refine wp_ret ?_
      obtain rfl := Option.some.inj H
      exact f_ret hm (rs := [.tmp 4]) rfl (.tmp rfl .nil) ⟨_, rfl, v_13, v_42, N_33, M_15, M_43, rfl, (Sep.sel hS [0, 1, 5, 3] (by decide)), (hr_17.mono (Mem.un_left (le_25.trans le_33))), (ho_44.mono (Mem.un_left (Mem.le.refl _)))⟩
    · refine ⟨_, [true, true, true, true, false, true, true, false, false, false, false].toArray, rfl, rfl, ?_⟩
      obtain ⟨N_47, hS', le_47, lo_47⟩ := hS.freeze 6 rfl
      replace hS : Sep w0 w_32 [N_47, Mem.one g0 (.cells ([v_13, p0_1] : List Value).toArray 74 (0, 0)), Mem.no, M0_1, Mem.one g_2 (.cells ([.int .i64 x1.Index, .int .i64 x1.Entry.Sess, .int .i64 x1.Entry.Seq, .int .i64 x1.Entry.Cmd.Kind, .int .i64 x1.Entry.Cmd.Who, p1_2, p1_3, p1_4, .int .i64 x1.Result.Err, p1_5, .int .i64 x1.Result.N] : List Value).toArray 51 (0, 0)), M_15, Mem.one g_20 (.cells ([.int .i64 x1.Entry.Sess, .int .i64 x1.Entry.Seq, .int .i64 x1.Result.Err, v_26, .int .i64 x1.Result.N] : List Value).toArray 56 (0, 0)), Mem.no] Z := hS'
      clear hS'
      have hq_52 : Reps k_api_Reply N_47 ([(⟨x1.Entry.Sess, x1.Entry.Seq, (⟨x1.Result.Err, t_22, x1.Result.N⟩ : api_Result)⟩ : api_Reply)] : List api_Reply) _ := ((Reps.one (d := k_api_Reply) (x := (⟨x1.Entry.Sess, x1.Entry.Seq, (⟨x1.Result.Err, t_22, x1.Result.N⟩ : api_Result)⟩ : api_Reply)) (k_api_Reply.mk' (hr_27.rd lo_47 (Mem.no_le _)))).append (Reps.nil k_api_Reply _))
      refine s_buildSlice hm rfl Try.underlying53 ti56 rfl rfl rfl (.cons rfl .nil) rfl rfl rfl hS hq_52 rfl ?_
      intro w_48 v_49 M_50 hS' ho_51
      clear hm a; intro a hm
      replace hS : Sep w0 w_48 [N_47, Mem.one g0 (.cells ([v_13, p0_1] : List Value).toArray 74 (0, 0)), Mem.no, M0_1, Mem.one g_2 (.cells ([.int .i64 x1.Index, .int .i64 x1.Entry.Sess, .int .i64 x1.Entry.Seq, .int .i64 x1.Entry.Cmd.Kind, .int .i64 x1.Entry.Cmd.Who, p1_2, p1_3, p1_4, .int .i64 x1.Result.Err, p1_5, .int .i64 x1.Result.N] : List Value).toArray 51 (0, 0)), M_15, Mem.one g_20 (.cells ([.int .i64 x1.Entry.Sess, .int .i64 x1.Entry.Seq, .int .i64 x1.Result.Err, v_26, .int .i64 x1.Result.N] : List Value).toArray 56 (0, 0)), Mem.no, M_50] Z := hS'
      clear hS' hq_52
      refine wpList_nil ?_
      refine x_then_n ⟨(hS.sub (.cons le_47 (.cons (Mem.no_le _) (.cons (Mem.no_le _) (.cons (Mem.no_le _) (.cons (Mem.le.refl _) (.cons (Mem.le.refl _) (.cons (Mem.le.refl _) (.cons (Mem.no_le _) (Sub.nil _)))))))))), ?_⟩
      refine h_event 4 [true, true, true, true, true, true, true, false, false, false, false].toArray rfl (by kernel_rfl) rfl ?_
      refine s_load hm rfl rfl (hS.load_one (p := 1) rfl Try.underlying53 rfl rfl) ?_
      clear hm a; intro a hm
      refine wpList_nil ?_
      refine x_then_n ⟨(hS.sub (.cons le_47 (.cons (Mem.no_le _) (.cons (Mem.no_le _) (.cons (Mem.no_le _) (.cons (Mem.le.refl _) (.cons (Mem.le.refl _) (.cons (Mem.le.refl _) (.cons (Mem.no_le _) (Sub.nil _)))))))))), ?_⟩
      refine h_event 7 [true, true, true, true, true, true, true, true, false, false, false].toArray rfl (by kernel_rfl) rfl ?_
      refine s_append (J := N_47) (I' := (A.un N_47)) (p := 3) 2513169434916 hm rfl rfl rfl Try.underlying53 ti56 rfl rfl rfl rfl hS rfl hp0_1 (ho_51.src (hS.own 8)) (Mem.le_un _ _) ((Mem.le.refl _).trans (hS.sndA hA)) et_40 ?_
      intro w_55 v_56 M_57 hS' ho_58
      clear hm a; intro a hm
      replace hS : Sep w0 w_55 [N_47, Mem.one g0 (.cells ([v_13, p0_1] : List Value).toArray 74 (0, 0)), Mem.no, M_57, Mem.one g_2 (.cells ([.int .i64 x1.Index, .int .i64 x1.Entry.Sess, .int .i64 x1.Entry.Seq, .int .i64 x1.Entry.Cmd.Kind, .int .i64 x1.Entry.Cmd.Who, p1_2, p1_3, p1_4, .int .i64 x1.Result.Err, p1_5, .int .i64 x1.Result.N] : List Value).toArray 51 (0, 0)), M_15, Mem.one g_20 (.cells ([.int .i64 x1.Entry.Sess, .int .i64 x1.Entry.Seq, .int .i64 x1.Result.Err, v_26, .int .i64 x1.Result.N] : List Value).toArray 56 (0, 0)), Mem.no, M_50] Z := hS'
      clear hS'
      refine wpList_nil ?_
      refine x_then_n ⟨(hS.sub (.cons le_47 (.cons (Mem.no_le _) (.cons (Mem.no_le _) (.cons (Mem.no_le _) (.cons (Mem.le.refl _) (.cons (Mem.le.refl _) (.cons (Mem.le.refl _) (.cons (Mem.no_le _) (Sub.nil _)))))))))), ?_⟩
      refine h_take 8 [true, true, true, true, true, true, true, true, true, false, false].toArray rfl (by kernel_rfl) (by kernel_rfl) (by kernel_rfl) (fun _ _ _ _ h => h) rfl rfl rfl rfl hm (hS.sub (.cons le_47 (.cons (Mem.no_le _) (.cons (Mem.no_le _) (.cons (Mem.no_le _) (.cons (Mem.le.refl _) (.cons (Mem.le.refl _) (.cons (Mem.le.refl _) (.cons (Mem.no_le _) (Sub.nil _)))))))))) (v := .pointer (some ⟨g0, 0, none⟩)) (fun w hS => r_nilCheck hm rfl) ?_
      clear hm a; intro a hm
      refine h_take 9 [true, true, true, true, true, true, true, true, true, true, false].toArray rfl (by kernel_rfl) (by kernel_rfl) (by kernel_rfl) (fun _ _ _ _ h => h) rfl rfl rfl rfl hm (hS.sub (.cons le_47 (.cons (Mem.no_le _) (.cons (Mem.no_le _) (.cons (Mem.no_le _) (.cons (Mem.le.refl _) (.cons (Mem.le.refl _) (.cons (Mem.le.refl _) (.cons (Mem.no_le _) (Sub.nil _)))))))))) (v := .pointer (some ⟨g0, 1, none⟩)) (fun w hS => r_fieldAddr hm Try.underlying74 rfl ti53 rfl rfl rfl) ?_
      clear hm a; intro a hm
      refine h_event 10 [true, true, true, true, true, true, true, true, true, true, true].toArray rfl (by kernel_rfl) rfl ?_
      obtain ⟨w_60, hs', hS'⟩ := hS.store (P := Try.prog) (p := 1) (o := 1) (t := 53) (v := v_56) (vs := [v_56]) rfl ti53 ho_58.cellsA rfl rfl (by intro u hu; simp only [List.mem_cons, List.not_mem_nil, or_false] at hu; rcases hu with rfl <;> first | rfl | exact ho_58.one)
      refine s_store hm rfl rfl hs' ?_
      replace hS : Sep w0 w_60 [N_47, Mem.one g0 (.cells ([v_13, v_56] : List Value).toArray 74 (0, 0)), Mem.no, M_57, Mem.one g_2 (.cells ([.int .i64 x1.Index, .int .i64 x1.Entry.Sess, .int .i64 x1.Entry.Seq, .int .i64 x1.Entry.Cmd.Kind, .int .i64 x1.Entry.Cmd.Who, p1_2, p1_3, p1_4, .int .i64 x1.Result.Err, p1_5, .int .i64 x1.Result.N] : List Value).toArray 51 (0, 0)), M_15, Mem.one g_20 (.cells ([.int .i64 x1.Entry.Sess, .int .i64 x1.Entry.Seq, .int .i64 x1.Result.Err, v_26, .int .i64 x1.Result.N] : List Value).toArray 56 (0, 0)), Mem.no, M_50] Z := hS'
      clear hs' hS'
      refine wpList_nil ?_
      refine x_then_n ⟨(hS.sub (.cons le_47 (.cons (Mem.no_le _) (.cons (Mem.no_le _) (.cons (Mem.no_le _) (.cons (Mem.le.refl _) (.cons (Mem.le.refl _) (.cons (Mem.le.refl _) (.cons (Mem.no_le _) (Sub.nil _)))))))))), ?_⟩
      refine h_done (by kernel_rfl) ?_
      replace hm : Fr 49 a [(4, .bool false)] := hm.keep [4]
      refine x_then_n (hKJ_31 _ _ ?_)
      refine wp_seq ?_
      refine wp_region_lit ?_
      refine s_assign hm rfl rfl ?_
      clear hm a; intro a hm
      refine wpList_nil ?_
      replace hm : Fr 49 a [(4, .bool true)] := hm.keep [4]
      refine x_then_n ?_
      refine wp_ret ?_
      obtain rfl := Option.some.inj H
      exact f_ret hm (rs := [.tmp 4]) rfl (.tmp rfl .nil) ⟨_, rfl, v_13, v_56, N_47, M_15, M_57, rfl, (Sep.sel hS [0, 1, 5, 3] (by decide)), (hr_17.mono (Mem.un_left (le_25.trans le_47))), (ho_58.mono (Mem.un_left (Mem.le.refl _)))⟩

set_option maxHeartbeats 4000000 in
set_option maxRecDepth 20000 in
theorem hocketlaw20_awake.calls (K : Nat) (r : Unit) (w0 w : World) (Z A : Mem) (hA : A.le Z) (hS : Sep w0 w [] Z)
    (H : hocketlaw20_awake.f K = some r) :
    Calls Try.prog 27 [].toArray w (Ret fun v w' => ∃ (N : Mem), v = .bool true ∧ Sep w0 w' [N] Z) := by
  unfold hocketlaw20_awake.f at H
  refine f_enter _ Try.func27 rfl Try.ntmps27 rfl fun a hm => ?_
  replace hm : Fr 91 a [] := hm
  replace hS := hS.start
  replace hS : Sep w0 w [Mem.no] Z := hS
  refine wp_seq ?_
  refine wp_region_lit ?_
  refine s_assign hm rfl rfl ?_
  clear hm a; intro a hm
  refine wpList_nil ?_
  replace hm : Fr 91 a [(0, .bool false)] := hm.keep [0]
  refine x_then_n ?_
  refine wp_seq ?_
  refine wp_region_lit ?_
  obtain ⟨t_1, et_1, H⟩ := Option.bind_eq_some_iff.1 H
  refine s_call hm rfl Try.call21 rfl (wait_New.calls  t_1 w0 _ _ _ (Mem.le.refl _) (hS.enter [] (by decide))  et_1) ?_
  rintro _ w_2 ⟨g_5, v_6, v_10, N_3, M_8, M_12, rfl, hS', hr_7, hr_11⟩
  clear hm a; intro a hm
  obtain ⟨N_4, hS'', le_4, ln_4⟩ := hS.call [] (by decide) rfl (l' := []) (ow := [Mem.one g_5 (.cells ([v_6, v_10] : List Value).toArray 74 (0, 0)), M_8, M_12]) rfl hS'
  replace hS : Sep w0 w_2 [N_4, Mem.one g_5 (.cells ([v_6, v_10] : List Value).toArray 74 (0, 0)), M_8, M_12] Z := hS''
  clear hS' hS''
  refine s_assign hm rfl rfl ?_
  clear hm a; intro a hm
  refine wpList_nil ?_
  replace hm : Fr 91 a [(0, .bool false), (1, .pointer (some ⟨g_5, 0, none⟩))] := hm.keep [0, 1]
  refine x_then_n ?_
  refine c_seq fun KJ_14 hKJ_14 => ?_
  refine wp_seq ?_
  refine wp_region_lit ?_
  refine s_move hm rfl rfl ?_
  clear hm a; intro a hm
  refine s_ptrNil (b := false) hm rfl Try.underlying40 rfl (.inl ⟨rfl, rfl⟩) ?_
  clear hm a; intro a hm
  refine wpList_nil ?_
  replace hm : Fr 91 a [(0, .bool false), (1, .pointer (some ⟨g_5, 0, none⟩)), (13, .bool false)] := hm.keep [0, 1, 13]
  refine x_then_n ?_
  refine c_cond_f hm rfl rfl ?_
  refine wp_skip ?_
  refine x_then_n (hKJ_14 _ _ ?_)
  refine wp_seq ?_
  refine wp_region_lit ?_
  refine s_build hm rfl ti43 pl43 rfl (.cons rfl .nil) (cs := [.int .i64 1, .int .i64 0, .slice none 0 0, .slice none 0 0, .slice none 0 0]) rfl ?_
  clear hm a; intro a hm
  refine s_build hm rfl ti45 pl45 rfl (.cons rfl (.cons rfl (.cons rfl .nil))) (cs := [.int .i64 1, .int .i64 2, .int .i64 1, .int .i64 0, .slice none 0 0, .slice none 0 0, .slice none 0 0]) rfl ?_
  clear hm a; intro a hm
  refine v_alloc hm rfl ti45 hS ?_
  intro w_15 g_16 hS'
  clear hm a; intro a hm
  replace hS : Sep w0 w_15 [N_4, Mem.one g_5 (.cells ([v_6, v_10] : List Value).toArray 74 (0, 0)), M_8, M_12, Mem.one g_16 (.cells ([.int .i64 0, .int .i64 0, .int .i64 0, .int .i64 0, .slice none 0 0, .slice none 0 0, .slice none 0 0] : List Value).toArray 45 (0, 0))] Z := hS'
  clear hS'
  obtain ⟨w_17, hs', hS'⟩ := hS.store (P := Try.prog) (p := 4) (o := 0) (t := 45) (v := .agg ([.int .i64 1, .int .i64 2, .int .i64 1, .int .i64 0, .slice none 0 0, .slice none 0 0, .slice none 0 0] : List Value).toArray) (vs := [.int .i64 1, .int .i64 2, .int .i64 1, .int .i64 0, .slice none 0 0, .slice none 0 0, .slice none 0 0]) rfl ti45 rfl rfl rfl (by intro u hu; simp only [List.mem_cons, List.not_mem_nil, or_false] at hu; rcases hu with rfl | rfl | rfl | rfl | rfl | rfl | rfl <;> rfl)
  refine s_store hm rfl rfl hs' ?_
  replace hS : Sep w0 w_17 [N_4, Mem.one g_5 (.cells ([v_6, v_10] : List Value).toArray 74 (0, 0)), M_8, M_12, Mem.one g_16 (.cells ([.int .i64 1, .int .i64 2, .int .i64 1, .int .i64 0, .slice none 0 0, .slice none 0 0, .slice none 0 0] : List Value).toArray 45 (0, 0))] Z := hS'
  clear hs' hS'
  refine wpList_nil ?_
  replace hm : Fr 91 a [(0, .bool false), (1, .pointer (some ⟨g_5, 0, none⟩)), (2, .pointer (some ⟨g_16, 0, none⟩))] := hm.keep [0, 1, 2]
  refine x_then_n ?_
  refine c_seq fun KJ_18 hKJ_18 => ?_
  refine h_begin (S := fun w => Sep w0 w [N_4, Mem.no, Mem.no, Mem.no, Mem.one g_16 (.cells ([.int .i64 1, .int .i64 2, .int .i64 1, .int .i64 0, .slice none 0 0, .slice none 0 0, .slice none 0 0] : List Value).toArray 45 (0, 0))] Z) 8 (by kernel_rfl) rfl [false, false, false, false, false, false, false, false].toArray rfl hS fun w_19 hS => ?_
  replace hS : Sep w0 w_19 [N_4, Mem.one g_5 (.cells ([v_6, v_10] : List Value).toArray 74 (0, 0)), M_8, M_12, Mem.one g_16 (.cells ([.int .i64 1, .int .i64 2, .int .i64 1, .int .i64 0, .slice none 0 0, .slice none 0 0, .slice none 0 0] : List Value).toArray 45 (0, 0))] Z := hS
  refine h_take 0 [true, false, false, false, false, false, false, false].toArray rfl (by kernel_rfl) (by kernel_rfl) (by kernel_rfl) (fun _ _ _ _ h => h) rfl rfl rfl rfl hm (hS.sub (.cons (Mem.le.refl _) (.cons (Mem.no_le _) (.cons (Mem.no_le _) (.cons (Mem.no_le _) (.cons (Mem.le.refl _) (Sub.nil _))))))) (v := .pointer (some ⟨g_5, 0, none⟩)) (fun w hS => r_move hm rfl) ?_
  clear hm a; intro a hm
  refine h_take 1 [true, true, false, false, false, false, false, false].toArray rfl (by kernel_rfl) (by kernel_rfl) (by kernel_rfl) (fun _ _ _ _ h => h) rfl rfl rfl rfl hm (hS.sub (.cons (Mem.le.refl _) (.cons (Mem.no_le _) (.cons (Mem.no_le _) (.cons (Mem.no_le _) (.cons (Mem.le.refl _) (Sub.nil _))))))) (v := .agg ([.int .i64 1, .int .i64 2, .int .i64 1, .int .i64 0, .slice none 0 0, .slice none 0 0, .slice none 0 0] : List Value).toArray) (fun w hS => r_load hm rfl (hS.load_agg (p := 4) (us := [.int .i64 1, .int .i64 2, .int .i64 1, .int .i64 0, .slice none 0 0, .slice none 0 0, .slice none 0 0]) rfl Try.underlying45 rfl ti45 rfl rfl)) ?_
  clear hm a; intro a hm
  refine h_take 3 [true, true, false, true, false, false, false, false].toArray rfl (by kernel_rfl) (by kernel_rfl) (by kernel_rfl) (fun _ _ _ _ h => h) rfl rfl rfl rfl hm (hS.sub (.cons (Mem.le.refl _) (.cons (Mem.no_le _) (.cons (Mem.no_le _) (.cons (Mem.no_le _) (.cons (Mem.le.refl _) (Sub.nil _))))))) (v := .pointer (some ⟨g_5, 0, none⟩)) (fun w hS => r_move hm rfl) ?_
  clear hm a; intro a hm
  refine h_take 4 [true, true, false, true, true, false, false, false].toArray rfl (by kernel_rfl) (by kernel_rfl) (by kernel_rfl) (fun _ _ _ _ h => h) rfl rfl rfl rfl hm (hS.sub (.cons (Mem.le.refl _) (.cons (Mem.no_le _) (.cons (Mem.no_le _) (.cons (Mem.no_le _) (.cons (Mem.le.refl _) (Sub.nil _))))))) (v := .agg ([.int .i64 1, .int .i64 2, .int .i64 1, .int .i64 0, .slice none 0 0, .slice none 0 0, .slice none 0 0] : List Value).toArray) (fun w hS => r_load hm rfl (hS.load_agg (p := 4) (us := [.int .i64 1, .int .i64 2, .int .i64 1, .int .i64 0, .slice none 0 0, .slice none 0 0, .slice none 0 0]) rfl Try.underlying45 rfl ti45 rfl rfl)) ?_
  clear hm a; intro a hm
  refine h_event 2 [true, true, true, true, true, false, false, false].toArray rfl (by kernel_rfl) rfl ?_
  obtain ⟨t_20, et_20, H⟩ := Option.bind_eq_some_iff.1 H
  refine s_call hm rfl Try.call22 rfl (wait_Calls_Call.calls K _ t_1.1 _ _ t_1.2 _ _ (⟨1, 2, (⟨1, 0, ([] : List UInt8), ([] : List UInt8), ([] : List UInt8)⟩ : api_Cmd)⟩ : api_Entry) _ _ _ t_20 w0 _ _ N_4 (hS.new_zed [0, 1, 2]) (hS.enter [0, 1, 2] (by decide)) ((hr_7.mono ln_4).mono (Mem.le.refl _)) ((hr_11.mono ln_4).mono (Mem.le.refl _)) (Rd.nil _ _) (Rd.nil _ _) (Rd.nil _ _) et_20) ?_
  rintro _ w_21 ⟨v_24, v_28, N_22, M_26, M_30, rfl, hS', hr_25, hr_29⟩
  clear hm a; intro a hm
  obtain ⟨N_23, hS'', le_23, ln_23⟩ := hS.call [0, 1, 2] (by decide) rfl (l' := [Mem.one g_5 (.cells ([v_24, v_28] : List Value).toArray 74 (0, 0)), M_26, M_30]) (ow := []) rfl hS'
  replace hS : Sep w0 w_21 [N_23, Mem.one g_5 (.cells ([v_24, v_28] : List Value).toArray 74 (0, 0)), M_26, M_30, Mem.one g_16 (.cells ([.int .i64 1, .int .i64 2, .int .i64 1, .int .i64 0, .slice none 0 0, .slice none 0 0, .slice none 0 0] : List Value).toArray 45 (0, 0))] Z := hS''
  clear hS' hS''
  refine wpList_nil ?_
  refine x_then_n ⟨(hS.sub (.cons le_23 (.cons (Mem.no_le _) (.cons (Mem.no_le _) (.cons (Mem.no_le _) (.cons (Mem.le.refl _) (Sub.nil _))))))), ?_⟩
  refine h_event 5 [true, true, true, true, true, true, false, false].toArray rfl (by kernel_rfl) rfl ?_
  obtain ⟨t_32, et_32, H⟩ := Option.bind_eq_some_iff.1 H
  refine s_call hm rfl Try.call22 rfl (wait_Calls_Call.calls K _ t_20.2.1 _ _ t_20.2.2 _ _ (⟨1, 2, (⟨1, 0, ([] : List UInt8), ([] : List UInt8), ([] : List UInt8)⟩ : api_Cmd)⟩ : api_Entry) _ _ _ t_32 w0 _ _ N_23 (hS.new_zed [0, 1, 2]) (hS.enter [0, 1, 2] (by decide)) ((hr_25.mono (Mem.un_le le_23 ln_23)).mono (Mem.le.refl _)) ((hr_29.mono (Mem.un_le le_23 ln_23)).mono (Mem.le.refl _)) (Rd.nil _ _) (Rd.nil _ _) (Rd.nil _ _) et_32) ?_
  rintro _ w_33 ⟨v_36, v_40, N_34, M_38, M_42, rfl, hS', hr_37, hr_41⟩
  clear hm a; intro a hm
  obtain ⟨N_35, hS'', le_35, ln_35⟩ := hS.call [0, 1, 2] (by decide) rfl (l' := [Mem.one g_5 (.cells ([v_36, v_40] : List Value).toArray 74 (0, 0)), M_38, M_42]) (ow := []) rfl hS'
  replace hS : Sep w0 w_33 [N_35, Mem.one g_5 (.cells ([v_36, v_40] : List Value).toArray 74 (0, 0)), M_38, M_42, Mem.one g_16 (.cells ([.int .i64 1, .int .i64 2, .int .i64 1, .int .i64 0, .slice none 0 0, .slice none 0 0, .slice none 0 0] : List Value).toArray 45 (0, 0))] Z := hS''
  clear hS' hS''
  refine wpList_nil ?_
  refine x_then_n ⟨(hS.sub (.cons (le_23.trans le_35) (.cons (Mem.no_le _) (.cons (Mem.no_le _) (.cons (Mem.no_le _) (.cons (Mem.le.refl _) (Sub.nil _))))))), ?_⟩
  refine h_take 6 [true, true, true, true, true, true, true, false].toArray rfl (by kernel_rfl) (by kernel_rfl) (by kernel_rfl) (fun _ _ _ _ h => h) rfl rfl rfl rfl hm (hS.sub (.cons (le_23.trans le_35) (.cons (Mem.no_le _) (.cons (Mem.no_le _) (.cons (Mem.no_le _) (.cons (Mem.le.refl _) (Sub.nil _))))))) (v := .bool t_20.1) (fun w hS => r_assign hm rfl) ?_
  clear hm a; intro a hm
  refine h_take 7 [true, true, true, true, true, true, true, true].toArray rfl (by kernel_rfl) (by kernel_rfl) (by kernel_rfl) (fun _ _ _ _ h => h) rfl rfl rfl rfl hm (hS.sub (.cons (le_23.trans le_35) (.cons (Mem.no_le _) (.cons (Mem.no_le _) (.cons (Mem.no_le _) (.cons (Mem.le.refl _) (Sub.nil _))))))) (v := .bool t_32.1) (fun w hS => r_assign hm rfl) ?_
  clear hm a; intro a hm
  refine h_done (by kernel_rfl) ?_
  replace hm : Fr 91 a [(0, .bool false), (1, .pointer (some ⟨g_5, 0, none⟩)), (2, .pointer (some ⟨g_16, 0, none⟩)), (3, .bool t_20.1), (4, .bool t_32.1)] := hm.keep [0, 1, 2, 3, 4]
  refine x_then_n (hKJ_18 _ _ ?_)
  refine wp_seq ?_
  refine wp_region_lit ?_
  refine s_move hm rfl rfl ?_
  clear hm a; intro a hm
  obtain ⟨t_44, et_44, H⟩ := Option.bind_eq_some_iff.1 H
  refine s_call hm rfl Try.call24 rfl (wait_Calls_Next.calls K _ t_32.2.1 _ _ t_32.2.2 _ _ 5 t_44 w0 _ _ N_35 (hS.new_zed [0, 1, 2]) (hS.enter [0, 1, 2] (by decide)) ((hr_37.mono (Mem.un_le le_35 ln_35)).mono (Mem.le.refl _)) ((hr_41.mono (Mem.un_le le_35 ln_35)).mono (Mem.le.refl _)) et_44) ?_
  rintro v_48 w_45 ⟨_, v_52, v_56, N_46, M_50, M_54, M_58, rfl, hS', hr_49, hr_53, hr_57⟩
  clear hm a; intro a hm
  obtain ⟨N_47, hS'', le_47, ln_47⟩ := hS.call [0, 1, 2] (by decide) rfl (l' := [Mem.one g_5 (.cells ([v_52, v_56] : List Value).toArray 74 (0, 0)), M_54, M_58]) (ow := [M_50]) rfl hS'
  replace hS : Sep w0 w_45 [N_47, Mem.one g_5 (.cells ([v_52, v_56] : List Value).toArray 74 (0, 0)), M_54, M_58, Mem.one g_16 (.cells ([.int .i64 1, .int .i64 2, .int .i64 1, .int .i64 0, .slice none 0 0, .slice none 0 0, .slice none 0 0] : List Value).toArray 45 (0, 0)), M_50] Z := hS''
  clear hS' hS''
  refine s_assign hm rfl rfl ?_
  clear hm a; intro a hm
  refine wpList_nil ?_
  replace hm : Fr 91 a [(0, .bool false), (1, .pointer (some ⟨g_5, 0, none⟩)), (2, .pointer (some ⟨g_16, 0, none⟩)), (3, .bool t_20.1), (4, .bool t_32.1), (5, v_48)] := hm.keep [0, 1, 2, 3, 4, 5]
  refine x_then_n ?_
  refine wp_seq ?_
  refine wp_region_lit ?_
  refine s_move hm rfl rfl ?_
  clear hm a; intro a hm
  obtain ⟨t_60, et_60, H⟩ := Option.bind_eq_some_iff.1 H
  refine s_call hm rfl Try.call24 rfl (wait_Calls_Next.calls K _ t_44.2.1 _ _ t_44.2.2 _ _ 5 t_60 w0 _ _ N_47 (hS.new_zed [0, 1, 2]) (hS.enter [0, 1, 2] (by decide)) ((hr_53.mono (Mem.un_le le_47 ln_47)).mono (Mem.le.refl _)) ((hr_57.mono (Mem.un_le le_47 ln_47)).mono (Mem.le.refl _)) et_60) ?_
  rintro v_64 w_61 ⟨_, v_68, v_72, N_62, M_66, M_70, M_74, rfl, hS', hr_65, hr_69, hr_73⟩
  clear hm a; intro a hm
  obtain ⟨N_63, hS'', le_63, ln_63⟩ := hS.call [0, 1, 2] (by decide) rfl (l' := [Mem.one g_5 (.cells ([v_68, v_72] : List Value).toArray 74 (0, 0)), M_70, M_74]) (ow := [M_66]) rfl hS'
  replace hS : Sep w0 w_61 [N_63, Mem.one g_5 (.cells ([v_68, v_72] : List Value).toArray 74 (0, 0)), M_70, M_74, Mem.one g_16 (.cells ([.int .i64 1, .int .i64 2, .int .i64 1, .int .i64 0, .slice none 0 0, .slice none 0 0, .slice none 0 0] : List Value).toArray 45 (0, 0)), M_50, M_66] Z := hS''
  clear hS' hS''
  refine s_assign hm rfl rfl ?_
  clear hm a; intro a hm
  refine wpList_nil ?_
  replace hm : Fr 91 a [(0, .bool false), (1, .pointer (some ⟨g_5, 0, none⟩)), (2, .pointer (some ⟨g_16, 0, none⟩)), (3, .bool t_20.1), (4, .bool t_32.1), (5, v_48), (6, v_64)] := hm.keep [0, 1, 2, 3, 4, 5, 6]
  refine x_then_n ?_
  refine wp_seq ?_
  refine wp_region_lit ?_
  refine s_move hm rfl rfl ?_
  clear hm a; intro a hm
  obtain ⟨t_76, et_76, H⟩ := Option.bind_eq_some_iff.1 H
  refine s_call hm rfl Try.call30 rfl (wait_Calls_Again.calls K _ t_60.2.1 _ _ t_60.2.2 _ _ t_76 w0 _ _ N_63 (hS.new_zed [0, 1, 2]) (hS.enter [0, 1, 2] (by decide)) ((hr_69.mono (Mem.un_le le_63 ln_63)).mono (Mem.le.refl _)) ((hr_73.mono (Mem.un_le le_63 ln_63)).mono (Mem.le.refl _)) et_76) ?_
  rintro _ w_77 ⟨v_80, v_84, N_78, M_82, M_86, rfl, hS', hr_81, hr_85⟩
  clear hm a; intro a hm
  obtain ⟨N_79, hS'', le_79, ln_79⟩ := hS.call [0, 1, 2] (by decide) rfl (l' := [Mem.one g_5 (.cells ([v_80, v_84] : List Value).toArray 74 (0, 0)), M_82, M_86]) (ow := []) rfl hS'
  replace hS : Sep w0 w_77 [N_79, Mem.one g_5 (.cells ([v_80, v_84] : List Value).toArray 74 (0, 0)), M_82, M_86, Mem.one g_16 (.cells ([.int .i64 1, .int .i64 2, .int .i64 1, .int .i64 0, .slice none 0 0, .slice none 0 0, .slice none 0 0] : List Value).toArray 45 (0, 0)), M_50, M_66] Z := hS''
  clear hS' hS''
  refine wpList_nil ?_
  replace hm : Fr 91 a [(0, .bool false), (1, .pointer (some ⟨g_5, 0, none⟩)), (2, .pointer (some ⟨g_16, 0, none⟩)), (3, .bool t_20.1), (4, .bool t_32.1), (5, v_48), (6, v_64)] := hm.keep [0, 1, 2, 3, 4, 5, 6]
  refine x_then_n ?_
  refine wp_seq ?_
  refine wp_region_lit ?_
  refine s_move hm rfl rfl ?_
  clear hm a; intro a hm
  obtain ⟨t_88, et_88, H⟩ := Option.bind_eq_some_iff.1 H
  refine s_call hm rfl Try.call24 rfl (wait_Calls_Next.calls K _ t_76.1 _ _ t_76.2 _ _ 5 t_88 w0 _ _ N_79 (hS.new_zed [0, 1, 2]) (hS.enter [0, 1, 2] (by decide)) ((hr_81.mono (Mem.un_le le_79 ln_79)).mono (Mem.le.refl _)) ((hr_85.mono (Mem.un_le le_79 ln_79)).mono (Mem.le.refl _)) et_88) ?_
  rintro v_92 w_89 ⟨_, v_96, v_100, N_90, M_94, M_98, M_102, rfl, hS', hr_93, hr_97, hr_101⟩
  clear hm a; intro a hm
  obtain ⟨N_91, hS'', le_91, ln_91⟩ := hS.call [0, 1, 2] (by decide) rfl (l' := [Mem.one g_5 (.cells ([v_96, v_100] : List Value).toArray 74 (0, 0)), M_98, M_102]) (ow := [M_94]) rfl hS'
  replace hS : Sep w0 w_89 [N_91, Mem.one g_5 (.cells ([v_96, v_100] : List Value).toArray 74 (0, 0)), M_98, M_102, Mem.one g_16 (.cells ([.int .i64 1, .int .i64 2, .int .i64 1, .int .i64 0, .slice none 0 0, .slice none 0 0, .slice none 0 0] : List Value).toArray 45 (0, 0)), M_50, M_66, M_94] Z := hS''
  clear hS' hS''
  refine s_assign hm rfl rfl ?_
  clear hm a; intro a hm
  refine wpList_nil ?_
  replace hm : Fr 91 a [(0, .bool false), (1, .pointer (some ⟨g_5, 0, none⟩)), (2, .pointer (some ⟨g_16, 0, none⟩)), (3, .bool t_20.1), (4, .bool t_32.1), (5, v_48), (6, v_64), (7, v_92)] := hm.keep [0, 1, 2, 3, 4, 5, 6, 7]
  refine x_then_n ?_
  refine wp_seq ?_
  refine wp_region_lit ?_
  refine s_move hm rfl rfl ?_
  clear hm a; intro a hm
  refine s_load hm rfl rfl (hS.load_agg (p := 4) (us := [.int .i64 1, .int .i64 2, .int .i64 1, .int .i64 0, .slice none 0 0, .slice none 0 0, .slice none 0 0]) rfl Try.underlying45 rfl ti45 rfl rfl) ?_
  clear hm a; intro a hm
  refine s_build hm rfl ti28 pl28 rfl (.cons rfl .nil) (cs := [.int .i64 0, .slice none 0 0, .int .i64 9]) rfl ?_
  clear hm a; intro a hm
  refine s_build hm rfl ti51 pl51 rfl (.cons rfl (.cons rfl (.cons rfl .nil))) (cs := [.int .i64 4, .int .i64 1, .int .i64 2, .int .i64 1, .int .i64 0, .slice none 0 0, .slice none 0 0, .slice none 0 0, .int .i64 0, .slice none 0 0, .int .i64 9]) rfl ?_
  clear hm a; intro a hm
  obtain ⟨t_104, et_104, H⟩ := Option.bind_eq_some_iff.1 H
  refine s_call hm rfl Try.call25 rfl (wait_Calls_Done.calls K _ t_88.2.1 _ _ t_88.2.2 _ _ (⟨4, (⟨1, 2, (⟨1, 0, ([] : List UInt8), ([] : List UInt8), ([] : List UInt8)⟩ : api_Cmd)⟩ : api_Entry), (⟨0, ([] : List UInt8), 9⟩ : api_Result)⟩ : api_Done) _ _ _ _ t_104 w0 _ _ N_91 (hS.new_zed [0, 1, 2]) (hS.enter [0, 1, 2] (by decide)) ((hr_97.mono (Mem.un_le le_91 ln_91)).mono (Mem.le.refl _)) ((hr_101.mono (Mem.un_le le_91 ln_91)).mono (Mem.le.refl _)) (Rd.nil _ _) (Rd.nil _ _) (Rd.nil _ _) (Rd.nil _ _) et_104) ?_
  rintro _ w_105 ⟨v_108, v_112, N_106, M_110, M_114, rfl, hS', hr_109, hr_113⟩
  clear hm a; intro a hm
  obtain ⟨N_107, hS'', le_107, ln_107⟩ := hS.call [0, 1, 2] (by decide) rfl (l' := [Mem.one g_5 (.cells ([v_108, v_112] : List Value).toArray 74 (0, 0)), M_110, M_114]) (ow := []) rfl hS'
  replace hS : Sep w0 w_105 [N_107, Mem.one g_5 (.cells ([v_108, v_112] : List Value).toArray 74 (0, 0)), M_110, M_114, Mem.one g_16 (.cells ([.int .i64 1, .int .i64 2, .int .i64 1, .int .i64 0, .slice none 0 0, .slice none 0 0, .slice none 0 0] : List Value).toArray 45 (0, 0)), M_50, M_66, M_94] Z := hS''
  clear hS' hS''
  refine s_assign hm rfl rfl ?_
  clear hm a; intro a hm
  refine wpList_nil ?_
  replace hm : Fr 91 a [(0, .bool false), (1, .pointer (some ⟨g_5, 0, none⟩)), (2, .pointer (some ⟨g_16, 0, none⟩)), (3, .bool t_20.1), (4, .bool t_32.1), (5, v_48), (6, v_64), (7, v_92), (8, .bool t_104.1)] := hm.keep [0, 1, 2, 3, 4, 5, 6, 7, 8]
  refine x_then_n ?_
  refine wp_seq ?_
  refine wp_region_lit ?_
  refine s_move hm rfl rfl ?_
  clear hm a; intro a hm
  refine s_load hm rfl rfl (hS.load_agg (p := 4) (us := [.int .i64 1, .int .i64 2, .int .i64 1, .int .i64 0, .slice none 0 0, .slice none 0 0, .slice none 0 0]) rfl Try.underlying45 rfl ti45 rfl rfl) ?_
  clear hm a; intro a hm
  refine s_build hm rfl ti51 pl51 rfl (.cons rfl .nil) (cs := [.int .i64 0, .int .i64 1, .int .i64 2, .int .i64 1, .int .i64 0, .slice none 0 0, .slice none 0 0, .slice none 0 0, .int .i64 0, .slice none 0 0, .int .i64 0]) rfl ?_
  clear hm a; intro a hm
  obtain ⟨t_116, et_116, H⟩ := Option.bind_eq_some_iff.1 H
  refine s_call hm rfl Try.call25 rfl (wait_Calls_Done.calls K _ t_104.2.1 _ _ t_104.2.2 _ _ (⟨0, (⟨1, 2, (⟨1, 0, ([] : List UInt8), ([] : List UInt8), ([] : List UInt8)⟩ : api_Cmd)⟩ : api_Entry), (⟨0, ([] : List UInt8), 0⟩ : api_Result)⟩ : api_Done) _ _ _ _ t_116 w0 _ _ N_107 (hS.new_zed [0, 1, 2]) (hS.enter [0, 1, 2] (by decide)) ((hr_109.mono (Mem.un_le le_107 ln_107)).mono (Mem.le.refl _)) ((hr_113.mono (Mem.un_le le_107 ln_107)).mono (Mem.le.refl _)) (Rd.nil _ _) (Rd.nil _ _) (Rd.nil _ _) (Rd.nil _ _) et_116) ?_
  rintro _ w_117 ⟨v_120, v_124, N_118, M_122, M_126, rfl, hS', hr_121, hr_125⟩
  clear hm a; intro a hm
  obtain ⟨N_119, hS'', le_119, ln_119⟩ := hS.call [0, 1, 2] (by decide) rfl (l' := [Mem.one g_5 (.cells ([v_120, v_124] : List Value).toArray 74 (0, 0)), M_122, M_126]) (ow := []) rfl hS'
  replace hS : Sep w0 w_117 [N_119, Mem.one g_5 (.cells ([v_120, v_124] : List Value).toArray 74 (0, 0)), M_122, M_126, Mem.one g_16 (.cells ([.int .i64 1, .int .i64 2, .int .i64 1, .int .i64 0, .slice none 0 0, .slice none 0 0, .slice none 0 0] : List Value).toArray 45 (0, 0)), M_50, M_66, M_94] Z := hS''
  clear hS' hS''
  refine s_assign hm rfl rfl ?_
  clear hm a; intro a hm
  refine wpList_nil ?_
  replace hm : Fr 91 a [(0, .bool false), (1, .pointer (some ⟨g_5, 0, none⟩)), (3, .bool t_20.1), (4, .bool t_32.1), (5, v_48), (6, v_64), (7, v_92), (8, .bool t_104.1), (9, .bool t_116.1)] := hm.keep [0, 1, 3, 4, 5, 6, 7, 8, 9]
  refine x_then_n ?_
  refine wp_seq ?_
  refine wp_region_lit ?_
  refine s_move hm rfl rfl ?_
  clear hm a; intro a hm
  obtain ⟨t_128, et_128, H⟩ := Option.bind_eq_some_iff.1 H
  refine s_call hm rfl Try.call26 rfl (wait_Calls_Take.calls _ t_116.2.1 _ _ t_116.2.2 _ _ t_128 w0 _ _ N_119 (hS.new_zed [0, 1, 2]) (hS.enter [0, 1, 2] (by decide)) ((hr_121.mono (Mem.un_le le_119 ln_119)).mono (Mem.le.refl _)) ((hr_125.mono (Mem.un_le le_119 ln_119)).mono (Mem.le.refl _)) et_128) ?_
  rintro v_132 w_129 ⟨_, v_136, v_140, N_130, M_134, M_138, M_142, rfl, hS', hr_133, hr_137, hr_141⟩
  clear hm a; intro a hm
  obtain ⟨N_131, hS'', le_131, ln_131⟩ := hS.call [0, 1, 2] (by decide) rfl (l' := [Mem.one g_5 (.cells ([v_136, v_140] : List Value).toArray 74 (0, 0)), M_138, M_142]) (ow := [M_134]) rfl hS'
  replace hS : Sep w0 w_129 [N_131, Mem.one g_5 (.cells ([v_136, v_140] : List Value).toArray 74 (0, 0)), M_138, M_142, Mem.one g_16 (.cells ([.int .i64 1, .int .i64 2, .int .i64 1, .int .i64 0, .slice none 0 0, .slice none 0 0, .slice none 0 0] : List Value).toArray 45 (0, 0)), M_50, M_66, M_94, M_134] Z := hS''
  clear hS' hS''
  refine s_assign hm rfl rfl ?_
  clear hm a; intro a hm
  refine wpList_nil ?_
  replace hm : Fr 91 a [(0, .bool false), (1, .pointer (some ⟨g_5, 0, none⟩)), (3, .bool t_20.1), (4, .bool t_32.1), (5, v_48), (6, v_64), (7, v_92), (8, .bool t_104.1), (9, .bool t_116.1), (10, v_132)] := hm.keep [0, 1, 3, 4, 5, 6, 7, 8, 9, 10]
  refine x_then_n ?_
  refine c_seq fun KJ_144 hKJ_144 => ?_
  refine wp_region_lit ?_
  refine s_move hm rfl rfl ?_
  clear hm a; intro a hm
  refine s_move hm rfl rfl ?_
  clear hm a; intro a hm
  by_cases hc_145 : t_20.1 = true
  · rw [if_pos hc_145] at H
    refine s_on hm rfl rfl hc_145 ?_
    refine s_move hm rfl rfl ?_
    clear hm a; intro a hm
    refine s_pick_t hm rfl rfl hc_145 rfl ?_
    clear hm a; intro a hm
    refine s_move hm rfl rfl ?_
    clear hm a; intro a hm
    by_cases hc_146 : t_32.1 = true
    · rw [if_pos hc_146] at H
      refine s_on hm rfl rfl hc_146 ?_
      refine s_move hm rfl rfl ?_
      clear hm a; intro a hm
      refine s_on hm rfl rfl hc_146 ?_
      refine s_lenO hm rfl Try.underlying48 rfl (hr_49.mono ln_47) ?_
      clear hm a; intro a hm
      refine s_on hm rfl rfl hc_146 ?_
      refine s_cmp (b := ((t_44.1.length : Int) == 1)) hm rfl rfl rfl (.inl ⟨rfl, rfl⟩) ?_
      clear hm a; intro a hm
      refine s_pick_t hm rfl rfl hc_146 rfl ?_
      clear hm a; intro a hm
      refine s_move hm rfl rfl ?_
      clear hm a; intro a hm
      by_cases hc_147 : (t_44.1.length : Int) = 1
      · rw [if_pos hc_147] at H
        refine s_on hm rfl rfl (beq_iff_eq.2 hc_147) ?_
        refine s_move hm rfl rfl ?_
        clear hm a; intro a hm
        refine s_on hm rfl rfl (beq_iff_eq.2 hc_147) ?_
        refine s_lenO hm rfl Try.underlying48 rfl (hr_65.mono ln_63) ?_
        clear hm a; intro a hm
        refine s_on hm rfl rfl (beq_iff_eq.2 hc_147) ?_
        refine s_cmp (b := ((t_60.1.length : Int) == 0)) hm rfl rfl rfl (.inl ⟨rfl, rfl⟩) ?_
        clear hm a; intro a hm
        refine s_pick_t hm rfl rfl (beq_iff_eq.2 hc_147) rfl ?_
        clear hm a; intro a hm
        refine s_move hm rfl rfl ?_
        clear hm a; intro a hm
        by_cases hc_148 : (t_60.1.length : Int) = 0
        · rw [if_pos hc_148] at H
          refine s_on hm rfl rfl (beq_iff_eq.2 hc_148) ?_
          refine s_move hm rfl rfl ?_
          clear hm a; intro a hm
          refine s_on hm rfl rfl (beq_iff_eq.2 hc_148) ?_
          refine s_lenO hm rfl Try.underlying48 rfl (hr_93.mono ln_91) ?_
          clear hm a; intro a hm
          refine s_on hm rfl rfl (beq_iff_eq.2 hc_148) ?_
          refine s_cmp (b := ((t_88.1.length : Int) == 1)) hm rfl rfl rfl (.inl ⟨rfl, rfl⟩) ?_
          clear hm a; intro a hm
          refine s_pick_t hm rfl rfl (beq_iff_eq.2 hc_148) rfl ?_
          clear hm a; intro a hm
          refine s_move hm rfl rfl ?_
          clear hm a; intro a hm
          by_cases hc_149 : (t_88.1.length : Int) = 1
          · rw [if_pos hc_149] at H
            refine s_on hm rfl rfl (beq_iff_eq.2 hc_149) ?_
            refine s_move hm rfl rfl ?_
            clear hm a; intro a hm
            refine s_pick_t hm rfl rfl (beq_iff_eq.2 hc_149) rfl ?_
            clear hm a; intro a hm
            refine s_move hm rfl rfl ?_
            clear hm a; intro a hm
            by_cases hc_150 : t_104.1 = true
            · rw [if_pos hc_150] at H
              refine s_on hm rfl rfl hc_150 ?_
              refine s_move hm rfl rfl ?_
              clear hm a; intro a hm
              refine s_on hm rfl rfl hc_150 ?_
              refine s_not hm rfl rfl ?_
              clear hm a; intro a hm
              refine s_pick_t hm rfl rfl hc_150 rfl ?_
              clear hm a; intro a hm
              refine s_move hm rfl rfl ?_
              clear hm a; intro a hm
              by_cases hc_151 : t_116.1 = true
              · rw [if_pos hc_151] at H
                cases H
              · rw [if_neg hc_151] at H
                refine s_on hm rfl rfl (nt (Bool.eq_false_iff.2 hc_151)) ?_
                refine s_move hm rfl rfl ?_
                clear hm a; intro a hm
                refine s_on hm rfl rfl (nt (Bool.eq_false_iff.2 hc_151)) ?_
                refine s_lenO hm rfl Try.underlying53 rfl (hr_133.mono (Mem.un_le le_131 ln_131)) ?_
                clear hm a; intro a hm
                refine s_on hm rfl rfl (nt (Bool.eq_false_iff.2 hc_151)) ?_
                refine s_cmp (b := ((t_128.1.length : Int) == 1)) hm rfl rfl rfl (.inl ⟨rfl, rfl⟩) ?_
                clear hm a; intro a hm
                refine s_pick_t hm rfl rfl (nt (Bool.eq_false_iff.2 hc_151)) rfl ?_
                clear hm a; intro a hm
                refine s_move hm rfl rfl ?_
                clear hm a; intro a hm
                by_cases hc_152 : (t_128.1.length : Int) = 1
                · rw [if_pos hc_152] at H
                  refine s_on hm rfl rfl (beq_iff_eq.2 hc_152) ?_
                  refine s_move hm rfl rfl ?_
                  clear hm a; intro a hm
                  refine s_on hm rfl rfl (beq_iff_eq.2 hc_152) ?_
                  obtain ⟨t_153, et_153, H⟩ := Option.bind_eq_some_iff.1 H
                  refine v_indexO hm rfl Try.underlying53 ti56 rfl rfl rfl (hr_133.mono (Mem.un_le le_131 ln_131)) (hS.own 8) et_153 ?_
                  intro ad_154 cs_155 hk_156 hc_157
                  obtain ⟨v_158, rfl, hr_159⟩ := k_api_Reply.open' hk_156
                  clear hm a; intro a hm
                  refine s_on hm rfl rfl (beq_iff_eq.2 hc_152) ?_
                  refine s_fieldAddr hm rfl Try.underlying56 rfl ti28 rfl rfl ?_
                  clear hm a; intro a hm
                  refine s_on hm rfl rfl (beq_iff_eq.2 hc_152) ?_
                  refine s_fieldAddr hm rfl Try.underlying28 rfl ti3 rfl rfl ?_
                  clear hm a; intro a hm
                  refine s_on hm rfl rfl (beq_iff_eq.2 hc_152) ?_
                  refine s_load hm rfl rfl (by rw [Addr.add_add]; exact el_one (o := 4) hc_157 Try.underlying3 rfl rfl) ?_
                  clear hm a; intro a hm
                  refine s_on hm rfl rfl (beq_iff_eq.2 hc_152) ?_
                  refine s_cmp (b := (t_153.Result.N == 9)) hm rfl rfl rfl (.inl ⟨rfl, rfl⟩) ?_
                  clear hm a; intro a hm
                  refine s_pick_t hm rfl rfl (beq_iff_eq.2 hc_152) rfl ?_
                  clear hm a; intro a hm
                  refine s_move hm rfl rfl ?_
                  clear hm a; intro a hm
                  by_cases hc_160 : t_153.Result.N = 9
                  · rw [if_pos hc_160] at H
                    refine s_on hm rfl rfl (beq_iff_eq.2 hc_160) ?_
                    refine s_move hm rfl rfl ?_
                    clear hm a; intro a hm
                    refine s_on hm rfl rfl (beq_iff_eq.2 hc_160) ?_
                    obtain ⟨t_161, et_161, H⟩ := Option.bind_eq_some_iff.1 H
                    refine s_call hm rfl Try.call26 rfl (wait_Calls_Take.calls _ t_128.2.1 _ _ t_128.2.2 _ _ t_161 w0 _ _ N_131 (hS.new_zed [0, 1, 2]) (hS.enter [0, 1, 2] (by decide)) ((hr_137.mono (Mem.un_le le_131 ln_131)).mono (Mem.le.refl _)) ((hr_141.mono (Mem.un_le le_131 ln_131)).mono (Mem.le.refl _)) et_161) ?_
                    rintro v_165 w_162 ⟨_, v_169, v_173, N_163, M_167, M_171, M_175, rfl, hS', hr_166, hr_170, hr_174⟩
                    clear hm a; intro a hm
                    obtain ⟨N_164, hS'', le_164, ln_164⟩ := hS.call [0, 1, 2] (by decide) rfl (l' := [Mem.one g_5 (.cells ([v_169, v_173] : List Value).toArray 74 (0, 0)), M_171, M_175]) (ow := [M_167]) rfl hS'
                    replace hS : Sep w0 w_162 [N_164, Mem.one g_5 (.cells ([v_169, v_173] : List Value).toArray 74 (0, 0)), M_171, M_175, Mem.one g_16 (.cells ([.int .i64 1, .int .i64 2, .int .i64 1, .int .i64 0, .slice none 0 0, .slice none 0 0, .slice none 0 0] : List Value).toArray 45 (0, 0)), M_50, M_66, M_94, M_134, M_167] Z := hS''
                    clear hS' hS''
                    refine s_on hm rfl rfl (beq_iff_eq.2 hc_160) ?_
                    refine s_lenO hm rfl Try.underlying53 rfl (hr_166.mono (Mem.un_le le_164 ln_164)) ?_
                    clear hm a; intro a hm
                    refine s_on hm rfl rfl (beq_iff_eq.2 hc_160) ?_
                    refine s_cmp (b := ((t_161.1.length : Int) == 0)) hm rfl rfl rfl (.inl ⟨rfl, rfl⟩) ?_
                    clear hm a; intro a hm
                    refine s_pick_t hm rfl rfl (beq_iff_eq.2 hc_160) rfl ?_
                    clear hm a; intro a hm
                    refine s_move hm rfl rfl ?_
                    clear hm a; intro a hm
                    by_cases hc_177 : (t_161.1.length : Int) = 0
                    · rw [if_pos hc_177] at H
                      refine s_on hm rfl rfl (beq_iff_eq.2 hc_177) ?_
                      refine s_move hm rfl rfl ?_
                      clear hm a; intro a hm
                      refine s_on hm rfl rfl (beq_iff_eq.2 hc_177) ?_
                      obtain ⟨t_178, et_178, H⟩ := Option.bind_eq_some_iff.1 H
                      refine s_call hm rfl Try.call23 rfl (wait_Calls_Waiting.calls _ t_161.2.1 _ t_161.2.2 _ t_178 w0 _ _ _ (Mem.le.refl _) (hS.enter [0] (by decide)) ((hr_170.mono (Mem.un_le le_164 ln_164)).rd (hS.own_zed [0] 1 (by decide)) ((Mem.le.refl _).trans (hS.new_zed [0]))) ((hr_174.mono (Mem.un_le le_164 ln_164)).rd (hS.own_zed [0] 2 (by decide)) ((Mem.le.refl _).trans (hS.new_zed [0]))) et_178) ?_
                      rintro _ w_179 ⟨N_180, rfl, hS'⟩
                      clear hm a; intro a hm
                      obtain ⟨N_181, hS'', le_181, ln_181⟩ := hS.call [0] (by decide) rfl (l' := [Mem.one g_5 (.cells ([v_169, v_173] : List Value).toArray 74 (0, 0))]) (ow := []) rfl hS'
                      replace hS : Sep w0 w_179 [N_181, Mem.one g_5 (.cells ([v_169, v_173] : List Value).toArray 74 (0, 0)), M_171, M_175, Mem.one g_16 (.cells ([.int .i64 1, .int .i64 2, .int .i64 1, .int .i64 0, .slice none 0 0, .slice none 0 0, .slice none 0 0] : List Value).toArray 45 (0, 0)), M_50, M_66, M_94, M_134, M_167] Z := hS''
                      clear hS' hS''
                      refine s_on hm rfl rfl (beq_iff_eq.2 hc_177) ?_
                      refine s_cmp (b := (t_178 == 0)) hm rfl rfl rfl (.inl ⟨rfl, rfl⟩) ?_
                      clear hm a; intro a hm
                      refine s_pick_t hm rfl rfl (beq_iff_eq.2 hc_177) rfl ?_
                      clear hm a; intro a hm
                      refine s_assign hm rfl rfl ?_
                      clear hm a; intro a hm
                      refine wpList_nil ?_
                      replace hm : Fr 91 a [(0, .bool (t_178 == 0))] := hm.keep [0]
                      refine x_then_n (hKJ_144 _ _ ?_)
                      refine wp_ret ?_
                      by_cases hc_182 : t_178 = 0
                      · rw [if_pos hc_182] at H
                        exact f_ret hm (rs := [.tmp 0]) rfl (.tmp rfl .nil) ⟨_, rfl, N_181, (by rw [(beq_iff_eq.2 hc_182)]; rfl), (Sep.sel hS [0] (by decide))⟩
                      · rw [if_neg hc_182] at H
                        cases H
                    · rw [if_neg hc_177] at H
                      cases H
                  · rw [if_neg hc_160] at H
                    cases H
                · rw [if_neg hc_152] at H
                  cases H
            · rw [if_neg hc_150] at H
              cases H
          · rw [if_neg hc_149] at H
            cases H
        · rw [if_neg hc_148] at H
          cases H
      · rw [if_neg hc_147] at H
        cases H
    · rw [if_neg hc_146] at H
      cases H
  · rw [if_neg hc_145] at H
    cases H


end Go.Proofs
