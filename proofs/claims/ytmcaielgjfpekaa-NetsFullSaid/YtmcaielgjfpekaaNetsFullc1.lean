/- What the calls do: each function once. -/
import Derived.Test.YtmcaielgjfpekaaNetsFullc0
namespace Go.Proofs
open Go.Gp
set_option linter.unusedVariables false
set_option maxHeartbeats 4000000 in
set_option maxRecDepth 20000 in
theorem mesg_fields.calls (K : Nat) (x0 : api_Msg) (p0_0 : Value) (p0_1 : Value) (p0_2 : Value) (p0_3 : Value) (p0_4 : Value) (p0_5 : Value) (x1 : api_Msg) (p1_6 : Value) (p1_7 : Value) (p1_8 : Value) (p1_9 : Value) (p1_10 : Value) (p1_11 : Value) (r : Bool) (w0 w : World) (Z A : Mem) (hA : A.le Z) (hS : Sep w0 w [] Z) (hp0_0 : Rd Kd.u8 A p0_0 x0.Data) (hp0_1 : Rd (Kd.int .i64) A p0_1 x0.Have) (hp0_2 : Rd (Kd.int .i64) A p0_2 x0.Need) (hp0_3 : Rd Kd.u8 A p0_3 x0.Entry.Cmd.Key) (hp0_4 : Rd Kd.u8 A p0_4 x0.Entry.Cmd.Val) (hp0_5 : Rd Kd.u8 A p0_5 x0.Entry.Cmd.Old) (hp1_6 : Rd Kd.u8 A p1_6 x1.Data) (hp1_7 : Rd (Kd.int .i64) A p1_7 x1.Have) (hp1_8 : Rd (Kd.int .i64) A p1_8 x1.Need) (hp1_9 : Rd Kd.u8 A p1_9 x1.Entry.Cmd.Key) (hp1_10 : Rd Kd.u8 A p1_10 x1.Entry.Cmd.Val) (hp1_11 : Rd Kd.u8 A p1_11 x1.Entry.Cmd.Old)
    (H : mesg_fields.f K x0 x1 = some r) :
    Calls Try.prog 75 [.agg ([iV x0.Kind, iV x0.From, iV x0.To, iV x0.View, iV x0.Inst, iV x0.Len, .bool x0.Has, iV x0.Members, iV x0.Source, iV x0.At, iV x0.Total, p0_0, iV x0.Hop, iV x0.Seq, p0_1, p0_2, iV x0.Index, iV x0.Entry.Sess, iV x0.Entry.Seq, iV x0.Entry.Cmd.Kind, iV x0.Entry.Cmd.Who, p0_3, p0_4, p0_5] : List Value).toArray, .agg ([iV x1.Kind, iV x1.From, iV x1.To, iV x1.View, iV x1.Inst, iV x1.Len, .bool x1.Has, iV x1.Members, iV x1.Source, iV x1.At, iV x1.Total, p1_6, iV x1.Hop, iV x1.Seq, p1_7, p1_8, iV x1.Index, iV x1.Entry.Sess, iV x1.Entry.Seq, iV x1.Entry.Cmd.Kind, iV x1.Entry.Cmd.Who, p1_9, p1_10, p1_11] : List Value).toArray].toArray w (Ret fun v w' => ∃ (N : Mem), v = .bool r ∧ Sep w0 w' [N] Z) := by
 unfold mesg_fields.f at H
 refine f_enter _ Try.func75 rfl Try.ntmps75 rfl fun a h=>?_
 replace h : Fr 119 a [(0, .agg ([iV x0.Kind, iV x0.From, iV x0.To, iV x0.View, iV x0.Inst, iV x0.Len, .bool x0.Has, iV x0.Members, iV x0.Source, iV x0.At, iV x0.Total, p0_0, iV x0.Hop, iV x0.Seq, p0_1, p0_2, iV x0.Index, iV x0.Entry.Sess, iV x0.Entry.Seq, iV x0.Entry.Cmd.Kind, iV x0.Entry.Cmd.Who, p0_3, p0_4, p0_5] : List Value).toArray), (1, .agg ([iV x1.Kind, iV x1.From, iV x1.To, iV x1.View, iV x1.Inst, iV x1.Len, .bool x1.Has, iV x1.Members, iV x1.Source, iV x1.At, iV x1.Total, p1_6, iV x1.Hop, iV x1.Seq, p1_7, p1_8, iV x1.Index, iV x1.Entry.Sess, iV x1.Entry.Seq, iV x1.Entry.Cmd.Kind, iV x1.Entry.Cmd.Who, p1_9, p1_10, p1_11] : List Value).toArray)] := h
 replace hS := hS.start
 replace hS : Sep w0 w [_] Z := hS
 refine wp_seq <| wp_region_lit <| v_box (vs := [iV x0.Kind, iV x0.From, iV x0.To, iV x0.View, iV x0.Inst, iV x0.Len, .bool x0.Has, iV x0.Members, iV x0.Source, iV x0.At, iV x0.Total, p0_0, iV x0.Hop, iV x0.Seq, p0_1, p0_2, iV x0.Index, iV x0.Entry.Sess, iV x0.Entry.Seq, iV x0.Entry.Cmd.Kind, iV x0.Entry.Cmd.Who, p0_3, p0_4, p0_5]) h rfl rfl rfl hS fun w_1 g_2 hS' a h => ?_
 replace hS : Sep w0 w_1 [_, Mem.one g_2 (.cells ([iV x0.Kind, iV x0.From, iV x0.To, iV x0.View, iV x0.Inst, iV x0.Len, .bool x0.Has, iV x0.Members, iV x0.Source, iV x0.At, iV x0.Total, p0_0, iV x0.Hop, iV x0.Seq, p0_1, p0_2, iV x0.Index, iV x0.Entry.Sess, iV x0.Entry.Seq, iV x0.Entry.Cmd.Kind, iV x0.Entry.Cmd.Who, p0_3, p0_4, p0_5] : List Value).toArray 32 (0, 0))] Z := hS'
 clear hS'
 refine v_box (vs := [iV x1.Kind, iV x1.From, iV x1.To, iV x1.View, iV x1.Inst, iV x1.Len, .bool x1.Has, iV x1.Members, iV x1.Source, iV x1.At, iV x1.Total, p1_6, iV x1.Hop, iV x1.Seq, p1_7, p1_8, iV x1.Index, iV x1.Entry.Sess, iV x1.Entry.Seq, iV x1.Entry.Cmd.Kind, iV x1.Entry.Cmd.Who, p1_9, p1_10, p1_11]) h rfl rfl rfl hS fun w_3 g_4 hS' a h => ?_
 replace hS : Sep w0 w_3 [_, _, Mem.one g_4 (.cells ([iV x1.Kind, iV x1.From, iV x1.To, iV x1.View, iV x1.Inst, iV x1.Len, .bool x1.Has, iV x1.Members, iV x1.Source, iV x1.At, iV x1.Total, p1_6, iV x1.Hop, iV x1.Seq, p1_7, p1_8, iV x1.Index, iV x1.Entry.Sess, iV x1.Entry.Seq, iV x1.Entry.Cmd.Kind, iV x1.Entry.Cmd.Who, p1_9, p1_10, p1_11] : List Value).toArray 32 (0, 0))] Z := hS'
 clear hS'
 refine s_assign h rfl rfl fun a h=>wpList_nil <| x_then_n <| c_seq fun KJ_5 hKJ_5 => wp_seq <| wp_region_lit <| s_fieldAddr h rfl U32 rfl ti3 rfl rfl fun a h=>s_load h rfl rfl (hS.load_one (p := 1) rfl U3 rfl rfl) fun a h=>wpList_nil <| x_then_n <| c_block <| wp_seq <| wp_region_lit ?_
 refine s_cmp (b := (x0.Kind == 2)) h rfl rfl rfl (.inl ⟨rfl, rfl⟩) fun a h=>s_assign h rfl rfl fun a h=>wpList_nil <| x_then_n ?_
 by_cases hc_6 : x0.Kind = 2
 ·rw [if_pos hc_6] at H
  refine c_cond_t h rfl (beq_iff_eq.2 hc_6) <| c_seq fun KJ_7 hKJ_7 => wp_region_lit <| s_fieldAddr h rfl U32 rfl ti3 rfl rfl fun a h=>s_load h rfl rfl (hS.load_one (p := 1) rfl U3 rfl rfl) fun a h=>s_fieldAddr h rfl U32 rfl ti3 rfl rfl fun a h=>s_load h rfl rfl (hS.load_one (p := 2) rfl U3 rfl rfl) fun a h=>s_cmp (b := (x0.Inst == x1.Inst)) h rfl rfl rfl (.inl ⟨rfl, rfl⟩) fun a h=>s_move h rfl rfl fun a h=>?_
  by_cases hc_8 : x0.Inst = x1.Inst
  ·rw [if_pos hc_8] at H
   refine s_on h rfl rfl (beq_iff_eq.2 hc_8) <| s_fieldAddr h rfl U32 rfl ti3 rfl rfl fun a h=>s_on h rfl rfl (beq_iff_eq.2 hc_8) <| s_load h rfl rfl (hS.load_one (p := 1) rfl U3 rfl rfl) fun a h=>s_on h rfl rfl (beq_iff_eq.2 hc_8) <| s_fieldAddr h rfl U32 rfl ti3 rfl rfl fun a h=>s_on h rfl rfl (beq_iff_eq.2 hc_8) <| s_load h rfl rfl (hS.load_one (p := 2) rfl U3 rfl rfl) fun a h=>s_on h rfl rfl (beq_iff_eq.2 hc_8) <| s_cmp (b := (x0.Len == x1.Len)) h rfl rfl rfl (.inl ⟨rfl, rfl⟩) fun a h=>s_pick_t h rfl rfl (beq_iff_eq.2 hc_8) rfl fun a h=>s_move h rfl rfl fun a h=>?_
   by_cases hc_9 : x0.Len = x1.Len
   ·rw [if_pos hc_9] at H
    refine s_on h rfl rfl (beq_iff_eq.2 hc_9) <| s_fieldAddr h rfl U32 rfl ti4 rfl rfl fun a h=>s_on h rfl rfl (beq_iff_eq.2 hc_9) <| s_load h rfl rfl (hS.load_one (p := 1) rfl U4 rfl rfl) fun a h=>s_on h rfl rfl (beq_iff_eq.2 hc_9) <| s_fieldAddr h rfl U32 rfl ti4 rfl rfl fun a h=>s_on h rfl rfl (beq_iff_eq.2 hc_9) <| s_load h rfl rfl (hS.load_one (p := 2) rfl U4 rfl rfl) fun a h=>s_on h rfl rfl (beq_iff_eq.2 hc_9) <| s_beq (b := (x0.Has == x1.Has)) h rfl U4 rfl rfl (.inl ⟨rfl, rfl⟩) fun a h=>s_pick_t h rfl rfl (beq_iff_eq.2 hc_9) rfl fun a h=>s_assign h rfl rfl fun a h=>?_
    refine wpList_nil ?_
    replace h : Fr 119 a [(4, .bool (x0.Has == x1.Has))] := h.keep [4]
    refine x_then_n (hKJ_7 _ _ ?_)
    refine wp_ret (x_block_r (x_then_r ?_))
    obtain rfl := Option.some.inj H
    exact f_ret h (rs := [.tmp 4]) rfl (.tmp rfl .nil) ⟨_, rfl, Mem.no, rfl, (Sep.sel hS [0] (by decide))⟩
   ·rw [if_neg hc_9] at H
    refine s_off h rfl rfl rfl (beq_eq_false_iff_ne.2 hc_9) fun a h=>s_off h rfl rfl rfl (beq_eq_false_iff_ne.2 hc_9) fun a h=>s_off h rfl rfl rfl (beq_eq_false_iff_ne.2 hc_9) fun a h=>s_off h rfl rfl rfl (beq_eq_false_iff_ne.2 hc_9) fun a h=>s_off h rfl rfl rfl (beq_eq_false_iff_ne.2 hc_9) fun a h=>s_pick_f h rfl rfl (beq_eq_false_iff_ne.2 hc_9) rfl fun a h=>s_assign h rfl rfl fun a h=>wpList_nil ?_
    replace h : Fr 119 a [(4, .bool false)] := h.keep [4]
    refine x_then_n (hKJ_7 _ _ ?_)
    refine wp_ret (x_block_r (x_then_r ?_))
    obtain rfl := Option.some.inj H
    exact f_ret h (rs := [.tmp 4]) rfl (.tmp rfl .nil) ⟨_, rfl, Mem.no, rfl, (Sep.sel hS [0] (by decide))⟩
  ·rw [if_neg hc_8] at H
   refine s_off h rfl rfl rfl (beq_eq_false_iff_ne.2 hc_8) fun a h=>s_off h rfl rfl rfl (beq_eq_false_iff_ne.2 hc_8) fun a h=>s_off h rfl rfl rfl (beq_eq_false_iff_ne.2 hc_8) fun a h=>s_off h rfl rfl rfl (beq_eq_false_iff_ne.2 hc_8) fun a h=>s_off h rfl rfl rfl (beq_eq_false_iff_ne.2 hc_8) fun a h=>s_pick_f h rfl rfl (beq_eq_false_iff_ne.2 hc_8) rfl fun a h=>s_move h rfl rfl fun a h=>s_off h rfl rfl rfl rfl fun a h=>s_off h rfl rfl rfl rfl fun a h=>s_off h rfl rfl rfl rfl fun a h=>s_off h rfl rfl rfl rfl fun a h=>s_off h rfl rfl rfl rfl fun a h=>?_
   refine s_pick_f h rfl rfl rfl rfl fun a h=>s_assign h rfl rfl fun a h=>wpList_nil ?_
   replace h : Fr 119 a [(4, .bool false)] := h.keep [4]
   refine x_then_n (hKJ_7 _ _ ?_)
   refine wp_ret (x_block_r (x_then_r ?_))
   obtain rfl := Option.some.inj H
   exact f_ret h (rs := [.tmp 4]) rfl (.tmp rfl .nil) ⟨_, rfl, Mem.no, rfl, (Sep.sel hS [0] (by decide))⟩
 ·rw [if_neg hc_6] at H
  refine c_cond_f h rfl (beq_eq_false_iff_ne.2 hc_6) <| wp_seq <| wp_region_lit <| s_cmp (b := (x0.Kind == 3)) h rfl rfl rfl (.inl ⟨rfl, rfl⟩) fun a h=>s_assign h rfl rfl fun a h=>wpList_nil ?_
  replace h : Fr 119 a [(2, .pointer (some ⟨g_2, 0, none⟩)), (3, .pointer (some ⟨g_4, 0, none⟩)), (4, .bool false), (6, iV x0.Kind), (28, .bool (x0.Kind == 3))] := h.keep [2, 3, 4, 6, 28]
  refine x_then_n ?_
  by_cases hc_10 : x0.Kind = 3
  ·rw [if_pos hc_10] at H
   refine c_cond_t h rfl (beq_iff_eq.2 hc_10) <| c_seq fun KJ_11 hKJ_11 => wp_region_lit <| s_fieldAddr h rfl U32 rfl ti3 rfl rfl fun a h=>s_load h rfl rfl (hS.load_one (p := 1) rfl U3 rfl rfl) fun a h=>s_fieldAddr h rfl U32 rfl ti3 rfl rfl fun a h=>s_load h rfl rfl (hS.load_one (p := 2) rfl U3 rfl rfl) fun a h=>s_cmp (b := (x0.Members == x1.Members)) h rfl rfl rfl (.inl ⟨rfl, rfl⟩) fun a h=>s_move h rfl rfl fun a h=>?_
   by_cases hc_12 : x0.Members = x1.Members
   ·rw [if_pos hc_12] at H
    refine s_on h rfl rfl (beq_iff_eq.2 hc_12) <| s_fieldAddr h rfl U32 rfl ti3 rfl rfl fun a h=>s_on h rfl rfl (beq_iff_eq.2 hc_12) <| s_load h rfl rfl (hS.load_one (p := 1) rfl U3 rfl rfl) fun a h=>s_on h rfl rfl (beq_iff_eq.2 hc_12) <| s_fieldAddr h rfl U32 rfl ti3 rfl rfl fun a h=>s_on h rfl rfl (beq_iff_eq.2 hc_12) <| s_load h rfl rfl (hS.load_one (p := 2) rfl U3 rfl rfl) fun a h=>s_on h rfl rfl (beq_iff_eq.2 hc_12) <| s_cmp (b := (x0.Source == x1.Source)) h rfl rfl rfl (.inl ⟨rfl, rfl⟩) fun a h=>s_pick_t h rfl rfl (beq_iff_eq.2 hc_12) rfl fun a h=>s_move h rfl rfl fun a h=>?_
    by_cases hc_13 : x0.Source = x1.Source
    ·rw [if_pos hc_13] at H
     refine s_on h rfl rfl (beq_iff_eq.2 hc_13) <| s_fieldAddr h rfl U32 rfl ti3 rfl rfl fun a h=>s_on h rfl rfl (beq_iff_eq.2 hc_13) <| s_load h rfl rfl (hS.load_one (p := 1) rfl U3 rfl rfl) fun a h=>s_on h rfl rfl (beq_iff_eq.2 hc_13) <| s_fieldAddr h rfl U32 rfl ti3 rfl rfl fun a h=>s_on h rfl rfl (beq_iff_eq.2 hc_13) <| s_load h rfl rfl (hS.load_one (p := 2) rfl U3 rfl rfl) fun a h=>s_on h rfl rfl (beq_iff_eq.2 hc_13) <| s_cmp (b := (x0.Len == x1.Len)) h rfl rfl rfl (.inl ⟨rfl, rfl⟩) fun a h=>s_pick_t h rfl rfl (beq_iff_eq.2 hc_13) rfl fun a h=>s_assign h rfl rfl fun a h=>?_
     refine wpList_nil <| x_then_n (hKJ_11 _ _ ?_)
     refine wp_ret (x_block_r (x_then_r ?_))
     obtain rfl := Option.some.inj H
     exact f_ret h (rs := [.tmp 4]) rfl (.tmp rfl .nil) ⟨_, rfl, Mem.no, rfl, (Sep.sel hS [0] (by decide))⟩
    ·rw [if_neg hc_13] at H
     refine s_off h rfl rfl rfl (beq_eq_false_iff_ne.2 hc_13) fun a h=>s_off h rfl rfl rfl (beq_eq_false_iff_ne.2 hc_13) fun a h=>s_off h rfl rfl rfl (beq_eq_false_iff_ne.2 hc_13) fun a h=>s_off h rfl rfl rfl (beq_eq_false_iff_ne.2 hc_13) fun a h=>s_off h rfl rfl rfl (beq_eq_false_iff_ne.2 hc_13) fun a h=>s_pick_f h rfl rfl (beq_eq_false_iff_ne.2 hc_13) rfl fun a h=>s_assign h rfl rfl fun a h=>wpList_nil <| x_then_n (hKJ_11 _ _ ?_)
     refine wp_ret (x_block_r (x_then_r ?_))
     obtain rfl := Option.some.inj H
     exact f_ret h (rs := [.tmp 4]) rfl (.tmp rfl .nil) ⟨_, rfl, Mem.no, rfl, (Sep.sel hS [0] (by decide))⟩
   ·rw [if_neg hc_12] at H
    refine s_off h rfl rfl rfl (beq_eq_false_iff_ne.2 hc_12) fun a h=>s_off h rfl rfl rfl (beq_eq_false_iff_ne.2 hc_12) fun a h=>s_off h rfl rfl rfl (beq_eq_false_iff_ne.2 hc_12) fun a h=>s_off h rfl rfl rfl (beq_eq_false_iff_ne.2 hc_12) fun a h=>s_off h rfl rfl rfl (beq_eq_false_iff_ne.2 hc_12) fun a h=>s_pick_f h rfl rfl (beq_eq_false_iff_ne.2 hc_12) rfl fun a h=>s_move h rfl rfl fun a h=>s_off h rfl rfl rfl rfl fun a h=>s_off h rfl rfl rfl rfl fun a h=>s_off h rfl rfl rfl rfl fun a h=>s_off h rfl rfl rfl rfl fun a h=>s_off h rfl rfl rfl rfl fun a h=>?_
    refine s_pick_f h rfl rfl rfl rfl fun a h=>s_assign h rfl rfl fun a h=>wpList_nil <| x_then_n (hKJ_11 _ _ ?_)
    refine wp_ret (x_block_r (x_then_r ?_))
    obtain rfl := Option.some.inj H
    exact f_ret h (rs := [.tmp 4]) rfl (.tmp rfl .nil) ⟨_, rfl, Mem.no, rfl, (Sep.sel hS [0] (by decide))⟩
  ·rw [if_neg hc_10] at H
   refine c_cond_f h rfl (beq_eq_false_iff_ne.2 hc_10) <| wp_seq <| wp_region_lit <| s_cmp (b := (x0.Kind == 4)) h rfl rfl rfl (.inl ⟨rfl, rfl⟩) fun a h=>s_assign h rfl rfl fun a h=>wpList_nil <| x_then_n ?_
   by_cases hc_14 : x0.Kind = 4
   ·rw [if_pos hc_14] at H
    refine c_cond_t h rfl (beq_iff_eq.2 hc_14) <| wp_seq <| wp_region_lit <| s_fieldAddr h rfl U32 rfl ti3 rfl rfl fun a h=>s_load h rfl rfl (hS.load_one (p := 1) rfl U3 rfl rfl) fun a h=>s_fieldAddr h rfl U32 rfl ti3 rfl rfl fun a h=>s_load h rfl rfl (hS.load_one (p := 2) rfl U3 rfl rfl) fun a h=>s_cmp (b := (x0.At == x1.At)) h rfl rfl rfl (.inl ⟨rfl, rfl⟩) fun a h=>s_assign h rfl rfl fun a h=>wpList_nil <| x_then_n <| wp_ret (x_block_r (x_then_r ?_))
    obtain rfl := Option.some.inj H
    exact f_ret h (rs := [.tmp 4]) rfl (.tmp rfl .nil) ⟨_, rfl, Mem.no, rfl, (Sep.sel hS [0] (by decide))⟩
   ·rw [if_neg hc_14] at H
    refine c_cond_f h rfl (beq_eq_false_iff_ne.2 hc_14) <| wp_seq <| wp_region_lit <| s_cmp (b := (x0.Kind == 5)) h rfl rfl rfl (.inl ⟨rfl, rfl⟩) fun a h=>s_assign h rfl rfl fun a h=>wpList_nil <| x_then_n ?_
    by_cases hc_15 : x0.Kind = 5
    ·rw [if_pos hc_15] at H
     refine c_cond_t h rfl (beq_iff_eq.2 hc_15) <| c_seq fun KJ_16 hKJ_16 => wp_region_lit <| s_fieldAddr h rfl U32 rfl ti3 rfl rfl fun a h=>s_load h rfl rfl (hS.load_one (p := 1) rfl U3 rfl rfl) fun a h=>s_fieldAddr h rfl U32 rfl ti3 rfl rfl fun a h=>s_load h rfl rfl (hS.load_one (p := 2) rfl U3 rfl rfl) fun a h=>s_cmp (b := (x0.At == x1.At)) h rfl rfl rfl (.inl ⟨rfl, rfl⟩) fun a h=>s_move h rfl rfl fun a h=>?_
     by_cases hc_17 : x0.At = x1.At
     ·rw [if_pos hc_17] at H
      refine s_on h rfl rfl (beq_iff_eq.2 hc_17) <| s_fieldAddr h rfl U32 rfl ti3 rfl rfl fun a h=>s_on h rfl rfl (beq_iff_eq.2 hc_17) <| s_load h rfl rfl (hS.load_one (p := 1) rfl U3 rfl rfl) fun a h=>s_on h rfl rfl (beq_iff_eq.2 hc_17) <| s_fieldAddr h rfl U32 rfl ti3 rfl rfl fun a h=>s_on h rfl rfl (beq_iff_eq.2 hc_17) <| s_load h rfl rfl (hS.load_one (p := 2) rfl U3 rfl rfl) fun a h=>s_on h rfl rfl (beq_iff_eq.2 hc_17) <| s_cmp (b := (x0.Total == x1.Total)) h rfl rfl rfl (.inl ⟨rfl, rfl⟩) fun a h=>s_pick_t h rfl rfl (beq_iff_eq.2 hc_17) rfl fun a h=>s_move h rfl rfl fun a h=>?_
      by_cases hc_18 : x0.Total = x1.Total
      ·rw [if_pos hc_18] at H
       refine s_on h rfl rfl (beq_iff_eq.2 hc_18) <| s_fieldAddr h rfl U32 rfl ti26 rfl rfl fun a h=>s_on h rfl rfl (beq_iff_eq.2 hc_18) <| s_load h rfl rfl (hS.load_one (p := 1) rfl U26 rfl rfl) fun a h=>s_on h rfl rfl (beq_iff_eq.2 hc_18) <| s_fieldAddr h rfl U32 rfl ti26 rfl rfl fun a h=>s_on h rfl rfl (beq_iff_eq.2 hc_18) <| s_load h rfl rfl (hS.load_one (p := 2) rfl U26 rfl rfl) fun a h=>s_on h rfl rfl (beq_iff_eq.2 hc_18) ?_
       obtain ⟨t_19, et_19, H⟩ := Option.bind_eq_some_iff.1 H
       refine s_call h rfl Try.call81 rfl (bytes_Equal.calls x0.Data _ x1.Data _ t_19 w0 _ _ _ (Mem.le.refl _) (hS.enter [] (by decide)) (hp0_0.mono (hA.trans (hS.le_zed []))) (hp1_6.mono (hA.trans (hS.le_zed []))) et_19) ?_
       rintro _ w_20 ⟨N_21, rfl, hS'⟩
       intro a h
       obtain ⟨N_22, hS'', le_22, ln_22⟩ := hS.call [] (by decide) rfl (l' := []) (ow := []) rfl hS'
       replace hS : Sep w0 w_20 [N_22, _, _] Z := hS''
       clear hS' hS''
       refine s_pick_t h rfl rfl (beq_iff_eq.2 hc_18) rfl fun a h=>s_assign h rfl rfl fun a h=>wpList_nil <| x_then_n (hKJ_16 _ _ ?_)
       refine wp_ret (x_block_r (x_then_r ?_))
       obtain rfl := Option.some.inj H
       exact f_ret h (rs := [.tmp 4]) rfl (.tmp rfl .nil) ⟨_, rfl, N_22, rfl, (Sep.sel hS [0] (by decide))⟩
      ·rw [if_neg hc_18] at H
       refine s_off h rfl rfl rfl (beq_eq_false_iff_ne.2 hc_18) fun a h=>s_off h rfl rfl rfl (beq_eq_false_iff_ne.2 hc_18) fun a h=>s_off h rfl rfl rfl (beq_eq_false_iff_ne.2 hc_18) fun a h=>s_off h rfl rfl rfl (beq_eq_false_iff_ne.2 hc_18) fun a h=>s_off h rfl rfl rfl (beq_eq_false_iff_ne.2 hc_18) fun a h=>s_pick_f h rfl rfl (beq_eq_false_iff_ne.2 hc_18) rfl fun a h=>s_assign h rfl rfl fun a h=>wpList_nil <| x_then_n (hKJ_16 _ _ ?_)
       refine wp_ret (x_block_r (x_then_r ?_))
       obtain rfl := Option.some.inj H
       exact f_ret h (rs := [.tmp 4]) rfl (.tmp rfl .nil) ⟨_, rfl, Mem.no, rfl, (Sep.sel hS [0] (by decide))⟩
     ·rw [if_neg hc_17] at H
      refine s_off h rfl rfl rfl (beq_eq_false_iff_ne.2 hc_17) fun a h=>s_off h rfl rfl rfl (beq_eq_false_iff_ne.2 hc_17) fun a h=>s_off h rfl rfl rfl (beq_eq_false_iff_ne.2 hc_17) fun a h=>s_off h rfl rfl rfl (beq_eq_false_iff_ne.2 hc_17) fun a h=>s_off h rfl rfl rfl (beq_eq_false_iff_ne.2 hc_17) fun a h=>s_pick_f h rfl rfl (beq_eq_false_iff_ne.2 hc_17) rfl fun a h=>s_move h rfl rfl fun a h=>s_off h rfl rfl rfl rfl fun a h=>s_off h rfl rfl rfl rfl fun a h=>s_off h rfl rfl rfl rfl fun a h=>s_off h rfl rfl rfl rfl fun a h=>s_off h rfl rfl rfl rfl fun a h=>?_
      refine s_pick_f h rfl rfl rfl rfl fun a h=>s_assign h rfl rfl fun a h=>wpList_nil <| x_then_n (hKJ_16 _ _ ?_)
      refine wp_ret (x_block_r (x_then_r ?_))
      obtain rfl := Option.some.inj H
      exact f_ret h (rs := [.tmp 4]) rfl (.tmp rfl .nil) ⟨_, rfl, Mem.no, rfl, (Sep.sel hS [0] (by decide))⟩
    ·rw [if_neg hc_15] at H
     refine c_cond_f h rfl (beq_eq_false_iff_ne.2 hc_15) <| wp_seq <| wp_region_lit <| s_cmp (b := (x0.Kind == 7)) h rfl rfl rfl (.inl ⟨rfl, rfl⟩) fun a h=>s_assign h rfl rfl fun a h=>wpList_nil <| x_then_n ?_
     by_cases hc_23 : x0.Kind = 7
     ·rw [if_pos hc_23] at H
      refine c_cond_t h rfl (beq_iff_eq.2 hc_23) <| c_seq fun KJ_24 hKJ_24 => wp_region_lit <| s_fieldAddr h rfl U32 rfl ti3 rfl rfl fun a h=>s_load h rfl rfl (hS.load_one (p := 1) rfl U3 rfl rfl) fun a h=>s_fieldAddr h rfl U32 rfl ti3 rfl rfl fun a h=>s_load h rfl rfl (hS.load_one (p := 2) rfl U3 rfl rfl) fun a h=>s_cmp (b := (x0.Hop == x1.Hop)) h rfl rfl rfl (.inl ⟨rfl, rfl⟩) fun a h=>s_move h rfl rfl fun a h=>?_
      by_cases hc_25 : x0.Hop = x1.Hop
      ·rw [if_pos hc_25] at H
       refine s_on h rfl rfl (beq_iff_eq.2 hc_25) <| s_fieldAddr h rfl U32 rfl ti3 rfl rfl fun a h=>s_on h rfl rfl (beq_iff_eq.2 hc_25) <| s_load h rfl rfl (hS.load_one (p := 1) rfl U3 rfl rfl) fun a h=>s_on h rfl rfl (beq_iff_eq.2 hc_25) <| s_fieldAddr h rfl U32 rfl ti3 rfl rfl fun a h=>s_on h rfl rfl (beq_iff_eq.2 hc_25) <| s_load h rfl rfl (hS.load_one (p := 2) rfl U3 rfl rfl) fun a h=>s_on h rfl rfl (beq_iff_eq.2 hc_25) <| s_cmp (b := (x0.Seq == x1.Seq)) h rfl rfl rfl (.inl ⟨rfl, rfl⟩) fun a h=>s_pick_t h rfl rfl (beq_iff_eq.2 hc_25) rfl fun a h=>s_move h rfl rfl fun a h=>?_
       by_cases hc_26 : x0.Seq = x1.Seq
       ·rw [if_pos hc_26] at H
        refine s_on h rfl rfl (beq_iff_eq.2 hc_26) <| s_fieldAddr h rfl U32 rfl ti22 rfl rfl fun a h=>s_on h rfl rfl (beq_iff_eq.2 hc_26) <| s_load h rfl rfl (hS.load_one (p := 1) rfl U22 rfl rfl) fun a h=>s_on h rfl rfl (beq_iff_eq.2 hc_26) <| s_fieldAddr h rfl U32 rfl ti22 rfl rfl fun a h=>s_on h rfl rfl (beq_iff_eq.2 hc_26) <| s_load h rfl rfl (hS.load_one (p := 2) rfl U22 rfl rfl) fun a h=>s_on h rfl rfl (beq_iff_eq.2 hc_26) ?_
        obtain ⟨t_27, et_27, H⟩ := Option.bind_eq_some_iff.1 H
        refine s_call h rfl Try.call82 rfl (slices_Equal_sint_int.calls K x0.Have _ x1.Have _ t_27 w0 _ _ _ (Mem.le.refl _) (hS.enter [] (by decide)) (hp0_1.mono (hA.trans (hS.le_zed []))) (hp1_7.mono (hA.trans (hS.le_zed []))) et_27) ?_
        rintro _ w_28 ⟨N_29, rfl, hS'⟩
        intro a h
        obtain ⟨N_30, hS'', le_30, ln_30⟩ := hS.call [] (by decide) rfl (l' := []) (ow := []) rfl hS'
        replace hS : Sep w0 w_28 [N_30, _, _] Z := hS''
        clear hS' hS''
        refine s_pick_t h rfl rfl (beq_iff_eq.2 hc_26) rfl fun a h=>s_move h rfl rfl fun a h=>?_
        by_cases hc_31 : t_27 = true
        ·rw [if_pos hc_31] at H
         refine s_on h rfl rfl hc_31 <| s_fieldAddr h rfl U32 rfl ti22 rfl rfl fun a h=>s_on h rfl rfl hc_31 <| s_load h rfl rfl (hS.load_one (p := 1) rfl U22 rfl rfl) fun a h=>s_on h rfl rfl hc_31 <| s_fieldAddr h rfl U32 rfl ti22 rfl rfl fun a h=>s_on h rfl rfl hc_31 <| s_load h rfl rfl (hS.load_one (p := 2) rfl U22 rfl rfl) fun a h=>s_on h rfl rfl hc_31 ?_
         obtain ⟨t_32, et_32, H⟩ := Option.bind_eq_some_iff.1 H
         refine s_call h rfl Try.call82 rfl (slices_Equal_sint_int.calls K x0.Need _ x1.Need _ t_32 w0 _ _ _ (Mem.le.refl _) (hS.enter [] (by decide)) (hp0_2.mono (hA.trans (hS.le_zed []))) (hp1_8.mono (hA.trans (hS.le_zed []))) et_32) ?_
         rintro _ w_33 ⟨N_34, rfl, hS'⟩
         intro a h
         obtain ⟨N_35, hS'', le_35, ln_35⟩ := hS.call [] (by decide) rfl (l' := []) (ow := []) rfl hS'
         replace hS : Sep w0 w_33 [N_35, _, _] Z := hS''
         clear hS' hS''
         refine s_pick_t h rfl rfl hc_31 rfl fun a h=>s_assign h rfl rfl fun a h=>wpList_nil ?_
         replace h : Fr 119 a [(4, .bool t_32)] := h.keep [4]
         refine x_then_n (hKJ_24 _ _ ?_)
         refine wp_ret (x_block_r (x_then_r ?_))
         obtain rfl := Option.some.inj H
         exact f_ret h (rs := [.tmp 4]) rfl (.tmp rfl .nil) ⟨_, rfl, N_35, rfl, (Sep.sel hS [0] (by decide))⟩
        ·rw [if_neg hc_31] at H
         refine s_off h rfl rfl rfl (Bool.eq_false_iff.2 hc_31) fun a h=>s_off h rfl rfl rfl (Bool.eq_false_iff.2 hc_31) fun a h=>s_off h rfl rfl rfl (Bool.eq_false_iff.2 hc_31) fun a h=>s_off h rfl rfl rfl (Bool.eq_false_iff.2 hc_31) fun a h=>s_off h rfl rfl rfl (Bool.eq_false_iff.2 hc_31) fun a h=>s_pick_f h rfl rfl (Bool.eq_false_iff.2 hc_31) rfl fun a h=>s_assign h rfl rfl fun a h=>wpList_nil ?_
         replace h : Fr 119 a [(4, _)] := h.keep [4]
         refine x_then_n (hKJ_24 _ _ ?_)
         refine wp_ret (x_block_r (x_then_r ?_))
         obtain rfl := Option.some.inj H
         exact f_ret h (rs := [.tmp 4]) rfl (.tmp rfl .nil) ⟨_, rfl, N_30, rfl, (Sep.sel hS [0] (by decide))⟩
       ·rw [if_neg hc_26] at H
        refine s_off h rfl rfl rfl (beq_eq_false_iff_ne.2 hc_26) fun a h=>s_off h rfl rfl rfl (beq_eq_false_iff_ne.2 hc_26) fun a h=>s_off h rfl rfl rfl (beq_eq_false_iff_ne.2 hc_26) fun a h=>s_off h rfl rfl rfl (beq_eq_false_iff_ne.2 hc_26) fun a h=>s_off h rfl rfl rfl (beq_eq_false_iff_ne.2 hc_26) fun a h=>s_pick_f h rfl rfl (beq_eq_false_iff_ne.2 hc_26) rfl fun a h=>s_move h rfl rfl fun a h=>s_off h rfl rfl rfl rfl fun a h=>s_off h rfl rfl rfl rfl fun a h=>s_off h rfl rfl rfl rfl fun a h=>s_off h rfl rfl rfl rfl fun a h=>s_off h rfl rfl rfl rfl fun a h=>?_
        refine s_pick_f h rfl rfl rfl rfl fun a h=>s_assign h rfl rfl fun a h=>wpList_nil ?_
        replace h : Fr 119 a [(4, _)] := h.keep [4]
        refine x_then_n (hKJ_24 _ _ ?_)
        refine wp_ret (x_block_r (x_then_r ?_))
        obtain rfl := Option.some.inj H
        exact f_ret h (rs := [.tmp 4]) rfl (.tmp rfl .nil) ⟨_, rfl, Mem.no, rfl, (Sep.sel hS [0] (by decide))⟩
      ·rw [if_neg hc_25] at H
       refine s_off h rfl rfl rfl (beq_eq_false_iff_ne.2 hc_25) fun a h=>s_off h rfl rfl rfl (beq_eq_false_iff_ne.2 hc_25) fun a h=>s_off h rfl rfl rfl (beq_eq_false_iff_ne.2 hc_25) fun a h=>s_off h rfl rfl rfl (beq_eq_false_iff_ne.2 hc_25) fun a h=>s_off h rfl rfl rfl (beq_eq_false_iff_ne.2 hc_25) fun a h=>s_pick_f h rfl rfl (beq_eq_false_iff_ne.2 hc_25) rfl fun a h=>s_move h rfl rfl fun a h=>s_off h rfl rfl rfl rfl fun a h=>s_off h rfl rfl rfl rfl fun a h=>s_off h rfl rfl rfl rfl fun a h=>s_off h rfl rfl rfl rfl fun a h=>s_off h rfl rfl rfl rfl fun a h=>?_
       refine s_pick_f h rfl rfl rfl rfl fun a h=>s_move h rfl rfl fun a h=>s_off h rfl rfl rfl rfl fun a h=>s_off h rfl rfl rfl rfl fun a h=>s_off h rfl rfl rfl rfl fun a h=>s_off h rfl rfl rfl rfl fun a h=>s_off h rfl rfl rfl rfl fun a h=>s_pick_f h rfl rfl rfl rfl fun a h=>s_assign h rfl rfl fun a h=>wpList_nil ?_
       replace h : Fr 119 a [(4, _)] := h.keep [4]
       refine x_then_n (hKJ_24 _ _ ?_)
       refine wp_ret (x_block_r (x_then_r ?_))
       obtain rfl := Option.some.inj H
       exact f_ret h (rs := [.tmp 4]) rfl (.tmp rfl .nil) ⟨_, rfl, Mem.no, rfl, (Sep.sel hS [0] (by decide))⟩
     ·rw [if_neg hc_23] at H
      refine c_cond_f h rfl (beq_eq_false_iff_ne.2 hc_23) <| wp_seq <| wp_region_lit <| s_cmp (b := (x0.Kind == 8)) h rfl rfl rfl (.inl ⟨rfl, rfl⟩) fun a h=>s_assign h rfl rfl fun a h=>wpList_nil ?_
      replace h : Fr 119 a [(2, _), (3, _), (4, _), (105, .bool (x0.Kind == 8))] := h.keep [2, 3, 4, 105]
      refine x_then_n ?_
      by_cases hc_36 : x0.Kind = 8
      ·rw [if_pos hc_36] at H
       refine c_cond_t h rfl (beq_iff_eq.2 hc_36) <| c_seq fun KJ_37 hKJ_37 => wp_region_lit <| s_fieldAddr h rfl U32 rfl ti3 rfl rfl fun a h=>s_load h rfl rfl (hS.load_one (p := 1) rfl U3 rfl rfl) fun a h=>s_fieldAddr h rfl U32 rfl ti3 rfl rfl fun a h=>s_load h rfl rfl (hS.load_one (p := 2) rfl U3 rfl rfl) fun a h=>s_cmp (b := (x0.Index == x1.Index)) h rfl rfl rfl (.inl ⟨rfl, rfl⟩) fun a h=>s_move h rfl rfl fun a h=>?_
       by_cases hc_38 : x0.Index = x1.Index
       ·rw [if_pos hc_38] at H
        refine s_on h rfl rfl (beq_iff_eq.2 hc_38) <| s_fieldAddr h rfl U32 rfl ti30 rfl rfl fun a h=>s_on h rfl rfl (beq_iff_eq.2 hc_38) <| s_load h rfl rfl (hS.load_agg (p := 1) (us := [iV x0.Entry.Sess, iV x0.Entry.Seq, iV x0.Entry.Cmd.Kind, iV x0.Entry.Cmd.Who, p0_3, p0_4, p0_5]) rfl U30 rfl ti30 rfl rfl) fun a h=>s_on h rfl rfl (beq_iff_eq.2 hc_38) <| s_fieldAddr h rfl U32 rfl ti30 rfl rfl fun a h=>s_on h rfl rfl (beq_iff_eq.2 hc_38) <| s_load h rfl rfl (hS.load_agg (p := 2) (us := [iV x1.Entry.Sess, iV x1.Entry.Seq, iV x1.Entry.Cmd.Kind, iV x1.Entry.Cmd.Who, p1_9, p1_10, p1_11]) rfl U30 rfl ti30 rfl rfl) fun a h=>s_on h rfl rfl (beq_iff_eq.2 hc_38) ?_
        obtain ⟨t_39, et_39, H⟩ := Option.bind_eq_some_iff.1 H
        refine s_call h rfl Try.call83 rfl (mach_SameEntry.calls x0.Entry _ _ _ x1.Entry _ _ _ t_39 w0 _ _ _ (Mem.le.refl _) (hS.enter [] (by decide)) (hp0_3.mono (hA.trans (hS.le_zed []))) (hp0_4.mono (hA.trans (hS.le_zed []))) (hp0_5.mono (hA.trans (hS.le_zed []))) (hp1_9.mono (hA.trans (hS.le_zed []))) (hp1_10.mono (hA.trans (hS.le_zed []))) (hp1_11.mono (hA.trans (hS.le_zed []))) et_39) ?_
        rintro _ w_40 ⟨N_41, rfl, hS'⟩
        intro a h
        obtain ⟨N_42, hS'', le_42, ln_42⟩ := hS.call [] (by decide) rfl (l' := []) (ow := []) rfl hS'
        replace hS : Sep w0 w_40 [N_42, _, _] Z := hS''
        clear hS' hS''
        refine s_pick_t h rfl rfl (beq_iff_eq.2 hc_38) rfl fun a h=>s_assign h rfl rfl fun a h=>wpList_nil <| x_then_n (hKJ_37 _ _ ?_)
        refine wp_ret (x_block_r (x_then_r ?_))
        obtain rfl := Option.some.inj H
        exact f_ret h (rs := [.tmp 4]) rfl (.tmp rfl .nil) ⟨_, rfl, N_42, rfl, (Sep.sel hS [0] (by decide))⟩
       ·rw [if_neg hc_38] at H
        refine s_off h rfl rfl rfl (beq_eq_false_iff_ne.2 hc_38) fun a h=>s_off h rfl rfl rfl (beq_eq_false_iff_ne.2 hc_38) fun a h=>s_off h rfl rfl rfl (beq_eq_false_iff_ne.2 hc_38) fun a h=>s_off h rfl rfl rfl (beq_eq_false_iff_ne.2 hc_38) fun a h=>s_off h rfl rfl rfl (beq_eq_false_iff_ne.2 hc_38) fun a h=>s_pick_f h rfl rfl (beq_eq_false_iff_ne.2 hc_38) rfl fun a h=>s_assign h rfl rfl fun a h=>wpList_nil <| x_then_n (hKJ_37 _ _ ?_)
        refine wp_ret (x_block_r (x_then_r ?_))
        obtain rfl := Option.some.inj H
        exact f_ret h (rs := [.tmp 4]) rfl (.tmp rfl .nil) ⟨_, rfl, Mem.no, rfl, (Sep.sel hS [0] (by decide))⟩
      ·rw [if_neg hc_36] at H
       refine c_cond_f h rfl (beq_eq_false_iff_ne.2 hc_36) <| wp_skip <| x_block_n <| x_then_n (hKJ_5 _ _ ?_)
       refine wp_seq <| wp_region_lit <| s_assign h rfl rfl fun a h=>wpList_nil <| x_then_n <| wp_ret ?_
       obtain rfl := Option.some.inj H
       exact f_ret h (rs := [.tmp 4]) rfl (.tmp rfl .nil) ⟨_, rfl, Mem.no, rfl, (Sep.sel hS [0] (by decide))⟩

set_option maxHeartbeats 4000000 in
set_option maxRecDepth 20000 in
theorem mesg_alike.calls (K : Nat) (x0 : api_Msg) (p0_0 : Value) (p0_1 : Value) (p0_2 : Value) (p0_3 : Value) (p0_4 : Value) (p0_5 : Value) (x1 : api_Msg) (p1_6 : Value) (p1_7 : Value) (p1_8 : Value) (p1_9 : Value) (p1_10 : Value) (p1_11 : Value) (r : Bool) (w0 w : World) (Z A : Mem) (hA : A.le Z) (hS : Sep w0 w [] Z) (hp0_0 : Rd Kd.u8 A p0_0 x0.Data) (hp0_1 : Rd (Kd.int .i64) A p0_1 x0.Have) (hp0_2 : Rd (Kd.int .i64) A p0_2 x0.Need) (hp0_3 : Rd Kd.u8 A p0_3 x0.Entry.Cmd.Key) (hp0_4 : Rd Kd.u8 A p0_4 x0.Entry.Cmd.Val) (hp0_5 : Rd Kd.u8 A p0_5 x0.Entry.Cmd.Old) (hp1_6 : Rd Kd.u8 A p1_6 x1.Data) (hp1_7 : Rd (Kd.int .i64) A p1_7 x1.Have) (hp1_8 : Rd (Kd.int .i64) A p1_8 x1.Need) (hp1_9 : Rd Kd.u8 A p1_9 x1.Entry.Cmd.Key) (hp1_10 : Rd Kd.u8 A p1_10 x1.Entry.Cmd.Val) (hp1_11 : Rd Kd.u8 A p1_11 x1.Entry.Cmd.Old)
    (H : mesg_alike.f K x0 x1 = some r) :
    Calls Try.prog 58 [.agg ([iV x0.Kind, iV x0.From, iV x0.To, iV x0.View, iV x0.Inst, iV x0.Len, .bool x0.Has, iV x0.Members, iV x0.Source, iV x0.At, iV x0.Total, p0_0, iV x0.Hop, iV x0.Seq, p0_1, p0_2, iV x0.Index, iV x0.Entry.Sess, iV x0.Entry.Seq, iV x0.Entry.Cmd.Kind, iV x0.Entry.Cmd.Who, p0_3, p0_4, p0_5] : List Value).toArray, .agg ([iV x1.Kind, iV x1.From, iV x1.To, iV x1.View, iV x1.Inst, iV x1.Len, .bool x1.Has, iV x1.Members, iV x1.Source, iV x1.At, iV x1.Total, p1_6, iV x1.Hop, iV x1.Seq, p1_7, p1_8, iV x1.Index, iV x1.Entry.Sess, iV x1.Entry.Seq, iV x1.Entry.Cmd.Kind, iV x1.Entry.Cmd.Who, p1_9, p1_10, p1_11] : List Value).toArray].toArray w (Ret fun v w' => ∃ (N : Mem), v = .bool r ∧ Sep w0 w' [N] Z) := by
 unfold mesg_alike.f at H
 refine f_enter _ Try.func58 rfl Try.ntmps58 rfl fun a h=>?_
 replace h : Fr 36 a [(0, .agg ([iV x0.Kind, iV x0.From, iV x0.To, iV x0.View, iV x0.Inst, iV x0.Len, .bool x0.Has, iV x0.Members, iV x0.Source, iV x0.At, iV x0.Total, p0_0, iV x0.Hop, iV x0.Seq, p0_1, p0_2, iV x0.Index, iV x0.Entry.Sess, iV x0.Entry.Seq, iV x0.Entry.Cmd.Kind, iV x0.Entry.Cmd.Who, p0_3, p0_4, p0_5] : List Value).toArray), (1, .agg ([iV x1.Kind, iV x1.From, iV x1.To, iV x1.View, iV x1.Inst, iV x1.Len, .bool x1.Has, iV x1.Members, iV x1.Source, iV x1.At, iV x1.Total, p1_6, iV x1.Hop, iV x1.Seq, p1_7, p1_8, iV x1.Index, iV x1.Entry.Sess, iV x1.Entry.Seq, iV x1.Entry.Cmd.Kind, iV x1.Entry.Cmd.Who, p1_9, p1_10, p1_11] : List Value).toArray)] := h
 replace hS := hS.start
 replace hS : Sep w0 w [_] Z := hS
 refine wp_seq <| wp_region_lit <| v_box (vs := [iV x0.Kind, iV x0.From, iV x0.To, iV x0.View, iV x0.Inst, iV x0.Len, .bool x0.Has, iV x0.Members, iV x0.Source, iV x0.At, iV x0.Total, p0_0, iV x0.Hop, iV x0.Seq, p0_1, p0_2, iV x0.Index, iV x0.Entry.Sess, iV x0.Entry.Seq, iV x0.Entry.Cmd.Kind, iV x0.Entry.Cmd.Who, p0_3, p0_4, p0_5]) h rfl rfl rfl hS fun w_1 g_2 hS' a h => ?_
 replace hS : Sep w0 w_1 [_, Mem.one g_2 (.cells ([iV x0.Kind, iV x0.From, iV x0.To, iV x0.View, iV x0.Inst, iV x0.Len, .bool x0.Has, iV x0.Members, iV x0.Source, iV x0.At, iV x0.Total, p0_0, iV x0.Hop, iV x0.Seq, p0_1, p0_2, iV x0.Index, iV x0.Entry.Sess, iV x0.Entry.Seq, iV x0.Entry.Cmd.Kind, iV x0.Entry.Cmd.Who, p0_3, p0_4, p0_5] : List Value).toArray 32 (0, 0))] Z := hS'
 clear hS'
 refine v_box (vs := [iV x1.Kind, iV x1.From, iV x1.To, iV x1.View, iV x1.Inst, iV x1.Len, .bool x1.Has, iV x1.Members, iV x1.Source, iV x1.At, iV x1.Total, p1_6, iV x1.Hop, iV x1.Seq, p1_7, p1_8, iV x1.Index, iV x1.Entry.Sess, iV x1.Entry.Seq, iV x1.Entry.Cmd.Kind, iV x1.Entry.Cmd.Who, p1_9, p1_10, p1_11]) h rfl rfl rfl hS fun w_3 g_4 hS' a h => ?_
 replace hS : Sep w0 w_3 [_, _, Mem.one g_4 (.cells ([iV x1.Kind, iV x1.From, iV x1.To, iV x1.View, iV x1.Inst, iV x1.Len, .bool x1.Has, iV x1.Members, iV x1.Source, iV x1.At, iV x1.Total, p1_6, iV x1.Hop, iV x1.Seq, p1_7, p1_8, iV x1.Index, iV x1.Entry.Sess, iV x1.Entry.Seq, iV x1.Entry.Cmd.Kind, iV x1.Entry.Cmd.Who, p1_9, p1_10, p1_11] : List Value).toArray 32 (0, 0))] Z := hS'
 clear hS'
 refine s_assign h rfl rfl fun a h=>wpList_nil <| x_then_n <| c_seq fun KJ_5 hKJ_5 => wp_region_lit <| s_fieldAddr h rfl U32 rfl ti3 rfl rfl fun a h=>s_load h rfl rfl (hS.load_one (p := 1) rfl U3 rfl rfl) fun a h=>s_fieldAddr h rfl U32 rfl ti3 rfl rfl fun a h=>s_load h rfl rfl (hS.load_one (p := 2) rfl U3 rfl rfl) fun a h=>s_cmp (b := (x0.Kind == x1.Kind)) h rfl rfl rfl (.inl ⟨rfl, rfl⟩) fun a h=>s_move h rfl rfl fun a h=>?_
 by_cases hc_6 : x0.Kind = x1.Kind
 ·rw [if_pos hc_6] at H
  refine s_on h rfl rfl (beq_iff_eq.2 hc_6) <| s_fieldAddr h rfl U32 rfl ti3 rfl rfl fun a h=>s_on h rfl rfl (beq_iff_eq.2 hc_6) <| s_load h rfl rfl (hS.load_one (p := 1) rfl U3 rfl rfl) fun a h=>s_on h rfl rfl (beq_iff_eq.2 hc_6) <| s_fieldAddr h rfl U32 rfl ti3 rfl rfl fun a h=>s_on h rfl rfl (beq_iff_eq.2 hc_6) <| s_load h rfl rfl (hS.load_one (p := 2) rfl U3 rfl rfl) fun a h=>s_on h rfl rfl (beq_iff_eq.2 hc_6) <| s_cmp (b := (x0.From == x1.From)) h rfl rfl rfl (.inl ⟨rfl, rfl⟩) fun a h=>s_pick_t h rfl rfl (beq_iff_eq.2 hc_6) rfl fun a h=>s_move h rfl rfl fun a h=>?_
  by_cases hc_7 : x0.From = x1.From
  ·rw [if_pos hc_7] at H
   refine s_on h rfl rfl (beq_iff_eq.2 hc_7) <| s_fieldAddr h rfl U32 rfl ti3 rfl rfl fun a h=>s_on h rfl rfl (beq_iff_eq.2 hc_7) <| s_load h rfl rfl (hS.load_one (p := 1) rfl U3 rfl rfl) fun a h=>s_on h rfl rfl (beq_iff_eq.2 hc_7) <| s_fieldAddr h rfl U32 rfl ti3 rfl rfl fun a h=>s_on h rfl rfl (beq_iff_eq.2 hc_7) <| s_load h rfl rfl (hS.load_one (p := 2) rfl U3 rfl rfl) fun a h=>s_on h rfl rfl (beq_iff_eq.2 hc_7) <| s_cmp (b := (x0.To == x1.To)) h rfl rfl rfl (.inl ⟨rfl, rfl⟩) fun a h=>s_pick_t h rfl rfl (beq_iff_eq.2 hc_7) rfl fun a h=>s_move h rfl rfl fun a h=>?_
   by_cases hc_8 : x0.To = x1.To
   ·rw [if_pos hc_8] at H
    refine s_on h rfl rfl (beq_iff_eq.2 hc_8) <| s_fieldAddr h rfl U32 rfl ti3 rfl rfl fun a h=>s_on h rfl rfl (beq_iff_eq.2 hc_8) <| s_load h rfl rfl (hS.load_one (p := 1) rfl U3 rfl rfl) fun a h=>s_on h rfl rfl (beq_iff_eq.2 hc_8) <| s_fieldAddr h rfl U32 rfl ti3 rfl rfl fun a h=>s_on h rfl rfl (beq_iff_eq.2 hc_8) <| s_load h rfl rfl (hS.load_one (p := 2) rfl U3 rfl rfl) fun a h=>s_on h rfl rfl (beq_iff_eq.2 hc_8) <| s_cmp (b := (x0.View == x1.View)) h rfl rfl rfl (.inl ⟨rfl, rfl⟩) fun a h=>s_pick_t h rfl rfl (beq_iff_eq.2 hc_8) rfl fun a h=>s_move h rfl rfl fun a h=>?_
    by_cases hc_9 : x0.View = x1.View
    ·rw [if_pos hc_9] at H
     refine s_on h rfl rfl (beq_iff_eq.2 hc_9) <| s_load h rfl rfl (hS.load_agg (p := 1) (us := [iV x0.Kind, iV x0.From, iV x0.To, iV x0.View, iV x0.Inst, iV x0.Len, .bool x0.Has, iV x0.Members, iV x0.Source, iV x0.At, iV x0.Total, p0_0, iV x0.Hop, iV x0.Seq, p0_1, p0_2, iV x0.Index, iV x0.Entry.Sess, iV x0.Entry.Seq, iV x0.Entry.Cmd.Kind, iV x0.Entry.Cmd.Who, p0_3, p0_4, p0_5]) rfl U32 rfl ti32 rfl rfl) fun a h=>s_on h rfl rfl (beq_iff_eq.2 hc_9) <| s_load h rfl rfl (hS.load_agg (p := 2) (us := [iV x1.Kind, iV x1.From, iV x1.To, iV x1.View, iV x1.Inst, iV x1.Len, .bool x1.Has, iV x1.Members, iV x1.Source, iV x1.At, iV x1.Total, p1_6, iV x1.Hop, iV x1.Seq, p1_7, p1_8, iV x1.Index, iV x1.Entry.Sess, iV x1.Entry.Seq, iV x1.Entry.Cmd.Kind, iV x1.Entry.Cmd.Who, p1_9, p1_10, p1_11]) rfl U32 rfl ti32 rfl rfl) fun a h=>s_on h rfl rfl (beq_iff_eq.2 hc_9) ?_
     obtain ⟨t_10, et_10, H⟩ := Option.bind_eq_some_iff.1 H
     refine s_call h rfl Try.call75 rfl (mesg_fields.calls K x0 _ _ _ _ _ _ x1 _ _ _ _ _ _ t_10 w0 _ _ _ (Mem.le.refl _) (hS.enter [] (by decide)) (hp0_0.mono (hA.trans (hS.le_zed []))) (hp0_1.mono (hA.trans (hS.le_zed []))) (hp0_2.mono (hA.trans (hS.le_zed []))) (hp0_3.mono (hA.trans (hS.le_zed []))) (hp0_4.mono (hA.trans (hS.le_zed []))) (hp0_5.mono (hA.trans (hS.le_zed []))) (hp1_6.mono (hA.trans (hS.le_zed []))) (hp1_7.mono (hA.trans (hS.le_zed []))) (hp1_8.mono (hA.trans (hS.le_zed []))) (hp1_9.mono (hA.trans (hS.le_zed []))) (hp1_10.mono (hA.trans (hS.le_zed []))) (hp1_11.mono (hA.trans (hS.le_zed []))) et_10) ?_
     rintro _ w_11 ⟨N_12, rfl, hS'⟩
     intro a h
     obtain ⟨N_13, hS'', le_13, ln_13⟩ := hS.call [] (by decide) rfl (l' := []) (ow := []) rfl hS'
     replace hS : Sep w0 w_11 [N_13, _, _] Z := hS''
     clear hS' hS''
     refine s_pick_t h rfl rfl (beq_iff_eq.2 hc_9) rfl fun a h=>s_assign h rfl rfl fun a h=>wpList_nil <| x_then_n (hKJ_5 _ _ ?_)
     refine wp_ret ?_
     obtain rfl := Option.some.inj H
     exact f_ret h (rs := [.tmp 4]) rfl (.tmp rfl .nil) ⟨_, rfl, N_13, rfl, (Sep.sel hS [0] (by decide))⟩
    ·rw [if_neg hc_9] at H
     refine s_off h rfl rfl rfl (beq_eq_false_iff_ne.2 hc_9) fun a h=>s_off h rfl rfl rfl (beq_eq_false_iff_ne.2 hc_9) fun a h=>s_off h rfl rfl rfl (beq_eq_false_iff_ne.2 hc_9) fun a h=>s_pick_f h rfl rfl (beq_eq_false_iff_ne.2 hc_9) rfl fun a h=>s_assign h rfl rfl fun a h=>wpList_nil <| x_then_n (hKJ_5 _ _ ?_)
     refine wp_ret ?_
     obtain rfl := Option.some.inj H
     exact f_ret h (rs := [.tmp 4]) rfl (.tmp rfl .nil) ⟨_, rfl, Mem.no, rfl, (Sep.sel hS [0] (by decide))⟩
   ·rw [if_neg hc_8] at H
    refine s_off h rfl rfl rfl (beq_eq_false_iff_ne.2 hc_8) fun a h=>s_off h rfl rfl rfl (beq_eq_false_iff_ne.2 hc_8) fun a h=>s_off h rfl rfl rfl (beq_eq_false_iff_ne.2 hc_8) fun a h=>s_off h rfl rfl rfl (beq_eq_false_iff_ne.2 hc_8) fun a h=>s_off h rfl rfl rfl (beq_eq_false_iff_ne.2 hc_8) fun a h=>s_pick_f h rfl rfl (beq_eq_false_iff_ne.2 hc_8) rfl fun a h=>s_move h rfl rfl fun a h=>s_off h rfl rfl rfl rfl fun a h=>s_off h rfl rfl rfl rfl fun a h=>s_off h rfl rfl rfl rfl fun a h=>s_pick_f h rfl rfl rfl rfl fun a h=>s_assign h rfl rfl fun a h=>?_
    refine wpList_nil <| x_then_n (hKJ_5 _ _ ?_)
    refine wp_ret ?_
    obtain rfl := Option.some.inj H
    exact f_ret h (rs := [.tmp 4]) rfl (.tmp rfl .nil) ⟨_, rfl, Mem.no, rfl, (Sep.sel hS [0] (by decide))⟩
  ·rw [if_neg hc_7] at H
   refine s_off h rfl rfl rfl (beq_eq_false_iff_ne.2 hc_7) fun a h=>s_off h rfl rfl rfl (beq_eq_false_iff_ne.2 hc_7) fun a h=>s_off h rfl rfl rfl (beq_eq_false_iff_ne.2 hc_7) fun a h=>s_off h rfl rfl rfl (beq_eq_false_iff_ne.2 hc_7) fun a h=>s_off h rfl rfl rfl (beq_eq_false_iff_ne.2 hc_7) fun a h=>s_pick_f h rfl rfl (beq_eq_false_iff_ne.2 hc_7) rfl fun a h=>s_move h rfl rfl fun a h=>s_off h rfl rfl rfl rfl fun a h=>s_off h rfl rfl rfl rfl fun a h=>s_off h rfl rfl rfl rfl fun a h=>s_off h rfl rfl rfl rfl fun a h=>s_off h rfl rfl rfl rfl fun a h=>?_
   refine s_pick_f h rfl rfl rfl rfl fun a h=>s_move h rfl rfl fun a h=>s_off h rfl rfl rfl rfl fun a h=>s_off h rfl rfl rfl rfl fun a h=>s_off h rfl rfl rfl rfl fun a h=>s_pick_f h rfl rfl rfl rfl fun a h=>s_assign h rfl rfl fun a h=>wpList_nil <| x_then_n (hKJ_5 _ _ ?_)
   refine wp_ret ?_
   obtain rfl := Option.some.inj H
   exact f_ret h (rs := [.tmp 4]) rfl (.tmp rfl .nil) ⟨_, rfl, Mem.no, rfl, (Sep.sel hS [0] (by decide))⟩
 ·rw [if_neg hc_6] at H
  refine s_off h rfl rfl rfl (beq_eq_false_iff_ne.2 hc_6) fun a h=>s_off h rfl rfl rfl (beq_eq_false_iff_ne.2 hc_6) fun a h=>s_off h rfl rfl rfl (beq_eq_false_iff_ne.2 hc_6) fun a h=>s_off h rfl rfl rfl (beq_eq_false_iff_ne.2 hc_6) fun a h=>s_off h rfl rfl rfl (beq_eq_false_iff_ne.2 hc_6) fun a h=>s_pick_f h rfl rfl (beq_eq_false_iff_ne.2 hc_6) rfl fun a h=>s_move h rfl rfl fun a h=>s_off h rfl rfl rfl rfl fun a h=>s_off h rfl rfl rfl rfl fun a h=>s_off h rfl rfl rfl rfl fun a h=>s_off h rfl rfl rfl rfl fun a h=>s_off h rfl rfl rfl rfl fun a h=>?_
  refine s_pick_f h rfl rfl rfl rfl fun a h=>s_move h rfl rfl fun a h=>s_off h rfl rfl rfl rfl fun a h=>s_off h rfl rfl rfl rfl fun a h=>s_off h rfl rfl rfl rfl fun a h=>s_off h rfl rfl rfl rfl fun a h=>s_off h rfl rfl rfl rfl fun a h=>s_pick_f h rfl rfl rfl rfl fun a h=>s_move h rfl rfl fun a h=>s_off h rfl rfl rfl rfl fun a h=>s_off h rfl rfl rfl rfl fun a h=>s_off h rfl rfl rfl rfl fun a h=>?_
  refine s_pick_f h rfl rfl rfl rfl fun a h=>s_assign h rfl rfl fun a h=>wpList_nil <| x_then_n (hKJ_5 _ _ ?_)
  refine wp_ret ?_
  obtain rfl := Option.some.inj H
  exact f_ret h (rs := [.tmp 4]) rfl (.tmp rfl .nil) ⟨_, rfl, Mem.no, rfl, (Sep.sel hS [0] (by decide))⟩

set_option maxHeartbeats 4000000 in
set_option maxRecDepth 20000 in
theorem crcs_Next.calls (K : Nat) (x0 : UInt32) (x1 : UInt8) (r : UInt32) (w0 w : World) (Z A : Mem) (hA : A.le Z) (hS : Sep w0 w [] Z)
    (H : crcs_Next.f K x0 x1 = some r) :
    Calls Try.prog 76 [.int .u32 (x0.toNat : Int), .int .u8 (x1.toNat : Int)].toArray w (Ret fun v w' => ∃ (N : Mem), v = .int .u32 (r.toNat : Int) ∧ Sep w0 w' [N] Z) := by
 unfold crcs_Next.f at H
 refine f_enter _ Try.func76 rfl Try.ntmps76 rfl fun a h=>?_
 replace h : Fr 22 a [(0, .int .u32 (x0.toNat : Int)), (1, .int .u8 (x1.toNat : Int))] := h
 replace hS := hS.start
 replace hS : Sep w0 w [_] Z := hS
 refine wp_seq <| wp_region_lit <| s_assign h rfl rfl fun a h=>wpList_nil <| x_then_n <| wp_seq <| wp_region_lit <| s_move h rfl rfl fun a h=>s_move h rfl rfl fun a h=>s_conv (((toU32 (x1.toNat : Int)).toNat : Int)) h rfl U5 U71 rfl (wrap_u32 _).symm fun a h=>s_bits (i := (x0.toNat : Int)) (j := ((toU32 (x1.toNat : Int)).toNat : Int)) (r := ((x0 ^^^ (toU32 (x1.toNat : Int))).toNat : Int)) h rfl rfl rfl (.inr (.inr (.inl ⟨rfl, (bxor32 _ _).symm⟩))) fun a h=>s_assign h rfl rfl fun a h=>?_
 refine wpList_nil <| x_then_n <| c_seq fun KJ_1 hKJ_1 => wp_seq <| wp_region_lit <| s_move h rfl rfl fun a h=>wpList_nil <| x_then_n ?_
 have hJ_j_5 : ∀ (x_3 : UInt32), crcs_Next.J1 K x_3 = some r → ∀ (a : Act) (w_4 : World), (∃ (N_2 : Mem), Fr 22 a [(0, .int .u32 (x_3.toNat : Int)), (4, .int .u32 ((0 : UInt32).toNat : Int))] ∧ Sep w0 w_4 [N_2] Z ∧ Mem.no.le N_2) → KJ_1 a w_4 := by
  clear H h hS a
  rintro x_3 H a w_4 ⟨N_2, h, hS, le_2⟩
  unfold crcs_Next.J1 at H
  refine hKJ_1 _ _ <| wp_seq <| wp_region_lit <| s_move h rfl rfl fun a h=>s_assign h rfl rfl fun a h=>wpList_nil ?_
  replace h : Fr 22 a [(4, .int .u32 (x_3.toNat : Int))] := h.keep [4]
  refine x_then_n <| wp_ret ?_
  obtain rfl := Option.some.inj H
  exact f_ret h (rs := [.tmp 4]) rfl (.tmp rfl .nil) ⟨_, rfl, N_2, rfl, (Sep.sel hS [0] (by decide))⟩
 clear hKJ_1
 replace hS : Sep w0 w [_] Z := hS
 replace h : Fr 22 a [(0, .int .u32 ((x0 ^^^ (toU32 (x1.toNat : Int))).toNat : Int)), (4, .int .u32 ((0 : UInt32).toNat : Int)), (10, iV 0)] := h.keep [0, 4, 10]
 refine c_block <| c_loop (fun k_9 a w_9 => ∃ (x_7 : UInt32) (x_8 : Int) (N_6 : Mem), crcs_Next.L1 K (fun v => crcs_Next.J1 K v) k_9 (x_7, x_8) = some r ∧ Fr 22 a [(0, .int .u32 (x_7.toNat : Int)), (4, .int .u32 ((0 : UInt32).toNat : Int)), (10, iV x_8)] ∧ Sep w0 w_9 [N_6] Z ∧ Mem.no.le N_6) K ⟨x0 ^^^ (toU32 (x1.toNat : Int)), 0, Mem.no, H, h, (Sep.sel hS [0] (by decide)), (Mem.le.refl _)⟩ (fun a w h => by obtain ⟨_, _, _, H, _⟩ := h; cases (show (none : Option (UInt32)) = some r from H)) ?_
 clear h hS a H
 rintro k_9 a w_9 KL_9 hKL_9 ⟨x_7, x_8, N_6, H, h, hS, le_6⟩
 replace H : crcs_Next.B1 K (fun v => crcs_Next.J1 K v) (crcs_Next.L1 K (fun v => crcs_Next.J1 K v) k_9) x_7 x_8 = some r := H
 unfold crcs_Next.B1 at H
 refine wp_seq <| wp_region_lit <| s_cmp (b := decide (x_8 < 8)) h rfl rfl rfl (.inr (.inr (.inl ⟨rfl, rfl⟩))) fun a h=>wpList_nil ?_
 replace h : Fr 22 a [(0, _), (4, _), (10, _), (11, .bool (decide (x_8 < 8)))] := h.keep [0, 4, 10, 11]
 refine x_then_n <| c_seq fun KJ_11 hKJ_11 => ?_
 by_cases hc_12 : x_8 < 8
 ·rw [if_pos hc_12] at H
  refine c_cond_t h rfl (decide_eq_true hc_12) <| wp_skip <| x_then_n (hKJ_11 _ _ ?_)
  refine c_seq fun KJ_13 hKJ_13 => c_block <| wp_seq <| wp_region_lit <| s_move h rfl rfl fun a h=>s_bits (i := (x_7.toNat : Int)) (j := ((1 : UInt32).toNat : Int)) (r := ((x_7 &&& (1 : UInt32)).toNat : Int)) h rfl rfl rfl (.inl ⟨rfl, (band32 _ _).symm⟩) fun a h=>s_assign h rfl rfl fun a h=>wpList_nil <| x_then_n <| wp_seq <| wp_region_lit <| s_move h rfl rfl fun a h=>?_
  refine s_shift (r := ((toU32 (shr .u32 (x_7.toNat : Int) 1)).toNat : Int)) h rfl rfl rfl (by decide) (.inr ⟨rfl, (shr32 _ _).symm⟩) fun a h=>s_assign h rfl rfl fun a h=>wpList_nil <| x_then_n <| wp_seq <| wp_region_lit <| s_move h rfl rfl fun a h=>s_cmp (b := (((x_7 &&& (1 : UInt32)).toNat : Int) == ((1 : UInt32).toNat : Int))) h rfl rfl rfl (.inl ⟨rfl, rfl⟩) fun a h=>wpList_nil <| x_then_n ?_
  by_cases hc_14 : ((x_7 &&& (1 : UInt32)).toNat : Int) = ((1 : UInt32).toNat : Int)
  ·rw [if_pos hc_14] at H
   refine c_cond_t h rfl (beq_iff_eq.2 hc_14) <| wp_region_lit <| s_move h rfl rfl fun a h=>s_bits (i := ((toU32 (shr .u32 (x_7.toNat : Int) 1)).toNat : Int)) (j := ((3988292384 : UInt32).toNat : Int)) (r := (((toU32 (shr .u32 (x_7.toNat : Int) 1)) ^^^ (3988292384 : UInt32)).toNat : Int)) h rfl rfl rfl (.inr (.inr (.inl ⟨rfl, (bxor32 _ _).symm⟩))) fun a h=>s_assign h rfl rfl fun a h=>wpList_nil ?_
   replace h : Fr 22 a [(0, .int .u32 (((toU32 (shr .u32 (x_7.toNat : Int) 1)) ^^^ (3988292384 : UInt32)).toNat : Int)), (4, _), (10, _)] := h.keep [0, 4, 10]
   refine x_block_n <| x_then_n (hKJ_13 _ _ ?_)
   refine wp_region_lit <| s_arith (r := w64 (x_8 + 1)) h rfl rfl rfl (.inl ⟨rfl, rfl⟩) fun a h=>s_move h rfl rfl fun a h=>wpList_nil <| x_then_n (hKL_9 _ _ ?_)
   replace hS : Sep w0 w_9 [_] Z := hS
   replace h : Fr 22 a [(0, _), (4, _), (10, iV (w64 (x_8 + 1)))] := h.keep [0, 4, 10]
   exact ⟨(toU32 (shr .u32 (x_7.toNat : Int) 1)) ^^^ (3988292384 : UInt32), w64 (x_8 + 1), N_6, H, h, (Sep.sel hS [0] (by decide)), le_6⟩
  ·rw [if_neg hc_14] at H
   refine c_cond_f h rfl (beq_eq_false_iff_ne.2 hc_14) <| wp_skip <| x_block_n <| x_then_n (hKJ_13 _ _ ?_)
   refine wp_region_lit <| s_arith (r := w64 (x_8 + 1)) h rfl rfl rfl (.inl ⟨rfl, rfl⟩) fun a h=>s_move h rfl rfl fun a h=>wpList_nil ?_
   replace h : Fr 22 a [(0, .int .u32 ((toU32 (shr .u32 (x_7.toNat : Int) 1)).toNat : Int)), (4, _), (10, iV (w64 (x_8 + 1)))] := h.keep [0, 4, 10]
   refine x_then_n (hKL_9 _ _ ?_)
   replace hS : Sep w0 w_9 [_] Z := hS
   replace h : Fr 22 a [(0, _), (4, _), (10, _)] := h.keep [0, 4, 10]
   exact ⟨toU32 (shr .u32 (x_7.toNat : Int) 1), w64 (x_8 + 1), N_6, H, h, (Sep.sel hS [0] (by decide)), le_6⟩
 ·rw [if_neg hc_12] at H
  refine c_cond_f h rfl (decide_eq_false hc_12) <| wp_exit (x_then_x (x_then_x (x_block_t ?_)))
  replace hS : Sep w0 w_9 [_] Z := hS
  replace h : Fr 22 a [(0, _), (4, _)] := h.keep [0, 4]
  exact x_then_n (hJ_j_5 x_7 H _ _ ⟨N_6, h, (Sep.sel hS [0] (by decide)), le_6⟩)

set_option maxHeartbeats 4000000 in
set_option maxRecDepth 20000 in
theorem crcs_Sum.calls (K : Nat) (x0 : List UInt8) (p0_0 : Value) (r : UInt32) (w0 w : World) (Z A : Mem) (hA : A.le Z) (hS : Sep w0 w [] Z) (hp0_0 : Rd Kd.u8 A p0_0 x0)
    (H : crcs_Sum.f K x0 = some r) :
    Calls Try.prog 59 [p0_0].toArray w (Ret fun v w' => ∃ (N : Mem), v = .int .u32 (r.toNat : Int) ∧ Sep w0 w' [N] Z) := by
 unfold crcs_Sum.f at H
 refine f_enter _ Try.func59 rfl Try.ntmps59 rfl fun a h=>?_
 replace h : Fr 18 a [(0, p0_0)] := h
 replace hS := hS.start
 replace hS : Sep w0 w [_] Z := hS
 refine wp_seq <| wp_region_lit <| s_assign h rfl rfl fun a h=>wpList_nil <| x_then_n <| wp_seq <| wp_region_lit <| s_assign h rfl rfl fun a h=>wpList_nil <| x_then_n <| c_seq fun KJ_1 hKJ_1 => wp_seq <| wp_region_lit ?_
 refine s_move h rfl rfl fun a h=>s_len h rfl U26 rfl hp0_0 fun a h=>s_move h rfl rfl fun a h=>wpList_nil <| x_then_n ?_
 have hJ_j_5 : ∀ (x_3 : UInt32), crcs_Sum.J1 K x_3 = some r → ∀ (a : Act) (w_4 : World), (∃ (N_2 : Mem), Fr 18 a [(2, .int .u32 ((0 : UInt32).toNat : Int)), (3, .int .u32 (x_3.toNat : Int))] ∧ Sep w0 w_4 [N_2] Z ∧ Mem.no.le N_2) → KJ_1 a w_4 := by
  clear H h hS a
  rintro x_3 H a w_4 ⟨N_2, h, hS, le_2⟩
  unfold crcs_Sum.J1 at H
  refine hKJ_1 _ _ <| wp_seq <| wp_region_lit <| s_move h rfl rfl fun a h=>s_bits (i := (x_3.toNat : Int)) (j := ((4294967295 : UInt32).toNat : Int)) (r := ((x_3 ^^^ (4294967295 : UInt32)).toNat : Int)) h rfl rfl rfl (.inr (.inr (.inl ⟨rfl, (bxor32 _ _).symm⟩))) fun a h=>s_assign h rfl rfl fun a h=>wpList_nil ?_
  replace h : Fr 18 a [(2, .int .u32 ((x_3 ^^^ (4294967295 : UInt32)).toNat : Int))] := h.keep [2]
  refine x_then_n <| wp_ret ?_
  obtain rfl := Option.some.inj H
  exact f_ret h (rs := [.tmp 2]) rfl (.tmp rfl .nil) ⟨_, rfl, N_2, rfl, (Sep.sel hS [0] (by decide))⟩
 clear hKJ_1
 replace hS : Sep w0 w [_] Z := hS
 replace h : Fr 18 a [(2, .int .u32 ((0 : UInt32).toNat : Int)), (3, .int .u32 ((4294967295 : UInt32).toNat : Int)), (6, p0_0), (7, iV (x0.length : Int)), (8, iV 0)] := h.keep [2, 3, 6, 7, 8]
 refine c_block <| c_loop (fun k_9 a w_9 => ∃ (x_7 : UInt32) (x_8 : Int) (N_6 : Mem), crcs_Sum.L1 K x0 (fun v => crcs_Sum.J1 K v) k_9 (x_7, x_8) = some r ∧ Fr 18 a [(2, .int .u32 ((0 : UInt32).toNat : Int)), (3, .int .u32 (x_7.toNat : Int)), (6, p0_0), (7, iV (x0.length : Int)), (8, iV x_8)] ∧ Sep w0 w_9 [N_6] Z ∧ Mem.no.le N_6) K ⟨(4294967295 : UInt32), 0, Mem.no, H, h, (Sep.sel hS [0] (by decide)), (Mem.le.refl _)⟩ (fun a w h => by obtain ⟨_, _, _, H, _⟩ := h; cases (show (none : Option (UInt32)) = some r from H)) ?_
 clear h hS a H
 rintro k_9 a w_9 KL_9 hKL_9 ⟨x_7, x_8, N_6, H, h, hS, le_6⟩
 replace H : crcs_Sum.B1 K x0 (fun v => crcs_Sum.J1 K v) (crcs_Sum.L1 K x0 (fun v => crcs_Sum.J1 K v) k_9) x_7 x_8 = some r := H
 unfold crcs_Sum.B1 at H
 refine wp_seq <| wp_region_lit <| s_cmp (b := decide (x_8 < (x0.length : Int))) h rfl rfl rfl (.inr (.inr (.inl ⟨rfl, rfl⟩))) fun a h=>wpList_nil ?_
 replace h : Fr 18 a [(2, _), (3, _), (6, _), (7, _), (8, _), (9, .bool (decide (x_8 < (x0.length : Int))))] := h.keep [2, 3, 6, 7, 8, 9]
 refine x_then_n <| c_seq fun KJ_11 hKJ_11 => ?_
 by_cases hc_12 : x_8 < (x0.length : Int)
 ·rw [if_pos hc_12] at H
  refine c_cond_t h rfl (decide_eq_true hc_12) <| wp_skip <| x_then_n (hKJ_11 _ _ ?_)
  refine wp_seq <| c_block <| wp_seq <| wp_region_lit ?_
  obtain ⟨t_13, et_13, H⟩ := Option.bind_eq_some_iff.1 H
  refine v_index h rfl U26 ti5 rfl rfl rfl hp0_0 (hA.trans hS.old) et_13 fun ad_14 cs_15 hk_16 hc_17 => ?_
  obtain rfl := (show cs_15 = [.int .u8 (t_13.toNat : Int)] from hk_16)
  intro a h
  refine s_load h rfl rfl (el_one (o := 0) hc_17 U5 rfl rfl) fun a h=>s_assign h rfl rfl fun a h=>wpList_nil <| x_then_n <| wp_region_lit <| s_move h rfl rfl fun a h=>s_move h rfl rfl fun a h=>?_
  obtain ⟨t_18, et_18, H⟩ := Option.bind_eq_some_iff.1 H
  refine s_call h rfl Try.call76 rfl (crcs_Next.calls K x_7 t_13 t_18 w0 _ _ _ (Mem.le.refl _) (hS.enter [] (by decide))  et_18) ?_
  rintro _ w_19 ⟨N_20, rfl, hS'⟩
  intro a h
  obtain ⟨N_21, hS'', le_21, ln_21⟩ := hS.call [] (by decide) rfl (l' := []) (ow := []) rfl hS'
  replace hS : Sep w0 w_19 [N_21] Z := hS''
  clear hS' hS''
  refine s_assign h rfl rfl fun a h=>wpList_nil <| x_block_n <| x_then_n <| wp_region_lit <| s_arith (r := w64 (x_8 + 1)) h rfl rfl rfl (.inl ⟨rfl, rfl⟩) fun a h=>s_move h rfl rfl fun a h=>wpList_nil <| x_then_n (hKL_9 _ _ ?_)
  replace hS : Sep w0 w_19 [_] Z := hS
  replace h : Fr 18 a [(2, _), (3, .int .u32 (t_18.toNat : Int)), (6, _), (7, _), (8, iV (w64 (x_8 + 1)))] := h.keep [2, 3, 6, 7, 8]
  exact ⟨t_18, w64 (x_8 + 1), N_21, H, h, (Sep.sel hS [0] (by decide)), (le_6.trans le_21)⟩
 ·rw [if_neg hc_12] at H
  refine c_cond_f h rfl (decide_eq_false hc_12) <| wp_exit (x_then_x (x_then_x (x_block_t ?_)))
  replace hS : Sep w0 w_9 [_] Z := hS
  replace h : Fr 18 a [(2, _), (3, _)] := h.keep [2, 3]
  exact x_then_n (hJ_j_5 x_7 H _ _ ⟨N_6, h, (Sep.sel hS [0] (by decide)), le_6⟩)

set_option maxHeartbeats 4000000 in
set_option maxRecDepth 20000 in
theorem fram_Sealed.calls (K : Nat) (x0 : List UInt8) (p0_0 : Value) (r : (List UInt8)) (w0 w : World) (Z A : Mem) (hA : A.le Z) (hS : Sep w0 w [] Z) (hp0_0 : Rd Kd.u8 A p0_0 x0)
    (H : fram_Sealed.f K x0 = some r) :
    Calls Try.prog 42 [p0_0].toArray w (Ret fun v w' => ∃ (u0 : Value) (N : Mem) (M0 : Mem), v = u0 ∧ Sep w0 w' [N, M0] Z ∧ Own Kd.u8 5 M0 Mem.no u0 r) := by
 unfold fram_Sealed.f at H
 refine f_enter _ Try.func42 rfl Try.ntmps42 rfl fun a h=>?_
 replace h : Fr 22 a [(0, p0_0)] := h
 replace hS := hS.start
 replace hS : Sep w0 w [_] Z := hS
 refine wp_seq <| wp_region_lit <| s_assign h rfl rfl fun a h=>wpList_nil <| x_then_n <| wp_seq <| wp_region_lit <| s_move h rfl rfl fun a h=>?_
 obtain ⟨t_1, et_1, H⟩ := Option.bind_eq_some_iff.1 H
 refine s_call h rfl Try.call59 rfl (crcs_Sum.calls K x0 _ t_1 w0 _ _ _ (Mem.le.refl _) (hS.enter [] (by decide)) (hp0_0.mono (hA.trans (hS.le_zed []))) et_1) ?_
 rintro _ w_2 ⟨N_3, rfl, hS'⟩
 intro a h
 obtain ⟨N_4, hS'', le_4, ln_4⟩ := hS.call [] (by decide) rfl (l' := []) (ow := []) rfl hS'
 replace hS : Sep w0 w_2 [N_4] Z := hS''
 clear hS' hS''
 refine s_assign h rfl rfl fun a h=>wpList_nil <| x_then_n <| wp_seq <| wp_region_lit <| s_move h rfl rfl fun a h=>s_conv (((toU8 (t_1.toNat : Int)).toNat : Int)) h rfl U71 U5 rfl (wrap_u8 _).symm fun a h=>s_move h rfl rfl fun a h=>s_shift (r := ((toU32 (shr .u32 (t_1.toNat : Int) 8)).toNat : Int)) h rfl rfl rfl (by decide) (.inr ⟨rfl, (shr32 _ _).symm⟩) fun a h=>s_conv (((toU8 ((toU32 (shr .u32 (t_1.toNat : Int) 8)).toNat : Int)).toNat : Int)) h rfl U71 U5 rfl (wrap_u8 _).symm fun a h=>s_move h rfl rfl fun a h=>s_shift (r := ((toU32 (shr .u32 (t_1.toNat : Int) 16)).toNat : Int)) h rfl rfl rfl (by decide) (.inr ⟨rfl, (shr32 _ _).symm⟩) fun a h=>?_
 refine s_conv (((toU8 ((toU32 (shr .u32 (t_1.toNat : Int) 16)).toNat : Int)).toNat : Int)) h rfl U71 U5 rfl (wrap_u8 _).symm fun a h=>s_move h rfl rfl fun a h=>s_shift (r := ((toU32 (shr .u32 (t_1.toNat : Int) 24)).toNat : Int)) h rfl rfl rfl (by decide) (.inr ⟨rfl, (shr32 _ _).symm⟩) fun a h=>s_conv (((toU8 ((toU32 (shr .u32 (t_1.toNat : Int) 24)).toNat : Int)).toNat : Int)) h rfl U71 U5 rfl (wrap_u8 _).symm fun a h=>?_
 have hq_9 : Reps Kd.u8 Mem.no ([toU8 (t_1.toNat : Int), toU8 ((toU32 (shr .u32 (t_1.toNat : Int) 8)).toNat : Int), toU8 ((toU32 (shr .u32 (t_1.toNat : Int) 16)).toNat : Int), toU8 ((toU32 (shr .u32 (t_1.toNat : Int) 24)).toNat : Int)] : List UInt8) _ := ((Reps.one (d := Kd.u8) (x := toU8 (t_1.toNat : Int)) (show Kd.u8.K _ _ [.int .u8 ((toU8 (t_1.toNat : Int)).toNat : Int)] from rfl)).append ((Reps.one (d := Kd.u8) (x := toU8 ((toU32 (shr .u32 (t_1.toNat : Int) 8)).toNat : Int)) (show Kd.u8.K _ _ [.int .u8 ((toU8 ((toU32 (shr .u32 (t_1.toNat : Int) 8)).toNat : Int)).toNat : Int)] from rfl)).append ((Reps.one (d := Kd.u8) (x := toU8 ((toU32 (shr .u32 (t_1.toNat : Int) 16)).toNat : Int)) (show Kd.u8.K _ _ [.int .u8 ((toU8 ((toU32 (shr .u32 (t_1.toNat : Int) 16)).toNat : Int)).toNat : Int)] from rfl)).append ((Reps.one (d := Kd.u8) (x := toU8 ((toU32 (shr .u32 (t_1.toNat : Int) 24)).toNat : Int)) (show Kd.u8.K _ _ [.int .u8 ((toU8 ((toU32 (shr .u32 (t_1.toNat : Int) 24)).toNat : Int)).toNat : Int)] from rfl)).append (Reps.nil Kd.u8 _)))))
 refine s_buildSlice h rfl U26 ti5 rfl rfl rfl (.cons rfl (.cons rfl (.cons rfl (.cons rfl .nil)))) rfl rfl rfl hS hq_9 rfl fun w_5 v_6 M_7 hS' ho_8 a h => ?_
 replace hS : Sep w0 w_5 [_, M_7] Z := hS'
 clear hS' hq_9
 refine s_assign h rfl rfl fun a h=>wpList_nil <| x_then_n <| wp_seq <| wp_region_lit <| s_move h rfl rfl fun a h=>s_move h rfl rfl fun a h=>?_
 obtain ⟨t_11, et_11, H⟩ := Option.bind_eq_some_iff.1 H
 refine s_append (J := Mem.no) (I' := Mem.no) (p := 1) 140737488355328 h rfl rfl rfl U26 ti5 rfl rfl rfl rfl hS rfl ho_8 (Src.flat flat_u8 (hp0_0.src (hA.trans hS.old))) (Mem.le.refl _) (Mem.le.refl _) et_11 fun w_12 v_13 M_14 hS' ho_15 a h => ?_
 replace hS : Sep w0 w_12 [_, M_14] Z := hS'
 clear hS'
 refine s_assign h rfl rfl fun a h=>wpList_nil ?_
 replace h : Fr 22 a [(2, v_13)] := h.keep [2]
 refine x_then_n <| wp_ret ?_
 obtain rfl := Option.some.inj H
 exact f_ret h (rs := [.tmp 2]) rfl (.tmp rfl .nil) ⟨_, rfl, v_13, N_4, M_14, rfl, (Sep.sel hS [0, 1] (by decide)), ho_15⟩

set_option maxHeartbeats 4000000 in
set_option maxRecDepth 20000 in
theorem nets_Net_room.calls (g0 : Nat) (x0_n : Int) (x0_mask : Int) (x0_l : List nets_frame) (p0_0 : Value) (r : Bool) (w0 w : World) (Z A : Mem) (hA : A.le Z) (hS : Sep w0 w [Mem.one g0 (.cells ([iV x0_n, iV x0_mask, p0_0] : List Value).toArray 58 (0, 0))] Z) (hp0_0 : Rd k_nets_frame A p0_0 x0_l)
    (H : nets_Net_room.f x0_n x0_mask x0_l = some r) :
    Calls Try.prog 26 [.pointer (some ⟨g0, 0, none⟩)].toArray w (Ret fun v w' => ∃ (N : Mem), v = .bool r ∧ Sep w0 w' [N, Mem.one g0 (.cells ([iV x0_n, iV x0_mask, p0_0] : List Value).toArray 58 (0, 0))] Z) := by
 unfold nets_Net_room.f at H
 refine f_enter _ Try.func26 rfl Try.ntmps26 rfl fun a h=>?_
 replace h : Fr 9 a [(0, .pointer (some ⟨g0, 0, none⟩))] := h
 replace hS := hS.start
 replace hS : Sep w0 w [_, _] Z := hS
 refine wp_seq <| wp_region_lit <| s_assign h rfl rfl fun a h=>wpList_nil <| x_then_n <| wp_seq <| wp_region_lit <| s_move h rfl rfl fun a h=>s_nilCheck h rfl rfl fun a h=>s_fieldAddr h rfl U58 rfl ti56 rfl rfl fun a h=>s_load h rfl rfl (hS.load_one (p := 1) rfl U56 rfl rfl) fun a h=>s_len h rfl U56 rfl hp0_0 fun a h=>?_
 refine s_cmp (b := decide ((x0_l.length : Int) < 200)) h rfl rfl rfl (.inr (.inr (.inl ⟨rfl, rfl⟩))) fun a h=>s_assign h rfl rfl fun a h=>wpList_nil <| x_then_n <| wp_ret ?_
 obtain rfl := Option.some.inj H
 exact f_ret h (rs := [.tmp 2]) rfl (.tmp rfl .nil) ⟨_, rfl, Mem.no, rfl, (Sep.sel hS [0, 1] (by decide))⟩

set_option maxHeartbeats 4000000 in
set_option maxRecDepth 20000 in
theorem nets_Net_has.calls (g0 : Nat) (x0_n : Int) (x0_mask : Int) (x0_l : List nets_frame) (p0_0 : Value) (x1 : Int) (r : Bool) (w0 w : World) (Z A : Mem) (hA : A.le Z) (hS : Sep w0 w [Mem.one g0 (.cells ([iV x0_n, iV x0_mask, p0_0] : List Value).toArray 58 (0, 0))] Z) (hp0_0 : Rd k_nets_frame A p0_0 x0_l)
    (H : nets_Net_has.f x0_n x0_mask x0_l x1 = some r) :
    Calls Try.prog 29 [.pointer (some ⟨g0, 0, none⟩), iV x1].toArray w (Ret fun v w' => ∃ (N : Mem), v = .bool r ∧ Sep w0 w' [N, Mem.one g0 (.cells ([iV x0_n, iV x0_mask, p0_0] : List Value).toArray 58 (0, 0))] Z) := by
 unfold nets_Net_has.f at H
 refine f_enter _ Try.func29 rfl Try.ntmps29 rfl fun a h=>?_
 replace h : Fr 16 a [(0, .pointer (some ⟨g0, 0, none⟩)), (1, iV x1)] := h
 replace hS := hS.start
 replace hS : Sep w0 w [_, _] Z := hS
 refine wp_seq <| wp_region_lit <| s_assign h rfl rfl fun a h=>wpList_nil <| x_then_n <| c_seq fun KJ_1 hKJ_1 => wp_region_lit <| s_move h rfl rfl fun a h=>s_cmp (b := decide (x1 ≥ 0)) h rfl rfl rfl (.inr (.inr (.inr (.inr (.inr ⟨rfl, rfl⟩))))) fun a h=>s_move h rfl rfl fun a h=>?_
 by_cases hc_2 : x1 ≥ 0
 ·rw [if_pos hc_2] at H
  refine s_on h rfl rfl (decide_eq_true hc_2) <| s_move h rfl rfl fun a h=>s_on h rfl rfl (decide_eq_true hc_2) <| s_move h rfl rfl fun a h=>s_on h rfl rfl (decide_eq_true hc_2) <| s_nilCheck h rfl rfl fun a h=>s_on h rfl rfl (decide_eq_true hc_2) <| s_fieldAddr h rfl U58 rfl ti56 rfl rfl fun a h=>s_on h rfl rfl (decide_eq_true hc_2) <| s_load h rfl rfl (hS.load_one (p := 1) rfl U56 rfl rfl) fun a h=>s_on h rfl rfl (decide_eq_true hc_2) <| s_len h rfl U56 rfl hp0_0 fun a h=>?_
  refine s_on h rfl rfl (decide_eq_true hc_2) <| s_cmp (b := decide (x1 < (x0_l.length : Int))) h rfl rfl rfl (.inr (.inr (.inl ⟨rfl, rfl⟩))) fun a h=>s_pick_t h rfl rfl (decide_eq_true hc_2) rfl fun a h=>s_assign h rfl rfl fun a h=>wpList_nil <| x_then_n (hKJ_1 _ _ ?_)
  refine wp_ret ?_
  obtain rfl := Option.some.inj H
  exact f_ret h (rs := [.tmp 4]) rfl (.tmp rfl .nil) ⟨_, rfl, Mem.no, rfl, (Sep.sel hS [0, 1] (by decide))⟩
 ·rw [if_neg hc_2] at H
  refine s_off h rfl rfl rfl (decide_eq_false hc_2) fun a h=>s_off h rfl rfl rfl (decide_eq_false hc_2) fun a h=>s_off h rfl rfl rfl (decide_eq_false hc_2) fun a h=>s_off h rfl rfl rfl (decide_eq_false hc_2) fun a h=>s_off h rfl rfl rfl (decide_eq_false hc_2) fun a h=>s_off h rfl rfl rfl (decide_eq_false hc_2) fun a h=>s_off h rfl rfl rfl (decide_eq_false hc_2) fun a h=>s_pick_f h rfl rfl (decide_eq_false hc_2) rfl fun a h=>s_assign h rfl rfl fun a h=>wpList_nil <| x_then_n (hKJ_1 _ _ ?_)
  refine wp_ret ?_
  obtain rfl := Option.some.inj H
  exact f_ret h (rs := [.tmp 4]) rfl (.tmp rfl .nil) ⟨_, rfl, Mem.no, rfl, (Sep.sel hS [0, 1] (by decide))⟩

set_option maxHeartbeats 4000000 in
set_option maxRecDepth 20000 in
theorem nets_Net_At.calls (g0 : Nat) (x0_n : Int) (x0_mask : Int) (x0_l : List nets_frame) (p0_0 : Value) (x1 : Int) (r : api_Flight × Bool) (w0 w : World) (Z A : Mem) (hA : A.le Z) (hS : Sep w0 w [Mem.one g0 (.cells ([iV x0_n, iV x0_mask, p0_0] : List Value).toArray 58 (0, 0))] Z) (hp0_0 : Rd k_nets_frame A p0_0 x0_l)
    (H : nets_Net_At.f x0_n x0_mask x0_l x1 = some r) :
    Calls Try.prog 18 [.pointer (some ⟨g0, 0, none⟩), iV x1].toArray w (Ret fun v w' => ∃ (u0 : Value) (N : Mem) (M0 : Mem), v = .tuple [.agg [iV r.1.From, iV r.1.To, u0].toArray, .bool r.2].toArray ∧ Sep w0 w' [N, Mem.one g0 (.cells ([iV x0_n, iV x0_mask, p0_0] : List Value).toArray 58 (0, 0)), M0] Z ∧ Own Kd.u8 5 M0 Mem.no u0 r.1.Bytes) := by
 unfold nets_Net_At.f at H
 refine f_enter _ Try.func18 rfl Try.ntmps18 rfl fun a h=>?_
 replace h : Fr 25 a [(0, .pointer (some ⟨g0, 0, none⟩)), (1, iV x1)] := h
 replace hS := hS.start
 replace hS : Sep w0 w [_, _] Z := hS
 refine wp_seq <| wp_region_lit <| v_alloc h rfl ti44 hS fun w_1 g_2 hS' a h => ?_
 replace hS : Sep w0 w_1 [_, _, Mem.one g_2 (.cells ([iV 0, iV 0, nS] : List Value).toArray 44 (0, 0))] Z := hS'
 clear hS'
 refine s_assign h rfl rfl fun a h=>wpList_nil <| x_then_n <| c_seq fun KJ_3 hKJ_3 => wp_seq <| wp_region_lit <| s_move h rfl rfl fun a h=>s_move h rfl rfl fun a h=>?_
 obtain ⟨t_4, et_4, H⟩ := Option.bind_eq_some_iff.1 H
 refine s_call h rfl Try.call29 rfl (nets_Net_has.calls _ x0_n x0_mask x0_l _ x1 t_4 w0 _ _ _ (Mem.le.refl _) (hS.enter [0] (by decide)) (hp0_0.mono (hA.trans (hS.le_zed [0]))) et_4) ?_
 rintro _ w_5 ⟨N_6, rfl, hS'⟩
 intro a h
 obtain ⟨N_7, hS'', le_7, ln_7⟩ := hS.call [0] (by decide) rfl (l' := [Mem.one g0 (.cells ([iV x0_n, iV x0_mask, p0_0] : List Value).toArray 58 (0, 0))]) (ow := []) rfl hS'
 replace hS : Sep w0 w_5 [N_7, _, _] Z := hS''
 clear hS' hS''
 refine s_not h rfl rfl fun a h=>wpList_nil <| x_then_n ?_
 by_cases hc_8 : t_4 = true
 ·rw [if_pos hc_8] at H
  refine c_cond_f h rfl (nf hc_8) <| wp_skip <| x_then_n (hKJ_3 _ _ ?_)
  refine wp_seq <| wp_region_lit <| s_move h rfl rfl fun a h=>s_nilCheck h rfl rfl fun a h=>s_fieldAddr h rfl U58 rfl ti56 rfl rfl fun a h=>s_load h rfl rfl (hS.load_one (p := 1) rfl U56 rfl rfl) fun a h=>s_move h rfl rfl fun a h=>?_
  obtain ⟨t_9, et_9, H⟩ := Option.bind_eq_some_iff.1 H
  refine v_index h rfl U56 ti60 rfl rfl rfl hp0_0 (hA.trans hS.old) et_9 fun ad_10 cs_11 hk_12 hc_13 => ?_
  obtain ⟨v_14, rfl, hr_15⟩ := k_nets_frame.open' hk_12
  intro a h
  refine s_fieldAddr h rfl U60 rfl ti44 rfl rfl fun a h=>s_load h rfl rfl (el_agg (o := 0) (us := [iV t_9.f.From, iV t_9.f.To, v_14]) hc_13 U44 rfl ti44 rfl rfl) fun a h=>v_alloc h rfl ti44 hS fun w_16 g_17 hS' a h => ?_
  replace hS : Sep w0 w_16 [_, _, _, Mem.one g_17 (.cells ([iV 0, iV 0, nS] : List Value).toArray 44 (0, 0))] Z := hS'
  clear hS'
  obtain ⟨w_18, hs', hS'⟩ := hS.store (P := Try.prog) (p := 3) (o := 0) (t := 44) (v := .agg ([iV t_9.f.From, iV t_9.f.To, v_14] : List Value).toArray) (vs := [iV t_9.f.From, iV t_9.f.To, v_14]) rfl ti44 rfl rfl rfl (by intro u hu; simp only [List.mem_cons, List.not_mem_nil, or_false] at hu; rcases hu with rfl | rfl | rfl <;> first | rfl | exact hr_15.one)
  refine s_store h rfl rfl hs' ?_
  replace hS : Sep w0 w_18 [_, _, _, Mem.one g_17 (.cells ([iV t_9.f.From, iV t_9.f.To, v_14] : List Value).toArray 44 (0, 0))] Z := hS'
  clear hs' hS'
  refine wpList_nil <| x_then_n <| wp_seq <| wp_region_lit <| s_fieldAddr h rfl U44 rfl ti26 rfl rfl fun a h=>s_load h rfl rfl (hS.load_one (p := 3) rfl U26 rfl rfl) fun a h=>?_
  obtain ⟨t_19, et_19, H⟩ := Option.bind_eq_some_iff.1 H
  refine s_call h rfl Try.call30 rfl (slices_Clone_sbyte_byte.calls t_9.f.Bytes _ t_19 w0 _ _ _ (Mem.le.refl _) (hS.enter [] (by decide)) (hr_15.mono (hA.trans (hS.le_zed []))) et_19) ?_
  rintro v_23 w_20 ⟨_, N_21, M_25, rfl, hS', hr_24⟩
  intro a h
  obtain ⟨N_22, hS'', le_22, ln_22⟩ := hS.call [] (by decide) rfl (l' := []) (ow := [M_25]) rfl hS'
  replace hS : Sep w0 w_20 [N_22, _, _, _, M_25] Z := hS''
  clear hS' hS''
  refine s_fieldAddr h rfl U44 rfl ti26 rfl rfl fun a h=>?_
  obtain ⟨w_27, hs', hS'⟩ := hS.store (P := Try.prog) (p := 3) (o := 2) (t := 26) (v := v_23) (vs := [v_23]) rfl ti26 hr_24.cellsA rfl rfl (by intro u hu; simp only [List.mem_cons, List.not_mem_nil, or_false] at hu; rcases hu with rfl <;> first | rfl | exact hr_24.one)
  refine s_store h rfl rfl hs' ?_
  replace hS : Sep w0 w_27 [_, _, _, Mem.one g_17 (.cells ([_, _, v_23] : List Value).toArray 44 (0, 0)), _] Z := hS'
  clear hs' hS'
  refine wpList_nil ?_
  replace h : Fr 25 a [(4, .pointer (some ⟨g_2, 0, none⟩)), (5, .bool false), (6, .pointer (some ⟨g_17, 0, none⟩))] := h.keep [4, 5, 6]
  refine x_then_n <| wp_seq <| wp_region_lit <| s_load h rfl rfl (hS.load_agg (p := 3) (us := [iV t_9.f.From, iV t_9.f.To, v_23]) rfl U44 rfl ti44 rfl rfl) fun a h=>?_
  obtain ⟨w_28, hs', hS'⟩ := hS.store (P := Try.prog) (p := 2) (o := 0) (t := 44) (v := .agg ([iV t_9.f.From, iV t_9.f.To, v_23] : List Value).toArray) (vs := [iV t_9.f.From, iV t_9.f.To, v_23]) rfl ti44 rfl rfl rfl (by intro u hu; simp only [List.mem_cons, List.not_mem_nil, or_false] at hu; rcases hu with rfl | rfl | rfl <;> first | rfl | exact hr_24.one)
  refine s_store h rfl rfl hs' ?_
  replace hS : Sep w0 w_28 [_, _, Mem.one g_2 (.cells ([iV t_9.f.From, iV t_9.f.To, v_23] : List Value).toArray 44 (0, 0)), _, _] Z := hS'
  clear hs' hS'
  refine s_assign h rfl rfl fun a h=>wpList_nil <| x_then_n <| wp_ret ?_
  obtain rfl := Option.some.inj H
  exact f_ret h (rs := [.cell 4 44, .tmp 5]) rfl (.cell rfl (hS.load_agg (p := 2) (us := [iV t_9.f.From, iV t_9.f.To, v_23]) rfl U44 rfl ti44 rfl rfl) (.tmp rfl .nil)) ⟨_, rfl, v_23, N_22, M_25, rfl, (Sep.sel hS [0, 1, 4] (by decide)), hr_24⟩
 ·rw [if_neg hc_8] at H
  refine c_cond_t h rfl (nt (Bool.eq_false_iff.2 hc_8)) <| wp_seq <| wp_region_lit <| s_build h rfl ti44 pl44 rfl .nil (cs := [iV 0, iV 0, nS]) (by kernel_rfl) fun a h=>?_
  obtain ⟨w_29, hs', hS'⟩ := hS.store (P := Try.prog) (p := 2) (o := 0) (t := 44) (v := .agg ([iV 0, iV 0, nS] : List Value).toArray) (vs := [iV 0, iV 0, nS]) rfl ti44 rfl rfl rfl (by intro u hu; simp only [List.mem_cons, List.not_mem_nil, or_false] at hu; rcases hu with rfl | rfl | rfl <;> rfl)
  refine s_store h rfl rfl hs' ?_
  replace hS : Sep w0 w_29 [_, _, _] Z := hS'
  clear hs' hS'
  refine s_assign h rfl rfl fun a h=>wpList_nil <| x_then_n <| wp_ret (x_then_r ?_)
  have hS' := hS.room
  replace hS : Sep w0 w_29 [_, _, _, Mem.no] Z := hS'
  clear hS'
  replace hS : Sep w0 w_29 [_, _, _, _] Z := hS
  obtain rfl := Option.some.inj H
  exact f_ret h (rs := [.cell 4 44, .tmp 5]) rfl (.cell rfl (hS.load_agg (p := 2) (us := [iV 0, iV 0, nS]) rfl U44 rfl ti44 rfl rfl) (.tmp rfl .nil)) ⟨_, rfl, nS, N_7, Mem.no, rfl, (Sep.sel hS [0, 1, 3] (by decide)), (Own.nil Kd.u8 5 Mem.no)⟩

set_option maxHeartbeats 4000000 in
set_option maxRecDepth 20000 in
theorem nets_Net_in.calls (g0 : Nat) (x0_n : Int) (x0_mask : Int) (x0_l : List nets_frame) (p0_0 : Value) (x1 : Int) (r : Bool) (w0 w : World) (Z A : Mem) (hA : A.le Z) (hS : Sep w0 w [Mem.one g0 (.cells ([iV x0_n, iV x0_mask, p0_0] : List Value).toArray 58 (0, 0))] Z) (hp0_0 : Rd k_nets_frame A p0_0 x0_l)
    (H : nets_Net_in.f x0_n x0_mask x0_l x1 = some r) :
    Calls Try.prog 33 [.pointer (some ⟨g0, 0, none⟩), iV x1].toArray w (Ret fun v w' => ∃ (N : Mem), v = .bool r ∧ Sep w0 w' [N, Mem.one g0 (.cells ([iV x0_n, iV x0_mask, p0_0] : List Value).toArray 58 (0, 0))] Z) := by
 unfold nets_Net_in.f at H
 refine f_enter _ Try.func33 rfl Try.ntmps33 rfl fun a h=>?_
 replace h : Fr 21 a [(0, .pointer (some ⟨g0, 0, none⟩)), (1, iV x1)] := h
 replace hS := hS.start
 replace hS : Sep w0 w [_, _] Z := hS
 refine wp_seq <| wp_region_lit <| s_assign h rfl rfl fun a h=>wpList_nil <| x_then_n <| c_seq fun KJ_1 hKJ_1 => wp_region_lit <| s_move h rfl rfl fun a h=>s_cmp (b := decide (x1 ≥ 0)) h rfl rfl rfl (.inr (.inr (.inr (.inr (.inr ⟨rfl, rfl⟩))))) fun a h=>s_move h rfl rfl fun a h=>?_
 by_cases hc_2 : x1 ≥ 0
 ·rw [if_pos hc_2] at H
  refine s_on h rfl rfl (decide_eq_true hc_2) <| s_move h rfl rfl fun a h=>s_on h rfl rfl (decide_eq_true hc_2) <| s_cmp (b := decide (x1 < 7)) h rfl rfl rfl (.inr (.inr (.inl ⟨rfl, rfl⟩))) fun a h=>s_pick_t h rfl rfl (decide_eq_true hc_2) rfl fun a h=>s_move h rfl rfl fun a h=>?_
  by_cases hc_3 : x1 < 7
  ·rw [if_pos hc_3] at H
   refine s_on h rfl rfl (decide_eq_true hc_3) <| s_move h rfl rfl fun a h=>s_on h rfl rfl (decide_eq_true hc_3) <| s_nilCheck h rfl rfl fun a h=>s_on h rfl rfl (decide_eq_true hc_3) <| s_fieldAddr h rfl U58 rfl ti3 rfl rfl fun a h=>s_on h rfl rfl (decide_eq_true hc_3) <| s_load h rfl rfl (hS.load_one (p := 1) rfl U3 rfl rfl) fun a h=>s_on h rfl rfl (decide_eq_true hc_3) <| s_move h rfl rfl fun a h=>s_on h rfl rfl (decide_eq_true hc_3) ?_
   obtain ⟨u_4, eu_4, H⟩ := Option.bind_eq_some_iff.1 H
   refine s_shift (r := shr .i64 x0_mask x1) h rfl rfl rfl (must_some eu_4) (.inr ⟨rfl, rfl⟩) fun a h=>s_on h rfl rfl (decide_eq_true hc_3) <| s_bits (i := shr .i64 x0_mask x1) (j := 1) (r := band .i64 (shr .i64 x0_mask x1) 1) h rfl rfl rfl (.inl ⟨rfl, rfl⟩) fun a h=>s_on h rfl rfl (decide_eq_true hc_3) <| s_cmp (b := ((band .i64 (shr .i64 x0_mask x1) 1) == 1)) h rfl rfl rfl (.inl ⟨rfl, rfl⟩) fun a h=>s_pick_t h rfl rfl (decide_eq_true hc_3) rfl fun a h=>s_assign h rfl rfl fun a h=>wpList_nil <| x_then_n (hKJ_1 _ _ ?_)
   refine wp_ret ?_
   obtain rfl := Option.some.inj H
   exact f_ret h (rs := [.tmp 4]) rfl (.tmp rfl .nil) ⟨_, rfl, Mem.no, rfl, (Sep.sel hS [0, 1] (by decide))⟩
  ·rw [if_neg hc_3] at H
   refine s_off h rfl rfl rfl (decide_eq_false hc_3) fun a h=>s_off h rfl rfl rfl (decide_eq_false hc_3) fun a h=>s_off h rfl rfl rfl (decide_eq_false hc_3) fun a h=>s_off h rfl rfl rfl (decide_eq_false hc_3) fun a h=>s_off h rfl rfl rfl (decide_eq_false hc_3) fun a h=>s_off h rfl rfl rfl (decide_eq_false hc_3) fun a h=>s_off h rfl rfl rfl (decide_eq_false hc_3) fun a h=>s_off h rfl rfl rfl (decide_eq_false hc_3) fun a h=>s_pick_f h rfl rfl (decide_eq_false hc_3) rfl fun a h=>s_assign h rfl rfl fun a h=>wpList_nil <| x_then_n (hKJ_1 _ _ ?_)
   refine wp_ret ?_
   obtain rfl := Option.some.inj H
   exact f_ret h (rs := [.tmp 4]) rfl (.tmp rfl .nil) ⟨_, rfl, Mem.no, rfl, (Sep.sel hS [0, 1] (by decide))⟩
 ·rw [if_neg hc_2] at H
  refine s_off h rfl rfl rfl (decide_eq_false hc_2) fun a h=>s_off h rfl rfl rfl (decide_eq_false hc_2) fun a h=>s_pick_f h rfl rfl (decide_eq_false hc_2) rfl fun a h=>s_move h rfl rfl fun a h=>s_off h rfl rfl rfl rfl fun a h=>s_off h rfl rfl rfl rfl fun a h=>s_off h rfl rfl rfl rfl fun a h=>s_off h rfl rfl rfl rfl fun a h=>s_off h rfl rfl rfl rfl fun a h=>s_off h rfl rfl rfl rfl fun a h=>s_off h rfl rfl rfl rfl fun a h=>s_off h rfl rfl rfl rfl fun a h=>?_
  refine s_pick_f h rfl rfl rfl rfl fun a h=>s_assign h rfl rfl fun a h=>wpList_nil <| x_then_n (hKJ_1 _ _ ?_)
  refine wp_ret ?_
  obtain rfl := Option.some.inj H
  exact f_ret h (rs := [.tmp 4]) rfl (.tmp rfl .nil) ⟨_, rfl, Mem.no, rfl, (Sep.sel hS [0, 1] (by decide))⟩

set_option maxHeartbeats 4000000 in
set_option maxRecDepth 20000 in
theorem nets_Net_Apart.calls (g0 : Nat) (x0_n : Int) (x0_mask : Int) (x0_l : List nets_frame) (p0_0 : Value) (x1 : Int) (x2 : Int) (r : Bool) (w0 w : World) (Z A : Mem) (hA : A.le Z) (hS : Sep w0 w [Mem.one g0 (.cells ([iV x0_n, iV x0_mask, p0_0] : List Value).toArray 58 (0, 0))] Z) (hp0_0 : Rd k_nets_frame A p0_0 x0_l)
    (H : nets_Net_Apart.f x0_n x0_mask x0_l x1 x2 = some r) :
    Calls Try.prog 20 [.pointer (some ⟨g0, 0, none⟩), iV x1, iV x2].toArray w (Ret fun v w' => ∃ (N : Mem), v = .bool r ∧ Sep w0 w' [N, Mem.one g0 (.cells ([iV x0_n, iV x0_mask, p0_0] : List Value).toArray 58 (0, 0))] Z) := by
 unfold nets_Net_Apart.f at H
 refine f_enter _ Try.func20 rfl Try.ntmps20 rfl fun a h=>?_
 replace h : Fr 21 a [(0, .pointer (some ⟨g0, 0, none⟩)), (1, iV x1), (2, iV x2)] := h
 replace hS := hS.start
 replace hS : Sep w0 w [_, _] Z := hS
 refine wp_seq <| wp_region_lit <| s_assign h rfl rfl fun a h=>wpList_nil <| x_then_n <| c_seq fun KJ_1 hKJ_1 => wp_region_lit <| s_move h rfl rfl fun a h=>s_nilCheck h rfl rfl fun a h=>s_fieldAddr h rfl U58 rfl ti3 rfl rfl fun a h=>s_load h rfl rfl (hS.load_one (p := 1) rfl U3 rfl rfl) fun a h=>s_cmp (b := (x0_mask != 0)) h rfl rfl rfl (.inr (.inl ⟨rfl, rfl⟩)) fun a h=>?_
 refine s_move h rfl rfl fun a h=>?_
 by_cases hc_2 : x0_mask = 0
 ·rw [if_pos hc_2] at H
  refine s_off h rfl rfl rfl (bne_eq_false_iff_eq.2 hc_2) fun a h=>s_off h rfl rfl rfl (bne_eq_false_iff_eq.2 hc_2) fun a h=>s_off h rfl rfl rfl (bne_eq_false_iff_eq.2 hc_2) fun a h=>s_off h rfl rfl rfl (bne_eq_false_iff_eq.2 hc_2) fun a h=>s_off h rfl rfl rfl (bne_eq_false_iff_eq.2 hc_2) fun a h=>s_off h rfl rfl rfl (bne_eq_false_iff_eq.2 hc_2) fun a h=>s_off h rfl rfl rfl (bne_eq_false_iff_eq.2 hc_2) fun a h=>s_pick_f h rfl rfl (bne_eq_false_iff_eq.2 hc_2) rfl fun a h=>s_assign h rfl rfl fun a h=>wpList_nil <| x_then_n (hKJ_1 _ _ ?_)
  refine wp_ret ?_
  obtain rfl := Option.some.inj H
  exact f_ret h (rs := [.tmp 6]) rfl (.tmp rfl .nil) ⟨_, rfl, Mem.no, rfl, (Sep.sel hS [0, 1] (by decide))⟩
 ·rw [if_neg hc_2] at H
  refine s_on h rfl rfl (bne_iff_ne.2 hc_2) <| s_move h rfl rfl fun a h=>s_on h rfl rfl (bne_iff_ne.2 hc_2) <| s_move h rfl rfl fun a h=>s_on h rfl rfl (bne_iff_ne.2 hc_2) ?_
  obtain ⟨t_3, et_3, H⟩ := Option.bind_eq_some_iff.1 H
  refine s_call h rfl Try.call33 rfl (nets_Net_in.calls _ x0_n x0_mask x0_l _ x1 t_3 w0 _ _ _ (Mem.le.refl _) (hS.enter [0] (by decide)) (hp0_0.mono (hA.trans (hS.le_zed [0]))) et_3) ?_
  rintro _ w_4 ⟨N_5, rfl, hS'⟩
  intro a h
  obtain ⟨N_6, hS'', le_6, ln_6⟩ := hS.call [0] (by decide) rfl (l' := [Mem.one g0 (.cells ([iV x0_n, iV x0_mask, p0_0] : List Value).toArray 58 (0, 0))]) (ow := []) rfl hS'
  replace hS : Sep w0 w_4 [N_6, _] Z := hS''
  clear hS' hS''
  refine s_on h rfl rfl (bne_iff_ne.2 hc_2) <| s_move h rfl rfl fun a h=>s_on h rfl rfl (bne_iff_ne.2 hc_2) <| s_move h rfl rfl fun a h=>s_on h rfl rfl (bne_iff_ne.2 hc_2) ?_
  obtain ⟨t_7, et_7, H⟩ := Option.bind_eq_some_iff.1 H
  refine s_call h rfl Try.call33 rfl (nets_Net_in.calls _ x0_n x0_mask x0_l _ x2 t_7 w0 _ _ _ (Mem.le.refl _) (hS.enter [0] (by decide)) (hp0_0.mono (hA.trans (hS.le_zed [0]))) et_7) ?_
  rintro _ w_8 ⟨N_9, rfl, hS'⟩
  intro a h
  obtain ⟨N_10, hS'', le_10, ln_10⟩ := hS.call [0] (by decide) rfl (l' := [Mem.one g0 (.cells ([iV x0_n, iV x0_mask, p0_0] : List Value).toArray 58 (0, 0))]) (ow := []) rfl hS'
  replace hS : Sep w0 w_8 [N_10, _] Z := hS''
  clear hS' hS''
  refine s_on h rfl rfl (bne_iff_ne.2 hc_2) <| s_beq (b := !(t_3 == t_7)) h rfl U4 rfl rfl (.inr ⟨rfl, rfl⟩) fun a h=>s_pick_t h rfl rfl (bne_iff_ne.2 hc_2) rfl fun a h=>s_assign h rfl rfl fun a h=>wpList_nil <| x_then_n (hKJ_1 _ _ ?_)
  refine wp_ret ?_
  obtain rfl := Option.some.inj H
  exact f_ret h (rs := [.tmp 6]) rfl (.tmp rfl .nil) ⟨_, rfl, N_10, rfl, (Sep.sel hS [0, 1] (by decide))⟩

set_option maxHeartbeats 4000000 in
set_option maxRecDepth 20000 in
theorem slices_Delete_shocket_nets_frame_hocket_nets_frame.calls (x0 : List nets_frame) (p0_0 : Value) (M0_0 : Mem) (x1 : Int) (x2 : Int) (r : (List nets_frame)) (w0 w : World) (Z A : Mem) (hA : A.le Z) (hS : Sep w0 w [M0_0] Z) (hp0_0 : Own k_nets_frame 60 M0_0 A p0_0 x0)
    (H : slices_Delete_shocket_nets_frame_hocket_nets_frame.f x0 x1 x2 = some r) :
    Calls Try.prog 40 [p0_0, iV x1, iV x2].toArray w (Ret fun v w' => ∃ (u0 : Value) (N : Mem) (M0 : Mem), v = u0 ∧ Sep w0 w' [N, Mem.no, M0] Z ∧ Own k_nets_frame 60 M0 (A.un N) u0 r) := by
 unfold slices_Delete_shocket_nets_frame_hocket_nets_frame.f at H
 refine f_enter _ Try.func40 rfl Try.ntmps40 rfl fun a h=>?_
 replace h : Fr 33 a [(0, p0_0), (1, iV x1), (2, iV x2)] := h
 replace hS := hS.start
 replace hS : Sep w0 w [_, _] Z := hS
 refine wp_seq <| wp_region_lit <| s_assign h rfl rfl fun a h=>wpList_nil <| x_then_n <| wp_seq <| wp_region_lit <| s_move h rfl rfl fun a h=>s_move h rfl rfl fun a h=>s_move h rfl rfl fun a h=>s_move h rfl rfl fun a h=>s_lenO h rfl U56 rfl hp0_0 fun a h=>?_
 obtain ⟨u_1, eu_1, H⟩ := Option.bind_eq_some_iff.1 H
 refine s_slice3 h rfl U56 ti60 rfl rfl rfl rfl hp0_0 (must_some eu_1) fun v_2 a h => wpList_nil <| x_then_n <| c_seq fun KJ_3 hKJ_3 => wp_seq <| wp_region_lit <| s_move h rfl rfl fun a h=>s_move h rfl rfl fun a h=>s_cmp (b := (x1 == x2)) h rfl rfl rfl (.inl ⟨rfl, rfl⟩) fun a h=>wpList_nil <| x_then_n ?_
 by_cases hc_4 : x1 = x2
 ·rw [if_pos hc_4] at H
  refine c_cond_t h rfl (beq_iff_eq.2 hc_4) <| wp_seq <| wp_region_lit <| s_move h rfl rfl fun a h=>s_assign h rfl rfl fun a h=>wpList_nil ?_
  replace h : Fr 33 a [(0, _), (1, _), (2, _), (6, p0_0)] := h.keep [0, 1, 2, 6]
  refine x_then_n <| wp_ret (x_then_r ?_)
  obtain rfl := Option.some.inj H
  exact f_ret h (rs := [.tmp 6]) rfl (.tmp rfl .nil) ⟨_, rfl, p0_0, Mem.no, M0_0, rfl, (Sep.sel hS [0, 1000, 1] (by decide)), (hp0_0.mono (Mem.le_un _ _))⟩
 ·rw [if_neg hc_4] at H
  refine c_cond_f h rfl (beq_eq_false_iff_ne.2 hc_4) <| wp_skip <| x_then_n (hKJ_3 _ _ ?_)
  refine wp_seq <| wp_region_lit <| s_move h rfl rfl fun a h=>s_lenO h rfl U56 rfl hp0_0 fun a h=>s_assign h rfl rfl fun a h=>wpList_nil ?_
  replace h : Fr 33 a [(0, _), (1, _), (2, _), (6, nS), (7, iV (x0.length : Int))] := h.keep [0, 1, 2, 6, 7]
  refine x_then_n <| c_seq fun KJ_5 hKJ_5 => h_begin (S := fun w => Sep w0 w [Mem.no, Mem.no] Z) 8 (by kernel_rfl) rfl (bA 8 0) (by kernel_rfl) hS fun w_6 hS => ?_
  replace hS : Sep w0 w_6 [_, _] Z := hS
  refine t_take 0 (bA 8 1) rfl rfl rfl rfl h (hS.sub (.cons (Mem.le.refl _) (.zz .ii))) (v := p0_0) (fun w hS => r_move h rfl) fun a h=>t_take 1 (bA 8 3) rfl rfl rfl rfl h (hS.sub (.cons (Mem.le.refl _) (.zz .ii))) (v := iV x1) (fun w hS => r_move h rfl) fun a h=>t_takeE 2 (bA 8 7) rfl rfl rfl rfl h (hS.sub (.cons (Mem.le.refl _) (.zz .ii))) (f := fun v => v) (r_piece h U56 ti60 rfl rfl hp0_0 (hp0_0.room) rfl rfl (by have := (must_some eu_1); (try simp only [List.length_append, List.length_take, List.length_drop]); omega)) fun v_7 hq_8 a h => t_take 3 (bA 8 15) rfl rfl rfl rfl h (hS.sub (.cons (Mem.le.refl _) (.zz .ii))) (v := p0_0) (fun w hS => r_move h rfl) fun a h=>t_take 4 (bA 8 31) rfl rfl rfl rfl h (hS.sub (.cons (Mem.le.refl _) (.zz .ii))) (v := iV x2) (fun w hS => r_move h rfl) fun a h=>t_takeE 5 (bA 8 63) rfl rfl rfl rfl h (hS.sub (.cons (Mem.le.refl _) (.zz .ii))) (f := fun v => v) (r_piece h U56 ti60 rfl rfl hp0_0 (hp0_0.room) rfl rfl (by have := (must_some eu_1); (try simp only [List.length_append, List.length_take, List.length_drop]); omega)) fun v_9 hq_10 a h => ?_
  refine h_event 6 (bA 8 127) rfl (by kernel_rfl) (by kernel_rfl) <| s_appendP (p := 1) h rfl U56 ti60 rfl rfl rfl hp0_0 (by simpa using hq_8) hq_10 (by have := (must_some eu_1); omega) (by have := (must_some eu_1); omega) hS rfl fun w_11 v_12 M_13 hS' ho_14 hr_15 a h => ?_
  replace hS : Sep w0 w_11 [_, M_13] Z := hS'
  clear hS'
  refine wpList_nil <| x_then_n ⟨(hS.sub (.cons (Mem.le.refl _) (.zz .ii))), ?_⟩
  refine t_take 7 (bA 8 255) rfl rfl rfl rfl h (hS.sub (.cons (Mem.le.refl _) (.zz .ii))) (v := v_12) (fun w hS => r_assign h rfl) fun a h=>h_done (by kernel_rfl) <| x_then_n (hKJ_5 _ _ ?_)
  refine wp_seq <| wp_region_lit <| s_move h rfl rfl fun a h=>s_move h rfl rfl fun a h=>s_lenO h rfl U56 rfl ho_14 fun a h=>s_move h rfl rfl fun a h=>s_piece h rfl U56 ti60 rfl rfl ho_14 (hr_15) rfl rfl (by have := (must_some eu_1); (try simp only [List.length_append, List.length_take, List.length_drop]); omega) fun v_17 hq_18 a h => s_clearP (p := 1) h U56 ti60 rfl (by intro u hu; simp only [List.mem_cons, List.not_mem_nil, or_false] at hu; rcases hu with rfl | rfl | rfl | rfl <;> rfl) rfl ho_14 hq_18 (Nat.le_of_eq (Int.toNat_natCast _).symm) hS rfl fun w_19 M_20 hS' ho_21 => ?_
  replace hS : Sep w0 w_19 [_, M_20] Z := hS'
  clear hS'
  refine wpList_nil <| x_then_n <| wp_seq <| wp_region_lit <| s_move h rfl rfl fun a h=>s_assign h rfl rfl fun a h=>wpList_nil <| x_then_n <| wp_ret ?_
  obtain rfl := Option.some.inj H
  exact f_ret h (rs := [.tmp 6]) rfl (.tmp rfl .nil) ⟨_, rfl, v_12, Mem.no, M_20, rfl, (Sep.sel hS [0, 1000, 1] (by decide)), (ho_21.mono (Mem.le_un _ _))⟩

set_option maxHeartbeats 4000000 in
set_option maxRecDepth 20000 in
theorem nets_Net_Drop.calls (g0 : Nat) (x0_n : Int) (x0_mask : Int) (x0_l : List nets_frame) (p0_0 : Value) (M0_0 : Mem) (x1 : Int) (r : Bool × Int × Int × (List nets_frame)) (w0 w : World) (Z A : Mem) (hA : A.le Z) (hS : Sep w0 w [Mem.one g0 (.cells ([iV x0_n, iV x0_mask, p0_0] : List Value).toArray 58 (0, 0)), M0_0] Z) (hp0_0 : Own k_nets_frame 60 M0_0 A p0_0 x0_l)
    (H : nets_Net_Drop.f x0_n x0_mask x0_l x1 = some r) :
    Calls Try.prog 24 [.pointer (some ⟨g0, 0, none⟩), iV x1].toArray w (Ret fun v w' => ∃ (u0 : Value) (N : Mem) (M100 : Mem), v = .bool r.1 ∧ Sep w0 w' [N, Mem.one g0 (.cells ([iV r.2.1, iV r.2.2.1, u0] : List Value).toArray 58 (0, 0)), M100] Z ∧ Own k_nets_frame 60 M100 (A.un N) u0 r.2.2.2) := by
 unfold nets_Net_Drop.f at H
 refine f_enter _ Try.func24 rfl Try.ntmps24 rfl fun a h=>?_
 replace h : Fr 20 a [(0, .pointer (some ⟨g0, 0, none⟩)), (1, iV x1)] := h
 replace hS := hS.start
 replace hS : Sep w0 w [_, _, _] Z := hS
 refine wp_seq <| wp_region_lit <| s_assign h rfl rfl fun a h=>wpList_nil <| x_then_n <| c_seq fun KJ_1 hKJ_1 => wp_seq <| wp_region_lit <| s_move h rfl rfl fun a h=>s_move h rfl rfl fun a h=>?_
 obtain ⟨t_2, et_2, H⟩ := Option.bind_eq_some_iff.1 H
 refine s_call h rfl Try.call29 rfl (nets_Net_has.calls _ x0_n x0_mask x0_l _ x1 t_2 w0 _ _ _ (Mem.le.refl _) (hS.enter [0] (by decide)) (hp0_0.rd (hS.own_zed [0] 1 (by decide)) (hA.trans (hS.le_zed [0]))) et_2) ?_
 rintro _ w_3 ⟨N_4, rfl, hS'⟩
 intro a h
 obtain ⟨N_5, hS'', le_5, ln_5⟩ := hS.call [0] (by decide) rfl (l' := [Mem.one g0 (.cells ([iV x0_n, iV x0_mask, p0_0] : List Value).toArray 58 (0, 0))]) (ow := []) rfl hS'
 replace hS : Sep w0 w_3 [N_5, _, _] Z := hS''
 clear hS' hS''
 refine s_not h rfl rfl fun a h=>wpList_nil <| x_then_n ?_
 by_cases hc_6 : t_2 = true
 ·rw [if_pos hc_6] at H
  refine c_cond_f h rfl (nf hc_6) <| wp_skip <| x_then_n (hKJ_1 _ _ ?_)
  refine wp_seq <| wp_region_lit <| s_move h rfl rfl fun a h=>s_move h rfl rfl fun a h=>s_nilCheck h rfl rfl fun a h=>s_fieldAddr h rfl U58 rfl ti56 rfl rfl fun a h=>s_load h rfl rfl (hS.load_one (p := 1) rfl U56 rfl rfl) fun a h=>s_move h rfl rfl fun a h=>s_move h rfl rfl fun a h=>s_arith (r := w64 (x1 + 1)) h rfl rfl rfl (.inl ⟨rfl, rfl⟩) fun a h=>?_
  obtain ⟨t_7, et_7, H⟩ := Option.bind_eq_some_iff.1 H
  refine s_call h rfl Try.call40 rfl (slices_Delete_shocket_nets_frame_hocket_nets_frame.calls x0_l _ _ x1 (w64 (x1 + 1)) t_7 w0 _ _ A (hA.trans (hS.le_zed [1])) (hS.enter [1] (by decide)) (hp0_0.mono (Mem.le.refl _)) et_7) ?_
  rintro v_11 w_8 ⟨_, N_9, M_13, rfl, hS', hr_12⟩
  intro a h
  obtain ⟨N_10, hS'', le_10, ln_10⟩ := hS.call [1] (by decide) rfl (l' := [Mem.no]) (ow := [M_13]) rfl hS'
  replace hS : Sep w0 w_8 [N_10, _, Mem.no, M_13] Z := hS''
  clear hS' hS''
  have hr_15 : Own k_nets_frame 60 M_13 (A.un N_10) v_11 t_7 := hr_12.mono (Mem.un_left ln_10)
  refine s_nilCheck h rfl rfl fun a h=>s_fieldAddr h rfl U58 rfl ti56 rfl rfl fun a h=>?_
  obtain ⟨w_16, hs', hS'⟩ := hS.store (P := Try.prog) (p := 1) (o := 2) (t := 56) (v := v_11) (vs := [v_11]) rfl ti56 hr_15.cellsA rfl rfl (by intro u hu; simp only [List.mem_cons, List.not_mem_nil, or_false] at hu; rcases hu with rfl <;> first | rfl | exact hr_15.one)
  refine s_store h rfl rfl hs' ?_
  replace hS : Sep w0 w_16 [_, Mem.one g0 (.cells ([_, _, v_11] : List Value).toArray 58 (0, 0)), _, _] Z := hS'
  clear hs' hS'
  refine wpList_nil <| x_then_n <| wp_seq <| wp_region_lit <| s_assign h rfl rfl fun a h=>wpList_nil ?_
  replace h : Fr 20 a [(4, .bool true)] := h.keep [4]
  refine x_then_n <| wp_ret ?_
  obtain rfl := Option.some.inj H
  exact f_ret h (rs := [.tmp 4]) rfl (.tmp rfl .nil) ⟨_, rfl, v_11, N_10, M_13, rfl, (Sep.sel hS [0, 1, 3] (by decide)), (hr_15.mono (Mem.un_left (Mem.le.refl _)))⟩
 ·rw [if_neg hc_6] at H
  refine c_cond_t h rfl (nt (Bool.eq_false_iff.2 hc_6)) <| wp_seq <| wp_region_lit <| s_assign h rfl rfl fun a h=>wpList_nil <| x_then_n <| wp_ret (x_then_r ?_)
  obtain rfl := Option.some.inj H
  exact f_ret h (rs := [.tmp 4]) rfl (.tmp rfl .nil) ⟨_, rfl, p0_0, N_5, M0_0, rfl, (Sep.sel hS [0, 1, 2] (by decide)), (hp0_0.mono (Mem.le_un _ _))⟩

set_option maxHeartbeats 4000000 in
set_option maxRecDepth 20000 in
theorem fram_Sound.calls (K : Nat) (x0 : List UInt8) (p0_0 : Value) (r : (List UInt8) × Bool) (w0 w : World) (Z A : Mem) (hA : A.le Z) (hS : Sep w0 w [] Z) (hp0_0 : Rd Kd.u8 A p0_0 x0)
    (H : fram_Sound.f K x0 = some r) :
    Calls Try.prog 43 [p0_0].toArray w (Ret fun v w' => ∃ (u0 : Value) (N : Mem), v = .tuple [u0, .bool r.2].toArray ∧ Sep w0 w' [N] Z ∧ Rd Kd.u8 (A.un N) u0 r.1) := by
 unfold fram_Sound.f at H
 refine f_enter _ Try.func43 rfl Try.ntmps43 rfl fun a h=>?_
 replace h : Fr 37 a [(0, p0_0)] := h
 replace hS := hS.start
 replace hS : Sep w0 w [_] Z := hS
 refine wp_seq <| wp_region_lit <| s_assign h rfl rfl fun a h=>s_assign h rfl rfl fun a h=>wpList_nil <| x_then_n <| c_seq fun KJ_1 hKJ_1 => wp_seq <| wp_region_lit <| s_move h rfl rfl fun a h=>s_len h rfl U26 rfl hp0_0 fun a h=>s_cmp (b := decide ((x0.length : Int) < 4)) h rfl rfl rfl (.inr (.inr (.inl ⟨rfl, rfl⟩))) fun a h=>?_
 refine wpList_nil <| x_then_n ?_
 by_cases hc_2 : (x0.length : Int) < 4
 ·rw [if_pos hc_2] at H
  refine c_cond_t h rfl (decide_eq_true hc_2) <| wp_seq <| wp_region_lit <| s_assign h rfl rfl fun a h=>s_assign h rfl rfl fun a h=>wpList_nil <| x_then_n <| wp_ret (x_then_r ?_)
  obtain rfl := Option.some.inj H
  exact f_ret h (rs := [.tmp 2, .tmp 3]) rfl (.tmp rfl (.tmp rfl .nil)) ⟨_, rfl, nS, Mem.no, rfl, (Sep.sel hS [0] (by decide)), (Rd.nil _ _)⟩
 ·rw [if_neg hc_2] at H
  refine c_cond_f h rfl (decide_eq_false hc_2) <| wp_skip <| x_then_n (hKJ_1 _ _ ?_)
  refine c_seq fun KJ_3 hKJ_3 => h_begin (S := fun w => Sep w0 w [Mem.no] Z) 23 (by kernel_rfl) rfl (bA 23 0) (by kernel_rfl) hS fun w_4 hS => ?_
  replace hS : Sep w0 w_4 [_] Z := hS
  refine t_take 0 (bA 23 1) rfl rfl rfl rfl h (hS.sub .ii) (v := p0_0) (fun w hS => r_move h rfl) fun a h=>?_
  obtain ⟨t_5, et_5, H⟩ := Option.bind_eq_some_iff.1 H
  refine t_takeE 1 (bA 23 3) rfl rfl rfl rfl h (hS.sub .ii) (f := fun ad => .pointer (some ad)) (r_index h U26 ti5 rfl rfl rfl hp0_0 et_5) ?_
  rintro ad_6 ⟨cs_7, hk_8, hc_9⟩
  obtain rfl := (show cs_7 = [.int .u8 (t_5.toNat : Int)] from hk_8)
  intro a h
  refine t_take 2 (bA 23 7) rfl rfl rfl rfl h (hS.sub .ii) (v := .int .u8 (t_5.toNat : Int)) (fun w hS => r_load h rfl (el_one (o := 0) (fun j c h => Mem.cell_le (hA.trans hS.old) (hc_9 j c h)) U5 rfl rfl)) fun a h=>t_take 3 (bA 23 15) rfl rfl rfl rfl h (hS.sub .ii) (v := .int .u32 ((toU32 (t_5.toNat : Int)).toNat : Int)) (fun w hS => r_conv (((toU32 (t_5.toNat : Int)).toNat : Int)) h U5 U71 rfl (wrap_u32 _).symm) fun a h=>t_take 4 (bA 23 31) rfl rfl rfl rfl h (hS.sub .ii) (v := p0_0) (fun w hS => r_move h rfl) fun a h=>?_
  obtain ⟨t_10, et_10, H⟩ := Option.bind_eq_some_iff.1 H
  refine t_takeE 5 (bA 23 63) rfl rfl rfl rfl h (hS.sub .ii) (f := fun ad => .pointer (some ad)) (r_index h U26 ti5 rfl rfl rfl hp0_0 et_10) ?_
  rintro ad_11 ⟨cs_12, hk_13, hc_14⟩
  obtain rfl := (show cs_12 = [.int .u8 (t_10.toNat : Int)] from hk_13)
  intro a h
  refine t_take 6 (bA 23 127) rfl rfl rfl rfl h (hS.sub .ii) (v := .int .u8 (t_10.toNat : Int)) (fun w hS => r_load h rfl (el_one (o := 0) (fun j c h => Mem.cell_le (hA.trans hS.old) (hc_14 j c h)) U5 rfl rfl)) fun a h=>t_take 7 (bA 23 255) rfl rfl rfl rfl h (hS.sub .ii) (v := .int .u32 ((toU32 (t_10.toNat : Int)).toNat : Int)) (fun w hS => r_conv (((toU32 (t_10.toNat : Int)).toNat : Int)) h U5 U71 rfl (wrap_u32 _).symm) fun a h=>t_take 8 (bA 23 511) rfl rfl rfl rfl h (hS.sub .ii) (v := .int .u32 ((toU32 (((toU32 (t_10.toNat : Int)).toNat : Int) * 2 ^ (min (8 : Int).toNat 32))).toNat : Int)) (fun w hS => r_shift (r := ((toU32 (((toU32 (t_10.toNat : Int)).toNat : Int) * 2 ^ (min (8 : Int).toNat 32))).toNat : Int)) h rfl rfl (by decide) (.inl ⟨rfl, (wrap_u32 _).symm⟩)) fun a h=>t_take 9 (bA 23 1023) rfl rfl rfl rfl h (hS.sub .ii) (v := .int .u32 (((toU32 (t_5.toNat : Int)) ||| (toU32 (((toU32 (t_10.toNat : Int)).toNat : Int) * 2 ^ (min (8 : Int).toNat 32)))).toNat : Int)) (fun w hS => r_bits (i := ((toU32 (t_5.toNat : Int)).toNat : Int)) (j := ((toU32 (((toU32 (t_10.toNat : Int)).toNat : Int) * 2 ^ (min (8 : Int).toNat 32))).toNat : Int)) (r := (((toU32 (t_5.toNat : Int)) ||| (toU32 (((toU32 (t_10.toNat : Int)).toNat : Int) * 2 ^ (min (8 : Int).toNat 32)))).toNat : Int)) h rfl rfl (.inr (.inl ⟨rfl, (bor32 _ _).symm⟩))) fun a h=>?_
  refine t_take 10 (bA 23 2047) rfl rfl rfl rfl h (hS.sub .ii) (v := p0_0) (fun w hS => r_move h rfl) fun a h=>?_
  obtain ⟨t_15, et_15, H⟩ := Option.bind_eq_some_iff.1 H
  refine t_takeE 11 (bA 23 4095) rfl rfl rfl rfl h (hS.sub .ii) (f := fun ad => .pointer (some ad)) (r_index h U26 ti5 rfl rfl rfl hp0_0 et_15) ?_
  rintro ad_16 ⟨cs_17, hk_18, hc_19⟩
  obtain rfl := (show cs_17 = [.int .u8 (t_15.toNat : Int)] from hk_18)
  intro a h
  refine t_take 12 (bA 23 8191) rfl rfl rfl rfl h (hS.sub .ii) (v := .int .u8 (t_15.toNat : Int)) (fun w hS => r_load h rfl (el_one (o := 0) (fun j c h => Mem.cell_le (hA.trans hS.old) (hc_19 j c h)) U5 rfl rfl)) fun a h=>t_take 13 (bA 23 16383) rfl rfl rfl rfl h (hS.sub .ii) (v := .int .u32 ((toU32 (t_15.toNat : Int)).toNat : Int)) (fun w hS => r_conv (((toU32 (t_15.toNat : Int)).toNat : Int)) h U5 U71 rfl (wrap_u32 _).symm) fun a h=>t_take 14 (bA 23 32767) rfl rfl rfl rfl h (hS.sub .ii) (v := .int .u32 ((toU32 (((toU32 (t_15.toNat : Int)).toNat : Int) * 2 ^ (min (16 : Int).toNat 32))).toNat : Int)) (fun w hS => r_shift (r := ((toU32 (((toU32 (t_15.toNat : Int)).toNat : Int) * 2 ^ (min (16 : Int).toNat 32))).toNat : Int)) h rfl rfl (by decide) (.inl ⟨rfl, (wrap_u32 _).symm⟩)) fun a h=>t_take 15 (bA 23 65535) rfl rfl rfl rfl h (hS.sub .ii) (v := .int .u32 ((((toU32 (t_5.toNat : Int)) ||| (toU32 (((toU32 (t_10.toNat : Int)).toNat : Int) * 2 ^ (min (8 : Int).toNat 32)))) ||| (toU32 (((toU32 (t_15.toNat : Int)).toNat : Int) * 2 ^ (min (16 : Int).toNat 32)))).toNat : Int)) (fun w hS => r_bits (i := (((toU32 (t_5.toNat : Int)) ||| (toU32 (((toU32 (t_10.toNat : Int)).toNat : Int) * 2 ^ (min (8 : Int).toNat 32)))).toNat : Int)) (j := ((toU32 (((toU32 (t_15.toNat : Int)).toNat : Int) * 2 ^ (min (16 : Int).toNat 32))).toNat : Int)) (r := ((((toU32 (t_5.toNat : Int)) ||| (toU32 (((toU32 (t_10.toNat : Int)).toNat : Int) * 2 ^ (min (8 : Int).toNat 32)))) ||| (toU32 (((toU32 (t_15.toNat : Int)).toNat : Int) * 2 ^ (min (16 : Int).toNat 32)))).toNat : Int)) h rfl rfl (.inr (.inl ⟨rfl, (bor32 _ _).symm⟩))) fun a h=>?_
  refine t_take 16 (bA 23 131071) rfl rfl rfl rfl h (hS.sub .ii) (v := p0_0) (fun w hS => r_move h rfl) fun a h=>?_
  obtain ⟨t_20, et_20, H⟩ := Option.bind_eq_some_iff.1 H
  refine t_takeE 17 (bA 23 262143) rfl rfl rfl rfl h (hS.sub .ii) (f := fun ad => .pointer (some ad)) (r_index h U26 ti5 rfl rfl rfl hp0_0 et_20) ?_
  rintro ad_21 ⟨cs_22, hk_23, hc_24⟩
  obtain rfl := (show cs_22 = [.int .u8 (t_20.toNat : Int)] from hk_23)
  intro a h
  refine t_take 18 (bA 23 524287) rfl rfl rfl rfl h (hS.sub .ii) (v := .int .u8 (t_20.toNat : Int)) (fun w hS => r_load h rfl (el_one (o := 0) (fun j c h => Mem.cell_le (hA.trans hS.old) (hc_24 j c h)) U5 rfl rfl)) fun a h=>t_take 19 (bA 23 1048575) rfl rfl rfl rfl h (hS.sub .ii) (v := .int .u32 ((toU32 (t_20.toNat : Int)).toNat : Int)) (fun w hS => r_conv (((toU32 (t_20.toNat : Int)).toNat : Int)) h U5 U71 rfl (wrap_u32 _).symm) fun a h=>t_take 20 (bA 23 2097151) rfl rfl rfl rfl h (hS.sub .ii) (v := .int .u32 ((toU32 (((toU32 (t_20.toNat : Int)).toNat : Int) * 2 ^ (min (24 : Int).toNat 32))).toNat : Int)) (fun w hS => r_shift (r := ((toU32 (((toU32 (t_20.toNat : Int)).toNat : Int) * 2 ^ (min (24 : Int).toNat 32))).toNat : Int)) h rfl rfl (by decide) (.inl ⟨rfl, (wrap_u32 _).symm⟩)) fun a h=>t_take 21 (bA 23 4194303) rfl rfl rfl rfl h (hS.sub .ii) (v := .int .u32 (((((toU32 (t_5.toNat : Int)) ||| (toU32 (((toU32 (t_10.toNat : Int)).toNat : Int) * 2 ^ (min (8 : Int).toNat 32)))) ||| (toU32 (((toU32 (t_15.toNat : Int)).toNat : Int) * 2 ^ (min (16 : Int).toNat 32)))) ||| (toU32 (((toU32 (t_20.toNat : Int)).toNat : Int) * 2 ^ (min (24 : Int).toNat 32)))).toNat : Int)) (fun w hS => r_bits (i := ((((toU32 (t_5.toNat : Int)) ||| (toU32 (((toU32 (t_10.toNat : Int)).toNat : Int) * 2 ^ (min (8 : Int).toNat 32)))) ||| (toU32 (((toU32 (t_15.toNat : Int)).toNat : Int) * 2 ^ (min (16 : Int).toNat 32)))).toNat : Int)) (j := ((toU32 (((toU32 (t_20.toNat : Int)).toNat : Int) * 2 ^ (min (24 : Int).toNat 32))).toNat : Int)) (r := (((((toU32 (t_5.toNat : Int)) ||| (toU32 (((toU32 (t_10.toNat : Int)).toNat : Int) * 2 ^ (min (8 : Int).toNat 32)))) ||| (toU32 (((toU32 (t_15.toNat : Int)).toNat : Int) * 2 ^ (min (16 : Int).toNat 32)))) ||| (toU32 (((toU32 (t_20.toNat : Int)).toNat : Int) * 2 ^ (min (24 : Int).toNat 32)))).toNat : Int)) h rfl rfl (.inr (.inl ⟨rfl, (bor32 _ _).symm⟩))) fun a h=>?_
  refine t_take 22 (bA 23 8388607) rfl rfl rfl rfl h (hS.sub .ii) (v := .int .u32 (((((toU32 (t_5.toNat : Int)) ||| (toU32 (((toU32 (t_10.toNat : Int)).toNat : Int) * 2 ^ (min (8 : Int).toNat 32)))) ||| (toU32 (((toU32 (t_15.toNat : Int)).toNat : Int) * 2 ^ (min (16 : Int).toNat 32)))) ||| (toU32 (((toU32 (t_20.toNat : Int)).toNat : Int) * 2 ^ (min (24 : Int).toNat 32)))).toNat : Int)) (fun w hS => r_assign h rfl) fun a h=>h_done (by kernel_rfl) <| x_then_n (hKJ_3 _ _ ?_)
  refine c_seq fun KJ_25 hKJ_25 => h_begin (S := fun w => Sep w0 w [Mem.no] Z) 9 (by kernel_rfl) rfl (bA 9 0) (by kernel_rfl) hS fun w_26 hS => ?_
  replace hS : Sep w0 w_26 [_] Z := hS
  refine t_take 0 (bA 9 1) rfl rfl rfl rfl h (hS.sub .ii) (v := p0_0) (fun w hS => r_move h rfl) fun a h=>?_
  obtain ⟨t_27, et_27, H⟩ := Option.bind_eq_some_iff.1 H
  refine t_takeE 1 (bA 9 3) rfl rfl rfl rfl h (hS.sub .ii) (f := fun v => v) (r_slice h U26 ti5 rfl rfl hp0_0 rfl rfl et_27) fun v_28 hr_29 a h => t_take 2 (bA 9 7) rfl rfl rfl rfl h (hS.sub .ii) (v := .int .u32 (((((toU32 (t_5.toNat : Int)) ||| (toU32 (((toU32 (t_10.toNat : Int)).toNat : Int) * 2 ^ (min (8 : Int).toNat 32)))) ||| (toU32 (((toU32 (t_15.toNat : Int)).toNat : Int) * 2 ^ (min (16 : Int).toNat 32)))) ||| (toU32 (((toU32 (t_20.toNat : Int)).toNat : Int) * 2 ^ (min (24 : Int).toNat 32)))).toNat : Int)) (fun w hS => r_move h rfl) fun a h=>t_take 3 (bA 9 15) rfl rfl rfl rfl h (hS.sub .ii) (v := p0_0) (fun w hS => r_move h rfl) fun a h=>?_
  obtain ⟨t_30, et_30, H⟩ := Option.bind_eq_some_iff.1 H
  refine t_takeE 4 (bA 9 31) rfl rfl rfl rfl h (hS.sub .ii) (f := fun v => v) (r_slice h U26 ti5 rfl rfl hp0_0 rfl rfl et_30) fun v_31 hr_32 a h => h_event 5 (bA 9 63) rfl (by kernel_rfl) (by kernel_rfl) ?_
  obtain ⟨t_33, et_33, H⟩ := Option.bind_eq_some_iff.1 H
  refine s_call h rfl Try.call59 rfl (crcs_Sum.calls K t_30 _ t_33 w0 _ _ _ (Mem.le.refl _) (hS.enter [] (by decide)) (hr_32.mono (hA.trans (hS.le_zed []))) et_33) ?_
  rintro _ w_34 ⟨N_35, rfl, hS'⟩
  intro a h
  obtain ⟨N_36, hS'', le_36, ln_36⟩ := hS.call [] (by decide) rfl (l' := []) (ow := []) rfl hS'
  replace hS : Sep w0 w_34 [N_36] Z := hS''
  clear hS' hS''
  refine wpList_nil <| x_then_n ⟨(hS.sub (.cons le_36 .ii)), ?_⟩
  refine t_take 6 (bA 9 127) rfl rfl rfl rfl h (hS.sub (.cons le_36 .ii)) (v := .bool ((((((toU32 (t_5.toNat : Int)) ||| (toU32 (((toU32 (t_10.toNat : Int)).toNat : Int) * 2 ^ (min (8 : Int).toNat 32)))) ||| (toU32 (((toU32 (t_15.toNat : Int)).toNat : Int) * 2 ^ (min (16 : Int).toNat 32)))) ||| (toU32 (((toU32 (t_20.toNat : Int)).toNat : Int) * 2 ^ (min (24 : Int).toNat 32)))).toNat : Int) == (t_33.toNat : Int))) (fun w hS => r_cmp (b := ((((((toU32 (t_5.toNat : Int)) ||| (toU32 (((toU32 (t_10.toNat : Int)).toNat : Int) * 2 ^ (min (8 : Int).toNat 32)))) ||| (toU32 (((toU32 (t_15.toNat : Int)).toNat : Int) * 2 ^ (min (16 : Int).toNat 32)))) ||| (toU32 (((toU32 (t_20.toNat : Int)).toNat : Int) * 2 ^ (min (24 : Int).toNat 32)))).toNat : Int) == (t_33.toNat : Int))) h rfl rfl (.inl ⟨rfl, rfl⟩)) fun a h=>t_take 7 (bA 9 255) rfl rfl rfl rfl h (hS.sub (.cons le_36 .ii)) (v := v_28) (fun w hS => r_assign h rfl) fun a h=>t_take 8 (bA 9 511) rfl rfl rfl rfl h (hS.sub (.cons le_36 .ii)) (v := .bool ((((((toU32 (t_5.toNat : Int)) ||| (toU32 (((toU32 (t_10.toNat : Int)).toNat : Int) * 2 ^ (min (8 : Int).toNat 32)))) ||| (toU32 (((toU32 (t_15.toNat : Int)).toNat : Int) * 2 ^ (min (16 : Int).toNat 32)))) ||| (toU32 (((toU32 (t_20.toNat : Int)).toNat : Int) * 2 ^ (min (24 : Int).toNat 32)))).toNat : Int) == (t_33.toNat : Int))) (fun w hS => r_assign h rfl) fun a h=>?_
  refine h_done (by kernel_rfl) ?_
  replace h : Fr 37 a [(2, v_28), (3, .bool ((((((toU32 (t_5.toNat : Int)) ||| (toU32 (((toU32 (t_10.toNat : Int)).toNat : Int) * 2 ^ (min (8 : Int).toNat 32)))) ||| (toU32 (((toU32 (t_15.toNat : Int)).toNat : Int) * 2 ^ (min (16 : Int).toNat 32)))) ||| (toU32 (((toU32 (t_20.toNat : Int)).toNat : Int) * 2 ^ (min (24 : Int).toNat 32)))).toNat : Int) == (t_33.toNat : Int)))] := h.keep [2, 3]
  refine x_then_n (hKJ_25 _ _ ?_)
  refine wp_ret ?_
  obtain rfl := Option.some.inj H
  exact f_ret h (rs := [.tmp 2, .tmp 3]) rfl (.tmp rfl (.tmp rfl .nil)) ⟨_, rfl, v_28, N_36, rfl, (Sep.sel hS [0] (by decide)), (hr_29.mono (Mem.le_un _ _))⟩

set_option maxHeartbeats 4000000 in
set_option maxRecDepth 20000 in
theorem mesg_Decode.calls (K : Nat) (x0 : List UInt8) (p0_0 : Value) (r : api_Msg × Bool) (w0 w : World) (Z A : Mem) (hA : A.le Z) (hS : Sep w0 w [] Z) (hp0_0 : Rd Kd.u8 A p0_0 x0)
    (H : mesg_Decode.f K x0 = some r) :
    Calls Try.prog 44 [p0_0].toArray w (Ret fun v w' => ∃ (u0 : Value) (u1 : Value) (u2 : Value) (u3 : Value) (u4 : Value) (u5 : Value) (N : Mem) (M0 : Mem) (M1 : Mem) (M2 : Mem) (M3 : Mem) (M4 : Mem) (M5 : Mem), v = .tuple [.agg [iV r.1.Kind, iV r.1.From, iV r.1.To, iV r.1.View, iV r.1.Inst, iV r.1.Len, .bool r.1.Has, iV r.1.Members, iV r.1.Source, iV r.1.At, iV r.1.Total, u0, iV r.1.Hop, iV r.1.Seq, u1, u2, iV r.1.Index, iV r.1.Entry.Sess, iV r.1.Entry.Seq, iV r.1.Entry.Cmd.Kind, iV r.1.Entry.Cmd.Who, u3, u4, u5].toArray, .bool r.2].toArray ∧ Sep w0 w' [N, M0, M1, M2, M3, M4, M5] Z ∧ Own Kd.u8 5 M0 Mem.no u0 r.1.Data ∧ Own (Kd.int .i64) 3 M1 Mem.no u1 r.1.Have ∧ Own (Kd.int .i64) 3 M2 Mem.no u2 r.1.Need ∧ Own Kd.u8 5 M3 Mem.no u3 r.1.Entry.Cmd.Key ∧ Own Kd.u8 5 M4 Mem.no u4 r.1.Entry.Cmd.Val ∧ Own Kd.u8 5 M5 Mem.no u5 r.1.Entry.Cmd.Old) := by
 unfold mesg_Decode.f at H
 refine f_enter _ Try.func44 rfl Try.ntmps44 rfl fun a h=>?_
 replace h : Fr 15 a [(0, p0_0)] := h
 replace hS := hS.start
 replace hS : Sep w0 w [_] Z := hS
 refine wp_seq <| wp_region_lit <| v_alloc h rfl ti32 hS fun w_1 g_2 hS' a h => ?_
 replace hS : Sep w0 w_1 [_, Mem.one g_2 (.cells ([iV 0, iV 0, iV 0, iV 0, iV 0, iV 0, .bool false, iV 0, iV 0, iV 0, iV 0, nS, iV 0, iV 0, nS, nS, iV 0, iV 0, iV 0, iV 0, iV 0, nS, nS, nS] : List Value).toArray 32 (0, 0))] Z := hS'
 clear hS'
 refine s_assign h rfl rfl fun a h=>wpList_nil <| x_then_n <| wp_seq <| wp_region_lit <| s_move h rfl rfl fun a h=>?_
 obtain ⟨t_3, et_3, H⟩ := Option.bind_eq_some_iff.1 H
 refine s_call h rfl Try.call57 rfl (mesg_read.calls K x0 _ t_3 w0 _ _ _ (Mem.le.refl _) (hS.enter [] (by decide)) (hp0_0.mono (hA.trans (hS.le_zed []))) et_3) ?_
 rintro _ w_4 ⟨v_7, v_11, v_15, v_19, v_23, v_27, N_5, M_9, M_13, M_17, M_21, M_25, M_29, rfl, hS', hr_8, hr_12, hr_16, hr_20, hr_24, hr_28⟩
 intro a h
 obtain ⟨N_6, hS'', le_6, ln_6⟩ := hS.call [] (by decide) rfl (l' := []) (ow := [M_9, M_13, M_17, M_21, M_25, M_29]) rfl hS'
 replace hS : Sep w0 w_4 [N_6, _, M_9, M_13, M_17, M_21, M_25, M_29] Z := hS''
 clear hS' hS''
 refine s_move h rfl rfl fun a h=>s_extract h rfl rfl rfl fun a h=>s_extract h rfl rfl rfl fun a h=>v_alloc h rfl ti32 hS fun w_31 g_32 hS' a h => ?_
 replace hS : Sep w0 w_31 [_, _, _, _, _, _, _, _, Mem.one g_32 (.cells ([iV 0, iV 0, iV 0, iV 0, iV 0, iV 0, .bool false, iV 0, iV 0, iV 0, iV 0, nS, iV 0, iV 0, nS, nS, iV 0, iV 0, iV 0, iV 0, iV 0, nS, nS, nS] : List Value).toArray 32 (0, 0))] Z := hS'
 clear hS'
 obtain ⟨w_33, hs', hS'⟩ := hS.store (P := Try.prog) (p := 8) (o := 0) (t := 32) (v := .agg ([iV t_3.1.Kind, iV t_3.1.From, iV t_3.1.To, iV t_3.1.View, iV t_3.1.Inst, iV t_3.1.Len, .bool t_3.1.Has, iV t_3.1.Members, iV t_3.1.Source, iV t_3.1.At, iV t_3.1.Total, v_7, iV t_3.1.Hop, iV t_3.1.Seq, v_11, v_15, iV t_3.1.Index, iV t_3.1.Entry.Sess, iV t_3.1.Entry.Seq, iV t_3.1.Entry.Cmd.Kind, iV t_3.1.Entry.Cmd.Who, v_19, v_23, v_27] : List Value).toArray) (vs := [iV t_3.1.Kind, iV t_3.1.From, iV t_3.1.To, iV t_3.1.View, iV t_3.1.Inst, iV t_3.1.Len, .bool t_3.1.Has, iV t_3.1.Members, iV t_3.1.Source, iV t_3.1.At, iV t_3.1.Total, v_7, iV t_3.1.Hop, iV t_3.1.Seq, v_11, v_15, iV t_3.1.Index, iV t_3.1.Entry.Sess, iV t_3.1.Entry.Seq, iV t_3.1.Entry.Cmd.Kind, iV t_3.1.Entry.Cmd.Who, v_19, v_23, v_27]) rfl ti32 rfl rfl rfl (by intro u hu; simp only [List.mem_cons, List.not_mem_nil, or_false] at hu; rcases hu with rfl | rfl | rfl | rfl | rfl | rfl | rfl | rfl | rfl | rfl | rfl | rfl | rfl | rfl | rfl | rfl | rfl | rfl | rfl | rfl | rfl | rfl | rfl | rfl <;> first | rfl | exact hr_8.one | exact hr_12.one | exact hr_16.one | exact hr_20.one | exact hr_24.one | exact hr_28.one)
 refine s_store h rfl rfl hs' ?_
 replace hS : Sep w0 w_33 [_, _, _, _, _, _, _, _, Mem.one g_32 (.cells ([iV t_3.1.Kind, iV t_3.1.From, iV t_3.1.To, iV t_3.1.View, iV t_3.1.Inst, iV t_3.1.Len, .bool t_3.1.Has, iV t_3.1.Members, iV t_3.1.Source, iV t_3.1.At, iV t_3.1.Total, v_7, iV t_3.1.Hop, iV t_3.1.Seq, v_11, v_15, iV t_3.1.Index, iV t_3.1.Entry.Sess, iV t_3.1.Entry.Seq, iV t_3.1.Entry.Cmd.Kind, iV t_3.1.Entry.Cmd.Who, v_19, v_23, v_27] : List Value).toArray 32 (0, 0))] Z := hS'
 clear hs' hS'
 refine s_assign h rfl rfl fun a h=>wpList_nil <| x_then_n <| c_seq fun KJ_34 hKJ_34 => wp_seq <| wp_region_lit <| s_move h rfl rfl fun a h=>s_not h rfl rfl fun a h=>wpList_nil <| x_then_n ?_
 by_cases hc_35 : t_3.2 = true
 ·rw [if_pos hc_35] at H
  refine c_cond_f h rfl (nf hc_35) <| wp_skip <| x_then_n (hKJ_34 _ _ ?_)
  refine wp_seq <| wp_region_lit <| s_load h rfl rfl (hS.load_agg (p := 8) (us := [iV t_3.1.Kind, iV t_3.1.From, iV t_3.1.To, iV t_3.1.View, iV t_3.1.Inst, iV t_3.1.Len, .bool t_3.1.Has, iV t_3.1.Members, iV t_3.1.Source, iV t_3.1.At, iV t_3.1.Total, v_7, iV t_3.1.Hop, iV t_3.1.Seq, v_11, v_15, iV t_3.1.Index, iV t_3.1.Entry.Sess, iV t_3.1.Entry.Seq, iV t_3.1.Entry.Cmd.Kind, iV t_3.1.Entry.Cmd.Who, v_19, v_23, v_27]) rfl U32 rfl ti32 rfl rfl) fun a h=>?_
  obtain ⟨w_36, hs', hS'⟩ := hS.store (P := Try.prog) (p := 1) (o := 0) (t := 32) (v := .agg ([iV t_3.1.Kind, iV t_3.1.From, iV t_3.1.To, iV t_3.1.View, iV t_3.1.Inst, iV t_3.1.Len, .bool t_3.1.Has, iV t_3.1.Members, iV t_3.1.Source, iV t_3.1.At, iV t_3.1.Total, v_7, iV t_3.1.Hop, iV t_3.1.Seq, v_11, v_15, iV t_3.1.Index, iV t_3.1.Entry.Sess, iV t_3.1.Entry.Seq, iV t_3.1.Entry.Cmd.Kind, iV t_3.1.Entry.Cmd.Who, v_19, v_23, v_27] : List Value).toArray) (vs := [iV t_3.1.Kind, iV t_3.1.From, iV t_3.1.To, iV t_3.1.View, iV t_3.1.Inst, iV t_3.1.Len, .bool t_3.1.Has, iV t_3.1.Members, iV t_3.1.Source, iV t_3.1.At, iV t_3.1.Total, v_7, iV t_3.1.Hop, iV t_3.1.Seq, v_11, v_15, iV t_3.1.Index, iV t_3.1.Entry.Sess, iV t_3.1.Entry.Seq, iV t_3.1.Entry.Cmd.Kind, iV t_3.1.Entry.Cmd.Who, v_19, v_23, v_27]) rfl ti32 rfl rfl rfl (by intro u hu; simp only [List.mem_cons, List.not_mem_nil, or_false] at hu; rcases hu with rfl | rfl | rfl | rfl | rfl | rfl | rfl | rfl | rfl | rfl | rfl | rfl | rfl | rfl | rfl | rfl | rfl | rfl | rfl | rfl | rfl | rfl | rfl | rfl <;> first | rfl | exact hr_8.one | exact hr_12.one | exact hr_16.one | exact hr_20.one | exact hr_24.one | exact hr_28.one)
  refine s_store h rfl rfl hs' ?_
  replace hS : Sep w0 w_36 [_, Mem.one g_2 (.cells ([iV t_3.1.Kind, iV t_3.1.From, iV t_3.1.To, iV t_3.1.View, iV t_3.1.Inst, iV t_3.1.Len, .bool t_3.1.Has, iV t_3.1.Members, iV t_3.1.Source, iV t_3.1.At, iV t_3.1.Total, v_7, iV t_3.1.Hop, iV t_3.1.Seq, v_11, v_15, iV t_3.1.Index, iV t_3.1.Entry.Sess, iV t_3.1.Entry.Seq, iV t_3.1.Entry.Cmd.Kind, iV t_3.1.Entry.Cmd.Who, v_19, v_23, v_27] : List Value).toArray 32 (0, 0)), _, _, _, _, _, _, _] Z := hS'
  clear hs' hS'
  refine s_assign h rfl rfl fun a h=>wpList_nil ?_
  replace h : Fr 15 a [(2, .pointer (some ⟨g_2, 0, none⟩)), (3, .bool true)] := h.keep [2, 3]
  refine x_then_n <| wp_ret ?_
  obtain rfl := Option.some.inj H
  exact f_ret h (rs := [.cell 2 32, .tmp 3]) rfl (.cell rfl (hS.load_agg (p := 1) (us := [iV t_3.1.Kind, iV t_3.1.From, iV t_3.1.To, iV t_3.1.View, iV t_3.1.Inst, iV t_3.1.Len, .bool t_3.1.Has, iV t_3.1.Members, iV t_3.1.Source, iV t_3.1.At, iV t_3.1.Total, v_7, iV t_3.1.Hop, iV t_3.1.Seq, v_11, v_15, iV t_3.1.Index, iV t_3.1.Entry.Sess, iV t_3.1.Entry.Seq, iV t_3.1.Entry.Cmd.Kind, iV t_3.1.Entry.Cmd.Who, v_19, v_23, v_27]) rfl U32 rfl ti32 rfl rfl) (.tmp rfl .nil)) ⟨_, rfl, v_7, v_11, v_15, v_19, v_23, v_27, N_6, M_9, M_13, M_17, M_21, M_25, M_29, rfl, (Sep.sel hS [0, 2, 3, 4, 5, 6, 7] (by decide)), hr_8, hr_12, hr_16, hr_20, hr_24, hr_28⟩
 ·rw [if_neg hc_35] at H
  refine c_cond_t h rfl (nt (Bool.eq_false_iff.2 hc_35)) <| wp_seq <| wp_region_lit <| s_build h rfl ti32 pl32 rfl .nil (cs := [iV 0, iV 0, iV 0, iV 0, iV 0, iV 0, .bool false, iV 0, iV 0, iV 0, iV 0, nS, iV 0, iV 0, nS, nS, iV 0, iV 0, iV 0, iV 0, iV 0, nS, nS, nS]) (by kernel_rfl) fun a h=>?_
  obtain ⟨w_37, hs', hS'⟩ := hS.store (P := Try.prog) (p := 1) (o := 0) (t := 32) (v := .agg ([iV 0, iV 0, iV 0, iV 0, iV 0, iV 0, .bool false, iV 0, iV 0, iV 0, iV 0, nS, iV 0, iV 0, nS, nS, iV 0, iV 0, iV 0, iV 0, iV 0, nS, nS, nS] : List Value).toArray) (vs := [iV 0, iV 0, iV 0, iV 0, iV 0, iV 0, .bool false, iV 0, iV 0, iV 0, iV 0, nS, iV 0, iV 0, nS, nS, iV 0, iV 0, iV 0, iV 0, iV 0, nS, nS, nS]) rfl ti32 rfl rfl rfl (by intro u hu; simp only [List.mem_cons, List.not_mem_nil, or_false] at hu; rcases hu with rfl | rfl | rfl | rfl | rfl | rfl | rfl | rfl | rfl | rfl | rfl | rfl | rfl | rfl | rfl | rfl | rfl | rfl | rfl | rfl | rfl | rfl | rfl | rfl <;> rfl)
  refine s_store h rfl rfl hs' ?_
  replace hS : Sep w0 w_37 [_, _, _, _, _, _, _, _, _] Z := hS'
  clear hs' hS'
  refine s_assign h rfl rfl fun a h=>wpList_nil ?_
  replace h : Fr 15 a [(2, .pointer (some ⟨g_2, 0, none⟩)), (3, .bool false), (4, .pointer (some ⟨g_32, 0, none⟩))] := h.keep [2, 3, 4]
  refine x_then_n <| wp_ret (x_then_r ?_)
  have hS' := hS.room
  replace hS : Sep w0 w_37 [_, _, _, _, _, _, _, _, _, Mem.no] Z := hS'
  clear hS'
  replace hS : Sep w0 w_37 [_, _, _, _, _, _, _, _, _, _] Z := hS
  have hS' := hS.room
  replace hS : Sep w0 w_37 [_, _, _, _, _, _, _, _, _, _, Mem.no] Z := hS'
  clear hS'
  replace hS : Sep w0 w_37 [_, _, _, _, _, _, _, _, _, _, _] Z := hS
  have hS' := hS.room
  replace hS : Sep w0 w_37 [_, _, _, _, _, _, _, _, _, _, _, Mem.no] Z := hS'
  clear hS'
  replace hS : Sep w0 w_37 [_, _, _, _, _, _, _, _, _, _, _, _] Z := hS
  have hS' := hS.room
  replace hS : Sep w0 w_37 [_, _, _, _, _, _, _, _, _, _, _, _, Mem.no] Z := hS'
  clear hS'
  replace hS : Sep w0 w_37 [_, _, _, _, _, _, _, _, _, _, _, _, _] Z := hS
  have hS' := hS.room
  replace hS : Sep w0 w_37 [_, _, _, _, _, _, _, _, _, _, _, _, _, Mem.no] Z := hS'
  clear hS'
  replace hS : Sep w0 w_37 [_, _, _, _, _, _, _, _, _, _, _, _, _, _] Z := hS
  have hS' := hS.room
  replace hS : Sep w0 w_37 [_, _, _, _, _, _, _, _, _, _, _, _, _, _, Mem.no] Z := hS'
  clear hS'
  replace hS : Sep w0 w_37 [_, _, _, _, _, _, _, _, _, _, _, _, _, _, _] Z := hS
  obtain rfl := Option.some.inj H
  exact f_ret h (rs := [.cell 2 32, .tmp 3]) rfl (.cell rfl (hS.load_agg (p := 1) (us := [iV 0, iV 0, iV 0, iV 0, iV 0, iV 0, .bool false, iV 0, iV 0, iV 0, iV 0, nS, iV 0, iV 0, nS, nS, iV 0, iV 0, iV 0, iV 0, iV 0, nS, nS, nS]) rfl U32 rfl ti32 rfl rfl) (.tmp rfl .nil)) ⟨_, rfl, nS, nS, nS, nS, nS, nS, N_6, Mem.no, Mem.no, Mem.no, Mem.no, Mem.no, Mem.no, rfl, (Sep.sel hS [0, 9, 10, 11, 12, 13, 14] (by decide)), (Own.nil Kd.u8 5 Mem.no), (Own.nil (Kd.int .i64) 3 Mem.no), (Own.nil (Kd.int .i64) 3 Mem.no), (Own.nil Kd.u8 5 Mem.no), (Own.nil Kd.u8 5 Mem.no), (Own.nil Kd.u8 5 Mem.no)⟩

set_option maxHeartbeats 4000000 in
set_option maxRecDepth 20000 in
theorem fram_Open.calls (K : Nat) (x0 : List UInt8) (p0_0 : Value) (r : api_Msg × Bool) (w0 w : World) (Z A : Mem) (hA : A.le Z) (hS : Sep w0 w [] Z) (hp0_0 : Rd Kd.u8 A p0_0 x0)
    (H : fram_Open.f K x0 = some r) :
    Calls Try.prog 27 [p0_0].toArray w (Ret fun v w' => ∃ (u0 : Value) (u1 : Value) (u2 : Value) (u3 : Value) (u4 : Value) (u5 : Value) (N : Mem) (M0 : Mem) (M1 : Mem) (M2 : Mem) (M3 : Mem) (M4 : Mem) (M5 : Mem), v = .tuple [.agg [iV r.1.Kind, iV r.1.From, iV r.1.To, iV r.1.View, iV r.1.Inst, iV r.1.Len, .bool r.1.Has, iV r.1.Members, iV r.1.Source, iV r.1.At, iV r.1.Total, u0, iV r.1.Hop, iV r.1.Seq, u1, u2, iV r.1.Index, iV r.1.Entry.Sess, iV r.1.Entry.Seq, iV r.1.Entry.Cmd.Kind, iV r.1.Entry.Cmd.Who, u3, u4, u5].toArray, .bool r.2].toArray ∧ Sep w0 w' [N, M0, M1, M2, M3, M4, M5] Z ∧ Own Kd.u8 5 M0 Mem.no u0 r.1.Data ∧ Own (Kd.int .i64) 3 M1 Mem.no u1 r.1.Have ∧ Own (Kd.int .i64) 3 M2 Mem.no u2 r.1.Need ∧ Own Kd.u8 5 M3 Mem.no u3 r.1.Entry.Cmd.Key ∧ Own Kd.u8 5 M4 Mem.no u4 r.1.Entry.Cmd.Val ∧ Own Kd.u8 5 M5 Mem.no u5 r.1.Entry.Cmd.Old) := by
 unfold fram_Open.f at H
 refine f_enter _ Try.func27 rfl Try.ntmps27 rfl fun a h=>?_
 replace h : Fr 26 a [(0, p0_0)] := h
 replace hS := hS.start
 replace hS : Sep w0 w [_] Z := hS
 refine wp_seq <| wp_region_lit <| v_alloc h rfl ti32 hS fun w_1 g_2 hS' a h => ?_
 replace hS : Sep w0 w_1 [_, Mem.one g_2 (.cells ([iV 0, iV 0, iV 0, iV 0, iV 0, iV 0, .bool false, iV 0, iV 0, iV 0, iV 0, nS, iV 0, iV 0, nS, nS, iV 0, iV 0, iV 0, iV 0, iV 0, nS, nS, nS] : List Value).toArray 32 (0, 0))] Z := hS'
 clear hS'
 refine s_assign h rfl rfl fun a h=>wpList_nil <| x_then_n <| wp_seq <| wp_region_lit <| s_move h rfl rfl fun a h=>?_
 obtain ⟨t_3, et_3, H⟩ := Option.bind_eq_some_iff.1 H
 refine s_call h rfl Try.call43 rfl (fram_Sound.calls K x0 _ t_3 w0 _ _ A (hA.trans (hS.le_zed [])) (hS.enter [] (by decide)) hp0_0 et_3) ?_
 rintro _ w_4 ⟨v_7, N_5, rfl, hS', hr_8⟩
 intro a h
 obtain ⟨N_6, hS'', le_6, ln_6⟩ := hS.call [] (by decide) rfl (l' := []) (ow := []) rfl hS'
 replace hS : Sep w0 w_4 [N_6, _] Z := hS''
 clear hS' hS''
 have hr_9 : Rd Kd.u8 (A.un N_6) v_7 t_3.1 := hr_8.mono (Mem.un_left ln_6)
 refine s_move h rfl rfl fun a h=>s_extract h rfl rfl rfl fun a h=>s_extract h rfl rfl rfl fun a h=>s_assign h rfl rfl fun a h=>s_assign h rfl rfl fun a h=>wpList_nil <| x_then_n <| wp_seq <| wp_region_lit <| s_move h rfl rfl fun a h=>?_
 obtain ⟨t_10, et_10, H⟩ := Option.bind_eq_some_iff.1 H
 refine s_call h rfl Try.call44 rfl (mesg_Decode.calls K t_3.1 _ t_10 w0 _ _ _ (Mem.le.refl _) (hS.enter [] (by decide)) (hr_9.mono (Mem.un_le (hA.trans (hS.le_zed [])) ((Mem.le.refl _).trans (hS.new_zed [])))) et_10) ?_
 rintro _ w_11 ⟨v_14, v_18, v_22, v_26, v_30, v_34, N_12, M_16, M_20, M_24, M_28, M_32, M_36, rfl, hS', hr_15, hr_19, hr_23, hr_27, hr_31, hr_35⟩
 intro a h
 obtain ⟨N_13, hS'', le_13, ln_13⟩ := hS.call [] (by decide) rfl (l' := []) (ow := [M_16, M_20, M_24, M_28, M_32, M_36]) rfl hS'
 replace hS : Sep w0 w_11 [N_13, _, M_16, M_20, M_24, M_28, M_32, M_36] Z := hS''
 clear hS' hS''
 refine s_move h rfl rfl fun a h=>s_extract h rfl rfl rfl fun a h=>s_extract h rfl rfl rfl fun a h=>v_alloc h rfl ti32 hS fun w_38 g_39 hS' a h => ?_
 replace hS : Sep w0 w_38 [_, _, _, _, _, _, _, _, Mem.one g_39 (.cells ([iV 0, iV 0, iV 0, iV 0, iV 0, iV 0, .bool false, iV 0, iV 0, iV 0, iV 0, nS, iV 0, iV 0, nS, nS, iV 0, iV 0, iV 0, iV 0, iV 0, nS, nS, nS] : List Value).toArray 32 (0, 0))] Z := hS'
 clear hS'
 obtain ⟨w_40, hs', hS'⟩ := hS.store (P := Try.prog) (p := 8) (o := 0) (t := 32) (v := .agg ([iV t_10.1.Kind, iV t_10.1.From, iV t_10.1.To, iV t_10.1.View, iV t_10.1.Inst, iV t_10.1.Len, .bool t_10.1.Has, iV t_10.1.Members, iV t_10.1.Source, iV t_10.1.At, iV t_10.1.Total, v_14, iV t_10.1.Hop, iV t_10.1.Seq, v_18, v_22, iV t_10.1.Index, iV t_10.1.Entry.Sess, iV t_10.1.Entry.Seq, iV t_10.1.Entry.Cmd.Kind, iV t_10.1.Entry.Cmd.Who, v_26, v_30, v_34] : List Value).toArray) (vs := [iV t_10.1.Kind, iV t_10.1.From, iV t_10.1.To, iV t_10.1.View, iV t_10.1.Inst, iV t_10.1.Len, .bool t_10.1.Has, iV t_10.1.Members, iV t_10.1.Source, iV t_10.1.At, iV t_10.1.Total, v_14, iV t_10.1.Hop, iV t_10.1.Seq, v_18, v_22, iV t_10.1.Index, iV t_10.1.Entry.Sess, iV t_10.1.Entry.Seq, iV t_10.1.Entry.Cmd.Kind, iV t_10.1.Entry.Cmd.Who, v_26, v_30, v_34]) rfl ti32 rfl rfl rfl (by intro u hu; simp only [List.mem_cons, List.not_mem_nil, or_false] at hu; rcases hu with rfl | rfl | rfl | rfl | rfl | rfl | rfl | rfl | rfl | rfl | rfl | rfl | rfl | rfl | rfl | rfl | rfl | rfl | rfl | rfl | rfl | rfl | rfl | rfl <;> first | rfl | exact hr_15.one | exact hr_19.one | exact hr_23.one | exact hr_27.one | exact hr_31.one | exact hr_35.one)
 refine s_store h rfl rfl hs' ?_
 replace hS : Sep w0 w_40 [_, _, _, _, _, _, _, _, Mem.one g_39 (.cells ([iV t_10.1.Kind, iV t_10.1.From, iV t_10.1.To, iV t_10.1.View, iV t_10.1.Inst, iV t_10.1.Len, .bool t_10.1.Has, iV t_10.1.Members, iV t_10.1.Source, iV t_10.1.At, iV t_10.1.Total, v_14, iV t_10.1.Hop, iV t_10.1.Seq, v_18, v_22, iV t_10.1.Index, iV t_10.1.Entry.Sess, iV t_10.1.Entry.Seq, iV t_10.1.Entry.Cmd.Kind, iV t_10.1.Entry.Cmd.Who, v_26, v_30, v_34] : List Value).toArray 32 (0, 0))] Z := hS'
 clear hs' hS'
 refine s_assign h rfl rfl fun a h=>wpList_nil <| x_then_n <| c_seq fun KJ_41 hKJ_41 => c_seq fun KJ_42 hKJ_42 => ?_
 have hJ_j_46 : ∀ (x_44 : Bool), fram_Open.J1 K t_10 x_44 = some r → ∀ (a : Act) (w_45 : World), (∃ (N_43 : Mem), Fr 26 a [(2, .pointer (some ⟨g_2, 0, none⟩)), (3, .bool false), (6, .pointer (some ⟨g_39, 0, none⟩)), (23, .bool x_44)] ∧ Sep w0 w_45 [N_43, Mem.one g_2 (.cells ([iV 0, iV 0, iV 0, iV 0, iV 0, iV 0, .bool false, iV 0, iV 0, iV 0, iV 0, nS, iV 0, iV 0, nS, nS, iV 0, iV 0, iV 0, iV 0, iV 0, nS, nS, nS] : List Value).toArray 32 (0, 0)), M_16, M_20, M_24, M_28, M_32, M_36, Mem.one g_39 (.cells ([iV t_10.1.Kind, iV t_10.1.From, iV t_10.1.To, iV t_10.1.View, iV t_10.1.Inst, iV t_10.1.Len, .bool t_10.1.Has, iV t_10.1.Members, iV t_10.1.Source, iV t_10.1.At, iV t_10.1.Total, v_14, iV t_10.1.Hop, iV t_10.1.Seq, v_18, v_22, iV t_10.1.Index, iV t_10.1.Entry.Sess, iV t_10.1.Entry.Seq, iV t_10.1.Entry.Cmd.Kind, iV t_10.1.Entry.Cmd.Who, v_26, v_30, v_34] : List Value).toArray 32 (0, 0))] Z ∧ N_13.le N_43) → KJ_42 a w_45 := by
  clear H h hS a
  rintro x_44 H a w_45 ⟨N_43, h, hS, le_43⟩
  unfold fram_Open.J1 at H
  refine hKJ_42 _ _ ?_
  by_cases hc_47 : x_44 = true
  ·rw [if_pos hc_47] at H
   refine c_cond_t h rfl hc_47 <| wp_seq <| wp_region_lit <| s_build h rfl ti32 pl32 rfl .nil (cs := [iV 0, iV 0, iV 0, iV 0, iV 0, iV 0, .bool false, iV 0, iV 0, iV 0, iV 0, nS, iV 0, iV 0, nS, nS, iV 0, iV 0, iV 0, iV 0, iV 0, nS, nS, nS]) (by kernel_rfl) fun a h=>?_
   obtain ⟨w_48, hs', hS'⟩ := hS.store (P := Try.prog) (p := 1) (o := 0) (t := 32) (v := .agg ([iV 0, iV 0, iV 0, iV 0, iV 0, iV 0, .bool false, iV 0, iV 0, iV 0, iV 0, nS, iV 0, iV 0, nS, nS, iV 0, iV 0, iV 0, iV 0, iV 0, nS, nS, nS] : List Value).toArray) (vs := [iV 0, iV 0, iV 0, iV 0, iV 0, iV 0, .bool false, iV 0, iV 0, iV 0, iV 0, nS, iV 0, iV 0, nS, nS, iV 0, iV 0, iV 0, iV 0, iV 0, nS, nS, nS]) rfl ti32 rfl rfl rfl (by intro u hu; simp only [List.mem_cons, List.not_mem_nil, or_false] at hu; rcases hu with rfl | rfl | rfl | rfl | rfl | rfl | rfl | rfl | rfl | rfl | rfl | rfl | rfl | rfl | rfl | rfl | rfl | rfl | rfl | rfl | rfl | rfl | rfl | rfl <;> rfl)
   refine s_store h rfl rfl hs' ?_
   replace hS : Sep w0 w_48 [_, _, _, _, _, _, _, _, _] Z := hS'
   clear hs' hS'
   refine s_assign h rfl rfl fun a h=>wpList_nil ?_
   replace h : Fr 26 a [(2, _), (3, _), (6, _)] := h.keep [2, 3, 6]
   refine x_then_n <| wp_ret (x_then_r ?_)
   have hS' := hS.room
   replace hS : Sep w0 w_48 [_, _, _, _, _, _, _, _, _, Mem.no] Z := hS'
   clear hS'
   replace hS : Sep w0 w_48 [_, _, _, _, _, _, _, _, _, _] Z := hS
   have hS' := hS.room
   replace hS : Sep w0 w_48 [_, _, _, _, _, _, _, _, _, _, Mem.no] Z := hS'
   clear hS'
   replace hS : Sep w0 w_48 [_, _, _, _, _, _, _, _, _, _, _] Z := hS
   have hS' := hS.room
   replace hS : Sep w0 w_48 [_, _, _, _, _, _, _, _, _, _, _, Mem.no] Z := hS'
   clear hS'
   replace hS : Sep w0 w_48 [_, _, _, _, _, _, _, _, _, _, _, _] Z := hS
   have hS' := hS.room
   replace hS : Sep w0 w_48 [_, _, _, _, _, _, _, _, _, _, _, _, Mem.no] Z := hS'
   clear hS'
   replace hS : Sep w0 w_48 [_, _, _, _, _, _, _, _, _, _, _, _, _] Z := hS
   have hS' := hS.room
   replace hS : Sep w0 w_48 [_, _, _, _, _, _, _, _, _, _, _, _, _, Mem.no] Z := hS'
   clear hS'
   replace hS : Sep w0 w_48 [_, _, _, _, _, _, _, _, _, _, _, _, _, _] Z := hS
   have hS' := hS.room
   replace hS : Sep w0 w_48 [_, _, _, _, _, _, _, _, _, _, _, _, _, _, Mem.no] Z := hS'
   clear hS'
   replace hS : Sep w0 w_48 [_, _, _, _, _, _, _, _, _, _, _, _, _, _, _] Z := hS
   obtain rfl := Option.some.inj H
   exact f_ret h (rs := [.cell 2 32, .tmp 3]) rfl (.cell rfl (hS.load_agg (p := 1) (us := [iV 0, iV 0, iV 0, iV 0, iV 0, iV 0, .bool false, iV 0, iV 0, iV 0, iV 0, nS, iV 0, iV 0, nS, nS, iV 0, iV 0, iV 0, iV 0, iV 0, nS, nS, nS]) rfl U32 rfl ti32 rfl rfl) (.tmp rfl .nil)) ⟨_, rfl, nS, nS, nS, nS, nS, nS, N_43, Mem.no, Mem.no, Mem.no, Mem.no, Mem.no, Mem.no, rfl, (Sep.sel hS [0, 9, 10, 11, 12, 13, 14] (by decide)), (Own.nil Kd.u8 5 Mem.no), (Own.nil (Kd.int .i64) 3 Mem.no), (Own.nil (Kd.int .i64) 3 Mem.no), (Own.nil Kd.u8 5 Mem.no), (Own.nil Kd.u8 5 Mem.no), (Own.nil Kd.u8 5 Mem.no)⟩
  ·rw [if_neg hc_47] at H
   refine c_cond_f h rfl (Bool.eq_false_iff.2 hc_47) <| wp_skip <| x_then_n (hKJ_41 _ _ ?_)
   refine wp_seq <| wp_region_lit <| s_load h rfl rfl (hS.load_agg (p := 8) (us := [iV t_10.1.Kind, iV t_10.1.From, iV t_10.1.To, iV t_10.1.View, iV t_10.1.Inst, iV t_10.1.Len, .bool t_10.1.Has, iV t_10.1.Members, iV t_10.1.Source, iV t_10.1.At, iV t_10.1.Total, v_14, iV t_10.1.Hop, iV t_10.1.Seq, v_18, v_22, iV t_10.1.Index, iV t_10.1.Entry.Sess, iV t_10.1.Entry.Seq, iV t_10.1.Entry.Cmd.Kind, iV t_10.1.Entry.Cmd.Who, v_26, v_30, v_34]) rfl U32 rfl ti32 rfl rfl) fun a h=>?_
   obtain ⟨w_55, hs', hS'⟩ := hS.store (P := Try.prog) (p := 1) (o := 0) (t := 32) (v := .agg ([iV t_10.1.Kind, iV t_10.1.From, iV t_10.1.To, iV t_10.1.View, iV t_10.1.Inst, iV t_10.1.Len, .bool t_10.1.Has, iV t_10.1.Members, iV t_10.1.Source, iV t_10.1.At, iV t_10.1.Total, v_14, iV t_10.1.Hop, iV t_10.1.Seq, v_18, v_22, iV t_10.1.Index, iV t_10.1.Entry.Sess, iV t_10.1.Entry.Seq, iV t_10.1.Entry.Cmd.Kind, iV t_10.1.Entry.Cmd.Who, v_26, v_30, v_34] : List Value).toArray) (vs := [iV t_10.1.Kind, iV t_10.1.From, iV t_10.1.To, iV t_10.1.View, iV t_10.1.Inst, iV t_10.1.Len, .bool t_10.1.Has, iV t_10.1.Members, iV t_10.1.Source, iV t_10.1.At, iV t_10.1.Total, v_14, iV t_10.1.Hop, iV t_10.1.Seq, v_18, v_22, iV t_10.1.Index, iV t_10.1.Entry.Sess, iV t_10.1.Entry.Seq, iV t_10.1.Entry.Cmd.Kind, iV t_10.1.Entry.Cmd.Who, v_26, v_30, v_34]) rfl ti32 rfl rfl rfl (by intro u hu; simp only [List.mem_cons, List.not_mem_nil, or_false] at hu; rcases hu with rfl | rfl | rfl | rfl | rfl | rfl | rfl | rfl | rfl | rfl | rfl | rfl | rfl | rfl | rfl | rfl | rfl | rfl | rfl | rfl | rfl | rfl | rfl | rfl <;> first | rfl | exact hr_15.one | exact hr_19.one | exact hr_23.one | exact hr_27.one | exact hr_31.one | exact hr_35.one)
   refine s_store h rfl rfl hs' ?_
   replace hS : Sep w0 w_55 [_, Mem.one g_2 (.cells ([iV t_10.1.Kind, iV t_10.1.From, iV t_10.1.To, iV t_10.1.View, iV t_10.1.Inst, iV t_10.1.Len, .bool t_10.1.Has, iV t_10.1.Members, iV t_10.1.Source, iV t_10.1.At, iV t_10.1.Total, v_14, iV t_10.1.Hop, iV t_10.1.Seq, v_18, v_22, iV t_10.1.Index, iV t_10.1.Entry.Sess, iV t_10.1.Entry.Seq, iV t_10.1.Entry.Cmd.Kind, iV t_10.1.Entry.Cmd.Who, v_26, v_30, v_34] : List Value).toArray 32 (0, 0)), _, _, _, _, _, _, _] Z := hS'
   clear hs' hS'
   refine s_assign h rfl rfl fun a h=>wpList_nil ?_
   replace h : Fr 26 a [(2, _), (3, .bool true)] := h.keep [2, 3]
   refine x_then_n <| wp_ret ?_
   obtain rfl := Option.some.inj H
   exact f_ret h (rs := [.cell 2 32, .tmp 3]) rfl (.cell rfl (hS.load_agg (p := 1) (us := [iV t_10.1.Kind, iV t_10.1.From, iV t_10.1.To, iV t_10.1.View, iV t_10.1.Inst, iV t_10.1.Len, .bool t_10.1.Has, iV t_10.1.Members, iV t_10.1.Source, iV t_10.1.At, iV t_10.1.Total, v_14, iV t_10.1.Hop, iV t_10.1.Seq, v_18, v_22, iV t_10.1.Index, iV t_10.1.Entry.Sess, iV t_10.1.Entry.Seq, iV t_10.1.Entry.Cmd.Kind, iV t_10.1.Entry.Cmd.Who, v_26, v_30, v_34]) rfl U32 rfl ti32 rfl rfl) (.tmp rfl .nil)) ⟨_, rfl, v_14, v_18, v_22, v_26, v_30, v_34, N_43, M_16, M_20, M_24, M_28, M_32, M_36, rfl, (Sep.sel hS [0, 2, 3, 4, 5, 6, 7] (by decide)), hr_15, hr_19, hr_23, hr_27, hr_31, hr_35⟩
 clear hKJ_42
 refine wp_region_lit <| s_move h rfl rfl fun a h=>s_not h rfl rfl fun a h=>s_move h rfl rfl fun a h=>?_
 by_cases hc_56 : t_3.2 = true
 ·rw [if_pos hc_56] at H
  refine s_on h rfl rfl (nf hc_56) <| s_move h rfl rfl fun a h=>s_on h rfl rfl (nf hc_56) <| s_not h rfl rfl fun a h=>s_pick_f h rfl rfl (nf hc_56) rfl fun a h=>wpList_nil ?_
  replace h : Fr 26 a [(2, .pointer (some ⟨g_2, 0, none⟩)), (3, .bool false), (6, .pointer (some ⟨g_39, 0, none⟩)), (23, .bool (!t_10.2))] := h.keep [2, 3, 6, 23]
  replace hS : Sep w0 w_40 [_, _, _, _, _, _, _, _, _] Z := hS
  replace h : Fr 26 a [(2, _), (3, _), (6, _), (23, _)] := h.keep [2, 3, 6, 23]
  exact x_then_n (hJ_j_46 (!t_10.2) H _ _ ⟨N_13, h, (Sep.sel hS [0, 1, 2, 3, 4, 5, 6, 7, 8] (by decide)), (Mem.le.refl _)⟩)
 ·rw [if_neg hc_56] at H
  refine s_off h rfl rfl rfl (nt (Bool.eq_false_iff.2 hc_56)) fun a h=>s_off h rfl rfl rfl (nt (Bool.eq_false_iff.2 hc_56)) fun a h=>s_pick_t h rfl rfl (nt (Bool.eq_false_iff.2 hc_56)) rfl fun a h=>wpList_nil ?_
  replace h : Fr 26 a [(2, .pointer (some ⟨g_2, 0, none⟩)), (3, .bool false), (6, .pointer (some ⟨g_39, 0, none⟩)), (23, .bool true)] := h.keep [2, 3, 6, 23]
  replace hS : Sep w0 w_40 [_, _, _, _, _, _, _, _, _] Z := hS
  replace h : Fr 26 a [(2, _), (3, _), (6, _), (23, _)] := h.keep [2, 3, 6, 23]
  exact x_then_n (hJ_j_46 true H _ _ ⟨N_13, h, (Sep.sel hS [0, 1, 2, 3, 4, 5, 6, 7, 8] (by decide)), (Mem.le.refl _)⟩)

set_option maxHeartbeats 4000000 in
set_option maxRecDepth 20000 in
theorem nets_Net_Take.calls (K : Nat) (g0 : Nat) (x0_n : Int) (x0_mask : Int) (x0_l : List nets_frame) (p0_0 : Value) (M0_0 : Mem) (x1 : Int) (r : api_Msg × Bool × Int × Int × (List nets_frame)) (w0 w : World) (Z A : Mem) (hA : A.le Z) (hS : Sep w0 w [Mem.one g0 (.cells ([iV x0_n, iV x0_mask, p0_0] : List Value).toArray 58 (0, 0)), M0_0] Z) (hp0_0 : Own k_nets_frame 60 M0_0 A p0_0 x0_l)
    (H : nets_Net_Take.f K x0_n x0_mask x0_l x1 = some r) :
    Calls Try.prog 11 [.pointer (some ⟨g0, 0, none⟩), iV x1].toArray w (Ret fun v w' => ∃ (u0 : Value) (u1 : Value) (u2 : Value) (u3 : Value) (u4 : Value) (u5 : Value) (u6 : Value) (N : Mem) (M0 : Mem) (M1 : Mem) (M2 : Mem) (M3 : Mem) (M4 : Mem) (M5 : Mem) (M100 : Mem), v = .tuple [.agg [iV r.1.Kind, iV r.1.From, iV r.1.To, iV r.1.View, iV r.1.Inst, iV r.1.Len, .bool r.1.Has, iV r.1.Members, iV r.1.Source, iV r.1.At, iV r.1.Total, u0, iV r.1.Hop, iV r.1.Seq, u1, u2, iV r.1.Index, iV r.1.Entry.Sess, iV r.1.Entry.Seq, iV r.1.Entry.Cmd.Kind, iV r.1.Entry.Cmd.Who, u3, u4, u5].toArray, .bool r.2.1].toArray ∧ Sep w0 w' [N, Mem.one g0 (.cells ([iV r.2.2.1, iV r.2.2.2.1, u6] : List Value).toArray 58 (0, 0)), M100, M0, M1, M2, M3, M4, M5] Z ∧ Own Kd.u8 5 M0 Mem.no u0 r.1.Data ∧ Own (Kd.int .i64) 3 M1 Mem.no u1 r.1.Have ∧ Own (Kd.int .i64) 3 M2 Mem.no u2 r.1.Need ∧ Own Kd.u8 5 M3 Mem.no u3 r.1.Entry.Cmd.Key ∧ Own Kd.u8 5 M4 Mem.no u4 r.1.Entry.Cmd.Val ∧ Own Kd.u8 5 M5 Mem.no u5 r.1.Entry.Cmd.Old ∧ Own k_nets_frame 60 M100 (A.un N) u6 r.2.2.2.2) := by
 unfold nets_Net_Take.f at H
 refine f_enter _ Try.func11 rfl Try.ntmps11 rfl fun a h=>?_
 replace h : Fr 32 a [(0, .pointer (some ⟨g0, 0, none⟩)), (1, iV x1)] := h
 replace hS := hS.start
 replace hS : Sep w0 w [_, _, _] Z := hS
 refine wp_seq <| wp_region_lit <| v_alloc h rfl ti32 hS fun w_1 g_2 hS' a h => ?_
 replace hS : Sep w0 w_1 [_, _, _, Mem.one g_2 (.cells ([iV 0, iV 0, iV 0, iV 0, iV 0, iV 0, .bool false, iV 0, iV 0, iV 0, iV 0, nS, iV 0, iV 0, nS, nS, iV 0, iV 0, iV 0, iV 0, iV 0, nS, nS, nS] : List Value).toArray 32 (0, 0))] Z := hS'
 clear hS'
 refine s_assign h rfl rfl fun a h=>wpList_nil <| x_then_n <| wp_seq <| wp_region_lit <| s_move h rfl rfl fun a h=>s_move h rfl rfl fun a h=>?_
 obtain ⟨t_3, et_3, H⟩ := Option.bind_eq_some_iff.1 H
 refine s_call h rfl Try.call18 rfl (nets_Net_At.calls _ x0_n x0_mask x0_l _ x1 t_3 w0 _ _ _ (Mem.le.refl _) (hS.enter [0] (by decide)) (hp0_0.rd (hS.own_zed [0] 1 (by decide)) (hA.trans (hS.le_zed [0]))) et_3) ?_
 rintro _ w_4 ⟨v_7, N_5, M_9, rfl, hS', hr_8⟩
 intro a h
 obtain ⟨N_6, hS'', le_6, ln_6⟩ := hS.call [0] (by decide) rfl (l' := [Mem.one g0 (.cells ([iV x0_n, iV x0_mask, p0_0] : List Value).toArray 58 (0, 0))]) (ow := [M_9]) rfl hS'
 replace hS : Sep w0 w_4 [N_6, _, _, _, M_9] Z := hS''
 clear hS' hS''
 refine s_move h rfl rfl fun a h=>s_extract h rfl rfl rfl fun a h=>s_extract h rfl rfl rfl fun a h=>v_alloc h rfl ti44 hS fun w_11 g_12 hS' a h => ?_
 replace hS : Sep w0 w_11 [_, _, _, _, _, Mem.one g_12 (.cells ([iV 0, iV 0, nS] : List Value).toArray 44 (0, 0))] Z := hS'
 clear hS'
 obtain ⟨w_13, hs', hS'⟩ := hS.store (P := Try.prog) (p := 5) (o := 0) (t := 44) (v := .agg ([iV t_3.1.From, iV t_3.1.To, v_7] : List Value).toArray) (vs := [iV t_3.1.From, iV t_3.1.To, v_7]) rfl ti44 rfl rfl rfl (by intro u hu; simp only [List.mem_cons, List.not_mem_nil, or_false] at hu; rcases hu with rfl | rfl | rfl <;> first | rfl | exact hr_8.one)
 refine s_store h rfl rfl hs' ?_
 replace hS : Sep w0 w_13 [_, _, _, _, _, Mem.one g_12 (.cells ([iV t_3.1.From, iV t_3.1.To, v_7] : List Value).toArray 44 (0, 0))] Z := hS'
 clear hs' hS'
 refine s_assign h rfl rfl fun a h=>wpList_nil <| x_then_n <| c_seq fun KJ_14 hKJ_14 => wp_seq <| wp_region_lit <| s_move h rfl rfl fun a h=>s_not h rfl rfl fun a h=>wpList_nil <| x_then_n ?_
 by_cases hc_15 : t_3.2 = true
 ·rw [if_pos hc_15] at H
  refine c_cond_f h rfl (nf hc_15) <| wp_skip <| x_then_n (hKJ_14 _ _ ?_)
  refine wp_seq <| wp_region_lit <| s_move h rfl rfl fun a h=>s_move h rfl rfl fun a h=>?_
  obtain ⟨t_16, et_16, H⟩ := Option.bind_eq_some_iff.1 H
  refine s_call h rfl Try.call24 rfl (nets_Net_Drop.calls _ x0_n x0_mask x0_l _ _ x1 t_16 w0 _ _ A (hA.trans (hS.le_zed [0, 1])) (hS.enter [0, 1] (by decide)) (hp0_0.mono (Mem.le.refl _)) et_16) ?_
  rintro _ w_17 ⟨v_20, N_18, M_22, rfl, hS', hr_21⟩
  intro a h
  obtain ⟨N_19, hS'', le_19, ln_19⟩ := hS.call [0, 1] (by decide) rfl (l' := [Mem.one g0 (.cells ([iV t_16.2.1, iV t_16.2.2.1, v_20] : List Value).toArray 58 (0, 0)), M_22]) (ow := []) rfl hS'
  replace hS : Sep w0 w_17 [N_19, Mem.one g0 (.cells ([iV t_16.2.1, iV t_16.2.2.1, v_20] : List Value).toArray 58 (0, 0)), M_22, _, _, _] Z := hS''
  clear hS' hS''
  have hr_24 : Own k_nets_frame 60 M_22 (A.un N_19) v_20 t_16.2.2.2 := hr_21.mono (Mem.un_left ln_19)
  refine wpList_nil ?_
  replace h : Fr 32 a [(0, _), (4, .pointer (some ⟨g_2, 0, none⟩)), (5, .bool false), (6, .pointer (some ⟨g_12, 0, none⟩))] := h.keep [0, 4, 5, 6]
  refine x_then_n <| c_seq fun KJ_25 hKJ_25 => wp_seq <| wp_region_lit <| s_move h rfl rfl fun a h=>s_fieldAddr h rfl U44 rfl ti3 rfl rfl fun a h=>s_load h rfl rfl (hS.load_one (p := 5) rfl U3 rfl rfl) fun a h=>s_fieldAddr h rfl U44 rfl ti3 rfl rfl fun a h=>s_load h rfl rfl (hS.load_one (p := 5) rfl U3 rfl rfl) fun a h=>?_
  obtain ⟨t_26, et_26, H⟩ := Option.bind_eq_some_iff.1 H
  refine s_call h rfl Try.call20 rfl (nets_Net_Apart.calls _ t_16.2.1 t_16.2.2.1 t_16.2.2.2 _ t_3.1.From t_3.1.To t_26 w0 _ _ _ (Mem.le.refl _) (hS.enter [0] (by decide)) (hr_24.rd (hS.own_zed [0] 1 (by decide)) (Mem.un_le (hA.trans (hS.le_zed [0])) ((Mem.le.refl _).trans (hS.new_zed [0])))) et_26) ?_
  rintro _ w_27 ⟨N_28, rfl, hS'⟩
  intro a h
  obtain ⟨N_29, hS'', le_29, ln_29⟩ := hS.call [0] (by decide) rfl (l' := [Mem.one g0 (.cells ([iV t_16.2.1, iV t_16.2.2.1, v_20] : List Value).toArray 58 (0, 0))]) (ow := []) rfl hS'
  replace hS : Sep w0 w_27 [N_29, _, _, _, _, _] Z := hS''
  clear hS' hS''
  refine wpList_nil <| x_then_n ?_
  by_cases hc_30 : t_26 = true
  ·rw [if_pos hc_30] at H
   refine c_cond_t h rfl hc_30 <| wp_seq <| wp_region_lit <| s_build h rfl ti32 pl32 rfl .nil (cs := [iV 0, iV 0, iV 0, iV 0, iV 0, iV 0, .bool false, iV 0, iV 0, iV 0, iV 0, nS, iV 0, iV 0, nS, nS, iV 0, iV 0, iV 0, iV 0, iV 0, nS, nS, nS]) (by kernel_rfl) fun a h=>?_
   obtain ⟨w_31, hs', hS'⟩ := hS.store (P := Try.prog) (p := 3) (o := 0) (t := 32) (v := .agg ([iV 0, iV 0, iV 0, iV 0, iV 0, iV 0, .bool false, iV 0, iV 0, iV 0, iV 0, nS, iV 0, iV 0, nS, nS, iV 0, iV 0, iV 0, iV 0, iV 0, nS, nS, nS] : List Value).toArray) (vs := [iV 0, iV 0, iV 0, iV 0, iV 0, iV 0, .bool false, iV 0, iV 0, iV 0, iV 0, nS, iV 0, iV 0, nS, nS, iV 0, iV 0, iV 0, iV 0, iV 0, nS, nS, nS]) rfl ti32 rfl rfl rfl (by intro u hu; simp only [List.mem_cons, List.not_mem_nil, or_false] at hu; rcases hu with rfl | rfl | rfl | rfl | rfl | rfl | rfl | rfl | rfl | rfl | rfl | rfl | rfl | rfl | rfl | rfl | rfl | rfl | rfl | rfl | rfl | rfl | rfl | rfl <;> rfl)
   refine s_store h rfl rfl hs' ?_
   replace hS : Sep w0 w_31 [_, _, _, _, _, _] Z := hS'
   clear hs' hS'
   refine s_assign h rfl rfl fun a h=>wpList_nil <| x_then_n <| wp_ret (x_then_r ?_)
   have hS' := hS.room
   replace hS : Sep w0 w_31 [_, _, _, _, _, _, Mem.no] Z := hS'
   clear hS'
   replace hS : Sep w0 w_31 [_, _, _, _, _, _, _] Z := hS
   have hS' := hS.room
   replace hS : Sep w0 w_31 [_, _, _, _, _, _, _, Mem.no] Z := hS'
   clear hS'
   replace hS : Sep w0 w_31 [_, _, _, _, _, _, _, _] Z := hS
   have hS' := hS.room
   replace hS : Sep w0 w_31 [_, _, _, _, _, _, _, _, Mem.no] Z := hS'
   clear hS'
   replace hS : Sep w0 w_31 [_, _, _, _, _, _, _, _, _] Z := hS
   have hS' := hS.room
   replace hS : Sep w0 w_31 [_, _, _, _, _, _, _, _, _, Mem.no] Z := hS'
   clear hS'
   replace hS : Sep w0 w_31 [_, _, _, _, _, _, _, _, _, _] Z := hS
   have hS' := hS.room
   replace hS : Sep w0 w_31 [_, _, _, _, _, _, _, _, _, _, Mem.no] Z := hS'
   clear hS'
   replace hS : Sep w0 w_31 [_, _, _, _, _, _, _, _, _, _, _] Z := hS
   have hS' := hS.room
   replace hS : Sep w0 w_31 [_, _, _, _, _, _, _, _, _, _, _, Mem.no] Z := hS'
   clear hS'
   replace hS : Sep w0 w_31 [_, _, _, _, _, _, _, _, _, _, _, _] Z := hS
   obtain rfl := Option.some.inj H
   exact f_ret h (rs := [.cell 4 32, .tmp 5]) rfl (.cell rfl (hS.load_agg (p := 3) (us := [iV 0, iV 0, iV 0, iV 0, iV 0, iV 0, .bool false, iV 0, iV 0, iV 0, iV 0, nS, iV 0, iV 0, nS, nS, iV 0, iV 0, iV 0, iV 0, iV 0, nS, nS, nS]) rfl U32 rfl ti32 rfl rfl) (.tmp rfl .nil)) ⟨_, rfl, nS, nS, nS, nS, nS, nS, v_20, N_29, Mem.no, Mem.no, Mem.no, Mem.no, Mem.no, Mem.no, M_22, rfl, (Sep.sel hS [0, 1, 2, 6, 7, 8, 9, 10, 11] (by decide)), (Own.nil Kd.u8 5 Mem.no), (Own.nil (Kd.int .i64) 3 Mem.no), (Own.nil (Kd.int .i64) 3 Mem.no), (Own.nil Kd.u8 5 Mem.no), (Own.nil Kd.u8 5 Mem.no), (Own.nil Kd.u8 5 Mem.no), (hr_24.mono (Mem.un_left le_29))⟩
  ·rw [if_neg hc_30] at H
   refine c_cond_f h rfl (Bool.eq_false_iff.2 hc_30) <| wp_skip <| x_then_n (hKJ_25 _ _ ?_)
   refine wp_seq <| wp_region_lit <| s_fieldAddr h rfl U44 rfl ti26 rfl rfl fun a h=>s_load h rfl rfl (hS.load_one (p := 5) rfl U26 rfl rfl) fun a h=>?_
   obtain ⟨t_38, et_38, H⟩ := Option.bind_eq_some_iff.1 H
   refine s_call h rfl Try.call27 rfl (fram_Open.calls K t_3.1.Bytes _ t_38 w0 _ _ _ (Mem.le.refl _) (hS.enter [] (by decide)) (hr_8.rd (hS.own_zed [] 3 (by decide)) (Mem.no_le _)) et_38) ?_
   rintro _ w_39 ⟨v_42, v_46, v_50, v_54, v_58, v_62, N_40, M_44, M_48, M_52, M_56, M_60, M_64, rfl, hS', hr_43, hr_47, hr_51, hr_55, hr_59, hr_63⟩
   intro a h
   obtain ⟨N_41, hS'', le_41, ln_41⟩ := hS.call [] (by decide) rfl (l' := []) (ow := [M_44, M_48, M_52, M_56, M_60, M_64]) rfl hS'
   replace hS : Sep w0 w_39 [N_41, _, _, _, _, _, M_44, M_48, M_52, M_56, M_60, M_64] Z := hS''
   clear hS' hS''
   refine s_extract h rfl rfl rfl fun a h=>s_extract h rfl rfl rfl fun a h=>?_
   obtain ⟨w_66, hs', hS'⟩ := hS.store (P := Try.prog) (p := 3) (o := 0) (t := 32) (v := .agg ([iV t_38.1.Kind, iV t_38.1.From, iV t_38.1.To, iV t_38.1.View, iV t_38.1.Inst, iV t_38.1.Len, .bool t_38.1.Has, iV t_38.1.Members, iV t_38.1.Source, iV t_38.1.At, iV t_38.1.Total, v_42, iV t_38.1.Hop, iV t_38.1.Seq, v_46, v_50, iV t_38.1.Index, iV t_38.1.Entry.Sess, iV t_38.1.Entry.Seq, iV t_38.1.Entry.Cmd.Kind, iV t_38.1.Entry.Cmd.Who, v_54, v_58, v_62] : List Value).toArray) (vs := [iV t_38.1.Kind, iV t_38.1.From, iV t_38.1.To, iV t_38.1.View, iV t_38.1.Inst, iV t_38.1.Len, .bool t_38.1.Has, iV t_38.1.Members, iV t_38.1.Source, iV t_38.1.At, iV t_38.1.Total, v_42, iV t_38.1.Hop, iV t_38.1.Seq, v_46, v_50, iV t_38.1.Index, iV t_38.1.Entry.Sess, iV t_38.1.Entry.Seq, iV t_38.1.Entry.Cmd.Kind, iV t_38.1.Entry.Cmd.Who, v_54, v_58, v_62]) rfl ti32 rfl rfl rfl (by intro u hu; simp only [List.mem_cons, List.not_mem_nil, or_false] at hu; rcases hu with rfl | rfl | rfl | rfl | rfl | rfl | rfl | rfl | rfl | rfl | rfl | rfl | rfl | rfl | rfl | rfl | rfl | rfl | rfl | rfl | rfl | rfl | rfl | rfl <;> first | rfl | exact hr_43.one | exact hr_47.one | exact hr_51.one | exact hr_55.one | exact hr_59.one | exact hr_63.one)
   refine s_store h rfl rfl hs' ?_
   replace hS : Sep w0 w_66 [_, _, _, Mem.one g_2 (.cells ([iV t_38.1.Kind, iV t_38.1.From, iV t_38.1.To, iV t_38.1.View, iV t_38.1.Inst, iV t_38.1.Len, .bool t_38.1.Has, iV t_38.1.Members, iV t_38.1.Source, iV t_38.1.At, iV t_38.1.Total, v_42, iV t_38.1.Hop, iV t_38.1.Seq, v_46, v_50, iV t_38.1.Index, iV t_38.1.Entry.Sess, iV t_38.1.Entry.Seq, iV t_38.1.Entry.Cmd.Kind, iV t_38.1.Entry.Cmd.Who, v_54, v_58, v_62] : List Value).toArray 32 (0, 0)), _, _, _, _, _, _, _, _] Z := hS'
   clear hs' hS'
   refine s_assign h rfl rfl fun a h=>wpList_nil <| x_then_n <| wp_ret ?_
   obtain rfl := Option.some.inj H
   exact f_ret h (rs := [.cell 4 32, .tmp 5]) rfl (.cell rfl (hS.load_agg (p := 3) (us := [iV t_38.1.Kind, iV t_38.1.From, iV t_38.1.To, iV t_38.1.View, iV t_38.1.Inst, iV t_38.1.Len, .bool t_38.1.Has, iV t_38.1.Members, iV t_38.1.Source, iV t_38.1.At, iV t_38.1.Total, v_42, iV t_38.1.Hop, iV t_38.1.Seq, v_46, v_50, iV t_38.1.Index, iV t_38.1.Entry.Sess, iV t_38.1.Entry.Seq, iV t_38.1.Entry.Cmd.Kind, iV t_38.1.Entry.Cmd.Who, v_54, v_58, v_62]) rfl U32 rfl ti32 rfl rfl) (.tmp rfl .nil)) ⟨_, rfl, v_42, v_46, v_50, v_54, v_58, v_62, v_20, N_41, M_44, M_48, M_52, M_56, M_60, M_64, M_22, rfl, (Sep.sel hS [0, 1, 2, 6, 7, 8, 9, 10, 11] (by decide)), hr_43, hr_47, hr_51, hr_55, hr_59, hr_63, (hr_24.mono (Mem.un_left (le_29.trans le_41)))⟩
 ·rw [if_neg hc_15] at H
  refine c_cond_t h rfl (nt (Bool.eq_false_iff.2 hc_15)) <| wp_seq <| wp_region_lit <| s_build h rfl ti32 pl32 rfl .nil (cs := [iV 0, iV 0, iV 0, iV 0, iV 0, iV 0, .bool false, iV 0, iV 0, iV 0, iV 0, nS, iV 0, iV 0, nS, nS, iV 0, iV 0, iV 0, iV 0, iV 0, nS, nS, nS]) (by kernel_rfl) fun a h=>?_
  obtain ⟨w_67, hs', hS'⟩ := hS.store (P := Try.prog) (p := 3) (o := 0) (t := 32) (v := .agg ([iV 0, iV 0, iV 0, iV 0, iV 0, iV 0, .bool false, iV 0, iV 0, iV 0, iV 0, nS, iV 0, iV 0, nS, nS, iV 0, iV 0, iV 0, iV 0, iV 0, nS, nS, nS] : List Value).toArray) (vs := [iV 0, iV 0, iV 0, iV 0, iV 0, iV 0, .bool false, iV 0, iV 0, iV 0, iV 0, nS, iV 0, iV 0, nS, nS, iV 0, iV 0, iV 0, iV 0, iV 0, nS, nS, nS]) rfl ti32 rfl rfl rfl (by intro u hu; simp only [List.mem_cons, List.not_mem_nil, or_false] at hu; rcases hu with rfl | rfl | rfl | rfl | rfl | rfl | rfl | rfl | rfl | rfl | rfl | rfl | rfl | rfl | rfl | rfl | rfl | rfl | rfl | rfl | rfl | rfl | rfl | rfl <;> rfl)
  refine s_store h rfl rfl hs' ?_
  replace hS : Sep w0 w_67 [_, _, _, _, _, _] Z := hS'
  clear hs' hS'
  refine s_assign h rfl rfl fun a h=>wpList_nil ?_
  replace h : Fr 32 a [(0, _), (1, _), (4, .pointer (some ⟨g_2, 0, none⟩)), (5, .bool false), (6, .pointer (some ⟨g_12, 0, none⟩))] := h.keep [0, 1, 4, 5, 6]
  refine x_then_n <| wp_ret (x_then_r ?_)
  have hS' := hS.room
  replace hS : Sep w0 w_67 [_, _, _, _, _, _, Mem.no] Z := hS'
  clear hS'
  replace hS : Sep w0 w_67 [_, _, _, _, _, _, _] Z := hS
  have hS' := hS.room
  replace hS : Sep w0 w_67 [_, _, _, _, _, _, _, Mem.no] Z := hS'
  clear hS'
  replace hS : Sep w0 w_67 [_, _, _, _, _, _, _, _] Z := hS
  have hS' := hS.room
  replace hS : Sep w0 w_67 [_, _, _, _, _, _, _, _, Mem.no] Z := hS'
  clear hS'
  replace hS : Sep w0 w_67 [_, _, _, _, _, _, _, _, _] Z := hS
  have hS' := hS.room
  replace hS : Sep w0 w_67 [_, _, _, _, _, _, _, _, _, Mem.no] Z := hS'
  clear hS'
  replace hS : Sep w0 w_67 [_, _, _, _, _, _, _, _, _, _] Z := hS
  have hS' := hS.room
  replace hS : Sep w0 w_67 [_, _, _, _, _, _, _, _, _, _, Mem.no] Z := hS'
  clear hS'
  replace hS : Sep w0 w_67 [_, _, _, _, _, _, _, _, _, _, _] Z := hS
  have hS' := hS.room
  replace hS : Sep w0 w_67 [_, _, _, _, _, _, _, _, _, _, _, Mem.no] Z := hS'
  clear hS'
  replace hS : Sep w0 w_67 [_, _, _, _, _, _, _, _, _, _, _, _] Z := hS
  obtain rfl := Option.some.inj H
  exact f_ret h (rs := [.cell 4 32, .tmp 5]) rfl (.cell rfl (hS.load_agg (p := 3) (us := [iV 0, iV 0, iV 0, iV 0, iV 0, iV 0, .bool false, iV 0, iV 0, iV 0, iV 0, nS, iV 0, iV 0, nS, nS, iV 0, iV 0, iV 0, iV 0, iV 0, nS, nS, nS]) rfl U32 rfl ti32 rfl rfl) (.tmp rfl .nil)) ⟨_, rfl, nS, nS, nS, nS, nS, nS, p0_0, N_6, Mem.no, Mem.no, Mem.no, Mem.no, Mem.no, Mem.no, M0_0, rfl, (Sep.sel hS [0, 1, 2, 6, 7, 8, 9, 10, 11] (by decide)), (Own.nil Kd.u8 5 Mem.no), (Own.nil (Kd.int .i64) 3 Mem.no), (Own.nil (Kd.int .i64) 3 Mem.no), (Own.nil Kd.u8 5 Mem.no), (Own.nil Kd.u8 5 Mem.no), (Own.nil Kd.u8 5 Mem.no), (hp0_0.mono (Mem.le_un _ _))⟩

set_option maxHeartbeats 4000000 in
set_option maxRecDepth 20000 in
theorem nets_Net_Count.calls (g0 : Nat) (x0_n : Int) (x0_mask : Int) (x0_l : List nets_frame) (p0_0 : Value) (r : Int) (w0 w : World) (Z A : Mem) (hA : A.le Z) (hS : Sep w0 w [Mem.one g0 (.cells ([iV x0_n, iV x0_mask, p0_0] : List Value).toArray 58 (0, 0))] Z) (hp0_0 : Rd k_nets_frame A p0_0 x0_l)
    (H : nets_Net_Count.f x0_n x0_mask x0_l = some r) :
    Calls Try.prog 12 [.pointer (some ⟨g0, 0, none⟩)].toArray w (Ret fun v w' => ∃ (N : Mem), v = iV r ∧ Sep w0 w' [N, Mem.one g0 (.cells ([iV x0_n, iV x0_mask, p0_0] : List Value).toArray 58 (0, 0))] Z) := by
 unfold nets_Net_Count.f at H
 refine f_enter _ Try.func12 rfl Try.ntmps12 rfl fun a h=>?_
 replace h : Fr 8 a [(0, .pointer (some ⟨g0, 0, none⟩))] := h
 replace hS := hS.start
 replace hS : Sep w0 w [_, _] Z := hS
 refine wp_seq <| wp_region_lit <| s_assign h rfl rfl fun a h=>wpList_nil <| x_then_n <| wp_seq <| wp_region_lit <| s_move h rfl rfl fun a h=>s_nilCheck h rfl rfl fun a h=>s_fieldAddr h rfl U58 rfl ti56 rfl rfl fun a h=>s_load h rfl rfl (hS.load_one (p := 1) rfl U56 rfl rfl) fun a h=>s_len h rfl U56 rfl hp0_0 fun a h=>?_
 refine s_assign h rfl rfl fun a h=>wpList_nil <| x_then_n <| wp_ret ?_
 obtain rfl := Option.some.inj H
 exact f_ret h (rs := [.tmp 2]) rfl (.tmp rfl .nil) ⟨_, rfl, Mem.no, rfl, (Sep.sel hS [0, 1] (by decide))⟩

set_option maxHeartbeats 4000000 in
set_option maxRecDepth 20000 in
theorem nets_Net_Twice.calls (g0 : Nat) (x0_n : Int) (x0_mask : Int) (x0_l : List nets_frame) (p0_0 : Value) (M0_0 : Mem) (x1 : Int) (r : Bool × Int × Int × (List nets_frame)) (w0 w : World) (Z A : Mem) (hA : A.le Z) (hS : Sep w0 w [Mem.one g0 (.cells ([iV x0_n, iV x0_mask, p0_0] : List Value).toArray 58 (0, 0)), M0_0] Z) (hp0_0 : Own k_nets_frame 60 M0_0 A p0_0 x0_l)
    (H : nets_Net_Twice.f x0_n x0_mask x0_l x1 = some r) :
    Calls Try.prog 15 [.pointer (some ⟨g0, 0, none⟩), iV x1].toArray w (Ret fun v w' => ∃ (u0 : Value) (N : Mem) (M100 : Mem), v = .bool r.1 ∧ Sep w0 w' [N, Mem.one g0 (.cells ([iV r.2.1, iV r.2.2.1, u0] : List Value).toArray 58 (0, 0)), M100] Z ∧ Own k_nets_frame 60 M100 (A.un N) u0 r.2.2.2) := by
 unfold nets_Net_Twice.f at H
 refine f_enter _ Try.func15 rfl Try.ntmps15 rfl fun a h=>?_
 replace h : Fr 39 a [(0, .pointer (some ⟨g0, 0, none⟩)), (1, iV x1)] := h
 replace hS := hS.start
 replace hS : Sep w0 w [_, _, _] Z := hS
 refine wp_seq <| wp_region_lit <| s_assign h rfl rfl fun a h=>wpList_nil <| x_then_n <| wp_seq <| wp_region_lit <| s_move h rfl rfl fun a h=>s_move h rfl rfl fun a h=>?_
 obtain ⟨t_1, et_1, H⟩ := Option.bind_eq_some_iff.1 H
 refine s_call h rfl Try.call18 rfl (nets_Net_At.calls _ x0_n x0_mask x0_l _ x1 t_1 w0 _ _ _ (Mem.le.refl _) (hS.enter [0] (by decide)) (hp0_0.rd (hS.own_zed [0] 1 (by decide)) (hA.trans (hS.le_zed [0]))) et_1) ?_
 rintro _ w_2 ⟨v_5, N_3, M_7, rfl, hS', hr_6⟩
 intro a h
 obtain ⟨N_4, hS'', le_4, ln_4⟩ := hS.call [0] (by decide) rfl (l' := [Mem.one g0 (.cells ([iV x0_n, iV x0_mask, p0_0] : List Value).toArray 58 (0, 0))]) (ow := [M_7]) rfl hS'
 replace hS : Sep w0 w_2 [N_4, _, _, M_7] Z := hS''
 clear hS' hS''
 refine s_move h rfl rfl fun a h=>s_extract h rfl rfl rfl fun a h=>s_extract h rfl rfl rfl fun a h=>v_alloc h rfl ti44 hS fun w_9 g_10 hS' a h => ?_
 replace hS : Sep w0 w_9 [_, _, _, _, Mem.one g_10 (.cells ([iV 0, iV 0, nS] : List Value).toArray 44 (0, 0))] Z := hS'
 clear hS'
 obtain ⟨w_11, hs', hS'⟩ := hS.store (P := Try.prog) (p := 4) (o := 0) (t := 44) (v := .agg ([iV t_1.1.From, iV t_1.1.To, v_5] : List Value).toArray) (vs := [iV t_1.1.From, iV t_1.1.To, v_5]) rfl ti44 rfl rfl rfl (by intro u hu; simp only [List.mem_cons, List.not_mem_nil, or_false] at hu; rcases hu with rfl | rfl | rfl <;> first | rfl | exact hr_6.one)
 refine s_store h rfl rfl hs' ?_
 replace hS : Sep w0 w_11 [_, _, _, _, Mem.one g_10 (.cells ([iV t_1.1.From, iV t_1.1.To, v_5] : List Value).toArray 44 (0, 0))] Z := hS'
 clear hs' hS'
 refine s_assign h rfl rfl fun a h=>wpList_nil <| x_then_n <| c_seq fun KJ_12 hKJ_12 => c_seq fun KJ_13 hKJ_13 => ?_
 have hJ_j_17 : ∀ (x_15 : Bool), nets_Net_Twice.J1 x0_n x0_mask x0_l x1 t_1 x_15 = some r → ∀ (a : Act) (w_16 : World), (∃ (N_14 : Mem), Fr 39 a [(0, .pointer (some ⟨g0, 0, none⟩)), (1, iV x1), (4, .bool false), (5, .pointer (some ⟨g_10, 0, none⟩)), (19, .bool x_15)] ∧ Sep w0 w_16 [N_14, Mem.one g0 (.cells ([iV x0_n, iV x0_mask, p0_0] : List Value).toArray 58 (0, 0)), M0_0, M_7, Mem.one g_10 (.cells ([iV t_1.1.From, iV t_1.1.To, v_5] : List Value).toArray 44 (0, 0))] Z ∧ N_4.le N_14) → KJ_13 a w_16 := by
  clear H h hS a
  rintro x_15 H a w_16 ⟨N_14, h, hS, le_14⟩
  unfold nets_Net_Twice.J1 at H
  refine hKJ_13 _ _ ?_
  by_cases hc_18 : x_15 = true
  ·rw [if_pos hc_18] at H
   refine c_cond_t h rfl hc_18 <| wp_seq <| wp_region_lit <| s_assign h rfl rfl fun a h=>wpList_nil <| x_then_n <| wp_ret (x_then_r ?_)
   obtain rfl := Option.some.inj H
   exact f_ret h (rs := [.tmp 4]) rfl (.tmp rfl .nil) ⟨_, rfl, p0_0, N_14, M0_0, rfl, (Sep.sel hS [0, 1, 2] (by decide)), (hp0_0.mono (Mem.le_un _ _))⟩
  ·rw [if_neg hc_18] at H
   refine c_cond_f h rfl (Bool.eq_false_iff.2 hc_18) <| wp_skip <| x_then_n (hKJ_12 _ _ ?_)
   refine c_seq fun KJ_19 hKJ_19 => h_begin (S := fun w => Sep w0 w [N_14, Mem.no, Mem.no, Mem.no, Mem.one g_10 (.cells ([iV t_1.1.From, iV t_1.1.To, v_5] : List Value).toArray 44 (0, 0))] Z) 20 (by kernel_rfl) rfl (bA 20 0) (by kernel_rfl) hS fun w_20 hS => ?_
   replace hS : Sep w0 w_20 [_, _, _, _, _] Z := hS
   refine t_take 0 (bA 20 1) rfl rfl rfl rfl h (hS.sub (.cons (Mem.le.refl _) (.zz (.zz (.zz .ii))))) (v := .pointer (some ⟨g0, 0, none⟩)) (fun w hS => r_move h rfl) fun a h=>t_take 1 (bA 20 3) rfl rfl rfl rfl h (hS.sub (.cons (Mem.le.refl _) (.zz (.zz (.zz .ii))))) (v := .pointer (some ⟨g0, 0, none⟩)) (fun w hS => r_move h rfl) fun a h=>t_take 2 (bA 20 7) rfl rfl rfl rfl h (hS.sub (.cons (Mem.le.refl _) (.zz (.zz (.zz .ii))))) (v := .pointer (some ⟨g0, 0, none⟩)) (fun w hS => r_nilCheck h rfl) fun a h=>t_take 3 (bA 20 15) rfl rfl rfl rfl h (hS.sub (.cons (Mem.le.refl _) (.zz (.zz (.zz .ii))))) (v := .pointer (some ⟨g0, 2, none⟩)) (fun w hS => r_fieldAddr h U58 rfl ti56 rfl rfl rfl) fun a h=>t_take 5 (bA 20 47) rfl rfl rfl rfl h (hS.sub (.cons (Mem.le.refl _) (.zz (.zz (.zz .ii))))) (v := .agg ([iV t_1.1.From, iV t_1.1.To, v_5] : List Value).toArray) (fun w hS => r_load h rfl (hS.load_agg (p := 4) (us := [iV t_1.1.From, iV t_1.1.To, v_5]) rfl U44 rfl ti44 rfl rfl)) fun a h=>t_take 6 (bA 20 111) rfl rfl rfl rfl h (hS.sub (.cons (Mem.le.refl _) (.zz (.zz (.zz .ii))))) (v := .pointer (some ⟨g0, 0, none⟩)) (fun w hS => r_move h rfl) fun a h=>?_
   refine t_take 7 (bA 20 239) rfl rfl rfl rfl h (hS.sub (.cons (Mem.le.refl _) (.zz (.zz (.zz .ii))))) (v := .pointer (some ⟨g0, 0, none⟩)) (fun w hS => r_nilCheck h rfl) fun a h=>t_take 8 (bA 20 495) rfl rfl rfl rfl h (hS.sub (.cons (Mem.le.refl _) (.zz (.zz (.zz .ii))))) (v := .pointer (some ⟨g0, 2, none⟩)) (fun w hS => r_fieldAddr h U58 rfl ti56 rfl rfl rfl) fun a h=>t_take 10 (bA 20 1519) rfl rfl rfl rfl h (hS.sub (.cons (Mem.le.refl _) (.zz (.zz (.zz .ii))))) (v := iV x1) (fun w hS => r_move h rfl) fun a h=>?_
   obtain ⟨t_21, et_21, H⟩ := Option.bind_eq_some_iff.1 H
   obtain ⟨t_35, et_35, H⟩ := Option.bind_eq_some_iff.1 H
   refine h_events [4, 9] (by kernel_rfl) (by simp) ?_
   intro i hi; simp only [List.mem_cons, List.not_mem_nil, or_false] at hi; rcases hi with rfl | rfl
   ·refine ⟨_, (bA 20 1535), rfl, by kernel_rfl, ?_⟩
    refine s_load h rfl rfl (hS.load_one (p := 1) rfl U56 rfl rfl) fun a h=>wpList_nil <| x_then_n ⟨(hS.sub (.cons (Mem.le.refl _) (.zz (.zz (.zz .ii))))), ?_⟩
    refine h_event 9 (bA 20 2047) rfl (by kernel_rfl) (by kernel_rfl) <| s_load h rfl rfl (hS.load_one (p := 1) rfl U56 rfl rfl) fun a h=>wpList_nil <| x_then_n ⟨(hS.sub (.cons (Mem.le.refl _) (.zz (.zz (.zz .ii))))), ?_⟩
    refine t_takeE 11 (bA 20 4095) rfl rfl rfl rfl h (hS.sub (.cons (Mem.le.refl _) (.zz (.zz (.zz .ii))))) (f := fun ad => .pointer (some ad)) (r_indexO h U56 ti60 rfl rfl rfl hp0_0 et_21) ?_
    rintro ad_22 ⟨cs_23, hk_24, hc_25⟩
    obtain ⟨v_26, rfl, hr_27⟩ := k_nets_frame.open' hk_24
    intro a h
    refine t_take 12 (bA 20 8191) rfl rfl rfl rfl h (hS.sub (.cons (Mem.le.refl _) (.zz (.zz (.zz .ii))))) (v := .pointer (some (ad_22.add 3))) (fun w hS => r_fieldAddr h U60 rfl ti4 rfl rfl rfl) fun a h=>h_event 13 (bA 20 16383) rfl (by kernel_rfl) (by kernel_rfl) <| s_load h rfl rfl (el_one (o := 3) (fun j c h => Mem.cell_le (hS.own 2) (hc_25 j c h)) U4 rfl rfl) fun a h=>wpList_nil <| x_then_n ⟨(hS.sub (.cons (Mem.le.refl _) (.zz (.zz (.zz .ii))))), ?_⟩
    refine t_take 14 (bA 20 32767) rfl rfl rfl rfl h (hS.sub (.cons (Mem.le.refl _) (.zz (.zz (.zz .ii))))) (v := .agg ([iV t_1.1.From, iV t_1.1.To, v_5, .bool t_21.turned] : List Value).toArray) (fun w hS => r_build h ti60 pl60 rfl (.cons rfl (.cons rfl .nil)) (cs := [iV t_1.1.From, iV t_1.1.To, v_5, .bool t_21.turned]) (by kernel_rfl)) fun a h=>h_event 15 (bA 20 65535) rfl (by kernel_rfl) (by kernel_rfl) ?_
    obtain ⟨N_28, hS', le_28, lo_28⟩ := hS.freeze 2 rfl
    replace hS : Sep w0 w_20 [N_28, _, _, Mem.no, _] Z := hS'
    clear hS'
    have hq_33 : Reps k_nets_frame N_28 ([(⟨t_1.1, t_21.turned⟩ : nets_frame)] : List nets_frame) _ := ((Reps.one (d := k_nets_frame) (x := (⟨t_1.1, t_21.turned⟩ : nets_frame)) (k_nets_frame.mk' (hr_6.rd lo_28 (Mem.no_le _)))).append (Reps.nil k_nets_frame _))
    refine s_buildSlice h rfl U56 ti60 rfl rfl rfl (.cons rfl .nil) rfl rfl rfl hS hq_33 rfl fun w_29 v_30 M_31 hS' ho_32 a h => ?_
    replace hS : Sep w0 w_29 [_, _, _, _, _, M_31] Z := hS'
    clear hS' hq_33
    refine wpList_nil <| x_then_n ⟨(hS.sub (.cons le_28 (.zz (.zz (.zz (.rr .nn)))))), ?_⟩
    refine h_event 16 (bA 20 131071) rfl (by kernel_rfl) (by kernel_rfl) <| s_append (J := N_28) (I' := (A.un N_28)) (p := 2) 2932031007402 h rfl rfl rfl U56 ti60 rfl rfl rfl rfl hS rfl hp0_0 (ho_32.src (hS.own 5)) (Mem.le_un _ _) ((Mem.le.refl _).trans (hS.sndA hA)) et_35 fun w_36 v_37 M_38 hS' ho_39 a h => ?_
    replace hS : Sep w0 w_36 [_, _, M_38, _, _, _] Z := hS'
    clear hS'
    refine wpList_nil <| x_then_n ⟨(hS.sub (.cons le_28 (.zz (.zz (.zz (.rr .nn)))))), ?_⟩
    refine t_take 17 (bA 20 262143) rfl rfl rfl rfl h (hS.sub (.cons le_28 (.zz (.zz (.zz (.rr .nn)))))) (v := .pointer (some ⟨g0, 0, none⟩)) (fun w hS => r_nilCheck h rfl) fun a h=>t_take 18 (bA 20 524287) rfl rfl rfl rfl h (hS.sub (.cons le_28 (.zz (.zz (.zz (.rr .nn)))))) (v := .pointer (some ⟨g0, 2, none⟩)) (fun w hS => r_fieldAddr h U58 rfl ti56 rfl rfl rfl) fun a h=>h_event 19 (bA 20 1048575) rfl (by kernel_rfl) (by kernel_rfl) ?_
    obtain ⟨w_41, hs', hS'⟩ := hS.store (P := Try.prog) (p := 1) (o := 2) (t := 56) (v := v_37) (vs := [v_37]) rfl ti56 ho_39.cellsA rfl rfl (by intro u hu; simp only [List.mem_cons, List.not_mem_nil, or_false] at hu; rcases hu with rfl <;> first | rfl | exact ho_39.one)
    refine s_store h rfl rfl hs' ?_
    replace hS : Sep w0 w_41 [_, Mem.one g0 (.cells ([_, _, v_37] : List Value).toArray 58 (0, 0)), _, _, _, _] Z := hS'
    clear hs' hS'
    refine wpList_nil <| x_then_n ⟨(hS.sub (.cons le_28 (.zz (.zz (.zz (.rr .nn)))))), ?_⟩
    refine h_done (by kernel_rfl) <| x_then_n (hKJ_19 _ _ ?_)
    refine wp_seq <| wp_region_lit <| s_assign h rfl rfl fun a h=>wpList_nil ?_
    replace h : Fr 39 a [(4, .bool true)] := h.keep [4]
    refine x_then_n <| wp_ret ?_
    obtain rfl := Option.some.inj H
    exact f_ret h (rs := [.tmp 4]) rfl (.tmp rfl .nil) ⟨_, rfl, v_37, N_28, M_38, rfl, (Sep.sel hS [0, 1, 2] (by decide)), (ho_39.mono (Mem.un_left (Mem.le.refl _)))⟩
   ·refine ⟨_, (bA 20 2031), rfl, by kernel_rfl, ?_⟩
    refine s_load h rfl rfl (hS.load_one (p := 1) rfl U56 rfl rfl) fun a h=>wpList_nil <| x_then_n ⟨(hS.sub (.cons (Mem.le.refl _) (.zz (.zz (.zz .ii))))), ?_⟩
    refine t_takeE 11 (bA 20 4079) rfl rfl rfl rfl h (hS.sub (.cons (Mem.le.refl _) (.zz (.zz (.zz .ii))))) (f := fun ad => .pointer (some ad)) (r_indexO h U56 ti60 rfl rfl rfl hp0_0 et_21) ?_
    rintro ad_43 ⟨cs_44, hk_45, hc_46⟩
    obtain ⟨v_47, rfl, hr_48⟩ := k_nets_frame.open' hk_45
    intro a h
    refine t_take 12 (bA 20 8175) rfl rfl rfl rfl h (hS.sub (.cons (Mem.le.refl _) (.zz (.zz (.zz .ii))))) (v := .pointer (some (ad_43.add 3))) (fun w hS => r_fieldAddr h U60 rfl ti4 rfl rfl rfl) fun a h=>h_events [4, 13] (by kernel_rfl) (by simp) ?_
    intro i hi; simp only [List.mem_cons, List.not_mem_nil, or_false] at hi; rcases hi with rfl | rfl
    ·refine ⟨_, (bA 20 8191), rfl, by kernel_rfl, ?_⟩
     refine s_load h rfl rfl (hS.load_one (p := 1) rfl U56 rfl rfl) fun a h=>wpList_nil <| x_then_n ⟨(hS.sub (.cons (Mem.le.refl _) (.zz (.zz (.zz .ii))))), ?_⟩
     refine h_event 13 (bA 20 16383) rfl (by kernel_rfl) (by kernel_rfl) <| s_load h rfl rfl (el_one (o := 3) (fun j c h => Mem.cell_le (hS.own 2) (hc_46 j c h)) U4 rfl rfl) fun a h=>wpList_nil <| x_then_n ⟨(hS.sub (.cons (Mem.le.refl _) (.zz (.zz (.zz .ii))))), ?_⟩
     refine t_take 14 (bA 20 32767) rfl rfl rfl rfl h (hS.sub (.cons (Mem.le.refl _) (.zz (.zz (.zz .ii))))) (v := .agg ([iV t_1.1.From, iV t_1.1.To, v_5, .bool t_21.turned] : List Value).toArray) (fun w hS => r_build h ti60 pl60 rfl (.cons rfl (.cons rfl .nil)) (cs := [iV t_1.1.From, iV t_1.1.To, v_5, .bool t_21.turned]) (by kernel_rfl)) fun a h=>h_event 15 (bA 20 65535) rfl (by kernel_rfl) (by kernel_rfl) ?_
     obtain ⟨N_49, hS', le_49, lo_49⟩ := hS.freeze 2 rfl
     replace hS : Sep w0 w_20 [N_49, _, _, Mem.no, _] Z := hS'
     clear hS'
     have hq_54 : Reps k_nets_frame N_49 ([(⟨t_1.1, t_21.turned⟩ : nets_frame)] : List nets_frame) _ := ((Reps.one (d := k_nets_frame) (x := (⟨t_1.1, t_21.turned⟩ : nets_frame)) (k_nets_frame.mk' (hr_6.rd lo_49 (Mem.no_le _)))).append (Reps.nil k_nets_frame _))
     refine s_buildSlice h rfl U56 ti60 rfl rfl rfl (.cons rfl .nil) rfl rfl rfl hS hq_54 rfl fun w_50 v_51 M_52 hS' ho_53 a h => ?_
     replace hS : Sep w0 w_50 [_, _, _, _, _, M_52] Z := hS'
     clear hS' hq_54
     refine wpList_nil <| x_then_n ⟨(hS.sub (.cons le_49 (.zz (.zz (.zz (.rr .nn)))))), ?_⟩
     refine h_event 16 (bA 20 131071) rfl (by kernel_rfl) (by kernel_rfl) <| s_append (J := N_49) (I' := (A.un N_49)) (p := 2) 2932031007402 h rfl rfl rfl U56 ti60 rfl rfl rfl rfl hS rfl hp0_0 (ho_53.src (hS.own 5)) (Mem.le_un _ _) ((Mem.le.refl _).trans (hS.sndA hA)) et_35 fun w_57 v_58 M_59 hS' ho_60 a h => ?_
     replace hS : Sep w0 w_57 [_, _, M_59, _, _, _] Z := hS'
     clear hS'
     refine wpList_nil <| x_then_n ⟨(hS.sub (.cons le_49 (.zz (.zz (.zz (.rr .nn)))))), ?_⟩
     refine t_take 17 (bA 20 262143) rfl rfl rfl rfl h (hS.sub (.cons le_49 (.zz (.zz (.zz (.rr .nn)))))) (v := .pointer (some ⟨g0, 0, none⟩)) (fun w hS => r_nilCheck h rfl) fun a h=>t_take 18 (bA 20 524287) rfl rfl rfl rfl h (hS.sub (.cons le_49 (.zz (.zz (.zz (.rr .nn)))))) (v := .pointer (some ⟨g0, 2, none⟩)) (fun w hS => r_fieldAddr h U58 rfl ti56 rfl rfl rfl) fun a h=>h_event 19 (bA 20 1048575) rfl (by kernel_rfl) (by kernel_rfl) ?_
     obtain ⟨w_62, hs', hS'⟩ := hS.store (P := Try.prog) (p := 1) (o := 2) (t := 56) (v := v_58) (vs := [v_58]) rfl ti56 ho_60.cellsA rfl rfl (by intro u hu; simp only [List.mem_cons, List.not_mem_nil, or_false] at hu; rcases hu with rfl <;> first | rfl | exact ho_60.one)
     refine s_store h rfl rfl hs' ?_
     replace hS : Sep w0 w_62 [_, Mem.one g0 (.cells ([_, _, v_58] : List Value).toArray 58 (0, 0)), _, _, _, _] Z := hS'
     clear hs' hS'
     refine wpList_nil <| x_then_n ⟨(hS.sub (.cons le_49 (.zz (.zz (.zz (.rr .nn)))))), ?_⟩
     refine h_done (by kernel_rfl) <| x_then_n (hKJ_19 _ _ ?_)
     refine wp_seq <| wp_region_lit <| s_assign h rfl rfl fun a h=>wpList_nil ?_
     replace h : Fr 39 a [(4, .bool true)] := h.keep [4]
     refine x_then_n <| wp_ret ?_
     obtain rfl := Option.some.inj H
     exact f_ret h (rs := [.tmp 4]) rfl (.tmp rfl .nil) ⟨_, rfl, v_58, N_49, M_59, rfl, (Sep.sel hS [0, 1, 2] (by decide)), (ho_60.mono (Mem.un_left (Mem.le.refl _)))⟩
    ·refine ⟨_, (bA 20 16367), rfl, by kernel_rfl, ?_⟩
     refine s_load h rfl rfl (el_one (o := 3) (fun j c h => Mem.cell_le (hS.own 2) (hc_46 j c h)) U4 rfl rfl) fun a h=>wpList_nil <| x_then_n ⟨(hS.sub (.cons (Mem.le.refl _) (.zz (.zz (.zz .ii))))), ?_⟩
     refine t_take 14 (bA 20 32751) rfl rfl rfl rfl h (hS.sub (.cons (Mem.le.refl _) (.zz (.zz (.zz .ii))))) (v := .agg ([iV t_1.1.From, iV t_1.1.To, v_5, .bool t_21.turned] : List Value).toArray) (fun w hS => r_build h ti60 pl60 rfl (.cons rfl (.cons rfl .nil)) (cs := [iV t_1.1.From, iV t_1.1.To, v_5, .bool t_21.turned]) (by kernel_rfl)) fun a h=>h_events [4, 15] (by kernel_rfl) (by simp) ?_
     intro i hi; simp only [List.mem_cons, List.not_mem_nil, or_false] at hi; rcases hi with rfl | rfl
     ·refine ⟨_, (bA 20 32767), rfl, by kernel_rfl, ?_⟩
      refine s_load h rfl rfl (hS.load_one (p := 1) rfl U56 rfl rfl) fun a h=>wpList_nil <| x_then_n ⟨(hS.sub (.cons (Mem.le.refl _) (.zz (.zz (.zz .ii))))), ?_⟩
      refine h_event 15 (bA 20 65535) rfl (by kernel_rfl) (by kernel_rfl) ?_
      obtain ⟨N_63, hS', le_63, lo_63⟩ := hS.freeze 2 rfl
      replace hS : Sep w0 w_20 [N_63, _, _, Mem.no, _] Z := hS'
      clear hS'
      have hq_68 : Reps k_nets_frame N_63 ([(⟨t_1.1, t_21.turned⟩ : nets_frame)] : List nets_frame) _ := ((Reps.one (d := k_nets_frame) (x := (⟨t_1.1, t_21.turned⟩ : nets_frame)) (k_nets_frame.mk' (hr_6.rd lo_63 (Mem.no_le _)))).append (Reps.nil k_nets_frame _))
      refine s_buildSlice h rfl U56 ti60 rfl rfl rfl (.cons rfl .nil) rfl rfl rfl hS hq_68 rfl fun w_64 v_65 M_66 hS' ho_67 a h => ?_
      replace hS : Sep w0 w_64 [_, _, _, _, _, M_66] Z := hS'
      clear hS' hq_68
      refine wpList_nil <| x_then_n ⟨(hS.sub (.cons le_63 (.zz (.zz (.zz (.rr .nn)))))), ?_⟩
      refine h_event 16 (bA 20 131071) rfl (by kernel_rfl) (by kernel_rfl) <| s_append (J := N_63) (I' := (A.un N_63)) (p := 2) 2932031007402 h rfl rfl rfl U56 ti60 rfl rfl rfl rfl hS rfl hp0_0 (ho_67.src (hS.own 5)) (Mem.le_un _ _) ((Mem.le.refl _).trans (hS.sndA hA)) et_35 fun w_71 v_72 M_73 hS' ho_74 a h => ?_
      replace hS : Sep w0 w_71 [_, _, M_73, _, _, _] Z := hS'
      clear hS'
      refine wpList_nil <| x_then_n ⟨(hS.sub (.cons le_63 (.zz (.zz (.zz (.rr .nn)))))), ?_⟩
      refine t_take 17 (bA 20 262143) rfl rfl rfl rfl h (hS.sub (.cons le_63 (.zz (.zz (.zz (.rr .nn)))))) (v := .pointer (some ⟨g0, 0, none⟩)) (fun w hS => r_nilCheck h rfl) fun a h=>t_take 18 (bA 20 524287) rfl rfl rfl rfl h (hS.sub (.cons le_63 (.zz (.zz (.zz (.rr .nn)))))) (v := .pointer (some ⟨g0, 2, none⟩)) (fun w hS => r_fieldAddr h U58 rfl ti56 rfl rfl rfl) fun a h=>h_event 19 (bA 20 1048575) rfl (by kernel_rfl) (by kernel_rfl) ?_
      obtain ⟨w_76, hs', hS'⟩ := hS.store (P := Try.prog) (p := 1) (o := 2) (t := 56) (v := v_72) (vs := [v_72]) rfl ti56 ho_74.cellsA rfl rfl (by intro u hu; simp only [List.mem_cons, List.not_mem_nil, or_false] at hu; rcases hu with rfl <;> first | rfl | exact ho_74.one)
      refine s_store h rfl rfl hs' ?_
      replace hS : Sep w0 w_76 [_, Mem.one g0 (.cells ([_, _, v_72] : List Value).toArray 58 (0, 0)), _, _, _, _] Z := hS'
      clear hs' hS'
      refine wpList_nil <| x_then_n ⟨(hS.sub (.cons le_63 (.zz (.zz (.zz (.rr .nn)))))), ?_⟩
      refine h_done (by kernel_rfl) <| x_then_n (hKJ_19 _ _ ?_)
      refine wp_seq <| wp_region_lit <| s_assign h rfl rfl fun a h=>wpList_nil ?_
      replace h : Fr 39 a [(4, .bool true)] := h.keep [4]
      refine x_then_n <| wp_ret ?_
      obtain rfl := Option.some.inj H
      exact f_ret h (rs := [.tmp 4]) rfl (.tmp rfl .nil) ⟨_, rfl, v_72, N_63, M_73, rfl, (Sep.sel hS [0, 1, 2] (by decide)), (ho_74.mono (Mem.un_left (Mem.le.refl _)))⟩
     ·refine ⟨_, (bA 20 65519), rfl, by kernel_rfl, ?_⟩
      obtain ⟨N_77, hS', le_77, lo_77⟩ := hS.freeze 2 rfl
      replace hS : Sep w0 w_20 [N_77, _, _, Mem.no, _] Z := hS'
      clear hS'
      have hq_82 : Reps k_nets_frame N_77 ([(⟨t_1.1, t_21.turned⟩ : nets_frame)] : List nets_frame) _ := ((Reps.one (d := k_nets_frame) (x := (⟨t_1.1, t_21.turned⟩ : nets_frame)) (k_nets_frame.mk' (hr_6.rd lo_77 (Mem.no_le _)))).append (Reps.nil k_nets_frame _))
      refine s_buildSlice h rfl U56 ti60 rfl rfl rfl (.cons rfl .nil) rfl rfl rfl hS hq_82 rfl fun w_78 v_79 M_80 hS' ho_81 a h => ?_
      replace hS : Sep w0 w_78 [_, _, _, _, _, M_80] Z := hS'
      clear hS' hq_82
      refine wpList_nil <| x_then_n ⟨(hS.sub (.cons le_77 (.zz (.zz (.zz (.rr .nn)))))), ?_⟩
      refine h_event 4 (bA 20 65535) rfl (by kernel_rfl) (by kernel_rfl) <| s_load h rfl rfl (hS.load_one (p := 1) rfl U56 rfl rfl) fun a h=>wpList_nil <| x_then_n ⟨(hS.sub (.cons le_77 (.zz (.zz (.zz (.rr .nn)))))), ?_⟩
      refine h_event 16 (bA 20 131071) rfl (by kernel_rfl) (by kernel_rfl) <| s_append (J := N_77) (I' := (A.un N_77)) (p := 2) 2932031007402 h rfl rfl rfl U56 ti60 rfl rfl rfl rfl hS rfl hp0_0 (ho_81.src (hS.own 5)) (Mem.le_un _ _) ((Mem.le.refl _).trans (hS.sndA hA)) et_35 fun w_85 v_86 M_87 hS' ho_88 a h => ?_
      replace hS : Sep w0 w_85 [_, _, M_87, _, _, _] Z := hS'
      clear hS'
      refine wpList_nil <| x_then_n ⟨(hS.sub (.cons le_77 (.zz (.zz (.zz (.rr .nn)))))), ?_⟩
      refine t_take 17 (bA 20 262143) rfl rfl rfl rfl h (hS.sub (.cons le_77 (.zz (.zz (.zz (.rr .nn)))))) (v := .pointer (some ⟨g0, 0, none⟩)) (fun w hS => r_nilCheck h rfl) fun a h=>t_take 18 (bA 20 524287) rfl rfl rfl rfl h (hS.sub (.cons le_77 (.zz (.zz (.zz (.rr .nn)))))) (v := .pointer (some ⟨g0, 2, none⟩)) (fun w hS => r_fieldAddr h U58 rfl ti56 rfl rfl rfl) fun a h=>h_event 19 (bA 20 1048575) rfl (by kernel_rfl) (by kernel_rfl) ?_
      obtain ⟨w_90, hs', hS'⟩ := hS.store (P := Try.prog) (p := 1) (o := 2) (t := 56) (v := v_86) (vs := [v_86]) rfl ti56 ho_88.cellsA rfl rfl (by intro u hu; simp only [List.mem_cons, List.not_mem_nil, or_false] at hu; rcases hu with rfl <;> first | rfl | exact ho_88.one)
      refine s_store h rfl rfl hs' ?_
      replace hS : Sep w0 w_90 [_, Mem.one g0 (.cells ([_, _, v_86] : List Value).toArray 58 (0, 0)), _, _, _, _] Z := hS'
      clear hs' hS'
      refine wpList_nil <| x_then_n ⟨(hS.sub (.cons le_77 (.zz (.zz (.zz (.rr .nn)))))), ?_⟩
      refine h_done (by kernel_rfl) <| x_then_n (hKJ_19 _ _ ?_)
      refine wp_seq <| wp_region_lit <| s_assign h rfl rfl fun a h=>wpList_nil ?_
      replace h : Fr 39 a [(4, .bool true)] := h.keep [4]
      refine x_then_n <| wp_ret ?_
      obtain rfl := Option.some.inj H
      exact f_ret h (rs := [.tmp 4]) rfl (.tmp rfl .nil) ⟨_, rfl, v_86, N_77, M_87, rfl, (Sep.sel hS [0, 1, 2] (by decide)), (ho_88.mono (Mem.un_left (Mem.le.refl _)))⟩
 clear hKJ_13
 refine wp_region_lit <| s_move h rfl rfl fun a h=>s_not h rfl rfl fun a h=>s_move h rfl rfl fun a h=>?_
 by_cases hc_91 : t_1.2 = true
 ·rw [if_pos hc_91] at H
  refine s_on h rfl rfl (nf hc_91) <| s_move h rfl rfl fun a h=>s_on h rfl rfl (nf hc_91) ?_
  obtain ⟨t_92, et_92, H⟩ := Option.bind_eq_some_iff.1 H
  refine s_call h rfl Try.call26 rfl (nets_Net_room.calls _ x0_n x0_mask x0_l _ t_92 w0 _ _ _ (Mem.le.refl _) (hS.enter [0] (by decide)) (hp0_0.rd (hS.own_zed [0] 1 (by decide)) (hA.trans (hS.le_zed [0]))) et_92) ?_
  rintro _ w_93 ⟨N_94, rfl, hS'⟩
  intro a h
  obtain ⟨N_95, hS'', le_95, ln_95⟩ := hS.call [0] (by decide) rfl (l' := [Mem.one g0 (.cells ([iV x0_n, iV x0_mask, p0_0] : List Value).toArray 58 (0, 0))]) (ow := []) rfl hS'
  replace hS : Sep w0 w_93 [N_95, _, _, _, _] Z := hS''
  clear hS' hS''
  refine s_on h rfl rfl (nf hc_91) <| s_not h rfl rfl fun a h=>s_pick_f h rfl rfl (nf hc_91) rfl fun a h=>wpList_nil ?_
  replace hS : Sep w0 w_93 [_, _, _, _, _] Z := hS
  replace h : Fr 39 a [(0, _), (1, _), (4, .bool false), (5, .pointer (some ⟨g_10, 0, none⟩)), (19, .bool (!t_92))] := h.keep [0, 1, 4, 5, 19]
  exact x_then_n (hJ_j_17 (!t_92) H _ _ ⟨N_95, h, (Sep.sel hS [0, 1, 2, 3, 4] (by decide)), le_95⟩)
 ·rw [if_neg hc_91] at H
  refine s_off h rfl rfl rfl (nt (Bool.eq_false_iff.2 hc_91)) fun a h=>s_off h rfl rfl rfl (nt (Bool.eq_false_iff.2 hc_91)) fun a h=>s_off h rfl rfl rfl (nt (Bool.eq_false_iff.2 hc_91)) fun a h=>s_pick_t h rfl rfl (nt (Bool.eq_false_iff.2 hc_91)) rfl fun a h=>wpList_nil ?_
  replace hS : Sep w0 w_11 [_, _, _, _, _] Z := hS
  replace h : Fr 39 a [(0, _), (1, _), (4, .bool false), (5, .pointer (some ⟨g_10, 0, none⟩)), (19, .bool true)] := h.keep [0, 1, 4, 5, 19]
  exact x_then_n (hJ_j_17 true H _ _ ⟨N_4, h, (Sep.sel hS [0, 1, 2, 3, 4] (by decide)), (Mem.le.refl _)⟩)

set_option maxHeartbeats 4000000 in
set_option maxRecDepth 20000 in
theorem nets_Net_Flip.calls (g0 : Nat) (x0_n : Int) (x0_mask : Int) (x0_l : List nets_frame) (p0_0 : Value) (M0_0 : Mem) (x1 : Int) (x2 : Int) (r : Bool × Int × Int × (List nets_frame)) (w0 w : World) (Z A : Mem) (hA : A.le Z) (hS : Sep w0 w [Mem.one g0 (.cells ([iV x0_n, iV x0_mask, p0_0] : List Value).toArray 58 (0, 0)), M0_0] Z) (hp0_0 : Own k_nets_frame 60 M0_0 A p0_0 x0_l)
    (H : nets_Net_Flip.f x0_n x0_mask x0_l x1 x2 = some r) :
    Calls Try.prog 16 [.pointer (some ⟨g0, 0, none⟩), iV x1, iV x2].toArray w (Ret fun v w' => ∃ (u0 : Value) (N : Mem) (M100 : Mem), v = .bool r.1 ∧ Sep w0 w' [N, Mem.one g0 (.cells ([iV r.2.1, iV r.2.2.1, u0] : List Value).toArray 58 (0, 0)), M100] Z ∧ Own k_nets_frame 60 M100 (A.un N) u0 r.2.2.2) := by
 unfold nets_Net_Flip.f at H
 refine f_enter _ Try.func16 rfl Try.ntmps16 rfl fun a h=>?_
 replace h : Fr 67 a [(0, .pointer (some ⟨g0, 0, none⟩)), (1, iV x1), (2, iV x2)] := h
 replace hS := hS.start
 replace hS : Sep w0 w [_, _, _] Z := hS
 refine wp_seq <| wp_region_lit <| s_assign h rfl rfl fun a h=>wpList_nil <| x_then_n <| c_seq fun KJ_1 hKJ_1 => c_seq fun KJ_2 hKJ_2 => ?_
 have hJ_j_6 : ∀ (x_4 : Bool), nets_Net_Flip.J1 x0_n x0_mask x0_l x1 x2 x_4 = some r → ∀ (a : Act) (w_5 : World), (∃ (N_3 : Mem), Fr 67 a [(0, .pointer (some ⟨g0, 0, none⟩)), (1, iV x1), (2, iV x2), (6, .bool false), (25, .bool x_4)] ∧ Sep w0 w_5 [N_3, Mem.one g0 (.cells ([iV x0_n, iV x0_mask, p0_0] : List Value).toArray 58 (0, 0)), M0_0] Z ∧ Mem.no.le N_3) → KJ_2 a w_5 := by
  clear H h hS a
  rintro x_4 H a w_5 ⟨N_3, h, hS, le_3⟩
  unfold nets_Net_Flip.J1 at H
  refine hKJ_2 _ _ ?_
  by_cases hc_7 : x_4 = true
  ·rw [if_pos hc_7] at H
   refine c_cond_t h rfl hc_7 <| wp_seq <| wp_region_lit <| s_assign h rfl rfl fun a h=>wpList_nil <| x_then_n <| wp_ret (x_then_r ?_)
   obtain rfl := Option.some.inj H
   exact f_ret h (rs := [.tmp 6]) rfl (.tmp rfl .nil) ⟨_, rfl, p0_0, N_3, M0_0, rfl, (Sep.sel hS [0, 1, 2] (by decide)), (hp0_0.mono (Mem.le_un _ _))⟩
  ·rw [if_neg hc_7] at H
   refine c_cond_f h rfl (Bool.eq_false_iff.2 hc_7) <| wp_skip <| x_then_n (hKJ_1 _ _ ?_)
   refine wp_seq <| wp_region_lit <| s_move h rfl rfl fun a h=>s_nilCheck h rfl rfl fun a h=>s_fieldAddr h rfl U58 rfl ti56 rfl rfl fun a h=>s_load h rfl rfl (hS.load_one (p := 1) rfl U56 rfl rfl) fun a h=>s_move h rfl rfl fun a h=>?_
   obtain ⟨t_8, et_8, H⟩ := Option.bind_eq_some_iff.1 H
   refine v_indexO h rfl U56 ti60 rfl rfl rfl hp0_0 (hS.own 2) et_8 fun ad_9 cs_10 hk_11 hc_12 => ?_
   obtain ⟨v_13, rfl, hr_14⟩ := k_nets_frame.open' hk_11
   intro a h
   refine s_fieldAddr h rfl U60 rfl ti44 rfl rfl fun a h=>s_fieldAddr h rfl U44 rfl ti26 rfl rfl fun a h=>s_load h rfl rfl (by rw [Addr.add_add]; exact el_one (o := 2) hc_12 U26 rfl rfl) fun a h=>?_
   obtain ⟨t_15, et_15, H⟩ := Option.bind_eq_some_iff.1 H
   refine s_call h rfl Try.call30 rfl (slices_Clone_sbyte_byte.calls t_8.f.Bytes _ t_15 w0 _ _ _ (Mem.le.refl _) (hS.enter [] (by decide)) (hr_14.mono (hA.trans (hS.le_zed []))) et_15) ?_
   rintro v_19 w_16 ⟨_, N_17, M_21, rfl, hS', hr_20⟩
   intro a h
   obtain ⟨N_18, hS'', le_18, ln_18⟩ := hS.call [] (by decide) rfl (l' := []) (ow := [M_21]) rfl hS'
   replace hS : Sep w0 w_16 [N_18, _, _, M_21] Z := hS''
   clear hS' hS''
   refine s_assign h rfl rfl fun a h=>wpList_nil <| x_then_n <| wp_seq <| wp_region_lit <| s_move h rfl rfl fun a h=>s_move h rfl rfl fun a h=>s_lenO h rfl U26 rfl hr_20 fun a h=>s_arith (r := w64 (8 * (t_15.length : Int))) h rfl rfl rfl (.inr (.inr ⟨rfl, rfl⟩)) fun a h=>?_
   obtain ⟨t_23, et_23, H⟩ := Option.bind_eq_some_iff.1 H
   refine s_div (r := t_23) h rfl rfl rfl (rem_some et_23).1 (.inr ⟨rfl, (rem_some et_23).2⟩) fun a h=>s_assign h rfl rfl fun a h=>wpList_nil <| x_then_n <| c_seq fun KJ_24 hKJ_24 => h_begin (S := fun w => Sep w0 w [N_18, Mem.one g0 (.cells ([iV x0_n, iV x0_mask, p0_0] : List Value).toArray 58 (0, 0)), M0_0, Mem.no] Z) 11 (by kernel_rfl) rfl (bA 11 0) (by kernel_rfl) hS fun w_25 hS => ?_
   replace hS : Sep w0 w_25 [_, _, _, _] Z := hS
   refine t_take 0 (bA 11 1) rfl rfl rfl rfl h (hS.sub (.cons (Mem.le.refl _) (.rr (.rr (.zz .ii))))) (v := v_19) (fun w hS => r_move h rfl) fun a h=>t_take 1 (bA 11 3) rfl rfl rfl rfl h (hS.sub (.cons (Mem.le.refl _) (.rr (.rr (.zz .ii))))) (v := iV t_23) (fun w hS => r_move h rfl) fun a h=>t_take 2 (bA 11 7) rfl rfl rfl rfl h (hS.sub (.cons (Mem.le.refl _) (.rr (.rr (.zz .ii))))) (v := iV (w64 (Int.tdiv t_23 8))) (fun w hS => r_div (r := w64 (Int.tdiv t_23 8)) h rfl rfl (by decide) (.inl ⟨rfl, rfl⟩)) fun a h=>?_
   obtain ⟨t_26, et_26, H⟩ := Option.bind_eq_some_iff.1 H
   refine t_takeE 3 (bA 11 15) rfl rfl rfl rfl h (hS.sub (.cons (Mem.le.refl _) (.rr (.rr (.zz .ii))))) (f := fun ad => .pointer (some ad)) (r_indexO h U26 ti5 rfl rfl rfl hr_20 et_26) ?_
   rintro ad_27 ⟨cs_28, hk_29, hc_30⟩
   obtain rfl := (show cs_28 = [.int .u8 (t_26.toNat : Int)] from hk_29)
   intro a h
   refine t_take 5 (bA 11 47) rfl rfl rfl rfl h (hS.sub (.cons (Mem.le.refl _) (.rr (.rr (.zz .ii))))) (v := iV t_23) (fun w hS => r_move h rfl) fun a h=>t_take 6 (bA 11 111) rfl rfl rfl rfl h (hS.sub (.cons (Mem.le.refl _) (.rr (.rr (.zz .ii))))) (v := iV (Int.tmod t_23 8)) (fun w hS => r_div (r := Int.tmod t_23 8) h rfl rfl (by decide) (.inr ⟨rfl, rfl⟩)) fun a h=>?_
   obtain ⟨u_31, eu_31, H⟩ := Option.bind_eq_some_iff.1 H
   refine t_take 7 (bA 11 239) rfl rfl rfl rfl h (hS.sub (.cons (Mem.le.refl _) (.rr (.rr (.zz .ii))))) (v := .int .u8 ((toU8 (((1 : UInt8).toNat : Int) * 2 ^ (min (Int.tmod t_23 8 : Int).toNat 8))).toNat : Int)) (fun w hS => r_shift (r := ((toU8 (((1 : UInt8).toNat : Int) * 2 ^ (min (Int.tmod t_23 8 : Int).toNat 8))).toNat : Int)) h rfl rfl (must_some eu_31) (.inl ⟨rfl, (wrap_u8 _).symm⟩)) fun a h=>h_event 4 (bA 11 255) rfl (by kernel_rfl) (by kernel_rfl) <| s_load h rfl rfl (el_one (o := 0) (fun j c h => Mem.cell_le (hS.own 3) (hc_30 j c h)) U5 rfl rfl) fun a h=>wpList_nil <| x_then_n ⟨(hS.sub (.cons (Mem.le.refl _) (.rr (.rr (.zz .ii))))), ?_⟩
   refine t_take 8 (bA 11 511) rfl rfl rfl rfl h (hS.sub (.cons (Mem.le.refl _) (.rr (.rr (.zz .ii))))) (v := .int .u8 ((t_26 ^^^ (toU8 (((1 : UInt8).toNat : Int) * 2 ^ (min (Int.tmod t_23 8 : Int).toNat 8)))).toNat : Int)) (fun w hS => r_bits (i := (t_26.toNat : Int)) (j := ((toU8 (((1 : UInt8).toNat : Int) * 2 ^ (min (Int.tmod t_23 8 : Int).toNat 8))).toNat : Int)) (r := ((t_26 ^^^ (toU8 (((1 : UInt8).toNat : Int) * 2 ^ (min (Int.tmod t_23 8 : Int).toNat 8)))).toNat : Int)) h rfl rfl (.inr (.inr (.inl ⟨rfl, (bxor8 _ _).symm⟩)))) fun a h=>h_event 9 (bA 11 1023) rfl (by kernel_rfl) (by kernel_rfl) ?_
   obtain ⟨t_32, et_32, H⟩ := Option.bind_eq_some_iff.1 H
   refine s_indexOwn h rfl U26 ti5 rfl rfl rfl hr_20 et_32 fun g_33 cur_34 hM_35 a h => wpList_nil <| x_then_n ⟨(hS.sub (.cons (Mem.le.refl _) (.rr (.rr (.zz .ii))))), ?_⟩
   refine h_event 10 (bA 11 2047) rfl (by kernel_rfl) (by kernel_rfl) ?_
   obtain ⟨w_36, M_37, hs', hS', ho_38⟩ := Own.stored (P := Try.prog) (p := 3) (t := 5) (o := 0) (nv := .int .u8 ((t_26 ^^^ (toU8 (((1 : UInt8).toNat : Int) * 2 ^ (min (Int.tmod t_23 8 : Int).toNat 8)))).toNat : Int)) (vs := [.int .u8 ((t_26 ^^^ (toU8 (((1 : UInt8).toNat : Int) * 2 ^ (min (Int.tmod t_23 8 : Int).toNat 8)))).toNat : Int)]) (u' := t_26 ^^^ (toU8 (((1 : UInt8).toNat : Int) * 2 ^ (min (Int.tmod t_23 8 : Int).toNat 8)))) hS rfl hr_20 hM_35 et_32 ti5 rfl rfl rfl (by intro u hu; simp only [List.mem_cons, List.not_mem_nil, or_false] at hu; rcases hu with rfl <;> rfl) (fun cs hk => by obtain rfl := (show cs = [_] from hk); rfl)
   refine s_store h rfl rfl hs' ?_
   replace hS : Sep w0 w_36 [_, _, _, M_37] Z := hS'
   clear hs' hS'
   refine wpList_nil <| x_then_n ⟨(hS.sub (.cons (Mem.le.refl _) (.rr (.rr (.zz .ii))))), ?_⟩
   refine h_done (by kernel_rfl) ?_
   replace h : Fr 67 a [(0, _), (1, _), (6, _), (7, v_19)] := h.keep [0, 1, 6, 7]
   refine x_then_n (hKJ_24 _ _ ?_)
   refine c_seq fun KJ_39 hKJ_39 => h_begin (S := fun w => Sep w0 w [N_18, Mem.one g0 (.cells ([iV x0_n, iV x0_mask, p0_0] : List Value).toArray 58 (0, 0)), Mem.no, Mem.no] Z) 18 (by kernel_rfl) rfl (bA 18 0) (by kernel_rfl) hS fun w_40 hS => ?_
   replace hS : Sep w0 w_40 [_, _, _, _] Z := hS
   refine t_take 0 (bA 18 1) rfl rfl rfl rfl h (hS.sub (.cons (Mem.le.refl _) (.rr (.zz (.zz .ii))))) (v := .pointer (some ⟨g0, 0, none⟩)) (fun w hS => r_move h rfl) fun a h=>t_take 1 (bA 18 3) rfl rfl rfl rfl h (hS.sub (.cons (Mem.le.refl _) (.rr (.zz (.zz .ii))))) (v := .pointer (some ⟨g0, 0, none⟩)) (fun w hS => r_nilCheck h rfl) fun a h=>t_take 2 (bA 18 7) rfl rfl rfl rfl h (hS.sub (.cons (Mem.le.refl _) (.rr (.zz (.zz .ii))))) (v := .pointer (some ⟨g0, 2, none⟩)) (fun w hS => r_fieldAddr h U58 rfl ti56 rfl rfl rfl) fun a h=>t_take 3 (bA 18 15) rfl rfl rfl rfl h (hS.sub (.cons (Mem.le.refl _) (.rr (.zz (.zz .ii))))) (v := p0_0) (fun w hS => r_load h rfl (hS.load_one (p := 1) rfl U56 rfl rfl)) fun a h=>t_take 4 (bA 18 31) rfl rfl rfl rfl h (hS.sub (.cons (Mem.le.refl _) (.rr (.zz (.zz .ii))))) (v := iV x1) (fun w hS => r_move h rfl) fun a h=>t_take 5 (bA 18 63) rfl rfl rfl rfl h (hS.sub (.cons (Mem.le.refl _) (.rr (.zz (.zz .ii))))) (v := .pointer (some ⟨g0, 0, none⟩)) (fun w hS => r_move h rfl) fun a h=>?_
   refine t_take 6 (bA 18 127) rfl rfl rfl rfl h (hS.sub (.cons (Mem.le.refl _) (.rr (.zz (.zz .ii))))) (v := .pointer (some ⟨g0, 0, none⟩)) (fun w hS => r_nilCheck h rfl) fun a h=>t_take 7 (bA 18 255) rfl rfl rfl rfl h (hS.sub (.cons (Mem.le.refl _) (.rr (.zz (.zz .ii))))) (v := .pointer (some ⟨g0, 2, none⟩)) (fun w hS => r_fieldAddr h U58 rfl ti56 rfl rfl rfl) fun a h=>t_take 8 (bA 18 511) rfl rfl rfl rfl h (hS.sub (.cons (Mem.le.refl _) (.rr (.zz (.zz .ii))))) (v := p0_0) (fun w hS => r_load h rfl (hS.load_one (p := 1) rfl U56 rfl rfl)) fun a h=>t_take 9 (bA 18 1023) rfl rfl rfl rfl h (hS.sub (.cons (Mem.le.refl _) (.rr (.zz (.zz .ii))))) (v := iV x1) (fun w hS => r_move h rfl) fun a h=>t_take 10 (bA 18 2047) rfl rfl rfl rfl h (hS.sub (.cons (Mem.le.refl _) (.rr (.zz (.zz .ii))))) (v := v_19) (fun w hS => r_move h rfl) fun a h=>h_event 11 (bA 18 4095) rfl (by kernel_rfl) (by kernel_rfl) ?_
   obtain ⟨t_41, et_41, H⟩ := Option.bind_eq_some_iff.1 H
   refine s_indexOwn h rfl U56 ti60 rfl rfl rfl hp0_0 et_41 fun g_42 cur_43 hM_44 a h => wpList_nil <| x_then_n ⟨(hS.sub (.cons (Mem.le.refl _) (.rr (.zz (.zz .ii))))), ?_⟩
   refine t_take 12 (bA 18 8191) rfl rfl rfl rfl h (hS.sub (.cons (Mem.le.refl _) (.rr (.zz (.zz .ii))))) (v := .pointer (some ⟨g_42, (x1).toNat * k_nets_frame.sz + 0, none⟩)) (fun w hS => r_fieldAddr h U60 rfl ti44 rfl rfl rfl) fun a h=>t_take 13 (bA 18 16383) rfl rfl rfl rfl h (hS.sub (.cons (Mem.le.refl _) (.rr (.zz (.zz .ii))))) (v := .pointer (some ⟨g_42, (x1).toNat * k_nets_frame.sz + 2, none⟩)) (fun w hS => r_fieldAddr h U44 rfl ti26 rfl rfl rfl) fun a h=>h_event 14 (bA 18 32767) rfl (by kernel_rfl) (by kernel_rfl) ?_
   obtain ⟨N_45, hS', le_45, lo_45⟩ := hS.freeze 2 rfl
   replace hS : Sep w0 w_40 [N_45, _, _, Mem.no] Z := hS'
   clear hS'
   obtain ⟨w_46, M_47, hs', hS', ho_48⟩ := Own.stored (P := Try.prog) (p := 2) (t := 26) (o := 2) (nv := v_19) (vs := [v_19]) (u' := (⟨(⟨t_41.f.From, t_41.f.To, (t_15.set ((w64 (Int.tdiv t_23 8))).toNat (t_26 ^^^ (toU8 (((1 : UInt8).toNat : Int) * 2 ^ (min (Int.tmod t_23 8 : Int).toNat 8)))))⟩ : api_Flight), t_41.turned⟩ : nets_frame)) hS rfl (hp0_0.mono (Mem.le_un _ _)) hM_44 et_41 ti26 (ho_38.rd lo_45 (Mem.no_le _)).cellsA rfl rfl (by intro u hu; simp only [List.mem_cons, List.not_mem_nil, or_false] at hu; rcases hu with rfl <;> first | rfl | exact (ho_38.rd lo_45 (Mem.no_le _)).one) (by intro cs hk; obtain ⟨v_49, rfl, hr_50⟩ := k_nets_frame.open' hk; exact k_nets_frame.mk' ((ho_38.rd lo_45 (Mem.no_le _)).mono ((Mem.le.refl _).trans (hS.sndA hA))))
   refine s_store h rfl rfl hs' ?_
   replace hS : Sep w0 w_46 [_, _, M_47, _] Z := hS'
   clear hs' hS'
   refine wpList_nil <| x_then_n ⟨(hS.sub (.cons le_45 (.rr (.zz (.zz .ii))))), ?_⟩
   refine h_event 15 (bA 18 65535) rfl (by kernel_rfl) (by kernel_rfl) ?_
   obtain ⟨t_51, et_51, H⟩ := Option.bind_eq_some_iff.1 H
   refine s_indexOwn h rfl U56 ti60 rfl rfl rfl ho_48 et_51 fun g_52 cur_53 hM_54 a h => wpList_nil <| x_then_n ⟨(hS.sub (.cons le_45 (.rr (.zz (.zz .ii))))), ?_⟩
   refine t_take 16 (bA 18 131071) rfl rfl rfl rfl h (hS.sub (.cons le_45 (.rr (.zz (.zz .ii))))) (v := .pointer (some ⟨g_52, (x1).toNat * k_nets_frame.sz + 3, none⟩)) (fun w hS => r_fieldAddr h U60 rfl ti4 rfl rfl rfl) fun a h=>h_event 17 (bA 18 262143) rfl (by kernel_rfl) (by kernel_rfl) ?_
   obtain ⟨w_55, M_56, hs', hS', ho_57⟩ := Own.stored (P := Try.prog) (p := 2) (t := 4) (o := 3) (nv := .bool true) (vs := [.bool true]) (u' := (⟨t_51.f, true⟩ : nets_frame)) hS rfl ho_48 hM_54 et_51 ti4 rfl rfl rfl (by intro u hu; simp only [List.mem_cons, List.not_mem_nil, or_false] at hu; rcases hu with rfl <;> rfl) (by intro cs hk; obtain ⟨v_58, rfl, hr_59⟩ := k_nets_frame.open' hk; exact k_nets_frame.mk' hr_59)
   refine s_store h rfl rfl hs' ?_
   replace hS : Sep w0 w_55 [_, _, M_56, _] Z := hS'
   clear hs' hS'
   refine wpList_nil <| x_then_n ⟨(hS.sub (.cons le_45 (.rr (.zz (.zz .ii))))), ?_⟩
   refine h_done (by kernel_rfl) <| x_then_n (hKJ_39 _ _ ?_)
   refine wp_seq <| wp_region_lit <| s_assign h rfl rfl fun a h=>wpList_nil <| x_then_n <| wp_ret ?_
   obtain rfl := Option.some.inj H
   exact f_ret h (rs := [.tmp 6]) rfl (.tmp rfl .nil) ⟨_, rfl, p0_0, N_45, M_56, rfl, (Sep.sel hS [0, 1, 2] (by decide)), (ho_57.mono (Mem.un_left (Mem.le.refl _)))⟩
 clear hKJ_2
 refine wp_region_lit <| s_move h rfl rfl fun a h=>s_move h rfl rfl fun a h=>?_
 obtain ⟨t_60, et_60, H⟩ := Option.bind_eq_some_iff.1 H
 refine s_call h rfl Try.call29 rfl (nets_Net_has.calls _ x0_n x0_mask x0_l _ x1 t_60 w0 _ _ _ (Mem.le.refl _) (hS.enter [0] (by decide)) (hp0_0.rd (hS.own_zed [0] 1 (by decide)) (hA.trans (hS.le_zed [0]))) et_60) ?_
 rintro _ w_61 ⟨N_62, rfl, hS'⟩
 intro a h
 obtain ⟨N_63, hS'', le_63, ln_63⟩ := hS.call [0] (by decide) rfl (l' := [Mem.one g0 (.cells ([iV x0_n, iV x0_mask, p0_0] : List Value).toArray 58 (0, 0))]) (ow := []) rfl hS'
 replace hS : Sep w0 w_61 [N_63, _, _] Z := hS''
 clear hS' hS''
 refine s_not h rfl rfl fun a h=>s_move h rfl rfl fun a h=>?_
 by_cases hc_64 : t_60 = true
 ·rw [if_pos hc_64] at H
  refine s_on h rfl rfl (nf hc_64) <| s_move h rfl rfl fun a h=>s_on h rfl rfl (nf hc_64) <| s_cmp (b := decide (x2 < 0)) h rfl rfl rfl (.inr (.inr (.inl ⟨rfl, rfl⟩))) fun a h=>s_pick_f h rfl rfl (nf hc_64) rfl fun a h=>s_move h rfl rfl fun a h=>?_
  by_cases hc_65 : x2 < 0
  ·rw [if_pos hc_65] at H
   refine s_off h rfl rfl rfl (decide_eq_true hc_65) fun a h=>s_off h rfl rfl rfl (decide_eq_true hc_65) fun a h=>s_off h rfl rfl rfl (decide_eq_true hc_65) fun a h=>s_off h rfl rfl rfl (decide_eq_true hc_65) fun a h=>s_off h rfl rfl rfl (decide_eq_true hc_65) fun a h=>s_off h rfl rfl rfl (decide_eq_true hc_65) fun a h=>s_off h rfl rfl rfl (decide_eq_true hc_65) fun a h=>s_off h rfl rfl rfl (decide_eq_true hc_65) fun a h=>s_pick_t h rfl rfl (decide_eq_true hc_65) rfl fun a h=>wpList_nil ?_
   replace hS : Sep w0 w_61 [_, _, _] Z := hS
   replace h : Fr 67 a [(0, _), (1, _), (2, _), (6, .bool false), (25, .bool true)] := h.keep [0, 1, 2, 6, 25]
   exact x_then_n (hJ_j_6 true H _ _ ⟨N_63, h, (Sep.sel hS [0, 1, 2] (by decide)), le_63⟩)
  ·rw [if_neg hc_65] at H
   refine s_on h rfl rfl (decide_eq_false hc_65) <| s_move h rfl rfl fun a h=>s_on h rfl rfl (decide_eq_false hc_65) <| s_nilCheck h rfl rfl fun a h=>s_on h rfl rfl (decide_eq_false hc_65) <| s_fieldAddr h rfl U58 rfl ti56 rfl rfl fun a h=>s_on h rfl rfl (decide_eq_false hc_65) <| s_load h rfl rfl (hS.load_one (p := 1) rfl U56 rfl rfl) fun a h=>s_on h rfl rfl (decide_eq_false hc_65) <| s_move h rfl rfl fun a h=>s_on h rfl rfl (decide_eq_false hc_65) ?_
   obtain ⟨t_66, et_66, H⟩ := Option.bind_eq_some_iff.1 H
   refine v_indexO h rfl U56 ti60 rfl rfl rfl hp0_0 (hS.own 2) et_66 fun ad_67 cs_68 hk_69 hc_70 => ?_
   obtain ⟨v_71, rfl, hr_72⟩ := k_nets_frame.open' hk_69
   intro a h
   refine s_on h rfl rfl (decide_eq_false hc_65) <| s_fieldAddr h rfl U60 rfl ti4 rfl rfl fun a h=>s_on h rfl rfl (decide_eq_false hc_65) <| s_load h rfl rfl (el_one (o := 3) hc_70 U4 rfl rfl) fun a h=>s_pick_f h rfl rfl (decide_eq_false hc_65) rfl fun a h=>wpList_nil ?_
   replace hS : Sep w0 w_61 [_, _, _] Z := hS
   replace h : Fr 67 a [(0, _), (1, _), (2, _), (6, .bool false), (25, .bool t_66.turned)] := h.keep [0, 1, 2, 6, 25]
   exact x_then_n (hJ_j_6 t_66.turned H _ _ ⟨N_63, h, (Sep.sel hS [0, 1, 2] (by decide)), le_63⟩)
 ·rw [if_neg hc_64] at H
  refine s_off h rfl rfl rfl (nt (Bool.eq_false_iff.2 hc_64)) fun a h=>s_off h rfl rfl rfl (nt (Bool.eq_false_iff.2 hc_64)) fun a h=>s_pick_t h rfl rfl (nt (Bool.eq_false_iff.2 hc_64)) rfl fun a h=>s_move h rfl rfl fun a h=>s_off h rfl rfl rfl rfl fun a h=>s_off h rfl rfl rfl rfl fun a h=>s_off h rfl rfl rfl rfl fun a h=>s_off h rfl rfl rfl rfl fun a h=>s_off h rfl rfl rfl rfl fun a h=>s_off h rfl rfl rfl rfl fun a h=>s_off h rfl rfl rfl rfl fun a h=>s_off h rfl rfl rfl rfl fun a h=>?_
  refine s_pick_t h rfl rfl rfl rfl fun a h=>wpList_nil ?_
  replace hS : Sep w0 w_61 [_, _, _] Z := hS
  replace h : Fr 67 a [(0, _), (1, _), (2, _), (6, .bool false), (25, .bool true)] := h.keep [0, 1, 2, 6, 25]
  exact x_then_n (hJ_j_6 true H _ _ ⟨N_63, h, (Sep.sel hS [0, 1, 2] (by decide)), le_63⟩)

set_option maxHeartbeats 4000000 in
set_option maxRecDepth 20000 in
theorem nets_Net_Split.calls (g0 : Nat) (x0_n : Int) (x0_mask : Int) (x0_l : List nets_frame) (p0_0 : Value) (M0_0 : Mem) (x1 : Int) (r : Int × Int × (List nets_frame)) (w0 w : World) (Z A : Mem) (hA : A.le Z) (hS : Sep w0 w [Mem.one g0 (.cells ([iV x0_n, iV x0_mask, p0_0] : List Value).toArray 58 (0, 0)), M0_0] Z) (hp0_0 : Own k_nets_frame 60 M0_0 A p0_0 x0_l)
    (H : nets_Net_Split.f x0_n x0_mask x0_l x1 = some r) :
    Calls Try.prog 19 [.pointer (some ⟨g0, 0, none⟩), iV x1].toArray w (Ret fun v w' => ∃ (u0 : Value) (N : Mem) (M100 : Mem), v = .tuple [].toArray ∧ Sep w0 w' [N, Mem.one g0 (.cells ([iV r.1, iV r.2.1, u0] : List Value).toArray 58 (0, 0)), M100] Z ∧ Own k_nets_frame 60 M100 (A.un N) u0 r.2.2) := by
 unfold nets_Net_Split.f at H
 refine f_enter _ Try.func19 rfl Try.ntmps19 rfl fun a h=>?_
 replace h : Fr 8 a [(0, .pointer (some ⟨g0, 0, none⟩)), (1, iV x1)] := h
 replace hS := hS.start
 replace hS : Sep w0 w [_, _, _] Z := hS
 refine wp_region_lit <| s_move h rfl rfl fun a h=>s_move h rfl rfl fun a h=>s_nilCheck h rfl rfl fun a h=>s_fieldAddr h rfl U58 rfl ti3 rfl rfl fun a h=>?_
 obtain ⟨w_1, hs', hS'⟩ := hS.store (P := Try.prog) (p := 1) (o := 1) (t := 3) (v := iV x1) (vs := [iV x1]) rfl ti3 rfl rfl rfl (by intro u hu; simp only [List.mem_cons, List.not_mem_nil, or_false] at hu; rcases hu with rfl <;> rfl)
 refine s_store h rfl rfl hs' ?_
 replace hS : Sep w0 w_1 [_, Mem.one g0 (.cells ([_, iV x1, _] : List Value).toArray 58 (0, 0)), _] Z := hS'
 clear hs' hS'
 refine wpList_nil <| f_end ?_
 obtain rfl := Option.some.inj H
 exact f_ret h (rs := []) rfl .nil ⟨_, rfl, p0_0, Mem.no, M0_0, rfl, (Sep.sel hS [0, 1, 2] (by decide)), (hp0_0.mono (Mem.le_un _ _))⟩

set_option maxHeartbeats 4000000 in
set_option maxRecDepth 20000 in
theorem mesg_write_1.calls (K : Nat) (x0 : List Int) (p0_0 : Value) (g1 : Nat) (x1_ : List UInt8) (p1_1 : Value) (M1_1 : Mem) (r : (List UInt8)) (w0 w : World) (Z A : Mem) (hA : A.le Z) (hS : Sep w0 w [Mem.one g1 (.cells ([p1_1] : List Value).toArray 26 (0, 0)), M1_1] Z) (hp0_0 : Rd (Kd.int .i64) A p0_0 x0) (hp1_1 : Own Kd.u8 5 M1_1 Mem.no p1_1 x1_)
    (H : mesg_write_1.f K x0 x1_ = some r) :
    Calls Try.prog 63 [p0_0, .pointer (some ⟨g1, 0, none⟩)].toArray w (Ret fun v w' => ∃ (u0 : Value) (N : Mem) (M100 : Mem), v = .tuple [].toArray ∧ Sep w0 w' [N, Mem.one g1 (.cells ([u0] : List Value).toArray 26 (0, 0)), M100] Z ∧ Own Kd.u8 5 M100 Mem.no u0 r) := by
 unfold mesg_write_1.f at H
 refine f_enter _ Try.func63 rfl Try.ntmps63 rfl fun a h=>?_
 replace h : Fr 15 a [(0, p0_0), (1, .pointer (some ⟨g1, 0, none⟩))] := h
 replace hS := hS.start
 replace hS : Sep w0 w [_, _, _] Z := hS
 refine wp_seq <| wp_region_lit <| s_move h rfl rfl fun a h=>s_len h rfl U22 rfl hp0_0 fun a h=>s_move h rfl rfl fun a h=>wpList_nil <| x_then_n <| c_last fun KJ_1 hKJ_1 => ?_
 have hJ_j_9 : ∀ (x_3 : List UInt8), mesg_write_1.J1 K x_3 = some r → ∀ (a : Act) (w_8 : World), (∃ (v_6 : Value) (N_2 : Mem) (M_4 : Mem), Fr 15 a [] ∧ Sep w0 w_8 [N_2, Mem.one g1 (.cells ([v_6] : List Value).toArray 26 (0, 0)), Mem.no, M_4] Z ∧ Mem.no.le N_2 ∧ Own Kd.u8 5 M_4 Mem.no v_6 x_3) → KJ_1 a w_8 := by
  clear H h hS a
  rintro x_3 H a w_8 ⟨v_6, N_2, M_4, h, hS, le_2, ho_7⟩
  unfold mesg_write_1.J1 at H
  refine hKJ_1 _ _ <| f_end ?_
  obtain rfl := Option.some.inj H
  exact f_ret h (rs := []) rfl .nil ⟨_, rfl, v_6, N_2, M_4, rfl, (Sep.sel hS [0, 1, 3] (by decide)), ho_7⟩
 clear hKJ_1
 replace hS : Sep w0 w [_, _, _] Z := hS
 replace h : Fr 15 a [(1, _), (5, p0_0), (6, iV (x0.length : Int)), (7, iV 0)] := h.keep [1, 5, 6, 7]
 refine c_block <| c_loop (fun k_17 a w_17 => ∃ (x_11 : Int) (x_12 : List UInt8) (v_15 : Value) (N_10 : Mem) (M_13 : Mem), mesg_write_1.L1 K x0 (fun v => mesg_write_1.J1 K v) k_17 (x_11, x_12) = some r ∧ Fr 15 a [(1, .pointer (some ⟨g1, 0, none⟩)), (5, p0_0), (6, iV (x0.length : Int)), (7, iV x_11)] ∧ Sep w0 w_17 [N_10, Mem.one g1 (.cells ([v_15] : List Value).toArray 26 (0, 0)), Mem.no, M_13] Z ∧ Mem.no.le N_10 ∧ Own Kd.u8 5 M_13 Mem.no v_15 x_12) K ⟨0, x1_, p1_1, Mem.no, M1_1, H, h, (Sep.sel hS [0, 1, 1001, 2] (by decide)), (Mem.le.refl _), hp1_1⟩ (fun a w h => by obtain ⟨_, _, _, _, _, H, _⟩ := h; cases (show (none : Option ((List UInt8))) = some r from H)) ?_
 clear h hS a H
 rintro k_17 a w_17 KL_17 hKL_17 ⟨x_11, x_12, v_15, N_10, M_13, H, h, hS, le_10, ho_16⟩
 replace H : mesg_write_1.B1 K x0 (fun v => mesg_write_1.J1 K v) (mesg_write_1.L1 K x0 (fun v => mesg_write_1.J1 K v) k_17) x_11 x_12 = some r := H
 unfold mesg_write_1.B1 at H
 refine wp_seq <| wp_region_lit <| s_cmp (b := decide (x_11 < (x0.length : Int))) h rfl rfl rfl (.inr (.inr (.inl ⟨rfl, rfl⟩))) fun a h=>wpList_nil <| x_then_n <| c_seq fun KJ_19 hKJ_19 => ?_
 by_cases hc_20 : x_11 < (x0.length : Int)
 ·rw [if_pos hc_20] at H
  refine c_cond_t h rfl (decide_eq_true hc_20) <| wp_skip <| x_then_n (hKJ_19 _ _ ?_)
  refine wp_seq <| c_block <| wp_seq <| wp_region_lit ?_
  obtain ⟨t_21, et_21, H⟩ := Option.bind_eq_some_iff.1 H
  refine v_index h rfl U22 ti3 rfl rfl rfl hp0_0 (hA.trans hS.old) et_21 fun ad_22 cs_23 hk_24 hc_25 => ?_
  obtain rfl := (show cs_23 = [iV t_21] from hk_24)
  intro a h
  refine s_load h rfl rfl (el_one (o := 0) hc_25 U3 rfl rfl) fun a h=>s_assign h rfl rfl fun a h=>wpList_nil <| x_then_n <| wp_region_lit <| s_load h rfl rfl (hS.load_one (p := 1) rfl U26 rfl rfl) fun a h=>s_move h rfl rfl fun a h=>?_
  obtain ⟨t_26, et_26, H⟩ := Option.bind_eq_some_iff.1 H
  refine s_call h rfl Try.call64 rfl (pack_Num.calls K x_12 _ t_21 t_26 w0 _ _ _ (Mem.le.refl _) (hS.enter [] (by decide)) (ho_16.rd (hS.own_zed [] 2 (by decide)) (Mem.no_le _)) et_26) ?_
  rintro v_30 w_27 ⟨_, N_28, M_32, rfl, hS', hr_31⟩
  intro a h
  obtain ⟨N_29, hS'', le_29, ln_29⟩ := hS.call [] (by decide) rfl (l' := []) (ow := [M_32]) rfl hS'
  replace hS : Sep w0 w_27 [N_29, _, _, _, M_32] Z := hS''
  clear hS' hS''
  obtain ⟨w_34, hs', hS'⟩ := hS.store (P := Try.prog) (p := 1) (o := 0) (t := 26) (v := v_30) (vs := [v_30]) rfl ti26 hr_31.cellsA rfl rfl (by intro u hu; simp only [List.mem_cons, List.not_mem_nil, or_false] at hu; rcases hu with rfl <;> first | rfl | exact hr_31.one)
  refine s_store h rfl rfl hs' ?_
  replace hS : Sep w0 w_34 [_, Mem.one g1 (.cells ([v_30] : List Value).toArray 26 (0, 0)), _, _, _] Z := hS'
  clear hs' hS'
  refine wpList_nil ?_
  replace h : Fr 15 a [(1, _), (5, _), (6, _), (7, _)] := h.keep [1, 5, 6, 7]
  refine x_block_n <| x_then_n <| wp_region_lit <| s_arith (r := w64 (x_11 + 1)) h rfl rfl rfl (.inl ⟨rfl, rfl⟩) fun a h=>s_move h rfl rfl fun a h=>wpList_nil <| x_then_n (hKL_17 _ _ ?_)
  replace hS : Sep w0 w_34 [_, _, _, _, _] Z := hS
  replace h : Fr 15 a [(1, _), (5, _), (6, _), (7, iV (w64 (x_11 + 1)))] := h.keep [1, 5, 6, 7]
  exact ⟨w64 (x_11 + 1), t_26, v_30, N_29, M_32, H, h, (Sep.sel hS [0, 1, 1001, 4] (by decide)), (le_10.trans le_29), hr_31⟩
 ·rw [if_neg hc_20] at H
  refine c_cond_f h rfl (decide_eq_false hc_20) <| wp_exit (x_then_x (x_then_x (x_block_t ?_)))
  replace hS : Sep w0 w_17 [_, _, _, _] Z := hS
  replace h : Fr 15 a [] := h.keep []
  exact x_then_n (hJ_j_9 x_12 H _ _ ⟨v_15, N_10, M_13, h, (Sep.sel hS [0, 1, 1001, 3] (by decide)), le_10, ho_16⟩)


end Go.Proofs
