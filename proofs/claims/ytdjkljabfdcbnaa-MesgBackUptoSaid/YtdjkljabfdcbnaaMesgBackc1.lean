/- What the calls do: each function once. -/
import Derived.Test.YtdjkljabfdcbnaaMesgBackc0
namespace Go.Proofs
open Go.Gp
set_option linter.unusedVariables false
set_option maxHeartbeats 4000000 in
set_option maxRecDepth 20000 in
theorem mesg_fields.calls (K : Nat) (x0 : api_Msg) (p0_0 : Value) (p0_1 : Value) (p0_2 : Value) (p0_3 : Value) (p0_4 : Value) (p0_5 : Value) (x1 : api_Msg) (p1_6 : Value) (p1_7 : Value) (p1_8 : Value) (p1_9 : Value) (p1_10 : Value) (p1_11 : Value) (r : Bool) (w0 w : World) (Z A : Mem) (hA : A.le Z) (hS : Sep w0 w [] Z) (hp0_0 : Rd Kd.u8 A p0_0 x0.Data) (hp0_1 : Rd (Kd.int .i64) A p0_1 x0.Have) (hp0_2 : Rd (Kd.int .i64) A p0_2 x0.Need) (hp0_3 : Rd Kd.u8 A p0_3 x0.Entry.Cmd.Key) (hp0_4 : Rd Kd.u8 A p0_4 x0.Entry.Cmd.Val) (hp0_5 : Rd Kd.u8 A p0_5 x0.Entry.Cmd.Old) (hp1_6 : Rd Kd.u8 A p1_6 x1.Data) (hp1_7 : Rd (Kd.int .i64) A p1_7 x1.Have) (hp1_8 : Rd (Kd.int .i64) A p1_8 x1.Need) (hp1_9 : Rd Kd.u8 A p1_9 x1.Entry.Cmd.Key) (hp1_10 : Rd Kd.u8 A p1_10 x1.Entry.Cmd.Val) (hp1_11 : Rd Kd.u8 A p1_11 x1.Entry.Cmd.Old)
    (H : mesg_fields.f K x0 x1 = some r) :
    Calls Try.prog 56 [.agg ([iV x0.Kind, iV x0.From, iV x0.To, iV x0.View, iV x0.Inst, iV x0.Len, .bool x0.Has, iV x0.Members, iV x0.Source, iV x0.At, iV x0.Total, p0_0, iV x0.Hop, iV x0.Seq, p0_1, p0_2, iV x0.Index, iV x0.Entry.Sess, iV x0.Entry.Seq, iV x0.Entry.Cmd.Kind, iV x0.Entry.Cmd.Who, p0_3, p0_4, p0_5] : List Value).toArray, .agg ([iV x1.Kind, iV x1.From, iV x1.To, iV x1.View, iV x1.Inst, iV x1.Len, .bool x1.Has, iV x1.Members, iV x1.Source, iV x1.At, iV x1.Total, p1_6, iV x1.Hop, iV x1.Seq, p1_7, p1_8, iV x1.Index, iV x1.Entry.Sess, iV x1.Entry.Seq, iV x1.Entry.Cmd.Kind, iV x1.Entry.Cmd.Who, p1_9, p1_10, p1_11] : List Value).toArray].toArray w (Ret fun v w' => ∃ (N : Mem), v = .bool r ∧ Sep w0 w' [N] Z) := by
 unfold mesg_fields.f at H
 refine f_enter _ Try.func56 rfl Try.ntmps56 rfl fun a h=>?_
 replace h : Fr 119 a [(0, .agg ([iV x0.Kind, iV x0.From, iV x0.To, iV x0.View, iV x0.Inst, iV x0.Len, .bool x0.Has, iV x0.Members, iV x0.Source, iV x0.At, iV x0.Total, p0_0, iV x0.Hop, iV x0.Seq, p0_1, p0_2, iV x0.Index, iV x0.Entry.Sess, iV x0.Entry.Seq, iV x0.Entry.Cmd.Kind, iV x0.Entry.Cmd.Who, p0_3, p0_4, p0_5] : List Value).toArray), (1, .agg ([iV x1.Kind, iV x1.From, iV x1.To, iV x1.View, iV x1.Inst, iV x1.Len, .bool x1.Has, iV x1.Members, iV x1.Source, iV x1.At, iV x1.Total, p1_6, iV x1.Hop, iV x1.Seq, p1_7, p1_8, iV x1.Index, iV x1.Entry.Sess, iV x1.Entry.Seq, iV x1.Entry.Cmd.Kind, iV x1.Entry.Cmd.Who, p1_9, p1_10, p1_11] : List Value).toArray)] := h
 replace hS := hS.start
 replace hS : Sep w0 w [_] Z := hS
 refine wp_seq <| wp_region_lit <| v_box (vs := [iV x0.Kind, iV x0.From, iV x0.To, iV x0.View, iV x0.Inst, iV x0.Len, .bool x0.Has, iV x0.Members, iV x0.Source, iV x0.At, iV x0.Total, p0_0, iV x0.Hop, iV x0.Seq, p0_1, p0_2, iV x0.Index, iV x0.Entry.Sess, iV x0.Entry.Seq, iV x0.Entry.Cmd.Kind, iV x0.Entry.Cmd.Who, p0_3, p0_4, p0_5]) h rfl rfl rfl hS fun w_1 g_2 hS' a h => ?_
 replace hS : Sep w0 w_1 [_, Mem.one g_2 (.cells ([iV x0.Kind, iV x0.From, iV x0.To, iV x0.View, iV x0.Inst, iV x0.Len, .bool x0.Has, iV x0.Members, iV x0.Source, iV x0.At, iV x0.Total, p0_0, iV x0.Hop, iV x0.Seq, p0_1, p0_2, iV x0.Index, iV x0.Entry.Sess, iV x0.Entry.Seq, iV x0.Entry.Cmd.Kind, iV x0.Entry.Cmd.Who, p0_3, p0_4, p0_5] : List Value).toArray 29 (0, 0))] Z := hS'
 clear hS'
 refine v_box (vs := [iV x1.Kind, iV x1.From, iV x1.To, iV x1.View, iV x1.Inst, iV x1.Len, .bool x1.Has, iV x1.Members, iV x1.Source, iV x1.At, iV x1.Total, p1_6, iV x1.Hop, iV x1.Seq, p1_7, p1_8, iV x1.Index, iV x1.Entry.Sess, iV x1.Entry.Seq, iV x1.Entry.Cmd.Kind, iV x1.Entry.Cmd.Who, p1_9, p1_10, p1_11]) h rfl rfl rfl hS fun w_3 g_4 hS' a h => ?_
 replace hS : Sep w0 w_3 [_, _, Mem.one g_4 (.cells ([iV x1.Kind, iV x1.From, iV x1.To, iV x1.View, iV x1.Inst, iV x1.Len, .bool x1.Has, iV x1.Members, iV x1.Source, iV x1.At, iV x1.Total, p1_6, iV x1.Hop, iV x1.Seq, p1_7, p1_8, iV x1.Index, iV x1.Entry.Sess, iV x1.Entry.Seq, iV x1.Entry.Cmd.Kind, iV x1.Entry.Cmd.Who, p1_9, p1_10, p1_11] : List Value).toArray 29 (0, 0))] Z := hS'
 clear hS'
 refine s_assign h rfl rfl fun a h=>wpList_nil <| x_then_n <| c_seq fun KJ_5 hKJ_5 => wp_seq <| wp_region_lit <| s_fieldAddr h rfl U29 rfl ti3 rfl rfl fun a h=>s_load h rfl rfl (hS.load_one (p := 1) rfl U3 rfl rfl) fun a h=>wpList_nil <| x_then_n <| c_block <| wp_seq <| wp_region_lit ?_
 refine s_cmp (b := (x0.Kind == 2)) h rfl rfl rfl (.inl ⟨rfl, rfl⟩) fun a h=>s_assign h rfl rfl fun a h=>wpList_nil <| x_then_n ?_
 by_cases hc_6 : x0.Kind = 2
 ·rw [if_pos hc_6] at H
  refine c_cond_t h rfl (beq_iff_eq.2 hc_6) <| c_seq fun KJ_7 hKJ_7 => wp_region_lit <| s_fieldAddr h rfl U29 rfl ti3 rfl rfl fun a h=>s_load h rfl rfl (hS.load_one (p := 1) rfl U3 rfl rfl) fun a h=>s_fieldAddr h rfl U29 rfl ti3 rfl rfl fun a h=>s_load h rfl rfl (hS.load_one (p := 2) rfl U3 rfl rfl) fun a h=>s_cmp (b := (x0.Inst == x1.Inst)) h rfl rfl rfl (.inl ⟨rfl, rfl⟩) fun a h=>s_move h rfl rfl fun a h=>?_
  by_cases hc_8 : x0.Inst = x1.Inst
  ·rw [if_pos hc_8] at H
   refine s_on h rfl rfl (beq_iff_eq.2 hc_8) <| s_fieldAddr h rfl U29 rfl ti3 rfl rfl fun a h=>s_on h rfl rfl (beq_iff_eq.2 hc_8) <| s_load h rfl rfl (hS.load_one (p := 1) rfl U3 rfl rfl) fun a h=>s_on h rfl rfl (beq_iff_eq.2 hc_8) <| s_fieldAddr h rfl U29 rfl ti3 rfl rfl fun a h=>s_on h rfl rfl (beq_iff_eq.2 hc_8) <| s_load h rfl rfl (hS.load_one (p := 2) rfl U3 rfl rfl) fun a h=>s_on h rfl rfl (beq_iff_eq.2 hc_8) <| s_cmp (b := (x0.Len == x1.Len)) h rfl rfl rfl (.inl ⟨rfl, rfl⟩) fun a h=>s_pick_t h rfl rfl (beq_iff_eq.2 hc_8) rfl fun a h=>s_move h rfl rfl fun a h=>?_
   by_cases hc_9 : x0.Len = x1.Len
   ·rw [if_pos hc_9] at H
    refine s_on h rfl rfl (beq_iff_eq.2 hc_9) <| s_fieldAddr h rfl U29 rfl ti4 rfl rfl fun a h=>s_on h rfl rfl (beq_iff_eq.2 hc_9) <| s_load h rfl rfl (hS.load_one (p := 1) rfl U4 rfl rfl) fun a h=>s_on h rfl rfl (beq_iff_eq.2 hc_9) <| s_fieldAddr h rfl U29 rfl ti4 rfl rfl fun a h=>s_on h rfl rfl (beq_iff_eq.2 hc_9) <| s_load h rfl rfl (hS.load_one (p := 2) rfl U4 rfl rfl) fun a h=>s_on h rfl rfl (beq_iff_eq.2 hc_9) <| s_beq (b := (x0.Has == x1.Has)) h rfl U4 rfl rfl (.inl ⟨rfl, rfl⟩) fun a h=>s_pick_t h rfl rfl (beq_iff_eq.2 hc_9) rfl fun a h=>s_assign h rfl rfl fun a h=>?_
    refine wpList_nil ?_
    replace h : Fr 119 a [(4, .bool (x0.Has == x1.Has))] := h.keep [4]
    refine x_then_n (hKJ_7 _ _ ?_)
    refine wp_ret (x_block_r (x_then_r ?_))
    obtain rfl := Option.some.inj H
    exact f_ret h (rs := [.tmp 4]) rfl (.tmp rfl .nil) ⟨_, rfl, Mem.no, rfl, (Sep.sel hS [0] (by decide))⟩
   ·rw [if_neg hc_9] at H
    refine s_off h rfl rfl rfl (beq_eq_false_iff_ne.2 hc_9) fun a h=>s_off h rfl rfl rfl (beq_eq_false_iff_ne.2 hc_9) fun a h=>s_off h rfl rfl rfl (beq_eq_false_iff_ne.2 hc_9) fun a h=>s_off h rfl rfl rfl (beq_eq_false_iff_ne.2 hc_9) fun a h=>s_off h rfl rfl rfl (beq_eq_false_iff_ne.2 hc_9) fun a h=>s_pick_f h rfl rfl (beq_eq_false_iff_ne.2 hc_9) rfl fun a h=>s_assign h rfl rfl fun a h=>wpList_nil ?_
    replace h : Fr 119 a [(4, .bool false)] := h.keep [4]
    refine x_then_n (hKJ_7 _ _ ?_)
    refine wp_ret (x_block_r (x_then_r ?_))
    obtain rfl := Option.some.inj H
    exact f_ret h (rs := [.tmp 4]) rfl (.tmp rfl .nil) ⟨_, rfl, Mem.no, rfl, (Sep.sel hS [0] (by decide))⟩
  ·rw [if_neg hc_8] at H
   refine s_off h rfl rfl rfl (beq_eq_false_iff_ne.2 hc_8) fun a h=>s_off h rfl rfl rfl (beq_eq_false_iff_ne.2 hc_8) fun a h=>s_off h rfl rfl rfl (beq_eq_false_iff_ne.2 hc_8) fun a h=>s_off h rfl rfl rfl (beq_eq_false_iff_ne.2 hc_8) fun a h=>s_off h rfl rfl rfl (beq_eq_false_iff_ne.2 hc_8) fun a h=>s_pick_f h rfl rfl (beq_eq_false_iff_ne.2 hc_8) rfl fun a h=>s_move h rfl rfl fun a h=>s_off h rfl rfl rfl rfl fun a h=>s_off h rfl rfl rfl rfl fun a h=>s_off h rfl rfl rfl rfl fun a h=>s_off h rfl rfl rfl rfl fun a h=>s_off h rfl rfl rfl rfl fun a h=>?_
   refine s_pick_f h rfl rfl rfl rfl fun a h=>s_assign h rfl rfl fun a h=>wpList_nil ?_
   replace h : Fr 119 a [(4, .bool false)] := h.keep [4]
   refine x_then_n (hKJ_7 _ _ ?_)
   refine wp_ret (x_block_r (x_then_r ?_))
   obtain rfl := Option.some.inj H
   exact f_ret h (rs := [.tmp 4]) rfl (.tmp rfl .nil) ⟨_, rfl, Mem.no, rfl, (Sep.sel hS [0] (by decide))⟩
 ·rw [if_neg hc_6] at H
  refine c_cond_f h rfl (beq_eq_false_iff_ne.2 hc_6) <| wp_seq <| wp_region_lit <| s_cmp (b := (x0.Kind == 3)) h rfl rfl rfl (.inl ⟨rfl, rfl⟩) fun a h=>s_assign h rfl rfl fun a h=>wpList_nil ?_
  replace h : Fr 119 a [(2, .pointer (some ⟨g_2, 0, none⟩)), (3, .pointer (some ⟨g_4, 0, none⟩)), (4, .bool false), (6, iV x0.Kind), (28, .bool (x0.Kind == 3))] := h.keep [2, 3, 4, 6, 28]
  refine x_then_n ?_
  by_cases hc_10 : x0.Kind = 3
  ·rw [if_pos hc_10] at H
   refine c_cond_t h rfl (beq_iff_eq.2 hc_10) <| c_seq fun KJ_11 hKJ_11 => wp_region_lit <| s_fieldAddr h rfl U29 rfl ti3 rfl rfl fun a h=>s_load h rfl rfl (hS.load_one (p := 1) rfl U3 rfl rfl) fun a h=>s_fieldAddr h rfl U29 rfl ti3 rfl rfl fun a h=>s_load h rfl rfl (hS.load_one (p := 2) rfl U3 rfl rfl) fun a h=>s_cmp (b := (x0.Members == x1.Members)) h rfl rfl rfl (.inl ⟨rfl, rfl⟩) fun a h=>s_move h rfl rfl fun a h=>?_
   by_cases hc_12 : x0.Members = x1.Members
   ·rw [if_pos hc_12] at H
    refine s_on h rfl rfl (beq_iff_eq.2 hc_12) <| s_fieldAddr h rfl U29 rfl ti3 rfl rfl fun a h=>s_on h rfl rfl (beq_iff_eq.2 hc_12) <| s_load h rfl rfl (hS.load_one (p := 1) rfl U3 rfl rfl) fun a h=>s_on h rfl rfl (beq_iff_eq.2 hc_12) <| s_fieldAddr h rfl U29 rfl ti3 rfl rfl fun a h=>s_on h rfl rfl (beq_iff_eq.2 hc_12) <| s_load h rfl rfl (hS.load_one (p := 2) rfl U3 rfl rfl) fun a h=>s_on h rfl rfl (beq_iff_eq.2 hc_12) <| s_cmp (b := (x0.Source == x1.Source)) h rfl rfl rfl (.inl ⟨rfl, rfl⟩) fun a h=>s_pick_t h rfl rfl (beq_iff_eq.2 hc_12) rfl fun a h=>s_move h rfl rfl fun a h=>?_
    by_cases hc_13 : x0.Source = x1.Source
    ·rw [if_pos hc_13] at H
     refine s_on h rfl rfl (beq_iff_eq.2 hc_13) <| s_fieldAddr h rfl U29 rfl ti3 rfl rfl fun a h=>s_on h rfl rfl (beq_iff_eq.2 hc_13) <| s_load h rfl rfl (hS.load_one (p := 1) rfl U3 rfl rfl) fun a h=>s_on h rfl rfl (beq_iff_eq.2 hc_13) <| s_fieldAddr h rfl U29 rfl ti3 rfl rfl fun a h=>s_on h rfl rfl (beq_iff_eq.2 hc_13) <| s_load h rfl rfl (hS.load_one (p := 2) rfl U3 rfl rfl) fun a h=>s_on h rfl rfl (beq_iff_eq.2 hc_13) <| s_cmp (b := (x0.Len == x1.Len)) h rfl rfl rfl (.inl ⟨rfl, rfl⟩) fun a h=>s_pick_t h rfl rfl (beq_iff_eq.2 hc_13) rfl fun a h=>s_assign h rfl rfl fun a h=>?_
     refine wpList_nil <| x_then_n (hKJ_11 _ _ ?_)
     refine wp_ret (x_block_r (x_then_r ?_))
     obtain rfl := Option.some.inj H
     exact f_ret h (rs := [.tmp 4]) rfl (.tmp rfl .nil) ⟨_, rfl, Mem.no, rfl, (Sep.sel hS [0] (by decide))⟩
    ·rw [if_neg hc_13] at H
     refine s_off h rfl rfl rfl (beq_eq_false_iff_ne.2 hc_13) fun a h=>s_off h rfl rfl rfl (beq_eq_false_iff_ne.2 hc_13) fun a h=>s_off h rfl rfl rfl (beq_eq_false_iff_ne.2 hc_13) fun a h=>s_off h rfl rfl rfl (beq_eq_false_iff_ne.2 hc_13) fun a h=>s_off h rfl rfl rfl (beq_eq_false_iff_ne.2 hc_13) fun a h=>s_pick_f h rfl rfl (beq_eq_false_iff_ne.2 hc_13) rfl fun a h=>s_assign h rfl rfl fun a h=>wpList_nil <| x_then_n (hKJ_11 _ _ ?_)
     refine wp_ret (x_block_r (x_then_r ?_))
     obtain rfl := Option.some.inj H
     exact f_ret h (rs := [.tmp 4]) rfl (.tmp rfl .nil) ⟨_, rfl, Mem.no, rfl, (Sep.sel hS [0] (by decide))⟩
   ·rw [if_neg hc_12] at H
    refine s_off h rfl rfl rfl (beq_eq_false_iff_ne.2 hc_12) fun a h=>s_off h rfl rfl rfl (beq_eq_false_iff_ne.2 hc_12) fun a h=>s_off h rfl rfl rfl (beq_eq_false_iff_ne.2 hc_12) fun a h=>s_off h rfl rfl rfl (beq_eq_false_iff_ne.2 hc_12) fun a h=>s_off h rfl rfl rfl (beq_eq_false_iff_ne.2 hc_12) fun a h=>s_pick_f h rfl rfl (beq_eq_false_iff_ne.2 hc_12) rfl fun a h=>s_move h rfl rfl fun a h=>s_off h rfl rfl rfl rfl fun a h=>s_off h rfl rfl rfl rfl fun a h=>s_off h rfl rfl rfl rfl fun a h=>s_off h rfl rfl rfl rfl fun a h=>s_off h rfl rfl rfl rfl fun a h=>?_
    refine s_pick_f h rfl rfl rfl rfl fun a h=>s_assign h rfl rfl fun a h=>wpList_nil <| x_then_n (hKJ_11 _ _ ?_)
    refine wp_ret (x_block_r (x_then_r ?_))
    obtain rfl := Option.some.inj H
    exact f_ret h (rs := [.tmp 4]) rfl (.tmp rfl .nil) ⟨_, rfl, Mem.no, rfl, (Sep.sel hS [0] (by decide))⟩
  ·rw [if_neg hc_10] at H
   refine c_cond_f h rfl (beq_eq_false_iff_ne.2 hc_10) <| wp_seq <| wp_region_lit <| s_cmp (b := (x0.Kind == 4)) h rfl rfl rfl (.inl ⟨rfl, rfl⟩) fun a h=>s_assign h rfl rfl fun a h=>wpList_nil <| x_then_n ?_
   by_cases hc_14 : x0.Kind = 4
   ·rw [if_pos hc_14] at H
    refine c_cond_t h rfl (beq_iff_eq.2 hc_14) <| wp_seq <| wp_region_lit <| s_fieldAddr h rfl U29 rfl ti3 rfl rfl fun a h=>s_load h rfl rfl (hS.load_one (p := 1) rfl U3 rfl rfl) fun a h=>s_fieldAddr h rfl U29 rfl ti3 rfl rfl fun a h=>s_load h rfl rfl (hS.load_one (p := 2) rfl U3 rfl rfl) fun a h=>s_cmp (b := (x0.At == x1.At)) h rfl rfl rfl (.inl ⟨rfl, rfl⟩) fun a h=>s_assign h rfl rfl fun a h=>wpList_nil <| x_then_n <| wp_ret (x_block_r (x_then_r ?_))
    obtain rfl := Option.some.inj H
    exact f_ret h (rs := [.tmp 4]) rfl (.tmp rfl .nil) ⟨_, rfl, Mem.no, rfl, (Sep.sel hS [0] (by decide))⟩
   ·rw [if_neg hc_14] at H
    refine c_cond_f h rfl (beq_eq_false_iff_ne.2 hc_14) <| wp_seq <| wp_region_lit <| s_cmp (b := (x0.Kind == 5)) h rfl rfl rfl (.inl ⟨rfl, rfl⟩) fun a h=>s_assign h rfl rfl fun a h=>wpList_nil <| x_then_n ?_
    by_cases hc_15 : x0.Kind = 5
    ·rw [if_pos hc_15] at H
     refine c_cond_t h rfl (beq_iff_eq.2 hc_15) <| c_seq fun KJ_16 hKJ_16 => wp_region_lit <| s_fieldAddr h rfl U29 rfl ti3 rfl rfl fun a h=>s_load h rfl rfl (hS.load_one (p := 1) rfl U3 rfl rfl) fun a h=>s_fieldAddr h rfl U29 rfl ti3 rfl rfl fun a h=>s_load h rfl rfl (hS.load_one (p := 2) rfl U3 rfl rfl) fun a h=>s_cmp (b := (x0.At == x1.At)) h rfl rfl rfl (.inl ⟨rfl, rfl⟩) fun a h=>s_move h rfl rfl fun a h=>?_
     by_cases hc_17 : x0.At = x1.At
     ·rw [if_pos hc_17] at H
      refine s_on h rfl rfl (beq_iff_eq.2 hc_17) <| s_fieldAddr h rfl U29 rfl ti3 rfl rfl fun a h=>s_on h rfl rfl (beq_iff_eq.2 hc_17) <| s_load h rfl rfl (hS.load_one (p := 1) rfl U3 rfl rfl) fun a h=>s_on h rfl rfl (beq_iff_eq.2 hc_17) <| s_fieldAddr h rfl U29 rfl ti3 rfl rfl fun a h=>s_on h rfl rfl (beq_iff_eq.2 hc_17) <| s_load h rfl rfl (hS.load_one (p := 2) rfl U3 rfl rfl) fun a h=>s_on h rfl rfl (beq_iff_eq.2 hc_17) <| s_cmp (b := (x0.Total == x1.Total)) h rfl rfl rfl (.inl ⟨rfl, rfl⟩) fun a h=>s_pick_t h rfl rfl (beq_iff_eq.2 hc_17) rfl fun a h=>s_move h rfl rfl fun a h=>?_
      by_cases hc_18 : x0.Total = x1.Total
      ·rw [if_pos hc_18] at H
       refine s_on h rfl rfl (beq_iff_eq.2 hc_18) <| s_fieldAddr h rfl U29 rfl ti23 rfl rfl fun a h=>s_on h rfl rfl (beq_iff_eq.2 hc_18) <| s_load h rfl rfl (hS.load_one (p := 1) rfl U23 rfl rfl) fun a h=>s_on h rfl rfl (beq_iff_eq.2 hc_18) <| s_fieldAddr h rfl U29 rfl ti23 rfl rfl fun a h=>s_on h rfl rfl (beq_iff_eq.2 hc_18) <| s_load h rfl rfl (hS.load_one (p := 2) rfl U23 rfl rfl) fun a h=>s_on h rfl rfl (beq_iff_eq.2 hc_18) ?_
       obtain ⟨t_19, et_19, H⟩ := Option.bind_eq_some_iff.1 H
       refine s_call h rfl Try.call68 rfl (bytes_Equal.calls x0.Data _ x1.Data _ t_19 w0 _ _ _ (Mem.le.refl _) (hS.enter [] (by decide)) (hp0_0.mono (hA.trans (hS.le_zed []))) (hp1_6.mono (hA.trans (hS.le_zed []))) et_19) ?_
       rintro _ w_20 ⟨N_21, rfl, hS'⟩
       intro a h
       obtain ⟨N_22, hS'', le_22, ln_22⟩ := hS.call [] (by decide) rfl (l' := []) (ow := []) rfl hS'
       replace hS : Sep w0 w_20 [N_22, _, _] Z := hS''
       clear hS' hS''
       refine s_pick_t h rfl rfl (beq_iff_eq.2 hc_18) rfl fun a h=>s_assign h rfl rfl fun a h=>wpList_nil <| x_then_n (hKJ_16 _ _ ?_)
       refine wp_ret (x_block_r (x_then_r ?_))
       obtain rfl := Option.some.inj H
       exact f_ret h (rs := [.tmp 4]) rfl (.tmp rfl .nil) ⟨_, rfl, N_22, rfl, (Sep.sel hS [0] (by decide))⟩
      ·rw [if_neg hc_18] at H
       refine s_off h rfl rfl rfl (beq_eq_false_iff_ne.2 hc_18) fun a h=>s_off h rfl rfl rfl (beq_eq_false_iff_ne.2 hc_18) fun a h=>s_off h rfl rfl rfl (beq_eq_false_iff_ne.2 hc_18) fun a h=>s_off h rfl rfl rfl (beq_eq_false_iff_ne.2 hc_18) fun a h=>s_off h rfl rfl rfl (beq_eq_false_iff_ne.2 hc_18) fun a h=>s_pick_f h rfl rfl (beq_eq_false_iff_ne.2 hc_18) rfl fun a h=>s_assign h rfl rfl fun a h=>wpList_nil <| x_then_n (hKJ_16 _ _ ?_)
       refine wp_ret (x_block_r (x_then_r ?_))
       obtain rfl := Option.some.inj H
       exact f_ret h (rs := [.tmp 4]) rfl (.tmp rfl .nil) ⟨_, rfl, Mem.no, rfl, (Sep.sel hS [0] (by decide))⟩
     ·rw [if_neg hc_17] at H
      refine s_off h rfl rfl rfl (beq_eq_false_iff_ne.2 hc_17) fun a h=>s_off h rfl rfl rfl (beq_eq_false_iff_ne.2 hc_17) fun a h=>s_off h rfl rfl rfl (beq_eq_false_iff_ne.2 hc_17) fun a h=>s_off h rfl rfl rfl (beq_eq_false_iff_ne.2 hc_17) fun a h=>s_off h rfl rfl rfl (beq_eq_false_iff_ne.2 hc_17) fun a h=>s_pick_f h rfl rfl (beq_eq_false_iff_ne.2 hc_17) rfl fun a h=>s_move h rfl rfl fun a h=>s_off h rfl rfl rfl rfl fun a h=>s_off h rfl rfl rfl rfl fun a h=>s_off h rfl rfl rfl rfl fun a h=>s_off h rfl rfl rfl rfl fun a h=>s_off h rfl rfl rfl rfl fun a h=>?_
      refine s_pick_f h rfl rfl rfl rfl fun a h=>s_assign h rfl rfl fun a h=>wpList_nil <| x_then_n (hKJ_16 _ _ ?_)
      refine wp_ret (x_block_r (x_then_r ?_))
      obtain rfl := Option.some.inj H
      exact f_ret h (rs := [.tmp 4]) rfl (.tmp rfl .nil) ⟨_, rfl, Mem.no, rfl, (Sep.sel hS [0] (by decide))⟩
    ·rw [if_neg hc_15] at H
     refine c_cond_f h rfl (beq_eq_false_iff_ne.2 hc_15) <| wp_seq <| wp_region_lit <| s_cmp (b := (x0.Kind == 7)) h rfl rfl rfl (.inl ⟨rfl, rfl⟩) fun a h=>s_assign h rfl rfl fun a h=>wpList_nil <| x_then_n ?_
     by_cases hc_23 : x0.Kind = 7
     ·rw [if_pos hc_23] at H
      refine c_cond_t h rfl (beq_iff_eq.2 hc_23) <| c_seq fun KJ_24 hKJ_24 => wp_region_lit <| s_fieldAddr h rfl U29 rfl ti3 rfl rfl fun a h=>s_load h rfl rfl (hS.load_one (p := 1) rfl U3 rfl rfl) fun a h=>s_fieldAddr h rfl U29 rfl ti3 rfl rfl fun a h=>s_load h rfl rfl (hS.load_one (p := 2) rfl U3 rfl rfl) fun a h=>s_cmp (b := (x0.Hop == x1.Hop)) h rfl rfl rfl (.inl ⟨rfl, rfl⟩) fun a h=>s_move h rfl rfl fun a h=>?_
      by_cases hc_25 : x0.Hop = x1.Hop
      ·rw [if_pos hc_25] at H
       refine s_on h rfl rfl (beq_iff_eq.2 hc_25) <| s_fieldAddr h rfl U29 rfl ti3 rfl rfl fun a h=>s_on h rfl rfl (beq_iff_eq.2 hc_25) <| s_load h rfl rfl (hS.load_one (p := 1) rfl U3 rfl rfl) fun a h=>s_on h rfl rfl (beq_iff_eq.2 hc_25) <| s_fieldAddr h rfl U29 rfl ti3 rfl rfl fun a h=>s_on h rfl rfl (beq_iff_eq.2 hc_25) <| s_load h rfl rfl (hS.load_one (p := 2) rfl U3 rfl rfl) fun a h=>s_on h rfl rfl (beq_iff_eq.2 hc_25) <| s_cmp (b := (x0.Seq == x1.Seq)) h rfl rfl rfl (.inl ⟨rfl, rfl⟩) fun a h=>s_pick_t h rfl rfl (beq_iff_eq.2 hc_25) rfl fun a h=>s_move h rfl rfl fun a h=>?_
       by_cases hc_26 : x0.Seq = x1.Seq
       ·rw [if_pos hc_26] at H
        refine s_on h rfl rfl (beq_iff_eq.2 hc_26) <| s_fieldAddr h rfl U29 rfl ti22 rfl rfl fun a h=>s_on h rfl rfl (beq_iff_eq.2 hc_26) <| s_load h rfl rfl (hS.load_one (p := 1) rfl U22 rfl rfl) fun a h=>s_on h rfl rfl (beq_iff_eq.2 hc_26) <| s_fieldAddr h rfl U29 rfl ti22 rfl rfl fun a h=>s_on h rfl rfl (beq_iff_eq.2 hc_26) <| s_load h rfl rfl (hS.load_one (p := 2) rfl U22 rfl rfl) fun a h=>s_on h rfl rfl (beq_iff_eq.2 hc_26) ?_
        obtain ⟨t_27, et_27, H⟩ := Option.bind_eq_some_iff.1 H
        refine s_call h rfl Try.call69 rfl (slices_Equal_sint_int.calls K x0.Have _ x1.Have _ t_27 w0 _ _ _ (Mem.le.refl _) (hS.enter [] (by decide)) (hp0_1.mono (hA.trans (hS.le_zed []))) (hp1_7.mono (hA.trans (hS.le_zed []))) et_27) ?_
        rintro _ w_28 ⟨N_29, rfl, hS'⟩
        intro a h
        obtain ⟨N_30, hS'', le_30, ln_30⟩ := hS.call [] (by decide) rfl (l' := []) (ow := []) rfl hS'
        replace hS : Sep w0 w_28 [N_30, _, _] Z := hS''
        clear hS' hS''
        refine s_pick_t h rfl rfl (beq_iff_eq.2 hc_26) rfl fun a h=>s_move h rfl rfl fun a h=>?_
        by_cases hc_31 : t_27 = true
        ·rw [if_pos hc_31] at H
         refine s_on h rfl rfl hc_31 <| s_fieldAddr h rfl U29 rfl ti22 rfl rfl fun a h=>s_on h rfl rfl hc_31 <| s_load h rfl rfl (hS.load_one (p := 1) rfl U22 rfl rfl) fun a h=>s_on h rfl rfl hc_31 <| s_fieldAddr h rfl U29 rfl ti22 rfl rfl fun a h=>s_on h rfl rfl hc_31 <| s_load h rfl rfl (hS.load_one (p := 2) rfl U22 rfl rfl) fun a h=>s_on h rfl rfl hc_31 ?_
         obtain ⟨t_32, et_32, H⟩ := Option.bind_eq_some_iff.1 H
         refine s_call h rfl Try.call69 rfl (slices_Equal_sint_int.calls K x0.Need _ x1.Need _ t_32 w0 _ _ _ (Mem.le.refl _) (hS.enter [] (by decide)) (hp0_2.mono (hA.trans (hS.le_zed []))) (hp1_8.mono (hA.trans (hS.le_zed []))) et_32) ?_
         rintro _ w_33 ⟨N_34, rfl, hS'⟩
         intro a h
         obtain ⟨N_35, hS'', le_35, ln_35⟩ := hS.call [] (by decide) rfl (l' := []) (ow := []) rfl hS'
         replace hS : Sep w0 w_33 [N_35, _, _] Z := hS''
         clear hS' hS''
         refine s_pick_t h rfl rfl hc_31 rfl fun a h=>s_assign h rfl rfl fun a h=>wpList_nil ?_
         replace h : Fr 119 a [(4, .bool t_32)] := h.keep [4]
         refine x_then_n (hKJ_24 _ _ ?_)
         refine wp_ret (x_block_r (x_then_r ?_))
         obtain rfl := Option.some.inj H
         exact f_ret h (rs := [.tmp 4]) rfl (.tmp rfl .nil) ⟨_, rfl, N_35, rfl, (Sep.sel hS [0] (by decide))⟩
        ·rw [if_neg hc_31] at H
         refine s_off h rfl rfl rfl (Bool.eq_false_iff.2 hc_31) fun a h=>s_off h rfl rfl rfl (Bool.eq_false_iff.2 hc_31) fun a h=>s_off h rfl rfl rfl (Bool.eq_false_iff.2 hc_31) fun a h=>s_off h rfl rfl rfl (Bool.eq_false_iff.2 hc_31) fun a h=>s_off h rfl rfl rfl (Bool.eq_false_iff.2 hc_31) fun a h=>s_pick_f h rfl rfl (Bool.eq_false_iff.2 hc_31) rfl fun a h=>s_assign h rfl rfl fun a h=>wpList_nil ?_
         replace h : Fr 119 a [(4, _)] := h.keep [4]
         refine x_then_n (hKJ_24 _ _ ?_)
         refine wp_ret (x_block_r (x_then_r ?_))
         obtain rfl := Option.some.inj H
         exact f_ret h (rs := [.tmp 4]) rfl (.tmp rfl .nil) ⟨_, rfl, N_30, rfl, (Sep.sel hS [0] (by decide))⟩
       ·rw [if_neg hc_26] at H
        refine s_off h rfl rfl rfl (beq_eq_false_iff_ne.2 hc_26) fun a h=>s_off h rfl rfl rfl (beq_eq_false_iff_ne.2 hc_26) fun a h=>s_off h rfl rfl rfl (beq_eq_false_iff_ne.2 hc_26) fun a h=>s_off h rfl rfl rfl (beq_eq_false_iff_ne.2 hc_26) fun a h=>s_off h rfl rfl rfl (beq_eq_false_iff_ne.2 hc_26) fun a h=>s_pick_f h rfl rfl (beq_eq_false_iff_ne.2 hc_26) rfl fun a h=>s_move h rfl rfl fun a h=>s_off h rfl rfl rfl rfl fun a h=>s_off h rfl rfl rfl rfl fun a h=>s_off h rfl rfl rfl rfl fun a h=>s_off h rfl rfl rfl rfl fun a h=>s_off h rfl rfl rfl rfl fun a h=>?_
        refine s_pick_f h rfl rfl rfl rfl fun a h=>s_assign h rfl rfl fun a h=>wpList_nil ?_
        replace h : Fr 119 a [(4, _)] := h.keep [4]
        refine x_then_n (hKJ_24 _ _ ?_)
        refine wp_ret (x_block_r (x_then_r ?_))
        obtain rfl := Option.some.inj H
        exact f_ret h (rs := [.tmp 4]) rfl (.tmp rfl .nil) ⟨_, rfl, Mem.no, rfl, (Sep.sel hS [0] (by decide))⟩
      ·rw [if_neg hc_25] at H
       refine s_off h rfl rfl rfl (beq_eq_false_iff_ne.2 hc_25) fun a h=>s_off h rfl rfl rfl (beq_eq_false_iff_ne.2 hc_25) fun a h=>s_off h rfl rfl rfl (beq_eq_false_iff_ne.2 hc_25) fun a h=>s_off h rfl rfl rfl (beq_eq_false_iff_ne.2 hc_25) fun a h=>s_off h rfl rfl rfl (beq_eq_false_iff_ne.2 hc_25) fun a h=>s_pick_f h rfl rfl (beq_eq_false_iff_ne.2 hc_25) rfl fun a h=>s_move h rfl rfl fun a h=>s_off h rfl rfl rfl rfl fun a h=>s_off h rfl rfl rfl rfl fun a h=>s_off h rfl rfl rfl rfl fun a h=>s_off h rfl rfl rfl rfl fun a h=>s_off h rfl rfl rfl rfl fun a h=>?_
       refine s_pick_f h rfl rfl rfl rfl fun a h=>s_move h rfl rfl fun a h=>s_off h rfl rfl rfl rfl fun a h=>s_off h rfl rfl rfl rfl fun a h=>s_off h rfl rfl rfl rfl fun a h=>s_off h rfl rfl rfl rfl fun a h=>s_off h rfl rfl rfl rfl fun a h=>s_pick_f h rfl rfl rfl rfl fun a h=>s_assign h rfl rfl fun a h=>wpList_nil ?_
       replace h : Fr 119 a [(4, _)] := h.keep [4]
       refine x_then_n (hKJ_24 _ _ ?_)
       refine wp_ret (x_block_r (x_then_r ?_))
       obtain rfl := Option.some.inj H
       exact f_ret h (rs := [.tmp 4]) rfl (.tmp rfl .nil) ⟨_, rfl, Mem.no, rfl, (Sep.sel hS [0] (by decide))⟩
     ·rw [if_neg hc_23] at H
      refine c_cond_f h rfl (beq_eq_false_iff_ne.2 hc_23) <| wp_seq <| wp_region_lit <| s_cmp (b := (x0.Kind == 8)) h rfl rfl rfl (.inl ⟨rfl, rfl⟩) fun a h=>s_assign h rfl rfl fun a h=>wpList_nil ?_
      replace h : Fr 119 a [(2, _), (3, _), (4, _), (105, .bool (x0.Kind == 8))] := h.keep [2, 3, 4, 105]
      refine x_then_n ?_
      by_cases hc_36 : x0.Kind = 8
      ·rw [if_pos hc_36] at H
       refine c_cond_t h rfl (beq_iff_eq.2 hc_36) <| c_seq fun KJ_37 hKJ_37 => wp_region_lit <| s_fieldAddr h rfl U29 rfl ti3 rfl rfl fun a h=>s_load h rfl rfl (hS.load_one (p := 1) rfl U3 rfl rfl) fun a h=>s_fieldAddr h rfl U29 rfl ti3 rfl rfl fun a h=>s_load h rfl rfl (hS.load_one (p := 2) rfl U3 rfl rfl) fun a h=>s_cmp (b := (x0.Index == x1.Index)) h rfl rfl rfl (.inl ⟨rfl, rfl⟩) fun a h=>s_move h rfl rfl fun a h=>?_
       by_cases hc_38 : x0.Index = x1.Index
       ·rw [if_pos hc_38] at H
        refine s_on h rfl rfl (beq_iff_eq.2 hc_38) <| s_fieldAddr h rfl U29 rfl ti27 rfl rfl fun a h=>s_on h rfl rfl (beq_iff_eq.2 hc_38) <| s_load h rfl rfl (hS.load_agg (p := 1) (us := [iV x0.Entry.Sess, iV x0.Entry.Seq, iV x0.Entry.Cmd.Kind, iV x0.Entry.Cmd.Who, p0_3, p0_4, p0_5]) rfl U27 rfl ti27 rfl rfl) fun a h=>s_on h rfl rfl (beq_iff_eq.2 hc_38) <| s_fieldAddr h rfl U29 rfl ti27 rfl rfl fun a h=>s_on h rfl rfl (beq_iff_eq.2 hc_38) <| s_load h rfl rfl (hS.load_agg (p := 2) (us := [iV x1.Entry.Sess, iV x1.Entry.Seq, iV x1.Entry.Cmd.Kind, iV x1.Entry.Cmd.Who, p1_9, p1_10, p1_11]) rfl U27 rfl ti27 rfl rfl) fun a h=>s_on h rfl rfl (beq_iff_eq.2 hc_38) ?_
        obtain ⟨t_39, et_39, H⟩ := Option.bind_eq_some_iff.1 H
        refine s_call h rfl Try.call70 rfl (mach_SameEntry.calls x0.Entry _ _ _ x1.Entry _ _ _ t_39 w0 _ _ _ (Mem.le.refl _) (hS.enter [] (by decide)) (hp0_3.mono (hA.trans (hS.le_zed []))) (hp0_4.mono (hA.trans (hS.le_zed []))) (hp0_5.mono (hA.trans (hS.le_zed []))) (hp1_9.mono (hA.trans (hS.le_zed []))) (hp1_10.mono (hA.trans (hS.le_zed []))) (hp1_11.mono (hA.trans (hS.le_zed []))) et_39) ?_
        rintro _ w_40 ⟨N_41, rfl, hS'⟩
        intro a h
        obtain ⟨N_42, hS'', le_42, ln_42⟩ := hS.call [] (by decide) rfl (l' := []) (ow := []) rfl hS'
        replace hS : Sep w0 w_40 [N_42, _, _] Z := hS''
        clear hS' hS''
        refine s_pick_t h rfl rfl (beq_iff_eq.2 hc_38) rfl fun a h=>s_assign h rfl rfl fun a h=>wpList_nil <| x_then_n (hKJ_37 _ _ ?_)
        refine wp_ret (x_block_r (x_then_r ?_))
        obtain rfl := Option.some.inj H
        exact f_ret h (rs := [.tmp 4]) rfl (.tmp rfl .nil) ⟨_, rfl, N_42, rfl, (Sep.sel hS [0] (by decide))⟩
       ·rw [if_neg hc_38] at H
        refine s_off h rfl rfl rfl (beq_eq_false_iff_ne.2 hc_38) fun a h=>s_off h rfl rfl rfl (beq_eq_false_iff_ne.2 hc_38) fun a h=>s_off h rfl rfl rfl (beq_eq_false_iff_ne.2 hc_38) fun a h=>s_off h rfl rfl rfl (beq_eq_false_iff_ne.2 hc_38) fun a h=>s_off h rfl rfl rfl (beq_eq_false_iff_ne.2 hc_38) fun a h=>s_pick_f h rfl rfl (beq_eq_false_iff_ne.2 hc_38) rfl fun a h=>s_assign h rfl rfl fun a h=>wpList_nil <| x_then_n (hKJ_37 _ _ ?_)
        refine wp_ret (x_block_r (x_then_r ?_))
        obtain rfl := Option.some.inj H
        exact f_ret h (rs := [.tmp 4]) rfl (.tmp rfl .nil) ⟨_, rfl, Mem.no, rfl, (Sep.sel hS [0] (by decide))⟩
      ·rw [if_neg hc_36] at H
       refine c_cond_f h rfl (beq_eq_false_iff_ne.2 hc_36) <| wp_skip <| x_block_n <| x_then_n (hKJ_5 _ _ ?_)
       refine wp_seq <| wp_region_lit <| s_assign h rfl rfl fun a h=>wpList_nil <| x_then_n <| wp_ret ?_
       obtain rfl := Option.some.inj H
       exact f_ret h (rs := [.tmp 4]) rfl (.tmp rfl .nil) ⟨_, rfl, Mem.no, rfl, (Sep.sel hS [0] (by decide))⟩

set_option maxHeartbeats 4000000 in
set_option maxRecDepth 20000 in
theorem mesg_alike.calls (K : Nat) (x0 : api_Msg) (p0_0 : Value) (p0_1 : Value) (p0_2 : Value) (p0_3 : Value) (p0_4 : Value) (p0_5 : Value) (x1 : api_Msg) (p1_6 : Value) (p1_7 : Value) (p1_8 : Value) (p1_9 : Value) (p1_10 : Value) (p1_11 : Value) (r : Bool) (w0 w : World) (Z A : Mem) (hA : A.le Z) (hS : Sep w0 w [] Z) (hp0_0 : Rd Kd.u8 A p0_0 x0.Data) (hp0_1 : Rd (Kd.int .i64) A p0_1 x0.Have) (hp0_2 : Rd (Kd.int .i64) A p0_2 x0.Need) (hp0_3 : Rd Kd.u8 A p0_3 x0.Entry.Cmd.Key) (hp0_4 : Rd Kd.u8 A p0_4 x0.Entry.Cmd.Val) (hp0_5 : Rd Kd.u8 A p0_5 x0.Entry.Cmd.Old) (hp1_6 : Rd Kd.u8 A p1_6 x1.Data) (hp1_7 : Rd (Kd.int .i64) A p1_7 x1.Have) (hp1_8 : Rd (Kd.int .i64) A p1_8 x1.Need) (hp1_9 : Rd Kd.u8 A p1_9 x1.Entry.Cmd.Key) (hp1_10 : Rd Kd.u8 A p1_10 x1.Entry.Cmd.Val) (hp1_11 : Rd Kd.u8 A p1_11 x1.Entry.Cmd.Old)
    (H : mesg_alike.f K x0 x1 = some r) :
    Calls Try.prog 27 [.agg ([iV x0.Kind, iV x0.From, iV x0.To, iV x0.View, iV x0.Inst, iV x0.Len, .bool x0.Has, iV x0.Members, iV x0.Source, iV x0.At, iV x0.Total, p0_0, iV x0.Hop, iV x0.Seq, p0_1, p0_2, iV x0.Index, iV x0.Entry.Sess, iV x0.Entry.Seq, iV x0.Entry.Cmd.Kind, iV x0.Entry.Cmd.Who, p0_3, p0_4, p0_5] : List Value).toArray, .agg ([iV x1.Kind, iV x1.From, iV x1.To, iV x1.View, iV x1.Inst, iV x1.Len, .bool x1.Has, iV x1.Members, iV x1.Source, iV x1.At, iV x1.Total, p1_6, iV x1.Hop, iV x1.Seq, p1_7, p1_8, iV x1.Index, iV x1.Entry.Sess, iV x1.Entry.Seq, iV x1.Entry.Cmd.Kind, iV x1.Entry.Cmd.Who, p1_9, p1_10, p1_11] : List Value).toArray].toArray w (Ret fun v w' => ∃ (N : Mem), v = .bool r ∧ Sep w0 w' [N] Z) := by
 unfold mesg_alike.f at H
 refine f_enter _ Try.func27 rfl Try.ntmps27 rfl fun a h=>?_
 replace h : Fr 36 a [(0, .agg ([iV x0.Kind, iV x0.From, iV x0.To, iV x0.View, iV x0.Inst, iV x0.Len, .bool x0.Has, iV x0.Members, iV x0.Source, iV x0.At, iV x0.Total, p0_0, iV x0.Hop, iV x0.Seq, p0_1, p0_2, iV x0.Index, iV x0.Entry.Sess, iV x0.Entry.Seq, iV x0.Entry.Cmd.Kind, iV x0.Entry.Cmd.Who, p0_3, p0_4, p0_5] : List Value).toArray), (1, .agg ([iV x1.Kind, iV x1.From, iV x1.To, iV x1.View, iV x1.Inst, iV x1.Len, .bool x1.Has, iV x1.Members, iV x1.Source, iV x1.At, iV x1.Total, p1_6, iV x1.Hop, iV x1.Seq, p1_7, p1_8, iV x1.Index, iV x1.Entry.Sess, iV x1.Entry.Seq, iV x1.Entry.Cmd.Kind, iV x1.Entry.Cmd.Who, p1_9, p1_10, p1_11] : List Value).toArray)] := h
 replace hS := hS.start
 replace hS : Sep w0 w [_] Z := hS
 refine wp_seq <| wp_region_lit <| v_box (vs := [iV x0.Kind, iV x0.From, iV x0.To, iV x0.View, iV x0.Inst, iV x0.Len, .bool x0.Has, iV x0.Members, iV x0.Source, iV x0.At, iV x0.Total, p0_0, iV x0.Hop, iV x0.Seq, p0_1, p0_2, iV x0.Index, iV x0.Entry.Sess, iV x0.Entry.Seq, iV x0.Entry.Cmd.Kind, iV x0.Entry.Cmd.Who, p0_3, p0_4, p0_5]) h rfl rfl rfl hS fun w_1 g_2 hS' a h => ?_
 replace hS : Sep w0 w_1 [_, Mem.one g_2 (.cells ([iV x0.Kind, iV x0.From, iV x0.To, iV x0.View, iV x0.Inst, iV x0.Len, .bool x0.Has, iV x0.Members, iV x0.Source, iV x0.At, iV x0.Total, p0_0, iV x0.Hop, iV x0.Seq, p0_1, p0_2, iV x0.Index, iV x0.Entry.Sess, iV x0.Entry.Seq, iV x0.Entry.Cmd.Kind, iV x0.Entry.Cmd.Who, p0_3, p0_4, p0_5] : List Value).toArray 29 (0, 0))] Z := hS'
 clear hS'
 refine v_box (vs := [iV x1.Kind, iV x1.From, iV x1.To, iV x1.View, iV x1.Inst, iV x1.Len, .bool x1.Has, iV x1.Members, iV x1.Source, iV x1.At, iV x1.Total, p1_6, iV x1.Hop, iV x1.Seq, p1_7, p1_8, iV x1.Index, iV x1.Entry.Sess, iV x1.Entry.Seq, iV x1.Entry.Cmd.Kind, iV x1.Entry.Cmd.Who, p1_9, p1_10, p1_11]) h rfl rfl rfl hS fun w_3 g_4 hS' a h => ?_
 replace hS : Sep w0 w_3 [_, _, Mem.one g_4 (.cells ([iV x1.Kind, iV x1.From, iV x1.To, iV x1.View, iV x1.Inst, iV x1.Len, .bool x1.Has, iV x1.Members, iV x1.Source, iV x1.At, iV x1.Total, p1_6, iV x1.Hop, iV x1.Seq, p1_7, p1_8, iV x1.Index, iV x1.Entry.Sess, iV x1.Entry.Seq, iV x1.Entry.Cmd.Kind, iV x1.Entry.Cmd.Who, p1_9, p1_10, p1_11] : List Value).toArray 29 (0, 0))] Z := hS'
 clear hS'
 refine s_assign h rfl rfl fun a h=>wpList_nil <| x_then_n <| c_seq fun KJ_5 hKJ_5 => wp_region_lit <| s_fieldAddr h rfl U29 rfl ti3 rfl rfl fun a h=>s_load h rfl rfl (hS.load_one (p := 1) rfl U3 rfl rfl) fun a h=>s_fieldAddr h rfl U29 rfl ti3 rfl rfl fun a h=>s_load h rfl rfl (hS.load_one (p := 2) rfl U3 rfl rfl) fun a h=>s_cmp (b := (x0.Kind == x1.Kind)) h rfl rfl rfl (.inl ⟨rfl, rfl⟩) fun a h=>s_move h rfl rfl fun a h=>?_
 by_cases hc_6 : x0.Kind = x1.Kind
 ·rw [if_pos hc_6] at H
  refine s_on h rfl rfl (beq_iff_eq.2 hc_6) <| s_fieldAddr h rfl U29 rfl ti3 rfl rfl fun a h=>s_on h rfl rfl (beq_iff_eq.2 hc_6) <| s_load h rfl rfl (hS.load_one (p := 1) rfl U3 rfl rfl) fun a h=>s_on h rfl rfl (beq_iff_eq.2 hc_6) <| s_fieldAddr h rfl U29 rfl ti3 rfl rfl fun a h=>s_on h rfl rfl (beq_iff_eq.2 hc_6) <| s_load h rfl rfl (hS.load_one (p := 2) rfl U3 rfl rfl) fun a h=>s_on h rfl rfl (beq_iff_eq.2 hc_6) <| s_cmp (b := (x0.From == x1.From)) h rfl rfl rfl (.inl ⟨rfl, rfl⟩) fun a h=>s_pick_t h rfl rfl (beq_iff_eq.2 hc_6) rfl fun a h=>s_move h rfl rfl fun a h=>?_
  by_cases hc_7 : x0.From = x1.From
  ·rw [if_pos hc_7] at H
   refine s_on h rfl rfl (beq_iff_eq.2 hc_7) <| s_fieldAddr h rfl U29 rfl ti3 rfl rfl fun a h=>s_on h rfl rfl (beq_iff_eq.2 hc_7) <| s_load h rfl rfl (hS.load_one (p := 1) rfl U3 rfl rfl) fun a h=>s_on h rfl rfl (beq_iff_eq.2 hc_7) <| s_fieldAddr h rfl U29 rfl ti3 rfl rfl fun a h=>s_on h rfl rfl (beq_iff_eq.2 hc_7) <| s_load h rfl rfl (hS.load_one (p := 2) rfl U3 rfl rfl) fun a h=>s_on h rfl rfl (beq_iff_eq.2 hc_7) <| s_cmp (b := (x0.To == x1.To)) h rfl rfl rfl (.inl ⟨rfl, rfl⟩) fun a h=>s_pick_t h rfl rfl (beq_iff_eq.2 hc_7) rfl fun a h=>s_move h rfl rfl fun a h=>?_
   by_cases hc_8 : x0.To = x1.To
   ·rw [if_pos hc_8] at H
    refine s_on h rfl rfl (beq_iff_eq.2 hc_8) <| s_fieldAddr h rfl U29 rfl ti3 rfl rfl fun a h=>s_on h rfl rfl (beq_iff_eq.2 hc_8) <| s_load h rfl rfl (hS.load_one (p := 1) rfl U3 rfl rfl) fun a h=>s_on h rfl rfl (beq_iff_eq.2 hc_8) <| s_fieldAddr h rfl U29 rfl ti3 rfl rfl fun a h=>s_on h rfl rfl (beq_iff_eq.2 hc_8) <| s_load h rfl rfl (hS.load_one (p := 2) rfl U3 rfl rfl) fun a h=>s_on h rfl rfl (beq_iff_eq.2 hc_8) <| s_cmp (b := (x0.View == x1.View)) h rfl rfl rfl (.inl ⟨rfl, rfl⟩) fun a h=>s_pick_t h rfl rfl (beq_iff_eq.2 hc_8) rfl fun a h=>s_move h rfl rfl fun a h=>?_
    by_cases hc_9 : x0.View = x1.View
    ·rw [if_pos hc_9] at H
     refine s_on h rfl rfl (beq_iff_eq.2 hc_9) <| s_load h rfl rfl (hS.load_agg (p := 1) (us := [iV x0.Kind, iV x0.From, iV x0.To, iV x0.View, iV x0.Inst, iV x0.Len, .bool x0.Has, iV x0.Members, iV x0.Source, iV x0.At, iV x0.Total, p0_0, iV x0.Hop, iV x0.Seq, p0_1, p0_2, iV x0.Index, iV x0.Entry.Sess, iV x0.Entry.Seq, iV x0.Entry.Cmd.Kind, iV x0.Entry.Cmd.Who, p0_3, p0_4, p0_5]) rfl U29 rfl ti29 rfl rfl) fun a h=>s_on h rfl rfl (beq_iff_eq.2 hc_9) <| s_load h rfl rfl (hS.load_agg (p := 2) (us := [iV x1.Kind, iV x1.From, iV x1.To, iV x1.View, iV x1.Inst, iV x1.Len, .bool x1.Has, iV x1.Members, iV x1.Source, iV x1.At, iV x1.Total, p1_6, iV x1.Hop, iV x1.Seq, p1_7, p1_8, iV x1.Index, iV x1.Entry.Sess, iV x1.Entry.Seq, iV x1.Entry.Cmd.Kind, iV x1.Entry.Cmd.Who, p1_9, p1_10, p1_11]) rfl U29 rfl ti29 rfl rfl) fun a h=>s_on h rfl rfl (beq_iff_eq.2 hc_9) ?_
     obtain ⟨t_10, et_10, H⟩ := Option.bind_eq_some_iff.1 H
     refine s_call h rfl Try.call56 rfl (mesg_fields.calls K x0 _ _ _ _ _ _ x1 _ _ _ _ _ _ t_10 w0 _ _ _ (Mem.le.refl _) (hS.enter [] (by decide)) (hp0_0.mono (hA.trans (hS.le_zed []))) (hp0_1.mono (hA.trans (hS.le_zed []))) (hp0_2.mono (hA.trans (hS.le_zed []))) (hp0_3.mono (hA.trans (hS.le_zed []))) (hp0_4.mono (hA.trans (hS.le_zed []))) (hp0_5.mono (hA.trans (hS.le_zed []))) (hp1_6.mono (hA.trans (hS.le_zed []))) (hp1_7.mono (hA.trans (hS.le_zed []))) (hp1_8.mono (hA.trans (hS.le_zed []))) (hp1_9.mono (hA.trans (hS.le_zed []))) (hp1_10.mono (hA.trans (hS.le_zed []))) (hp1_11.mono (hA.trans (hS.le_zed []))) et_10) ?_
     rintro _ w_11 ⟨N_12, rfl, hS'⟩
     intro a h
     obtain ⟨N_13, hS'', le_13, ln_13⟩ := hS.call [] (by decide) rfl (l' := []) (ow := []) rfl hS'
     replace hS : Sep w0 w_11 [N_13, _, _] Z := hS''
     clear hS' hS''
     refine s_pick_t h rfl rfl (beq_iff_eq.2 hc_9) rfl fun a h=>s_assign h rfl rfl fun a h=>wpList_nil <| x_then_n (hKJ_5 _ _ ?_)
     refine wp_ret ?_
     obtain rfl := Option.some.inj H
     exact f_ret h (rs := [.tmp 4]) rfl (.tmp rfl .nil) ⟨_, rfl, N_13, rfl, (Sep.sel hS [0] (by decide))⟩
    ·rw [if_neg hc_9] at H
     refine s_off h rfl rfl rfl (beq_eq_false_iff_ne.2 hc_9) fun a h=>s_off h rfl rfl rfl (beq_eq_false_iff_ne.2 hc_9) fun a h=>s_off h rfl rfl rfl (beq_eq_false_iff_ne.2 hc_9) fun a h=>s_pick_f h rfl rfl (beq_eq_false_iff_ne.2 hc_9) rfl fun a h=>s_assign h rfl rfl fun a h=>wpList_nil <| x_then_n (hKJ_5 _ _ ?_)
     refine wp_ret ?_
     obtain rfl := Option.some.inj H
     exact f_ret h (rs := [.tmp 4]) rfl (.tmp rfl .nil) ⟨_, rfl, Mem.no, rfl, (Sep.sel hS [0] (by decide))⟩
   ·rw [if_neg hc_8] at H
    refine s_off h rfl rfl rfl (beq_eq_false_iff_ne.2 hc_8) fun a h=>s_off h rfl rfl rfl (beq_eq_false_iff_ne.2 hc_8) fun a h=>s_off h rfl rfl rfl (beq_eq_false_iff_ne.2 hc_8) fun a h=>s_off h rfl rfl rfl (beq_eq_false_iff_ne.2 hc_8) fun a h=>s_off h rfl rfl rfl (beq_eq_false_iff_ne.2 hc_8) fun a h=>s_pick_f h rfl rfl (beq_eq_false_iff_ne.2 hc_8) rfl fun a h=>s_move h rfl rfl fun a h=>s_off h rfl rfl rfl rfl fun a h=>s_off h rfl rfl rfl rfl fun a h=>s_off h rfl rfl rfl rfl fun a h=>s_pick_f h rfl rfl rfl rfl fun a h=>s_assign h rfl rfl fun a h=>?_
    refine wpList_nil <| x_then_n (hKJ_5 _ _ ?_)
    refine wp_ret ?_
    obtain rfl := Option.some.inj H
    exact f_ret h (rs := [.tmp 4]) rfl (.tmp rfl .nil) ⟨_, rfl, Mem.no, rfl, (Sep.sel hS [0] (by decide))⟩
  ·rw [if_neg hc_7] at H
   refine s_off h rfl rfl rfl (beq_eq_false_iff_ne.2 hc_7) fun a h=>s_off h rfl rfl rfl (beq_eq_false_iff_ne.2 hc_7) fun a h=>s_off h rfl rfl rfl (beq_eq_false_iff_ne.2 hc_7) fun a h=>s_off h rfl rfl rfl (beq_eq_false_iff_ne.2 hc_7) fun a h=>s_off h rfl rfl rfl (beq_eq_false_iff_ne.2 hc_7) fun a h=>s_pick_f h rfl rfl (beq_eq_false_iff_ne.2 hc_7) rfl fun a h=>s_move h rfl rfl fun a h=>s_off h rfl rfl rfl rfl fun a h=>s_off h rfl rfl rfl rfl fun a h=>s_off h rfl rfl rfl rfl fun a h=>s_off h rfl rfl rfl rfl fun a h=>s_off h rfl rfl rfl rfl fun a h=>?_
   refine s_pick_f h rfl rfl rfl rfl fun a h=>s_move h rfl rfl fun a h=>s_off h rfl rfl rfl rfl fun a h=>s_off h rfl rfl rfl rfl fun a h=>s_off h rfl rfl rfl rfl fun a h=>s_pick_f h rfl rfl rfl rfl fun a h=>s_assign h rfl rfl fun a h=>wpList_nil <| x_then_n (hKJ_5 _ _ ?_)
   refine wp_ret ?_
   obtain rfl := Option.some.inj H
   exact f_ret h (rs := [.tmp 4]) rfl (.tmp rfl .nil) ⟨_, rfl, Mem.no, rfl, (Sep.sel hS [0] (by decide))⟩
 ·rw [if_neg hc_6] at H
  refine s_off h rfl rfl rfl (beq_eq_false_iff_ne.2 hc_6) fun a h=>s_off h rfl rfl rfl (beq_eq_false_iff_ne.2 hc_6) fun a h=>s_off h rfl rfl rfl (beq_eq_false_iff_ne.2 hc_6) fun a h=>s_off h rfl rfl rfl (beq_eq_false_iff_ne.2 hc_6) fun a h=>s_off h rfl rfl rfl (beq_eq_false_iff_ne.2 hc_6) fun a h=>s_pick_f h rfl rfl (beq_eq_false_iff_ne.2 hc_6) rfl fun a h=>s_move h rfl rfl fun a h=>s_off h rfl rfl rfl rfl fun a h=>s_off h rfl rfl rfl rfl fun a h=>s_off h rfl rfl rfl rfl fun a h=>s_off h rfl rfl rfl rfl fun a h=>s_off h rfl rfl rfl rfl fun a h=>?_
  refine s_pick_f h rfl rfl rfl rfl fun a h=>s_move h rfl rfl fun a h=>s_off h rfl rfl rfl rfl fun a h=>s_off h rfl rfl rfl rfl fun a h=>s_off h rfl rfl rfl rfl fun a h=>s_off h rfl rfl rfl rfl fun a h=>s_off h rfl rfl rfl rfl fun a h=>s_pick_f h rfl rfl rfl rfl fun a h=>s_move h rfl rfl fun a h=>s_off h rfl rfl rfl rfl fun a h=>s_off h rfl rfl rfl rfl fun a h=>s_off h rfl rfl rfl rfl fun a h=>?_
  refine s_pick_f h rfl rfl rfl rfl fun a h=>s_assign h rfl rfl fun a h=>wpList_nil <| x_then_n (hKJ_5 _ _ ?_)
  refine wp_ret ?_
  obtain rfl := Option.some.inj H
  exact f_ret h (rs := [.tmp 4]) rfl (.tmp rfl .nil) ⟨_, rfl, Mem.no, rfl, (Sep.sel hS [0] (by decide))⟩

set_option maxHeartbeats 4000000 in
set_option maxRecDepth 20000 in
theorem mesg_Decode.calls (K : Nat) (x0 : List UInt8) (p0_0 : Value) (r : api_Msg × Bool) (w0 w : World) (Z A : Mem) (hA : A.le Z) (hS : Sep w0 w [] Z) (hp0_0 : Rd Kd.u8 A p0_0 x0)
    (H : mesg_Decode.f K x0 = some r) :
    Calls Try.prog 12 [p0_0].toArray w (Ret fun v w' => ∃ (u0 : Value) (u1 : Value) (u2 : Value) (u3 : Value) (u4 : Value) (u5 : Value) (N : Mem) (M0 : Mem) (M1 : Mem) (M2 : Mem) (M3 : Mem) (M4 : Mem) (M5 : Mem), v = .tuple [.agg [iV r.1.Kind, iV r.1.From, iV r.1.To, iV r.1.View, iV r.1.Inst, iV r.1.Len, .bool r.1.Has, iV r.1.Members, iV r.1.Source, iV r.1.At, iV r.1.Total, u0, iV r.1.Hop, iV r.1.Seq, u1, u2, iV r.1.Index, iV r.1.Entry.Sess, iV r.1.Entry.Seq, iV r.1.Entry.Cmd.Kind, iV r.1.Entry.Cmd.Who, u3, u4, u5].toArray, .bool r.2].toArray ∧ Sep w0 w' [N, M0, M1, M2, M3, M4, M5] Z ∧ Own Kd.u8 5 M0 Mem.no u0 r.1.Data ∧ Own (Kd.int .i64) 3 M1 Mem.no u1 r.1.Have ∧ Own (Kd.int .i64) 3 M2 Mem.no u2 r.1.Need ∧ Own Kd.u8 5 M3 Mem.no u3 r.1.Entry.Cmd.Key ∧ Own Kd.u8 5 M4 Mem.no u4 r.1.Entry.Cmd.Val ∧ Own Kd.u8 5 M5 Mem.no u5 r.1.Entry.Cmd.Old) := by
 unfold mesg_Decode.f at H
 refine f_enter _ Try.func12 rfl Try.ntmps12 rfl fun a h=>?_
 replace h : Fr 15 a [(0, p0_0)] := h
 replace hS := hS.start
 replace hS : Sep w0 w [_] Z := hS
 refine wp_seq <| wp_region_lit <| v_alloc h rfl ti29 hS fun w_1 g_2 hS' a h => ?_
 replace hS : Sep w0 w_1 [_, Mem.one g_2 (.cells ([iV 0, iV 0, iV 0, iV 0, iV 0, iV 0, .bool false, iV 0, iV 0, iV 0, iV 0, nS, iV 0, iV 0, nS, nS, iV 0, iV 0, iV 0, iV 0, iV 0, nS, nS, nS] : List Value).toArray 29 (0, 0))] Z := hS'
 clear hS'
 refine s_assign h rfl rfl fun a h=>wpList_nil <| x_then_n <| wp_seq <| wp_region_lit <| s_move h rfl rfl fun a h=>?_
 obtain ⟨t_3, et_3, H⟩ := Option.bind_eq_some_iff.1 H
 refine s_call h rfl Try.call26 rfl (mesg_read.calls K x0 _ t_3 w0 _ _ _ (Mem.le.refl _) (hS.enter [] (by decide)) (hp0_0.mono (hA.trans (hS.le_zed []))) et_3) ?_
 rintro _ w_4 ⟨v_7, v_11, v_15, v_19, v_23, v_27, N_5, M_9, M_13, M_17, M_21, M_25, M_29, rfl, hS', hr_8, hr_12, hr_16, hr_20, hr_24, hr_28⟩
 intro a h
 obtain ⟨N_6, hS'', le_6, ln_6⟩ := hS.call [] (by decide) rfl (l' := []) (ow := [M_9, M_13, M_17, M_21, M_25, M_29]) rfl hS'
 replace hS : Sep w0 w_4 [N_6, _, M_9, M_13, M_17, M_21, M_25, M_29] Z := hS''
 clear hS' hS''
 refine s_move h rfl rfl fun a h=>s_extract h rfl rfl rfl fun a h=>s_extract h rfl rfl rfl fun a h=>v_alloc h rfl ti29 hS fun w_31 g_32 hS' a h => ?_
 replace hS : Sep w0 w_31 [_, _, _, _, _, _, _, _, Mem.one g_32 (.cells ([iV 0, iV 0, iV 0, iV 0, iV 0, iV 0, .bool false, iV 0, iV 0, iV 0, iV 0, nS, iV 0, iV 0, nS, nS, iV 0, iV 0, iV 0, iV 0, iV 0, nS, nS, nS] : List Value).toArray 29 (0, 0))] Z := hS'
 clear hS'
 obtain ⟨w_33, hs', hS'⟩ := hS.store (P := Try.prog) (p := 8) (o := 0) (t := 29) (v := .agg ([iV t_3.1.Kind, iV t_3.1.From, iV t_3.1.To, iV t_3.1.View, iV t_3.1.Inst, iV t_3.1.Len, .bool t_3.1.Has, iV t_3.1.Members, iV t_3.1.Source, iV t_3.1.At, iV t_3.1.Total, v_7, iV t_3.1.Hop, iV t_3.1.Seq, v_11, v_15, iV t_3.1.Index, iV t_3.1.Entry.Sess, iV t_3.1.Entry.Seq, iV t_3.1.Entry.Cmd.Kind, iV t_3.1.Entry.Cmd.Who, v_19, v_23, v_27] : List Value).toArray) (vs := [iV t_3.1.Kind, iV t_3.1.From, iV t_3.1.To, iV t_3.1.View, iV t_3.1.Inst, iV t_3.1.Len, .bool t_3.1.Has, iV t_3.1.Members, iV t_3.1.Source, iV t_3.1.At, iV t_3.1.Total, v_7, iV t_3.1.Hop, iV t_3.1.Seq, v_11, v_15, iV t_3.1.Index, iV t_3.1.Entry.Sess, iV t_3.1.Entry.Seq, iV t_3.1.Entry.Cmd.Kind, iV t_3.1.Entry.Cmd.Who, v_19, v_23, v_27]) rfl ti29 rfl rfl rfl (by intro u hu; simp only [List.mem_cons, List.not_mem_nil, or_false] at hu; rcases hu with rfl | rfl | rfl | rfl | rfl | rfl | rfl | rfl | rfl | rfl | rfl | rfl | rfl | rfl | rfl | rfl | rfl | rfl | rfl | rfl | rfl | rfl | rfl | rfl <;> first | rfl | exact hr_8.one | exact hr_12.one | exact hr_16.one | exact hr_20.one | exact hr_24.one | exact hr_28.one)
 refine s_store h rfl rfl hs' ?_
 replace hS : Sep w0 w_33 [_, _, _, _, _, _, _, _, Mem.one g_32 (.cells ([iV t_3.1.Kind, iV t_3.1.From, iV t_3.1.To, iV t_3.1.View, iV t_3.1.Inst, iV t_3.1.Len, .bool t_3.1.Has, iV t_3.1.Members, iV t_3.1.Source, iV t_3.1.At, iV t_3.1.Total, v_7, iV t_3.1.Hop, iV t_3.1.Seq, v_11, v_15, iV t_3.1.Index, iV t_3.1.Entry.Sess, iV t_3.1.Entry.Seq, iV t_3.1.Entry.Cmd.Kind, iV t_3.1.Entry.Cmd.Who, v_19, v_23, v_27] : List Value).toArray 29 (0, 0))] Z := hS'
 clear hs' hS'
 refine s_assign h rfl rfl fun a h=>wpList_nil <| x_then_n <| c_seq fun KJ_34 hKJ_34 => wp_seq <| wp_region_lit <| s_move h rfl rfl fun a h=>s_not h rfl rfl fun a h=>wpList_nil <| x_then_n ?_
 by_cases hc_35 : t_3.2 = true
 ·rw [if_pos hc_35] at H
  refine c_cond_f h rfl (nf hc_35) <| wp_skip <| x_then_n (hKJ_34 _ _ ?_)
  refine wp_seq <| wp_region_lit <| s_load h rfl rfl (hS.load_agg (p := 8) (us := [iV t_3.1.Kind, iV t_3.1.From, iV t_3.1.To, iV t_3.1.View, iV t_3.1.Inst, iV t_3.1.Len, .bool t_3.1.Has, iV t_3.1.Members, iV t_3.1.Source, iV t_3.1.At, iV t_3.1.Total, v_7, iV t_3.1.Hop, iV t_3.1.Seq, v_11, v_15, iV t_3.1.Index, iV t_3.1.Entry.Sess, iV t_3.1.Entry.Seq, iV t_3.1.Entry.Cmd.Kind, iV t_3.1.Entry.Cmd.Who, v_19, v_23, v_27]) rfl U29 rfl ti29 rfl rfl) fun a h=>?_
  obtain ⟨w_36, hs', hS'⟩ := hS.store (P := Try.prog) (p := 1) (o := 0) (t := 29) (v := .agg ([iV t_3.1.Kind, iV t_3.1.From, iV t_3.1.To, iV t_3.1.View, iV t_3.1.Inst, iV t_3.1.Len, .bool t_3.1.Has, iV t_3.1.Members, iV t_3.1.Source, iV t_3.1.At, iV t_3.1.Total, v_7, iV t_3.1.Hop, iV t_3.1.Seq, v_11, v_15, iV t_3.1.Index, iV t_3.1.Entry.Sess, iV t_3.1.Entry.Seq, iV t_3.1.Entry.Cmd.Kind, iV t_3.1.Entry.Cmd.Who, v_19, v_23, v_27] : List Value).toArray) (vs := [iV t_3.1.Kind, iV t_3.1.From, iV t_3.1.To, iV t_3.1.View, iV t_3.1.Inst, iV t_3.1.Len, .bool t_3.1.Has, iV t_3.1.Members, iV t_3.1.Source, iV t_3.1.At, iV t_3.1.Total, v_7, iV t_3.1.Hop, iV t_3.1.Seq, v_11, v_15, iV t_3.1.Index, iV t_3.1.Entry.Sess, iV t_3.1.Entry.Seq, iV t_3.1.Entry.Cmd.Kind, iV t_3.1.Entry.Cmd.Who, v_19, v_23, v_27]) rfl ti29 rfl rfl rfl (by intro u hu; simp only [List.mem_cons, List.not_mem_nil, or_false] at hu; rcases hu with rfl | rfl | rfl | rfl | rfl | rfl | rfl | rfl | rfl | rfl | rfl | rfl | rfl | rfl | rfl | rfl | rfl | rfl | rfl | rfl | rfl | rfl | rfl | rfl <;> first | rfl | exact hr_8.one | exact hr_12.one | exact hr_16.one | exact hr_20.one | exact hr_24.one | exact hr_28.one)
  refine s_store h rfl rfl hs' ?_
  replace hS : Sep w0 w_36 [_, Mem.one g_2 (.cells ([iV t_3.1.Kind, iV t_3.1.From, iV t_3.1.To, iV t_3.1.View, iV t_3.1.Inst, iV t_3.1.Len, .bool t_3.1.Has, iV t_3.1.Members, iV t_3.1.Source, iV t_3.1.At, iV t_3.1.Total, v_7, iV t_3.1.Hop, iV t_3.1.Seq, v_11, v_15, iV t_3.1.Index, iV t_3.1.Entry.Sess, iV t_3.1.Entry.Seq, iV t_3.1.Entry.Cmd.Kind, iV t_3.1.Entry.Cmd.Who, v_19, v_23, v_27] : List Value).toArray 29 (0, 0)), _, _, _, _, _, _, _] Z := hS'
  clear hs' hS'
  refine s_assign h rfl rfl fun a h=>wpList_nil ?_
  replace h : Fr 15 a [(2, .pointer (some ⟨g_2, 0, none⟩)), (3, .bool true)] := h.keep [2, 3]
  refine x_then_n <| wp_ret ?_
  obtain rfl := Option.some.inj H
  exact f_ret h (rs := [.cell 2 29, .tmp 3]) rfl (.cell rfl (hS.load_agg (p := 1) (us := [iV t_3.1.Kind, iV t_3.1.From, iV t_3.1.To, iV t_3.1.View, iV t_3.1.Inst, iV t_3.1.Len, .bool t_3.1.Has, iV t_3.1.Members, iV t_3.1.Source, iV t_3.1.At, iV t_3.1.Total, v_7, iV t_3.1.Hop, iV t_3.1.Seq, v_11, v_15, iV t_3.1.Index, iV t_3.1.Entry.Sess, iV t_3.1.Entry.Seq, iV t_3.1.Entry.Cmd.Kind, iV t_3.1.Entry.Cmd.Who, v_19, v_23, v_27]) rfl U29 rfl ti29 rfl rfl) (.tmp rfl .nil)) ⟨_, rfl, v_7, v_11, v_15, v_19, v_23, v_27, N_6, M_9, M_13, M_17, M_21, M_25, M_29, rfl, (Sep.sel hS [0, 2, 3, 4, 5, 6, 7] (by decide)), hr_8, hr_12, hr_16, hr_20, hr_24, hr_28⟩
 ·rw [if_neg hc_35] at H
  refine c_cond_t h rfl (nt (Bool.eq_false_iff.2 hc_35)) <| wp_seq <| wp_region_lit <| s_build h rfl ti29 pl29 rfl .nil (cs := [iV 0, iV 0, iV 0, iV 0, iV 0, iV 0, .bool false, iV 0, iV 0, iV 0, iV 0, nS, iV 0, iV 0, nS, nS, iV 0, iV 0, iV 0, iV 0, iV 0, nS, nS, nS]) (by kernel_rfl) fun a h=>?_
  obtain ⟨w_37, hs', hS'⟩ := hS.store (P := Try.prog) (p := 1) (o := 0) (t := 29) (v := .agg ([iV 0, iV 0, iV 0, iV 0, iV 0, iV 0, .bool false, iV 0, iV 0, iV 0, iV 0, nS, iV 0, iV 0, nS, nS, iV 0, iV 0, iV 0, iV 0, iV 0, nS, nS, nS] : List Value).toArray) (vs := [iV 0, iV 0, iV 0, iV 0, iV 0, iV 0, .bool false, iV 0, iV 0, iV 0, iV 0, nS, iV 0, iV 0, nS, nS, iV 0, iV 0, iV 0, iV 0, iV 0, nS, nS, nS]) rfl ti29 rfl rfl rfl (by intro u hu; simp only [List.mem_cons, List.not_mem_nil, or_false] at hu; rcases hu with rfl | rfl | rfl | rfl | rfl | rfl | rfl | rfl | rfl | rfl | rfl | rfl | rfl | rfl | rfl | rfl | rfl | rfl | rfl | rfl | rfl | rfl | rfl | rfl <;> rfl)
  refine s_store h rfl rfl hs' ?_
  replace hS : Sep w0 w_37 [_, _, _, _, _, _, _, _, _] Z := hS'
  clear hs' hS'
  refine s_assign h rfl rfl fun a h=>wpList_nil ?_
  replace h : Fr 15 a [(2, .pointer (some ⟨g_2, 0, none⟩)), (3, .bool false), (4, .pointer (some ⟨g_32, 0, none⟩))] := h.keep [2, 3, 4]
  refine x_then_n <| wp_ret (x_then_r ?_)
  have hS' := hS.room
  replace hS : Sep w0 w_37 [_, _, _, _, _, _, _, _, _, Mem.no] Z := hS'
  clear hS'
  replace hS : Sep w0 w_37 [_, _, _, _, _, _, _, _, _, _] Z := hS
  have hS' := hS.room
  replace hS : Sep w0 w_37 [_, _, _, _, _, _, _, _, _, _, Mem.no] Z := hS'
  clear hS'
  replace hS : Sep w0 w_37 [_, _, _, _, _, _, _, _, _, _, _] Z := hS
  have hS' := hS.room
  replace hS : Sep w0 w_37 [_, _, _, _, _, _, _, _, _, _, _, Mem.no] Z := hS'
  clear hS'
  replace hS : Sep w0 w_37 [_, _, _, _, _, _, _, _, _, _, _, _] Z := hS
  have hS' := hS.room
  replace hS : Sep w0 w_37 [_, _, _, _, _, _, _, _, _, _, _, _, Mem.no] Z := hS'
  clear hS'
  replace hS : Sep w0 w_37 [_, _, _, _, _, _, _, _, _, _, _, _, _] Z := hS
  have hS' := hS.room
  replace hS : Sep w0 w_37 [_, _, _, _, _, _, _, _, _, _, _, _, _, Mem.no] Z := hS'
  clear hS'
  replace hS : Sep w0 w_37 [_, _, _, _, _, _, _, _, _, _, _, _, _, _] Z := hS
  have hS' := hS.room
  replace hS : Sep w0 w_37 [_, _, _, _, _, _, _, _, _, _, _, _, _, _, Mem.no] Z := hS'
  clear hS'
  replace hS : Sep w0 w_37 [_, _, _, _, _, _, _, _, _, _, _, _, _, _, _] Z := hS
  obtain rfl := Option.some.inj H
  exact f_ret h (rs := [.cell 2 29, .tmp 3]) rfl (.cell rfl (hS.load_agg (p := 1) (us := [iV 0, iV 0, iV 0, iV 0, iV 0, iV 0, .bool false, iV 0, iV 0, iV 0, iV 0, nS, iV 0, iV 0, nS, nS, iV 0, iV 0, iV 0, iV 0, iV 0, nS, nS, nS]) rfl U29 rfl ti29 rfl rfl) (.tmp rfl .nil)) ⟨_, rfl, nS, nS, nS, nS, nS, nS, N_6, Mem.no, Mem.no, Mem.no, Mem.no, Mem.no, Mem.no, rfl, (Sep.sel hS [0, 9, 10, 11, 12, 13, 14] (by decide)), (Own.nil Kd.u8 5 Mem.no), (Own.nil (Kd.int .i64) 3 Mem.no), (Own.nil (Kd.int .i64) 3 Mem.no), (Own.nil Kd.u8 5 Mem.no), (Own.nil Kd.u8 5 Mem.no), (Own.nil Kd.u8 5 Mem.no)⟩

set_option maxHeartbeats 4000000 in
set_option maxRecDepth 20000 in
theorem mesg_Same.calls (K : Nat) (x0 : api_Msg) (p0_0 : Value) (p0_1 : Value) (p0_2 : Value) (p0_3 : Value) (p0_4 : Value) (p0_5 : Value) (x1 : api_Msg) (p1_6 : Value) (p1_7 : Value) (p1_8 : Value) (p1_9 : Value) (p1_10 : Value) (p1_11 : Value) (r : Bool) (w0 w : World) (Z A : Mem) (hA : A.le Z) (hS : Sep w0 w [] Z) (hp0_0 : Rd Kd.u8 A p0_0 x0.Data) (hp0_1 : Rd (Kd.int .i64) A p0_1 x0.Have) (hp0_2 : Rd (Kd.int .i64) A p0_2 x0.Need) (hp0_3 : Rd Kd.u8 A p0_3 x0.Entry.Cmd.Key) (hp0_4 : Rd Kd.u8 A p0_4 x0.Entry.Cmd.Val) (hp0_5 : Rd Kd.u8 A p0_5 x0.Entry.Cmd.Old) (hp1_6 : Rd Kd.u8 A p1_6 x1.Data) (hp1_7 : Rd (Kd.int .i64) A p1_7 x1.Have) (hp1_8 : Rd (Kd.int .i64) A p1_8 x1.Need) (hp1_9 : Rd Kd.u8 A p1_9 x1.Entry.Cmd.Key) (hp1_10 : Rd Kd.u8 A p1_10 x1.Entry.Cmd.Val) (hp1_11 : Rd Kd.u8 A p1_11 x1.Entry.Cmd.Old)
    (H : mesg_Same.f K x0 x1 = some r) :
    Calls Try.prog 17 [.agg ([iV x0.Kind, iV x0.From, iV x0.To, iV x0.View, iV x0.Inst, iV x0.Len, .bool x0.Has, iV x0.Members, iV x0.Source, iV x0.At, iV x0.Total, p0_0, iV x0.Hop, iV x0.Seq, p0_1, p0_2, iV x0.Index, iV x0.Entry.Sess, iV x0.Entry.Seq, iV x0.Entry.Cmd.Kind, iV x0.Entry.Cmd.Who, p0_3, p0_4, p0_5] : List Value).toArray, .agg ([iV x1.Kind, iV x1.From, iV x1.To, iV x1.View, iV x1.Inst, iV x1.Len, .bool x1.Has, iV x1.Members, iV x1.Source, iV x1.At, iV x1.Total, p1_6, iV x1.Hop, iV x1.Seq, p1_7, p1_8, iV x1.Index, iV x1.Entry.Sess, iV x1.Entry.Seq, iV x1.Entry.Cmd.Kind, iV x1.Entry.Cmd.Who, p1_9, p1_10, p1_11] : List Value).toArray].toArray w (Ret fun v w' => ∃ (N : Mem), v = .bool r ∧ Sep w0 w' [N] Z) := by
 unfold mesg_Same.f at H
 refine f_enter _ Try.func17 rfl Try.ntmps17 rfl fun a h=>?_
 replace h : Fr 27 a [(0, .agg ([iV x0.Kind, iV x0.From, iV x0.To, iV x0.View, iV x0.Inst, iV x0.Len, .bool x0.Has, iV x0.Members, iV x0.Source, iV x0.At, iV x0.Total, p0_0, iV x0.Hop, iV x0.Seq, p0_1, p0_2, iV x0.Index, iV x0.Entry.Sess, iV x0.Entry.Seq, iV x0.Entry.Cmd.Kind, iV x0.Entry.Cmd.Who, p0_3, p0_4, p0_5] : List Value).toArray), (1, .agg ([iV x1.Kind, iV x1.From, iV x1.To, iV x1.View, iV x1.Inst, iV x1.Len, .bool x1.Has, iV x1.Members, iV x1.Source, iV x1.At, iV x1.Total, p1_6, iV x1.Hop, iV x1.Seq, p1_7, p1_8, iV x1.Index, iV x1.Entry.Sess, iV x1.Entry.Seq, iV x1.Entry.Cmd.Kind, iV x1.Entry.Cmd.Who, p1_9, p1_10, p1_11] : List Value).toArray)] := h
 replace hS := hS.start
 replace hS : Sep w0 w [_] Z := hS
 refine wp_seq <| wp_region_lit <| v_box (vs := [iV x0.Kind, iV x0.From, iV x0.To, iV x0.View, iV x0.Inst, iV x0.Len, .bool x0.Has, iV x0.Members, iV x0.Source, iV x0.At, iV x0.Total, p0_0, iV x0.Hop, iV x0.Seq, p0_1, p0_2, iV x0.Index, iV x0.Entry.Sess, iV x0.Entry.Seq, iV x0.Entry.Cmd.Kind, iV x0.Entry.Cmd.Who, p0_3, p0_4, p0_5]) h rfl rfl rfl hS fun w_1 g_2 hS' a h => ?_
 replace hS : Sep w0 w_1 [_, Mem.one g_2 (.cells ([iV x0.Kind, iV x0.From, iV x0.To, iV x0.View, iV x0.Inst, iV x0.Len, .bool x0.Has, iV x0.Members, iV x0.Source, iV x0.At, iV x0.Total, p0_0, iV x0.Hop, iV x0.Seq, p0_1, p0_2, iV x0.Index, iV x0.Entry.Sess, iV x0.Entry.Seq, iV x0.Entry.Cmd.Kind, iV x0.Entry.Cmd.Who, p0_3, p0_4, p0_5] : List Value).toArray 29 (0, 0))] Z := hS'
 clear hS'
 refine v_box (vs := [iV x1.Kind, iV x1.From, iV x1.To, iV x1.View, iV x1.Inst, iV x1.Len, .bool x1.Has, iV x1.Members, iV x1.Source, iV x1.At, iV x1.Total, p1_6, iV x1.Hop, iV x1.Seq, p1_7, p1_8, iV x1.Index, iV x1.Entry.Sess, iV x1.Entry.Seq, iV x1.Entry.Cmd.Kind, iV x1.Entry.Cmd.Who, p1_9, p1_10, p1_11]) h rfl rfl rfl hS fun w_3 g_4 hS' a h => ?_
 replace hS : Sep w0 w_3 [_, _, Mem.one g_4 (.cells ([iV x1.Kind, iV x1.From, iV x1.To, iV x1.View, iV x1.Inst, iV x1.Len, .bool x1.Has, iV x1.Members, iV x1.Source, iV x1.At, iV x1.Total, p1_6, iV x1.Hop, iV x1.Seq, p1_7, p1_8, iV x1.Index, iV x1.Entry.Sess, iV x1.Entry.Seq, iV x1.Entry.Cmd.Kind, iV x1.Entry.Cmd.Who, p1_9, p1_10, p1_11] : List Value).toArray 29 (0, 0))] Z := hS'
 clear hS'
 refine s_assign h rfl rfl fun a h=>wpList_nil <| x_then_n <| c_seq fun KJ_5 hKJ_5 => wp_seq <| wp_region_lit <| s_assign h rfl rfl fun a h=>wpList_nil <| x_then_n ?_
 have hJ_j_8 : mesg_Same.J1 K x0 x1 = some r → ∀ (a : Act) (w_7 : World), (∃ (N_6 : Mem), Fr 27 a [(2, .pointer (some ⟨g_2, 0, none⟩)), (3, .pointer (some ⟨g_4, 0, none⟩)), (4, .bool false)] ∧ Sep w0 w_7 [N_6, Mem.one g_2 (.cells ([iV x0.Kind, iV x0.From, iV x0.To, iV x0.View, iV x0.Inst, iV x0.Len, .bool x0.Has, iV x0.Members, iV x0.Source, iV x0.At, iV x0.Total, p0_0, iV x0.Hop, iV x0.Seq, p0_1, p0_2, iV x0.Index, iV x0.Entry.Sess, iV x0.Entry.Seq, iV x0.Entry.Cmd.Kind, iV x0.Entry.Cmd.Who, p0_3, p0_4, p0_5] : List Value).toArray 29 (0, 0)), Mem.one g_4 (.cells ([iV x1.Kind, iV x1.From, iV x1.To, iV x1.View, iV x1.Inst, iV x1.Len, .bool x1.Has, iV x1.Members, iV x1.Source, iV x1.At, iV x1.Total, p1_6, iV x1.Hop, iV x1.Seq, p1_7, p1_8, iV x1.Index, iV x1.Entry.Sess, iV x1.Entry.Seq, iV x1.Entry.Cmd.Kind, iV x1.Entry.Cmd.Who, p1_9, p1_10, p1_11] : List Value).toArray 29 (0, 0))] Z ∧ Mem.no.le N_6) → KJ_5 a w_7 := by
  clear H h hS a
  rintro H a w_7 ⟨N_6, h, hS, le_6⟩
  unfold mesg_Same.J1 at H
  refine hKJ_5 _ _ <| wp_seq <| wp_region_lit <| s_fieldAddr h rfl U29 rfl ti3 rfl rfl fun a h=>s_load h rfl rfl (hS.load_one (p := 1) rfl U3 rfl rfl) fun a h=>s_fieldAddr h rfl U29 rfl ti3 rfl rfl fun a h=>s_load h rfl rfl (hS.load_one (p := 2) rfl U3 rfl rfl) fun a h=>s_cmp (b := (x0.Kind == x1.Kind)) h rfl rfl rfl (.inl ⟨rfl, rfl⟩) fun a h=>s_assign h rfl rfl fun a h=>wpList_nil <| x_then_n <| wp_ret ?_
  obtain rfl := Option.some.inj H
  exact f_ret h (rs := [.tmp 4]) rfl (.tmp rfl .nil) ⟨_, rfl, N_6, rfl, (Sep.sel hS [0] (by decide))⟩
 clear hKJ_5
 replace hS : Sep w0 w_3 [_, _, _] Z := hS
 replace h : Fr 27 a [(2, .pointer (some ⟨g_2, 0, none⟩)), (3, .pointer (some ⟨g_4, 0, none⟩)), (4, .bool false), (5, iV 1)] := h.keep [2, 3, 4, 5]
 refine c_block <| c_loop (fun k_11 a w_11 => ∃ (x_10 : Int) (N_9 : Mem), mesg_Same.L1 K x0 x1 (fun v => mesg_Same.J1 K x0 x1) k_11 x_10 = some r ∧ Fr 27 a [(2, .pointer (some ⟨g_2, 0, none⟩)), (3, .pointer (some ⟨g_4, 0, none⟩)), (4, .bool false), (5, iV x_10)] ∧ Sep w0 w_11 [N_9, Mem.one g_2 (.cells ([iV x0.Kind, iV x0.From, iV x0.To, iV x0.View, iV x0.Inst, iV x0.Len, .bool x0.Has, iV x0.Members, iV x0.Source, iV x0.At, iV x0.Total, p0_0, iV x0.Hop, iV x0.Seq, p0_1, p0_2, iV x0.Index, iV x0.Entry.Sess, iV x0.Entry.Seq, iV x0.Entry.Cmd.Kind, iV x0.Entry.Cmd.Who, p0_3, p0_4, p0_5] : List Value).toArray 29 (0, 0)), Mem.one g_4 (.cells ([iV x1.Kind, iV x1.From, iV x1.To, iV x1.View, iV x1.Inst, iV x1.Len, .bool x1.Has, iV x1.Members, iV x1.Source, iV x1.At, iV x1.Total, p1_6, iV x1.Hop, iV x1.Seq, p1_7, p1_8, iV x1.Index, iV x1.Entry.Sess, iV x1.Entry.Seq, iV x1.Entry.Cmd.Kind, iV x1.Entry.Cmd.Who, p1_9, p1_10, p1_11] : List Value).toArray 29 (0, 0))] Z ∧ Mem.no.le N_9) K ⟨1, Mem.no, H, h, (Sep.sel hS [0, 1, 2] (by decide)), (Mem.le.refl _)⟩ (fun a w h => by obtain ⟨_, _, H, _⟩ := h; cases (show (none : Option (Bool)) = some r from H)) ?_
 clear h hS a H
 rintro k_11 a w_11 KL_11 hKL_11 ⟨x_10, N_9, H, h, hS, le_9⟩
 replace H : mesg_Same.B1 K x0 x1 (fun v => mesg_Same.J1 K x0 x1) (mesg_Same.L1 K x0 x1 (fun v => mesg_Same.J1 K x0 x1) k_11) x_10 = some r := H
 unfold mesg_Same.B1 at H
 refine c_seq fun KJ_13 hKJ_13 => wp_seq <| wp_region_lit <| s_move h rfl rfl fun a h=>s_cmp (b := decide (x_10 ≤ 8)) h rfl rfl rfl (.inr (.inr (.inr (.inl ⟨rfl, rfl⟩)))) fun a h=>wpList_nil <| x_then_n ?_
 by_cases hc_14 : x_10 ≤ 8
 ·rw [if_pos hc_14] at H
  refine c_cond_t h rfl (decide_eq_true hc_14) <| wp_skip <| x_then_n (hKJ_13 _ _ ?_)
  refine c_seq fun KJ_15 hKJ_15 => c_block <| c_seq fun KJ_16 hKJ_16 => ?_
  have hJ_j_21 : mesg_Same.J2 K x_10 x0 x1 (mesg_Same.L1 K x0 x1 (fun v => mesg_Same.J1 K x0 x1) k_11) = some r → ∀ (a : Act) (w_20 : World), (∃ (g_18 : Nat) (g_19 : Nat) (N_17 : Mem), Fr 27 a [(2, .pointer (some ⟨g_2, 0, none⟩)), (3, .pointer (some ⟨g_4, 0, none⟩)), (4, .bool false), (5, iV x_10), (6, .pointer (some ⟨g_18, 0, none⟩)), (7, .pointer (some ⟨g_19, 0, none⟩))] ∧ Sep w0 w_20 [N_17, Mem.one g_2 (.cells ([iV x0.Kind, iV x0.From, iV x0.To, iV x0.View, iV x0.Inst, iV x0.Len, .bool x0.Has, iV x0.Members, iV x0.Source, iV x0.At, iV x0.Total, p0_0, iV x0.Hop, iV x0.Seq, p0_1, p0_2, iV x0.Index, iV x0.Entry.Sess, iV x0.Entry.Seq, iV x0.Entry.Cmd.Kind, iV x0.Entry.Cmd.Who, p0_3, p0_4, p0_5] : List Value).toArray 29 (0, 0)), Mem.one g_4 (.cells ([iV x1.Kind, iV x1.From, iV x1.To, iV x1.View, iV x1.Inst, iV x1.Len, .bool x1.Has, iV x1.Members, iV x1.Source, iV x1.At, iV x1.Total, p1_6, iV x1.Hop, iV x1.Seq, p1_7, p1_8, iV x1.Index, iV x1.Entry.Sess, iV x1.Entry.Seq, iV x1.Entry.Cmd.Kind, iV x1.Entry.Cmd.Who, p1_9, p1_10, p1_11] : List Value).toArray 29 (0, 0)), Mem.one g_18 (.cells ([iV x0.Kind, iV x0.From, iV x0.To, iV x0.View, iV x0.Inst, iV x0.Len, .bool x0.Has, iV x0.Members, iV x0.Source, iV x0.At, iV x0.Total, p0_0, iV x0.Hop, iV x0.Seq, p0_1, p0_2, iV x0.Index, iV x0.Entry.Sess, iV x0.Entry.Seq, iV x0.Entry.Cmd.Kind, iV x0.Entry.Cmd.Who, p0_3, p0_4, p0_5] : List Value).toArray 29 (0, 0)), Mem.one g_19 (.cells ([iV x1.Kind, iV x1.From, iV x1.To, iV x1.View, iV x1.Inst, iV x1.Len, .bool x1.Has, iV x1.Members, iV x1.Source, iV x1.At, iV x1.Total, p1_6, iV x1.Hop, iV x1.Seq, p1_7, p1_8, iV x1.Index, iV x1.Entry.Sess, iV x1.Entry.Seq, iV x1.Entry.Cmd.Kind, iV x1.Entry.Cmd.Who, p1_9, p1_10, p1_11] : List Value).toArray 29 (0, 0))] Z ∧ N_9.le N_17) → KJ_16 a w_20 := by
   clear H h hS a
   rintro H a w_20 ⟨g_18, g_19, N_17, h, hS, le_17⟩
   unfold mesg_Same.J2 at H
   refine hKJ_16 _ _ <| wp_seq <| wp_region_lit <| s_move h rfl rfl fun a h=>s_move h rfl rfl fun a h=>s_fieldAddr h rfl U29 rfl ti3 rfl rfl fun a h=>?_
   obtain ⟨w_22, hs', hS'⟩ := hS.store (P := Try.prog) (p := 3) (o := 0) (t := 3) (v := iV x_10) (vs := [iV x_10]) rfl ti3 rfl rfl rfl (by intro u hu; simp only [List.mem_cons, List.not_mem_nil, or_false] at hu; rcases hu with rfl <;> rfl)
   refine s_store h rfl rfl hs' ?_
   replace hS : Sep w0 w_22 [_, _, _, Mem.one g_18 (.cells ([iV x_10, _, _, _, _, _, _, _, _, _, _, _, _, _, _, _, _, _, _, _, _, _, _, _] : List Value).toArray 29 (0, 0)), _] Z := hS'
   clear hs' hS'
   refine s_fieldAddr h rfl U29 rfl ti3 rfl rfl fun a h=>?_
   obtain ⟨w_23, hs', hS'⟩ := hS.store (P := Try.prog) (p := 4) (o := 0) (t := 3) (v := iV x_10) (vs := [iV x_10]) rfl ti3 rfl rfl rfl (by intro u hu; simp only [List.mem_cons, List.not_mem_nil, or_false] at hu; rcases hu with rfl <;> rfl)
   refine s_store h rfl rfl hs' ?_
   replace hS : Sep w0 w_23 [_, _, _, _, Mem.one g_19 (.cells ([iV x_10, _, _, _, _, _, _, _, _, _, _, _, _, _, _, _, _, _, _, _, _, _, _, _] : List Value).toArray 29 (0, 0))] Z := hS'
   clear hs' hS'
   refine wpList_nil ?_
   replace h : Fr 27 a [(2, _), (3, _), (4, _), (5, _), (6, _), (7, _)] := h.keep [2, 3, 4, 5, 6, 7]
   refine x_then_n <| wp_seq <| wp_region_lit <| s_load h rfl rfl (hS.load_agg (p := 3) (us := [iV x_10, iV x0.From, iV x0.To, iV x0.View, iV x0.Inst, iV x0.Len, .bool x0.Has, iV x0.Members, iV x0.Source, iV x0.At, iV x0.Total, p0_0, iV x0.Hop, iV x0.Seq, p0_1, p0_2, iV x0.Index, iV x0.Entry.Sess, iV x0.Entry.Seq, iV x0.Entry.Cmd.Kind, iV x0.Entry.Cmd.Who, p0_3, p0_4, p0_5]) rfl U29 rfl ti29 rfl rfl) fun a h=>s_load h rfl rfl (hS.load_agg (p := 4) (us := [iV x_10, iV x1.From, iV x1.To, iV x1.View, iV x1.Inst, iV x1.Len, .bool x1.Has, iV x1.Members, iV x1.Source, iV x1.At, iV x1.Total, p1_6, iV x1.Hop, iV x1.Seq, p1_7, p1_8, iV x1.Index, iV x1.Entry.Sess, iV x1.Entry.Seq, iV x1.Entry.Cmd.Kind, iV x1.Entry.Cmd.Who, p1_9, p1_10, p1_11]) rfl U29 rfl ti29 rfl rfl) fun a h=>?_
   obtain ⟨t_24, et_24, H⟩ := Option.bind_eq_some_iff.1 H
   refine s_call h rfl Try.call27 rfl (mesg_alike.calls K (⟨x_10, x0.From, x0.To, x0.View, x0.Inst, x0.Len, x0.Has, x0.Members, x0.Source, x0.At, x0.Total, x0.Data, x0.Hop, x0.Seq, x0.Have, x0.Need, x0.Index, x0.Entry⟩ : api_Msg) _ _ _ _ _ _ (⟨x_10, x1.From, x1.To, x1.View, x1.Inst, x1.Len, x1.Has, x1.Members, x1.Source, x1.At, x1.Total, x1.Data, x1.Hop, x1.Seq, x1.Have, x1.Need, x1.Index, x1.Entry⟩ : api_Msg) _ _ _ _ _ _ t_24 w0 _ _ _ (Mem.le.refl _) (hS.enter [] (by decide)) (hp0_0.mono (hA.trans (hS.le_zed []))) (hp0_1.mono (hA.trans (hS.le_zed []))) (hp0_2.mono (hA.trans (hS.le_zed []))) (hp0_3.mono (hA.trans (hS.le_zed []))) (hp0_4.mono (hA.trans (hS.le_zed []))) (hp0_5.mono (hA.trans (hS.le_zed []))) (hp1_6.mono (hA.trans (hS.le_zed []))) (hp1_7.mono (hA.trans (hS.le_zed []))) (hp1_8.mono (hA.trans (hS.le_zed []))) (hp1_9.mono (hA.trans (hS.le_zed []))) (hp1_10.mono (hA.trans (hS.le_zed []))) (hp1_11.mono (hA.trans (hS.le_zed []))) et_24) ?_
   rintro _ w_25 ⟨N_26, rfl, hS'⟩
   intro a h
   obtain ⟨N_27, hS'', le_27, ln_27⟩ := hS.call [] (by decide) rfl (l' := []) (ow := []) rfl hS'
   replace hS : Sep w0 w_25 [N_27, _, _, _, _] Z := hS''
   clear hS' hS''
   refine s_not h rfl rfl fun a h=>wpList_nil <| x_then_n ?_
   by_cases hc_28 : t_24 = true
   ·rw [if_pos hc_28] at H
    refine c_cond_f h rfl (nf hc_28) <| wp_skip <| x_block_n <| x_then_n (hKJ_15 _ _ ?_)
    refine wp_region_lit <| s_move h rfl rfl fun a h=>s_arith (r := w64 (x_10 + 1)) h rfl rfl rfl (.inl ⟨rfl, rfl⟩) fun a h=>s_assign h rfl rfl fun a h=>wpList_nil <| x_then_n (hKL_11 _ _ ?_)
    replace hS : Sep w0 w_25 [_, _, _, _, _] Z := hS
    replace h : Fr 27 a [(2, _), (3, _), (4, _), (5, iV (w64 (x_10 + 1)))] := h.keep [2, 3, 4, 5]
    exact ⟨w64 (x_10 + 1), N_27, H, h, (Sep.sel hS [0, 1, 2] (by decide)), (le_9.trans (le_17.trans le_27))⟩
   ·rw [if_neg hc_28] at H
    refine c_cond_t h rfl (nt (Bool.eq_false_iff.2 hc_28)) <| wp_seq <| wp_region_lit <| s_assign h rfl rfl fun a h=>wpList_nil <| x_then_n <| wp_ret (x_block_r (x_then_r (x_then_r (x_block_r (x_then_r ?_)))))
    obtain rfl := Option.some.inj H
    exact f_ret h (rs := [.tmp 4]) rfl (.tmp rfl .nil) ⟨_, rfl, N_27, rfl, (Sep.sel hS [0] (by decide))⟩
  clear hKJ_16
  refine h_begin (S := fun w => Sep w0 w [N_9, Mem.one g_2 (.cells ([iV x0.Kind, iV x0.From, iV x0.To, iV x0.View, iV x0.Inst, iV x0.Len, .bool x0.Has, iV x0.Members, iV x0.Source, iV x0.At, iV x0.Total, p0_0, iV x0.Hop, iV x0.Seq, p0_1, p0_2, iV x0.Index, iV x0.Entry.Sess, iV x0.Entry.Seq, iV x0.Entry.Cmd.Kind, iV x0.Entry.Cmd.Who, p0_3, p0_4, p0_5] : List Value).toArray 29 (0, 0)), Mem.one g_4 (.cells ([iV x1.Kind, iV x1.From, iV x1.To, iV x1.View, iV x1.Inst, iV x1.Len, .bool x1.Has, iV x1.Members, iV x1.Source, iV x1.At, iV x1.Total, p1_6, iV x1.Hop, iV x1.Seq, p1_7, p1_8, iV x1.Index, iV x1.Entry.Sess, iV x1.Entry.Seq, iV x1.Entry.Cmd.Kind, iV x1.Entry.Cmd.Who, p1_9, p1_10, p1_11] : List Value).toArray 29 (0, 0))] Z) 6 (by kernel_rfl) rfl (bA 6 0) (by kernel_rfl) hS fun w_29 hS => ?_
  replace hS : Sep w0 w_29 [_, _, _] Z := hS
  refine t_take 0 (bA 6 1) rfl rfl rfl rfl h (hS.sub .ii) (v := .agg ([iV x0.Kind, iV x0.From, iV x0.To, iV x0.View, iV x0.Inst, iV x0.Len, .bool x0.Has, iV x0.Members, iV x0.Source, iV x0.At, iV x0.Total, p0_0, iV x0.Hop, iV x0.Seq, p0_1, p0_2, iV x0.Index, iV x0.Entry.Sess, iV x0.Entry.Seq, iV x0.Entry.Cmd.Kind, iV x0.Entry.Cmd.Who, p0_3, p0_4, p0_5] : List Value).toArray) (fun w hS => r_load h rfl (hS.load_agg (p := 1) (us := [iV x0.Kind, iV x0.From, iV x0.To, iV x0.View, iV x0.Inst, iV x0.Len, .bool x0.Has, iV x0.Members, iV x0.Source, iV x0.At, iV x0.Total, p0_0, iV x0.Hop, iV x0.Seq, p0_1, p0_2, iV x0.Index, iV x0.Entry.Sess, iV x0.Entry.Seq, iV x0.Entry.Cmd.Kind, iV x0.Entry.Cmd.Who, p0_3, p0_4, p0_5]) rfl U29 rfl ti29 rfl rfl)) fun a h=>t_take 1 (bA 6 3) rfl rfl rfl rfl h (hS.sub .ii) (v := .agg ([iV x1.Kind, iV x1.From, iV x1.To, iV x1.View, iV x1.Inst, iV x1.Len, .bool x1.Has, iV x1.Members, iV x1.Source, iV x1.At, iV x1.Total, p1_6, iV x1.Hop, iV x1.Seq, p1_7, p1_8, iV x1.Index, iV x1.Entry.Sess, iV x1.Entry.Seq, iV x1.Entry.Cmd.Kind, iV x1.Entry.Cmd.Who, p1_9, p1_10, p1_11] : List Value).toArray) (fun w hS => r_load h rfl (hS.load_agg (p := 2) (us := [iV x1.Kind, iV x1.From, iV x1.To, iV x1.View, iV x1.Inst, iV x1.Len, .bool x1.Has, iV x1.Members, iV x1.Source, iV x1.At, iV x1.Total, p1_6, iV x1.Hop, iV x1.Seq, p1_7, p1_8, iV x1.Index, iV x1.Entry.Sess, iV x1.Entry.Seq, iV x1.Entry.Cmd.Kind, iV x1.Entry.Cmd.Who, p1_9, p1_10, p1_11]) rfl U29 rfl ti29 rfl rfl)) fun a h=>?_
  refine h_events [2, 3] (by kernel_rfl) (by simp) ?_
  intro i hi; simp only [List.mem_cons, List.not_mem_nil, or_false] at hi; rcases hi with rfl | rfl
  ·refine ⟨_, (bA 6 7), rfl, by kernel_rfl, ?_⟩
   refine v_alloc h rfl ti29 hS fun w_30 g_31 hS' a h => ?_
   replace hS : Sep w0 w_30 [_, _, _, Mem.one g_31 (.cells ([iV 0, iV 0, iV 0, iV 0, iV 0, iV 0, .bool false, iV 0, iV 0, iV 0, iV 0, nS, iV 0, iV 0, nS, nS, iV 0, iV 0, iV 0, iV 0, iV 0, nS, nS, nS] : List Value).toArray 29 (0, 0))] Z := hS'
   clear hS'
   refine wpList_nil <| x_then_n ⟨(hS.sub (.cons (Mem.le.refl _) (.rr (.rr .nn)))), ?_⟩
   refine h_event 3 (bA 6 15) rfl (by kernel_rfl) (by kernel_rfl) <| v_alloc h rfl ti29 hS fun w_32 g_33 hS' a h => ?_
   replace hS : Sep w0 w_32 [_, _, _, _, Mem.one g_33 (.cells ([iV 0, iV 0, iV 0, iV 0, iV 0, iV 0, .bool false, iV 0, iV 0, iV 0, iV 0, nS, iV 0, iV 0, nS, nS, iV 0, iV 0, iV 0, iV 0, iV 0, nS, nS, nS] : List Value).toArray 29 (0, 0))] Z := hS'
   clear hS'
   refine wpList_nil <| x_then_n ⟨(hS.sub (.cons (Mem.le.refl _) (.rr (.rr .nn)))), ?_⟩
   refine h_event 4 (bA 6 31) rfl (by kernel_rfl) (by kernel_rfl) ?_
   obtain ⟨w_34, hs', hS'⟩ := hS.store (P := Try.prog) (p := 3) (o := 0) (t := 29) (v := .agg ([iV x0.Kind, iV x0.From, iV x0.To, iV x0.View, iV x0.Inst, iV x0.Len, .bool x0.Has, iV x0.Members, iV x0.Source, iV x0.At, iV x0.Total, p0_0, iV x0.Hop, iV x0.Seq, p0_1, p0_2, iV x0.Index, iV x0.Entry.Sess, iV x0.Entry.Seq, iV x0.Entry.Cmd.Kind, iV x0.Entry.Cmd.Who, p0_3, p0_4, p0_5] : List Value).toArray) (vs := [iV x0.Kind, iV x0.From, iV x0.To, iV x0.View, iV x0.Inst, iV x0.Len, .bool x0.Has, iV x0.Members, iV x0.Source, iV x0.At, iV x0.Total, p0_0, iV x0.Hop, iV x0.Seq, p0_1, p0_2, iV x0.Index, iV x0.Entry.Sess, iV x0.Entry.Seq, iV x0.Entry.Cmd.Kind, iV x0.Entry.Cmd.Who, p0_3, p0_4, p0_5]) rfl ti29 rfl rfl rfl (by intro u hu; simp only [List.mem_cons, List.not_mem_nil, or_false] at hu; rcases hu with rfl | rfl | rfl | rfl | rfl | rfl | rfl | rfl | rfl | rfl | rfl | rfl | rfl | rfl | rfl | rfl | rfl | rfl | rfl | rfl | rfl | rfl | rfl | rfl <;> first | rfl | exact hp0_0.one | exact hp0_1.one | exact hp0_2.one | exact hp0_3.one | exact hp0_4.one | exact hp0_5.one)
   refine s_store h rfl rfl hs' ?_
   replace hS : Sep w0 w_34 [_, _, _, Mem.one g_31 (.cells ([iV x0.Kind, iV x0.From, iV x0.To, iV x0.View, iV x0.Inst, iV x0.Len, .bool x0.Has, iV x0.Members, iV x0.Source, iV x0.At, iV x0.Total, p0_0, iV x0.Hop, iV x0.Seq, p0_1, p0_2, iV x0.Index, iV x0.Entry.Sess, iV x0.Entry.Seq, iV x0.Entry.Cmd.Kind, iV x0.Entry.Cmd.Who, p0_3, p0_4, p0_5] : List Value).toArray 29 (0, 0)), _] Z := hS'
   clear hs' hS'
   refine wpList_nil <| x_then_n ⟨(hS.sub (.cons (Mem.le.refl _) (.rr (.rr .nn)))), ?_⟩
   refine h_event 5 (bA 6 63) rfl (by kernel_rfl) (by kernel_rfl) ?_
   obtain ⟨w_35, hs', hS'⟩ := hS.store (P := Try.prog) (p := 4) (o := 0) (t := 29) (v := .agg ([iV x1.Kind, iV x1.From, iV x1.To, iV x1.View, iV x1.Inst, iV x1.Len, .bool x1.Has, iV x1.Members, iV x1.Source, iV x1.At, iV x1.Total, p1_6, iV x1.Hop, iV x1.Seq, p1_7, p1_8, iV x1.Index, iV x1.Entry.Sess, iV x1.Entry.Seq, iV x1.Entry.Cmd.Kind, iV x1.Entry.Cmd.Who, p1_9, p1_10, p1_11] : List Value).toArray) (vs := [iV x1.Kind, iV x1.From, iV x1.To, iV x1.View, iV x1.Inst, iV x1.Len, .bool x1.Has, iV x1.Members, iV x1.Source, iV x1.At, iV x1.Total, p1_6, iV x1.Hop, iV x1.Seq, p1_7, p1_8, iV x1.Index, iV x1.Entry.Sess, iV x1.Entry.Seq, iV x1.Entry.Cmd.Kind, iV x1.Entry.Cmd.Who, p1_9, p1_10, p1_11]) rfl ti29 rfl rfl rfl (by intro u hu; simp only [List.mem_cons, List.not_mem_nil, or_false] at hu; rcases hu with rfl | rfl | rfl | rfl | rfl | rfl | rfl | rfl | rfl | rfl | rfl | rfl | rfl | rfl | rfl | rfl | rfl | rfl | rfl | rfl | rfl | rfl | rfl | rfl <;> first | rfl | exact hp1_6.one | exact hp1_7.one | exact hp1_8.one | exact hp1_9.one | exact hp1_10.one | exact hp1_11.one)
   refine s_store h rfl rfl hs' ?_
   replace hS : Sep w0 w_35 [_, _, _, _, Mem.one g_33 (.cells ([iV x1.Kind, iV x1.From, iV x1.To, iV x1.View, iV x1.Inst, iV x1.Len, .bool x1.Has, iV x1.Members, iV x1.Source, iV x1.At, iV x1.Total, p1_6, iV x1.Hop, iV x1.Seq, p1_7, p1_8, iV x1.Index, iV x1.Entry.Sess, iV x1.Entry.Seq, iV x1.Entry.Cmd.Kind, iV x1.Entry.Cmd.Who, p1_9, p1_10, p1_11] : List Value).toArray 29 (0, 0))] Z := hS'
   clear hs' hS'
   refine wpList_nil <| x_then_n ⟨(hS.sub (.cons (Mem.le.refl _) (.rr (.rr .nn)))), ?_⟩
   refine h_done (by kernel_rfl) ?_
   replace h : Fr 27 a [(2, _), (3, _), (4, _), (5, _), (6, .pointer (some ⟨g_31, 0, none⟩)), (7, .pointer (some ⟨g_33, 0, none⟩))] := h.keep [2, 3, 4, 5, 6, 7]
   replace hS : Sep w0 w_35 [_, _, _, _, _] Z := hS
   replace h : Fr 27 a [(2, _), (3, _), (4, _), (5, _), (6, _), (7, _)] := h.keep [2, 3, 4, 5, 6, 7]
   exact x_then_n (hJ_j_21  H _ _ ⟨g_31, g_33, N_9, h, (Sep.sel hS [0, 1, 2, 3, 4] (by decide)), (Mem.le.refl _)⟩)
  ·refine ⟨_, (bA 6 11), rfl, by kernel_rfl, ?_⟩
   refine v_alloc h rfl ti29 hS fun w_36 g_37 hS' a h => ?_
   replace hS : Sep w0 w_36 [_, _, _, Mem.one g_37 (.cells ([iV 0, iV 0, iV 0, iV 0, iV 0, iV 0, .bool false, iV 0, iV 0, iV 0, iV 0, nS, iV 0, iV 0, nS, nS, iV 0, iV 0, iV 0, iV 0, iV 0, nS, nS, nS] : List Value).toArray 29 (0, 0))] Z := hS'
   clear hS'
   refine wpList_nil <| x_then_n ⟨(hS.sub (.cons (Mem.le.refl _) (.rr (.rr .nn)))), ?_⟩
   refine h_event 2 (bA 6 15) rfl (by kernel_rfl) (by kernel_rfl) <| v_alloc h rfl ti29 hS fun w_38 g_39 hS' a h => ?_
   replace hS : Sep w0 w_38 [_, _, _, _, Mem.one g_39 (.cells ([iV 0, iV 0, iV 0, iV 0, iV 0, iV 0, .bool false, iV 0, iV 0, iV 0, iV 0, nS, iV 0, iV 0, nS, nS, iV 0, iV 0, iV 0, iV 0, iV 0, nS, nS, nS] : List Value).toArray 29 (0, 0))] Z := hS'
   clear hS'
   refine wpList_nil <| x_then_n ⟨(hS.sub (.cons (Mem.le.refl _) (.rr (.rr .nn)))), ?_⟩
   refine h_event 4 (bA 6 31) rfl (by kernel_rfl) (by kernel_rfl) ?_
   obtain ⟨w_40, hs', hS'⟩ := hS.store (P := Try.prog) (p := 4) (o := 0) (t := 29) (v := .agg ([iV x0.Kind, iV x0.From, iV x0.To, iV x0.View, iV x0.Inst, iV x0.Len, .bool x0.Has, iV x0.Members, iV x0.Source, iV x0.At, iV x0.Total, p0_0, iV x0.Hop, iV x0.Seq, p0_1, p0_2, iV x0.Index, iV x0.Entry.Sess, iV x0.Entry.Seq, iV x0.Entry.Cmd.Kind, iV x0.Entry.Cmd.Who, p0_3, p0_4, p0_5] : List Value).toArray) (vs := [iV x0.Kind, iV x0.From, iV x0.To, iV x0.View, iV x0.Inst, iV x0.Len, .bool x0.Has, iV x0.Members, iV x0.Source, iV x0.At, iV x0.Total, p0_0, iV x0.Hop, iV x0.Seq, p0_1, p0_2, iV x0.Index, iV x0.Entry.Sess, iV x0.Entry.Seq, iV x0.Entry.Cmd.Kind, iV x0.Entry.Cmd.Who, p0_3, p0_4, p0_5]) rfl ti29 rfl rfl rfl (by intro u hu; simp only [List.mem_cons, List.not_mem_nil, or_false] at hu; rcases hu with rfl | rfl | rfl | rfl | rfl | rfl | rfl | rfl | rfl | rfl | rfl | rfl | rfl | rfl | rfl | rfl | rfl | rfl | rfl | rfl | rfl | rfl | rfl | rfl <;> first | rfl | exact hp0_0.one | exact hp0_1.one | exact hp0_2.one | exact hp0_3.one | exact hp0_4.one | exact hp0_5.one)
   refine s_store h rfl rfl hs' ?_
   replace hS : Sep w0 w_40 [_, _, _, _, Mem.one g_39 (.cells ([iV x0.Kind, iV x0.From, iV x0.To, iV x0.View, iV x0.Inst, iV x0.Len, .bool x0.Has, iV x0.Members, iV x0.Source, iV x0.At, iV x0.Total, p0_0, iV x0.Hop, iV x0.Seq, p0_1, p0_2, iV x0.Index, iV x0.Entry.Sess, iV x0.Entry.Seq, iV x0.Entry.Cmd.Kind, iV x0.Entry.Cmd.Who, p0_3, p0_4, p0_5] : List Value).toArray 29 (0, 0))] Z := hS'
   clear hs' hS'
   refine wpList_nil <| x_then_n ⟨(hS.sub (.cons (Mem.le.refl _) (.rr (.rr .nn)))), ?_⟩
   refine h_event 5 (bA 6 63) rfl (by kernel_rfl) (by kernel_rfl) ?_
   obtain ⟨w_41, hs', hS'⟩ := hS.store (P := Try.prog) (p := 3) (o := 0) (t := 29) (v := .agg ([iV x1.Kind, iV x1.From, iV x1.To, iV x1.View, iV x1.Inst, iV x1.Len, .bool x1.Has, iV x1.Members, iV x1.Source, iV x1.At, iV x1.Total, p1_6, iV x1.Hop, iV x1.Seq, p1_7, p1_8, iV x1.Index, iV x1.Entry.Sess, iV x1.Entry.Seq, iV x1.Entry.Cmd.Kind, iV x1.Entry.Cmd.Who, p1_9, p1_10, p1_11] : List Value).toArray) (vs := [iV x1.Kind, iV x1.From, iV x1.To, iV x1.View, iV x1.Inst, iV x1.Len, .bool x1.Has, iV x1.Members, iV x1.Source, iV x1.At, iV x1.Total, p1_6, iV x1.Hop, iV x1.Seq, p1_7, p1_8, iV x1.Index, iV x1.Entry.Sess, iV x1.Entry.Seq, iV x1.Entry.Cmd.Kind, iV x1.Entry.Cmd.Who, p1_9, p1_10, p1_11]) rfl ti29 rfl rfl rfl (by intro u hu; simp only [List.mem_cons, List.not_mem_nil, or_false] at hu; rcases hu with rfl | rfl | rfl | rfl | rfl | rfl | rfl | rfl | rfl | rfl | rfl | rfl | rfl | rfl | rfl | rfl | rfl | rfl | rfl | rfl | rfl | rfl | rfl | rfl <;> first | rfl | exact hp1_6.one | exact hp1_7.one | exact hp1_8.one | exact hp1_9.one | exact hp1_10.one | exact hp1_11.one)
   refine s_store h rfl rfl hs' ?_
   replace hS : Sep w0 w_41 [_, _, _, Mem.one g_37 (.cells ([iV x1.Kind, iV x1.From, iV x1.To, iV x1.View, iV x1.Inst, iV x1.Len, .bool x1.Has, iV x1.Members, iV x1.Source, iV x1.At, iV x1.Total, p1_6, iV x1.Hop, iV x1.Seq, p1_7, p1_8, iV x1.Index, iV x1.Entry.Sess, iV x1.Entry.Seq, iV x1.Entry.Cmd.Kind, iV x1.Entry.Cmd.Who, p1_9, p1_10, p1_11] : List Value).toArray 29 (0, 0)), _] Z := hS'
   clear hs' hS'
   refine wpList_nil <| x_then_n ⟨(hS.sub (.cons (Mem.le.refl _) (.rr (.rr .nn)))), ?_⟩
   refine h_done (by kernel_rfl) ?_
   replace h : Fr 27 a [(2, _), (3, _), (4, _), (5, _), (6, .pointer (some ⟨g_39, 0, none⟩)), (7, .pointer (some ⟨g_37, 0, none⟩))] := h.keep [2, 3, 4, 5, 6, 7]
   replace hS : Sep w0 w_41 [_, _, _, _, _] Z := hS
   replace h : Fr 27 a [(2, _), (3, _), (4, _), (5, _), (6, _), (7, _)] := h.keep [2, 3, 4, 5, 6, 7]
   exact x_then_n (hJ_j_21  H _ _ ⟨g_39, g_37, N_9, h, (Sep.sel hS [0, 1, 2, 4, 3] (by decide)), (Mem.le.refl _)⟩)
 ·rw [if_neg hc_14] at H
  refine c_cond_f h rfl (decide_eq_false hc_14) <| wp_exit (x_then_x (x_then_x (x_block_t ?_)))
  replace hS : Sep w0 w_11 [_, _, _] Z := hS
  replace h : Fr 27 a [(2, _), (3, _), (4, _)] := h.keep [2, 3, 4]
  exact x_then_n (hJ_j_8  H _ _ ⟨N_9, h, (Sep.sel hS [0, 1, 2] (by decide)), le_9⟩)

set_option maxHeartbeats 4000000 in
set_option maxRecDepth 20000 in
theorem hocketlaw7_Keys.calls (x0 : Int) (r : (List UInt8)) (w0 w : World) (Z A : Mem) (hA : A.le Z) (hS : Sep w0 w [] Z)
    (H : hocketlaw7_Keys.f x0 = some r) :
    Calls Try.prog 71 [iV x0].toArray w (Ret fun v w' => ∃ (u0 : Value) (N : Mem), v = u0 ∧ Sep w0 w' [N] Z ∧ Rd Kd.u8 N u0 r) := by
 unfold hocketlaw7_Keys.f at H
 refine f_enter _ Try.func71 rfl Try.ntmps71 rfl fun a h=>?_
 replace h : Fr 9 a [(0, iV x0)] := h
 replace hS := hS.start
 replace hS : Sep w0 w [_] Z := hS
 refine wp_seq <| wp_region_lit <| s_assign h rfl rfl fun a h=>wpList_nil <| x_then_n <| wp_seq <| wp_region_lit ?_
 have hq_5 : Reps Kd.str Mem.no ([([] : List UInt8), ([97] : List UInt8), ([98] : List UInt8), ([99] : List UInt8), ([97, 98] : List UInt8), ([97, 98, 99] : List UInt8), ([122] : List UInt8), ([0] : List UInt8), ([255] : List UInt8), ([97, 98, 99, 100, 101, 102, 103, 104] : List UInt8), ([97, 98, 99, 100, 101, 102, 103, 104, 105] : List UInt8), ([107, 49] : List UInt8), ([107, 50] : List UInt8), ([107, 51] : List UInt8), ([107, 52] : List UInt8), ([107, 53] : List UInt8)] : List (List UInt8)) _ := ((Reps.one (d := Kd.str) (x := ([] : List UInt8)) (show Kd.str.K _ _ [.string ⟨([] : List UInt8).toArray⟩] from rfl)).append ((Reps.one (d := Kd.str) (x := ([97] : List UInt8)) (show Kd.str.K _ _ [.string ⟨([97] : List UInt8).toArray⟩] from rfl)).append ((Reps.one (d := Kd.str) (x := ([98] : List UInt8)) (show Kd.str.K _ _ [.string ⟨([98] : List UInt8).toArray⟩] from rfl)).append ((Reps.one (d := Kd.str) (x := ([99] : List UInt8)) (show Kd.str.K _ _ [.string ⟨([99] : List UInt8).toArray⟩] from rfl)).append ((Reps.one (d := Kd.str) (x := ([97, 98] : List UInt8)) (show Kd.str.K _ _ [.string ⟨([97, 98] : List UInt8).toArray⟩] from rfl)).append ((Reps.one (d := Kd.str) (x := ([97, 98, 99] : List UInt8)) (show Kd.str.K _ _ [.string ⟨([97, 98, 99] : List UInt8).toArray⟩] from rfl)).append ((Reps.one (d := Kd.str) (x := ([122] : List UInt8)) (show Kd.str.K _ _ [.string ⟨([122] : List UInt8).toArray⟩] from rfl)).append ((Reps.one (d := Kd.str) (x := ([0] : List UInt8)) (show Kd.str.K _ _ [.string ⟨([0] : List UInt8).toArray⟩] from rfl)).append ((Reps.one (d := Kd.str) (x := ([255] : List UInt8)) (show Kd.str.K _ _ [.string ⟨([255] : List UInt8).toArray⟩] from rfl)).append ((Reps.one (d := Kd.str) (x := ([97, 98, 99, 100, 101, 102, 103, 104] : List UInt8)) (show Kd.str.K _ _ [.string ⟨([97, 98, 99, 100, 101, 102, 103, 104] : List UInt8).toArray⟩] from rfl)).append ((Reps.one (d := Kd.str) (x := ([97, 98, 99, 100, 101, 102, 103, 104, 105] : List UInt8)) (show Kd.str.K _ _ [.string ⟨([97, 98, 99, 100, 101, 102, 103, 104, 105] : List UInt8).toArray⟩] from rfl)).append ((Reps.one (d := Kd.str) (x := ([107, 49] : List UInt8)) (show Kd.str.K _ _ [.string ⟨([107, 49] : List UInt8).toArray⟩] from rfl)).append ((Reps.one (d := Kd.str) (x := ([107, 50] : List UInt8)) (show Kd.str.K _ _ [.string ⟨([107, 50] : List UInt8).toArray⟩] from rfl)).append ((Reps.one (d := Kd.str) (x := ([107, 51] : List UInt8)) (show Kd.str.K _ _ [.string ⟨([107, 51] : List UInt8).toArray⟩] from rfl)).append ((Reps.one (d := Kd.str) (x := ([107, 52] : List UInt8)) (show Kd.str.K _ _ [.string ⟨([107, 52] : List UInt8).toArray⟩] from rfl)).append ((Reps.one (d := Kd.str) (x := ([107, 53] : List UInt8)) (show Kd.str.K _ _ [.string ⟨([107, 53] : List UInt8).toArray⟩] from rfl)).append (Reps.nil Kd.str _)))))))))))))))))
 refine s_buildSlice h rfl U81 ti9 rfl rfl rfl (.cons rfl (.cons rfl (.cons rfl (.cons rfl (.cons rfl (.cons rfl (.cons rfl (.cons rfl (.cons rfl (.cons rfl (.cons rfl (.cons rfl (.cons rfl (.cons rfl (.cons rfl (.cons rfl .nil)))))))))))))))) rfl rfl rfl hS hq_5 rfl fun w_1 v_2 M_3 hS' ho_4 a h => ?_
 replace hS : Sep w0 w_1 [_, M_3] Z := hS'
 clear hS' hq_5
 refine s_move h rfl rfl fun a h=>s_bits (i := x0) (j := 15) (r := band .i64 x0 15) h rfl rfl rfl (.inl ⟨rfl, rfl⟩) fun a h=>?_
 obtain ⟨t_7, et_7, H⟩ := Option.bind_eq_some_iff.1 H
 refine v_indexO h rfl U81 ti9 rfl rfl rfl ho_4 (hS.own 1) et_7 fun ad_8 cs_9 hk_10 hc_11 => ?_
 obtain rfl := (show cs_9 = [.string ⟨t_7.toArray⟩] from hk_10)
 intro a h
 refine s_load h rfl rfl (el_one (o := 0) hc_11 U9 rfl rfl) fun a h=>?_
 obtain ⟨u_12, eu_12, H⟩ := Option.bind_eq_some_iff.1 H
 refine s_s2b h rfl U9 U23 U5 rfl (must_some eu_12) hS fun w_13 v_14 M_15 hS' hr_16 a h => ?_
 obtain ⟨N_17, hS'', le_17, lo_17⟩ := Sep.freeze (l := [M_3, M_15]) hS' 1 rfl
 replace hS : Sep w0 w_13 [N_17, _, Mem.no] Z := hS''
 clear hS' hS''
 refine s_assign h rfl rfl fun a h=>wpList_nil <| x_then_n <| wp_ret ?_
 obtain rfl := Option.some.inj H
 exact f_ret h (rs := [.tmp 2]) rfl (.tmp rfl .nil) ⟨_, rfl, v_14, N_17, rfl, (Sep.sel hS [0] (by decide)), (hr_16.mono lo_17)⟩

set_option maxHeartbeats 4000000 in
set_option maxRecDepth 20000 in
theorem hocketlaw8_Cmd.calls (x0 : Int) (r : api_Cmd) (w0 w : World) (Z A : Mem) (hA : A.le Z) (hS : Sep w0 w [] Z)
    (H : hocketlaw8_Cmd.f x0 = some r) :
    Calls Try.prog 57 [iV x0].toArray w (Ret fun v w' => ∃ (u0 : Value) (u1 : Value) (u2 : Value) (N : Mem), v = .agg [iV r.Kind, iV r.Who, u0, u1, u2].toArray ∧ Sep w0 w' [N] Z ∧ Rd Kd.u8 N u0 r.Key ∧ Rd Kd.u8 N u1 r.Val ∧ Rd Kd.u8 N u2 r.Old) := by
 unfold hocketlaw8_Cmd.f at H
 refine f_enter _ Try.func57 rfl Try.ntmps57 rfl fun a h=>?_
 replace h : Fr 60 a [(0, iV x0)] := h
 replace hS := hS.start
 replace hS : Sep w0 w [_] Z := hS
 refine wp_seq <| wp_region_lit <| v_alloc h rfl ti25 hS fun w_1 g_2 hS' a h => ?_
 replace hS : Sep w0 w_1 [_, Mem.one g_2 (.cells ([iV 0, iV 0, nS, nS, nS] : List Value).toArray 25 (0, 0))] Z := hS'
 clear hS'
 refine wpList_nil <| x_then_n <| wp_seq <| wp_region_lit ?_
 have hq_7 : Reps Kd.str Mem.no ([([] : List UInt8), ([97] : List UInt8), ([98] : List UInt8), ([97, 98] : List UInt8), ([118, 97, 108, 117, 101] : List UInt8), ([48, 49, 50, 51, 52, 53, 54, 55, 56, 57, 97, 98, 99, 100, 101, 102] : List UInt8), ([48, 49, 50, 51, 52, 53, 54, 55, 56, 57, 97, 98, 99, 100, 101, 102, 103] : List UInt8), ([0, 255] : List UInt8)] : List (List UInt8)) _ := ((Reps.one (d := Kd.str) (x := ([] : List UInt8)) (show Kd.str.K _ _ [.string ⟨([] : List UInt8).toArray⟩] from rfl)).append ((Reps.one (d := Kd.str) (x := ([97] : List UInt8)) (show Kd.str.K _ _ [.string ⟨([97] : List UInt8).toArray⟩] from rfl)).append ((Reps.one (d := Kd.str) (x := ([98] : List UInt8)) (show Kd.str.K _ _ [.string ⟨([98] : List UInt8).toArray⟩] from rfl)).append ((Reps.one (d := Kd.str) (x := ([97, 98] : List UInt8)) (show Kd.str.K _ _ [.string ⟨([97, 98] : List UInt8).toArray⟩] from rfl)).append ((Reps.one (d := Kd.str) (x := ([118, 97, 108, 117, 101] : List UInt8)) (show Kd.str.K _ _ [.string ⟨([118, 97, 108, 117, 101] : List UInt8).toArray⟩] from rfl)).append ((Reps.one (d := Kd.str) (x := ([48, 49, 50, 51, 52, 53, 54, 55, 56, 57, 97, 98, 99, 100, 101, 102] : List UInt8)) (show Kd.str.K _ _ [.string ⟨([48, 49, 50, 51, 52, 53, 54, 55, 56, 57, 97, 98, 99, 100, 101, 102] : List UInt8).toArray⟩] from rfl)).append ((Reps.one (d := Kd.str) (x := ([48, 49, 50, 51, 52, 53, 54, 55, 56, 57, 97, 98, 99, 100, 101, 102, 103] : List UInt8)) (show Kd.str.K _ _ [.string ⟨([48, 49, 50, 51, 52, 53, 54, 55, 56, 57, 97, 98, 99, 100, 101, 102, 103] : List UInt8).toArray⟩] from rfl)).append ((Reps.one (d := Kd.str) (x := ([0, 255] : List UInt8)) (show Kd.str.K _ _ [.string ⟨([0, 255] : List UInt8).toArray⟩] from rfl)).append (Reps.nil Kd.str _)))))))))
 refine s_buildSlice h rfl U81 ti9 rfl rfl rfl (.cons rfl (.cons rfl (.cons rfl (.cons rfl (.cons rfl (.cons rfl (.cons rfl (.cons rfl .nil)))))))) rfl rfl rfl hS hq_7 rfl fun w_3 v_4 M_5 hS' ho_6 a h => ?_
 replace hS : Sep w0 w_3 [_, _, M_5] Z := hS'
 clear hS' hq_7
 refine s_move h rfl rfl fun a h=>s_shift (r := shr .i64 x0 5) h rfl rfl rfl (by decide) (.inr ⟨rfl, rfl⟩) fun a h=>s_bits (i := shr .i64 x0 5) (j := 7) (r := band .i64 (shr .i64 x0 5) 7) h rfl rfl rfl (.inl ⟨rfl, rfl⟩) fun a h=>?_
 obtain ⟨t_9, et_9, H⟩ := Option.bind_eq_some_iff.1 H
 refine v_indexO h rfl U81 ti9 rfl rfl rfl ho_6 (hS.own 2) et_9 fun ad_10 cs_11 hk_12 hc_13 => ?_
 obtain rfl := (show cs_11 = [.string ⟨t_9.toArray⟩] from hk_12)
 intro a h
 refine s_load h rfl rfl (el_one (o := 0) hc_13 U9 rfl rfl) fun a h=>?_
 obtain ⟨u_14, eu_14, H⟩ := Option.bind_eq_some_iff.1 H
 refine s_s2b h rfl U9 U23 U5 rfl (must_some eu_14) hS fun w_15 v_16 M_17 hS' hr_18 a h => ?_
 obtain ⟨N_19, hS'', le_19, lo_19⟩ := Sep.freeze (l := [Mem.one g_2 (.cells ([iV 0, iV 0, nS, nS, nS] : List Value).toArray 25 (0, 0)), M_5, M_17]) hS' 2 rfl
 replace hS : Sep w0 w_15 [N_19, _, _, Mem.no] Z := hS''
 clear hS' hS''
 refine s_assign h rfl rfl fun a h=>wpList_nil <| x_then_n <| c_seq fun KJ_20 hKJ_20 => ?_
 have hJ_j_31 : ∀ (x_23 : api_Cmd), hocketlaw8_Cmd.J1 x0 x_23 = some r → ∀ (a : Act) (w_30 : World), (∃ (v_24 : Value) (v_26 : Value) (v_28 : Value) (g_22 : Nat) (N_21 : Mem), Fr 60 a [(0, iV x0), (2, .pointer (some ⟨g_2, 0, none⟩)), (4, .pointer (some ⟨g_22, 0, none⟩))] ∧ Sep w0 w_30 [N_21, Mem.one g_2 (.cells ([iV 0, iV 0, nS, nS, nS] : List Value).toArray 25 (0, 0)), Mem.no, Mem.no, Mem.one g_22 (.cells ([iV x_23.Kind, iV x_23.Who, v_24, v_26, v_28] : List Value).toArray 25 (0, 0))] Z ∧ N_19.le N_21 ∧ Rd Kd.u8 N_21 v_24 x_23.Key ∧ Rd Kd.u8 N_21 v_26 x_23.Val ∧ Rd Kd.u8 N_21 v_28 x_23.Old) → KJ_20 a w_30 := by
  clear H h hS a
  rintro x_23 H a w_30 ⟨v_24, v_26, v_28, g_22, N_21, h, hS, le_21, hr_25, hr_27, hr_29⟩
  unfold hocketlaw8_Cmd.J1 at H
  refine hKJ_20 _ _ <| c_seq fun KJ_32 hKJ_32 => c_seq fun KJ_33 hKJ_33 => ?_
  have hJ_j_37 : ∀ (x_35 : Bool), hocketlaw8_Cmd.J2 x0 x_23 x_35 = some r → ∀ (a : Act) (w_36 : World), (∃ (N_34 : Mem), Fr 60 a [(0, iV x0), (2, .pointer (some ⟨g_2, 0, none⟩)), (4, .pointer (some ⟨g_22, 0, none⟩)), (38, .bool x_35)] ∧ Sep w0 w_36 [N_34, Mem.one g_2 (.cells ([iV 0, iV 0, nS, nS, nS] : List Value).toArray 25 (0, 0)), Mem.no, Mem.no, Mem.one g_22 (.cells ([iV x_23.Kind, iV x_23.Who, v_24, v_26, v_28] : List Value).toArray 25 (0, 0))] Z ∧ N_21.le N_34) → KJ_33 a w_36 := by
   clear H h hS a
   rintro x_35 H a w_36 ⟨N_34, h, hS, le_34⟩
   unfold hocketlaw8_Cmd.J2 at H
   refine hKJ_33 _ _ ?_
   have hJ_j_41 : ∀ (x_39 : Int), hocketlaw8_Cmd.J3 x0 x_23 x_39 = some r → ∀ (a : Act) (w_40 : World), (∃ (N_38 : Mem), Fr 60 a [(0, iV x0), (2, .pointer (some ⟨g_2, 0, none⟩)), (4, .pointer (some ⟨g_22, 0, none⟩))] ∧ Sep w0 w_40 [N_38, Mem.one g_2 (.cells ([iV 0, iV 0, nS, nS, nS] : List Value).toArray 25 (0, 0)), Mem.no, Mem.no, Mem.one g_22 (.cells ([iV x_39, iV x_23.Who, v_24, v_26, v_28] : List Value).toArray 25 (0, 0))] Z ∧ N_34.le N_38) → KJ_32 a w_40 := by
    clear H h hS a
    rintro x_39 H a w_40 ⟨N_38, h, hS, le_38⟩
    unfold hocketlaw8_Cmd.J3 at H
    refine hKJ_32 _ _ <| c_seq fun KJ_42 hKJ_42 => wp_seq <| wp_region_lit <| s_move h rfl rfl fun a h=>s_shift (r := shr .i64 x0 19) h rfl rfl rfl (by decide) (.inr ⟨rfl, rfl⟩) fun a h=>s_bits (i := shr .i64 x0 19) (j := 31) (r := band .i64 (shr .i64 x0 19) 31) h rfl rfl rfl (.inl ⟨rfl, rfl⟩) fun a h=>s_cmp (b := ((band .i64 (shr .i64 x0 19) 31) == 0)) h rfl rfl rfl (.inl ⟨rfl, rfl⟩) fun a h=>wpList_nil <| x_then_n ?_
    by_cases hc_43 : (band .i64 (shr .i64 x0 19) 31) = 0
    ·rw [if_pos hc_43] at H
     refine c_cond_t h rfl (beq_iff_eq.2 hc_43) <| wp_seq <| wp_region_lit <| s_move h rfl rfl fun a h=>s_shift (r := shr .i64 x0 24) h rfl rfl rfl (by decide) (.inr ⟨rfl, rfl⟩) fun a h=>s_bits (i := shr .i64 x0 24) (j := 31) (r := band .i64 (shr .i64 x0 24) 31) h rfl rfl rfl (.inl ⟨rfl, rfl⟩) fun a h=>s_fieldAddr h rfl U25 rfl ti3 rfl rfl fun a h=>?_
     obtain ⟨w_44, hs', hS'⟩ := hS.store (P := Try.prog) (p := 4) (o := 0) (t := 3) (v := iV (band .i64 (shr .i64 x0 24) 31)) (vs := [iV (band .i64 (shr .i64 x0 24) 31)]) rfl ti3 rfl rfl rfl (by intro u hu; simp only [List.mem_cons, List.not_mem_nil, or_false] at hu; rcases hu with rfl <;> rfl)
     refine s_store h rfl rfl hs' ?_
     replace hS : Sep w0 w_44 [_, _, _, _, Mem.one g_22 (.cells ([iV (band .i64 (shr .i64 x0 24) 31), _, _, _, _] : List Value).toArray 25 (0, 0))] Z := hS'
     clear hs' hS'
     refine wpList_nil ?_
     replace h : Fr 60 a [(0, _), (2, _), (4, _)] := h.keep [0, 2, 4]
     refine x_then_n <| wp_region_lit <| s_move h rfl rfl fun a h=>s_shift (r := shr .i64 x0 17) h rfl rfl rfl (by decide) (.inr ⟨rfl, rfl⟩) fun a h=>s_bits (i := shr .i64 x0 17) (j := 2047) (r := band .i64 (shr .i64 x0 17) 2047) h rfl rfl rfl (.inl ⟨rfl, rfl⟩) fun a h=>s_arith (r := w64 ((band .i64 (shr .i64 x0 17) 2047) - 20)) h rfl rfl rfl (.inr (.inl ⟨rfl, rfl⟩)) fun a h=>s_fieldAddr h rfl U25 rfl ti3 rfl rfl fun a h=>?_
     obtain ⟨w_45, hs', hS'⟩ := hS.store (P := Try.prog) (p := 4) (o := 1) (t := 3) (v := iV (w64 ((band .i64 (shr .i64 x0 17) 2047) - 20))) (vs := [iV (w64 ((band .i64 (shr .i64 x0 17) 2047) - 20))]) rfl ti3 rfl rfl rfl (by intro u hu; simp only [List.mem_cons, List.not_mem_nil, or_false] at hu; rcases hu with rfl <;> rfl)
     refine s_store h rfl rfl hs' ?_
     replace hS : Sep w0 w_45 [_, _, _, _, Mem.one g_22 (.cells ([_, iV (w64 ((band .i64 (shr .i64 x0 17) 2047) - 20)), _, _, _] : List Value).toArray 25 (0, 0))] Z := hS'
     clear hs' hS'
     refine wpList_nil <| x_then_n (hKJ_42 _ _ ?_)
     refine wp_seq <| wp_region_lit <| s_load h rfl rfl (hS.load_agg (p := 4) (us := [iV (band .i64 (shr .i64 x0 24) 31), iV (w64 ((band .i64 (shr .i64 x0 17) 2047) - 20)), v_24, v_26, v_28]) rfl U25 rfl ti25 rfl rfl) fun a h=>?_
     obtain ⟨w_46, hs', hS'⟩ := hS.store (P := Try.prog) (p := 1) (o := 0) (t := 25) (v := .agg ([iV (band .i64 (shr .i64 x0 24) 31), iV (w64 ((band .i64 (shr .i64 x0 17) 2047) - 20)), v_24, v_26, v_28] : List Value).toArray) (vs := [iV (band .i64 (shr .i64 x0 24) 31), iV (w64 ((band .i64 (shr .i64 x0 17) 2047) - 20)), v_24, v_26, v_28]) rfl ti25 rfl rfl rfl (by intro u hu; simp only [List.mem_cons, List.not_mem_nil, or_false] at hu; rcases hu with rfl | rfl | rfl | rfl | rfl <;> first | rfl | exact hr_25.one | exact hr_27.one | exact hr_29.one)
     refine s_store h rfl rfl hs' ?_
     replace hS : Sep w0 w_46 [_, Mem.one g_2 (.cells ([iV (band .i64 (shr .i64 x0 24) 31), iV (w64 ((band .i64 (shr .i64 x0 17) 2047) - 20)), v_24, v_26, v_28] : List Value).toArray 25 (0, 0)), _, _, _] Z := hS'
     clear hs' hS'
     refine wpList_nil <| x_then_n <| wp_ret ?_
     obtain rfl := Option.some.inj H
     exact f_ret h (rs := [.cell 2 25]) rfl (.cell rfl (hS.load_agg (p := 1) (us := [iV (band .i64 (shr .i64 x0 24) 31), iV (w64 ((band .i64 (shr .i64 x0 17) 2047) - 20)), v_24, v_26, v_28]) rfl U25 rfl ti25 rfl rfl) .nil) ⟨_, rfl, v_24, v_26, v_28, N_38, rfl, (Sep.sel hS [0] (by decide)), (hr_25.mono (le_34.trans le_38)), (hr_27.mono (le_34.trans le_38)), (hr_29.mono (le_34.trans le_38))⟩
    ·rw [if_neg hc_43] at H
     refine c_cond_f h rfl (beq_eq_false_iff_ne.2 hc_43) <| wp_skip <| x_then_n (hKJ_42 _ _ ?_)
     refine wp_seq <| wp_region_lit <| s_load h rfl rfl (hS.load_agg (p := 4) (us := [iV x_39, iV x_23.Who, v_24, v_26, v_28]) rfl U25 rfl ti25 rfl rfl) fun a h=>?_
     obtain ⟨w_47, hs', hS'⟩ := hS.store (P := Try.prog) (p := 1) (o := 0) (t := 25) (v := .agg ([iV x_39, iV x_23.Who, v_24, v_26, v_28] : List Value).toArray) (vs := [iV x_39, iV x_23.Who, v_24, v_26, v_28]) rfl ti25 rfl rfl rfl (by intro u hu; simp only [List.mem_cons, List.not_mem_nil, or_false] at hu; rcases hu with rfl | rfl | rfl | rfl | rfl <;> first | rfl | exact hr_25.one | exact hr_27.one | exact hr_29.one)
     refine s_store h rfl rfl hs' ?_
     replace hS : Sep w0 w_47 [_, Mem.one g_2 (.cells ([iV x_39, iV x_23.Who, v_24, v_26, v_28] : List Value).toArray 25 (0, 0)), _, _, _] Z := hS'
     clear hs' hS'
     refine wpList_nil ?_
     replace h : Fr 60 a [(2, _)] := h.keep [2]
     refine x_then_n <| wp_ret ?_
     obtain rfl := Option.some.inj H
     exact f_ret h (rs := [.cell 2 25]) rfl (.cell rfl (hS.load_agg (p := 1) (us := [iV x_39, iV x_23.Who, v_24, v_26, v_28]) rfl U25 rfl ti25 rfl rfl) .nil) ⟨_, rfl, v_24, v_26, v_28, N_38, rfl, (Sep.sel hS [0] (by decide)), (hr_25.mono (le_34.trans le_38)), (hr_27.mono (le_34.trans le_38)), (hr_29.mono (le_34.trans le_38))⟩
   clear hKJ_32
   by_cases hc_48 : x_35 = true
   ·rw [if_pos hc_48] at H
    refine c_cond_t h rfl hc_48 <| wp_region_lit ?_
    have hq_53 : Reps (Kd.int .i64) Mem.no ([1, 2, 4, 9] : List Int) _ := ((Reps.one (d := (Kd.int .i64)) (x := 1) (show (Kd.int .i64).K _ _ [iV 1] from rfl)).append ((Reps.one (d := (Kd.int .i64)) (x := 2) (show (Kd.int .i64).K _ _ [iV 2] from rfl)).append ((Reps.one (d := (Kd.int .i64)) (x := 4) (show (Kd.int .i64).K _ _ [iV 4] from rfl)).append ((Reps.one (d := (Kd.int .i64)) (x := 9) (show (Kd.int .i64).K _ _ [iV 9] from rfl)).append (Reps.nil (Kd.int .i64) _)))))
    refine s_buildSlice h rfl U22 ti3 rfl rfl rfl (.cons rfl (.cons rfl (.cons rfl (.cons rfl .nil)))) rfl rfl rfl hS hq_53 rfl fun w_49 v_50 M_51 hS' ho_52 a h => ?_
    replace hS : Sep w0 w_49 [_, _, _, _, _, M_51] Z := hS'
    clear hS' hq_53
    refine s_move h rfl rfl fun a h=>s_shift (r := shr .i64 x0 17) h rfl rfl rfl (by decide) (.inr ⟨rfl, rfl⟩) fun a h=>s_bits (i := shr .i64 x0 17) (j := 3) (r := band .i64 (shr .i64 x0 17) 3) h rfl rfl rfl (.inl ⟨rfl, rfl⟩) fun a h=>?_
    obtain ⟨t_55, et_55, H⟩ := Option.bind_eq_some_iff.1 H
    refine v_indexO h rfl U22 ti3 rfl rfl rfl ho_52 (hS.own 5) et_55 fun ad_56 cs_57 hk_58 hc_59 => ?_
    obtain rfl := (show cs_57 = [iV t_55] from hk_58)
    intro a h
    refine s_load h rfl rfl (el_one (o := 0) hc_59 U3 rfl rfl) fun a h=>s_fieldAddr h rfl U25 rfl ti3 rfl rfl fun a h=>?_
    obtain ⟨w_60, hs', hS'⟩ := hS.store (P := Try.prog) (p := 4) (o := 0) (t := 3) (v := iV t_55) (vs := [iV t_55]) rfl ti3 rfl rfl rfl (by intro u hu; simp only [List.mem_cons, List.not_mem_nil, or_false] at hu; rcases hu with rfl <;> rfl)
    refine s_store h rfl rfl hs' ?_
    replace hS : Sep w0 w_60 [_, _, _, _, Mem.one g_22 (.cells ([iV t_55, _, _, _, _] : List Value).toArray 25 (0, 0)), _] Z := hS'
    clear hs' hS'
    refine wpList_nil ?_
    replace hS : Sep w0 w_60 [_, _, _, _, _, _] Z := hS
    replace h : Fr 60 a [(0, _), (2, _), (4, _)] := h.keep [0, 2, 4]
    exact x_then_n (hJ_j_41 t_55 H _ _ ⟨N_34, h, (Sep.sel hS [0, 1, 1001, 1002, 4] (by decide)), (Mem.le.refl _)⟩)
   ·rw [if_neg hc_48] at H
    refine c_cond_f h rfl (Bool.eq_false_iff.2 hc_48) <| wp_skip ?_
    replace hS : Sep w0 w_36 [_, _, _, _, _] Z := hS
    replace h : Fr 60 a [(0, _), (2, _), (4, _)] := h.keep [0, 2, 4]
    exact x_then_n (hJ_j_41 x_23.Kind H _ _ ⟨N_34, h, (Sep.sel hS [0, 1, 1001, 1002, 4] (by decide)), (Mem.le.refl _)⟩)
  clear hKJ_33
  refine wp_region_lit <| s_fieldAddr h rfl U25 rfl ti3 rfl rfl fun a h=>s_load h rfl rfl (hS.load_one (p := 4) rfl U3 rfl rfl) fun a h=>s_cmp (b := (x_23.Kind == 0)) h rfl rfl rfl (.inl ⟨rfl, rfl⟩) fun a h=>s_move h rfl rfl fun a h=>?_
  by_cases hc_61 : x_23.Kind = 0
  ·rw [if_pos hc_61] at H
   refine s_off h rfl rfl rfl (beq_iff_eq.2 hc_61) fun a h=>s_off h rfl rfl rfl (beq_iff_eq.2 hc_61) fun a h=>s_off h rfl rfl rfl (beq_iff_eq.2 hc_61) fun a h=>s_pick_t h rfl rfl (beq_iff_eq.2 hc_61) rfl fun a h=>wpList_nil ?_
   replace hS : Sep w0 w_30 [_, _, _, _, _] Z := hS
   replace h : Fr 60 a [(0, _), (2, _), (4, _), (38, .bool true)] := h.keep [0, 2, 4, 38]
   exact x_then_n (hJ_j_37 true H _ _ ⟨N_21, h, (Sep.sel hS [0, 1, 1001, 1002, 4] (by decide)), (Mem.le.refl _)⟩)
  ·rw [if_neg hc_61] at H
   refine s_on h rfl rfl (beq_eq_false_iff_ne.2 hc_61) <| s_fieldAddr h rfl U25 rfl ti3 rfl rfl fun a h=>s_on h rfl rfl (beq_eq_false_iff_ne.2 hc_61) <| s_load h rfl rfl (hS.load_one (p := 4) rfl U3 rfl rfl) fun a h=>s_on h rfl rfl (beq_eq_false_iff_ne.2 hc_61) <| s_cmp (b := (x_23.Kind == 12)) h rfl rfl rfl (.inl ⟨rfl, rfl⟩) fun a h=>s_pick_f h rfl rfl (beq_eq_false_iff_ne.2 hc_61) rfl fun a h=>wpList_nil ?_
   replace hS : Sep w0 w_30 [_, _, _, _, _] Z := hS
   replace h : Fr 60 a [(0, _), (2, _), (4, _), (38, .bool (x_23.Kind == 12))] := h.keep [0, 2, 4, 38]
   exact x_then_n (hJ_j_37 (x_23.Kind == 12) H _ _ ⟨N_21, h, (Sep.sel hS [0, 1, 1001, 1002, 4] (by decide)), (Mem.le.refl _)⟩)
 clear hKJ_20
 refine h_begin (S := fun w => Sep w0 w [N_19, Mem.one g_2 (.cells ([iV 0, iV 0, nS, nS, nS] : List Value).toArray 25 (0, 0)), M_5, Mem.no] Z) 21 (by kernel_rfl) rfl (bA 21 0) (by kernel_rfl) hS fun w_62 hS => ?_
 replace hS : Sep w0 w_62 [_, _, _, _] Z := hS
 refine t_take 0 (bA 21 1) rfl rfl rfl rfl h (hS.sub (.cons (Mem.le.refl _) (.rr (.rr (.zz .ii))))) (v := iV x0) (fun w hS => r_move h rfl) fun a h=>t_take 1 (bA 21 3) rfl rfl rfl rfl h (hS.sub (.cons (Mem.le.refl _) (.rr (.rr (.zz .ii))))) (v := iV (band .i64 x0 31)) (fun w hS => r_bits (i := x0) (j := 31) (r := band .i64 x0 31) h rfl rfl (.inl ⟨rfl, rfl⟩)) fun a h=>t_take 2 (bA 21 7) rfl rfl rfl rfl h (hS.sub (.cons (Mem.le.refl _) (.rr (.rr (.zz .ii))))) (v := iV (Int.tmod (band .i64 x0 31) 13)) (fun w hS => r_div (r := Int.tmod (band .i64 x0 31) 13) h rfl rfl (by decide) (.inr ⟨rfl, rfl⟩)) fun a h=>t_take 3 (bA 21 15) rfl rfl rfl rfl h (hS.sub (.cons (Mem.le.refl _) (.rr (.rr (.zz .ii))))) (v := iV (w64 ((Int.tmod (band .i64 x0 31) 13) + 0))) (fun w hS => r_arith (r := w64 ((Int.tmod (band .i64 x0 31) 13) + 0)) h rfl rfl (.inl ⟨rfl, rfl⟩)) fun a h=>t_take 4 (bA 21 31) rfl rfl rfl rfl h (hS.sub (.cons (Mem.le.refl _) (.rr (.rr (.zz .ii))))) (v := iV x0) (fun w hS => r_move h rfl) fun a h=>t_take 5 (bA 21 63) rfl rfl rfl rfl h (hS.sub (.cons (Mem.le.refl _) (.rr (.rr (.zz .ii))))) (v := iV (shr .i64 x0 8)) (fun w hS => r_shift (r := shr .i64 x0 8) h rfl rfl (by decide) (.inr ⟨rfl, rfl⟩)) fun a h=>?_
 refine t_take 6 (bA 21 127) rfl rfl rfl rfl h (hS.sub (.cons (Mem.le.refl _) (.rr (.rr (.zz .ii))))) (v := iV (band .i64 (shr .i64 x0 8) 7)) (fun w hS => r_bits (i := shr .i64 x0 8) (j := 7) (r := band .i64 (shr .i64 x0 8) 7) h rfl rfl (.inl ⟨rfl, rfl⟩)) fun a h=>t_take 7 (bA 21 255) rfl rfl rfl rfl h (hS.sub (.cons (Mem.le.refl _) (.rr (.rr (.zz .ii))))) (v := iV x0) (fun w hS => r_move h rfl) fun a h=>t_take 8 (bA 21 511) rfl rfl rfl rfl h (hS.sub (.cons (Mem.le.refl _) (.rr (.rr (.zz .ii))))) (v := iV (shr .i64 x0 11)) (fun w hS => r_shift (r := shr .i64 x0 11) h rfl rfl (by decide) (.inr ⟨rfl, rfl⟩)) fun a h=>t_take 10 (bA 21 1535) rfl rfl rfl rfl h (hS.sub (.cons (Mem.le.refl _) (.rr (.rr (.zz .ii))))) (v := v_16) (fun w hS => r_move h rfl) fun a h=>t_take 12 (bA 21 5631) rfl rfl rfl rfl h (hS.sub (.cons (Mem.le.refl _) (.rr (.rr (.zz .ii))))) (v := iV x0) (fun w hS => r_move h rfl) fun a h=>t_take 13 (bA 21 13823) rfl rfl rfl rfl h (hS.sub (.cons (Mem.le.refl _) (.rr (.rr (.zz .ii))))) (v := iV (shr .i64 x0 15)) (fun w hS => r_shift (r := shr .i64 x0 15) h rfl rfl (by decide) (.inr ⟨rfl, rfl⟩)) fun a h=>?_
 refine t_take 14 (bA 21 30207) rfl rfl rfl rfl h (hS.sub (.cons (Mem.le.refl _) (.rr (.rr (.zz .ii))))) (v := iV (band .i64 (shr .i64 x0 15) 3)) (fun w hS => r_bits (i := shr .i64 x0 15) (j := 3) (r := band .i64 (shr .i64 x0 15) 3) h rfl rfl (.inl ⟨rfl, rfl⟩)) fun a h=>?_
 obtain ⟨t_63, et_63, H⟩ := Option.bind_eq_some_iff.1 H
 obtain ⟨t_75, et_75, H⟩ := Option.bind_eq_some_iff.1 H
 obtain ⟨u_80, eu_80, H⟩ := Option.bind_eq_some_iff.1 H
 refine h_events [9, 11, 19] (by kernel_rfl) (by simp) ?_
 intro i hi; simp only [List.mem_cons, List.not_mem_nil, or_false] at hi; rcases hi with rfl | rfl | rfl
 ·refine ⟨_, (bA 21 30719), rfl, by kernel_rfl, ?_⟩
  refine s_call h rfl Try.call71 rfl (hocketlaw7_Keys.calls (shr .i64 x0 11) t_63 w0 _ _ _ (Mem.le.refl _) (hS.enter [] (by decide))  et_63) ?_
  rintro v_67 w_64 ⟨_, N_65, rfl, hS', hr_68⟩
  intro a h
  obtain ⟨N_66, hS'', le_66, ln_66⟩ := hS.call [] (by decide) rfl (l' := []) (ow := []) rfl hS'
  replace hS : Sep w0 w_64 [N_66, _, _, _] Z := hS''
  clear hS' hS''
  refine wpList_nil <| x_then_n ⟨(hS.sub (.cons le_66 (.rr (.rr (.zz .ii))))), ?_⟩
  refine h_events [11, 19] (by kernel_rfl) (by simp) ?_
  intro i hi; simp only [List.mem_cons, List.not_mem_nil, or_false] at hi; rcases hi with rfl | rfl
  ·refine ⟨_, (bA 21 32767), rfl, by kernel_rfl, ?_⟩
   have hq_73 : Reps Kd.str Mem.no ([([] : List UInt8), ([97] : List UInt8), ([98] : List UInt8), ([97, 98] : List UInt8)] : List (List UInt8)) _ := ((Reps.one (d := Kd.str) (x := ([] : List UInt8)) (show Kd.str.K _ _ [.string ⟨([] : List UInt8).toArray⟩] from rfl)).append ((Reps.one (d := Kd.str) (x := ([97] : List UInt8)) (show Kd.str.K _ _ [.string ⟨([97] : List UInt8).toArray⟩] from rfl)).append ((Reps.one (d := Kd.str) (x := ([98] : List UInt8)) (show Kd.str.K _ _ [.string ⟨([98] : List UInt8).toArray⟩] from rfl)).append ((Reps.one (d := Kd.str) (x := ([97, 98] : List UInt8)) (show Kd.str.K _ _ [.string ⟨([97, 98] : List UInt8).toArray⟩] from rfl)).append (Reps.nil Kd.str _)))))
   refine s_buildSlice h rfl U81 ti9 rfl rfl rfl (.cons rfl (.cons rfl (.cons rfl (.cons rfl .nil)))) rfl rfl rfl hS hq_73 rfl fun w_69 v_70 M_71 hS' ho_72 a h => ?_
   replace hS : Sep w0 w_69 [_, _, _, _, M_71] Z := hS'
   clear hS' hq_73
   refine wpList_nil <| x_then_n ⟨(hS.sub (.cons le_66 (.rr (.rr (.zz .nn))))), ?_⟩
   refine t_takeE 15 (bA 21 65535) rfl rfl rfl rfl h (hS.sub (.cons le_66 (.rr (.rr (.zz .nn))))) (f := fun ad => .pointer (some ad)) (r_indexO h U81 ti9 rfl rfl rfl ho_72 et_75) ?_
   rintro ad_76 ⟨cs_77, hk_78, hc_79⟩
   obtain rfl := (show cs_77 = [.string ⟨t_75.toArray⟩] from hk_78)
   intro a h
   refine h_events [16, 19] (by kernel_rfl) (by simp) ?_
   intro i hi; simp only [List.mem_cons, List.not_mem_nil, or_false] at hi; rcases hi with rfl | rfl
   ·refine ⟨_, (bA 21 131071), rfl, by kernel_rfl, ?_⟩
    refine s_load h rfl rfl (el_one (o := 0) (fun j c h => Mem.cell_le (hS.own 4) (hc_79 j c h)) U9 rfl rfl) fun a h=>wpList_nil <| x_then_n ⟨(hS.sub (.cons le_66 (.rr (.rr (.zz .nn))))), ?_⟩
    refine h_events [17, 19] (by kernel_rfl) (by simp) ?_
    intro i hi; simp only [List.mem_cons, List.not_mem_nil, or_false] at hi; rcases hi with rfl | rfl
    ·refine ⟨_, (bA 21 262143), rfl, by kernel_rfl, ?_⟩
     refine s_s2b h rfl U9 U23 U5 rfl (must_some eu_80) hS fun w_81 v_82 M_83 hS' hr_84 a h => ?_
     obtain ⟨N_85, hS'', le_85, lo_85⟩ := Sep.freeze (l := [Mem.one g_2 (.cells ([iV 0, iV 0, nS, nS, nS] : List Value).toArray 25 (0, 0)), M_5, Mem.no, M_71, M_83]) hS' 4 rfl
     replace hS : Sep w0 w_81 [N_85, _, _, _, _, Mem.no] Z := hS''
     clear hS' hS''
     refine wpList_nil <| x_then_n ⟨(hS.sub (.cons (le_66.trans le_85) (.rr (.rr (.zz .nn))))), ?_⟩
     refine t_take 18 (bA 21 524287) rfl rfl rfl rfl h (hS.sub (.cons (le_66.trans le_85) (.rr (.rr (.zz .nn))))) (v := .agg ([iV (w64 ((Int.tmod (band .i64 x0 31) 13) + 0)), iV (band .i64 (shr .i64 x0 8) 7), v_67, v_16, v_82] : List Value).toArray) (fun w hS => r_build h ti25 pl25 rfl (.cons rfl (.cons rfl (.cons (hr_68.mono ln_66).cells (.cons (hr_18.mono lo_19).cells (.cons (hr_84.mono lo_85).cells .nil))))) (cs := [iV (w64 ((Int.tmod (band .i64 x0 31) 13) + 0)), iV (band .i64 (shr .i64 x0 8) 7), v_67, v_16, v_82]) (by kernel_rfl)) fun a h=>h_event 19 (bA 21 1048575) rfl (by kernel_rfl) (by kernel_rfl) <| v_alloc h rfl ti25 hS fun w_86 g_87 hS' a h => ?_
     replace hS : Sep w0 w_86 [_, _, _, _, _, _, Mem.one g_87 (.cells ([iV 0, iV 0, nS, nS, nS] : List Value).toArray 25 (0, 0))] Z := hS'
     clear hS'
     refine wpList_nil <| x_then_n ⟨(hS.sub (.cons (le_66.trans le_85) (.rr (.rr (.zz .nn))))), ?_⟩
     refine h_event 20 (bA 21 2097151) rfl (by kernel_rfl) (by kernel_rfl) ?_
     obtain ⟨w_88, hs', hS'⟩ := hS.store (P := Try.prog) (p := 6) (o := 0) (t := 25) (v := .agg ([iV (w64 ((Int.tmod (band .i64 x0 31) 13) + 0)), iV (band .i64 (shr .i64 x0 8) 7), v_67, v_16, v_82] : List Value).toArray) (vs := [iV (w64 ((Int.tmod (band .i64 x0 31) 13) + 0)), iV (band .i64 (shr .i64 x0 8) 7), v_67, v_16, v_82]) rfl ti25 rfl rfl rfl (by intro u hu; simp only [List.mem_cons, List.not_mem_nil, or_false] at hu; rcases hu with rfl | rfl | rfl | rfl | rfl <;> first | rfl | exact (hr_68.mono ln_66).one | exact (hr_18.mono lo_19).one | exact (hr_84.mono lo_85).one)
     refine s_store h rfl rfl hs' ?_
     replace hS : Sep w0 w_88 [_, _, _, _, _, _, Mem.one g_87 (.cells ([iV (w64 ((Int.tmod (band .i64 x0 31) 13) + 0)), iV (band .i64 (shr .i64 x0 8) 7), v_67, v_16, v_82] : List Value).toArray 25 (0, 0))] Z := hS'
     clear hs' hS'
     refine wpList_nil <| x_then_n ⟨(hS.sub (.cons (le_66.trans le_85) (.rr (.rr (.zz .nn))))), ?_⟩
     refine h_done (by kernel_rfl) ?_
     replace hS : Sep w0 w_88 [_, _, _, _, _, _, _] Z := hS
     replace h : Fr 60 a [(0, _), (2, .pointer (some ⟨g_2, 0, none⟩)), (4, .pointer (some ⟨g_87, 0, none⟩))] := h.keep [0, 2, 4]
     exact x_then_n (hJ_j_31 (⟨w64 ((Int.tmod (band .i64 x0 31) 13) + 0), band .i64 (shr .i64 x0 8) 7, t_63, t_9, t_75⟩ : api_Cmd) H _ _ ⟨v_67, v_16, v_82, g_87, N_85, h, (Sep.sel hS [0, 1, 1001, 1002, 6] (by decide)), (le_66.trans le_85), ((hr_68.mono ln_66).mono le_85), ((hr_18.mono lo_19).mono (le_66.trans le_85)), (hr_84.mono lo_85)⟩)
    ·refine ⟨_, (bA 21 655359), rfl, by kernel_rfl, ?_⟩
     refine v_alloc h rfl ti25 hS fun w_89 g_90 hS' a h => ?_
     replace hS : Sep w0 w_89 [_, _, _, _, _, Mem.one g_90 (.cells ([iV 0, iV 0, nS, nS, nS] : List Value).toArray 25 (0, 0))] Z := hS'
     clear hS'
     refine wpList_nil <| x_then_n ⟨(hS.sub (.cons le_66 (.rr (.rr (.zz .nn))))), ?_⟩
     refine h_event 17 (bA 21 786431) rfl (by kernel_rfl) (by kernel_rfl) <| s_s2b h rfl U9 U23 U5 rfl (must_some eu_80) hS fun w_92 v_93 M_94 hS' hr_95 a h => ?_
     obtain ⟨N_96, hS'', le_96, lo_96⟩ := Sep.freeze (l := [Mem.one g_2 (.cells ([iV 0, iV 0, nS, nS, nS] : List Value).toArray 25 (0, 0)), M_5, Mem.no, M_71, Mem.one g_90 (.cells ([iV 0, iV 0, nS, nS, nS] : List Value).toArray 25 (0, 0)), M_94]) hS' 5 rfl
     replace hS : Sep w0 w_92 [N_96, _, _, _, _, _, Mem.no] Z := hS''
     clear hS' hS''
     refine wpList_nil <| x_then_n ⟨(hS.sub (.cons (le_66.trans le_96) (.rr (.rr (.zz .nn))))), ?_⟩
     refine t_take 18 (bA 21 1048575) rfl rfl rfl rfl h (hS.sub (.cons (le_66.trans le_96) (.rr (.rr (.zz .nn))))) (v := .agg ([iV (w64 ((Int.tmod (band .i64 x0 31) 13) + 0)), iV (band .i64 (shr .i64 x0 8) 7), v_67, v_16, v_93] : List Value).toArray) (fun w hS => r_build h ti25 pl25 rfl (.cons rfl (.cons rfl (.cons (hr_68.mono ln_66).cells (.cons (hr_18.mono lo_19).cells (.cons (hr_95.mono lo_96).cells .nil))))) (cs := [iV (w64 ((Int.tmod (band .i64 x0 31) 13) + 0)), iV (band .i64 (shr .i64 x0 8) 7), v_67, v_16, v_93]) (by kernel_rfl)) fun a h=>h_event 20 (bA 21 2097151) rfl (by kernel_rfl) (by kernel_rfl) ?_
     obtain ⟨w_97, hs', hS'⟩ := hS.store (P := Try.prog) (p := 5) (o := 0) (t := 25) (v := .agg ([iV (w64 ((Int.tmod (band .i64 x0 31) 13) + 0)), iV (band .i64 (shr .i64 x0 8) 7), v_67, v_16, v_93] : List Value).toArray) (vs := [iV (w64 ((Int.tmod (band .i64 x0 31) 13) + 0)), iV (band .i64 (shr .i64 x0 8) 7), v_67, v_16, v_93]) rfl ti25 rfl rfl rfl (by intro u hu; simp only [List.mem_cons, List.not_mem_nil, or_false] at hu; rcases hu with rfl | rfl | rfl | rfl | rfl <;> first | rfl | exact (hr_68.mono ln_66).one | exact (hr_18.mono lo_19).one | exact (hr_95.mono lo_96).one)
     refine s_store h rfl rfl hs' ?_
     replace hS : Sep w0 w_97 [_, _, _, _, _, Mem.one g_90 (.cells ([iV (w64 ((Int.tmod (band .i64 x0 31) 13) + 0)), iV (band .i64 (shr .i64 x0 8) 7), v_67, v_16, v_93] : List Value).toArray 25 (0, 0)), _] Z := hS'
     clear hs' hS'
     refine wpList_nil <| x_then_n ⟨(hS.sub (.cons (le_66.trans le_96) (.rr (.rr (.zz .nn))))), ?_⟩
     refine h_done (by kernel_rfl) ?_
     replace hS : Sep w0 w_97 [_, _, _, _, _, _, _] Z := hS
     replace h : Fr 60 a [(0, _), (2, .pointer (some ⟨g_2, 0, none⟩)), (4, .pointer (some ⟨g_90, 0, none⟩))] := h.keep [0, 2, 4]
     exact x_then_n (hJ_j_31 (⟨w64 ((Int.tmod (band .i64 x0 31) 13) + 0), band .i64 (shr .i64 x0 8) 7, t_63, t_9, t_75⟩ : api_Cmd) H _ _ ⟨v_67, v_16, v_93, g_90, N_96, h, (Sep.sel hS [0, 1, 1001, 1002, 5] (by decide)), (le_66.trans le_96), ((hr_68.mono ln_66).mono le_96), ((hr_18.mono lo_19).mono (le_66.trans le_96)), (hr_95.mono lo_96)⟩)
   ·refine ⟨_, (bA 21 589823), rfl, by kernel_rfl, ?_⟩
    refine v_alloc h rfl ti25 hS fun w_98 g_99 hS' a h => ?_
    replace hS : Sep w0 w_98 [_, _, _, _, _, Mem.one g_99 (.cells ([iV 0, iV 0, nS, nS, nS] : List Value).toArray 25 (0, 0))] Z := hS'
    clear hS'
    refine wpList_nil <| x_then_n ⟨(hS.sub (.cons le_66 (.rr (.rr (.zz .nn))))), ?_⟩
    refine h_event 16 (bA 21 655359) rfl (by kernel_rfl) (by kernel_rfl) <| s_load h rfl rfl (el_one (o := 0) (fun j c h => Mem.cell_le (hS.own 4) (hc_79 j c h)) U9 rfl rfl) fun a h=>wpList_nil <| x_then_n ⟨(hS.sub (.cons le_66 (.rr (.rr (.zz .nn))))), ?_⟩
    refine h_event 17 (bA 21 786431) rfl (by kernel_rfl) (by kernel_rfl) <| s_s2b h rfl U9 U23 U5 rfl (must_some eu_80) hS fun w_101 v_102 M_103 hS' hr_104 a h => ?_
    obtain ⟨N_105, hS'', le_105, lo_105⟩ := Sep.freeze (l := [Mem.one g_2 (.cells ([iV 0, iV 0, nS, nS, nS] : List Value).toArray 25 (0, 0)), M_5, Mem.no, M_71, Mem.one g_99 (.cells ([iV 0, iV 0, nS, nS, nS] : List Value).toArray 25 (0, 0)), M_103]) hS' 5 rfl
    replace hS : Sep w0 w_101 [N_105, _, _, _, _, _, Mem.no] Z := hS''
    clear hS' hS''
    refine wpList_nil <| x_then_n ⟨(hS.sub (.cons (le_66.trans le_105) (.rr (.rr (.zz .nn))))), ?_⟩
    refine t_take 18 (bA 21 1048575) rfl rfl rfl rfl h (hS.sub (.cons (le_66.trans le_105) (.rr (.rr (.zz .nn))))) (v := .agg ([iV (w64 ((Int.tmod (band .i64 x0 31) 13) + 0)), iV (band .i64 (shr .i64 x0 8) 7), v_67, v_16, v_102] : List Value).toArray) (fun w hS => r_build h ti25 pl25 rfl (.cons rfl (.cons rfl (.cons (hr_68.mono ln_66).cells (.cons (hr_18.mono lo_19).cells (.cons (hr_104.mono lo_105).cells .nil))))) (cs := [iV (w64 ((Int.tmod (band .i64 x0 31) 13) + 0)), iV (band .i64 (shr .i64 x0 8) 7), v_67, v_16, v_102]) (by kernel_rfl)) fun a h=>h_event 20 (bA 21 2097151) rfl (by kernel_rfl) (by kernel_rfl) ?_
    obtain ⟨w_106, hs', hS'⟩ := hS.store (P := Try.prog) (p := 5) (o := 0) (t := 25) (v := .agg ([iV (w64 ((Int.tmod (band .i64 x0 31) 13) + 0)), iV (band .i64 (shr .i64 x0 8) 7), v_67, v_16, v_102] : List Value).toArray) (vs := [iV (w64 ((Int.tmod (band .i64 x0 31) 13) + 0)), iV (band .i64 (shr .i64 x0 8) 7), v_67, v_16, v_102]) rfl ti25 rfl rfl rfl (by intro u hu; simp only [List.mem_cons, List.not_mem_nil, or_false] at hu; rcases hu with rfl | rfl | rfl | rfl | rfl <;> first | rfl | exact (hr_68.mono ln_66).one | exact (hr_18.mono lo_19).one | exact (hr_104.mono lo_105).one)
    refine s_store h rfl rfl hs' ?_
    replace hS : Sep w0 w_106 [_, _, _, _, _, Mem.one g_99 (.cells ([iV (w64 ((Int.tmod (band .i64 x0 31) 13) + 0)), iV (band .i64 (shr .i64 x0 8) 7), v_67, v_16, v_102] : List Value).toArray 25 (0, 0)), _] Z := hS'
    clear hs' hS'
    refine wpList_nil <| x_then_n ⟨(hS.sub (.cons (le_66.trans le_105) (.rr (.rr (.zz .nn))))), ?_⟩
    refine h_done (by kernel_rfl) ?_
    replace hS : Sep w0 w_106 [_, _, _, _, _, _, _] Z := hS
    replace h : Fr 60 a [(0, _), (2, .pointer (some ⟨g_2, 0, none⟩)), (4, .pointer (some ⟨g_99, 0, none⟩))] := h.keep [0, 2, 4]
    exact x_then_n (hJ_j_31 (⟨w64 ((Int.tmod (band .i64 x0 31) 13) + 0), band .i64 (shr .i64 x0 8) 7, t_63, t_9, t_75⟩ : api_Cmd) H _ _ ⟨v_67, v_16, v_102, g_99, N_105, h, (Sep.sel hS [0, 1, 1001, 1002, 5] (by decide)), (le_66.trans le_105), ((hr_68.mono ln_66).mono le_105), ((hr_18.mono lo_19).mono (le_66.trans le_105)), (hr_104.mono lo_105)⟩)
  ·refine ⟨_, (bA 21 555007), rfl, by kernel_rfl, ?_⟩
   refine v_alloc h rfl ti25 hS fun w_107 g_108 hS' a h => ?_
   replace hS : Sep w0 w_107 [_, _, _, _, Mem.one g_108 (.cells ([iV 0, iV 0, nS, nS, nS] : List Value).toArray 25 (0, 0))] Z := hS'
   clear hS'
   refine wpList_nil <| x_then_n ⟨(hS.sub (.cons le_66 (.rr (.rr (.zz .nn))))), ?_⟩
   refine h_event 11 (bA 21 557055) rfl (by kernel_rfl) (by kernel_rfl) ?_
   have hq_113 : Reps Kd.str Mem.no ([([] : List UInt8), ([97] : List UInt8), ([98] : List UInt8), ([97, 98] : List UInt8)] : List (List UInt8)) _ := ((Reps.one (d := Kd.str) (x := ([] : List UInt8)) (show Kd.str.K _ _ [.string ⟨([] : List UInt8).toArray⟩] from rfl)).append ((Reps.one (d := Kd.str) (x := ([97] : List UInt8)) (show Kd.str.K _ _ [.string ⟨([97] : List UInt8).toArray⟩] from rfl)).append ((Reps.one (d := Kd.str) (x := ([98] : List UInt8)) (show Kd.str.K _ _ [.string ⟨([98] : List UInt8).toArray⟩] from rfl)).append ((Reps.one (d := Kd.str) (x := ([97, 98] : List UInt8)) (show Kd.str.K _ _ [.string ⟨([97, 98] : List UInt8).toArray⟩] from rfl)).append (Reps.nil Kd.str _)))))
   refine s_buildSlice h rfl U81 ti9 rfl rfl rfl (.cons rfl (.cons rfl (.cons rfl (.cons rfl .nil)))) rfl rfl rfl hS hq_113 rfl fun w_109 v_110 M_111 hS' ho_112 a h => ?_
   replace hS : Sep w0 w_109 [_, _, _, _, _, M_111] Z := hS'
   clear hS' hq_113
   refine wpList_nil <| x_then_n ⟨(hS.sub (.cons le_66 (.rr (.rr (.zz .nn))))), ?_⟩
   refine t_takeE 15 (bA 21 589823) rfl rfl rfl rfl h (hS.sub (.cons le_66 (.rr (.rr (.zz .nn))))) (f := fun ad => .pointer (some ad)) (r_indexO h U81 ti9 rfl rfl rfl ho_112 et_75) ?_
   rintro ad_116 ⟨cs_117, hk_118, hc_119⟩
   obtain rfl := (show cs_117 = [.string ⟨t_75.toArray⟩] from hk_118)
   intro a h
   refine h_event 16 (bA 21 655359) rfl (by kernel_rfl) (by kernel_rfl) <| s_load h rfl rfl (el_one (o := 0) (fun j c h => Mem.cell_le (hS.own 5) (hc_119 j c h)) U9 rfl rfl) fun a h=>wpList_nil <| x_then_n ⟨(hS.sub (.cons le_66 (.rr (.rr (.zz .nn))))), ?_⟩
   refine h_event 17 (bA 21 786431) rfl (by kernel_rfl) (by kernel_rfl) <| s_s2b h rfl U9 U23 U5 rfl (must_some eu_80) hS fun w_121 v_122 M_123 hS' hr_124 a h => ?_
   obtain ⟨N_125, hS'', le_125, lo_125⟩ := Sep.freeze (l := [Mem.one g_2 (.cells ([iV 0, iV 0, nS, nS, nS] : List Value).toArray 25 (0, 0)), M_5, Mem.no, Mem.one g_108 (.cells ([iV 0, iV 0, nS, nS, nS] : List Value).toArray 25 (0, 0)), M_111, M_123]) hS' 5 rfl
   replace hS : Sep w0 w_121 [N_125, _, _, _, _, _, Mem.no] Z := hS''
   clear hS' hS''
   refine wpList_nil <| x_then_n ⟨(hS.sub (.cons (le_66.trans le_125) (.rr (.rr (.zz .nn))))), ?_⟩
   refine t_take 18 (bA 21 1048575) rfl rfl rfl rfl h (hS.sub (.cons (le_66.trans le_125) (.rr (.rr (.zz .nn))))) (v := .agg ([iV (w64 ((Int.tmod (band .i64 x0 31) 13) + 0)), iV (band .i64 (shr .i64 x0 8) 7), v_67, v_16, v_122] : List Value).toArray) (fun w hS => r_build h ti25 pl25 rfl (.cons rfl (.cons rfl (.cons (hr_68.mono ln_66).cells (.cons (hr_18.mono lo_19).cells (.cons (hr_124.mono lo_125).cells .nil))))) (cs := [iV (w64 ((Int.tmod (band .i64 x0 31) 13) + 0)), iV (band .i64 (shr .i64 x0 8) 7), v_67, v_16, v_122]) (by kernel_rfl)) fun a h=>h_event 20 (bA 21 2097151) rfl (by kernel_rfl) (by kernel_rfl) ?_
   obtain ⟨w_126, hs', hS'⟩ := hS.store (P := Try.prog) (p := 4) (o := 0) (t := 25) (v := .agg ([iV (w64 ((Int.tmod (band .i64 x0 31) 13) + 0)), iV (band .i64 (shr .i64 x0 8) 7), v_67, v_16, v_122] : List Value).toArray) (vs := [iV (w64 ((Int.tmod (band .i64 x0 31) 13) + 0)), iV (band .i64 (shr .i64 x0 8) 7), v_67, v_16, v_122]) rfl ti25 rfl rfl rfl (by intro u hu; simp only [List.mem_cons, List.not_mem_nil, or_false] at hu; rcases hu with rfl | rfl | rfl | rfl | rfl <;> first | rfl | exact (hr_68.mono ln_66).one | exact (hr_18.mono lo_19).one | exact (hr_124.mono lo_125).one)
   refine s_store h rfl rfl hs' ?_
   replace hS : Sep w0 w_126 [_, _, _, _, Mem.one g_108 (.cells ([iV (w64 ((Int.tmod (band .i64 x0 31) 13) + 0)), iV (band .i64 (shr .i64 x0 8) 7), v_67, v_16, v_122] : List Value).toArray 25 (0, 0)), _, _] Z := hS'
   clear hs' hS'
   refine wpList_nil <| x_then_n ⟨(hS.sub (.cons (le_66.trans le_125) (.rr (.rr (.zz .nn))))), ?_⟩
   refine h_done (by kernel_rfl) ?_
   replace hS : Sep w0 w_126 [_, _, _, _, _, _, _] Z := hS
   replace h : Fr 60 a [(0, _), (2, .pointer (some ⟨g_2, 0, none⟩)), (4, .pointer (some ⟨g_108, 0, none⟩))] := h.keep [0, 2, 4]
   exact x_then_n (hJ_j_31 (⟨w64 ((Int.tmod (band .i64 x0 31) 13) + 0), band .i64 (shr .i64 x0 8) 7, t_63, t_9, t_75⟩ : api_Cmd) H _ _ ⟨v_67, v_16, v_122, g_108, N_125, h, (Sep.sel hS [0, 1, 1001, 1002, 4] (by decide)), (le_66.trans le_125), ((hr_68.mono ln_66).mono le_125), ((hr_18.mono lo_19).mono (le_66.trans le_125)), (hr_124.mono lo_125)⟩)
 ·refine ⟨_, (bA 21 32255), rfl, by kernel_rfl, ?_⟩
  have hq_131 : Reps Kd.str Mem.no ([([] : List UInt8), ([97] : List UInt8), ([98] : List UInt8), ([97, 98] : List UInt8)] : List (List UInt8)) _ := ((Reps.one (d := Kd.str) (x := ([] : List UInt8)) (show Kd.str.K _ _ [.string ⟨([] : List UInt8).toArray⟩] from rfl)).append ((Reps.one (d := Kd.str) (x := ([97] : List UInt8)) (show Kd.str.K _ _ [.string ⟨([97] : List UInt8).toArray⟩] from rfl)).append ((Reps.one (d := Kd.str) (x := ([98] : List UInt8)) (show Kd.str.K _ _ [.string ⟨([98] : List UInt8).toArray⟩] from rfl)).append ((Reps.one (d := Kd.str) (x := ([97, 98] : List UInt8)) (show Kd.str.K _ _ [.string ⟨([97, 98] : List UInt8).toArray⟩] from rfl)).append (Reps.nil Kd.str _)))))
  refine s_buildSlice h rfl U81 ti9 rfl rfl rfl (.cons rfl (.cons rfl (.cons rfl (.cons rfl .nil)))) rfl rfl rfl hS hq_131 rfl fun w_127 v_128 M_129 hS' ho_130 a h => ?_
  replace hS : Sep w0 w_127 [_, _, _, _, M_129] Z := hS'
  clear hS' hq_131
  refine wpList_nil <| x_then_n ⟨(hS.sub (.cons (Mem.le.refl _) (.rr (.rr (.zz .nn))))), ?_⟩
  refine t_takeE 15 (bA 21 65023) rfl rfl rfl rfl h (hS.sub (.cons (Mem.le.refl _) (.rr (.rr (.zz .nn))))) (f := fun ad => .pointer (some ad)) (r_indexO h U81 ti9 rfl rfl rfl ho_130 et_75) ?_
  rintro ad_134 ⟨cs_135, hk_136, hc_137⟩
  obtain rfl := (show cs_135 = [.string ⟨t_75.toArray⟩] from hk_136)
  intro a h
  refine h_events [9, 16, 19] (by kernel_rfl) (by simp) ?_
  intro i hi; simp only [List.mem_cons, List.not_mem_nil, or_false] at hi; rcases hi with rfl | rfl | rfl
  ·refine ⟨_, (bA 21 65535), rfl, by kernel_rfl, ?_⟩
   refine s_call h rfl Try.call71 rfl (hocketlaw7_Keys.calls (shr .i64 x0 11) t_63 w0 _ _ _ (Mem.le.refl _) (hS.enter [] (by decide))  et_63) ?_
   rintro v_142 w_139 ⟨_, N_140, rfl, hS', hr_143⟩
   intro a h
   obtain ⟨N_141, hS'', le_141, ln_141⟩ := hS.call [] (by decide) rfl (l' := []) (ow := []) rfl hS'
   replace hS : Sep w0 w_139 [N_141, _, _, _, _] Z := hS''
   clear hS' hS''
   refine wpList_nil <| x_then_n ⟨(hS.sub (.cons le_141 (.rr (.rr (.zz .nn))))), ?_⟩
   refine h_events [16, 19] (by kernel_rfl) (by simp) ?_
   intro i hi; simp only [List.mem_cons, List.not_mem_nil, or_false] at hi; rcases hi with rfl | rfl
   ·refine ⟨_, (bA 21 131071), rfl, by kernel_rfl, ?_⟩
    refine s_load h rfl rfl (el_one (o := 0) (fun j c h => Mem.cell_le (hS.own 4) (hc_137 j c h)) U9 rfl rfl) fun a h=>wpList_nil <| x_then_n ⟨(hS.sub (.cons le_141 (.rr (.rr (.zz .nn))))), ?_⟩
    refine h_events [17, 19] (by kernel_rfl) (by simp) ?_
    intro i hi; simp only [List.mem_cons, List.not_mem_nil, or_false] at hi; rcases hi with rfl | rfl
    ·refine ⟨_, (bA 21 262143), rfl, by kernel_rfl, ?_⟩
     refine s_s2b h rfl U9 U23 U5 rfl (must_some eu_80) hS fun w_145 v_146 M_147 hS' hr_148 a h => ?_
     obtain ⟨N_149, hS'', le_149, lo_149⟩ := Sep.freeze (l := [Mem.one g_2 (.cells ([iV 0, iV 0, nS, nS, nS] : List Value).toArray 25 (0, 0)), M_5, Mem.no, M_129, M_147]) hS' 4 rfl
     replace hS : Sep w0 w_145 [N_149, _, _, _, _, Mem.no] Z := hS''
     clear hS' hS''
     refine wpList_nil <| x_then_n ⟨(hS.sub (.cons (le_141.trans le_149) (.rr (.rr (.zz .nn))))), ?_⟩
     refine t_take 18 (bA 21 524287) rfl rfl rfl rfl h (hS.sub (.cons (le_141.trans le_149) (.rr (.rr (.zz .nn))))) (v := .agg ([iV (w64 ((Int.tmod (band .i64 x0 31) 13) + 0)), iV (band .i64 (shr .i64 x0 8) 7), v_142, v_16, v_146] : List Value).toArray) (fun w hS => r_build h ti25 pl25 rfl (.cons rfl (.cons rfl (.cons (hr_143.mono ln_141).cells (.cons (hr_18.mono lo_19).cells (.cons (hr_148.mono lo_149).cells .nil))))) (cs := [iV (w64 ((Int.tmod (band .i64 x0 31) 13) + 0)), iV (band .i64 (shr .i64 x0 8) 7), v_142, v_16, v_146]) (by kernel_rfl)) fun a h=>h_event 19 (bA 21 1048575) rfl (by kernel_rfl) (by kernel_rfl) <| v_alloc h rfl ti25 hS fun w_150 g_151 hS' a h => ?_
     replace hS : Sep w0 w_150 [_, _, _, _, _, _, Mem.one g_151 (.cells ([iV 0, iV 0, nS, nS, nS] : List Value).toArray 25 (0, 0))] Z := hS'
     clear hS'
     refine wpList_nil <| x_then_n ⟨(hS.sub (.cons (le_141.trans le_149) (.rr (.rr (.zz .nn))))), ?_⟩
     refine h_event 20 (bA 21 2097151) rfl (by kernel_rfl) (by kernel_rfl) ?_
     obtain ⟨w_152, hs', hS'⟩ := hS.store (P := Try.prog) (p := 6) (o := 0) (t := 25) (v := .agg ([iV (w64 ((Int.tmod (band .i64 x0 31) 13) + 0)), iV (band .i64 (shr .i64 x0 8) 7), v_142, v_16, v_146] : List Value).toArray) (vs := [iV (w64 ((Int.tmod (band .i64 x0 31) 13) + 0)), iV (band .i64 (shr .i64 x0 8) 7), v_142, v_16, v_146]) rfl ti25 rfl rfl rfl (by intro u hu; simp only [List.mem_cons, List.not_mem_nil, or_false] at hu; rcases hu with rfl | rfl | rfl | rfl | rfl <;> first | rfl | exact (hr_143.mono ln_141).one | exact (hr_18.mono lo_19).one | exact (hr_148.mono lo_149).one)
     refine s_store h rfl rfl hs' ?_
     replace hS : Sep w0 w_152 [_, _, _, _, _, _, Mem.one g_151 (.cells ([iV (w64 ((Int.tmod (band .i64 x0 31) 13) + 0)), iV (band .i64 (shr .i64 x0 8) 7), v_142, v_16, v_146] : List Value).toArray 25 (0, 0))] Z := hS'
     clear hs' hS'
     refine wpList_nil <| x_then_n ⟨(hS.sub (.cons (le_141.trans le_149) (.rr (.rr (.zz .nn))))), ?_⟩
     refine h_done (by kernel_rfl) ?_
     replace hS : Sep w0 w_152 [_, _, _, _, _, _, _] Z := hS
     replace h : Fr 60 a [(0, _), (2, .pointer (some ⟨g_2, 0, none⟩)), (4, .pointer (some ⟨g_151, 0, none⟩))] := h.keep [0, 2, 4]
     exact x_then_n (hJ_j_31 (⟨w64 ((Int.tmod (band .i64 x0 31) 13) + 0), band .i64 (shr .i64 x0 8) 7, t_63, t_9, t_75⟩ : api_Cmd) H _ _ ⟨v_142, v_16, v_146, g_151, N_149, h, (Sep.sel hS [0, 1, 1001, 1002, 6] (by decide)), (le_141.trans le_149), ((hr_143.mono ln_141).mono le_149), ((hr_18.mono lo_19).mono (le_141.trans le_149)), (hr_148.mono lo_149)⟩)
    ·refine ⟨_, (bA 21 655359), rfl, by kernel_rfl, ?_⟩
     refine v_alloc h rfl ti25 hS fun w_153 g_154 hS' a h => ?_
     replace hS : Sep w0 w_153 [_, _, _, _, _, Mem.one g_154 (.cells ([iV 0, iV 0, nS, nS, nS] : List Value).toArray 25 (0, 0))] Z := hS'
     clear hS'
     refine wpList_nil <| x_then_n ⟨(hS.sub (.cons le_141 (.rr (.rr (.zz .nn))))), ?_⟩
     refine h_event 17 (bA 21 786431) rfl (by kernel_rfl) (by kernel_rfl) <| s_s2b h rfl U9 U23 U5 rfl (must_some eu_80) hS fun w_156 v_157 M_158 hS' hr_159 a h => ?_
     obtain ⟨N_160, hS'', le_160, lo_160⟩ := Sep.freeze (l := [Mem.one g_2 (.cells ([iV 0, iV 0, nS, nS, nS] : List Value).toArray 25 (0, 0)), M_5, Mem.no, M_129, Mem.one g_154 (.cells ([iV 0, iV 0, nS, nS, nS] : List Value).toArray 25 (0, 0)), M_158]) hS' 5 rfl
     replace hS : Sep w0 w_156 [N_160, _, _, _, _, _, Mem.no] Z := hS''
     clear hS' hS''
     refine wpList_nil <| x_then_n ⟨(hS.sub (.cons (le_141.trans le_160) (.rr (.rr (.zz .nn))))), ?_⟩
     refine t_take 18 (bA 21 1048575) rfl rfl rfl rfl h (hS.sub (.cons (le_141.trans le_160) (.rr (.rr (.zz .nn))))) (v := .agg ([iV (w64 ((Int.tmod (band .i64 x0 31) 13) + 0)), iV (band .i64 (shr .i64 x0 8) 7), v_142, v_16, v_157] : List Value).toArray) (fun w hS => r_build h ti25 pl25 rfl (.cons rfl (.cons rfl (.cons (hr_143.mono ln_141).cells (.cons (hr_18.mono lo_19).cells (.cons (hr_159.mono lo_160).cells .nil))))) (cs := [iV (w64 ((Int.tmod (band .i64 x0 31) 13) + 0)), iV (band .i64 (shr .i64 x0 8) 7), v_142, v_16, v_157]) (by kernel_rfl)) fun a h=>h_event 20 (bA 21 2097151) rfl (by kernel_rfl) (by kernel_rfl) ?_
     obtain ⟨w_161, hs', hS'⟩ := hS.store (P := Try.prog) (p := 5) (o := 0) (t := 25) (v := .agg ([iV (w64 ((Int.tmod (band .i64 x0 31) 13) + 0)), iV (band .i64 (shr .i64 x0 8) 7), v_142, v_16, v_157] : List Value).toArray) (vs := [iV (w64 ((Int.tmod (band .i64 x0 31) 13) + 0)), iV (band .i64 (shr .i64 x0 8) 7), v_142, v_16, v_157]) rfl ti25 rfl rfl rfl (by intro u hu; simp only [List.mem_cons, List.not_mem_nil, or_false] at hu; rcases hu with rfl | rfl | rfl | rfl | rfl <;> first | rfl | exact (hr_143.mono ln_141).one | exact (hr_18.mono lo_19).one | exact (hr_159.mono lo_160).one)
     refine s_store h rfl rfl hs' ?_
     replace hS : Sep w0 w_161 [_, _, _, _, _, Mem.one g_154 (.cells ([iV (w64 ((Int.tmod (band .i64 x0 31) 13) + 0)), iV (band .i64 (shr .i64 x0 8) 7), v_142, v_16, v_157] : List Value).toArray 25 (0, 0)), _] Z := hS'
     clear hs' hS'
     refine wpList_nil <| x_then_n ⟨(hS.sub (.cons (le_141.trans le_160) (.rr (.rr (.zz .nn))))), ?_⟩
     refine h_done (by kernel_rfl) ?_
     replace hS : Sep w0 w_161 [_, _, _, _, _, _, _] Z := hS
     replace h : Fr 60 a [(0, _), (2, .pointer (some ⟨g_2, 0, none⟩)), (4, .pointer (some ⟨g_154, 0, none⟩))] := h.keep [0, 2, 4]
     exact x_then_n (hJ_j_31 (⟨w64 ((Int.tmod (band .i64 x0 31) 13) + 0), band .i64 (shr .i64 x0 8) 7, t_63, t_9, t_75⟩ : api_Cmd) H _ _ ⟨v_142, v_16, v_157, g_154, N_160, h, (Sep.sel hS [0, 1, 1001, 1002, 5] (by decide)), (le_141.trans le_160), ((hr_143.mono ln_141).mono le_160), ((hr_18.mono lo_19).mono (le_141.trans le_160)), (hr_159.mono lo_160)⟩)
   ·refine ⟨_, (bA 21 589823), rfl, by kernel_rfl, ?_⟩
    refine v_alloc h rfl ti25 hS fun w_162 g_163 hS' a h => ?_
    replace hS : Sep w0 w_162 [_, _, _, _, _, Mem.one g_163 (.cells ([iV 0, iV 0, nS, nS, nS] : List Value).toArray 25 (0, 0))] Z := hS'
    clear hS'
    refine wpList_nil <| x_then_n ⟨(hS.sub (.cons le_141 (.rr (.rr (.zz .nn))))), ?_⟩
    refine h_event 16 (bA 21 655359) rfl (by kernel_rfl) (by kernel_rfl) <| s_load h rfl rfl (el_one (o := 0) (fun j c h => Mem.cell_le (hS.own 4) (hc_137 j c h)) U9 rfl rfl) fun a h=>wpList_nil <| x_then_n ⟨(hS.sub (.cons le_141 (.rr (.rr (.zz .nn))))), ?_⟩
    refine h_event 17 (bA 21 786431) rfl (by kernel_rfl) (by kernel_rfl) <| s_s2b h rfl U9 U23 U5 rfl (must_some eu_80) hS fun w_165 v_166 M_167 hS' hr_168 a h => ?_
    obtain ⟨N_169, hS'', le_169, lo_169⟩ := Sep.freeze (l := [Mem.one g_2 (.cells ([iV 0, iV 0, nS, nS, nS] : List Value).toArray 25 (0, 0)), M_5, Mem.no, M_129, Mem.one g_163 (.cells ([iV 0, iV 0, nS, nS, nS] : List Value).toArray 25 (0, 0)), M_167]) hS' 5 rfl
    replace hS : Sep w0 w_165 [N_169, _, _, _, _, _, Mem.no] Z := hS''
    clear hS' hS''
    refine wpList_nil <| x_then_n ⟨(hS.sub (.cons (le_141.trans le_169) (.rr (.rr (.zz .nn))))), ?_⟩
    refine t_take 18 (bA 21 1048575) rfl rfl rfl rfl h (hS.sub (.cons (le_141.trans le_169) (.rr (.rr (.zz .nn))))) (v := .agg ([iV (w64 ((Int.tmod (band .i64 x0 31) 13) + 0)), iV (band .i64 (shr .i64 x0 8) 7), v_142, v_16, v_166] : List Value).toArray) (fun w hS => r_build h ti25 pl25 rfl (.cons rfl (.cons rfl (.cons (hr_143.mono ln_141).cells (.cons (hr_18.mono lo_19).cells (.cons (hr_168.mono lo_169).cells .nil))))) (cs := [iV (w64 ((Int.tmod (band .i64 x0 31) 13) + 0)), iV (band .i64 (shr .i64 x0 8) 7), v_142, v_16, v_166]) (by kernel_rfl)) fun a h=>h_event 20 (bA 21 2097151) rfl (by kernel_rfl) (by kernel_rfl) ?_
    obtain ⟨w_170, hs', hS'⟩ := hS.store (P := Try.prog) (p := 5) (o := 0) (t := 25) (v := .agg ([iV (w64 ((Int.tmod (band .i64 x0 31) 13) + 0)), iV (band .i64 (shr .i64 x0 8) 7), v_142, v_16, v_166] : List Value).toArray) (vs := [iV (w64 ((Int.tmod (band .i64 x0 31) 13) + 0)), iV (band .i64 (shr .i64 x0 8) 7), v_142, v_16, v_166]) rfl ti25 rfl rfl rfl (by intro u hu; simp only [List.mem_cons, List.not_mem_nil, or_false] at hu; rcases hu with rfl | rfl | rfl | rfl | rfl <;> first | rfl | exact (hr_143.mono ln_141).one | exact (hr_18.mono lo_19).one | exact (hr_168.mono lo_169).one)
    refine s_store h rfl rfl hs' ?_
    replace hS : Sep w0 w_170 [_, _, _, _, _, Mem.one g_163 (.cells ([iV (w64 ((Int.tmod (band .i64 x0 31) 13) + 0)), iV (band .i64 (shr .i64 x0 8) 7), v_142, v_16, v_166] : List Value).toArray 25 (0, 0)), _] Z := hS'
    clear hs' hS'
    refine wpList_nil <| x_then_n ⟨(hS.sub (.cons (le_141.trans le_169) (.rr (.rr (.zz .nn))))), ?_⟩
    refine h_done (by kernel_rfl) ?_
    replace hS : Sep w0 w_170 [_, _, _, _, _, _, _] Z := hS
    replace h : Fr 60 a [(0, _), (2, .pointer (some ⟨g_2, 0, none⟩)), (4, .pointer (some ⟨g_163, 0, none⟩))] := h.keep [0, 2, 4]
    exact x_then_n (hJ_j_31 (⟨w64 ((Int.tmod (band .i64 x0 31) 13) + 0), band .i64 (shr .i64 x0 8) 7, t_63, t_9, t_75⟩ : api_Cmd) H _ _ ⟨v_142, v_16, v_166, g_163, N_169, h, (Sep.sel hS [0, 1, 1001, 1002, 5] (by decide)), (le_141.trans le_169), ((hr_143.mono ln_141).mono le_169), ((hr_18.mono lo_19).mono (le_141.trans le_169)), (hr_168.mono lo_169)⟩)
  ·refine ⟨_, (bA 21 130559), rfl, by kernel_rfl, ?_⟩
   refine s_load h rfl rfl (el_one (o := 0) (fun j c h => Mem.cell_le (hS.own 4) (hc_137 j c h)) U9 rfl rfl) fun a h=>wpList_nil <| x_then_n ⟨(hS.sub (.cons (Mem.le.refl _) (.rr (.rr (.zz .nn))))), ?_⟩
   refine h_events [9, 17, 19] (by kernel_rfl) (by simp) ?_
   intro i hi; simp only [List.mem_cons, List.not_mem_nil, or_false] at hi; rcases hi with rfl | rfl | rfl
   ·refine ⟨_, (bA 21 131071), rfl, by kernel_rfl, ?_⟩
    refine s_call h rfl Try.call71 rfl (hocketlaw7_Keys.calls (shr .i64 x0 11) t_63 w0 _ _ _ (Mem.le.refl _) (hS.enter [] (by decide))  et_63) ?_
    rintro v_175 w_172 ⟨_, N_173, rfl, hS', hr_176⟩
    intro a h
    obtain ⟨N_174, hS'', le_174, ln_174⟩ := hS.call [] (by decide) rfl (l' := []) (ow := []) rfl hS'
    replace hS : Sep w0 w_172 [N_174, _, _, _, _] Z := hS''
    clear hS' hS''
    refine wpList_nil <| x_then_n ⟨(hS.sub (.cons le_174 (.rr (.rr (.zz .nn))))), ?_⟩
    refine h_events [17, 19] (by kernel_rfl) (by simp) ?_
    intro i hi; simp only [List.mem_cons, List.not_mem_nil, or_false] at hi; rcases hi with rfl | rfl
    ·refine ⟨_, (bA 21 262143), rfl, by kernel_rfl, ?_⟩
     refine s_s2b h rfl U9 U23 U5 rfl (must_some eu_80) hS fun w_178 v_179 M_180 hS' hr_181 a h => ?_
     obtain ⟨N_182, hS'', le_182, lo_182⟩ := Sep.freeze (l := [Mem.one g_2 (.cells ([iV 0, iV 0, nS, nS, nS] : List Value).toArray 25 (0, 0)), M_5, Mem.no, M_129, M_180]) hS' 4 rfl
     replace hS : Sep w0 w_178 [N_182, _, _, _, _, Mem.no] Z := hS''
     clear hS' hS''
     refine wpList_nil <| x_then_n ⟨(hS.sub (.cons (le_174.trans le_182) (.rr (.rr (.zz .nn))))), ?_⟩
     refine t_take 18 (bA 21 524287) rfl rfl rfl rfl h (hS.sub (.cons (le_174.trans le_182) (.rr (.rr (.zz .nn))))) (v := .agg ([iV (w64 ((Int.tmod (band .i64 x0 31) 13) + 0)), iV (band .i64 (shr .i64 x0 8) 7), v_175, v_16, v_179] : List Value).toArray) (fun w hS => r_build h ti25 pl25 rfl (.cons rfl (.cons rfl (.cons (hr_176.mono ln_174).cells (.cons (hr_18.mono lo_19).cells (.cons (hr_181.mono lo_182).cells .nil))))) (cs := [iV (w64 ((Int.tmod (band .i64 x0 31) 13) + 0)), iV (band .i64 (shr .i64 x0 8) 7), v_175, v_16, v_179]) (by kernel_rfl)) fun a h=>h_event 19 (bA 21 1048575) rfl (by kernel_rfl) (by kernel_rfl) <| v_alloc h rfl ti25 hS fun w_183 g_184 hS' a h => ?_
     replace hS : Sep w0 w_183 [_, _, _, _, _, _, Mem.one g_184 (.cells ([iV 0, iV 0, nS, nS, nS] : List Value).toArray 25 (0, 0))] Z := hS'
     clear hS'
     refine wpList_nil <| x_then_n ⟨(hS.sub (.cons (le_174.trans le_182) (.rr (.rr (.zz .nn))))), ?_⟩
     refine h_event 20 (bA 21 2097151) rfl (by kernel_rfl) (by kernel_rfl) ?_
     obtain ⟨w_185, hs', hS'⟩ := hS.store (P := Try.prog) (p := 6) (o := 0) (t := 25) (v := .agg ([iV (w64 ((Int.tmod (band .i64 x0 31) 13) + 0)), iV (band .i64 (shr .i64 x0 8) 7), v_175, v_16, v_179] : List Value).toArray) (vs := [iV (w64 ((Int.tmod (band .i64 x0 31) 13) + 0)), iV (band .i64 (shr .i64 x0 8) 7), v_175, v_16, v_179]) rfl ti25 rfl rfl rfl (by intro u hu; simp only [List.mem_cons, List.not_mem_nil, or_false] at hu; rcases hu with rfl | rfl | rfl | rfl | rfl <;> first | rfl | exact (hr_176.mono ln_174).one | exact (hr_18.mono lo_19).one | exact (hr_181.mono lo_182).one)
     refine s_store h rfl rfl hs' ?_
     replace hS : Sep w0 w_185 [_, _, _, _, _, _, Mem.one g_184 (.cells ([iV (w64 ((Int.tmod (band .i64 x0 31) 13) + 0)), iV (band .i64 (shr .i64 x0 8) 7), v_175, v_16, v_179] : List Value).toArray 25 (0, 0))] Z := hS'
     clear hs' hS'
     refine wpList_nil <| x_then_n ⟨(hS.sub (.cons (le_174.trans le_182) (.rr (.rr (.zz .nn))))), ?_⟩
     refine h_done (by kernel_rfl) ?_
     replace hS : Sep w0 w_185 [_, _, _, _, _, _, _] Z := hS
     replace h : Fr 60 a [(0, _), (2, .pointer (some ⟨g_2, 0, none⟩)), (4, .pointer (some ⟨g_184, 0, none⟩))] := h.keep [0, 2, 4]
     exact x_then_n (hJ_j_31 (⟨w64 ((Int.tmod (band .i64 x0 31) 13) + 0), band .i64 (shr .i64 x0 8) 7, t_63, t_9, t_75⟩ : api_Cmd) H _ _ ⟨v_175, v_16, v_179, g_184, N_182, h, (Sep.sel hS [0, 1, 1001, 1002, 6] (by decide)), (le_174.trans le_182), ((hr_176.mono ln_174).mono le_182), ((hr_18.mono lo_19).mono (le_174.trans le_182)), (hr_181.mono lo_182)⟩)
    ·refine ⟨_, (bA 21 655359), rfl, by kernel_rfl, ?_⟩
     refine v_alloc h rfl ti25 hS fun w_186 g_187 hS' a h => ?_
     replace hS : Sep w0 w_186 [_, _, _, _, _, Mem.one g_187 (.cells ([iV 0, iV 0, nS, nS, nS] : List Value).toArray 25 (0, 0))] Z := hS'
     clear hS'
     refine wpList_nil <| x_then_n ⟨(hS.sub (.cons le_174 (.rr (.rr (.zz .nn))))), ?_⟩
     refine h_event 17 (bA 21 786431) rfl (by kernel_rfl) (by kernel_rfl) <| s_s2b h rfl U9 U23 U5 rfl (must_some eu_80) hS fun w_189 v_190 M_191 hS' hr_192 a h => ?_
     obtain ⟨N_193, hS'', le_193, lo_193⟩ := Sep.freeze (l := [Mem.one g_2 (.cells ([iV 0, iV 0, nS, nS, nS] : List Value).toArray 25 (0, 0)), M_5, Mem.no, M_129, Mem.one g_187 (.cells ([iV 0, iV 0, nS, nS, nS] : List Value).toArray 25 (0, 0)), M_191]) hS' 5 rfl
     replace hS : Sep w0 w_189 [N_193, _, _, _, _, _, Mem.no] Z := hS''
     clear hS' hS''
     refine wpList_nil <| x_then_n ⟨(hS.sub (.cons (le_174.trans le_193) (.rr (.rr (.zz .nn))))), ?_⟩
     refine t_take 18 (bA 21 1048575) rfl rfl rfl rfl h (hS.sub (.cons (le_174.trans le_193) (.rr (.rr (.zz .nn))))) (v := .agg ([iV (w64 ((Int.tmod (band .i64 x0 31) 13) + 0)), iV (band .i64 (shr .i64 x0 8) 7), v_175, v_16, v_190] : List Value).toArray) (fun w hS => r_build h ti25 pl25 rfl (.cons rfl (.cons rfl (.cons (hr_176.mono ln_174).cells (.cons (hr_18.mono lo_19).cells (.cons (hr_192.mono lo_193).cells .nil))))) (cs := [iV (w64 ((Int.tmod (band .i64 x0 31) 13) + 0)), iV (band .i64 (shr .i64 x0 8) 7), v_175, v_16, v_190]) (by kernel_rfl)) fun a h=>h_event 20 (bA 21 2097151) rfl (by kernel_rfl) (by kernel_rfl) ?_
     obtain ⟨w_194, hs', hS'⟩ := hS.store (P := Try.prog) (p := 5) (o := 0) (t := 25) (v := .agg ([iV (w64 ((Int.tmod (band .i64 x0 31) 13) + 0)), iV (band .i64 (shr .i64 x0 8) 7), v_175, v_16, v_190] : List Value).toArray) (vs := [iV (w64 ((Int.tmod (band .i64 x0 31) 13) + 0)), iV (band .i64 (shr .i64 x0 8) 7), v_175, v_16, v_190]) rfl ti25 rfl rfl rfl (by intro u hu; simp only [List.mem_cons, List.not_mem_nil, or_false] at hu; rcases hu with rfl | rfl | rfl | rfl | rfl <;> first | rfl | exact (hr_176.mono ln_174).one | exact (hr_18.mono lo_19).one | exact (hr_192.mono lo_193).one)
     refine s_store h rfl rfl hs' ?_
     replace hS : Sep w0 w_194 [_, _, _, _, _, Mem.one g_187 (.cells ([iV (w64 ((Int.tmod (band .i64 x0 31) 13) + 0)), iV (band .i64 (shr .i64 x0 8) 7), v_175, v_16, v_190] : List Value).toArray 25 (0, 0)), _] Z := hS'
     clear hs' hS'
     refine wpList_nil <| x_then_n ⟨(hS.sub (.cons (le_174.trans le_193) (.rr (.rr (.zz .nn))))), ?_⟩
     refine h_done (by kernel_rfl) ?_
     replace hS : Sep w0 w_194 [_, _, _, _, _, _, _] Z := hS
     replace h : Fr 60 a [(0, _), (2, .pointer (some ⟨g_2, 0, none⟩)), (4, .pointer (some ⟨g_187, 0, none⟩))] := h.keep [0, 2, 4]
     exact x_then_n (hJ_j_31 (⟨w64 ((Int.tmod (band .i64 x0 31) 13) + 0), band .i64 (shr .i64 x0 8) 7, t_63, t_9, t_75⟩ : api_Cmd) H _ _ ⟨v_175, v_16, v_190, g_187, N_193, h, (Sep.sel hS [0, 1, 1001, 1002, 5] (by decide)), (le_174.trans le_193), ((hr_176.mono ln_174).mono le_193), ((hr_18.mono lo_19).mono (le_174.trans le_193)), (hr_192.mono lo_193)⟩)
   ·refine ⟨_, (bA 21 261631), rfl, by kernel_rfl, ?_⟩
    refine s_s2b h rfl U9 U23 U5 rfl (must_some eu_80) hS fun w_196 v_197 M_198 hS' hr_199 a h => ?_
    obtain ⟨N_200, hS'', le_200, lo_200⟩ := Sep.freeze (l := [Mem.one g_2 (.cells ([iV 0, iV 0, nS, nS, nS] : List Value).toArray 25 (0, 0)), M_5, Mem.no, M_129, M_198]) hS' 4 rfl
    replace hS : Sep w0 w_196 [N_200, _, _, _, _, Mem.no] Z := hS''
    clear hS' hS''
    refine wpList_nil <| x_then_n ⟨(hS.sub (.cons le_200 (.rr (.rr (.zz .nn))))), ?_⟩
    refine h_events [9, 19] (by kernel_rfl) (by simp) ?_
    intro i hi; simp only [List.mem_cons, List.not_mem_nil, or_false] at hi; rcases hi with rfl | rfl
    ·refine ⟨_, (bA 21 262143), rfl, by kernel_rfl, ?_⟩
     refine s_call h rfl Try.call71 rfl (hocketlaw7_Keys.calls (shr .i64 x0 11) t_63 w0 _ _ _ (Mem.le.refl _) (hS.enter [] (by decide))  et_63) ?_
     rintro v_205 w_202 ⟨_, N_203, rfl, hS', hr_206⟩
     intro a h
     obtain ⟨N_204, hS'', le_204, ln_204⟩ := hS.call [] (by decide) rfl (l' := []) (ow := []) rfl hS'
     replace hS : Sep w0 w_202 [N_204, _, _, _, _, _] Z := hS''
     clear hS' hS''
     refine wpList_nil <| x_then_n ⟨(hS.sub (.cons (le_200.trans le_204) (.rr (.rr (.zz .nn))))), ?_⟩
     refine t_take 18 (bA 21 524287) rfl rfl rfl rfl h (hS.sub (.cons (le_200.trans le_204) (.rr (.rr (.zz .nn))))) (v := .agg ([iV (w64 ((Int.tmod (band .i64 x0 31) 13) + 0)), iV (band .i64 (shr .i64 x0 8) 7), v_205, v_16, v_197] : List Value).toArray) (fun w hS => r_build h ti25 pl25 rfl (.cons rfl (.cons rfl (.cons (hr_206.mono ln_204).cells (.cons (hr_18.mono lo_19).cells (.cons (hr_199.mono lo_200).cells .nil))))) (cs := [iV (w64 ((Int.tmod (band .i64 x0 31) 13) + 0)), iV (band .i64 (shr .i64 x0 8) 7), v_205, v_16, v_197]) (by kernel_rfl)) fun a h=>h_event 19 (bA 21 1048575) rfl (by kernel_rfl) (by kernel_rfl) <| v_alloc h rfl ti25 hS fun w_207 g_208 hS' a h => ?_
     replace hS : Sep w0 w_207 [_, _, _, _, _, _, Mem.one g_208 (.cells ([iV 0, iV 0, nS, nS, nS] : List Value).toArray 25 (0, 0))] Z := hS'
     clear hS'
     refine wpList_nil <| x_then_n ⟨(hS.sub (.cons (le_200.trans le_204) (.rr (.rr (.zz .nn))))), ?_⟩
     refine h_event 20 (bA 21 2097151) rfl (by kernel_rfl) (by kernel_rfl) ?_
     obtain ⟨w_209, hs', hS'⟩ := hS.store (P := Try.prog) (p := 6) (o := 0) (t := 25) (v := .agg ([iV (w64 ((Int.tmod (band .i64 x0 31) 13) + 0)), iV (band .i64 (shr .i64 x0 8) 7), v_205, v_16, v_197] : List Value).toArray) (vs := [iV (w64 ((Int.tmod (band .i64 x0 31) 13) + 0)), iV (band .i64 (shr .i64 x0 8) 7), v_205, v_16, v_197]) rfl ti25 rfl rfl rfl (by intro u hu; simp only [List.mem_cons, List.not_mem_nil, or_false] at hu; rcases hu with rfl | rfl | rfl | rfl | rfl <;> first | rfl | exact (hr_206.mono ln_204).one | exact (hr_18.mono lo_19).one | exact (hr_199.mono lo_200).one)
     refine s_store h rfl rfl hs' ?_
     replace hS : Sep w0 w_209 [_, _, _, _, _, _, Mem.one g_208 (.cells ([iV (w64 ((Int.tmod (band .i64 x0 31) 13) + 0)), iV (band .i64 (shr .i64 x0 8) 7), v_205, v_16, v_197] : List Value).toArray 25 (0, 0))] Z := hS'
     clear hs' hS'
     refine wpList_nil <| x_then_n ⟨(hS.sub (.cons (le_200.trans le_204) (.rr (.rr (.zz .nn))))), ?_⟩
     refine h_done (by kernel_rfl) ?_
     replace hS : Sep w0 w_209 [_, _, _, _, _, _, _] Z := hS
     replace h : Fr 60 a [(0, _), (2, .pointer (some ⟨g_2, 0, none⟩)), (4, .pointer (some ⟨g_208, 0, none⟩))] := h.keep [0, 2, 4]
     exact x_then_n (hJ_j_31 (⟨w64 ((Int.tmod (band .i64 x0 31) 13) + 0), band .i64 (shr .i64 x0 8) 7, t_63, t_9, t_75⟩ : api_Cmd) H _ _ ⟨v_205, v_16, v_197, g_208, N_204, h, (Sep.sel hS [0, 1, 1001, 1002, 6] (by decide)), (le_200.trans le_204), (hr_206.mono ln_204), ((hr_18.mono lo_19).mono (le_200.trans le_204)), ((hr_199.mono lo_200).mono le_204)⟩)
    ·refine ⟨_, (bA 21 785919), rfl, by kernel_rfl, ?_⟩
     refine v_alloc h rfl ti25 hS fun w_210 g_211 hS' a h => ?_
     replace hS : Sep w0 w_210 [_, _, _, _, _, _, Mem.one g_211 (.cells ([iV 0, iV 0, nS, nS, nS] : List Value).toArray 25 (0, 0))] Z := hS'
     clear hS'
     refine wpList_nil <| x_then_n ⟨(hS.sub (.cons le_200 (.rr (.rr (.zz .nn))))), ?_⟩
     refine h_event 9 (bA 21 786431) rfl (by kernel_rfl) (by kernel_rfl) <| s_call h rfl Try.call71 rfl (hocketlaw7_Keys.calls (shr .i64 x0 11) t_63 w0 _ _ _ (Mem.le.refl _) (hS.enter [] (by decide))  et_63) ?_
     rintro v_216 w_213 ⟨_, N_214, rfl, hS', hr_217⟩
     intro a h
     obtain ⟨N_215, hS'', le_215, ln_215⟩ := hS.call [] (by decide) rfl (l' := []) (ow := []) rfl hS'
     replace hS : Sep w0 w_213 [N_215, _, _, _, _, _, _] Z := hS''
     clear hS' hS''
     refine wpList_nil <| x_then_n ⟨(hS.sub (.cons (le_200.trans le_215) (.rr (.rr (.zz .nn))))), ?_⟩
     refine t_take 18 (bA 21 1048575) rfl rfl rfl rfl h (hS.sub (.cons (le_200.trans le_215) (.rr (.rr (.zz .nn))))) (v := .agg ([iV (w64 ((Int.tmod (band .i64 x0 31) 13) + 0)), iV (band .i64 (shr .i64 x0 8) 7), v_216, v_16, v_197] : List Value).toArray) (fun w hS => r_build h ti25 pl25 rfl (.cons rfl (.cons rfl (.cons (hr_217.mono ln_215).cells (.cons (hr_18.mono lo_19).cells (.cons (hr_199.mono lo_200).cells .nil))))) (cs := [iV (w64 ((Int.tmod (band .i64 x0 31) 13) + 0)), iV (band .i64 (shr .i64 x0 8) 7), v_216, v_16, v_197]) (by kernel_rfl)) fun a h=>h_event 20 (bA 21 2097151) rfl (by kernel_rfl) (by kernel_rfl) ?_
     obtain ⟨w_218, hs', hS'⟩ := hS.store (P := Try.prog) (p := 6) (o := 0) (t := 25) (v := .agg ([iV (w64 ((Int.tmod (band .i64 x0 31) 13) + 0)), iV (band .i64 (shr .i64 x0 8) 7), v_216, v_16, v_197] : List Value).toArray) (vs := [iV (w64 ((Int.tmod (band .i64 x0 31) 13) + 0)), iV (band .i64 (shr .i64 x0 8) 7), v_216, v_16, v_197]) rfl ti25 rfl rfl rfl (by intro u hu; simp only [List.mem_cons, List.not_mem_nil, or_false] at hu; rcases hu with rfl | rfl | rfl | rfl | rfl <;> first | rfl | exact (hr_217.mono ln_215).one | exact (hr_18.mono lo_19).one | exact (hr_199.mono lo_200).one)
     refine s_store h rfl rfl hs' ?_
     replace hS : Sep w0 w_218 [_, _, _, _, _, _, Mem.one g_211 (.cells ([iV (w64 ((Int.tmod (band .i64 x0 31) 13) + 0)), iV (band .i64 (shr .i64 x0 8) 7), v_216, v_16, v_197] : List Value).toArray 25 (0, 0))] Z := hS'
     clear hs' hS'
     refine wpList_nil <| x_then_n ⟨(hS.sub (.cons (le_200.trans le_215) (.rr (.rr (.zz .nn))))), ?_⟩
     refine h_done (by kernel_rfl) ?_
     replace hS : Sep w0 w_218 [_, _, _, _, _, _, _] Z := hS
     replace h : Fr 60 a [(0, _), (2, .pointer (some ⟨g_2, 0, none⟩)), (4, .pointer (some ⟨g_211, 0, none⟩))] := h.keep [0, 2, 4]
     exact x_then_n (hJ_j_31 (⟨w64 ((Int.tmod (band .i64 x0 31) 13) + 0), band .i64 (shr .i64 x0 8) 7, t_63, t_9, t_75⟩ : api_Cmd) H _ _ ⟨v_216, v_16, v_197, g_211, N_215, h, (Sep.sel hS [0, 1, 1001, 1002, 6] (by decide)), (le_200.trans le_215), (hr_217.mono ln_215), ((hr_18.mono lo_19).mono (le_200.trans le_215)), ((hr_199.mono lo_200).mono le_215)⟩)
   ·refine ⟨_, (bA 21 654847), rfl, by kernel_rfl, ?_⟩
    refine v_alloc h rfl ti25 hS fun w_219 g_220 hS' a h => ?_
    replace hS : Sep w0 w_219 [_, _, _, _, _, Mem.one g_220 (.cells ([iV 0, iV 0, nS, nS, nS] : List Value).toArray 25 (0, 0))] Z := hS'
    clear hS'
    refine wpList_nil <| x_then_n ⟨(hS.sub (.cons (Mem.le.refl _) (.rr (.rr (.zz .nn))))), ?_⟩
    refine h_events [9, 17] (by kernel_rfl) (by simp) ?_
    intro i hi; simp only [List.mem_cons, List.not_mem_nil, or_false] at hi; rcases hi with rfl | rfl
    ·refine ⟨_, (bA 21 655359), rfl, by kernel_rfl, ?_⟩
     refine s_call h rfl Try.call71 rfl (hocketlaw7_Keys.calls (shr .i64 x0 11) t_63 w0 _ _ _ (Mem.le.refl _) (hS.enter [] (by decide))  et_63) ?_
     rintro v_225 w_222 ⟨_, N_223, rfl, hS', hr_226⟩
     intro a h
     obtain ⟨N_224, hS'', le_224, ln_224⟩ := hS.call [] (by decide) rfl (l' := []) (ow := []) rfl hS'
     replace hS : Sep w0 w_222 [N_224, _, _, _, _, _] Z := hS''
     clear hS' hS''
     refine wpList_nil <| x_then_n ⟨(hS.sub (.cons le_224 (.rr (.rr (.zz .nn))))), ?_⟩
     refine h_event 17 (bA 21 786431) rfl (by kernel_rfl) (by kernel_rfl) <| s_s2b h rfl U9 U23 U5 rfl (must_some eu_80) hS fun w_228 v_229 M_230 hS' hr_231 a h => ?_
     obtain ⟨N_232, hS'', le_232, lo_232⟩ := Sep.freeze (l := [Mem.one g_2 (.cells ([iV 0, iV 0, nS, nS, nS] : List Value).toArray 25 (0, 0)), M_5, Mem.no, M_129, Mem.one g_220 (.cells ([iV 0, iV 0, nS, nS, nS] : List Value).toArray 25 (0, 0)), M_230]) hS' 5 rfl
     replace hS : Sep w0 w_228 [N_232, _, _, _, _, _, Mem.no] Z := hS''
     clear hS' hS''
     refine wpList_nil <| x_then_n ⟨(hS.sub (.cons (le_224.trans le_232) (.rr (.rr (.zz .nn))))), ?_⟩
     refine t_take 18 (bA 21 1048575) rfl rfl rfl rfl h (hS.sub (.cons (le_224.trans le_232) (.rr (.rr (.zz .nn))))) (v := .agg ([iV (w64 ((Int.tmod (band .i64 x0 31) 13) + 0)), iV (band .i64 (shr .i64 x0 8) 7), v_225, v_16, v_229] : List Value).toArray) (fun w hS => r_build h ti25 pl25 rfl (.cons rfl (.cons rfl (.cons (hr_226.mono ln_224).cells (.cons (hr_18.mono lo_19).cells (.cons (hr_231.mono lo_232).cells .nil))))) (cs := [iV (w64 ((Int.tmod (band .i64 x0 31) 13) + 0)), iV (band .i64 (shr .i64 x0 8) 7), v_225, v_16, v_229]) (by kernel_rfl)) fun a h=>h_event 20 (bA 21 2097151) rfl (by kernel_rfl) (by kernel_rfl) ?_
     obtain ⟨w_233, hs', hS'⟩ := hS.store (P := Try.prog) (p := 5) (o := 0) (t := 25) (v := .agg ([iV (w64 ((Int.tmod (band .i64 x0 31) 13) + 0)), iV (band .i64 (shr .i64 x0 8) 7), v_225, v_16, v_229] : List Value).toArray) (vs := [iV (w64 ((Int.tmod (band .i64 x0 31) 13) + 0)), iV (band .i64 (shr .i64 x0 8) 7), v_225, v_16, v_229]) rfl ti25 rfl rfl rfl (by intro u hu; simp only [List.mem_cons, List.not_mem_nil, or_false] at hu; rcases hu with rfl | rfl | rfl | rfl | rfl <;> first | rfl | exact (hr_226.mono ln_224).one | exact (hr_18.mono lo_19).one | exact (hr_231.mono lo_232).one)
     refine s_store h rfl rfl hs' ?_
     replace hS : Sep w0 w_233 [_, _, _, _, _, Mem.one g_220 (.cells ([iV (w64 ((Int.tmod (band .i64 x0 31) 13) + 0)), iV (band .i64 (shr .i64 x0 8) 7), v_225, v_16, v_229] : List Value).toArray 25 (0, 0)), _] Z := hS'
     clear hs' hS'
     refine wpList_nil <| x_then_n ⟨(hS.sub (.cons (le_224.trans le_232) (.rr (.rr (.zz .nn))))), ?_⟩
     refine h_done (by kernel_rfl) ?_
     replace hS : Sep w0 w_233 [_, _, _, _, _, _, _] Z := hS
     replace h : Fr 60 a [(0, _), (2, .pointer (some ⟨g_2, 0, none⟩)), (4, .pointer (some ⟨g_220, 0, none⟩))] := h.keep [0, 2, 4]
     exact x_then_n (hJ_j_31 (⟨w64 ((Int.tmod (band .i64 x0 31) 13) + 0), band .i64 (shr .i64 x0 8) 7, t_63, t_9, t_75⟩ : api_Cmd) H _ _ ⟨v_225, v_16, v_229, g_220, N_232, h, (Sep.sel hS [0, 1, 1001, 1002, 5] (by decide)), (le_224.trans le_232), ((hr_226.mono ln_224).mono le_232), ((hr_18.mono lo_19).mono (le_224.trans le_232)), (hr_231.mono lo_232)⟩)
    ·refine ⟨_, (bA 21 785919), rfl, by kernel_rfl, ?_⟩
     refine s_s2b h rfl U9 U23 U5 rfl (must_some eu_80) hS fun w_235 v_236 M_237 hS' hr_238 a h => ?_
     obtain ⟨N_239, hS'', le_239, lo_239⟩ := Sep.freeze (l := [Mem.one g_2 (.cells ([iV 0, iV 0, nS, nS, nS] : List Value).toArray 25 (0, 0)), M_5, Mem.no, M_129, Mem.one g_220 (.cells ([iV 0, iV 0, nS, nS, nS] : List Value).toArray 25 (0, 0)), M_237]) hS' 5 rfl
     replace hS : Sep w0 w_235 [N_239, _, _, _, _, _, Mem.no] Z := hS''
     clear hS' hS''
     refine wpList_nil <| x_then_n ⟨(hS.sub (.cons le_239 (.rr (.rr (.zz .nn))))), ?_⟩
     refine h_event 9 (bA 21 786431) rfl (by kernel_rfl) (by kernel_rfl) <| s_call h rfl Try.call71 rfl (hocketlaw7_Keys.calls (shr .i64 x0 11) t_63 w0 _ _ _ (Mem.le.refl _) (hS.enter [] (by decide))  et_63) ?_
     rintro v_244 w_241 ⟨_, N_242, rfl, hS', hr_245⟩
     intro a h
     obtain ⟨N_243, hS'', le_243, ln_243⟩ := hS.call [] (by decide) rfl (l' := []) (ow := []) rfl hS'
     replace hS : Sep w0 w_241 [N_243, _, _, _, _, _, _] Z := hS''
     clear hS' hS''
     refine wpList_nil <| x_then_n ⟨(hS.sub (.cons (le_239.trans le_243) (.rr (.rr (.zz .nn))))), ?_⟩
     refine t_take 18 (bA 21 1048575) rfl rfl rfl rfl h (hS.sub (.cons (le_239.trans le_243) (.rr (.rr (.zz .nn))))) (v := .agg ([iV (w64 ((Int.tmod (band .i64 x0 31) 13) + 0)), iV (band .i64 (shr .i64 x0 8) 7), v_244, v_16, v_236] : List Value).toArray) (fun w hS => r_build h ti25 pl25 rfl (.cons rfl (.cons rfl (.cons (hr_245.mono ln_243).cells (.cons (hr_18.mono lo_19).cells (.cons (hr_238.mono lo_239).cells .nil))))) (cs := [iV (w64 ((Int.tmod (band .i64 x0 31) 13) + 0)), iV (band .i64 (shr .i64 x0 8) 7), v_244, v_16, v_236]) (by kernel_rfl)) fun a h=>h_event 20 (bA 21 2097151) rfl (by kernel_rfl) (by kernel_rfl) ?_
     obtain ⟨w_246, hs', hS'⟩ := hS.store (P := Try.prog) (p := 5) (o := 0) (t := 25) (v := .agg ([iV (w64 ((Int.tmod (band .i64 x0 31) 13) + 0)), iV (band .i64 (shr .i64 x0 8) 7), v_244, v_16, v_236] : List Value).toArray) (vs := [iV (w64 ((Int.tmod (band .i64 x0 31) 13) + 0)), iV (band .i64 (shr .i64 x0 8) 7), v_244, v_16, v_236]) rfl ti25 rfl rfl rfl (by intro u hu; simp only [List.mem_cons, List.not_mem_nil, or_false] at hu; rcases hu with rfl | rfl | rfl | rfl | rfl <;> first | rfl | exact (hr_245.mono ln_243).one | exact (hr_18.mono lo_19).one | exact (hr_238.mono lo_239).one)
     refine s_store h rfl rfl hs' ?_
     replace hS : Sep w0 w_246 [_, _, _, _, _, Mem.one g_220 (.cells ([iV (w64 ((Int.tmod (band .i64 x0 31) 13) + 0)), iV (band .i64 (shr .i64 x0 8) 7), v_244, v_16, v_236] : List Value).toArray 25 (0, 0)), _] Z := hS'
     clear hs' hS'
     refine wpList_nil <| x_then_n ⟨(hS.sub (.cons (le_239.trans le_243) (.rr (.rr (.zz .nn))))), ?_⟩
     refine h_done (by kernel_rfl) ?_
     replace hS : Sep w0 w_246 [_, _, _, _, _, _, _] Z := hS
     replace h : Fr 60 a [(0, _), (2, .pointer (some ⟨g_2, 0, none⟩)), (4, .pointer (some ⟨g_220, 0, none⟩))] := h.keep [0, 2, 4]
     exact x_then_n (hJ_j_31 (⟨w64 ((Int.tmod (band .i64 x0 31) 13) + 0), band .i64 (shr .i64 x0 8) 7, t_63, t_9, t_75⟩ : api_Cmd) H _ _ ⟨v_244, v_16, v_236, g_220, N_243, h, (Sep.sel hS [0, 1, 1001, 1002, 5] (by decide)), (le_239.trans le_243), (hr_245.mono ln_243), ((hr_18.mono lo_19).mono (le_239.trans le_243)), ((hr_238.mono lo_239).mono le_243)⟩)
  ·refine ⟨_, (bA 21 589311), rfl, by kernel_rfl, ?_⟩
   refine v_alloc h rfl ti25 hS fun w_247 g_248 hS' a h => ?_
   replace hS : Sep w0 w_247 [_, _, _, _, _, Mem.one g_248 (.cells ([iV 0, iV 0, nS, nS, nS] : List Value).toArray 25 (0, 0))] Z := hS'
   clear hS'
   refine wpList_nil <| x_then_n ⟨(hS.sub (.cons (Mem.le.refl _) (.rr (.rr (.zz .nn))))), ?_⟩
   refine h_events [9, 16] (by kernel_rfl) (by simp) ?_
   intro i hi; simp only [List.mem_cons, List.not_mem_nil, or_false] at hi; rcases hi with rfl | rfl
   ·refine ⟨_, (bA 21 589823), rfl, by kernel_rfl, ?_⟩
    refine s_call h rfl Try.call71 rfl (hocketlaw7_Keys.calls (shr .i64 x0 11) t_63 w0 _ _ _ (Mem.le.refl _) (hS.enter [] (by decide))  et_63) ?_
    rintro v_253 w_250 ⟨_, N_251, rfl, hS', hr_254⟩
    intro a h
    obtain ⟨N_252, hS'', le_252, ln_252⟩ := hS.call [] (by decide) rfl (l' := []) (ow := []) rfl hS'
    replace hS : Sep w0 w_250 [N_252, _, _, _, _, _] Z := hS''
    clear hS' hS''
    refine wpList_nil <| x_then_n ⟨(hS.sub (.cons le_252 (.rr (.rr (.zz .nn))))), ?_⟩
    refine h_event 16 (bA 21 655359) rfl (by kernel_rfl) (by kernel_rfl) <| s_load h rfl rfl (el_one (o := 0) (fun j c h => Mem.cell_le (hS.own 4) (hc_137 j c h)) U9 rfl rfl) fun a h=>wpList_nil <| x_then_n ⟨(hS.sub (.cons le_252 (.rr (.rr (.zz .nn))))), ?_⟩
    refine h_event 17 (bA 21 786431) rfl (by kernel_rfl) (by kernel_rfl) <| s_s2b h rfl U9 U23 U5 rfl (must_some eu_80) hS fun w_256 v_257 M_258 hS' hr_259 a h => ?_
    obtain ⟨N_260, hS'', le_260, lo_260⟩ := Sep.freeze (l := [Mem.one g_2 (.cells ([iV 0, iV 0, nS, nS, nS] : List Value).toArray 25 (0, 0)), M_5, Mem.no, M_129, Mem.one g_248 (.cells ([iV 0, iV 0, nS, nS, nS] : List Value).toArray 25 (0, 0)), M_258]) hS' 5 rfl
    replace hS : Sep w0 w_256 [N_260, _, _, _, _, _, Mem.no] Z := hS''
    clear hS' hS''
    refine wpList_nil <| x_then_n ⟨(hS.sub (.cons (le_252.trans le_260) (.rr (.rr (.zz .nn))))), ?_⟩
    refine t_take 18 (bA 21 1048575) rfl rfl rfl rfl h (hS.sub (.cons (le_252.trans le_260) (.rr (.rr (.zz .nn))))) (v := .agg ([iV (w64 ((Int.tmod (band .i64 x0 31) 13) + 0)), iV (band .i64 (shr .i64 x0 8) 7), v_253, v_16, v_257] : List Value).toArray) (fun w hS => r_build h ti25 pl25 rfl (.cons rfl (.cons rfl (.cons (hr_254.mono ln_252).cells (.cons (hr_18.mono lo_19).cells (.cons (hr_259.mono lo_260).cells .nil))))) (cs := [iV (w64 ((Int.tmod (band .i64 x0 31) 13) + 0)), iV (band .i64 (shr .i64 x0 8) 7), v_253, v_16, v_257]) (by kernel_rfl)) fun a h=>h_event 20 (bA 21 2097151) rfl (by kernel_rfl) (by kernel_rfl) ?_
    obtain ⟨w_261, hs', hS'⟩ := hS.store (P := Try.prog) (p := 5) (o := 0) (t := 25) (v := .agg ([iV (w64 ((Int.tmod (band .i64 x0 31) 13) + 0)), iV (band .i64 (shr .i64 x0 8) 7), v_253, v_16, v_257] : List Value).toArray) (vs := [iV (w64 ((Int.tmod (band .i64 x0 31) 13) + 0)), iV (band .i64 (shr .i64 x0 8) 7), v_253, v_16, v_257]) rfl ti25 rfl rfl rfl (by intro u hu; simp only [List.mem_cons, List.not_mem_nil, or_false] at hu; rcases hu with rfl | rfl | rfl | rfl | rfl <;> first | rfl | exact (hr_254.mono ln_252).one | exact (hr_18.mono lo_19).one | exact (hr_259.mono lo_260).one)
    refine s_store h rfl rfl hs' ?_
    replace hS : Sep w0 w_261 [_, _, _, _, _, Mem.one g_248 (.cells ([iV (w64 ((Int.tmod (band .i64 x0 31) 13) + 0)), iV (band .i64 (shr .i64 x0 8) 7), v_253, v_16, v_257] : List Value).toArray 25 (0, 0)), _] Z := hS'
    clear hs' hS'
    refine wpList_nil <| x_then_n ⟨(hS.sub (.cons (le_252.trans le_260) (.rr (.rr (.zz .nn))))), ?_⟩
    refine h_done (by kernel_rfl) ?_
    replace hS : Sep w0 w_261 [_, _, _, _, _, _, _] Z := hS
    replace h : Fr 60 a [(0, _), (2, .pointer (some ⟨g_2, 0, none⟩)), (4, .pointer (some ⟨g_248, 0, none⟩))] := h.keep [0, 2, 4]
    exact x_then_n (hJ_j_31 (⟨w64 ((Int.tmod (band .i64 x0 31) 13) + 0), band .i64 (shr .i64 x0 8) 7, t_63, t_9, t_75⟩ : api_Cmd) H _ _ ⟨v_253, v_16, v_257, g_248, N_260, h, (Sep.sel hS [0, 1, 1001, 1002, 5] (by decide)), (le_252.trans le_260), ((hr_254.mono ln_252).mono le_260), ((hr_18.mono lo_19).mono (le_252.trans le_260)), (hr_259.mono lo_260)⟩)
   ·refine ⟨_, (bA 21 654847), rfl, by kernel_rfl, ?_⟩
    refine s_load h rfl rfl (el_one (o := 0) (fun j c h => Mem.cell_le (hS.own 4) (hc_137 j c h)) U9 rfl rfl) fun a h=>wpList_nil <| x_then_n ⟨(hS.sub (.cons (Mem.le.refl _) (.rr (.rr (.zz .nn))))), ?_⟩
    refine h_events [9, 17] (by kernel_rfl) (by simp) ?_
    intro i hi; simp only [List.mem_cons, List.not_mem_nil, or_false] at hi; rcases hi with rfl | rfl
    ·refine ⟨_, (bA 21 655359), rfl, by kernel_rfl, ?_⟩
     refine s_call h rfl Try.call71 rfl (hocketlaw7_Keys.calls (shr .i64 x0 11) t_63 w0 _ _ _ (Mem.le.refl _) (hS.enter [] (by decide))  et_63) ?_
     rintro v_266 w_263 ⟨_, N_264, rfl, hS', hr_267⟩
     intro a h
     obtain ⟨N_265, hS'', le_265, ln_265⟩ := hS.call [] (by decide) rfl (l' := []) (ow := []) rfl hS'
     replace hS : Sep w0 w_263 [N_265, _, _, _, _, _] Z := hS''
     clear hS' hS''
     refine wpList_nil <| x_then_n ⟨(hS.sub (.cons le_265 (.rr (.rr (.zz .nn))))), ?_⟩
     refine h_event 17 (bA 21 786431) rfl (by kernel_rfl) (by kernel_rfl) <| s_s2b h rfl U9 U23 U5 rfl (must_some eu_80) hS fun w_269 v_270 M_271 hS' hr_272 a h => ?_
     obtain ⟨N_273, hS'', le_273, lo_273⟩ := Sep.freeze (l := [Mem.one g_2 (.cells ([iV 0, iV 0, nS, nS, nS] : List Value).toArray 25 (0, 0)), M_5, Mem.no, M_129, Mem.one g_248 (.cells ([iV 0, iV 0, nS, nS, nS] : List Value).toArray 25 (0, 0)), M_271]) hS' 5 rfl
     replace hS : Sep w0 w_269 [N_273, _, _, _, _, _, Mem.no] Z := hS''
     clear hS' hS''
     refine wpList_nil <| x_then_n ⟨(hS.sub (.cons (le_265.trans le_273) (.rr (.rr (.zz .nn))))), ?_⟩
     refine t_take 18 (bA 21 1048575) rfl rfl rfl rfl h (hS.sub (.cons (le_265.trans le_273) (.rr (.rr (.zz .nn))))) (v := .agg ([iV (w64 ((Int.tmod (band .i64 x0 31) 13) + 0)), iV (band .i64 (shr .i64 x0 8) 7), v_266, v_16, v_270] : List Value).toArray) (fun w hS => r_build h ti25 pl25 rfl (.cons rfl (.cons rfl (.cons (hr_267.mono ln_265).cells (.cons (hr_18.mono lo_19).cells (.cons (hr_272.mono lo_273).cells .nil))))) (cs := [iV (w64 ((Int.tmod (band .i64 x0 31) 13) + 0)), iV (band .i64 (shr .i64 x0 8) 7), v_266, v_16, v_270]) (by kernel_rfl)) fun a h=>h_event 20 (bA 21 2097151) rfl (by kernel_rfl) (by kernel_rfl) ?_
     obtain ⟨w_274, hs', hS'⟩ := hS.store (P := Try.prog) (p := 5) (o := 0) (t := 25) (v := .agg ([iV (w64 ((Int.tmod (band .i64 x0 31) 13) + 0)), iV (band .i64 (shr .i64 x0 8) 7), v_266, v_16, v_270] : List Value).toArray) (vs := [iV (w64 ((Int.tmod (band .i64 x0 31) 13) + 0)), iV (band .i64 (shr .i64 x0 8) 7), v_266, v_16, v_270]) rfl ti25 rfl rfl rfl (by intro u hu; simp only [List.mem_cons, List.not_mem_nil, or_false] at hu; rcases hu with rfl | rfl | rfl | rfl | rfl <;> first | rfl | exact (hr_267.mono ln_265).one | exact (hr_18.mono lo_19).one | exact (hr_272.mono lo_273).one)
     refine s_store h rfl rfl hs' ?_
     replace hS : Sep w0 w_274 [_, _, _, _, _, Mem.one g_248 (.cells ([iV (w64 ((Int.tmod (band .i64 x0 31) 13) + 0)), iV (band .i64 (shr .i64 x0 8) 7), v_266, v_16, v_270] : List Value).toArray 25 (0, 0)), _] Z := hS'
     clear hs' hS'
     refine wpList_nil <| x_then_n ⟨(hS.sub (.cons (le_265.trans le_273) (.rr (.rr (.zz .nn))))), ?_⟩
     refine h_done (by kernel_rfl) ?_
     replace hS : Sep w0 w_274 [_, _, _, _, _, _, _] Z := hS
     replace h : Fr 60 a [(0, _), (2, .pointer (some ⟨g_2, 0, none⟩)), (4, .pointer (some ⟨g_248, 0, none⟩))] := h.keep [0, 2, 4]
     exact x_then_n (hJ_j_31 (⟨w64 ((Int.tmod (band .i64 x0 31) 13) + 0), band .i64 (shr .i64 x0 8) 7, t_63, t_9, t_75⟩ : api_Cmd) H _ _ ⟨v_266, v_16, v_270, g_248, N_273, h, (Sep.sel hS [0, 1, 1001, 1002, 5] (by decide)), (le_265.trans le_273), ((hr_267.mono ln_265).mono le_273), ((hr_18.mono lo_19).mono (le_265.trans le_273)), (hr_272.mono lo_273)⟩)
    ·refine ⟨_, (bA 21 785919), rfl, by kernel_rfl, ?_⟩
     refine s_s2b h rfl U9 U23 U5 rfl (must_some eu_80) hS fun w_276 v_277 M_278 hS' hr_279 a h => ?_
     obtain ⟨N_280, hS'', le_280, lo_280⟩ := Sep.freeze (l := [Mem.one g_2 (.cells ([iV 0, iV 0, nS, nS, nS] : List Value).toArray 25 (0, 0)), M_5, Mem.no, M_129, Mem.one g_248 (.cells ([iV 0, iV 0, nS, nS, nS] : List Value).toArray 25 (0, 0)), M_278]) hS' 5 rfl
     replace hS : Sep w0 w_276 [N_280, _, _, _, _, _, Mem.no] Z := hS''
     clear hS' hS''
     refine wpList_nil <| x_then_n ⟨(hS.sub (.cons le_280 (.rr (.rr (.zz .nn))))), ?_⟩
     refine h_event 9 (bA 21 786431) rfl (by kernel_rfl) (by kernel_rfl) <| s_call h rfl Try.call71 rfl (hocketlaw7_Keys.calls (shr .i64 x0 11) t_63 w0 _ _ _ (Mem.le.refl _) (hS.enter [] (by decide))  et_63) ?_
     rintro v_285 w_282 ⟨_, N_283, rfl, hS', hr_286⟩
     intro a h
     obtain ⟨N_284, hS'', le_284, ln_284⟩ := hS.call [] (by decide) rfl (l' := []) (ow := []) rfl hS'
     replace hS : Sep w0 w_282 [N_284, _, _, _, _, _, _] Z := hS''
     clear hS' hS''
     refine wpList_nil <| x_then_n ⟨(hS.sub (.cons (le_280.trans le_284) (.rr (.rr (.zz .nn))))), ?_⟩
     refine t_take 18 (bA 21 1048575) rfl rfl rfl rfl h (hS.sub (.cons (le_280.trans le_284) (.rr (.rr (.zz .nn))))) (v := .agg ([iV (w64 ((Int.tmod (band .i64 x0 31) 13) + 0)), iV (band .i64 (shr .i64 x0 8) 7), v_285, v_16, v_277] : List Value).toArray) (fun w hS => r_build h ti25 pl25 rfl (.cons rfl (.cons rfl (.cons (hr_286.mono ln_284).cells (.cons (hr_18.mono lo_19).cells (.cons (hr_279.mono lo_280).cells .nil))))) (cs := [iV (w64 ((Int.tmod (band .i64 x0 31) 13) + 0)), iV (band .i64 (shr .i64 x0 8) 7), v_285, v_16, v_277]) (by kernel_rfl)) fun a h=>h_event 20 (bA 21 2097151) rfl (by kernel_rfl) (by kernel_rfl) ?_
     obtain ⟨w_287, hs', hS'⟩ := hS.store (P := Try.prog) (p := 5) (o := 0) (t := 25) (v := .agg ([iV (w64 ((Int.tmod (band .i64 x0 31) 13) + 0)), iV (band .i64 (shr .i64 x0 8) 7), v_285, v_16, v_277] : List Value).toArray) (vs := [iV (w64 ((Int.tmod (band .i64 x0 31) 13) + 0)), iV (band .i64 (shr .i64 x0 8) 7), v_285, v_16, v_277]) rfl ti25 rfl rfl rfl (by intro u hu; simp only [List.mem_cons, List.not_mem_nil, or_false] at hu; rcases hu with rfl | rfl | rfl | rfl | rfl <;> first | rfl | exact (hr_286.mono ln_284).one | exact (hr_18.mono lo_19).one | exact (hr_279.mono lo_280).one)
     refine s_store h rfl rfl hs' ?_
     replace hS : Sep w0 w_287 [_, _, _, _, _, Mem.one g_248 (.cells ([iV (w64 ((Int.tmod (band .i64 x0 31) 13) + 0)), iV (band .i64 (shr .i64 x0 8) 7), v_285, v_16, v_277] : List Value).toArray 25 (0, 0)), _] Z := hS'
     clear hs' hS'
     refine wpList_nil <| x_then_n ⟨(hS.sub (.cons (le_280.trans le_284) (.rr (.rr (.zz .nn))))), ?_⟩
     refine h_done (by kernel_rfl) ?_
     replace hS : Sep w0 w_287 [_, _, _, _, _, _, _] Z := hS
     replace h : Fr 60 a [(0, _), (2, .pointer (some ⟨g_2, 0, none⟩)), (4, .pointer (some ⟨g_248, 0, none⟩))] := h.keep [0, 2, 4]
     exact x_then_n (hJ_j_31 (⟨w64 ((Int.tmod (band .i64 x0 31) 13) + 0), band .i64 (shr .i64 x0 8) 7, t_63, t_9, t_75⟩ : api_Cmd) H _ _ ⟨v_285, v_16, v_277, g_248, N_284, h, (Sep.sel hS [0, 1, 1001, 1002, 5] (by decide)), (le_280.trans le_284), (hr_286.mono ln_284), ((hr_18.mono lo_19).mono (le_280.trans le_284)), ((hr_279.mono lo_280).mono le_284)⟩)
 ·refine ⟨_, (bA 21 554495), rfl, by kernel_rfl, ?_⟩
  refine v_alloc h rfl ti25 hS fun w_288 g_289 hS' a h => ?_
  replace hS : Sep w0 w_288 [_, _, _, _, Mem.one g_289 (.cells ([iV 0, iV 0, nS, nS, nS] : List Value).toArray 25 (0, 0))] Z := hS'
  clear hS'
  refine wpList_nil <| x_then_n ⟨(hS.sub (.cons (Mem.le.refl _) (.rr (.rr (.zz .nn))))), ?_⟩
  refine h_events [9, 11] (by kernel_rfl) (by simp) ?_
  intro i hi; simp only [List.mem_cons, List.not_mem_nil, or_false] at hi; rcases hi with rfl | rfl
  ·refine ⟨_, (bA 21 555007), rfl, by kernel_rfl, ?_⟩
   refine s_call h rfl Try.call71 rfl (hocketlaw7_Keys.calls (shr .i64 x0 11) t_63 w0 _ _ _ (Mem.le.refl _) (hS.enter [] (by decide))  et_63) ?_
   rintro v_294 w_291 ⟨_, N_292, rfl, hS', hr_295⟩
   intro a h
   obtain ⟨N_293, hS'', le_293, ln_293⟩ := hS.call [] (by decide) rfl (l' := []) (ow := []) rfl hS'
   replace hS : Sep w0 w_291 [N_293, _, _, _, _] Z := hS''
   clear hS' hS''
   refine wpList_nil <| x_then_n ⟨(hS.sub (.cons le_293 (.rr (.rr (.zz .nn))))), ?_⟩
   refine h_event 11 (bA 21 557055) rfl (by kernel_rfl) (by kernel_rfl) ?_
   have hq_300 : Reps Kd.str Mem.no ([([] : List UInt8), ([97] : List UInt8), ([98] : List UInt8), ([97, 98] : List UInt8)] : List (List UInt8)) _ := ((Reps.one (d := Kd.str) (x := ([] : List UInt8)) (show Kd.str.K _ _ [.string ⟨([] : List UInt8).toArray⟩] from rfl)).append ((Reps.one (d := Kd.str) (x := ([97] : List UInt8)) (show Kd.str.K _ _ [.string ⟨([97] : List UInt8).toArray⟩] from rfl)).append ((Reps.one (d := Kd.str) (x := ([98] : List UInt8)) (show Kd.str.K _ _ [.string ⟨([98] : List UInt8).toArray⟩] from rfl)).append ((Reps.one (d := Kd.str) (x := ([97, 98] : List UInt8)) (show Kd.str.K _ _ [.string ⟨([97, 98] : List UInt8).toArray⟩] from rfl)).append (Reps.nil Kd.str _)))))
   refine s_buildSlice h rfl U81 ti9 rfl rfl rfl (.cons rfl (.cons rfl (.cons rfl (.cons rfl .nil)))) rfl rfl rfl hS hq_300 rfl fun w_296 v_297 M_298 hS' ho_299 a h => ?_
   replace hS : Sep w0 w_296 [_, _, _, _, _, M_298] Z := hS'
   clear hS' hq_300
   refine wpList_nil <| x_then_n ⟨(hS.sub (.cons le_293 (.rr (.rr (.zz .nn))))), ?_⟩
   refine t_takeE 15 (bA 21 589823) rfl rfl rfl rfl h (hS.sub (.cons le_293 (.rr (.rr (.zz .nn))))) (f := fun ad => .pointer (some ad)) (r_indexO h U81 ti9 rfl rfl rfl ho_299 et_75) ?_
   rintro ad_303 ⟨cs_304, hk_305, hc_306⟩
   obtain rfl := (show cs_304 = [.string ⟨t_75.toArray⟩] from hk_305)
   intro a h
   refine h_event 16 (bA 21 655359) rfl (by kernel_rfl) (by kernel_rfl) <| s_load h rfl rfl (el_one (o := 0) (fun j c h => Mem.cell_le (hS.own 5) (hc_306 j c h)) U9 rfl rfl) fun a h=>wpList_nil <| x_then_n ⟨(hS.sub (.cons le_293 (.rr (.rr (.zz .nn))))), ?_⟩
   refine h_event 17 (bA 21 786431) rfl (by kernel_rfl) (by kernel_rfl) <| s_s2b h rfl U9 U23 U5 rfl (must_some eu_80) hS fun w_308 v_309 M_310 hS' hr_311 a h => ?_
   obtain ⟨N_312, hS'', le_312, lo_312⟩ := Sep.freeze (l := [Mem.one g_2 (.cells ([iV 0, iV 0, nS, nS, nS] : List Value).toArray 25 (0, 0)), M_5, Mem.no, Mem.one g_289 (.cells ([iV 0, iV 0, nS, nS, nS] : List Value).toArray 25 (0, 0)), M_298, M_310]) hS' 5 rfl
   replace hS : Sep w0 w_308 [N_312, _, _, _, _, _, Mem.no] Z := hS''
   clear hS' hS''
   refine wpList_nil <| x_then_n ⟨(hS.sub (.cons (le_293.trans le_312) (.rr (.rr (.zz .nn))))), ?_⟩
   refine t_take 18 (bA 21 1048575) rfl rfl rfl rfl h (hS.sub (.cons (le_293.trans le_312) (.rr (.rr (.zz .nn))))) (v := .agg ([iV (w64 ((Int.tmod (band .i64 x0 31) 13) + 0)), iV (band .i64 (shr .i64 x0 8) 7), v_294, v_16, v_309] : List Value).toArray) (fun w hS => r_build h ti25 pl25 rfl (.cons rfl (.cons rfl (.cons (hr_295.mono ln_293).cells (.cons (hr_18.mono lo_19).cells (.cons (hr_311.mono lo_312).cells .nil))))) (cs := [iV (w64 ((Int.tmod (band .i64 x0 31) 13) + 0)), iV (band .i64 (shr .i64 x0 8) 7), v_294, v_16, v_309]) (by kernel_rfl)) fun a h=>h_event 20 (bA 21 2097151) rfl (by kernel_rfl) (by kernel_rfl) ?_
   obtain ⟨w_313, hs', hS'⟩ := hS.store (P := Try.prog) (p := 4) (o := 0) (t := 25) (v := .agg ([iV (w64 ((Int.tmod (band .i64 x0 31) 13) + 0)), iV (band .i64 (shr .i64 x0 8) 7), v_294, v_16, v_309] : List Value).toArray) (vs := [iV (w64 ((Int.tmod (band .i64 x0 31) 13) + 0)), iV (band .i64 (shr .i64 x0 8) 7), v_294, v_16, v_309]) rfl ti25 rfl rfl rfl (by intro u hu; simp only [List.mem_cons, List.not_mem_nil, or_false] at hu; rcases hu with rfl | rfl | rfl | rfl | rfl <;> first | rfl | exact (hr_295.mono ln_293).one | exact (hr_18.mono lo_19).one | exact (hr_311.mono lo_312).one)
   refine s_store h rfl rfl hs' ?_
   replace hS : Sep w0 w_313 [_, _, _, _, Mem.one g_289 (.cells ([iV (w64 ((Int.tmod (band .i64 x0 31) 13) + 0)), iV (band .i64 (shr .i64 x0 8) 7), v_294, v_16, v_309] : List Value).toArray 25 (0, 0)), _, _] Z := hS'
   clear hs' hS'
   refine wpList_nil <| x_then_n ⟨(hS.sub (.cons (le_293.trans le_312) (.rr (.rr (.zz .nn))))), ?_⟩
   refine h_done (by kernel_rfl) ?_
   replace hS : Sep w0 w_313 [_, _, _, _, _, _, _] Z := hS
   replace h : Fr 60 a [(0, _), (2, .pointer (some ⟨g_2, 0, none⟩)), (4, .pointer (some ⟨g_289, 0, none⟩))] := h.keep [0, 2, 4]
   exact x_then_n (hJ_j_31 (⟨w64 ((Int.tmod (band .i64 x0 31) 13) + 0), band .i64 (shr .i64 x0 8) 7, t_63, t_9, t_75⟩ : api_Cmd) H _ _ ⟨v_294, v_16, v_309, g_289, N_312, h, (Sep.sel hS [0, 1, 1001, 1002, 4] (by decide)), (le_293.trans le_312), ((hr_295.mono ln_293).mono le_312), ((hr_18.mono lo_19).mono (le_293.trans le_312)), (hr_311.mono lo_312)⟩)
  ·refine ⟨_, (bA 21 556543), rfl, by kernel_rfl, ?_⟩
   have hq_318 : Reps Kd.str Mem.no ([([] : List UInt8), ([97] : List UInt8), ([98] : List UInt8), ([97, 98] : List UInt8)] : List (List UInt8)) _ := ((Reps.one (d := Kd.str) (x := ([] : List UInt8)) (show Kd.str.K _ _ [.string ⟨([] : List UInt8).toArray⟩] from rfl)).append ((Reps.one (d := Kd.str) (x := ([97] : List UInt8)) (show Kd.str.K _ _ [.string ⟨([97] : List UInt8).toArray⟩] from rfl)).append ((Reps.one (d := Kd.str) (x := ([98] : List UInt8)) (show Kd.str.K _ _ [.string ⟨([98] : List UInt8).toArray⟩] from rfl)).append ((Reps.one (d := Kd.str) (x := ([97, 98] : List UInt8)) (show Kd.str.K _ _ [.string ⟨([97, 98] : List UInt8).toArray⟩] from rfl)).append (Reps.nil Kd.str _)))))
   refine s_buildSlice h rfl U81 ti9 rfl rfl rfl (.cons rfl (.cons rfl (.cons rfl (.cons rfl .nil)))) rfl rfl rfl hS hq_318 rfl fun w_314 v_315 M_316 hS' ho_317 a h => ?_
   replace hS : Sep w0 w_314 [_, _, _, _, _, M_316] Z := hS'
   clear hS' hq_318
   refine wpList_nil <| x_then_n ⟨(hS.sub (.cons (Mem.le.refl _) (.rr (.rr (.zz .nn))))), ?_⟩
   refine t_takeE 15 (bA 21 589311) rfl rfl rfl rfl h (hS.sub (.cons (Mem.le.refl _) (.rr (.rr (.zz .nn))))) (f := fun ad => .pointer (some ad)) (r_indexO h U81 ti9 rfl rfl rfl ho_317 et_75) ?_
   rintro ad_321 ⟨cs_322, hk_323, hc_324⟩
   obtain rfl := (show cs_322 = [.string ⟨t_75.toArray⟩] from hk_323)
   intro a h
   refine h_events [9, 16] (by kernel_rfl) (by simp) ?_
   intro i hi; simp only [List.mem_cons, List.not_mem_nil, or_false] at hi; rcases hi with rfl | rfl
   ·refine ⟨_, (bA 21 589823), rfl, by kernel_rfl, ?_⟩
    refine s_call h rfl Try.call71 rfl (hocketlaw7_Keys.calls (shr .i64 x0 11) t_63 w0 _ _ _ (Mem.le.refl _) (hS.enter [] (by decide))  et_63) ?_
    rintro v_329 w_326 ⟨_, N_327, rfl, hS', hr_330⟩
    intro a h
    obtain ⟨N_328, hS'', le_328, ln_328⟩ := hS.call [] (by decide) rfl (l' := []) (ow := []) rfl hS'
    replace hS : Sep w0 w_326 [N_328, _, _, _, _, _] Z := hS''
    clear hS' hS''
    refine wpList_nil <| x_then_n ⟨(hS.sub (.cons le_328 (.rr (.rr (.zz .nn))))), ?_⟩
    refine h_event 16 (bA 21 655359) rfl (by kernel_rfl) (by kernel_rfl) <| s_load h rfl rfl (el_one (o := 0) (fun j c h => Mem.cell_le (hS.own 5) (hc_324 j c h)) U9 rfl rfl) fun a h=>wpList_nil <| x_then_n ⟨(hS.sub (.cons le_328 (.rr (.rr (.zz .nn))))), ?_⟩
    refine h_event 17 (bA 21 786431) rfl (by kernel_rfl) (by kernel_rfl) <| s_s2b h rfl U9 U23 U5 rfl (must_some eu_80) hS fun w_332 v_333 M_334 hS' hr_335 a h => ?_
    obtain ⟨N_336, hS'', le_336, lo_336⟩ := Sep.freeze (l := [Mem.one g_2 (.cells ([iV 0, iV 0, nS, nS, nS] : List Value).toArray 25 (0, 0)), M_5, Mem.no, Mem.one g_289 (.cells ([iV 0, iV 0, nS, nS, nS] : List Value).toArray 25 (0, 0)), M_316, M_334]) hS' 5 rfl
    replace hS : Sep w0 w_332 [N_336, _, _, _, _, _, Mem.no] Z := hS''
    clear hS' hS''
    refine wpList_nil <| x_then_n ⟨(hS.sub (.cons (le_328.trans le_336) (.rr (.rr (.zz .nn))))), ?_⟩
    refine t_take 18 (bA 21 1048575) rfl rfl rfl rfl h (hS.sub (.cons (le_328.trans le_336) (.rr (.rr (.zz .nn))))) (v := .agg ([iV (w64 ((Int.tmod (band .i64 x0 31) 13) + 0)), iV (band .i64 (shr .i64 x0 8) 7), v_329, v_16, v_333] : List Value).toArray) (fun w hS => r_build h ti25 pl25 rfl (.cons rfl (.cons rfl (.cons (hr_330.mono ln_328).cells (.cons (hr_18.mono lo_19).cells (.cons (hr_335.mono lo_336).cells .nil))))) (cs := [iV (w64 ((Int.tmod (band .i64 x0 31) 13) + 0)), iV (band .i64 (shr .i64 x0 8) 7), v_329, v_16, v_333]) (by kernel_rfl)) fun a h=>h_event 20 (bA 21 2097151) rfl (by kernel_rfl) (by kernel_rfl) ?_
    obtain ⟨w_337, hs', hS'⟩ := hS.store (P := Try.prog) (p := 4) (o := 0) (t := 25) (v := .agg ([iV (w64 ((Int.tmod (band .i64 x0 31) 13) + 0)), iV (band .i64 (shr .i64 x0 8) 7), v_329, v_16, v_333] : List Value).toArray) (vs := [iV (w64 ((Int.tmod (band .i64 x0 31) 13) + 0)), iV (band .i64 (shr .i64 x0 8) 7), v_329, v_16, v_333]) rfl ti25 rfl rfl rfl (by intro u hu; simp only [List.mem_cons, List.not_mem_nil, or_false] at hu; rcases hu with rfl | rfl | rfl | rfl | rfl <;> first | rfl | exact (hr_330.mono ln_328).one | exact (hr_18.mono lo_19).one | exact (hr_335.mono lo_336).one)
    refine s_store h rfl rfl hs' ?_
    replace hS : Sep w0 w_337 [_, _, _, _, Mem.one g_289 (.cells ([iV (w64 ((Int.tmod (band .i64 x0 31) 13) + 0)), iV (band .i64 (shr .i64 x0 8) 7), v_329, v_16, v_333] : List Value).toArray 25 (0, 0)), _, _] Z := hS'
    clear hs' hS'
    refine wpList_nil <| x_then_n ⟨(hS.sub (.cons (le_328.trans le_336) (.rr (.rr (.zz .nn))))), ?_⟩
    refine h_done (by kernel_rfl) ?_
    replace hS : Sep w0 w_337 [_, _, _, _, _, _, _] Z := hS
    replace h : Fr 60 a [(0, _), (2, .pointer (some ⟨g_2, 0, none⟩)), (4, .pointer (some ⟨g_289, 0, none⟩))] := h.keep [0, 2, 4]
    exact x_then_n (hJ_j_31 (⟨w64 ((Int.tmod (band .i64 x0 31) 13) + 0), band .i64 (shr .i64 x0 8) 7, t_63, t_9, t_75⟩ : api_Cmd) H _ _ ⟨v_329, v_16, v_333, g_289, N_336, h, (Sep.sel hS [0, 1, 1001, 1002, 4] (by decide)), (le_328.trans le_336), ((hr_330.mono ln_328).mono le_336), ((hr_18.mono lo_19).mono (le_328.trans le_336)), (hr_335.mono lo_336)⟩)
   ·refine ⟨_, (bA 21 654847), rfl, by kernel_rfl, ?_⟩
    refine s_load h rfl rfl (el_one (o := 0) (fun j c h => Mem.cell_le (hS.own 5) (hc_324 j c h)) U9 rfl rfl) fun a h=>wpList_nil <| x_then_n ⟨(hS.sub (.cons (Mem.le.refl _) (.rr (.rr (.zz .nn))))), ?_⟩
    refine h_events [9, 17] (by kernel_rfl) (by simp) ?_
    intro i hi; simp only [List.mem_cons, List.not_mem_nil, or_false] at hi; rcases hi with rfl | rfl
    ·refine ⟨_, (bA 21 655359), rfl, by kernel_rfl, ?_⟩
     refine s_call h rfl Try.call71 rfl (hocketlaw7_Keys.calls (shr .i64 x0 11) t_63 w0 _ _ _ (Mem.le.refl _) (hS.enter [] (by decide))  et_63) ?_
     rintro v_342 w_339 ⟨_, N_340, rfl, hS', hr_343⟩
     intro a h
     obtain ⟨N_341, hS'', le_341, ln_341⟩ := hS.call [] (by decide) rfl (l' := []) (ow := []) rfl hS'
     replace hS : Sep w0 w_339 [N_341, _, _, _, _, _] Z := hS''
     clear hS' hS''
     refine wpList_nil <| x_then_n ⟨(hS.sub (.cons le_341 (.rr (.rr (.zz .nn))))), ?_⟩
     refine h_event 17 (bA 21 786431) rfl (by kernel_rfl) (by kernel_rfl) <| s_s2b h rfl U9 U23 U5 rfl (must_some eu_80) hS fun w_345 v_346 M_347 hS' hr_348 a h => ?_
     obtain ⟨N_349, hS'', le_349, lo_349⟩ := Sep.freeze (l := [Mem.one g_2 (.cells ([iV 0, iV 0, nS, nS, nS] : List Value).toArray 25 (0, 0)), M_5, Mem.no, Mem.one g_289 (.cells ([iV 0, iV 0, nS, nS, nS] : List Value).toArray 25 (0, 0)), M_316, M_347]) hS' 5 rfl
     replace hS : Sep w0 w_345 [N_349, _, _, _, _, _, Mem.no] Z := hS''
     clear hS' hS''
     refine wpList_nil <| x_then_n ⟨(hS.sub (.cons (le_341.trans le_349) (.rr (.rr (.zz .nn))))), ?_⟩
     refine t_take 18 (bA 21 1048575) rfl rfl rfl rfl h (hS.sub (.cons (le_341.trans le_349) (.rr (.rr (.zz .nn))))) (v := .agg ([iV (w64 ((Int.tmod (band .i64 x0 31) 13) + 0)), iV (band .i64 (shr .i64 x0 8) 7), v_342, v_16, v_346] : List Value).toArray) (fun w hS => r_build h ti25 pl25 rfl (.cons rfl (.cons rfl (.cons (hr_343.mono ln_341).cells (.cons (hr_18.mono lo_19).cells (.cons (hr_348.mono lo_349).cells .nil))))) (cs := [iV (w64 ((Int.tmod (band .i64 x0 31) 13) + 0)), iV (band .i64 (shr .i64 x0 8) 7), v_342, v_16, v_346]) (by kernel_rfl)) fun a h=>h_event 20 (bA 21 2097151) rfl (by kernel_rfl) (by kernel_rfl) ?_
     obtain ⟨w_350, hs', hS'⟩ := hS.store (P := Try.prog) (p := 4) (o := 0) (t := 25) (v := .agg ([iV (w64 ((Int.tmod (band .i64 x0 31) 13) + 0)), iV (band .i64 (shr .i64 x0 8) 7), v_342, v_16, v_346] : List Value).toArray) (vs := [iV (w64 ((Int.tmod (band .i64 x0 31) 13) + 0)), iV (band .i64 (shr .i64 x0 8) 7), v_342, v_16, v_346]) rfl ti25 rfl rfl rfl (by intro u hu; simp only [List.mem_cons, List.not_mem_nil, or_false] at hu; rcases hu with rfl | rfl | rfl | rfl | rfl <;> first | rfl | exact (hr_343.mono ln_341).one | exact (hr_18.mono lo_19).one | exact (hr_348.mono lo_349).one)
     refine s_store h rfl rfl hs' ?_
     replace hS : Sep w0 w_350 [_, _, _, _, Mem.one g_289 (.cells ([iV (w64 ((Int.tmod (band .i64 x0 31) 13) + 0)), iV (band .i64 (shr .i64 x0 8) 7), v_342, v_16, v_346] : List Value).toArray 25 (0, 0)), _, _] Z := hS'
     clear hs' hS'
     refine wpList_nil <| x_then_n ⟨(hS.sub (.cons (le_341.trans le_349) (.rr (.rr (.zz .nn))))), ?_⟩
     refine h_done (by kernel_rfl) ?_
     replace hS : Sep w0 w_350 [_, _, _, _, _, _, _] Z := hS
     replace h : Fr 60 a [(0, _), (2, .pointer (some ⟨g_2, 0, none⟩)), (4, .pointer (some ⟨g_289, 0, none⟩))] := h.keep [0, 2, 4]
     exact x_then_n (hJ_j_31 (⟨w64 ((Int.tmod (band .i64 x0 31) 13) + 0), band .i64 (shr .i64 x0 8) 7, t_63, t_9, t_75⟩ : api_Cmd) H _ _ ⟨v_342, v_16, v_346, g_289, N_349, h, (Sep.sel hS [0, 1, 1001, 1002, 4] (by decide)), (le_341.trans le_349), ((hr_343.mono ln_341).mono le_349), ((hr_18.mono lo_19).mono (le_341.trans le_349)), (hr_348.mono lo_349)⟩)
    ·refine ⟨_, (bA 21 785919), rfl, by kernel_rfl, ?_⟩
     refine s_s2b h rfl U9 U23 U5 rfl (must_some eu_80) hS fun w_352 v_353 M_354 hS' hr_355 a h => ?_
     obtain ⟨N_356, hS'', le_356, lo_356⟩ := Sep.freeze (l := [Mem.one g_2 (.cells ([iV 0, iV 0, nS, nS, nS] : List Value).toArray 25 (0, 0)), M_5, Mem.no, Mem.one g_289 (.cells ([iV 0, iV 0, nS, nS, nS] : List Value).toArray 25 (0, 0)), M_316, M_354]) hS' 5 rfl
     replace hS : Sep w0 w_352 [N_356, _, _, _, _, _, Mem.no] Z := hS''
     clear hS' hS''
     refine wpList_nil <| x_then_n ⟨(hS.sub (.cons le_356 (.rr (.rr (.zz .nn))))), ?_⟩
     refine h_event 9 (bA 21 786431) rfl (by kernel_rfl) (by kernel_rfl) <| s_call h rfl Try.call71 rfl (hocketlaw7_Keys.calls (shr .i64 x0 11) t_63 w0 _ _ _ (Mem.le.refl _) (hS.enter [] (by decide))  et_63) ?_
     rintro v_361 w_358 ⟨_, N_359, rfl, hS', hr_362⟩
     intro a h
     obtain ⟨N_360, hS'', le_360, ln_360⟩ := hS.call [] (by decide) rfl (l' := []) (ow := []) rfl hS'
     replace hS : Sep w0 w_358 [N_360, _, _, _, _, _, _] Z := hS''
     clear hS' hS''
     refine wpList_nil <| x_then_n ⟨(hS.sub (.cons (le_356.trans le_360) (.rr (.rr (.zz .nn))))), ?_⟩
     refine t_take 18 (bA 21 1048575) rfl rfl rfl rfl h (hS.sub (.cons (le_356.trans le_360) (.rr (.rr (.zz .nn))))) (v := .agg ([iV (w64 ((Int.tmod (band .i64 x0 31) 13) + 0)), iV (band .i64 (shr .i64 x0 8) 7), v_361, v_16, v_353] : List Value).toArray) (fun w hS => r_build h ti25 pl25 rfl (.cons rfl (.cons rfl (.cons (hr_362.mono ln_360).cells (.cons (hr_18.mono lo_19).cells (.cons (hr_355.mono lo_356).cells .nil))))) (cs := [iV (w64 ((Int.tmod (band .i64 x0 31) 13) + 0)), iV (band .i64 (shr .i64 x0 8) 7), v_361, v_16, v_353]) (by kernel_rfl)) fun a h=>h_event 20 (bA 21 2097151) rfl (by kernel_rfl) (by kernel_rfl) ?_
     obtain ⟨w_363, hs', hS'⟩ := hS.store (P := Try.prog) (p := 4) (o := 0) (t := 25) (v := .agg ([iV (w64 ((Int.tmod (band .i64 x0 31) 13) + 0)), iV (band .i64 (shr .i64 x0 8) 7), v_361, v_16, v_353] : List Value).toArray) (vs := [iV (w64 ((Int.tmod (band .i64 x0 31) 13) + 0)), iV (band .i64 (shr .i64 x0 8) 7), v_361, v_16, v_353]) rfl ti25 rfl rfl rfl (by intro u hu; simp only [List.mem_cons, List.not_mem_nil, or_false] at hu; rcases hu with rfl | rfl | rfl | rfl | rfl <;> first | rfl | exact (hr_362.mono ln_360).one | exact (hr_18.mono lo_19).one | exact (hr_355.mono lo_356).one)
     refine s_store h rfl rfl hs' ?_
     replace hS : Sep w0 w_363 [_, _, _, _, Mem.one g_289 (.cells ([iV (w64 ((Int.tmod (band .i64 x0 31) 13) + 0)), iV (band .i64 (shr .i64 x0 8) 7), v_361, v_16, v_353] : List Value).toArray 25 (0, 0)), _, _] Z := hS'
     clear hs' hS'
     refine wpList_nil <| x_then_n ⟨(hS.sub (.cons (le_356.trans le_360) (.rr (.rr (.zz .nn))))), ?_⟩
     refine h_done (by kernel_rfl) ?_
     replace hS : Sep w0 w_363 [_, _, _, _, _, _, _] Z := hS
     replace h : Fr 60 a [(0, _), (2, .pointer (some ⟨g_2, 0, none⟩)), (4, .pointer (some ⟨g_289, 0, none⟩))] := h.keep [0, 2, 4]
     exact x_then_n (hJ_j_31 (⟨w64 ((Int.tmod (band .i64 x0 31) 13) + 0), band .i64 (shr .i64 x0 8) 7, t_63, t_9, t_75⟩ : api_Cmd) H _ _ ⟨v_361, v_16, v_353, g_289, N_360, h, (Sep.sel hS [0, 1, 1001, 1002, 4] (by decide)), (le_356.trans le_360), (hr_362.mono ln_360), ((hr_18.mono lo_19).mono (le_356.trans le_360)), ((hr_355.mono lo_356).mono le_360)⟩)

set_option maxHeartbeats 4000000 in
set_option maxRecDepth 20000 in
theorem hocketlaw10_Entry.calls (x0 : Int) (x1 : Int) (r : api_Entry) (w0 w : World) (Z A : Mem) (hA : A.le Z) (hS : Sep w0 w [] Z)
    (H : hocketlaw10_Entry.f x0 x1 = some r) :
    Calls Try.prog 28 [iV x0, iV x1].toArray w (Ret fun v w' => ∃ (u0 : Value) (u1 : Value) (u2 : Value) (N : Mem), v = .agg [iV r.Sess, iV r.Seq, iV r.Cmd.Kind, iV r.Cmd.Who, u0, u1, u2].toArray ∧ Sep w0 w' [N] Z ∧ Rd Kd.u8 N u0 r.Cmd.Key ∧ Rd Kd.u8 N u1 r.Cmd.Val ∧ Rd Kd.u8 N u2 r.Cmd.Old) := by
 unfold hocketlaw10_Entry.f at H
 refine f_enter _ Try.func28 rfl Try.ntmps28 rfl fun a h=>?_
 replace h : Fr 20 a [(0, iV x0), (1, iV x1)] := h
 replace hS := hS.start
 replace hS : Sep w0 w [_] Z := hS
 refine wp_seq <| wp_region_lit <| v_alloc h rfl ti27 hS fun w_1 g_2 hS' a h => ?_
 replace hS : Sep w0 w_1 [_, Mem.one g_2 (.cells ([iV 0, iV 0, iV 0, iV 0, nS, nS, nS] : List Value).toArray 27 (0, 0))] Z := hS'
 clear hS'
 refine wpList_nil <| x_then_n <| wp_seq <| wp_region_lit <| s_move h rfl rfl fun a h=>s_shift (r := shr .i64 x0 25) h rfl rfl rfl (by decide) (.inr ⟨rfl, rfl⟩) fun a h=>s_bits (i := shr .i64 x0 25) (j := 7) (r := band .i64 (shr .i64 x0 25) 7) h rfl rfl rfl (.inl ⟨rfl, rfl⟩) fun a h=>s_div (r := Int.tmod (band .i64 (shr .i64 x0 25) 7) 6) h rfl rfl rfl (by decide) (.inr ⟨rfl, rfl⟩) fun a h=>s_arith (r := w64 ((Int.tmod (band .i64 (shr .i64 x0 25) 7) 6) + 1)) h rfl rfl rfl (.inl ⟨rfl, rfl⟩) fun a h=>s_move h rfl rfl fun a h=>s_div (r := w64 (Int.tdiv x1 3)) h rfl rfl rfl (by decide) (.inl ⟨rfl, rfl⟩) fun a h=>s_move h rfl rfl fun a h=>?_
 refine s_shift (r := shr .i64 x0 28) h rfl rfl rfl (by decide) (.inr ⟨rfl, rfl⟩) fun a h=>s_bits (i := shr .i64 x0 28) (j := 1) (r := band .i64 (shr .i64 x0 28) 1) h rfl rfl rfl (.inl ⟨rfl, rfl⟩) fun a h=>s_arith (r := w64 ((w64 (Int.tdiv x1 3)) + (band .i64 (shr .i64 x0 28) 1))) h rfl rfl rfl (.inl ⟨rfl, rfl⟩) fun a h=>s_arith (r := w64 ((w64 ((w64 (Int.tdiv x1 3)) + (band .i64 (shr .i64 x0 28) 1))) + 1)) h rfl rfl rfl (.inl ⟨rfl, rfl⟩) fun a h=>s_move h rfl rfl fun a h=>?_
 obtain ⟨t_3, et_3, H⟩ := Option.bind_eq_some_iff.1 H
 refine s_call h rfl Try.call57 rfl (hocketlaw8_Cmd.calls x0 t_3 w0 _ _ _ (Mem.le.refl _) (hS.enter [] (by decide))  et_3) ?_
 rintro _ w_4 ⟨v_7, v_9, v_11, N_5, rfl, hS', hr_8, hr_10, hr_12⟩
 intro a h
 obtain ⟨N_6, hS'', le_6, ln_6⟩ := hS.call [] (by decide) rfl (l' := []) (ow := []) rfl hS'
 replace hS : Sep w0 w_4 [N_6, _] Z := hS''
 clear hS' hS''
 refine s_build h rfl ti27 pl27 rfl (.cons rfl (.cons rfl (.cons rfl .nil))) (cs := [iV (w64 ((Int.tmod (band .i64 (shr .i64 x0 25) 7) 6) + 1)), iV (w64 ((w64 ((w64 (Int.tdiv x1 3)) + (band .i64 (shr .i64 x0 28) 1))) + 1)), iV t_3.Kind, iV t_3.Who, v_7, v_9, v_11]) (by kernel_rfl) fun a h=>?_
 obtain ⟨w_13, hs', hS'⟩ := hS.store (P := Try.prog) (p := 1) (o := 0) (t := 27) (v := .agg ([iV (w64 ((Int.tmod (band .i64 (shr .i64 x0 25) 7) 6) + 1)), iV (w64 ((w64 ((w64 (Int.tdiv x1 3)) + (band .i64 (shr .i64 x0 28) 1))) + 1)), iV t_3.Kind, iV t_3.Who, v_7, v_9, v_11] : List Value).toArray) (vs := [iV (w64 ((Int.tmod (band .i64 (shr .i64 x0 25) 7) 6) + 1)), iV (w64 ((w64 ((w64 (Int.tdiv x1 3)) + (band .i64 (shr .i64 x0 28) 1))) + 1)), iV t_3.Kind, iV t_3.Who, v_7, v_9, v_11]) rfl ti27 rfl rfl rfl (by intro u hu; simp only [List.mem_cons, List.not_mem_nil, or_false] at hu; rcases hu with rfl | rfl | rfl | rfl | rfl | rfl | rfl <;> first | rfl | exact (hr_8.mono ln_6).one | exact (hr_10.mono ln_6).one | exact (hr_12.mono ln_6).one)
 refine s_store h rfl rfl hs' ?_
 replace hS : Sep w0 w_13 [_, Mem.one g_2 (.cells ([iV (w64 ((Int.tmod (band .i64 (shr .i64 x0 25) 7) 6) + 1)), iV (w64 ((w64 ((w64 (Int.tdiv x1 3)) + (band .i64 (shr .i64 x0 28) 1))) + 1)), iV t_3.Kind, iV t_3.Who, v_7, v_9, v_11] : List Value).toArray 27 (0, 0))] Z := hS'
 clear hs' hS'
 refine wpList_nil <| x_then_n <| wp_ret ?_
 obtain rfl := Option.some.inj H
 exact f_ret h (rs := [.cell 4 27]) rfl (.cell rfl (hS.load_agg (p := 1) (us := [iV (w64 ((Int.tmod (band .i64 (shr .i64 x0 25) 7) 6) + 1)), iV (w64 ((w64 ((w64 (Int.tdiv x1 3)) + (band .i64 (shr .i64 x0 28) 1))) + 1)), iV t_3.Kind, iV t_3.Who, v_7, v_9, v_11]) rfl U27 rfl ti27 rfl rfl) .nil) ⟨_, rfl, v_7, v_9, v_11, N_6, rfl, (Sep.sel hS [0] (by decide)), (hr_8.mono ln_6), (hr_10.mono ln_6), (hr_12.mono ln_6)⟩


end Go.Proofs
