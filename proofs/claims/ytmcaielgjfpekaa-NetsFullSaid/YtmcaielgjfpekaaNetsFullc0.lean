/- What the calls do: each function once. -/
import Derived.Test.YtmcaielgjfpekaaFacts
namespace Go.Proofs
open Go.Gp
set_option linter.unusedVariables false
set_option maxHeartbeats 4000000 in
set_option maxRecDepth 20000 in
theorem nets_New.calls (x0 : Int) (r : Int × Int × (List nets_frame)) (w0 w : World) (Z A : Mem) (hA : A.le Z) (hS : Sep w0 w [] Z)
    (H : nets_New.f x0 = some r) :
    Calls Try.prog 9 [iV x0].toArray w (Ret fun v w' => ∃ (u0 : Nat) (u1 : Value) (N : Mem) (M0 : Mem), v = .pointer (some ⟨u0, 0, none⟩) ∧ Sep w0 w' [N, Mem.one u0 (.cells ([iV r.1, iV r.2.1, u1] : List Value).toArray 58 (0, 0)), M0] Z ∧ Own k_nets_frame 60 M0 N u1 r.2.2) := by
 unfold nets_New.f at H
 refine f_enter _ Try.func9 rfl Try.ntmps9 rfl fun a h=>?_
 replace h : Fr 8 a [(0, iV x0)] := h
 replace hS := hS.start
 replace hS : Sep w0 w [_] Z := hS
 refine wp_seq <| wp_region_lit <| s_assign h rfl rfl fun a h=>wpList_nil <| x_then_n <| wp_seq <| wp_region_lit <| s_move h rfl rfl fun a h=>s_max h rfl rfl rfl fun a h=>s_min h rfl rfl rfl fun a h=>s_build h rfl ti58 pl58 rfl (.cons rfl .nil) (cs := [iV (mn (mx x0 1) 7), iV 0, nS]) (by kernel_rfl) fun a h=>v_box (vs := [iV (mn (mx x0 1) 7), iV 0, nS]) h rfl rfl rfl hS fun w_1 g_2 hS' a h => ?_
 replace hS : Sep w0 w_1 [_, Mem.one g_2 (.cells ([iV (mn (mx x0 1) 7), iV 0, nS] : List Value).toArray 58 (0, 0))] Z := hS'
 clear hS'
 refine s_assign h rfl rfl fun a h=>wpList_nil <| x_then_n <| wp_ret ?_
 have hS' := hS.room
 replace hS : Sep w0 w_1 [_, _, Mem.no] Z := hS'
 clear hS'
 replace hS : Sep w0 w_1 [_, _, _] Z := hS
 obtain rfl := Option.some.inj H
 exact f_ret h (rs := [.tmp 2]) rfl (.tmp rfl .nil) ⟨_, rfl, g_2, nS, Mem.no, Mem.no, rfl, (Sep.sel hS [0, 1, 2] (by decide)), ((Own.nil k_nets_frame 60 Mem.no).mono (Mem.le.refl _))⟩

set_option maxHeartbeats 4000000 in
set_option maxRecDepth 20000 in
theorem mesg_beyond.calls (x0 : api_Msg) (p0_0 : Value) (p0_1 : Value) (p0_2 : Value) (p0_3 : Value) (p0_4 : Value) (p0_5 : Value) (r : Bool) (w0 w : World) (Z A : Mem) (hA : A.le Z) (hS : Sep w0 w [] Z) (hp0_0 : Rd Kd.u8 A p0_0 x0.Data) (hp0_1 : Rd (Kd.int .i64) A p0_1 x0.Have) (hp0_2 : Rd (Kd.int .i64) A p0_2 x0.Need) (hp0_3 : Rd Kd.u8 A p0_3 x0.Entry.Cmd.Key) (hp0_4 : Rd Kd.u8 A p0_4 x0.Entry.Cmd.Val) (hp0_5 : Rd Kd.u8 A p0_5 x0.Entry.Cmd.Old)
    (H : mesg_beyond.f x0 = some r) :
    Calls Try.prog 55 [.agg ([iV x0.Kind, iV x0.From, iV x0.To, iV x0.View, iV x0.Inst, iV x0.Len, .bool x0.Has, iV x0.Members, iV x0.Source, iV x0.At, iV x0.Total, p0_0, iV x0.Hop, iV x0.Seq, p0_1, p0_2, iV x0.Index, iV x0.Entry.Sess, iV x0.Entry.Seq, iV x0.Entry.Cmd.Kind, iV x0.Entry.Cmd.Who, p0_3, p0_4, p0_5] : List Value).toArray].toArray w (Ret fun v w' => ∃ (N : Mem), v = .bool r ∧ Sep w0 w' [N] Z) := by
 unfold mesg_beyond.f at H
 refine f_enter _ Try.func55 rfl Try.ntmps55 rfl fun a h=>?_
 replace h : Fr 34 a [(0, .agg ([iV x0.Kind, iV x0.From, iV x0.To, iV x0.View, iV x0.Inst, iV x0.Len, .bool x0.Has, iV x0.Members, iV x0.Source, iV x0.At, iV x0.Total, p0_0, iV x0.Hop, iV x0.Seq, p0_1, p0_2, iV x0.Index, iV x0.Entry.Sess, iV x0.Entry.Seq, iV x0.Entry.Cmd.Kind, iV x0.Entry.Cmd.Who, p0_3, p0_4, p0_5] : List Value).toArray)] := h
 replace hS := hS.start
 replace hS : Sep w0 w [_] Z := hS
 refine wp_seq <| wp_region_lit <| v_box (vs := [iV x0.Kind, iV x0.From, iV x0.To, iV x0.View, iV x0.Inst, iV x0.Len, .bool x0.Has, iV x0.Members, iV x0.Source, iV x0.At, iV x0.Total, p0_0, iV x0.Hop, iV x0.Seq, p0_1, p0_2, iV x0.Index, iV x0.Entry.Sess, iV x0.Entry.Seq, iV x0.Entry.Cmd.Kind, iV x0.Entry.Cmd.Who, p0_3, p0_4, p0_5]) h rfl rfl rfl hS fun w_1 g_2 hS' a h => ?_
 replace hS : Sep w0 w_1 [_, Mem.one g_2 (.cells ([iV x0.Kind, iV x0.From, iV x0.To, iV x0.View, iV x0.Inst, iV x0.Len, .bool x0.Has, iV x0.Members, iV x0.Source, iV x0.At, iV x0.Total, p0_0, iV x0.Hop, iV x0.Seq, p0_1, p0_2, iV x0.Index, iV x0.Entry.Sess, iV x0.Entry.Seq, iV x0.Entry.Cmd.Kind, iV x0.Entry.Cmd.Who, p0_3, p0_4, p0_5] : List Value).toArray 32 (0, 0))] Z := hS'
 clear hS'
 refine s_assign h rfl rfl fun a h=>wpList_nil <| x_then_n <| c_seq fun KJ_3 hKJ_3 => wp_region_lit <| s_fieldAddr h rfl U32 rfl ti22 rfl rfl fun a h=>s_load h rfl rfl (hS.load_one (p := 1) rfl U22 rfl rfl) fun a h=>s_len h rfl U22 rfl hp0_1 fun a h=>s_cmp (b := decide ((x0.Have.length : Int) > 7)) h rfl rfl rfl (.inr (.inr (.inr (.inr (.inl ⟨rfl, rfl⟩))))) fun a h=>s_move h rfl rfl fun a h=>?_
 by_cases hc_4 : (x0.Have.length : Int) > 7
 ·rw [if_pos hc_4] at H
  refine s_on h rfl rfl (decide_eq_true hc_4) <| s_fieldAddr h rfl U32 rfl ti3 rfl rfl fun a h=>s_on h rfl rfl (decide_eq_true hc_4) <| s_load h rfl rfl (hS.load_one (p := 1) rfl U3 rfl rfl) fun a h=>s_on h rfl rfl (decide_eq_true hc_4) <| s_cmp (b := (x0.Kind == 7)) h rfl rfl rfl (.inl ⟨rfl, rfl⟩) fun a h=>s_pick_t h rfl rfl (decide_eq_true hc_4) rfl fun a h=>s_move h rfl rfl fun a h=>?_
  by_cases hc_5 : x0.Kind = 7
  ·rw [if_pos hc_5] at H
   refine s_off h rfl rfl rfl (beq_iff_eq.2 hc_5) fun a h=>s_off h rfl rfl rfl (beq_iff_eq.2 hc_5) fun a h=>s_off h rfl rfl rfl (beq_iff_eq.2 hc_5) fun a h=>s_off h rfl rfl rfl (beq_iff_eq.2 hc_5) fun a h=>s_off h rfl rfl rfl (beq_iff_eq.2 hc_5) fun a h=>s_offu h rfl rfl rfl fun a h=>s_offu h rfl rfl rfl fun a h=>s_offu h rfl rfl rfl fun a h=>s_off h rfl rfl rfl (beq_iff_eq.2 hc_5) fun a h=>s_pick_t h rfl rfl (beq_iff_eq.2 hc_5) rfl fun a h=>s_move h rfl rfl fun a h=>s_off h rfl rfl rfl rfl fun a h=>?_
   refine s_off h rfl rfl rfl rfl fun a h=>s_off h rfl rfl rfl rfl fun a h=>s_off h rfl rfl rfl rfl fun a h=>s_off h rfl rfl rfl rfl fun a h=>s_offu h rfl rfl rfl fun a h=>s_offu h rfl rfl rfl fun a h=>s_offu h rfl rfl rfl fun a h=>s_off h rfl rfl rfl rfl fun a h=>s_pick_t h rfl rfl rfl rfl fun a h=>s_assign h rfl rfl fun a h=>wpList_nil <| x_then_n (hKJ_3 _ _ ?_)
   refine wp_ret ?_
   obtain rfl := Option.some.inj H
   exact f_ret h (rs := [.tmp 2]) rfl (.tmp rfl .nil) ⟨_, rfl, Mem.no, rfl, (Sep.sel hS [0] (by decide))⟩
  ·rw [if_neg hc_5] at H
   refine s_on h rfl rfl (beq_eq_false_iff_ne.2 hc_5) <| s_fieldAddr h rfl U32 rfl ti22 rfl rfl fun a h=>s_on h rfl rfl (beq_eq_false_iff_ne.2 hc_5) <| s_load h rfl rfl (hS.load_one (p := 1) rfl U22 rfl rfl) fun a h=>s_on h rfl rfl (beq_eq_false_iff_ne.2 hc_5) <| s_len h rfl U22 rfl hp0_2 fun a h=>s_on h rfl rfl (beq_eq_false_iff_ne.2 hc_5) <| s_cmp (b := decide ((x0.Need.length : Int) > 8)) h rfl rfl rfl (.inr (.inr (.inr (.inr (.inl ⟨rfl, rfl⟩))))) fun a h=>s_on h rfl rfl (beq_eq_false_iff_ne.2 hc_5) <| s_move h rfl rfl fun a h=>?_
   by_cases hc_6 : (x0.Need.length : Int) > 8
   ·rw [if_pos hc_6] at H
    refine s_on h rfl rfl (decide_eq_true hc_6) <| s_fieldAddr h rfl U32 rfl ti3 rfl rfl fun a h=>s_on h rfl rfl (decide_eq_true hc_6) <| s_load h rfl rfl (hS.load_one (p := 1) rfl U3 rfl rfl) fun a h=>s_on h rfl rfl (decide_eq_true hc_6) <| s_cmp (b := (x0.Kind == 7)) h rfl rfl rfl (.inl ⟨rfl, rfl⟩) fun a h=>s_on h rfl rfl (beq_eq_false_iff_ne.2 hc_5) <| s_pick_t h rfl rfl (decide_eq_true hc_6) rfl fun a h=>s_pick_f h rfl rfl (beq_eq_false_iff_ne.2 hc_5) rfl fun a h=>s_move h rfl rfl fun a h=>s_on h rfl rfl (beq_eq_false_iff_ne.2 hc_5) <| s_fieldAddr h rfl U32 rfl ti26 rfl rfl fun a h=>?_
    refine s_on h rfl rfl (beq_eq_false_iff_ne.2 hc_5) <| s_load h rfl rfl (hS.load_one (p := 1) rfl U26 rfl rfl) fun a h=>s_on h rfl rfl (beq_eq_false_iff_ne.2 hc_5) <| s_len h rfl U26 rfl hp0_0 fun a h=>s_on h rfl rfl (beq_eq_false_iff_ne.2 hc_5) <| s_cmp (b := decide ((x0.Data.length : Int) > 64)) h rfl rfl rfl (.inr (.inr (.inr (.inr (.inl ⟨rfl, rfl⟩))))) fun a h=>s_on h rfl rfl (beq_eq_false_iff_ne.2 hc_5) <| s_move h rfl rfl fun a h=>?_
    by_cases hc_7 : (x0.Data.length : Int) > 64
    ·rw [if_pos hc_7] at H
     refine s_on h rfl rfl (decide_eq_true hc_7) <| s_fieldAddr h rfl U32 rfl ti3 rfl rfl fun a h=>s_on h rfl rfl (decide_eq_true hc_7) <| s_load h rfl rfl (hS.load_one (p := 1) rfl U3 rfl rfl) fun a h=>s_on h rfl rfl (decide_eq_true hc_7) <| s_cmp (b := (x0.Kind == 5)) h rfl rfl rfl (.inl ⟨rfl, rfl⟩) fun a h=>s_on h rfl rfl (beq_eq_false_iff_ne.2 hc_5) <| s_pick_t h rfl rfl (decide_eq_true hc_7) rfl fun a h=>s_pick_f h rfl rfl (beq_eq_false_iff_ne.2 hc_5) rfl fun a h=>s_assign h rfl rfl fun a h=>wpList_nil <| x_then_n (hKJ_3 _ _ ?_)
     refine wp_ret ?_
     obtain rfl := Option.some.inj H
     exact f_ret h (rs := [.tmp 2]) rfl (.tmp rfl .nil) ⟨_, rfl, Mem.no, rfl, (Sep.sel hS [0] (by decide))⟩
    ·rw [if_neg hc_7] at H
     refine s_off h rfl rfl rfl (decide_eq_false hc_7) fun a h=>s_off h rfl rfl rfl (decide_eq_false hc_7) fun a h=>s_off h rfl rfl rfl (decide_eq_false hc_7) fun a h=>s_on h rfl rfl (beq_eq_false_iff_ne.2 hc_5) <| s_pick_f h rfl rfl (decide_eq_false hc_7) rfl fun a h=>s_pick_f h rfl rfl (beq_eq_false_iff_ne.2 hc_5) rfl fun a h=>s_assign h rfl rfl fun a h=>wpList_nil <| x_then_n (hKJ_3 _ _ ?_)
     refine wp_ret ?_
     obtain rfl := Option.some.inj H
     exact f_ret h (rs := [.tmp 2]) rfl (.tmp rfl .nil) ⟨_, rfl, Mem.no, rfl, (Sep.sel hS [0] (by decide))⟩
   ·rw [if_neg hc_6] at H
    refine s_off h rfl rfl rfl (decide_eq_false hc_6) fun a h=>s_off h rfl rfl rfl (decide_eq_false hc_6) fun a h=>s_off h rfl rfl rfl (decide_eq_false hc_6) fun a h=>s_on h rfl rfl (beq_eq_false_iff_ne.2 hc_5) <| s_pick_f h rfl rfl (decide_eq_false hc_6) rfl fun a h=>s_pick_f h rfl rfl (beq_eq_false_iff_ne.2 hc_5) rfl fun a h=>s_move h rfl rfl fun a h=>s_on h rfl rfl rfl <| s_fieldAddr h rfl U32 rfl ti26 rfl rfl fun a h=>s_on h rfl rfl rfl <| s_load h rfl rfl (hS.load_one (p := 1) rfl U26 rfl rfl) fun a h=>s_on h rfl rfl rfl <| s_len h rfl U26 rfl hp0_0 fun a h=>?_
    refine s_on h rfl rfl rfl <| s_cmp (b := decide ((x0.Data.length : Int) > 64)) h rfl rfl rfl (.inr (.inr (.inr (.inr (.inl ⟨rfl, rfl⟩))))) fun a h=>s_on h rfl rfl rfl <| s_move h rfl rfl fun a h=>?_
    by_cases hc_8 : (x0.Data.length : Int) > 64
    ·rw [if_pos hc_8] at H
     refine s_on h rfl rfl (decide_eq_true hc_8) <| s_fieldAddr h rfl U32 rfl ti3 rfl rfl fun a h=>s_on h rfl rfl (decide_eq_true hc_8) <| s_load h rfl rfl (hS.load_one (p := 1) rfl U3 rfl rfl) fun a h=>s_on h rfl rfl (decide_eq_true hc_8) <| s_cmp (b := (x0.Kind == 5)) h rfl rfl rfl (.inl ⟨rfl, rfl⟩) fun a h=>s_on h rfl rfl rfl <| s_pick_t h rfl rfl (decide_eq_true hc_8) rfl fun a h=>s_pick_f h rfl rfl rfl rfl fun a h=>s_assign h rfl rfl fun a h=>wpList_nil <| x_then_n (hKJ_3 _ _ ?_)
     refine wp_ret ?_
     obtain rfl := Option.some.inj H
     exact f_ret h (rs := [.tmp 2]) rfl (.tmp rfl .nil) ⟨_, rfl, Mem.no, rfl, (Sep.sel hS [0] (by decide))⟩
    ·rw [if_neg hc_8] at H
     refine s_off h rfl rfl rfl (decide_eq_false hc_8) fun a h=>s_off h rfl rfl rfl (decide_eq_false hc_8) fun a h=>s_off h rfl rfl rfl (decide_eq_false hc_8) fun a h=>s_on h rfl rfl rfl <| s_pick_f h rfl rfl (decide_eq_false hc_8) rfl fun a h=>s_pick_f h rfl rfl rfl rfl fun a h=>s_assign h rfl rfl fun a h=>wpList_nil <| x_then_n (hKJ_3 _ _ ?_)
     refine wp_ret ?_
     obtain rfl := Option.some.inj H
     exact f_ret h (rs := [.tmp 2]) rfl (.tmp rfl .nil) ⟨_, rfl, Mem.no, rfl, (Sep.sel hS [0] (by decide))⟩
 ·rw [if_neg hc_4] at H
  refine s_off h rfl rfl rfl (decide_eq_false hc_4) fun a h=>s_off h rfl rfl rfl (decide_eq_false hc_4) fun a h=>s_off h rfl rfl rfl (decide_eq_false hc_4) fun a h=>s_pick_f h rfl rfl (decide_eq_false hc_4) rfl fun a h=>s_move h rfl rfl fun a h=>s_on h rfl rfl rfl <| s_fieldAddr h rfl U32 rfl ti22 rfl rfl fun a h=>s_on h rfl rfl rfl <| s_load h rfl rfl (hS.load_one (p := 1) rfl U22 rfl rfl) fun a h=>s_on h rfl rfl rfl <| s_len h rfl U22 rfl hp0_2 fun a h=>s_on h rfl rfl rfl <| s_cmp (b := decide ((x0.Need.length : Int) > 8)) h rfl rfl rfl (.inr (.inr (.inr (.inr (.inl ⟨rfl, rfl⟩))))) fun a h=>?_
  refine s_on h rfl rfl rfl <| s_move h rfl rfl fun a h=>?_
  by_cases hc_9 : (x0.Need.length : Int) > 8
  ·rw [if_pos hc_9] at H
   refine s_on h rfl rfl (decide_eq_true hc_9) <| s_fieldAddr h rfl U32 rfl ti3 rfl rfl fun a h=>s_on h rfl rfl (decide_eq_true hc_9) <| s_load h rfl rfl (hS.load_one (p := 1) rfl U3 rfl rfl) fun a h=>s_on h rfl rfl (decide_eq_true hc_9) <| s_cmp (b := (x0.Kind == 7)) h rfl rfl rfl (.inl ⟨rfl, rfl⟩) fun a h=>s_on h rfl rfl rfl <| s_pick_t h rfl rfl (decide_eq_true hc_9) rfl fun a h=>s_pick_f h rfl rfl rfl rfl fun a h=>s_move h rfl rfl fun a h=>?_
   by_cases hc_10 : x0.Kind = 7
   ·rw [if_pos hc_10] at H
    refine s_off h rfl rfl rfl (beq_iff_eq.2 hc_10) fun a h=>s_off h rfl rfl rfl (beq_iff_eq.2 hc_10) fun a h=>s_off h rfl rfl rfl (beq_iff_eq.2 hc_10) fun a h=>s_off h rfl rfl rfl (beq_iff_eq.2 hc_10) fun a h=>s_off h rfl rfl rfl (beq_iff_eq.2 hc_10) fun a h=>s_offu h rfl rfl rfl fun a h=>s_offu h rfl rfl rfl fun a h=>s_offu h rfl rfl rfl fun a h=>s_off h rfl rfl rfl (beq_iff_eq.2 hc_10) fun a h=>s_pick_t h rfl rfl (beq_iff_eq.2 hc_10) rfl fun a h=>s_assign h rfl rfl fun a h=>wpList_nil <| x_then_n (hKJ_3 _ _ ?_)
    refine wp_ret ?_
    obtain rfl := Option.some.inj H
    exact f_ret h (rs := [.tmp 2]) rfl (.tmp rfl .nil) ⟨_, rfl, Mem.no, rfl, (Sep.sel hS [0] (by decide))⟩
   ·rw [if_neg hc_10] at H
    refine s_on h rfl rfl (beq_eq_false_iff_ne.2 hc_10) <| s_fieldAddr h rfl U32 rfl ti26 rfl rfl fun a h=>s_on h rfl rfl (beq_eq_false_iff_ne.2 hc_10) <| s_load h rfl rfl (hS.load_one (p := 1) rfl U26 rfl rfl) fun a h=>s_on h rfl rfl (beq_eq_false_iff_ne.2 hc_10) <| s_len h rfl U26 rfl hp0_0 fun a h=>s_on h rfl rfl (beq_eq_false_iff_ne.2 hc_10) <| s_cmp (b := decide ((x0.Data.length : Int) > 64)) h rfl rfl rfl (.inr (.inr (.inr (.inr (.inl ⟨rfl, rfl⟩))))) fun a h=>s_on h rfl rfl (beq_eq_false_iff_ne.2 hc_10) <| s_move h rfl rfl fun a h=>?_
    by_cases hc_11 : (x0.Data.length : Int) > 64
    ·rw [if_pos hc_11] at H
     refine s_on h rfl rfl (decide_eq_true hc_11) <| s_fieldAddr h rfl U32 rfl ti3 rfl rfl fun a h=>s_on h rfl rfl (decide_eq_true hc_11) <| s_load h rfl rfl (hS.load_one (p := 1) rfl U3 rfl rfl) fun a h=>s_on h rfl rfl (decide_eq_true hc_11) <| s_cmp (b := (x0.Kind == 5)) h rfl rfl rfl (.inl ⟨rfl, rfl⟩) fun a h=>s_on h rfl rfl (beq_eq_false_iff_ne.2 hc_10) <| s_pick_t h rfl rfl (decide_eq_true hc_11) rfl fun a h=>s_pick_f h rfl rfl (beq_eq_false_iff_ne.2 hc_10) rfl fun a h=>s_assign h rfl rfl fun a h=>wpList_nil <| x_then_n (hKJ_3 _ _ ?_)
     refine wp_ret ?_
     obtain rfl := Option.some.inj H
     exact f_ret h (rs := [.tmp 2]) rfl (.tmp rfl .nil) ⟨_, rfl, Mem.no, rfl, (Sep.sel hS [0] (by decide))⟩
    ·rw [if_neg hc_11] at H
     refine s_off h rfl rfl rfl (decide_eq_false hc_11) fun a h=>s_off h rfl rfl rfl (decide_eq_false hc_11) fun a h=>s_off h rfl rfl rfl (decide_eq_false hc_11) fun a h=>s_on h rfl rfl (beq_eq_false_iff_ne.2 hc_10) <| s_pick_f h rfl rfl (decide_eq_false hc_11) rfl fun a h=>s_pick_f h rfl rfl (beq_eq_false_iff_ne.2 hc_10) rfl fun a h=>s_assign h rfl rfl fun a h=>wpList_nil <| x_then_n (hKJ_3 _ _ ?_)
     refine wp_ret ?_
     obtain rfl := Option.some.inj H
     exact f_ret h (rs := [.tmp 2]) rfl (.tmp rfl .nil) ⟨_, rfl, Mem.no, rfl, (Sep.sel hS [0] (by decide))⟩
  ·rw [if_neg hc_9] at H
   refine s_off h rfl rfl rfl (decide_eq_false hc_9) fun a h=>s_off h rfl rfl rfl (decide_eq_false hc_9) fun a h=>s_off h rfl rfl rfl (decide_eq_false hc_9) fun a h=>s_on h rfl rfl rfl <| s_pick_f h rfl rfl (decide_eq_false hc_9) rfl fun a h=>s_pick_f h rfl rfl rfl rfl fun a h=>s_move h rfl rfl fun a h=>s_on h rfl rfl rfl <| s_fieldAddr h rfl U32 rfl ti26 rfl rfl fun a h=>s_on h rfl rfl rfl <| s_load h rfl rfl (hS.load_one (p := 1) rfl U26 rfl rfl) fun a h=>s_on h rfl rfl rfl <| s_len h rfl U26 rfl hp0_0 fun a h=>?_
   refine s_on h rfl rfl rfl <| s_cmp (b := decide ((x0.Data.length : Int) > 64)) h rfl rfl rfl (.inr (.inr (.inr (.inr (.inl ⟨rfl, rfl⟩))))) fun a h=>s_on h rfl rfl rfl <| s_move h rfl rfl fun a h=>?_
   by_cases hc_12 : (x0.Data.length : Int) > 64
   ·rw [if_pos hc_12] at H
    refine s_on h rfl rfl (decide_eq_true hc_12) <| s_fieldAddr h rfl U32 rfl ti3 rfl rfl fun a h=>s_on h rfl rfl (decide_eq_true hc_12) <| s_load h rfl rfl (hS.load_one (p := 1) rfl U3 rfl rfl) fun a h=>s_on h rfl rfl (decide_eq_true hc_12) <| s_cmp (b := (x0.Kind == 5)) h rfl rfl rfl (.inl ⟨rfl, rfl⟩) fun a h=>s_on h rfl rfl rfl <| s_pick_t h rfl rfl (decide_eq_true hc_12) rfl fun a h=>s_pick_f h rfl rfl rfl rfl fun a h=>s_assign h rfl rfl fun a h=>wpList_nil <| x_then_n (hKJ_3 _ _ ?_)
    refine wp_ret ?_
    obtain rfl := Option.some.inj H
    exact f_ret h (rs := [.tmp 2]) rfl (.tmp rfl .nil) ⟨_, rfl, Mem.no, rfl, (Sep.sel hS [0] (by decide))⟩
   ·rw [if_neg hc_12] at H
    refine s_off h rfl rfl rfl (decide_eq_false hc_12) fun a h=>s_off h rfl rfl rfl (decide_eq_false hc_12) fun a h=>s_off h rfl rfl rfl (decide_eq_false hc_12) fun a h=>s_on h rfl rfl rfl <| s_pick_f h rfl rfl (decide_eq_false hc_12) rfl fun a h=>s_pick_f h rfl rfl rfl rfl fun a h=>s_assign h rfl rfl fun a h=>wpList_nil <| x_then_n (hKJ_3 _ _ ?_)
    refine wp_ret ?_
    obtain rfl := Option.some.inj H
    exact f_ret h (rs := [.tmp 2]) rfl (.tmp rfl .nil) ⟨_, rfl, Mem.no, rfl, (Sep.sel hS [0] (by decide))⟩

set_option maxHeartbeats 4000000 in
set_option maxRecDepth 20000 in
theorem mesg_flag.calls (x0 : Bool) (r : Int) (w0 w : World) (Z A : Mem) (hA : A.le Z) (hS : Sep w0 w [] Z)
    (H : mesg_flag.f x0 = some r) :
    Calls Try.prog 65 [.bool x0].toArray w (Ret fun v w' => ∃ (N : Mem), v = iV r ∧ Sep w0 w' [N] Z) := by
 unfold mesg_flag.f at H
 refine f_enter _ Try.func65 rfl Try.ntmps65 rfl fun a h=>?_
 replace h : Fr 4 a [(0, .bool x0)] := h
 replace hS := hS.start
 replace hS : Sep w0 w [_] Z := hS
 refine wp_seq <| wp_region_lit <| s_assign h rfl rfl fun a h=>wpList_nil <| x_then_n <| c_seq fun KJ_1 hKJ_1 => wp_seq <| wp_region_lit <| s_move h rfl rfl fun a h=>wpList_nil <| x_then_n ?_
 by_cases hc_2 : x0 = true
 ·rw [if_pos hc_2] at H
  refine c_cond_t h rfl hc_2 <| wp_seq <| wp_region_lit <| s_assign h rfl rfl fun a h=>wpList_nil <| x_then_n <| wp_ret (x_then_r ?_)
  obtain rfl := Option.some.inj H
  exact f_ret h (rs := [.tmp 2]) rfl (.tmp rfl .nil) ⟨_, rfl, Mem.no, rfl, (Sep.sel hS [0] (by decide))⟩
 ·rw [if_neg hc_2] at H
  refine c_cond_f h rfl (Bool.eq_false_iff.2 hc_2) <| wp_skip <| x_then_n (hKJ_1 _ _ ?_)
  refine wp_seq <| wp_region_lit <| s_assign h rfl rfl fun a h=>wpList_nil <| x_then_n <| wp_ret ?_
  obtain rfl := Option.some.inj H
  exact f_ret h (rs := [.tmp 2]) rfl (.tmp rfl .nil) ⟨_, rfl, Mem.no, rfl, (Sep.sel hS [0] (by decide))⟩

set_option maxHeartbeats 4000000 in
theorem slices_Clone_sbyte_byte.calls (x0 : List UInt8) (p0_0 : Value) (r : List UInt8) (w0 w : World) (Z A : Mem) (hA : A.le Z) (hS : Sep w0 w [] Z) (hp0_0 : Rd Kd.u8 A p0_0 x0)
    (H : slices_Clone_sbyte_byte.f x0 = some r) :
    Calls Try.prog 30 [p0_0].toArray w (Ret fun v w' => ∃ (u0 : Value) (N : Mem) (M0 : Mem), v = u0 ∧ Sep w0 w' [N, M0] Z ∧ Own Kd.u8 5 M0 Mem.no u0 r) := by
  unfold slices_Clone_sbyte_byte.f at H
  refine f_enter _ Try.func30 rfl Try.ntmps30 rfl fun a hm => ?_
  replace hm : Fr 8 a [(0, p0_0)] := hm
  replace hS := hS.start
  replace hS : Sep w0 w [Mem.no] Z := hS
  refine wp_seq ?_
  refine wp_region_lit ?_
  refine s_assign hm rfl rfl ?_
  clear hm a; intro a hm
  refine wpList_nil ?_
  replace hm : Fr 8 a [(0, p0_0)] := hm.keep [0]
  refine x_then_n ?_
  refine c_seq fun KJ hKJ => ?_
  refine wp_seq ?_
  refine wp_region_lit ?_
  refine s_move hm rfl rfl ?_
  clear hm a; intro a hm
  refine s_slNil hm rfl Try.underlying26 rfl hp0_0 fun b hb => ?_
  clear hm a; intro a hm
  refine wpList_nil ?_
  refine x_then_n ?_
  cases b with
  | true =>
    have hx := hb rfl
    subst hx
    refine c_cond_t hm rfl rfl ?_
    refine wp_seq ?_
    refine wp_region_lit ?_
    refine s_assign hm rfl rfl ?_
    clear hm a; intro a hm
    refine wpList_nil ?_
    replace hm : Fr 8 a [(2, .slice none 0 0)] := hm.keep [2]
    refine x_then_n ?_
    refine wp_ret (x_then_r ?_)
    obtain rfl := (app_some H).2
    replace hS := hS.room
    exact f_ret hm (rs := [.tmp 2]) rfl (.tmp rfl .nil) ⟨_, rfl, _, Mem.no, Mem.no, rfl, hS, Own.nil _ _ _⟩
  | false =>
    refine c_cond_f hm rfl rfl ?_
    refine wp_skip ?_
    refine x_then_n (hKJ _ _ ?_)
    refine wp_seq ?_
    refine wp_region_lit ?_
    have hq5 : Reps Kd.u8 Mem.no ([] : List UInt8) _ := (Reps.nil Kd.u8 _)
    refine s_buildSlice hm rfl Try.underlying26 ti5 rfl rfl rfl .nil rfl rfl rfl hS hq5 rfl ?_
    intro w1 v2 M3 hS' ho4
    clear hm a; intro a hm
    replace hS : Sep w0 w1 [Mem.no, M3] Z := hS'
    clear hS' hq5
    refine s_move hm rfl rfl ?_
    clear hm a; intro a hm
    refine s_append (J := Mem.no) (I' := Mem.no) (p := 1) 140737488355328 hm rfl rfl rfl Try.underlying26 ti5 rfl rfl rfl rfl hS rfl ho4 (Src.flat flat_u8 (hp0_0.src (hA.trans hS.old))) (Mem.le.refl _) (Mem.le.refl _) H ?_
    intro w8 v9 M10 hS' ho11
    clear hm a; intro a hm
    refine s_assign hm rfl rfl ?_
    clear hm a; intro a hm
    refine wpList_nil ?_
    replace hm : Fr 8 a [(2, v9)] := hm.keep [2]
    refine x_then_n ?_
    refine wp_ret ?_
    exact f_ret hm (rs := [.tmp 2]) rfl (.tmp rfl .nil) ⟨_, rfl, _, Mem.no, M10, rfl, hS', ho11⟩

set_option maxHeartbeats 4000000 in
theorem slices_Clip_sbyte_byte.calls (v : Value) (w : World) (hf : ∃ A l c, v = .slice A l c ∧ l ≤ c) : Calls Try.prog 77 [v].toArray w (Ret fun u w' => w = w' ∧ Clipped v u) := by
  obtain ⟨A, l, c, rfl, hlc⟩ := hf
  refine f_enter _ Try.func77 rfl Try.ntmps77 rfl fun a hm => ?_
  replace hm : Fr 9 a [(0, .slice A l c)] := hm
  refine wp_seq ?_
  refine wp_region_lit ?_
  refine s_assign hm rfl rfl ?_
  clear hm a; intro a hm
  refine wpList_nil ?_
  refine x_then_n ?_
  refine wp_seq ?_
  refine wp_region_lit ?_
  refine s_move hm rfl rfl ?_
  clear hm a; intro a hm
  refine s_move hm rfl rfl ?_
  clear hm a; intro a hm
  refine s_lenV hm rfl Try.underlying26 rfl ?_
  clear hm a; intro a hm
  refine s_move hm rfl rfl ?_
  clear hm a; intro a hm
  refine s_lenV hm rfl Try.underlying26 rfl ?_
  clear hm a; intro a hm
  refine s_clip hm rfl Try.underlying26 ti5 rfl rfl rfl hlc ?_
  clear hm a; intro a hm
  refine s_assign hm rfl rfl ?_
  clear hm a; intro a hm
  refine wpList_nil ?_
  refine x_then_n ?_
  refine wp_ret ?_
  exact f_ret hm (rs := [.tmp 2]) rfl (.tmp rfl .nil) ⟨_, rfl, rfl, A, l, c, rfl, rfl⟩

set_option maxHeartbeats 4000000 in
set_option maxRecDepth 20000 in
theorem pack_held.calls (x0 : Int) (r : Int) (w0 w : World) (Z A : Mem) (hA : A.le Z) (hS : Sep w0 w [] Z)
    (H : pack_held.f x0 = some r) :
    Calls Try.prog 78 [iV x0].toArray w (Ret fun v w' => ∃ (N : Mem), v = iV r ∧ Sep w0 w' [N] Z) := by
 unfold pack_held.f at H
 refine f_enter _ Try.func78 rfl Try.ntmps78 rfl fun a h=>?_
 replace h : Fr 6 a [(0, iV x0)] := h
 replace hS := hS.start
 replace hS : Sep w0 w [_] Z := hS
 refine wp_seq <| wp_region_lit <| s_assign h rfl rfl fun a h=>wpList_nil <| x_then_n <| wp_seq <| wp_region_lit <| s_move h rfl rfl fun a h=>s_max h rfl rfl rfl fun a h=>s_min h rfl rfl rfl fun a h=>s_assign h rfl rfl fun a h=>wpList_nil <| x_then_n ?_
 refine wp_ret ?_
 obtain rfl := Option.some.inj H
 exact f_ret h (rs := [.tmp 2]) rfl (.tmp rfl .nil) ⟨_, rfl, Mem.no, rfl, (Sep.sel hS [0] (by decide))⟩

set_option maxHeartbeats 4000000 in
set_option maxRecDepth 20000 in
theorem pack_Num.calls (K : Nat) (x0 : List UInt8) (p0_0 : Value) (x1 : Int) (r : (List UInt8)) (w0 w : World) (Z A : Mem) (hA : A.le Z) (hS : Sep w0 w [] Z) (hp0_0 : Rd Kd.u8 A p0_0 x0)
    (H : pack_Num.f K x0 x1 = some r) :
    Calls Try.prog 64 [p0_0, iV x1].toArray w (Ret fun v w' => ∃ (u0 : Value) (N : Mem) (M0 : Mem), v = u0 ∧ Sep w0 w' [N, M0] Z ∧ Own Kd.u8 5 M0 Mem.no u0 r) := by
 unfold pack_Num.f at H
 refine f_enter _ Try.func64 rfl Try.ntmps64 rfl fun a h=>?_
 replace h : Fr 27 a [(0, p0_0), (1, iV x1)] := h
 replace hS := hS.start
 replace hS : Sep w0 w [_] Z := hS
 refine wp_seq <| wp_region_lit <| s_assign h rfl rfl fun a h=>wpList_nil <| x_then_n <| wp_seq <| wp_region_lit <| s_move h rfl rfl fun a h=>?_
 obtain ⟨t_1, et_1, H⟩ := Option.bind_eq_some_iff.1 H
 refine s_call h rfl Try.call30 rfl (slices_Clone_sbyte_byte.calls x0 _ t_1 w0 _ _ _ (Mem.le.refl _) (hS.enter [] (by decide)) (hp0_0.mono (hA.trans (hS.le_zed []))) et_1) ?_
 rintro v_5 w_2 ⟨_, N_3, M_7, rfl, hS', hr_6⟩
 intro a h
 obtain ⟨N_4, hS'', le_4, ln_4⟩ := hS.call [] (by decide) rfl (l' := []) (ow := [M_7]) rfl hS'
 replace hS : Sep w0 w_2 [N_4, M_7] Z := hS''
 clear hS' hS''
 refine s_call h rfl Try.call77 rfl (slices_Clip_sbyte_byte.calls _ _ hr_6.slform) ?_
 rintro v_9 _ ⟨rfl, hk_10⟩
 intro a h
 refine s_assign h rfl rfl fun a h=>wpList_nil <| x_then_n <| c_seq fun KJ_12 hKJ_12 => wp_seq <| wp_region_lit <| s_move h rfl rfl fun a h=>?_
 obtain ⟨t_13, et_13, H⟩ := Option.bind_eq_some_iff.1 H
 refine s_call h rfl Try.call78 rfl (pack_held.calls x1 t_13 w0 _ _ _ (Mem.le.refl _) (hS.enter [] (by decide))  et_13) ?_
 rintro _ w_14 ⟨N_15, rfl, hS'⟩
 intro a h
 obtain ⟨N_16, hS'', le_16, ln_16⟩ := hS.call [] (by decide) rfl (l' := []) (ow := []) rfl hS'
 replace hS : Sep w0 w_14 [N_16, _] Z := hS''
 clear hS' hS''
 refine s_assign h rfl rfl fun a h=>wpList_nil <| x_then_n ?_
 have hJ_j_25 : ∀ (x_18 : Int), ∀ (x_19 : List UInt8), pack_Num.J1 K x_18 x_19 = some r → ∀ (a : Act) (w_24 : World), (∃ (v_22 : Value) (N_17 : Mem) (M_20 : Mem), Fr 27 a [(1, iV x_18), (4, nS), (5, v_22)] ∧ Sep w0 w_24 [N_17, M_20] Z ∧ N_16.le N_17 ∧ Own Kd.u8 5 M_20 Mem.no v_22 x_19) → KJ_12 a w_24 := by
  clear H h hS a
  rintro x_18 x_19 H a w_24 ⟨v_22, N_17, M_20, h, hS, le_17, ho_23⟩
  unfold pack_Num.J1 at H
  refine hKJ_12 _ _ <| wp_seq <| wp_region_lit <| s_move h rfl rfl fun a h=>s_move h rfl rfl fun a h=>s_conv (((toU8 x_18).toNat : Int)) h rfl U3 U5 rfl (wrap_u8 _).symm fun a h=>?_
  have hq_30 : Reps Kd.u8 Mem.no ([toU8 x_18] : List UInt8) _ := ((Reps.one (d := Kd.u8) (x := toU8 x_18) (show Kd.u8.K _ _ [.int .u8 ((toU8 x_18).toNat : Int)] from rfl)).append (Reps.nil Kd.u8 _))
  refine s_buildSlice h rfl U26 ti5 rfl rfl rfl (.cons rfl .nil) rfl rfl rfl hS hq_30 rfl fun w_26 v_27 M_28 hS' ho_29 a h => ?_
  replace hS : Sep w0 w_26 [_, _, M_28] Z := hS'
  clear hS' hq_30
  obtain ⟨t_32, et_32, H⟩ := Option.bind_eq_some_iff.1 H
  refine s_append (J := Mem.no) (I' := Mem.no) (p := 1) 140737488355328 h rfl rfl rfl U26 ti5 rfl rfl rfl rfl hS rfl ho_23 (Src.flat flat_u8 (ho_29.src (hS.own 2))) (Mem.le.refl _) (Mem.le.refl _) et_32 fun w_33 v_34 M_35 hS' ho_36 a h => ?_
  replace hS : Sep w0 w_33 [_, M_35, _] Z := hS'
  clear hS'
  refine s_assign h rfl rfl fun a h=>wpList_nil ?_
  replace h : Fr 27 a [(4, v_34)] := h.keep [4]
  refine x_then_n <| wp_ret ?_
  obtain rfl := Option.some.inj H
  exact f_ret h (rs := [.tmp 4]) rfl (.tmp rfl .nil) ⟨_, rfl, v_34, N_17, M_35, rfl, (Sep.sel hS [0, 1] (by decide)), ho_36⟩
 clear hKJ_12
 replace hS : Sep w0 w_14 [_, _] Z := hS
 replace h : Fr 27 a [(1, iV t_13), (4, nS), (5, v_9)] := h.keep [1, 4, 5]
 refine c_block <| c_loop (fun k_45 a w_45 => ∃ (x_39 : Int) (x_40 : List UInt8) (v_43 : Value) (N_38 : Mem) (M_41 : Mem), pack_Num.L1 K (fun v => pack_Num.J1 K v.1 v.2) k_45 (x_39, x_40) = some r ∧ Fr 27 a [(1, iV x_39), (4, nS), (5, v_43)] ∧ Sep w0 w_45 [N_38, M_41] Z ∧ N_16.le N_38 ∧ Own Kd.u8 5 M_41 Mem.no v_43 x_40) K ⟨t_13, t_1, v_9, N_16, M_7, H, h, (Sep.sel hS [0, 1] (by decide)), (Mem.le.refl _), (hr_6.clip hk_10)⟩ (fun a w h => by obtain ⟨_, _, _, _, _, H, _⟩ := h; cases (show (none : Option ((List UInt8))) = some r from H)) ?_
 clear h hS a H
 rintro k_45 a w_45 KL_45 hKL_45 ⟨x_39, x_40, v_43, N_38, M_41, H, h, hS, le_38, ho_44⟩
 replace H : pack_Num.B1 K (fun v => pack_Num.J1 K v.1 v.2) (pack_Num.L1 K (fun v => pack_Num.J1 K v.1 v.2) k_45) x_39 x_40 = some r := H
 unfold pack_Num.B1 at H
 refine c_seq fun KJ_47 hKJ_47 => wp_seq <| wp_region_lit <| s_move h rfl rfl fun a h=>s_cmp (b := decide (x_39 ≥ 128)) h rfl rfl rfl (.inr (.inr (.inr (.inr (.inr ⟨rfl, rfl⟩))))) fun a h=>wpList_nil ?_
 replace h : Fr 27 a [(1, _), (4, _), (5, _), (12, .bool (decide (x_39 ≥ 128)))] := h.keep [1, 4, 5, 12]
 refine x_then_n ?_
 by_cases hc_48 : x_39 ≥ 128
 ·rw [if_pos hc_48] at H
  refine c_cond_t h rfl (decide_eq_true hc_48) <| wp_skip <| x_then_n (hKJ_47 _ _ ?_)
  refine wp_seq <| c_block <| wp_region_lit <| s_move h rfl rfl fun a h=>s_move h rfl rfl fun a h=>s_bits (i := x_39) (j := 127) (r := band .i64 x_39 127) h rfl rfl rfl (.inl ⟨rfl, rfl⟩) fun a h=>s_bits (i := band .i64 x_39 127) (j := 128) (r := bor .i64 (band .i64 x_39 127) 128) h rfl rfl rfl (.inr (.inl ⟨rfl, rfl⟩)) fun a h=>s_conv (((toU8 (bor .i64 (band .i64 x_39 127) 128)).toNat : Int)) h rfl U3 U5 rfl (wrap_u8 _).symm fun a h=>?_
  have hq_53 : Reps Kd.u8 Mem.no ([toU8 (bor .i64 (band .i64 x_39 127) 128)] : List UInt8) _ := ((Reps.one (d := Kd.u8) (x := toU8 (bor .i64 (band .i64 x_39 127) 128)) (show Kd.u8.K _ _ [.int .u8 ((toU8 (bor .i64 (band .i64 x_39 127) 128)).toNat : Int)] from rfl)).append (Reps.nil Kd.u8 _))
  refine s_buildSlice h rfl U26 ti5 rfl rfl rfl (.cons rfl .nil) rfl rfl rfl hS hq_53 rfl fun w_49 v_50 M_51 hS' ho_52 a h => ?_
  replace hS : Sep w0 w_49 [_, _, M_51] Z := hS'
  clear hS' hq_53
  obtain ⟨t_55, et_55, H⟩ := Option.bind_eq_some_iff.1 H
  refine s_append (J := Mem.no) (I' := Mem.no) (p := 1) 140737488355328 h rfl rfl rfl U26 ti5 rfl rfl rfl rfl hS rfl ho_44 (Src.flat flat_u8 (ho_52.src (hS.own 2))) (Mem.le.refl _) (Mem.le.refl _) et_55 fun w_56 v_57 M_58 hS' ho_59 a h => ?_
  replace hS : Sep w0 w_56 [_, M_58, _] Z := hS'
  clear hS'
  refine s_assign h rfl rfl fun a h=>wpList_nil <| x_block_n <| x_then_n <| wp_region_lit <| s_move h rfl rfl fun a h=>s_shift (r := shr .i64 x_39 7) h rfl rfl rfl (by decide) (.inr ⟨rfl, rfl⟩) fun a h=>s_assign h rfl rfl fun a h=>wpList_nil <| x_then_n (hKL_45 _ _ ?_)
  replace hS : Sep w0 w_56 [_, _, _] Z := hS
  replace h : Fr 27 a [(1, iV (shr .i64 x_39 7)), (4, _), (5, v_57)] := h.keep [1, 4, 5]
  exact ⟨shr .i64 x_39 7, t_55, v_57, N_38, M_58, H, h, (Sep.sel hS [0, 1] (by decide)), le_38, ho_59⟩
 ·rw [if_neg hc_48] at H
  refine c_cond_f h rfl (decide_eq_false hc_48) <| wp_exit (x_then_x (x_then_x (x_block_t ?_)))
  replace hS : Sep w0 w_45 [_, _] Z := hS
  replace h : Fr 27 a [(1, _), (4, _), (5, _)] := h.keep [1, 4, 5]
  exact x_then_n (hJ_j_25 x_39 x_40 H _ _ ⟨v_43, N_38, M_41, h, (Sep.sel hS [0, 1] (by decide)), le_38, ho_44⟩)

set_option maxHeartbeats 4000000 in
set_option maxRecDepth 20000 in
theorem pack_Bytes.calls (K : Nat) (x0 : List UInt8) (p0_0 : Value) (x1 : List UInt8) (p1_1 : Value) (r : (List UInt8)) (w0 w : World) (Z A : Mem) (hA : A.le Z) (hS : Sep w0 w [] Z) (hp0_0 : Rd Kd.u8 A p0_0 x0) (hp1_1 : Rd Kd.u8 A p1_1 x1)
    (H : pack_Bytes.f K x0 x1 = some r) :
    Calls Try.prog 66 [p0_0, p1_1].toArray w (Ret fun v w' => ∃ (u0 : Value) (N : Mem) (M0 : Mem), v = u0 ∧ Sep w0 w' [N, M0] Z ∧ Own Kd.u8 5 M0 Mem.no u0 r) := by
 unfold pack_Bytes.f at H
 refine f_enter _ Try.func66 rfl Try.ntmps66 rfl fun a h=>?_
 replace h : Fr 11 a [(0, p0_0), (1, p1_1)] := h
 replace hS := hS.start
 replace hS : Sep w0 w [_] Z := hS
 refine wp_seq <| wp_region_lit <| s_assign h rfl rfl fun a h=>wpList_nil <| x_then_n <| wp_seq <| wp_region_lit <| s_move h rfl rfl fun a h=>s_move h rfl rfl fun a h=>s_len h rfl U26 rfl hp1_1 fun a h=>?_
 obtain ⟨t_1, et_1, H⟩ := Option.bind_eq_some_iff.1 H
 refine s_call h rfl Try.call64 rfl (pack_Num.calls K x0 _ (x1.length : Int) t_1 w0 _ _ _ (Mem.le.refl _) (hS.enter [] (by decide)) (hp0_0.mono (hA.trans (hS.le_zed []))) et_1) ?_
 rintro v_5 w_2 ⟨_, N_3, M_7, rfl, hS', hr_6⟩
 intro a h
 obtain ⟨N_4, hS'', le_4, ln_4⟩ := hS.call [] (by decide) rfl (l' := []) (ow := [M_7]) rfl hS'
 replace hS : Sep w0 w_2 [N_4, M_7] Z := hS''
 clear hS' hS''
 refine s_move h rfl rfl fun a h=>?_
 obtain ⟨t_9, et_9, H⟩ := Option.bind_eq_some_iff.1 H
 refine s_append (J := Mem.no) (I' := Mem.no) (p := 1) 140737488355328 h rfl rfl rfl U26 ti5 rfl rfl rfl rfl hS rfl hr_6 (Src.flat flat_u8 (hp1_1.src (hA.trans hS.old))) (Mem.le.refl _) (Mem.le.refl _) et_9 fun w_10 v_11 M_12 hS' ho_13 a h => ?_
 replace hS : Sep w0 w_10 [_, M_12] Z := hS'
 clear hS'
 refine s_assign h rfl rfl fun a h=>wpList_nil <| x_then_n <| wp_ret ?_
 obtain rfl := Option.some.inj H
 exact f_ret h (rs := [.tmp 4]) rfl (.tmp rfl .nil) ⟨_, rfl, v_11, N_4, M_12, rfl, (Sep.sel hS [0, 1] (by decide)), ho_13⟩

set_option maxHeartbeats 4000000 in
set_option maxRecDepth 20000 in
theorem mesg_row.calls (K : Nat) (x0 : List UInt8) (p0_0 : Value) (x1 : List Int) (p1_1 : Value) (r : (List UInt8)) (w0 w : World) (Z A : Mem) (hA : A.le Z) (hS : Sep w0 w [] Z) (hp0_0 : Rd Kd.u8 A p0_0 x0) (hp1_1 : Rd (Kd.int .i64) A p1_1 x1)
    (H : mesg_row.f K x0 x1 = some r) :
    Calls Try.prog 67 [p0_0, p1_1].toArray w (Ret fun v w' => ∃ (u0 : Value) (N : Mem) (M0 : Mem), v = u0 ∧ Sep w0 w' [N, M0] Z ∧ Own Kd.u8 5 M0 Mem.no u0 r) := by
 unfold mesg_row.f at H
 refine f_enter _ Try.func67 rfl Try.ntmps67 rfl fun a h=>?_
 replace h : Fr 22 a [(0, p0_0), (1, p1_1)] := h
 replace hS := hS.start
 replace hS : Sep w0 w [_] Z := hS
 refine wp_seq <| wp_region_lit <| s_assign h rfl rfl fun a h=>wpList_nil <| x_then_n <| wp_seq <| wp_region_lit <| s_move h rfl rfl fun a h=>s_move h rfl rfl fun a h=>s_len h rfl U22 rfl hp1_1 fun a h=>?_
 obtain ⟨t_1, et_1, H⟩ := Option.bind_eq_some_iff.1 H
 refine s_call h rfl Try.call64 rfl (pack_Num.calls K x0 _ (x1.length : Int) t_1 w0 _ _ _ (Mem.le.refl _) (hS.enter [] (by decide)) (hp0_0.mono (hA.trans (hS.le_zed []))) et_1) ?_
 rintro v_5 w_2 ⟨_, N_3, M_7, rfl, hS', hr_6⟩
 intro a h
 obtain ⟨N_4, hS'', le_4, ln_4⟩ := hS.call [] (by decide) rfl (l' := []) (ow := [M_7]) rfl hS'
 replace hS : Sep w0 w_2 [N_4, M_7] Z := hS''
 clear hS' hS''
 refine s_assign h rfl rfl fun a h=>wpList_nil <| x_then_n <| c_seq fun KJ_9 hKJ_9 => wp_seq <| wp_region_lit <| s_move h rfl rfl fun a h=>s_len h rfl U22 rfl hp1_1 fun a h=>s_move h rfl rfl fun a h=>wpList_nil <| x_then_n ?_
 have hJ_j_17 : ∀ (x_11 : List UInt8), mesg_row.J1 K x_11 = some r → ∀ (a : Act) (w_16 : World), (∃ (v_14 : Value) (N_10 : Mem) (M_12 : Mem), Fr 22 a [(0, v_14), (4, nS)] ∧ Sep w0 w_16 [N_10, Mem.no, M_12] Z ∧ N_4.le N_10 ∧ Own Kd.u8 5 M_12 Mem.no v_14 x_11) → KJ_9 a w_16 := by
  clear H h hS a
  rintro x_11 H a w_16 ⟨v_14, N_10, M_12, h, hS, le_10, ho_15⟩
  unfold mesg_row.J1 at H
  refine hKJ_9 _ _ <| wp_seq <| wp_region_lit <| s_move h rfl rfl fun a h=>s_assign h rfl rfl fun a h=>wpList_nil ?_
  replace h : Fr 22 a [(4, v_14)] := h.keep [4]
  refine x_then_n <| wp_ret ?_
  obtain rfl := Option.some.inj H
  exact f_ret h (rs := [.tmp 4]) rfl (.tmp rfl .nil) ⟨_, rfl, v_14, N_10, M_12, rfl, (Sep.sel hS [0, 2] (by decide)), ho_15⟩
 clear hKJ_9
 replace hS : Sep w0 w_2 [_, _] Z := hS
 replace h : Fr 22 a [(0, v_5), (4, nS), (11, p1_1), (12, iV (x1.length : Int)), (13, iV 0)] := h.keep [0, 4, 11, 12, 13]
 refine c_block <| c_loop (fun k_25 a w_25 => ∃ (x_19 : List UInt8) (x_24 : Int) (v_22 : Value) (N_18 : Mem) (M_20 : Mem), mesg_row.L1 K x1 (fun v => mesg_row.J1 K v) k_25 (x_19, x_24) = some r ∧ Fr 22 a [(0, v_22), (4, nS), (11, p1_1), (12, iV (x1.length : Int)), (13, iV x_24)] ∧ Sep w0 w_25 [N_18, Mem.no, M_20] Z ∧ N_4.le N_18 ∧ Own Kd.u8 5 M_20 Mem.no v_22 x_19) K ⟨t_1, 0, v_5, N_4, M_7, H, h, (Sep.sel hS [0, 1000, 1] (by decide)), (Mem.le.refl _), hr_6⟩ (fun a w h => by obtain ⟨_, _, _, _, _, H, _⟩ := h; cases (show (none : Option ((List UInt8))) = some r from H)) ?_
 clear h hS a H
 rintro k_25 a w_25 KL_25 hKL_25 ⟨x_19, x_24, v_22, N_18, M_20, H, h, hS, le_18, ho_23⟩
 replace H : mesg_row.B1 K x1 (fun v => mesg_row.J1 K v) (mesg_row.L1 K x1 (fun v => mesg_row.J1 K v) k_25) x_19 x_24 = some r := H
 unfold mesg_row.B1 at H
 refine wp_seq <| wp_region_lit <| s_cmp (b := decide (x_24 < (x1.length : Int))) h rfl rfl rfl (.inr (.inr (.inl ⟨rfl, rfl⟩))) fun a h=>wpList_nil ?_
 replace h : Fr 22 a [(0, _), (4, _), (11, _), (12, _), (13, _), (14, .bool (decide (x_24 < (x1.length : Int))))] := h.keep [0, 4, 11, 12, 13, 14]
 refine x_then_n <| c_seq fun KJ_27 hKJ_27 => ?_
 by_cases hc_28 : x_24 < (x1.length : Int)
 ·rw [if_pos hc_28] at H
  refine c_cond_t h rfl (decide_eq_true hc_28) <| wp_skip <| x_then_n (hKJ_27 _ _ ?_)
  refine wp_seq <| c_block <| wp_seq <| wp_region_lit ?_
  obtain ⟨t_29, et_29, H⟩ := Option.bind_eq_some_iff.1 H
  refine v_index h rfl U22 ti3 rfl rfl rfl hp1_1 (hA.trans hS.old) et_29 fun ad_30 cs_31 hk_32 hc_33 => ?_
  obtain rfl := (show cs_31 = [iV t_29] from hk_32)
  intro a h
  refine s_load h rfl rfl (el_one (o := 0) hc_33 U3 rfl rfl) fun a h=>s_assign h rfl rfl fun a h=>wpList_nil <| x_then_n <| wp_region_lit <| s_move h rfl rfl fun a h=>s_move h rfl rfl fun a h=>?_
  obtain ⟨t_34, et_34, H⟩ := Option.bind_eq_some_iff.1 H
  refine s_call h rfl Try.call64 rfl (pack_Num.calls K x_19 _ t_29 t_34 w0 _ _ _ (Mem.le.refl _) (hS.enter [] (by decide)) (ho_23.rd (hS.own_zed [] 1 (by decide)) (Mem.no_le _)) et_34) ?_
  rintro v_38 w_35 ⟨_, N_36, M_40, rfl, hS', hr_39⟩
  intro a h
  obtain ⟨N_37, hS'', le_37, ln_37⟩ := hS.call [] (by decide) rfl (l' := []) (ow := [M_40]) rfl hS'
  replace hS : Sep w0 w_35 [N_37, _, _, M_40] Z := hS''
  clear hS' hS''
  refine s_assign h rfl rfl fun a h=>wpList_nil <| x_block_n <| x_then_n <| wp_region_lit <| s_arith (r := w64 (x_24 + 1)) h rfl rfl rfl (.inl ⟨rfl, rfl⟩) fun a h=>s_move h rfl rfl fun a h=>wpList_nil <| x_then_n (hKL_25 _ _ ?_)
  replace hS : Sep w0 w_35 [_, _, _, _] Z := hS
  replace h : Fr 22 a [(0, v_38), (4, _), (11, _), (12, _), (13, iV (w64 (x_24 + 1)))] := h.keep [0, 4, 11, 12, 13]
  exact ⟨t_34, w64 (x_24 + 1), v_38, N_37, M_40, H, h, (Sep.sel hS [0, 1000, 3] (by decide)), (le_18.trans le_37), hr_39⟩
 ·rw [if_neg hc_28] at H
  refine c_cond_f h rfl (decide_eq_false hc_28) <| wp_exit (x_then_x (x_then_x (x_block_t ?_)))
  replace hS : Sep w0 w_25 [_, _, _] Z := hS
  replace h : Fr 22 a [(0, _), (4, _)] := h.keep [0, 4]
  exact x_then_n (hJ_j_17 x_19 H _ _ ⟨v_22, N_18, M_20, h, (Sep.sel hS [0, 1000, 2] (by decide)), le_18, ho_23⟩)

set_option maxHeartbeats 4000000 in
set_option maxRecDepth 20000 in
theorem mach_PutEntry.calls (K : Nat) (x0 : List UInt8) (p0_0 : Value) (x1 : api_Entry) (p1_1 : Value) (p1_2 : Value) (p1_3 : Value) (r : (List UInt8)) (w0 w : World) (Z A : Mem) (hA : A.le Z) (hS : Sep w0 w [] Z) (hp0_0 : Rd Kd.u8 A p0_0 x0) (hp1_1 : Rd Kd.u8 A p1_1 x1.Cmd.Key) (hp1_2 : Rd Kd.u8 A p1_2 x1.Cmd.Val) (hp1_3 : Rd Kd.u8 A p1_3 x1.Cmd.Old)
    (H : mach_PutEntry.f K x0 x1 = some r) :
    Calls Try.prog 68 [p0_0, .agg ([iV x1.Sess, iV x1.Seq, iV x1.Cmd.Kind, iV x1.Cmd.Who, p1_1, p1_2, p1_3] : List Value).toArray].toArray w (Ret fun v w' => ∃ (u0 : Value) (N : Mem) (M0 : Mem), v = u0 ∧ Sep w0 w' [N, M0] Z ∧ Own Kd.u8 5 M0 Mem.no u0 r) := by
 unfold mach_PutEntry.f at H
 refine f_enter _ Try.func68 rfl Try.ntmps68 rfl fun a h=>?_
 replace h : Fr 49 a [(0, p0_0), (1, .agg ([iV x1.Sess, iV x1.Seq, iV x1.Cmd.Kind, iV x1.Cmd.Who, p1_1, p1_2, p1_3] : List Value).toArray)] := h
 replace hS := hS.start
 replace hS : Sep w0 w [_] Z := hS
 refine wp_seq <| wp_region_lit <| v_box (vs := [iV x1.Sess, iV x1.Seq, iV x1.Cmd.Kind, iV x1.Cmd.Who, p1_1, p1_2, p1_3]) h rfl rfl rfl hS fun w_1 g_2 hS' a h => ?_
 replace hS : Sep w0 w_1 [_, Mem.one g_2 (.cells ([iV x1.Sess, iV x1.Seq, iV x1.Cmd.Kind, iV x1.Cmd.Who, p1_1, p1_2, p1_3] : List Value).toArray 30 (0, 0))] Z := hS'
 clear hS'
 refine s_assign h rfl rfl fun a h=>wpList_nil <| x_then_n <| c_seq fun KJ_3 hKJ_3 => wp_seq <| wp_region_lit <| s_fieldAddr h rfl U30 rfl ti3 rfl rfl fun a h=>s_load h rfl rfl (hS.load_one (p := 1) rfl U3 rfl rfl) fun a h=>s_fieldAddr h rfl U30 rfl ti3 rfl rfl fun a h=>s_load h rfl rfl (hS.load_one (p := 1) rfl U3 rfl rfl) fun a h=>s_fieldAddr h rfl U30 rfl ti28 rfl rfl fun a h=>s_fieldAddr h rfl U28 rfl ti3 rfl rfl fun a h=>?_
 refine s_load h rfl rfl (hS.load_one (p := 1) rfl U3 rfl rfl) fun a h=>s_fieldAddr h rfl U30 rfl ti28 rfl rfl fun a h=>s_fieldAddr h rfl U28 rfl ti3 rfl rfl fun a h=>s_load h rfl rfl (hS.load_one (p := 1) rfl U3 rfl rfl) fun a h=>?_
 have hq_8 : Reps (Kd.int .i64) Mem.no ([x1.Sess, x1.Seq, x1.Cmd.Kind, x1.Cmd.Who] : List Int) _ := ((Reps.one (d := (Kd.int .i64)) (x := x1.Sess) (show (Kd.int .i64).K _ _ [iV x1.Sess] from rfl)).append ((Reps.one (d := (Kd.int .i64)) (x := x1.Seq) (show (Kd.int .i64).K _ _ [iV x1.Seq] from rfl)).append ((Reps.one (d := (Kd.int .i64)) (x := x1.Cmd.Kind) (show (Kd.int .i64).K _ _ [iV x1.Cmd.Kind] from rfl)).append ((Reps.one (d := (Kd.int .i64)) (x := x1.Cmd.Who) (show (Kd.int .i64).K _ _ [iV x1.Cmd.Who] from rfl)).append (Reps.nil (Kd.int .i64) _)))))
 refine s_buildSlice h rfl U22 ti3 rfl rfl rfl (.cons rfl (.cons rfl (.cons rfl (.cons rfl .nil)))) rfl rfl rfl hS hq_8 rfl fun w_4 v_5 M_6 hS' ho_7 a h => ?_
 replace hS : Sep w0 w_4 [_, _, M_6] Z := hS'
 clear hS' hq_8
 refine s_lenO h rfl U22 rfl ho_7 fun a h=>s_move h rfl rfl fun a h=>wpList_nil <| x_then_n ?_
 have hJ_j_17 : ∀ (x_11 : List UInt8), mach_PutEntry.J1 K x1 x_11 = some r → ∀ (a : Act) (w_16 : World), (∃ (v_14 : Value) (N_10 : Mem) (M_12 : Mem), Fr 49 a [(0, v_14), (3, .pointer (some ⟨g_2, 0, none⟩)), (4, nS)] ∧ Sep w0 w_16 [N_10, Mem.one g_2 (.cells ([iV x1.Sess, iV x1.Seq, iV x1.Cmd.Kind, iV x1.Cmd.Who, p1_1, p1_2, p1_3] : List Value).toArray 30 (0, 0)), Mem.no, M_12] Z ∧ Mem.no.le N_10 ∧ Own Kd.u8 5 M_12 Mem.no v_14 x_11) → KJ_3 a w_16 := by
  clear H h hS a
  rintro x_11 H a w_16 ⟨v_14, N_10, M_12, h, hS, le_10, ho_15⟩
  unfold mach_PutEntry.J1 at H
  refine hKJ_3 _ _ <| c_seq fun KJ_18 hKJ_18 => wp_seq <| wp_region_lit <| s_fieldAddr h rfl U30 rfl ti28 rfl rfl fun a h=>s_fieldAddr h rfl U28 rfl ti26 rfl rfl fun a h=>s_load h rfl rfl (hS.load_one (p := 1) rfl U26 rfl rfl) fun a h=>s_fieldAddr h rfl U30 rfl ti28 rfl rfl fun a h=>s_fieldAddr h rfl U28 rfl ti26 rfl rfl fun a h=>s_load h rfl rfl (hS.load_one (p := 1) rfl U26 rfl rfl) fun a h=>s_fieldAddr h rfl U30 rfl ti28 rfl rfl fun a h=>s_fieldAddr h rfl U28 rfl ti26 rfl rfl fun a h=>?_
  refine s_load h rfl rfl (hS.load_one (p := 1) rfl U26 rfl rfl) fun a h=>?_
  have hq_23 : Reps (Kd.slice Kd.u8) (A.un N_10) ([x1.Cmd.Key, x1.Cmd.Val, x1.Cmd.Old] : List (List UInt8)) _ := ((Reps.one (d := (Kd.slice Kd.u8)) (x := x1.Cmd.Key) ⟨_, rfl, (hp1_1.mono (Mem.le_un _ _))⟩).append ((Reps.one (d := (Kd.slice Kd.u8)) (x := x1.Cmd.Val) ⟨_, rfl, (hp1_2.mono (Mem.le_un _ _))⟩).append ((Reps.one (d := (Kd.slice Kd.u8)) (x := x1.Cmd.Old) ⟨_, rfl, (hp1_3.mono (Mem.le_un _ _))⟩).append (Reps.nil (Kd.slice Kd.u8) _))))
  refine s_buildSlice h rfl U93 ti26 rfl rfl rfl (.cons hp1_1.cells (.cons hp1_2.cells (.cons hp1_3.cells .nil))) rfl rfl rfl hS hq_23 rfl fun w_19 v_20 M_21 hS' ho_22 a h => ?_
  replace hS : Sep w0 w_19 [_, _, _, _, M_21] Z := hS'
  clear hS' hq_23
  refine s_lenO h rfl U93 rfl ho_22 fun a h=>s_move h rfl rfl fun a h=>wpList_nil <| x_then_n ?_
  have hJ_j_32 : ∀ (x_26 : List UInt8), mach_PutEntry.J2 K x_26 = some r → ∀ (a : Act) (w_31 : World), (∃ (v_29 : Value) (N_25 : Mem) (M_27 : Mem), Fr 49 a [(0, v_29), (4, nS)] ∧ Sep w0 w_31 [N_25, Mem.no, Mem.no, Mem.no, Mem.no, M_27] Z ∧ N_10.le N_25 ∧ Own Kd.u8 5 M_27 Mem.no v_29 x_26) → KJ_18 a w_31 := by
   clear H h hS a
   rintro x_26 H a w_31 ⟨v_29, N_25, M_27, h, hS, le_25, ho_30⟩
   unfold mach_PutEntry.J2 at H
   refine hKJ_18 _ _ <| wp_seq <| wp_region_lit <| s_move h rfl rfl fun a h=>s_assign h rfl rfl fun a h=>wpList_nil ?_
   replace h : Fr 49 a [(4, v_29)] := h.keep [4]
   refine x_then_n <| wp_ret ?_
   obtain rfl := Option.some.inj H
   exact f_ret h (rs := [.tmp 4]) rfl (.tmp rfl .nil) ⟨_, rfl, v_29, N_25, M_27, rfl, (Sep.sel hS [0, 5] (by decide)), ho_30⟩
  clear hKJ_18
  replace hS : Sep w0 w_19 [_, _, _, _, _] Z := hS
  replace h : Fr 49 a [(0, _), (4, _), (38, v_20), (39, iV (([x1.Cmd.Key, x1.Cmd.Val, x1.Cmd.Old] : List (List UInt8)).length : Int)), (40, iV 0)] := h.keep [0, 4, 38, 39, 40]
  refine c_block <| c_loop (fun k_40 a w_40 => ∃ (x_34 : List UInt8) (x_39 : Int) (v_37 : Value) (N_33 : Mem) (M_35 : Mem), mach_PutEntry.L1 K x1 (fun v => mach_PutEntry.J2 K v) k_40 (x_34, x_39) = some r ∧ Fr 49 a [(0, v_37), (4, nS), (38, v_20), (39, iV (([x1.Cmd.Key, x1.Cmd.Val, x1.Cmd.Old] : List (List UInt8)).length : Int)), (40, iV x_39)] ∧ Sep w0 w_40 [N_33, Mem.no, Mem.no, Mem.no, M_21, M_35] Z ∧ N_10.le N_33 ∧ Own Kd.u8 5 M_35 Mem.no v_37 x_34) K ⟨x_11, 0, v_14, N_10, M_12, H, h, (Sep.sel hS [0, 1000, 1001, 1002, 4, 3] (by decide)), (Mem.le.refl _), ho_15⟩ (fun a w h => by obtain ⟨_, _, _, _, _, H, _⟩ := h; cases (show (none : Option ((List UInt8))) = some r from H)) ?_
  clear h hS a H
  rintro k_40 a w_40 KL_40 hKL_40 ⟨x_34, x_39, v_37, N_33, M_35, H, h, hS, le_33, ho_38⟩
  replace H : mach_PutEntry.B1 K x1 (fun v => mach_PutEntry.J2 K v) (mach_PutEntry.L1 K x1 (fun v => mach_PutEntry.J2 K v) k_40) x_34 x_39 = some r := H
  unfold mach_PutEntry.B1 at H
  refine wp_seq <| wp_region_lit <| s_cmp (b := decide (x_39 < (([x1.Cmd.Key, x1.Cmd.Val, x1.Cmd.Old] : List (List UInt8)).length : Int))) h rfl rfl rfl (.inr (.inr (.inl ⟨rfl, rfl⟩))) fun a h=>wpList_nil ?_
  replace h : Fr 49 a [(0, _), (4, _), (38, _), (39, _), (40, _), (41, .bool (decide (x_39 < (([x1.Cmd.Key, x1.Cmd.Val, x1.Cmd.Old] : List (List UInt8)).length : Int))))] := h.keep [0, 4, 38, 39, 40, 41]
  refine x_then_n <| c_seq fun KJ_42 hKJ_42 => ?_
  by_cases hc_43 : x_39 < (([x1.Cmd.Key, x1.Cmd.Val, x1.Cmd.Old] : List (List UInt8)).length : Int)
  ·rw [if_pos hc_43] at H
   refine c_cond_t h rfl (decide_eq_true hc_43) <| wp_skip <| x_then_n (hKJ_42 _ _ ?_)
   refine wp_seq <| c_block <| wp_seq <| wp_region_lit ?_
   obtain ⟨t_44, et_44, H⟩ := Option.bind_eq_some_iff.1 H
   refine v_indexO h rfl U93 ti26 rfl rfl rfl ho_22 (hS.own 4) et_44 fun ad_45 cs_46 hk_47 hc_48 => ?_
   obtain ⟨v_49, rfl, hr_50⟩ := hk_47
   intro a h
   refine s_load h rfl rfl (el_one (o := 0) hc_48 U26 rfl rfl) fun a h=>s_assign h rfl rfl fun a h=>wpList_nil <| x_then_n <| wp_region_lit <| s_move h rfl rfl fun a h=>s_move h rfl rfl fun a h=>?_
   obtain ⟨t_51, et_51, H⟩ := Option.bind_eq_some_iff.1 H
   refine s_call h rfl Try.call66 rfl (pack_Bytes.calls K x_34 _ t_44 _ t_51 w0 _ _ _ (Mem.le.refl _) (hS.enter [] (by decide)) (ho_38.rd (hS.own_zed [] 4 (by decide)) (Mem.no_le _)) (hr_50.mono (Mem.un_le (hA.trans (hS.le_zed [])) (le_33.trans (hS.new_zed [])))) et_51) ?_
   rintro v_55 w_52 ⟨_, N_53, M_57, rfl, hS', hr_56⟩
   intro a h
   obtain ⟨N_54, hS'', le_54, ln_54⟩ := hS.call [] (by decide) rfl (l' := []) (ow := [M_57]) rfl hS'
   replace hS : Sep w0 w_52 [N_54, _, _, _, _, _, M_57] Z := hS''
   clear hS' hS''
   refine s_assign h rfl rfl fun a h=>wpList_nil <| x_block_n <| x_then_n <| wp_region_lit <| s_arith (r := w64 (x_39 + 1)) h rfl rfl rfl (.inl ⟨rfl, rfl⟩) fun a h=>s_move h rfl rfl fun a h=>wpList_nil <| x_then_n (hKL_40 _ _ ?_)
   replace hS : Sep w0 w_52 [_, _, _, _, _, _, _] Z := hS
   replace h : Fr 49 a [(0, v_55), (4, _), (38, _), (39, _), (40, iV (w64 (x_39 + 1)))] := h.keep [0, 4, 38, 39, 40]
   exact ⟨t_51, w64 (x_39 + 1), v_55, N_54, M_57, H, h, (Sep.sel hS [0, 1000, 1001, 1002, 4, 6] (by decide)), (le_33.trans le_54), hr_56⟩
  ·rw [if_neg hc_43] at H
   refine c_cond_f h rfl (decide_eq_false hc_43) <| wp_exit (x_then_x (x_then_x (x_block_t ?_)))
   replace hS : Sep w0 w_40 [_, _, _, _, _, _] Z := hS
   replace h : Fr 49 a [(0, _), (4, _)] := h.keep [0, 4]
   exact x_then_n (hJ_j_32 x_34 H _ _ ⟨v_37, N_33, M_35, h, (Sep.sel hS [0, 1000, 1001, 1002, 1003, 5] (by decide)), le_33, ho_38⟩)
 clear hKJ_3
 refine c_block <| c_loop1 (fun k_66 a w_66 => ∃ (x_60 : List UInt8) (x_65 : Int) (v_63 : Value) (N_59 : Mem) (M_61 : Mem), mach_PutEntry.L2 K x1 (fun v => mach_PutEntry.J1 K x1 v) k_66 (x_60, x_65) = some r ∧ Fr 49 a [(0, v_63), (3, .pointer (some ⟨g_2, 0, none⟩)), (4, nS), (19, v_5), (20, iV (([x1.Sess, x1.Seq, x1.Cmd.Kind, x1.Cmd.Who] : List Int).length : Int)), (21, iV x_65)] ∧ Sep w0 w_66 [N_59, Mem.one g_2 (.cells ([iV x1.Sess, iV x1.Seq, iV x1.Cmd.Kind, iV x1.Cmd.Who, p1_1, p1_2, p1_3] : List Value).toArray 30 (0, 0)), M_6, M_61] Z ∧ Mem.no.le N_59 ∧ Own Kd.u8 5 M_61 Mem.no v_63 x_60) K (fun KL_66 hKL_66 => ?_) (fun a w h => by obtain ⟨_, _, _, _, _, H, _⟩ := h; cases (show (none : Option ((List UInt8))) = some r from H)) ?_
 ·refine wp_seq <| wp_region_lit <| s_cmp (b := true) h rfl rfl rfl (.inr (.inr (.inl ⟨rfl, rfl⟩))) fun a h=>wpList_nil <| x_then_n <| c_seq fun KJ_68 hKJ_68 => c_cond_t h rfl rfl <| wp_skip <| x_then_n (hKJ_68 _ _ ?_)
  refine wp_seq <| c_block <| wp_seq <| wp_region_lit ?_
  obtain ⟨t_69, et_69, H⟩ := Option.bind_eq_some_iff.1 H
  refine v_indexO h rfl U22 ti3 rfl rfl rfl ho_7 (hS.own 2) et_69 fun ad_70 cs_71 hk_72 hc_73 => ?_
  obtain rfl := (show cs_71 = [iV t_69] from hk_72)
  intro a h
  refine s_load h rfl rfl (el_one (o := 0) hc_73 U3 rfl rfl) fun a h=>s_assign h rfl rfl fun a h=>wpList_nil ?_
  replace h : Fr 49 a [(0, _), (3, .pointer (some ⟨g_2, 0, none⟩)), (4, nS), (6, iV t_69), (19, v_5), (20, iV (([x1.Sess, x1.Seq, x1.Cmd.Kind, x1.Cmd.Who] : List Int).length : Int)), (21, iV 0)] := h.keep [0, 3, 4, 6, 19, 20, 21]
  refine x_then_n <| wp_region_lit <| s_move h rfl rfl fun a h=>s_move h rfl rfl fun a h=>?_
  obtain ⟨t_74, et_74, H⟩ := Option.bind_eq_some_iff.1 H
  refine s_call h rfl Try.call64 rfl (pack_Num.calls K x0 _ t_69 t_74 w0 _ _ _ (Mem.le.refl _) (hS.enter [] (by decide)) (hp0_0.mono (hA.trans (hS.le_zed []))) et_74) ?_
  rintro v_78 w_75 ⟨_, N_76, M_80, rfl, hS', hr_79⟩
  intro a h
  obtain ⟨N_77, hS'', le_77, ln_77⟩ := hS.call [] (by decide) rfl (l' := []) (ow := [M_80]) rfl hS'
  replace hS : Sep w0 w_75 [N_77, _, _, M_80] Z := hS''
  clear hS' hS''
  refine s_assign h rfl rfl fun a h=>wpList_nil <| x_block_n <| x_then_n <| wp_region_lit <| s_arith (r := w64 (0 + 1)) h rfl rfl rfl (.inl ⟨rfl, rfl⟩) fun a h=>s_move h rfl rfl fun a h=>wpList_nil <| x_then_n (hKL_66 _ _ ?_)
  replace hS : Sep w0 w_75 [_, _, _, _] Z := hS
  replace h : Fr 49 a [(0, v_78), (3, _), (4, _), (19, _), (20, _), (21, iV (w64 (0 + 1)))] := h.keep [0, 3, 4, 19, 20, 21]
  exact ⟨t_74, w64 (0 + 1), v_78, N_77, M_80, H, h, (Sep.sel hS [0, 1, 2, 3] (by decide)), le_77, hr_79⟩
 clear h hS a H
 rintro k_66 a w_66 KL_66 hKL_66 ⟨x_60, x_65, v_63, N_59, M_61, H, h, hS, le_59, ho_64⟩
 replace H : mach_PutEntry.B2 K x1 (fun v => mach_PutEntry.J1 K x1 v) (mach_PutEntry.L2 K x1 (fun v => mach_PutEntry.J1 K x1 v) k_66) x_60 x_65 = some r := H
 unfold mach_PutEntry.B2 at H
 refine wp_seq <| wp_region_lit <| s_cmp (b := decide (x_65 < (([x1.Sess, x1.Seq, x1.Cmd.Kind, x1.Cmd.Who] : List Int).length : Int))) h rfl rfl rfl (.inr (.inr (.inl ⟨rfl, rfl⟩))) fun a h=>wpList_nil <| x_then_n <| c_seq fun KJ_82 hKJ_82 => ?_
 by_cases hc_83 : x_65 < (([x1.Sess, x1.Seq, x1.Cmd.Kind, x1.Cmd.Who] : List Int).length : Int)
 ·rw [if_pos hc_83] at H
  refine c_cond_t h rfl (decide_eq_true hc_83) <| wp_skip <| x_then_n (hKJ_82 _ _ ?_)
  refine wp_seq <| c_block <| wp_seq <| wp_region_lit ?_
  obtain ⟨t_84, et_84, H⟩ := Option.bind_eq_some_iff.1 H
  refine v_indexO h rfl U22 ti3 rfl rfl rfl ho_7 (hS.own 2) et_84 fun ad_85 cs_86 hk_87 hc_88 => ?_
  obtain rfl := (show cs_86 = [iV t_84] from hk_87)
  intro a h
  refine s_load h rfl rfl (el_one (o := 0) hc_88 U3 rfl rfl) fun a h=>s_assign h rfl rfl fun a h=>wpList_nil ?_
  replace h : Fr 49 a [(0, _), (3, _), (4, _), (6, iV t_84), (19, _), (20, _), (21, _)] := h.keep [0, 3, 4, 6, 19, 20, 21]
  refine x_then_n <| wp_region_lit <| s_move h rfl rfl fun a h=>s_move h rfl rfl fun a h=>?_
  obtain ⟨t_89, et_89, H⟩ := Option.bind_eq_some_iff.1 H
  refine s_call h rfl Try.call64 rfl (pack_Num.calls K x_60 _ t_84 t_89 w0 _ _ _ (Mem.le.refl _) (hS.enter [] (by decide)) (ho_64.rd (hS.own_zed [] 2 (by decide)) (Mem.no_le _)) et_89) ?_
  rintro v_93 w_90 ⟨_, N_91, M_95, rfl, hS', hr_94⟩
  intro a h
  obtain ⟨N_92, hS'', le_92, ln_92⟩ := hS.call [] (by decide) rfl (l' := []) (ow := [M_95]) rfl hS'
  replace hS : Sep w0 w_90 [N_92, _, _, _, M_95] Z := hS''
  clear hS' hS''
  refine s_assign h rfl rfl fun a h=>wpList_nil <| x_block_n <| x_then_n <| wp_region_lit <| s_arith (r := w64 (x_65 + 1)) h rfl rfl rfl (.inl ⟨rfl, rfl⟩) fun a h=>s_move h rfl rfl fun a h=>wpList_nil <| x_then_n (hKL_66 _ _ ?_)
  replace hS : Sep w0 w_90 [_, _, _, _, _] Z := hS
  replace h : Fr 49 a [(0, v_93), (3, _), (4, _), (19, _), (20, _), (21, iV (w64 (x_65 + 1)))] := h.keep [0, 3, 4, 19, 20, 21]
  exact ⟨t_89, w64 (x_65 + 1), v_93, N_92, M_95, H, h, (Sep.sel hS [0, 1, 2, 4] (by decide)), (le_59.trans le_92), hr_94⟩
 ·rw [if_neg hc_83] at H
  refine c_cond_f h rfl (decide_eq_false hc_83) <| wp_exit (x_then_x (x_then_x (x_block_t ?_)))
  replace hS : Sep w0 w_66 [_, _, _, _] Z := hS
  replace h : Fr 49 a [(0, _), (3, _), (4, _)] := h.keep [0, 3, 4]
  exact x_then_n (hJ_j_17 x_60 H _ _ ⟨v_63, N_59, M_61, h, (Sep.sel hS [0, 1, 1001, 3] (by decide)), le_59, ho_64⟩)

set_option maxHeartbeats 4000000 in
set_option maxRecDepth 20000 in
theorem pack_Read.calls (x0 : List UInt8) (p0_0 : Value) (r : (List UInt8) × Bool) (w0 w : World) (Z A : Mem) (hA : A.le Z) (hS : Sep w0 w [] Z) (hp0_0 : Rd Kd.u8 A p0_0 x0)
    (H : pack_Read.f x0 = some r) :
    Calls Try.prog 69 [p0_0].toArray w (Ret fun v w' => ∃ (u0 : Nat) (u1 : Value) (N : Mem), v = .pointer (some ⟨u0, 0, none⟩) ∧ Sep w0 w' [N, Mem.one u0 (.cells ([u1, .bool r.2] : List Value).toArray 95 (0, 0))] Z ∧ Rd Kd.u8 N u1 r.1) := by
 unfold pack_Read.f at H
 refine f_enter _ Try.func69 rfl Try.ntmps69 rfl fun a h=>?_
 replace h : Fr 7 a [(0, p0_0)] := h
 replace hS := hS.start
 replace hS : Sep w0 w [_] Z := hS
 refine wp_seq <| wp_region_lit <| s_assign h rfl rfl fun a h=>wpList_nil <| x_then_n <| wp_seq <| wp_region_lit <| s_move h rfl rfl fun a h=>?_
 obtain ⟨t_1, et_1, H⟩ := Option.bind_eq_some_iff.1 H
 refine s_call h rfl Try.call30 rfl (slices_Clone_sbyte_byte.calls x0 _ t_1 w0 _ _ _ (Mem.le.refl _) (hS.enter [] (by decide)) (hp0_0.mono (hA.trans (hS.le_zed []))) et_1) ?_
 rintro v_5 w_2 ⟨_, N_3, M_7, rfl, hS', hr_6⟩
 intro a h
 obtain ⟨N_4, hS'', le_4, ln_4⟩ := hS.call [] (by decide) rfl (l' := []) (ow := [M_7]) rfl hS'
 replace hS : Sep w0 w_2 [N_4, M_7] Z := hS''
 clear hS' hS''
 refine s_build h rfl ti95 pl95 rfl (.cons hr_6.cells .nil) (cs := [v_5, .bool false]) (by kernel_rfl) fun a h=>v_box (vs := [v_5, .bool false]) h rfl rfl rfl hS fun w_9 g_10 hS' a h => ?_
 replace hS : Sep w0 w_9 [_, _, Mem.one g_10 (.cells ([v_5, .bool false] : List Value).toArray 95 (0, 0))] Z := hS'
 clear hS'
 refine s_assign h rfl rfl fun a h=>wpList_nil <| x_then_n <| wp_ret ?_
 obtain ⟨N_11, hS', le_11, lo_11⟩ := hS.freeze 0 rfl
 replace hS : Sep w0 w_9 [N_11, Mem.no, _] Z := hS'
 clear hS'
 obtain rfl := Option.some.inj H
 exact f_ret h (rs := [.tmp 2]) rfl (.tmp rfl .nil) ⟨_, rfl, g_10, v_5, N_11, rfl, (Sep.sel hS [0, 2] (by decide)), (hr_6.rd lo_11 (Mem.no_le _))⟩

set_option maxHeartbeats 4000000 in
set_option maxRecDepth 20000 in
theorem pack_Reader_fail.calls (g0 : Nat) (x0_b : List UInt8) (p0_0 : Value) (x0_bad : Bool) (r : Int × (List UInt8) × Bool) (w0 w : World) (Z A : Mem) (hA : A.le Z) (hS : Sep w0 w [Mem.one g0 (.cells ([p0_0, .bool x0_bad] : List Value).toArray 95 (0, 0))] Z) (hp0_0 : Rd Kd.u8 A p0_0 x0_b)
    (H : pack_Reader_fail.f x0_b x0_bad = some r) :
    Calls Try.prog 79 [.pointer (some ⟨g0, 0, none⟩)].toArray w (Ret fun v w' => ∃ (u0 : Value) (N : Mem), v = iV r.1 ∧ Sep w0 w' [N, Mem.one g0 (.cells ([u0, .bool r.2.2] : List Value).toArray 95 (0, 0))] Z ∧ Rd Kd.u8 (A.un N) u0 r.2.1) := by
 unfold pack_Reader_fail.f at H
 refine f_enter _ Try.func79 rfl Try.ntmps79 rfl fun a h=>?_
 replace h : Fr 9 a [(0, .pointer (some ⟨g0, 0, none⟩))] := h
 replace hS := hS.start
 replace hS : Sep w0 w [_, _] Z := hS
 refine wp_seq <| wp_region_lit <| s_assign h rfl rfl fun a h=>wpList_nil <| x_then_n <| wp_seq <| wp_region_lit <| s_move h rfl rfl fun a h=>s_move h rfl rfl fun a h=>s_nilCheck h rfl rfl fun a h=>s_fieldAddr h rfl U95 rfl ti26 rfl rfl fun a h=>?_
 obtain ⟨w_1, hs', hS'⟩ := hS.store (P := Try.prog) (p := 1) (o := 0) (t := 26) (v := nS) (vs := [nS]) rfl ti26 rfl rfl rfl (by intro u hu; simp only [List.mem_cons, List.not_mem_nil, or_false] at hu; rcases hu with rfl <;> rfl)
 refine s_store h rfl rfl hs' ?_
 replace hS : Sep w0 w_1 [_, Mem.one g0 (.cells ([nS, _] : List Value).toArray 95 (0, 0))] Z := hS'
 clear hs' hS'
 refine s_nilCheck h rfl rfl fun a h=>s_fieldAddr h rfl U95 rfl ti4 rfl rfl fun a h=>?_
 obtain ⟨w_2, hs', hS'⟩ := hS.store (P := Try.prog) (p := 1) (o := 1) (t := 4) (v := .bool true) (vs := [.bool true]) rfl ti4 rfl rfl rfl (by intro u hu; simp only [List.mem_cons, List.not_mem_nil, or_false] at hu; rcases hu with rfl <;> rfl)
 refine s_store h rfl rfl hs' ?_
 replace hS : Sep w0 w_2 [_, Mem.one g0 (.cells ([_, .bool true] : List Value).toArray 95 (0, 0))] Z := hS'
 clear hs' hS'
 refine wpList_nil <| x_then_n <| wp_seq <| wp_region_lit <| s_assign h rfl rfl fun a h=>wpList_nil <| x_then_n <| wp_ret ?_
 obtain rfl := Option.some.inj H
 exact f_ret h (rs := [.tmp 2]) rfl (.tmp rfl .nil) ⟨_, rfl, nS, Mem.no, rfl, (Sep.sel hS [0, 1] (by decide)), (Rd.nil _ _)⟩

set_option maxHeartbeats 4000000 in
set_option maxRecDepth 20000 in
theorem pack_Reader_Num.calls (K : Nat) (g0 : Nat) (x0_b : List UInt8) (p0_0 : Value) (x0_bad : Bool) (x1 : Int) (r : Int × (List UInt8) × Bool) (w0 w : World) (Z A : Mem) (hA : A.le Z) (hS : Sep w0 w [Mem.one g0 (.cells ([p0_0, .bool x0_bad] : List Value).toArray 95 (0, 0))] Z) (hp0_0 : Rd Kd.u8 A p0_0 x0_b)
    (H : pack_Reader_Num.f K x0_b x0_bad x1 = some r) :
    Calls Try.prog 70 [.pointer (some ⟨g0, 0, none⟩), iV x1].toArray w (Ret fun v w' => ∃ (u0 : Value) (N : Mem), v = iV r.1 ∧ Sep w0 w' [N, Mem.one g0 (.cells ([u0, .bool r.2.2] : List Value).toArray 95 (0, 0))] Z ∧ Rd Kd.u8 (A.un N) u0 r.2.1) := by
 unfold pack_Reader_Num.f at H
 refine f_enter _ Try.func70 rfl Try.ntmps70 rfl fun a h=>?_
 replace h : Fr 56 a [(0, .pointer (some ⟨g0, 0, none⟩)), (1, iV x1)] := h
 replace hS := hS.start
 replace hS : Sep w0 w [_, _] Z := hS
 refine wp_seq <| wp_region_lit <| s_assign h rfl rfl fun a h=>wpList_nil <| x_then_n <| wp_seq <| wp_region_lit <| s_assign h rfl rfl fun a h=>wpList_nil <| x_then_n <| c_seq fun KJ_1 hKJ_1 => wp_seq <| wp_region_lit ?_
 refine s_move h rfl rfl fun a h=>s_nilCheck h rfl rfl fun a h=>s_fieldAddr h rfl U95 rfl ti26 rfl rfl fun a h=>s_load h rfl rfl (hS.load_one (p := 1) rfl U26 rfl rfl) fun a h=>s_len h rfl U26 rfl hp0_0 fun a h=>s_move h rfl rfl fun a h=>wpList_nil <| x_then_n ?_
 have hJ_j_4 : pack_Reader_Num.J1 K x0_b x0_bad = some r → ∀ (a : Act) (w_3 : World), (∃ (N_2 : Mem), Fr 56 a [(0, .pointer (some ⟨g0, 0, none⟩)), (4, iV 0)] ∧ Sep w0 w_3 [N_2, Mem.one g0 (.cells ([p0_0, .bool x0_bad] : List Value).toArray 95 (0, 0))] Z ∧ Mem.no.le N_2) → KJ_1 a w_3 := by
  clear H h hS a
  rintro H a w_3 ⟨N_2, h, hS, le_2⟩
  unfold pack_Reader_Num.J1 at H
  refine hKJ_1 _ _ <| wp_seq <| wp_region_lit <| s_move h rfl rfl fun a h=>?_
  obtain ⟨t_5, et_5, H⟩ := Option.bind_eq_some_iff.1 H
  refine s_call h rfl Try.call79 rfl (pack_Reader_fail.calls _ x0_b _ x0_bad t_5 w0 _ _ A (hA.trans (hS.le_zed [0])) (hS.enter [0] (by decide)) hp0_0 et_5) ?_
  rintro _ w_6 ⟨v_9, N_7, rfl, hS', hr_10⟩
  intro a h
  obtain ⟨N_8, hS'', le_8, ln_8⟩ := hS.call [0] (by decide) rfl (l' := [Mem.one g0 (.cells ([v_9, .bool t_5.2.2] : List Value).toArray 95 (0, 0))]) (ow := []) rfl hS'
  replace hS : Sep w0 w_6 [N_8, Mem.one g0 (.cells ([v_9, .bool t_5.2.2] : List Value).toArray 95 (0, 0))] Z := hS''
  clear hS' hS''
  have hr_11 : Rd Kd.u8 (A.un N_8) v_9 t_5.2.1 := hr_10.mono (Mem.un_left ln_8)
  refine s_assign h rfl rfl fun a h=>wpList_nil ?_
  replace h : Fr 56 a [(4, iV t_5.1)] := h.keep [4]
  refine x_then_n <| wp_ret ?_
  obtain rfl := Option.some.inj H
  exact f_ret h (rs := [.tmp 4]) rfl (.tmp rfl .nil) ⟨_, rfl, v_9, N_8, rfl, (Sep.sel hS [0, 1] (by decide)), hr_11⟩
 clear hKJ_1
 replace hS : Sep w0 w [_, _] Z := hS
 replace h : Fr 56 a [(0, _), (1, _), (4, iV 0), (5, iV 0), (11, p0_0), (12, iV (x0_b.length : Int)), (13, iV 0)] := h.keep [0, 1, 4, 5, 11, 12, 13]
 refine c_block <| c_loop (fun k_15 a w_15 => ∃ (x_13 : Int) (x_14 : Int) (N_12 : Mem), pack_Reader_Num.L1 K x0_b x1 x0_bad (fun v => pack_Reader_Num.J1 K x0_b x0_bad) k_15 (x_13, x_14) = some r ∧ Fr 56 a [(0, .pointer (some ⟨g0, 0, none⟩)), (1, iV x1), (4, iV 0), (5, iV x_13), (11, p0_0), (12, iV (x0_b.length : Int)), (13, iV x_14)] ∧ Sep w0 w_15 [N_12, Mem.one g0 (.cells ([p0_0, .bool x0_bad] : List Value).toArray 95 (0, 0))] Z ∧ Mem.no.le N_12) K ⟨0, 0, Mem.no, H, h, (Sep.sel hS [0, 1] (by decide)), (Mem.le.refl _)⟩ (fun a w h => by obtain ⟨_, _, _, H, _⟩ := h; cases (show (none : Option (Int × (List UInt8) × Bool)) = some r from H)) ?_
 clear h hS a H
 rintro k_15 a w_15 KL_15 hKL_15 ⟨x_13, x_14, N_12, H, h, hS, le_12⟩
 replace H : pack_Reader_Num.B1 K x0_b x1 x0_bad (fun v => pack_Reader_Num.J1 K x0_b x0_bad) (pack_Reader_Num.L1 K x0_b x1 x0_bad (fun v => pack_Reader_Num.J1 K x0_b x0_bad) k_15) x_13 x_14 = some r := H
 unfold pack_Reader_Num.B1 at H
 refine wp_seq <| wp_region_lit <| s_cmp (b := decide (x_14 < (x0_b.length : Int))) h rfl rfl rfl (.inr (.inr (.inl ⟨rfl, rfl⟩))) fun a h=>wpList_nil ?_
 replace h : Fr 56 a [(0, _), (1, _), (4, _), (5, _), (11, _), (12, _), (13, _), (14, .bool (decide (x_14 < (x0_b.length : Int))))] := h.keep [0, 1, 4, 5, 11, 12, 13, 14]
 refine x_then_n <| c_seq fun KJ_17 hKJ_17 => ?_
 by_cases hc_18 : x_14 < (x0_b.length : Int)
 ·rw [if_pos hc_18] at H
  refine c_cond_t h rfl (decide_eq_true hc_18) <| wp_skip <| x_then_n (hKJ_17 _ _ ?_)
  refine wp_seq <| c_block <| wp_seq <| wp_region_lit <| s_move h rfl rfl fun a h=>?_
  obtain ⟨t_19, et_19, H⟩ := Option.bind_eq_some_iff.1 H
  refine v_index h rfl U26 ti5 rfl rfl rfl hp0_0 (hA.trans hS.old) et_19 fun ad_20 cs_21 hk_22 hc_23 => ?_
  obtain rfl := (show cs_21 = [.int .u8 (t_19.toNat : Int)] from hk_22)
  intro a h
  refine s_load h rfl rfl (el_one (o := 0) hc_23 U5 rfl rfl) fun a h=>s_assign h rfl rfl fun a h=>s_assign h rfl rfl fun a h=>wpList_nil <| x_then_n <| c_seq fun KJ_24 hKJ_24 => c_seq fun KJ_25 hKJ_25 => ?_
  have hJ_j_29 : ∀ (x_27 : Bool), pack_Reader_Num.J2 K (fun v => pack_Reader_Num.J1 K x0_b x0_bad) x_14 t_19 (pack_Reader_Num.L1 K x0_b x1 x0_bad (fun v => pack_Reader_Num.J1 K x0_b x0_bad) k_15) x_13 x1 x0_b x0_bad x_27 = some r → ∀ (a : Act) (w_28 : World), (∃ (N_26 : Mem), Fr 56 a [(0, .pointer (some ⟨g0, 0, none⟩)), (1, iV x1), (4, iV 0), (5, iV x_13), (6, iV x_14), (7, .int .u8 (t_19.toNat : Int)), (11, p0_0), (12, iV (x0_b.length : Int)), (13, iV x_14), (27, .bool x_27)] ∧ Sep w0 w_28 [N_26, Mem.one g0 (.cells ([p0_0, .bool x0_bad] : List Value).toArray 95 (0, 0))] Z ∧ N_12.le N_26) → KJ_25 a w_28 := by
   clear H h hS a
   rintro x_27 H a w_28 ⟨N_26, h, hS, le_26⟩
   unfold pack_Reader_Num.J2 at H
   refine hKJ_25 _ _ ?_
   by_cases hc_30 : x_27 = true
   ·rw [if_pos hc_30] at H
    refine c_cond_t h rfl hc_30 <| wp_exit (x_then_x (x_block_x rfl (x_then_x (x_then_x (x_block_t ?_)))))
    replace hS : Sep w0 w_28 [_, _] Z := hS
    replace h : Fr 56 a [(0, _), (4, _)] := h.keep [0, 4]
    exact x_then_n (hJ_j_4  H _ _ ⟨N_26, h, (Sep.sel hS [0, 1] (by decide)), (le_12.trans le_26)⟩)
   ·rw [if_neg hc_30] at H
    refine c_cond_f h rfl (Bool.eq_false_iff.2 hc_30) <| wp_skip <| x_then_n (hKJ_24 _ _ ?_)
    refine wp_seq <| wp_region_lit <| s_move h rfl rfl fun a h=>s_move h rfl rfl fun a h=>s_bits (i := (t_19.toNat : Int)) (j := ((127 : UInt8).toNat : Int)) (r := ((t_19 &&& (127 : UInt8)).toNat : Int)) h rfl rfl rfl (.inl ⟨rfl, (band8 _ _).symm⟩) fun a h=>s_conv (((t_19 &&& (127 : UInt8)).toNat : Int)) h rfl U5 U3 rfl (w64_nat8 _).symm fun a h=>s_move h rfl rfl fun a h=>s_arith (r := w64 (7 * x_14)) h rfl rfl rfl (.inr (.inr ⟨rfl, rfl⟩)) fun a h=>?_
    obtain ⟨u_31, eu_31, H⟩ := Option.bind_eq_some_iff.1 H
    refine s_shift (r := shl .i64 ((t_19 &&& (127 : UInt8)).toNat : Int) (w64 (7 * x_14))) h rfl rfl rfl (must_some eu_31) (.inl ⟨rfl, rfl⟩) fun a h=>s_bits (i := x_13) (j := shl .i64 ((t_19 &&& (127 : UInt8)).toNat : Int) (w64 (7 * x_14))) (r := bor .i64 x_13 (shl .i64 ((t_19 &&& (127 : UInt8)).toNat : Int) (w64 (7 * x_14)))) h rfl rfl rfl (.inr (.inl ⟨rfl, rfl⟩)) fun a h=>s_assign h rfl rfl fun a h=>wpList_nil <| x_then_n <| c_seq fun KJ_32 hKJ_32 => wp_seq <| wp_region_lit <| s_move h rfl rfl fun a h=>s_cmp (b := decide ((t_19.toNat : Int) ≥ ((128 : UInt8).toNat : Int))) h rfl rfl rfl (.inr (.inr (.inr (.inr (.inr ⟨rfl, rfl⟩))))) fun a h=>wpList_nil <| x_then_n ?_
    by_cases hc_33 : (t_19.toNat : Int) ≥ ((128 : UInt8).toNat : Int)
    ·rw [if_pos hc_33] at H
     refine c_cond_t h rfl (decide_eq_true hc_33) <| wp_exit (x_then_x (x_block_t ?_))
     refine x_then_n <| wp_region_lit <| s_arith (r := w64 (x_14 + 1)) h rfl rfl rfl (.inl ⟨rfl, rfl⟩) fun a h=>s_move h rfl rfl fun a h=>wpList_nil ?_
     replace h : Fr 56 a [(0, _), (1, _), (4, _), (5, iV (bor .i64 x_13 (shl .i64 ((t_19 &&& (127 : UInt8)).toNat : Int) (w64 (7 * x_14))))), (11, _), (12, _), (13, iV (w64 (x_14 + 1)))] := h.keep [0, 1, 4, 5, 11, 12, 13]
     refine x_then_n (hKL_15 _ _ ?_)
     replace hS : Sep w0 w_28 [_, _] Z := hS
     replace h : Fr 56 a [(0, _), (1, _), (4, _), (5, _), (11, _), (12, _), (13, _)] := h.keep [0, 1, 4, 5, 11, 12, 13]
     exact ⟨bor .i64 x_13 (shl .i64 ((t_19 &&& (127 : UInt8)).toNat : Int) (w64 (7 * x_14))), w64 (x_14 + 1), N_26, H, h, (Sep.sel hS [0, 1] (by decide)), (le_12.trans le_26)⟩
    ·rw [if_neg hc_33] at H
     refine c_cond_f h rfl (decide_eq_false hc_33) <| wp_skip <| x_then_n (hKJ_32 _ _ ?_)
     refine c_seq fun KJ_34 hKJ_34 => wp_seq <| wp_region_lit <| s_move h rfl rfl fun a h=>s_move h rfl rfl fun a h=>?_
     obtain ⟨t_35, et_35, H⟩ := Option.bind_eq_some_iff.1 H
     refine s_call h rfl Try.call78 rfl (pack_held.calls x1 t_35 w0 _ _ _ (Mem.le.refl _) (hS.enter [] (by decide))  et_35) ?_
     rintro _ w_36 ⟨N_37, rfl, hS'⟩
     intro a h
     obtain ⟨N_38, hS'', le_38, ln_38⟩ := hS.call [] (by decide) rfl (l' := []) (ow := []) rfl hS'
     replace hS : Sep w0 w_36 [N_38, _] Z := hS''
     clear hS' hS''
     refine s_cmp (b := decide ((bor .i64 x_13 (shl .i64 ((t_19 &&& (127 : UInt8)).toNat : Int) (w64 (7 * x_14)))) > t_35)) h rfl rfl rfl (.inr (.inr (.inr (.inr (.inl ⟨rfl, rfl⟩))))) fun a h=>wpList_nil ?_
     replace h : Fr 56 a [(0, _), (1, _), (4, _), (5, iV (bor .i64 x_13 (shl .i64 ((t_19 &&& (127 : UInt8)).toNat : Int) (w64 (7 * x_14))))), (6, _), (11, _), (12, _), (13, _), (41, .bool (decide ((bor .i64 x_13 (shl .i64 ((t_19 &&& (127 : UInt8)).toNat : Int) (w64 (7 * x_14)))) > t_35)))] := h.keep [0, 1, 4, 5, 6, 11, 12, 13, 41]
     refine x_then_n ?_
     by_cases hc_39 : (bor .i64 x_13 (shl .i64 ((t_19 &&& (127 : UInt8)).toNat : Int) (w64 (7 * x_14)))) > t_35
     ·rw [if_pos hc_39] at H
      refine c_cond_t h rfl (decide_eq_true hc_39) <| wp_exit (x_then_x (x_block_x rfl (x_then_x (x_then_x (x_block_t ?_)))))
      replace hS : Sep w0 w_36 [_, _] Z := hS
      replace h : Fr 56 a [(0, _), (4, _)] := h.keep [0, 4]
      exact x_then_n (hJ_j_4  H _ _ ⟨N_38, h, (Sep.sel hS [0, 1] (by decide)), (le_12.trans (le_26.trans le_38))⟩)
     ·rw [if_neg hc_39] at H
      refine c_cond_f h rfl (decide_eq_false hc_39) <| wp_skip <| x_then_n (hKJ_34 _ _ ?_)
      refine wp_seq <| wp_region_lit <| s_move h rfl rfl fun a h=>s_move h rfl rfl fun a h=>s_nilCheck h rfl rfl fun a h=>s_fieldAddr h rfl U95 rfl ti26 rfl rfl fun a h=>s_load h rfl rfl (hS.load_one (p := 1) rfl U26 rfl rfl) fun a h=>s_move h rfl rfl fun a h=>s_arith (r := w64 (x_14 + 1)) h rfl rfl rfl (.inl ⟨rfl, rfl⟩) fun a h=>?_
      obtain ⟨t_40, et_40, H⟩ := Option.bind_eq_some_iff.1 H
      refine s_slice h rfl U26 ti5 rfl rfl hp0_0 rfl rfl et_40 fun v_41 hr_42 a h => s_nilCheck h rfl rfl fun a h=>s_fieldAddr h rfl U95 rfl ti26 rfl rfl fun a h=>?_
      obtain ⟨w_43, hs', hS'⟩ := hS.store (P := Try.prog) (p := 1) (o := 0) (t := 26) (v := v_41) (vs := [v_41]) rfl ti26 hr_42.cellsA rfl rfl (by intro u hu; simp only [List.mem_cons, List.not_mem_nil, or_false] at hu; rcases hu with rfl <;> first | rfl | exact hr_42.one)
      refine s_store h rfl rfl hs' ?_
      replace hS : Sep w0 w_43 [_, Mem.one g0 (.cells ([v_41, _] : List Value).toArray 95 (0, 0))] Z := hS'
      clear hs' hS'
      refine wpList_nil <| x_then_n <| wp_seq <| wp_region_lit <| s_move h rfl rfl fun a h=>s_assign h rfl rfl fun a h=>wpList_nil <| x_then_n <| wp_ret (x_block_r (x_then_r (x_then_r (x_block_r (x_then_r ?_)))))
      obtain rfl := Option.some.inj H
      exact f_ret h (rs := [.tmp 4]) rfl (.tmp rfl .nil) ⟨_, rfl, v_41, N_38, rfl, (Sep.sel hS [0, 1] (by decide)), (hr_42.mono (Mem.le_un _ _))⟩
  clear hKJ_25
  refine wp_region_lit <| s_move h rfl rfl fun a h=>s_cmp (b := decide (x_14 > 8)) h rfl rfl rfl (.inr (.inr (.inr (.inr (.inl ⟨rfl, rfl⟩))))) fun a h=>s_move h rfl rfl fun a h=>?_
  by_cases hc_44 : x_14 > 8
  ·rw [if_pos hc_44] at H
   refine s_off h rfl rfl rfl (decide_eq_true hc_44) fun a h=>s_off h rfl rfl rfl (decide_eq_true hc_44) fun a h=>s_off h rfl rfl rfl (decide_eq_true hc_44) fun a h=>s_offu h rfl rfl rfl fun a h=>s_offu h rfl rfl rfl fun a h=>s_off h rfl rfl rfl (decide_eq_true hc_44) fun a h=>s_pick_t h rfl rfl (decide_eq_true hc_44) rfl fun a h=>wpList_nil ?_
   replace hS : Sep w0 w_15 [_, _] Z := hS
   replace h : Fr 56 a [(0, _), (1, _), (4, _), (5, _), (6, iV x_14), (7, .int .u8 (t_19.toNat : Int)), (11, _), (12, _), (13, _), (27, .bool true)] := h.keep [0, 1, 4, 5, 6, 7, 11, 12, 13, 27]
   exact x_then_n (hJ_j_29 true H _ _ ⟨N_12, h, (Sep.sel hS [0, 1] (by decide)), (Mem.le.refl _)⟩)
  ·rw [if_neg hc_44] at H
   refine s_on h rfl rfl (decide_eq_false hc_44) <| s_move h rfl rfl fun a h=>s_on h rfl rfl (decide_eq_false hc_44) <| s_cmp (b := ((t_19.toNat : Int) == ((0 : UInt8).toNat : Int))) h rfl rfl rfl (.inl ⟨rfl, rfl⟩) fun a h=>s_on h rfl rfl (decide_eq_false hc_44) <| s_move h rfl rfl fun a h=>?_
   by_cases hc_45 : (t_19.toNat : Int) = ((0 : UInt8).toNat : Int)
   ·rw [if_pos hc_45] at H
    refine s_on h rfl rfl (beq_iff_eq.2 hc_45) <| s_move h rfl rfl fun a h=>s_on h rfl rfl (beq_iff_eq.2 hc_45) <| s_cmp (b := decide (x_14 > 0)) h rfl rfl rfl (.inr (.inr (.inr (.inr (.inl ⟨rfl, rfl⟩))))) fun a h=>s_on h rfl rfl (decide_eq_false hc_44) <| s_pick_t h rfl rfl (beq_iff_eq.2 hc_45) rfl fun a h=>s_pick_f h rfl rfl (decide_eq_false hc_44) rfl fun a h=>wpList_nil ?_
    replace hS : Sep w0 w_15 [_, _] Z := hS
    replace h : Fr 56 a [(0, _), (1, _), (4, _), (5, _), (6, iV x_14), (7, .int .u8 (t_19.toNat : Int)), (11, _), (12, _), (13, _), (27, .bool (decide (x_14 > 0)))] := h.keep [0, 1, 4, 5, 6, 7, 11, 12, 13, 27]
    exact x_then_n (hJ_j_29 (decide (x_14 > 0)) H _ _ ⟨N_12, h, (Sep.sel hS [0, 1] (by decide)), (Mem.le.refl _)⟩)
   ·rw [if_neg hc_45] at H
    refine s_off h rfl rfl rfl (beq_eq_false_iff_ne.2 hc_45) fun a h=>s_off h rfl rfl rfl (beq_eq_false_iff_ne.2 hc_45) fun a h=>s_on h rfl rfl (decide_eq_false hc_44) <| s_pick_f h rfl rfl (beq_eq_false_iff_ne.2 hc_45) rfl fun a h=>s_pick_f h rfl rfl (decide_eq_false hc_44) rfl fun a h=>wpList_nil ?_
    replace hS : Sep w0 w_15 [_, _] Z := hS
    replace h : Fr 56 a [(0, _), (1, _), (4, _), (5, _), (6, iV x_14), (7, .int .u8 (t_19.toNat : Int)), (11, _), (12, _), (13, _), (27, .bool false)] := h.keep [0, 1, 4, 5, 6, 7, 11, 12, 13, 27]
    exact x_then_n (hJ_j_29 false H _ _ ⟨N_12, h, (Sep.sel hS [0, 1] (by decide)), (Mem.le.refl _)⟩)
 ·rw [if_neg hc_18] at H
  refine c_cond_f h rfl (decide_eq_false hc_18) <| wp_exit (x_then_x (x_then_x (x_block_t ?_)))
  replace hS : Sep w0 w_15 [_, _] Z := hS
  replace h : Fr 56 a [(0, _), (4, _)] := h.keep [0, 4]
  exact x_then_n (hJ_j_4  H _ _ ⟨N_12, h, (Sep.sel hS [0, 1] (by decide)), le_12⟩)

set_option maxHeartbeats 4000000 in
set_option maxRecDepth 20000 in
theorem pack_Reader_Bytes.calls (K : Nat) (g0 : Nat) (x0_b : List UInt8) (p0_0 : Value) (x0_bad : Bool) (x1 : Int) (r : (List UInt8) × (List UInt8) × Bool) (w0 w : World) (Z A : Mem) (hA : A.le Z) (hS : Sep w0 w [Mem.one g0 (.cells ([p0_0, .bool x0_bad] : List Value).toArray 95 (0, 0))] Z) (hp0_0 : Rd Kd.u8 A p0_0 x0_b)
    (H : pack_Reader_Bytes.f K x0_b x0_bad x1 = some r) :
    Calls Try.prog 71 [.pointer (some ⟨g0, 0, none⟩), iV x1].toArray w (Ret fun v w' => ∃ (u0 : Value) (u1 : Value) (N : Mem) (M0 : Mem), v = u0 ∧ Sep w0 w' [N, Mem.one g0 (.cells ([u1, .bool r.2.2] : List Value).toArray 95 (0, 0)), M0] Z ∧ Own Kd.u8 5 M0 Mem.no u0 r.1 ∧ Rd Kd.u8 (A.un N) u1 r.2.1) := by
 unfold pack_Reader_Bytes.f at H
 refine f_enter _ Try.func71 rfl Try.ntmps71 rfl fun a h=>?_
 replace h : Fr 36 a [(0, .pointer (some ⟨g0, 0, none⟩)), (1, iV x1)] := h
 replace hS := hS.start
 replace hS : Sep w0 w [_, _] Z := hS
 refine wp_seq <| wp_region_lit <| s_assign h rfl rfl fun a h=>wpList_nil <| x_then_n <| wp_seq <| wp_region_lit <| s_move h rfl rfl fun a h=>s_move h rfl rfl fun a h=>?_
 obtain ⟨t_1, et_1, H⟩ := Option.bind_eq_some_iff.1 H
 refine s_call h rfl Try.call70 rfl (pack_Reader_Num.calls K _ x0_b _ x0_bad x1 t_1 w0 _ _ A (hA.trans (hS.le_zed [0])) (hS.enter [0] (by decide)) hp0_0 et_1) ?_
 rintro _ w_2 ⟨v_5, N_3, rfl, hS', hr_6⟩
 intro a h
 obtain ⟨N_4, hS'', le_4, ln_4⟩ := hS.call [0] (by decide) rfl (l' := [Mem.one g0 (.cells ([v_5, .bool t_1.2.2] : List Value).toArray 95 (0, 0))]) (ow := []) rfl hS'
 replace hS : Sep w0 w_2 [N_4, Mem.one g0 (.cells ([v_5, .bool t_1.2.2] : List Value).toArray 95 (0, 0))] Z := hS''
 clear hS' hS''
 have hr_7 : Rd Kd.u8 (A.un N_4) v_5 t_1.2.1 := hr_6.mono (Mem.un_left ln_4)
 refine s_assign h rfl rfl fun a h=>wpList_nil <| x_then_n <| c_seq fun KJ_8 hKJ_8 => wp_seq <| wp_region_lit <| s_move h rfl rfl fun a h=>s_move h rfl rfl fun a h=>s_nilCheck h rfl rfl fun a h=>s_fieldAddr h rfl U95 rfl ti26 rfl rfl fun a h=>s_load h rfl rfl (hS.load_one (p := 1) rfl U26 rfl rfl) fun a h=>s_len h rfl U26 rfl hr_7 fun a h=>?_
 refine s_cmp (b := decide (t_1.1 > (t_1.2.1.length : Int))) h rfl rfl rfl (.inr (.inr (.inr (.inr (.inl ⟨rfl, rfl⟩))))) fun a h=>wpList_nil <| x_then_n ?_
 by_cases hc_9 : t_1.1 > (t_1.2.1.length : Int)
 ·rw [if_pos hc_9] at H
  refine c_cond_t h rfl (decide_eq_true hc_9) <| wp_seq <| wp_region_lit <| s_move h rfl rfl fun a h=>?_
  obtain ⟨t_10, et_10, H⟩ := Option.bind_eq_some_iff.1 H
  refine s_call h rfl Try.call79 rfl (pack_Reader_fail.calls _ t_1.2.1 _ t_1.2.2 t_10 w0 _ _ (A.un N_4) (Mem.un_le (hA.trans (hS.le_zed [0])) (hS.new_zed [0])) (hS.enter [0] (by decide)) hr_7 et_10) ?_
  rintro _ w_11 ⟨v_14, N_12, rfl, hS', hr_15⟩
  intro a h
  obtain ⟨N_13, hS'', le_13, ln_13⟩ := hS.call [0] (by decide) rfl (l' := [Mem.one g0 (.cells ([v_14, .bool t_10.2.2] : List Value).toArray 95 (0, 0))]) (ow := []) rfl hS'
  replace hS : Sep w0 w_11 [N_13, Mem.one g0 (.cells ([v_14, .bool t_10.2.2] : List Value).toArray 95 (0, 0))] Z := hS''
  clear hS' hS''
  have hr_16 : Rd Kd.u8 (A.un N_13) v_14 t_10.2.1 := hr_15.mono (Mem.un_le (Mem.un_left le_13) (ln_13.trans (hS.sndA hA)))
  refine wpList_nil ?_
  replace h : Fr 36 a [(0, _), (4, nS), (5, iV t_1.1)] := h.keep [0, 4, 5]
  refine x_then_n <| wp_seq <| wp_region_lit <| s_assign h rfl rfl fun a h=>wpList_nil <| x_then_n <| wp_ret (x_then_r ?_)
  have hS' := hS.room
  replace hS : Sep w0 w_11 [_, _, Mem.no] Z := hS'
  clear hS'
  obtain rfl := Option.some.inj H
  exact f_ret h (rs := [.tmp 4]) rfl (.tmp rfl .nil) ⟨_, rfl, nS, v_14, N_13, Mem.no, rfl, (Sep.sel hS [0, 1, 2] (by decide)), (Own.nil Kd.u8 5 Mem.no), hr_16⟩
 ·rw [if_neg hc_9] at H
  refine c_cond_f h rfl (decide_eq_false hc_9) <| wp_skip <| x_then_n (hKJ_8 _ _ ?_)
  refine wp_seq <| wp_region_lit <| s_move h rfl rfl fun a h=>s_nilCheck h rfl rfl fun a h=>s_fieldAddr h rfl U95 rfl ti26 rfl rfl fun a h=>s_load h rfl rfl (hS.load_one (p := 1) rfl U26 rfl rfl) fun a h=>s_move h rfl rfl fun a h=>?_
  obtain ⟨t_18, et_18, H⟩ := Option.bind_eq_some_iff.1 H
  refine s_slice h rfl U26 ti5 rfl rfl hr_7 rfl rfl et_18 fun v_19 hr_20 a h => ?_
  obtain ⟨t_21, et_21, H⟩ := Option.bind_eq_some_iff.1 H
  refine s_call h rfl Try.call30 rfl (slices_Clone_sbyte_byte.calls t_18 _ t_21 w0 _ _ _ (Mem.le.refl _) (hS.enter [] (by decide)) (hr_20.mono (Mem.un_le (hA.trans (hS.le_zed [])) ((Mem.le.refl _).trans (hS.new_zed [])))) et_21) ?_
  rintro v_25 w_22 ⟨_, N_23, M_27, rfl, hS', hr_26⟩
  intro a h
  obtain ⟨N_24, hS'', le_24, ln_24⟩ := hS.call [] (by decide) rfl (l' := []) (ow := [M_27]) rfl hS'
  replace hS : Sep w0 w_22 [N_24, _, M_27] Z := hS''
  clear hS' hS''
  refine s_assign h rfl rfl fun a h=>wpList_nil ?_
  replace h : Fr 36 a [(0, _), (4, nS), (5, iV t_1.1), (6, v_25)] := h.keep [0, 4, 5, 6]
  refine x_then_n <| wp_seq <| wp_region_lit <| s_move h rfl rfl fun a h=>s_move h rfl rfl fun a h=>s_nilCheck h rfl rfl fun a h=>s_fieldAddr h rfl U95 rfl ti26 rfl rfl fun a h=>s_load h rfl rfl (hS.load_one (p := 1) rfl U26 rfl rfl) fun a h=>s_move h rfl rfl fun a h=>?_
  obtain ⟨t_29, et_29, H⟩ := Option.bind_eq_some_iff.1 H
  refine s_slice h rfl U26 ti5 rfl rfl hr_7 rfl rfl et_29 fun v_30 hr_31 a h => s_nilCheck h rfl rfl fun a h=>s_fieldAddr h rfl U95 rfl ti26 rfl rfl fun a h=>?_
  obtain ⟨w_32, hs', hS'⟩ := hS.store (P := Try.prog) (p := 1) (o := 0) (t := 26) (v := v_30) (vs := [v_30]) rfl ti26 hr_31.cellsA rfl rfl (by intro u hu; simp only [List.mem_cons, List.not_mem_nil, or_false] at hu; rcases hu with rfl <;> first | rfl | exact hr_31.one)
  refine s_store h rfl rfl hs' ?_
  replace hS : Sep w0 w_32 [_, Mem.one g0 (.cells ([v_30, _] : List Value).toArray 95 (0, 0)), _] Z := hS'
  clear hs' hS'
  refine wpList_nil <| x_then_n <| wp_seq <| wp_region_lit <| s_move h rfl rfl fun a h=>s_assign h rfl rfl fun a h=>wpList_nil <| x_then_n <| wp_ret ?_
  obtain rfl := Option.some.inj H
  exact f_ret h (rs := [.tmp 4]) rfl (.tmp rfl .nil) ⟨_, rfl, v_25, v_30, N_24, M_27, rfl, (Sep.sel hS [0, 1, 2] (by decide)), hr_26, (hr_31.mono (Mem.un_left le_24))⟩

set_option maxHeartbeats 4000000 in
set_option maxRecDepth 20000 in
theorem mesg_numbers.calls (K : Nat) (g0 : Nat) (x0_b : List UInt8) (p0_0 : Value) (x0_bad : Bool) (x1 : Int) (r : (List Int) × (List UInt8) × Bool) (w0 w : World) (Z A : Mem) (hA : A.le Z) (hS : Sep w0 w [Mem.one g0 (.cells ([p0_0, .bool x0_bad] : List Value).toArray 95 (0, 0))] Z) (hp0_0 : Rd Kd.u8 A p0_0 x0_b)
    (H : mesg_numbers.f K x0_b x0_bad x1 = some r) :
    Calls Try.prog 72 [.pointer (some ⟨g0, 0, none⟩), iV x1].toArray w (Ret fun v w' => ∃ (u0 : Value) (u1 : Value) (N : Mem) (M0 : Mem), v = u0 ∧ Sep w0 w' [N, Mem.one g0 (.cells ([u1, .bool r.2.2] : List Value).toArray 95 (0, 0)), M0] Z ∧ Own (Kd.int .i64) 3 M0 Mem.no u0 r.1 ∧ Rd Kd.u8 (A.un N) u1 r.2.1) := by
 unfold mesg_numbers.f at H
 refine f_enter _ Try.func72 rfl Try.ntmps72 rfl fun a h=>?_
 replace h : Fr 18 a [(0, .pointer (some ⟨g0, 0, none⟩)), (1, iV x1)] := h
 replace hS := hS.start
 replace hS : Sep w0 w [_, _] Z := hS
 refine wp_seq <| wp_region_lit <| s_assign h rfl rfl fun a h=>wpList_nil <| x_then_n <| wp_seq <| wp_region_lit <| s_assign h rfl rfl fun a h=>wpList_nil <| x_then_n <| c_seq fun KJ_1 hKJ_1 => wp_seq <| wp_region_lit ?_
 refine s_move h rfl rfl fun a h=>s_move h rfl rfl fun a h=>?_
 obtain ⟨t_2, et_2, H⟩ := Option.bind_eq_some_iff.1 H
 refine s_call h rfl Try.call70 rfl (pack_Reader_Num.calls K _ x0_b _ x0_bad x1 t_2 w0 _ _ A (hA.trans (hS.le_zed [0])) (hS.enter [0] (by decide)) hp0_0 et_2) ?_
 rintro _ w_3 ⟨v_6, N_4, rfl, hS', hr_7⟩
 intro a h
 obtain ⟨N_5, hS'', le_5, ln_5⟩ := hS.call [0] (by decide) rfl (l' := [Mem.one g0 (.cells ([v_6, .bool t_2.2.2] : List Value).toArray 95 (0, 0))]) (ow := []) rfl hS'
 replace hS : Sep w0 w_3 [N_5, Mem.one g0 (.cells ([v_6, .bool t_2.2.2] : List Value).toArray 95 (0, 0))] Z := hS''
 clear hS' hS''
 have hr_8 : Rd Kd.u8 (A.un N_5) v_6 t_2.2.1 := hr_7.mono (Mem.un_left ln_5)
 refine s_move h rfl rfl fun a h=>wpList_nil <| x_then_n ?_
 have hJ_j_20 : ∀ (x_10 : List Int), ∀ (x_15 : List UInt8), ∀ (x_18 : Bool), mesg_numbers.J1 K x_10 x_15 x_18 = some r → ∀ (a : Act) (w_19 : World), (∃ (v_13 : Value) (v_16 : Value) (N_9 : Mem) (M_11 : Mem), Fr 18 a [(4, nS), (5, v_13)] ∧ Sep w0 w_19 [N_9, Mem.one g0 (.cells ([v_16, .bool x_18] : List Value).toArray 95 (0, 0)), M_11] Z ∧ N_5.le N_9 ∧ Own (Kd.int .i64) 3 M_11 Mem.no v_13 x_10 ∧ Rd Kd.u8 (A.un N_9) v_16 x_15) → KJ_1 a w_19 := by
  clear H h hS a
  rintro x_10 x_15 x_18 H a w_19 ⟨v_13, v_16, N_9, M_11, h, hS, le_9, ho_14, hr_17⟩
  unfold mesg_numbers.J1 at H
  refine hKJ_1 _ _ <| wp_seq <| wp_region_lit <| s_move h rfl rfl fun a h=>s_assign h rfl rfl fun a h=>wpList_nil ?_
  replace h : Fr 18 a [(4, v_13)] := h.keep [4]
  refine x_then_n <| wp_ret ?_
  obtain rfl := Option.some.inj H
  exact f_ret h (rs := [.tmp 4]) rfl (.tmp rfl .nil) ⟨_, rfl, v_13, v_16, N_9, M_11, rfl, (Sep.sel hS [0, 1, 2] (by decide)), ho_14, hr_17⟩
 clear hKJ_1
 have hS' := hS.room
 replace hS : Sep w0 w_3 [_, _, Mem.no] Z := hS'
 clear hS'
 replace hS : Sep w0 w_3 [_, _, _] Z := hS
 replace h : Fr 18 a [(0, _), (4, nS), (5, nS), (8, iV t_2.1), (9, iV 0)] := h.keep [0, 4, 5, 8, 9]
 refine c_block <| c_loop (fun k_32 a w_32 => ∃ (x_22 : List Int) (x_27 : Int) (x_28 : List UInt8) (x_31 : Bool) (v_25 : Value) (v_29 : Value) (N_21 : Mem) (M_23 : Mem), mesg_numbers.L1 K t_2 (fun v => mesg_numbers.J1 K v.1 v.2.1 v.2.2) k_32 (x_22, x_27, x_28, x_31) = some r ∧ Fr 18 a [(0, .pointer (some ⟨g0, 0, none⟩)), (4, nS), (5, v_25), (8, iV t_2.1), (9, iV x_27)] ∧ Sep w0 w_32 [N_21, Mem.one g0 (.cells ([v_29, .bool x_31] : List Value).toArray 95 (0, 0)), M_23] Z ∧ N_5.le N_21 ∧ Own (Kd.int .i64) 3 M_23 Mem.no v_25 x_22 ∧ Rd Kd.u8 (A.un N_21) v_29 x_28) K ⟨([] : List Int), 0, t_2.2.1, t_2.2.2, nS, v_6, N_5, Mem.no, H, h, (Sep.sel hS [0, 1, 2] (by decide)), (Mem.le.refl _), (Own.nil (Kd.int .i64) 3 Mem.no), hr_8⟩ (fun a w h => by obtain ⟨_, _, _, _, _, _, _, _, H, _⟩ := h; cases (show (none : Option ((List Int) × (List UInt8) × Bool)) = some r from H)) ?_
 clear h hS a H
 rintro k_32 a w_32 KL_32 hKL_32 ⟨x_22, x_27, x_28, x_31, v_25, v_29, N_21, M_23, H, h, hS, le_21, ho_26, hr_30⟩
 replace H : mesg_numbers.B1 K t_2 (fun v => mesg_numbers.J1 K v.1 v.2.1 v.2.2) (mesg_numbers.L1 K t_2 (fun v => mesg_numbers.J1 K v.1 v.2.1 v.2.2) k_32) x_22 x_27 x_28 x_31 = some r := H
 unfold mesg_numbers.B1 at H
 refine wp_seq <| wp_region_lit <| s_cmp (b := decide (x_27 < t_2.1)) h rfl rfl rfl (.inr (.inr (.inl ⟨rfl, rfl⟩))) fun a h=>wpList_nil ?_
 replace h : Fr 18 a [(0, _), (4, _), (5, _), (8, _), (9, _), (10, .bool (decide (x_27 < t_2.1)))] := h.keep [0, 4, 5, 8, 9, 10]
 refine x_then_n <| c_seq fun KJ_35 hKJ_35 => ?_
 by_cases hc_36 : x_27 < t_2.1
 ·rw [if_pos hc_36] at H
  refine c_cond_t h rfl (decide_eq_true hc_36) <| wp_skip <| x_then_n (hKJ_35 _ _ ?_)
  refine wp_seq <| c_block <| wp_region_lit <| s_move h rfl rfl fun a h=>s_move h rfl rfl fun a h=>?_
  obtain ⟨t_37, et_37, H⟩ := Option.bind_eq_some_iff.1 H
  refine s_call h rfl Try.call70 rfl (pack_Reader_Num.calls K _ x_28 _ x_31 1099511627776 t_37 w0 _ _ (A.un N_21) (Mem.un_le (hA.trans (hS.le_zed [0])) (hS.new_zed [0])) (hS.enter [0] (by decide)) hr_30 et_37) ?_
  rintro _ w_38 ⟨v_41, N_39, rfl, hS', hr_42⟩
  intro a h
  obtain ⟨N_40, hS'', le_40, ln_40⟩ := hS.call [0] (by decide) rfl (l' := [Mem.one g0 (.cells ([v_41, .bool t_37.2.2] : List Value).toArray 95 (0, 0))]) (ow := []) rfl hS'
  replace hS : Sep w0 w_38 [N_40, Mem.one g0 (.cells ([v_41, .bool t_37.2.2] : List Value).toArray 95 (0, 0)), _] Z := hS''
  clear hS' hS''
  have hr_43 : Rd Kd.u8 (A.un N_40) v_41 t_37.2.1 := hr_42.mono (Mem.un_le (Mem.un_left le_40) (ln_40.trans (hS.sndA hA)))
  have hq_48 : Reps (Kd.int .i64) Mem.no ([t_37.1] : List Int) _ := ((Reps.one (d := (Kd.int .i64)) (x := t_37.1) (show (Kd.int .i64).K _ _ [iV t_37.1] from rfl)).append (Reps.nil (Kd.int .i64) _))
  refine s_buildSlice h rfl U22 ti3 rfl rfl rfl (.cons rfl .nil) rfl rfl rfl hS hq_48 rfl fun w_44 v_45 M_46 hS' ho_47 a h => ?_
  replace hS : Sep w0 w_44 [_, _, _, M_46] Z := hS'
  clear hS' hq_48
  obtain ⟨t_50, et_50, H⟩ := Option.bind_eq_some_iff.1 H
  refine s_append (J := Mem.no) (I' := Mem.no) (p := 2) 17592186044416 h rfl rfl rfl U22 ti3 rfl rfl rfl rfl hS rfl ho_26 (Src.flat (flat_int .i64) (ho_47.src (hS.own 3))) (Mem.le.refl _) (Mem.le.refl _) et_50 fun w_51 v_52 M_53 hS' ho_54 a h => ?_
  replace hS : Sep w0 w_51 [_, _, M_53, _] Z := hS'
  clear hS'
  refine s_assign h rfl rfl fun a h=>wpList_nil <| x_block_n <| x_then_n <| wp_region_lit <| s_arith (r := w64 (x_27 + 1)) h rfl rfl rfl (.inl ⟨rfl, rfl⟩) fun a h=>s_move h rfl rfl fun a h=>wpList_nil <| x_then_n (hKL_32 _ _ ?_)
  replace hS : Sep w0 w_51 [_, _, _, _] Z := hS
  replace h : Fr 18 a [(0, _), (4, _), (5, v_52), (8, _), (9, iV (w64 (x_27 + 1)))] := h.keep [0, 4, 5, 8, 9]
  exact ⟨t_50, w64 (x_27 + 1), t_37.2.1, t_37.2.2, v_52, v_41, N_40, M_53, H, h, (Sep.sel hS [0, 1, 2] (by decide)), (le_21.trans le_40), ho_54, hr_43⟩
 ·rw [if_neg hc_36] at H
  refine c_cond_f h rfl (decide_eq_false hc_36) <| wp_exit (x_then_x (x_then_x (x_block_t ?_)))
  replace hS : Sep w0 w_32 [_, _, _] Z := hS
  replace h : Fr 18 a [(4, _), (5, _)] := h.keep [4, 5]
  exact x_then_n (hJ_j_20 x_22 x_28 x_31 H _ _ ⟨v_25, v_29, N_21, M_23, h, (Sep.sel hS [0, 1, 2] (by decide)), le_21, ho_26, hr_30⟩)

set_option maxHeartbeats 4000000 in
set_option maxRecDepth 20000 in
theorem pack_Reader_Ok.calls (g0 : Nat) (x0_b : List UInt8) (p0_0 : Value) (x0_bad : Bool) (r : Bool) (w0 w : World) (Z A : Mem) (hA : A.le Z) (hS : Sep w0 w [Mem.one g0 (.cells ([p0_0, .bool x0_bad] : List Value).toArray 95 (0, 0))] Z) (hp0_0 : Rd Kd.u8 A p0_0 x0_b)
    (H : pack_Reader_Ok.f x0_b x0_bad = some r) :
    Calls Try.prog 80 [.pointer (some ⟨g0, 0, none⟩)].toArray w (Ret fun v w' => ∃ (N : Mem), v = .bool r ∧ Sep w0 w' [N, Mem.one g0 (.cells ([p0_0, .bool x0_bad] : List Value).toArray 95 (0, 0))] Z) := by
 unfold pack_Reader_Ok.f at H
 refine f_enter _ Try.func80 rfl Try.ntmps80 rfl fun a h=>?_
 replace h : Fr 8 a [(0, .pointer (some ⟨g0, 0, none⟩))] := h
 replace hS := hS.start
 replace hS : Sep w0 w [_, _] Z := hS
 refine wp_seq <| wp_region_lit <| s_assign h rfl rfl fun a h=>wpList_nil <| x_then_n <| wp_seq <| wp_region_lit <| s_move h rfl rfl fun a h=>s_nilCheck h rfl rfl fun a h=>s_fieldAddr h rfl U95 rfl ti4 rfl rfl fun a h=>s_load h rfl rfl (hS.load_one (p := 1) rfl U4 rfl rfl) fun a h=>s_not h rfl rfl fun a h=>?_
 refine s_assign h rfl rfl fun a h=>wpList_nil <| x_then_n <| wp_ret ?_
 obtain rfl := Option.some.inj H
 exact f_ret h (rs := [.tmp 2]) rfl (.tmp rfl .nil) ⟨_, rfl, Mem.no, rfl, (Sep.sel hS [0, 1] (by decide))⟩

set_option maxHeartbeats 4000000 in
set_option maxRecDepth 20000 in
theorem mach_GetEntry.calls (K : Nat) (g0 : Nat) (x0_b : List UInt8) (p0_0 : Value) (x0_bad : Bool) (r : api_Entry × (List UInt8) × Bool) (w0 w : World) (Z A : Mem) (hA : A.le Z) (hS : Sep w0 w [Mem.one g0 (.cells ([p0_0, .bool x0_bad] : List Value).toArray 95 (0, 0))] Z) (hp0_0 : Rd Kd.u8 A p0_0 x0_b)
    (H : mach_GetEntry.f K x0_b x0_bad = some r) :
    Calls Try.prog 73 [.pointer (some ⟨g0, 0, none⟩)].toArray w (Ret fun v w' => ∃ (u0 : Value) (u1 : Value) (u2 : Value) (u3 : Value) (N : Mem) (M0 : Mem) (M1 : Mem) (M2 : Mem), v = .agg [iV r.1.Sess, iV r.1.Seq, iV r.1.Cmd.Kind, iV r.1.Cmd.Who, u0, u1, u2].toArray ∧ Sep w0 w' [N, Mem.one g0 (.cells ([u3, .bool r.2.2] : List Value).toArray 95 (0, 0)), M0, M1, M2] Z ∧ Own Kd.u8 5 M0 Mem.no u0 r.1.Cmd.Key ∧ Own Kd.u8 5 M1 Mem.no u1 r.1.Cmd.Val ∧ Own Kd.u8 5 M2 Mem.no u2 r.1.Cmd.Old ∧ Rd Kd.u8 (A.un N) u3 r.2.1) := by
 unfold mach_GetEntry.f at H
 refine f_enter _ Try.func73 rfl Try.ntmps73 rfl fun a h=>?_
 replace h : Fr 34 a [(0, .pointer (some ⟨g0, 0, none⟩))] := h
 replace hS := hS.start
 replace hS : Sep w0 w [_, _] Z := hS
 refine wp_seq <| wp_region_lit <| v_alloc h rfl ti30 hS fun w_1 g_2 hS' a h => ?_
 replace hS : Sep w0 w_1 [_, _, Mem.one g_2 (.cells ([iV 0, iV 0, iV 0, iV 0, nS, nS, nS] : List Value).toArray 30 (0, 0))] Z := hS'
 clear hS'
 refine wpList_nil <| x_then_n <| wp_seq <| wp_region_lit <| s_move h rfl rfl fun a h=>?_
 obtain ⟨t_3, et_3, H⟩ := Option.bind_eq_some_iff.1 H
 refine s_call h rfl Try.call70 rfl (pack_Reader_Num.calls K _ x0_b _ x0_bad 1073741824 t_3 w0 _ _ A (hA.trans (hS.le_zed [0])) (hS.enter [0] (by decide)) hp0_0 et_3) ?_
 rintro _ w_4 ⟨v_7, N_5, rfl, hS', hr_8⟩
 intro a h
 obtain ⟨N_6, hS'', le_6, ln_6⟩ := hS.call [0] (by decide) rfl (l' := [Mem.one g0 (.cells ([v_7, .bool t_3.2.2] : List Value).toArray 95 (0, 0))]) (ow := []) rfl hS'
 replace hS : Sep w0 w_4 [N_6, Mem.one g0 (.cells ([v_7, .bool t_3.2.2] : List Value).toArray 95 (0, 0)), _] Z := hS''
 clear hS' hS''
 have hr_9 : Rd Kd.u8 (A.un N_6) v_7 t_3.2.1 := hr_8.mono (Mem.un_left ln_6)
 refine s_move h rfl rfl fun a h=>?_
 obtain ⟨t_10, et_10, H⟩ := Option.bind_eq_some_iff.1 H
 refine s_call h rfl Try.call70 rfl (pack_Reader_Num.calls K _ t_3.2.1 _ t_3.2.2 1073741824 t_10 w0 _ _ (A.un N_6) (Mem.un_le (hA.trans (hS.le_zed [0])) (hS.new_zed [0])) (hS.enter [0] (by decide)) hr_9 et_10) ?_
 rintro _ w_11 ⟨v_14, N_12, rfl, hS', hr_15⟩
 intro a h
 obtain ⟨N_13, hS'', le_13, ln_13⟩ := hS.call [0] (by decide) rfl (l' := [Mem.one g0 (.cells ([v_14, .bool t_10.2.2] : List Value).toArray 95 (0, 0))]) (ow := []) rfl hS'
 replace hS : Sep w0 w_11 [N_13, Mem.one g0 (.cells ([v_14, .bool t_10.2.2] : List Value).toArray 95 (0, 0)), _] Z := hS''
 clear hS' hS''
 have hr_16 : Rd Kd.u8 (A.un N_13) v_14 t_10.2.1 := hr_15.mono (Mem.un_le (Mem.un_left le_13) (ln_13.trans (hS.sndA hA)))
 refine s_build h rfl ti30 pl30 rfl (.cons rfl (.cons rfl .nil)) (cs := [iV t_3.1, iV t_10.1, iV 0, iV 0, nS, nS, nS]) (by kernel_rfl) fun a h=>v_alloc h rfl ti30 hS fun w_17 g_18 hS' a h => ?_
 replace hS : Sep w0 w_17 [_, _, _, Mem.one g_18 (.cells ([iV 0, iV 0, iV 0, iV 0, nS, nS, nS] : List Value).toArray 30 (0, 0))] Z := hS'
 clear hS'
 obtain ⟨w_19, hs', hS'⟩ := hS.store (P := Try.prog) (p := 3) (o := 0) (t := 30) (v := .agg ([iV t_3.1, iV t_10.1, iV 0, iV 0, nS, nS, nS] : List Value).toArray) (vs := [iV t_3.1, iV t_10.1, iV 0, iV 0, nS, nS, nS]) rfl ti30 rfl rfl rfl (by intro u hu; simp only [List.mem_cons, List.not_mem_nil, or_false] at hu; rcases hu with rfl | rfl | rfl | rfl | rfl | rfl | rfl <;> rfl)
 refine s_store h rfl rfl hs' ?_
 replace hS : Sep w0 w_19 [_, _, _, Mem.one g_18 (.cells ([iV t_3.1, iV t_10.1, _, _, _, _, _] : List Value).toArray 30 (0, 0))] Z := hS'
 clear hs' hS'
 refine wpList_nil <| x_then_n <| wp_seq <| wp_region_lit <| s_move h rfl rfl fun a h=>?_
 obtain ⟨t_20, et_20, H⟩ := Option.bind_eq_some_iff.1 H
 refine s_call h rfl Try.call70 rfl (pack_Reader_Num.calls K _ t_10.2.1 _ t_10.2.2 1073741824 t_20 w0 _ _ (A.un N_13) (Mem.un_le (hA.trans (hS.le_zed [0])) (hS.new_zed [0])) (hS.enter [0] (by decide)) hr_16 et_20) ?_
 rintro _ w_21 ⟨v_24, N_22, rfl, hS', hr_25⟩
 intro a h
 obtain ⟨N_23, hS'', le_23, ln_23⟩ := hS.call [0] (by decide) rfl (l' := [Mem.one g0 (.cells ([v_24, .bool t_20.2.2] : List Value).toArray 95 (0, 0))]) (ow := []) rfl hS'
 replace hS : Sep w0 w_21 [N_23, Mem.one g0 (.cells ([v_24, .bool t_20.2.2] : List Value).toArray 95 (0, 0)), _, _] Z := hS''
 clear hS' hS''
 have hr_26 : Rd Kd.u8 (A.un N_23) v_24 t_20.2.1 := hr_25.mono (Mem.un_le (Mem.un_left le_23) (ln_23.trans (hS.sndA hA)))
 refine s_move h rfl rfl fun a h=>?_
 obtain ⟨t_27, et_27, H⟩ := Option.bind_eq_some_iff.1 H
 refine s_call h rfl Try.call70 rfl (pack_Reader_Num.calls K _ t_20.2.1 _ t_20.2.2 1073741824 t_27 w0 _ _ (A.un N_23) (Mem.un_le (hA.trans (hS.le_zed [0])) (hS.new_zed [0])) (hS.enter [0] (by decide)) hr_26 et_27) ?_
 rintro _ w_28 ⟨v_31, N_29, rfl, hS', hr_32⟩
 intro a h
 obtain ⟨N_30, hS'', le_30, ln_30⟩ := hS.call [0] (by decide) rfl (l' := [Mem.one g0 (.cells ([v_31, .bool t_27.2.2] : List Value).toArray 95 (0, 0))]) (ow := []) rfl hS'
 replace hS : Sep w0 w_28 [N_30, Mem.one g0 (.cells ([v_31, .bool t_27.2.2] : List Value).toArray 95 (0, 0)), _, _] Z := hS''
 clear hS' hS''
 have hr_33 : Rd Kd.u8 (A.un N_30) v_31 t_27.2.1 := hr_32.mono (Mem.un_le (Mem.un_left le_30) (ln_30.trans (hS.sndA hA)))
 refine s_fieldAddr h rfl U30 rfl ti28 rfl rfl fun a h=>s_fieldAddr h rfl U28 rfl ti3 rfl rfl fun a h=>?_
 obtain ⟨w_34, hs', hS'⟩ := hS.store (P := Try.prog) (p := 3) (o := 2) (t := 3) (v := iV t_20.1) (vs := [iV t_20.1]) rfl ti3 rfl rfl rfl (by intro u hu; simp only [List.mem_cons, List.not_mem_nil, or_false] at hu; rcases hu with rfl <;> rfl)
 refine s_store h rfl rfl hs' ?_
 replace hS : Sep w0 w_34 [_, _, _, Mem.one g_18 (.cells ([_, _, iV t_20.1, _, _, _, _] : List Value).toArray 30 (0, 0))] Z := hS'
 clear hs' hS'
 refine s_fieldAddr h rfl U30 rfl ti28 rfl rfl fun a h=>s_fieldAddr h rfl U28 rfl ti3 rfl rfl fun a h=>?_
 obtain ⟨w_35, hs', hS'⟩ := hS.store (P := Try.prog) (p := 3) (o := 3) (t := 3) (v := iV t_27.1) (vs := [iV t_27.1]) rfl ti3 rfl rfl rfl (by intro u hu; simp only [List.mem_cons, List.not_mem_nil, or_false] at hu; rcases hu with rfl <;> rfl)
 refine s_store h rfl rfl hs' ?_
 replace hS : Sep w0 w_35 [_, _, _, Mem.one g_18 (.cells ([_, _, _, iV t_27.1, _, _, _] : List Value).toArray 30 (0, 0))] Z := hS'
 clear hs' hS'
 refine wpList_nil <| x_then_n <| wp_seq <| wp_region_lit <| s_move h rfl rfl fun a h=>?_
 obtain ⟨t_36, et_36, H⟩ := Option.bind_eq_some_iff.1 H
 refine s_call h rfl Try.call71 rfl (pack_Reader_Bytes.calls K _ t_27.2.1 _ t_27.2.2 32 t_36 w0 _ _ (A.un N_30) (Mem.un_le (hA.trans (hS.le_zed [0])) (hS.new_zed [0])) (hS.enter [0] (by decide)) hr_33 et_36) ?_
 rintro v_40 w_37 ⟨_, v_44, N_38, M_42, rfl, hS', hr_41, hr_45⟩
 intro a h
 obtain ⟨N_39, hS'', le_39, ln_39⟩ := hS.call [0] (by decide) rfl (l' := [Mem.one g0 (.cells ([v_44, .bool t_36.2.2] : List Value).toArray 95 (0, 0))]) (ow := [M_42]) rfl hS'
 replace hS : Sep w0 w_37 [N_39, Mem.one g0 (.cells ([v_44, .bool t_36.2.2] : List Value).toArray 95 (0, 0)), _, _, M_42] Z := hS''
 clear hS' hS''
 have hr_46 : Rd Kd.u8 (A.un N_39) v_44 t_36.2.1 := hr_45.mono (Mem.un_le (Mem.un_left le_39) (ln_39.trans (hS.sndA hA)))
 refine s_move h rfl rfl fun a h=>?_
 obtain ⟨t_47, et_47, H⟩ := Option.bind_eq_some_iff.1 H
 refine s_call h rfl Try.call71 rfl (pack_Reader_Bytes.calls K _ t_36.2.1 _ t_36.2.2 32 t_47 w0 _ _ (A.un N_39) (Mem.un_le (hA.trans (hS.le_zed [0])) (hS.new_zed [0])) (hS.enter [0] (by decide)) hr_46 et_47) ?_
 rintro v_51 w_48 ⟨_, v_55, N_49, M_53, rfl, hS', hr_52, hr_56⟩
 intro a h
 obtain ⟨N_50, hS'', le_50, ln_50⟩ := hS.call [0] (by decide) rfl (l' := [Mem.one g0 (.cells ([v_55, .bool t_47.2.2] : List Value).toArray 95 (0, 0))]) (ow := [M_53]) rfl hS'
 replace hS : Sep w0 w_48 [N_50, Mem.one g0 (.cells ([v_55, .bool t_47.2.2] : List Value).toArray 95 (0, 0)), _, _, _, M_53] Z := hS''
 clear hS' hS''
 have hr_57 : Rd Kd.u8 (A.un N_50) v_55 t_47.2.1 := hr_56.mono (Mem.un_le (Mem.un_left le_50) (ln_50.trans (hS.sndA hA)))
 refine s_move h rfl rfl fun a h=>?_
 obtain ⟨t_58, et_58, H⟩ := Option.bind_eq_some_iff.1 H
 refine s_call h rfl Try.call71 rfl (pack_Reader_Bytes.calls K _ t_47.2.1 _ t_47.2.2 32 t_58 w0 _ _ (A.un N_50) (Mem.un_le (hA.trans (hS.le_zed [0])) (hS.new_zed [0])) (hS.enter [0] (by decide)) hr_57 et_58) ?_
 rintro v_62 w_59 ⟨_, v_66, N_60, M_64, rfl, hS', hr_63, hr_67⟩
 intro a h
 obtain ⟨N_61, hS'', le_61, ln_61⟩ := hS.call [0] (by decide) rfl (l' := [Mem.one g0 (.cells ([v_66, .bool t_58.2.2] : List Value).toArray 95 (0, 0))]) (ow := [M_64]) rfl hS'
 replace hS : Sep w0 w_59 [N_61, Mem.one g0 (.cells ([v_66, .bool t_58.2.2] : List Value).toArray 95 (0, 0)), _, _, _, _, M_64] Z := hS''
 clear hS' hS''
 have hr_68 : Rd Kd.u8 (A.un N_61) v_66 t_58.2.1 := hr_67.mono (Mem.un_le (Mem.un_left le_61) (ln_61.trans (hS.sndA hA)))
 refine s_fieldAddr h rfl U30 rfl ti28 rfl rfl fun a h=>s_fieldAddr h rfl U28 rfl ti26 rfl rfl fun a h=>?_
 obtain ⟨w_69, hs', hS'⟩ := hS.store (P := Try.prog) (p := 3) (o := 4) (t := 26) (v := v_40) (vs := [v_40]) rfl ti26 hr_41.cellsA rfl rfl (by intro u hu; simp only [List.mem_cons, List.not_mem_nil, or_false] at hu; rcases hu with rfl <;> first | rfl | exact hr_41.one)
 refine s_store h rfl rfl hs' ?_
 replace hS : Sep w0 w_69 [_, _, _, Mem.one g_18 (.cells ([_, _, _, _, v_40, _, _] : List Value).toArray 30 (0, 0)), _, _, _] Z := hS'
 clear hs' hS'
 refine s_fieldAddr h rfl U30 rfl ti28 rfl rfl fun a h=>s_fieldAddr h rfl U28 rfl ti26 rfl rfl fun a h=>?_
 obtain ⟨w_70, hs', hS'⟩ := hS.store (P := Try.prog) (p := 3) (o := 5) (t := 26) (v := v_51) (vs := [v_51]) rfl ti26 hr_52.cellsA rfl rfl (by intro u hu; simp only [List.mem_cons, List.not_mem_nil, or_false] at hu; rcases hu with rfl <;> first | rfl | exact hr_52.one)
 refine s_store h rfl rfl hs' ?_
 replace hS : Sep w0 w_70 [_, _, _, Mem.one g_18 (.cells ([_, _, _, _, _, v_51, _] : List Value).toArray 30 (0, 0)), _, _, _] Z := hS'
 clear hs' hS'
 refine s_fieldAddr h rfl U30 rfl ti28 rfl rfl fun a h=>s_fieldAddr h rfl U28 rfl ti26 rfl rfl fun a h=>?_
 obtain ⟨w_71, hs', hS'⟩ := hS.store (P := Try.prog) (p := 3) (o := 6) (t := 26) (v := v_62) (vs := [v_62]) rfl ti26 hr_63.cellsA rfl rfl (by intro u hu; simp only [List.mem_cons, List.not_mem_nil, or_false] at hu; rcases hu with rfl <;> first | rfl | exact hr_63.one)
 refine s_store h rfl rfl hs' ?_
 replace hS : Sep w0 w_71 [_, _, _, Mem.one g_18 (.cells ([_, _, _, _, _, _, v_62] : List Value).toArray 30 (0, 0)), _, _, _] Z := hS'
 clear hs' hS'
 refine wpList_nil ?_
 replace h : Fr 34 a [(0, _), (2, .pointer (some ⟨g_2, 0, none⟩)), (3, .pointer (some ⟨g_18, 0, none⟩))] := h.keep [0, 2, 3]
 refine x_then_n <| c_seq fun KJ_72 hKJ_72 => wp_seq <| wp_region_lit <| s_move h rfl rfl fun a h=>?_
 obtain ⟨t_73, et_73, H⟩ := Option.bind_eq_some_iff.1 H
 refine s_call h rfl Try.call80 rfl (pack_Reader_Ok.calls _ t_58.2.1 _ t_58.2.2 t_73 w0 _ _ _ (Mem.le.refl _) (hS.enter [0] (by decide)) (hr_68.mono (Mem.un_le (hA.trans (hS.le_zed [0])) ((Mem.le.refl _).trans (hS.new_zed [0])))) et_73) ?_
 rintro _ w_74 ⟨N_75, rfl, hS'⟩
 intro a h
 obtain ⟨N_76, hS'', le_76, ln_76⟩ := hS.call [0] (by decide) rfl (l' := [Mem.one g0 (.cells ([v_66, .bool t_58.2.2] : List Value).toArray 95 (0, 0))]) (ow := []) rfl hS'
 replace hS : Sep w0 w_74 [N_76, _, _, _, _, _, _] Z := hS''
 clear hS' hS''
 refine s_not h rfl rfl fun a h=>wpList_nil <| x_then_n ?_
 by_cases hc_77 : t_73 = true
 ·rw [if_pos hc_77] at H
  refine c_cond_f h rfl (nf hc_77) <| wp_skip <| x_then_n (hKJ_72 _ _ ?_)
  refine wp_seq <| wp_region_lit <| s_load h rfl rfl (hS.load_agg (p := 3) (us := [iV t_3.1, iV t_10.1, iV t_20.1, iV t_27.1, v_40, v_51, v_62]) rfl U30 rfl ti30 rfl rfl) fun a h=>?_
  obtain ⟨w_78, hs', hS'⟩ := hS.store (P := Try.prog) (p := 2) (o := 0) (t := 30) (v := .agg ([iV t_3.1, iV t_10.1, iV t_20.1, iV t_27.1, v_40, v_51, v_62] : List Value).toArray) (vs := [iV t_3.1, iV t_10.1, iV t_20.1, iV t_27.1, v_40, v_51, v_62]) rfl ti30 rfl rfl rfl (by intro u hu; simp only [List.mem_cons, List.not_mem_nil, or_false] at hu; rcases hu with rfl | rfl | rfl | rfl | rfl | rfl | rfl <;> first | rfl | exact hr_41.one | exact hr_52.one | exact hr_63.one)
  refine s_store h rfl rfl hs' ?_
  replace hS : Sep w0 w_78 [_, _, Mem.one g_2 (.cells ([iV t_3.1, iV t_10.1, iV t_20.1, iV t_27.1, v_40, v_51, v_62] : List Value).toArray 30 (0, 0)), _, _, _, _] Z := hS'
  clear hs' hS'
  refine wpList_nil <| x_then_n <| wp_ret ?_
  obtain rfl := Option.some.inj H
  exact f_ret h (rs := [.cell 2 30]) rfl (.cell rfl (hS.load_agg (p := 2) (us := [iV t_3.1, iV t_10.1, iV t_20.1, iV t_27.1, v_40, v_51, v_62]) rfl U30 rfl ti30 rfl rfl) .nil) ⟨_, rfl, v_40, v_51, v_62, v_66, N_76, M_42, M_53, M_64, rfl, (Sep.sel hS [0, 1, 4, 5, 6] (by decide)), hr_41, hr_52, hr_63, (hr_68.mono (Mem.un_left le_76))⟩
 ·rw [if_neg hc_77] at H
  refine c_cond_t h rfl (nt (Bool.eq_false_iff.2 hc_77)) <| wp_seq <| wp_region_lit <| s_build h rfl ti30 pl30 rfl .nil (cs := [iV 0, iV 0, iV 0, iV 0, nS, nS, nS]) (by kernel_rfl) fun a h=>?_
  obtain ⟨w_79, hs', hS'⟩ := hS.store (P := Try.prog) (p := 2) (o := 0) (t := 30) (v := .agg ([iV 0, iV 0, iV 0, iV 0, nS, nS, nS] : List Value).toArray) (vs := [iV 0, iV 0, iV 0, iV 0, nS, nS, nS]) rfl ti30 rfl rfl rfl (by intro u hu; simp only [List.mem_cons, List.not_mem_nil, or_false] at hu; rcases hu with rfl | rfl | rfl | rfl | rfl | rfl | rfl <;> rfl)
  refine s_store h rfl rfl hs' ?_
  replace hS : Sep w0 w_79 [_, _, _, _, _, _, _] Z := hS'
  clear hs' hS'
  refine wpList_nil <| x_then_n <| wp_ret (x_then_r ?_)
  have hS' := hS.room
  replace hS : Sep w0 w_79 [_, _, _, _, _, _, _, Mem.no] Z := hS'
  clear hS'
  replace hS : Sep w0 w_79 [_, _, _, _, _, _, _, _] Z := hS
  have hS' := hS.room
  replace hS : Sep w0 w_79 [_, _, _, _, _, _, _, _, Mem.no] Z := hS'
  clear hS'
  replace hS : Sep w0 w_79 [_, _, _, _, _, _, _, _, _] Z := hS
  have hS' := hS.room
  replace hS : Sep w0 w_79 [_, _, _, _, _, _, _, _, _, Mem.no] Z := hS'
  clear hS'
  replace hS : Sep w0 w_79 [_, _, _, _, _, _, _, _, _, _] Z := hS
  obtain rfl := Option.some.inj H
  exact f_ret h (rs := [.cell 2 30]) rfl (.cell rfl (hS.load_agg (p := 2) (us := [iV 0, iV 0, iV 0, iV 0, nS, nS, nS]) rfl U30 rfl ti30 rfl rfl) .nil) ⟨_, rfl, nS, nS, nS, v_66, N_76, Mem.no, Mem.no, Mem.no, rfl, (Sep.sel hS [0, 1, 7, 8, 9] (by decide)), (Own.nil Kd.u8 5 Mem.no), (Own.nil Kd.u8 5 Mem.no), (Own.nil Kd.u8 5 Mem.no), (hr_68.mono (Mem.un_left le_76))⟩

set_option maxHeartbeats 4000000 in
set_option maxRecDepth 20000 in
theorem pack_Reader_End.calls (g0 : Nat) (x0_b : List UInt8) (p0_0 : Value) (x0_bad : Bool) (r : Bool) (w0 w : World) (Z A : Mem) (hA : A.le Z) (hS : Sep w0 w [Mem.one g0 (.cells ([p0_0, .bool x0_bad] : List Value).toArray 95 (0, 0))] Z) (hp0_0 : Rd Kd.u8 A p0_0 x0_b)
    (H : pack_Reader_End.f x0_b x0_bad = some r) :
    Calls Try.prog 74 [.pointer (some ⟨g0, 0, none⟩)].toArray w (Ret fun v w' => ∃ (N : Mem), v = .bool r ∧ Sep w0 w' [N, Mem.one g0 (.cells ([p0_0, .bool x0_bad] : List Value).toArray 95 (0, 0))] Z) := by
 unfold pack_Reader_End.f at H
 refine f_enter _ Try.func74 rfl Try.ntmps74 rfl fun a h=>?_
 replace h : Fr 16 a [(0, .pointer (some ⟨g0, 0, none⟩))] := h
 replace hS := hS.start
 replace hS : Sep w0 w [_, _] Z := hS
 refine wp_seq <| wp_region_lit <| s_assign h rfl rfl fun a h=>wpList_nil <| x_then_n <| c_seq fun KJ_1 hKJ_1 => wp_region_lit <| s_move h rfl rfl fun a h=>s_nilCheck h rfl rfl fun a h=>s_fieldAddr h rfl U95 rfl ti4 rfl rfl fun a h=>s_load h rfl rfl (hS.load_one (p := 1) rfl U4 rfl rfl) fun a h=>s_not h rfl rfl fun a h=>?_
 refine s_move h rfl rfl fun a h=>?_
 by_cases hc_2 : x0_bad = true
 ·rw [if_pos hc_2] at H
  refine s_off h rfl rfl rfl (nf hc_2) fun a h=>s_off h rfl rfl rfl (nf hc_2) fun a h=>s_off h rfl rfl rfl (nf hc_2) fun a h=>s_off h rfl rfl rfl (nf hc_2) fun a h=>s_off h rfl rfl rfl (nf hc_2) fun a h=>s_off h rfl rfl rfl (nf hc_2) fun a h=>s_pick_f h rfl rfl (nf hc_2) rfl fun a h=>s_assign h rfl rfl fun a h=>wpList_nil <| x_then_n (hKJ_1 _ _ ?_)
  refine wp_ret ?_
  obtain rfl := Option.some.inj H
  exact f_ret h (rs := [.tmp 2]) rfl (.tmp rfl .nil) ⟨_, rfl, Mem.no, rfl, (Sep.sel hS [0, 1] (by decide))⟩
 ·rw [if_neg hc_2] at H
  refine s_on h rfl rfl (nt (Bool.eq_false_iff.2 hc_2)) <| s_move h rfl rfl fun a h=>s_on h rfl rfl (nt (Bool.eq_false_iff.2 hc_2)) <| s_nilCheck h rfl rfl fun a h=>s_on h rfl rfl (nt (Bool.eq_false_iff.2 hc_2)) <| s_fieldAddr h rfl U95 rfl ti26 rfl rfl fun a h=>s_on h rfl rfl (nt (Bool.eq_false_iff.2 hc_2)) <| s_load h rfl rfl (hS.load_one (p := 1) rfl U26 rfl rfl) fun a h=>s_on h rfl rfl (nt (Bool.eq_false_iff.2 hc_2)) <| s_len h rfl U26 rfl hp0_0 fun a h=>s_on h rfl rfl (nt (Bool.eq_false_iff.2 hc_2)) <| s_cmp (b := ((x0_b.length : Int) == 0)) h rfl rfl rfl (.inl ⟨rfl, rfl⟩) fun a h=>?_
  refine s_pick_t h rfl rfl (nt (Bool.eq_false_iff.2 hc_2)) rfl fun a h=>s_assign h rfl rfl fun a h=>wpList_nil <| x_then_n (hKJ_1 _ _ ?_)
  refine wp_ret ?_
  obtain rfl := Option.some.inj H
  exact f_ret h (rs := [.tmp 2]) rfl (.tmp rfl .nil) ⟨_, rfl, Mem.no, rfl, (Sep.sel hS [0, 1] (by decide))⟩

set_option maxHeartbeats 4000000 in
set_option maxRecDepth 20000 in
theorem mesg_read.calls (K : Nat) (x0 : List UInt8) (p0_0 : Value) (r : api_Msg × Bool) (w0 w : World) (Z A : Mem) (hA : A.le Z) (hS : Sep w0 w [] Z) (hp0_0 : Rd Kd.u8 A p0_0 x0)
    (H : mesg_read.f K x0 = some r) :
    Calls Try.prog 57 [p0_0].toArray w (Ret fun v w' => ∃ (u0 : Value) (u1 : Value) (u2 : Value) (u3 : Value) (u4 : Value) (u5 : Value) (N : Mem) (M0 : Mem) (M1 : Mem) (M2 : Mem) (M3 : Mem) (M4 : Mem) (M5 : Mem), v = .tuple [.agg [iV r.1.Kind, iV r.1.From, iV r.1.To, iV r.1.View, iV r.1.Inst, iV r.1.Len, .bool r.1.Has, iV r.1.Members, iV r.1.Source, iV r.1.At, iV r.1.Total, u0, iV r.1.Hop, iV r.1.Seq, u1, u2, iV r.1.Index, iV r.1.Entry.Sess, iV r.1.Entry.Seq, iV r.1.Entry.Cmd.Kind, iV r.1.Entry.Cmd.Who, u3, u4, u5].toArray, .bool r.2].toArray ∧ Sep w0 w' [N, M0, M1, M2, M3, M4, M5] Z ∧ Own Kd.u8 5 M0 Mem.no u0 r.1.Data ∧ Own (Kd.int .i64) 3 M1 Mem.no u1 r.1.Have ∧ Own (Kd.int .i64) 3 M2 Mem.no u2 r.1.Need ∧ Own Kd.u8 5 M3 Mem.no u3 r.1.Entry.Cmd.Key ∧ Own Kd.u8 5 M4 Mem.no u4 r.1.Entry.Cmd.Val ∧ Own Kd.u8 5 M5 Mem.no u5 r.1.Entry.Cmd.Old) := by
 unfold mesg_read.f at H
 refine f_enter _ Try.func57 rfl Try.ntmps57 rfl fun a h=>?_
 replace h : Fr 87 a [(0, p0_0)] := h
 replace hS := hS.start
 replace hS : Sep w0 w [_] Z := hS
 refine wp_seq <| wp_region_lit <| v_alloc h rfl ti32 hS fun w_1 g_2 hS' a h => ?_
 replace hS : Sep w0 w_1 [_, Mem.one g_2 (.cells ([iV 0, iV 0, iV 0, iV 0, iV 0, iV 0, .bool false, iV 0, iV 0, iV 0, iV 0, nS, iV 0, iV 0, nS, nS, iV 0, iV 0, iV 0, iV 0, iV 0, nS, nS, nS] : List Value).toArray 32 (0, 0))] Z := hS'
 clear hS'
 refine s_assign h rfl rfl fun a h=>wpList_nil <| x_then_n <| wp_seq <| wp_region_lit <| s_move h rfl rfl fun a h=>?_
 obtain ⟨t_3, et_3, H⟩ := Option.bind_eq_some_iff.1 H
 refine s_call h rfl Try.call69 rfl (pack_Read.calls x0 _ t_3 w0 _ _ _ (Mem.le.refl _) (hS.enter [] (by decide)) (hp0_0.mono (hA.trans (hS.le_zed []))) et_3) ?_
 rintro _ w_4 ⟨g_7, v_8, N_5, rfl, hS', hr_9⟩
 intro a h
 obtain ⟨N_6, hS'', le_6, ln_6⟩ := hS.call [] (by decide) rfl (l' := []) (ow := [Mem.one g_7 (.cells ([v_8, .bool t_3.2] : List Value).toArray 95 (0, 0))]) rfl hS'
 replace hS : Sep w0 w_4 [N_6, _, Mem.one g_7 (.cells ([v_8, .bool t_3.2] : List Value).toArray 95 (0, 0))] Z := hS''
 clear hS' hS''
 refine s_assign h rfl rfl fun a h=>wpList_nil <| x_then_n <| wp_seq <| wp_region_lit <| s_move h rfl rfl fun a h=>?_
 obtain ⟨t_10, et_10, H⟩ := Option.bind_eq_some_iff.1 H
 refine s_call h rfl Try.call70 rfl (pack_Reader_Num.calls K _ t_3.1 _ t_3.2 8 t_10 w0 _ _ N_6 (hS.new_zed [1]) (hS.enter [1] (by decide)) (hr_9.mono ln_6) et_10) ?_
 rintro _ w_11 ⟨v_14, N_12, rfl, hS', hr_15⟩
 intro a h
 obtain ⟨N_13, hS'', le_13, ln_13⟩ := hS.call [1] (by decide) rfl (l' := [Mem.one g_7 (.cells ([v_14, .bool t_10.2.2] : List Value).toArray 95 (0, 0))]) (ow := []) rfl hS'
 replace hS : Sep w0 w_11 [N_13, _, Mem.one g_7 (.cells ([v_14, .bool t_10.2.2] : List Value).toArray 95 (0, 0))] Z := hS''
 clear hS' hS''
 refine s_move h rfl rfl fun a h=>?_
 obtain ⟨t_16, et_16, H⟩ := Option.bind_eq_some_iff.1 H
 refine s_call h rfl Try.call70 rfl (pack_Reader_Num.calls K _ t_10.2.1 _ t_10.2.2 6 t_16 w0 _ _ N_13 (hS.new_zed [1]) (hS.enter [1] (by decide)) (hr_15.mono (Mem.un_le le_13 ln_13)) et_16) ?_
 rintro _ w_17 ⟨v_20, N_18, rfl, hS', hr_21⟩
 intro a h
 obtain ⟨N_19, hS'', le_19, ln_19⟩ := hS.call [1] (by decide) rfl (l' := [Mem.one g_7 (.cells ([v_20, .bool t_16.2.2] : List Value).toArray 95 (0, 0))]) (ow := []) rfl hS'
 replace hS : Sep w0 w_17 [N_19, _, Mem.one g_7 (.cells ([v_20, .bool t_16.2.2] : List Value).toArray 95 (0, 0))] Z := hS''
 clear hS' hS''
 refine s_move h rfl rfl fun a h=>?_
 obtain ⟨t_22, et_22, H⟩ := Option.bind_eq_some_iff.1 H
 refine s_call h rfl Try.call70 rfl (pack_Reader_Num.calls K _ t_16.2.1 _ t_16.2.2 6 t_22 w0 _ _ N_19 (hS.new_zed [1]) (hS.enter [1] (by decide)) (hr_21.mono (Mem.un_le le_19 ln_19)) et_22) ?_
 rintro _ w_23 ⟨v_26, N_24, rfl, hS', hr_27⟩
 intro a h
 obtain ⟨N_25, hS'', le_25, ln_25⟩ := hS.call [1] (by decide) rfl (l' := [Mem.one g_7 (.cells ([v_26, .bool t_22.2.2] : List Value).toArray 95 (0, 0))]) (ow := []) rfl hS'
 replace hS : Sep w0 w_23 [N_25, _, Mem.one g_7 (.cells ([v_26, .bool t_22.2.2] : List Value).toArray 95 (0, 0))] Z := hS''
 clear hS' hS''
 refine s_move h rfl rfl fun a h=>?_
 obtain ⟨t_28, et_28, H⟩ := Option.bind_eq_some_iff.1 H
 refine s_call h rfl Try.call70 rfl (pack_Reader_Num.calls K _ t_22.2.1 _ t_22.2.2 1099511627776 t_28 w0 _ _ N_25 (hS.new_zed [1]) (hS.enter [1] (by decide)) (hr_27.mono (Mem.un_le le_25 ln_25)) et_28) ?_
 rintro _ w_29 ⟨v_32, N_30, rfl, hS', hr_33⟩
 intro a h
 obtain ⟨N_31, hS'', le_31, ln_31⟩ := hS.call [1] (by decide) rfl (l' := [Mem.one g_7 (.cells ([v_32, .bool t_28.2.2] : List Value).toArray 95 (0, 0))]) (ow := []) rfl hS'
 replace hS : Sep w0 w_29 [N_31, _, Mem.one g_7 (.cells ([v_32, .bool t_28.2.2] : List Value).toArray 95 (0, 0))] Z := hS''
 clear hS' hS''
 refine s_build h rfl ti32 pl32 rfl (.cons rfl (.cons rfl (.cons rfl (.cons rfl .nil)))) (cs := [iV t_10.1, iV t_16.1, iV t_22.1, iV t_28.1, iV 0, iV 0, .bool false, iV 0, iV 0, iV 0, iV 0, nS, iV 0, iV 0, nS, nS, iV 0, iV 0, iV 0, iV 0, iV 0, nS, nS, nS]) (by kernel_rfl) fun a h=>v_alloc h rfl ti32 hS fun w_34 g_35 hS' a h => ?_
 replace hS : Sep w0 w_34 [_, _, _, Mem.one g_35 (.cells ([iV 0, iV 0, iV 0, iV 0, iV 0, iV 0, .bool false, iV 0, iV 0, iV 0, iV 0, nS, iV 0, iV 0, nS, nS, iV 0, iV 0, iV 0, iV 0, iV 0, nS, nS, nS] : List Value).toArray 32 (0, 0))] Z := hS'
 clear hS'
 obtain ⟨w_36, hs', hS'⟩ := hS.store (P := Try.prog) (p := 3) (o := 0) (t := 32) (v := .agg ([iV t_10.1, iV t_16.1, iV t_22.1, iV t_28.1, iV 0, iV 0, .bool false, iV 0, iV 0, iV 0, iV 0, nS, iV 0, iV 0, nS, nS, iV 0, iV 0, iV 0, iV 0, iV 0, nS, nS, nS] : List Value).toArray) (vs := [iV t_10.1, iV t_16.1, iV t_22.1, iV t_28.1, iV 0, iV 0, .bool false, iV 0, iV 0, iV 0, iV 0, nS, iV 0, iV 0, nS, nS, iV 0, iV 0, iV 0, iV 0, iV 0, nS, nS, nS]) rfl ti32 rfl rfl rfl (by intro u hu; simp only [List.mem_cons, List.not_mem_nil, or_false] at hu; rcases hu with rfl | rfl | rfl | rfl | rfl | rfl | rfl | rfl | rfl | rfl | rfl | rfl | rfl | rfl | rfl | rfl | rfl | rfl | rfl | rfl | rfl | rfl | rfl | rfl <;> rfl)
 refine s_store h rfl rfl hs' ?_
 replace hS : Sep w0 w_36 [_, _, _, Mem.one g_35 (.cells ([iV t_10.1, iV t_16.1, iV t_22.1, iV t_28.1, _, _, _, _, _, _, _, _, _, _, _, _, _, _, _, _, _, _, _, _] : List Value).toArray 32 (0, 0))] Z := hS'
 clear hs' hS'
 refine wpList_nil <| x_then_n <| c_seq fun KJ_37 hKJ_37 => wp_seq <| wp_region_lit <| s_fieldAddr h rfl U32 rfl ti3 rfl rfl fun a h=>s_load h rfl rfl (hS.load_one (p := 3) rfl U3 rfl rfl) fun a h=>wpList_nil ?_
 replace h : Fr 87 a [(2, .pointer (some ⟨g_2, 0, none⟩)), (3, .bool false), (4, .pointer (some ⟨g_7, 0, none⟩)), (5, .pointer (some ⟨g_35, 0, none⟩)), (18, iV t_10.1)] := h.keep [2, 3, 4, 5, 18]
 refine x_then_n ?_
 have hJ_j_68 : ∀ (x_39 : pack_Reader), ∀ (x_42 : api_Msg), mesg_read.J1 K x_39 x_42 = some r → ∀ (a : Act) (w_67 : World), (∃ (v_40 : Value) (v_45 : Value) (v_49 : Value) (v_53 : Value) (v_57 : Value) (v_61 : Value) (v_65 : Value) (N_38 : Mem) (M_43 : Mem) (M_47 : Mem) (M_51 : Mem) (M_55 : Mem) (M_59 : Mem) (M_63 : Mem), Fr 87 a [(2, .pointer (some ⟨g_2, 0, none⟩)), (3, .bool false), (4, .pointer (some ⟨g_7, 0, none⟩)), (5, .pointer (some ⟨g_35, 0, none⟩))] ∧ Sep w0 w_67 [N_38, Mem.one g_2 (.cells ([iV 0, iV 0, iV 0, iV 0, iV 0, iV 0, .bool false, iV 0, iV 0, iV 0, iV 0, nS, iV 0, iV 0, nS, nS, iV 0, iV 0, iV 0, iV 0, iV 0, nS, nS, nS] : List Value).toArray 32 (0, 0)), Mem.one g_7 (.cells ([v_40, .bool x_39.bad] : List Value).toArray 95 (0, 0)), Mem.one g_35 (.cells ([iV x_42.Kind, iV x_42.From, iV x_42.To, iV x_42.View, iV x_42.Inst, iV x_42.Len, .bool x_42.Has, iV x_42.Members, iV x_42.Source, iV x_42.At, iV x_42.Total, v_45, iV x_42.Hop, iV x_42.Seq, v_49, v_53, iV x_42.Index, iV x_42.Entry.Sess, iV x_42.Entry.Seq, iV x_42.Entry.Cmd.Kind, iV x_42.Entry.Cmd.Who, v_57, v_61, v_65] : List Value).toArray 32 (0, 0)), M_43, M_47, M_51, M_55, M_59, M_63] Z ∧ N_31.le N_38 ∧ Rd Kd.u8 N_38 v_40 x_39.b ∧ Own Kd.u8 5 M_43 Mem.no v_45 x_42.Data ∧ Own (Kd.int .i64) 3 M_47 Mem.no v_49 x_42.Have ∧ Own (Kd.int .i64) 3 M_51 Mem.no v_53 x_42.Need ∧ Own Kd.u8 5 M_55 Mem.no v_57 x_42.Entry.Cmd.Key ∧ Own Kd.u8 5 M_59 Mem.no v_61 x_42.Entry.Cmd.Val ∧ Own Kd.u8 5 M_63 Mem.no v_65 x_42.Entry.Cmd.Old) → KJ_37 a w_67 := by
  clear H h hS a
  rintro x_39 x_42 H a w_67 ⟨v_40, v_45, v_49, v_53, v_57, v_61, v_65, N_38, M_43, M_47, M_51, M_55, M_59, M_63, h, hS, le_38, hr_41, ho_46, ho_50, ho_54, ho_58, ho_62, ho_66⟩
  unfold mesg_read.J1 at H
  refine hKJ_37 _ _ <| c_seq fun KJ_69 hKJ_69 => h_begin (S := fun w => Sep w0 w [N_38, Mem.no, Mem.one g_7 (.cells ([v_40, .bool x_39.bad] : List Value).toArray 95 (0, 0)), Mem.one g_35 (.cells ([iV x_42.Kind, iV x_42.From, iV x_42.To, iV x_42.View, iV x_42.Inst, iV x_42.Len, .bool x_42.Has, iV x_42.Members, iV x_42.Source, iV x_42.At, iV x_42.Total, v_45, iV x_42.Hop, iV x_42.Seq, v_49, v_53, iV x_42.Index, iV x_42.Entry.Sess, iV x_42.Entry.Seq, iV x_42.Entry.Cmd.Kind, iV x_42.Entry.Cmd.Who, v_57, v_61, v_65] : List Value).toArray 32 (0, 0)), M_43, M_47, M_51, M_55, M_59, M_63] Z) 5 (by kernel_rfl) rfl (bA 5 0) (by kernel_rfl) hS fun w_70 hS => ?_
  replace hS : Sep w0 w_70 [_, _, _, _, _, _, _, _, _, _] Z := hS
  refine t_take 0 (bA 5 1) rfl rfl rfl rfl h (hS.sub (.cons (Mem.le.refl _) (.zz .ii))) (v := .agg ([iV x_42.Kind, iV x_42.From, iV x_42.To, iV x_42.View, iV x_42.Inst, iV x_42.Len, .bool x_42.Has, iV x_42.Members, iV x_42.Source, iV x_42.At, iV x_42.Total, v_45, iV x_42.Hop, iV x_42.Seq, v_49, v_53, iV x_42.Index, iV x_42.Entry.Sess, iV x_42.Entry.Seq, iV x_42.Entry.Cmd.Kind, iV x_42.Entry.Cmd.Who, v_57, v_61, v_65] : List Value).toArray) (fun w hS => r_load h rfl (hS.load_agg (p := 3) (us := [iV x_42.Kind, iV x_42.From, iV x_42.To, iV x_42.View, iV x_42.Inst, iV x_42.Len, .bool x_42.Has, iV x_42.Members, iV x_42.Source, iV x_42.At, iV x_42.Total, v_45, iV x_42.Hop, iV x_42.Seq, v_49, v_53, iV x_42.Index, iV x_42.Entry.Sess, iV x_42.Entry.Seq, iV x_42.Entry.Cmd.Kind, iV x_42.Entry.Cmd.Who, v_57, v_61, v_65]) rfl U32 rfl ti32 rfl rfl)) fun a h=>t_take 1 (bA 5 3) rfl rfl rfl rfl h (hS.sub (.cons (Mem.le.refl _) (.zz .ii))) (v := .pointer (some ⟨g_7, 0, none⟩)) (fun w hS => r_move h rfl) fun a h=>?_
  refine h_event 2 (bA 5 7) rfl (by kernel_rfl) (by kernel_rfl) ?_
  obtain ⟨t_71, et_71, H⟩ := Option.bind_eq_some_iff.1 H
  refine s_call h rfl Try.call74 rfl (pack_Reader_End.calls _ x_39.b _ x_39.bad t_71 w0 _ _ _ (Mem.le.refl _) (hS.enter [1] (by decide)) (hr_41.mono ((Mem.le.refl _).trans (hS.new_zed [1]))) et_71) ?_
  rintro _ w_72 ⟨N_73, rfl, hS'⟩
  intro a h
  obtain ⟨N_74, hS'', le_74, ln_74⟩ := hS.call [1] (by decide) rfl (l' := [Mem.one g_7 (.cells ([v_40, .bool x_39.bad] : List Value).toArray 95 (0, 0))]) (ow := []) rfl hS'
  replace hS : Sep w0 w_72 [N_74, _, _, _, _, _, _, _, _, _] Z := hS''
  clear hS' hS''
  refine wpList_nil <| x_then_n ⟨(hS.sub (.cons le_74 (.zz .ii))), ?_⟩
  refine h_event 3 (bA 5 15) rfl (by kernel_rfl) (by kernel_rfl) ?_
  obtain ⟨w_75, hs', hS'⟩ := hS.store (P := Try.prog) (p := 1) (o := 0) (t := 32) (v := .agg ([iV x_42.Kind, iV x_42.From, iV x_42.To, iV x_42.View, iV x_42.Inst, iV x_42.Len, .bool x_42.Has, iV x_42.Members, iV x_42.Source, iV x_42.At, iV x_42.Total, v_45, iV x_42.Hop, iV x_42.Seq, v_49, v_53, iV x_42.Index, iV x_42.Entry.Sess, iV x_42.Entry.Seq, iV x_42.Entry.Cmd.Kind, iV x_42.Entry.Cmd.Who, v_57, v_61, v_65] : List Value).toArray) (vs := [iV x_42.Kind, iV x_42.From, iV x_42.To, iV x_42.View, iV x_42.Inst, iV x_42.Len, .bool x_42.Has, iV x_42.Members, iV x_42.Source, iV x_42.At, iV x_42.Total, v_45, iV x_42.Hop, iV x_42.Seq, v_49, v_53, iV x_42.Index, iV x_42.Entry.Sess, iV x_42.Entry.Seq, iV x_42.Entry.Cmd.Kind, iV x_42.Entry.Cmd.Who, v_57, v_61, v_65]) rfl ti32 rfl rfl rfl (by intro u hu; simp only [List.mem_cons, List.not_mem_nil, or_false] at hu; rcases hu with rfl | rfl | rfl | rfl | rfl | rfl | rfl | rfl | rfl | rfl | rfl | rfl | rfl | rfl | rfl | rfl | rfl | rfl | rfl | rfl | rfl | rfl | rfl | rfl <;> first | rfl | exact ho_46.one | exact ho_50.one | exact ho_54.one | exact ho_58.one | exact ho_62.one | exact ho_66.one)
  refine s_store h rfl rfl hs' ?_
  replace hS : Sep w0 w_75 [_, Mem.one g_2 (.cells ([iV x_42.Kind, iV x_42.From, iV x_42.To, iV x_42.View, iV x_42.Inst, iV x_42.Len, .bool x_42.Has, iV x_42.Members, iV x_42.Source, iV x_42.At, iV x_42.Total, v_45, iV x_42.Hop, iV x_42.Seq, v_49, v_53, iV x_42.Index, iV x_42.Entry.Sess, iV x_42.Entry.Seq, iV x_42.Entry.Cmd.Kind, iV x_42.Entry.Cmd.Who, v_57, v_61, v_65] : List Value).toArray 32 (0, 0)), _, _, _, _, _, _, _, _] Z := hS'
  clear hs' hS'
  refine wpList_nil <| x_then_n ⟨(hS.sub (.cons le_74 (.zz .ii))), ?_⟩
  refine t_take 4 (bA 5 31) rfl rfl rfl rfl h (hS.sub (.cons le_74 (.zz .ii))) (v := .bool t_71) (fun w hS => r_assign h rfl) fun a h=>h_done (by kernel_rfl) <| x_then_n (hKJ_69 _ _ ?_)
  refine wp_ret ?_
  obtain rfl := Option.some.inj H
  exact f_ret h (rs := [.cell 2 32, .tmp 3]) rfl (.cell rfl (hS.load_agg (p := 1) (us := [iV x_42.Kind, iV x_42.From, iV x_42.To, iV x_42.View, iV x_42.Inst, iV x_42.Len, .bool x_42.Has, iV x_42.Members, iV x_42.Source, iV x_42.At, iV x_42.Total, v_45, iV x_42.Hop, iV x_42.Seq, v_49, v_53, iV x_42.Index, iV x_42.Entry.Sess, iV x_42.Entry.Seq, iV x_42.Entry.Cmd.Kind, iV x_42.Entry.Cmd.Who, v_57, v_61, v_65]) rfl U32 rfl ti32 rfl rfl) (.tmp rfl .nil)) ⟨_, rfl, v_45, v_49, v_53, v_57, v_61, v_65, N_74, M_43, M_47, M_51, M_55, M_59, M_63, rfl, (Sep.sel hS [0, 4, 5, 6, 7, 8, 9] (by decide)), ho_46, ho_50, ho_54, ho_58, ho_62, ho_66⟩
 clear hKJ_37
 refine c_block <| c_seq fun KJ_76 hKJ_76 => wp_seq <| wp_region_lit <| s_cmp (b := (t_10.1 == 1)) h rfl rfl rfl (.inl ⟨rfl, rfl⟩) fun a h=>s_assign h rfl rfl fun a h=>wpList_nil <| x_then_n ?_
 have hJ_j_80 : ∀ (x_78 : Bool), mesg_read.J2 K t_28 t_10 t_16 t_22 x_78 = some r → ∀ (a : Act) (w_79 : World), (∃ (N_77 : Mem), Fr 87 a [(2, .pointer (some ⟨g_2, 0, none⟩)), (3, .bool false), (4, .pointer (some ⟨g_7, 0, none⟩)), (5, .pointer (some ⟨g_35, 0, none⟩)), (18, iV t_10.1), (20, .bool x_78)] ∧ Sep w0 w_79 [N_77, Mem.one g_2 (.cells ([iV 0, iV 0, iV 0, iV 0, iV 0, iV 0, .bool false, iV 0, iV 0, iV 0, iV 0, nS, iV 0, iV 0, nS, nS, iV 0, iV 0, iV 0, iV 0, iV 0, nS, nS, nS] : List Value).toArray 32 (0, 0)), Mem.one g_7 (.cells ([v_32, .bool t_28.2.2] : List Value).toArray 95 (0, 0)), Mem.one g_35 (.cells ([iV t_10.1, iV t_16.1, iV t_22.1, iV t_28.1, iV 0, iV 0, .bool false, iV 0, iV 0, iV 0, iV 0, nS, iV 0, iV 0, nS, nS, iV 0, iV 0, iV 0, iV 0, iV 0, nS, nS, nS] : List Value).toArray 32 (0, 0))] Z ∧ N_31.le N_77) → KJ_76 a w_79 := by
  clear H h hS a
  rintro x_78 H a w_79 ⟨N_77, h, hS, le_77⟩
  unfold mesg_read.J2 at H
  refine hKJ_76 _ _ ?_
  by_cases hc_81 : x_78 = true
  ·rw [if_pos hc_81] at H
   refine c_cond_t h rfl hc_81 <| wp_skip <| x_block_n ?_
   have hS' := hS.room
   replace hS : Sep w0 w_79 [_, _, _, _, Mem.no] Z := hS'
   clear hS'
   have hS' := hS.room
   replace hS : Sep w0 w_79 [_, _, _, _, _, Mem.no] Z := hS'
   clear hS'
   have hS' := hS.room
   replace hS : Sep w0 w_79 [_, _, _, _, _, _, Mem.no] Z := hS'
   clear hS'
   have hS' := hS.room
   replace hS : Sep w0 w_79 [_, _, _, _, _, _, _, Mem.no] Z := hS'
   clear hS'
   have hS' := hS.room
   replace hS : Sep w0 w_79 [_, _, _, _, _, _, _, _, Mem.no] Z := hS'
   clear hS'
   have hS' := hS.room
   replace hS : Sep w0 w_79 [_, _, _, _, _, _, _, _, _, Mem.no] Z := hS'
   clear hS'
   replace hS : Sep w0 w_79 [_, _, _, _, _, _, _, _, _, _] Z := hS
   replace h : Fr 87 a [(2, _), (3, _), (4, _), (5, _)] := h.keep [2, 3, 4, 5]
   exact x_then_n (hJ_j_68 (⟨t_28.2.1, t_28.2.2⟩ : pack_Reader) (⟨t_10.1, t_16.1, t_22.1, t_28.1, 0, 0, false, 0, 0, 0, 0, ([] : List UInt8), 0, 0, ([] : List Int), ([] : List Int), 0, (⟨0, 0, (⟨0, 0, ([] : List UInt8), ([] : List UInt8), ([] : List UInt8)⟩ : api_Cmd)⟩ : api_Entry)⟩ : api_Msg) H _ _ ⟨v_32, nS, nS, nS, nS, nS, nS, N_77, Mem.no, Mem.no, Mem.no, Mem.no, Mem.no, Mem.no, h, (Sep.sel hS [0, 1, 2, 3, 4, 5, 6, 7, 8, 9] (by decide)), le_77, ((hr_33.mono (Mem.un_le le_31 ln_31)).mono le_77), (Own.nil Kd.u8 5 Mem.no), (Own.nil (Kd.int .i64) 3 Mem.no), (Own.nil (Kd.int .i64) 3 Mem.no), (Own.nil Kd.u8 5 Mem.no), (Own.nil Kd.u8 5 Mem.no), (Own.nil Kd.u8 5 Mem.no)⟩)
  ·rw [if_neg hc_81] at H
   refine c_cond_f h rfl (Bool.eq_false_iff.2 hc_81) <| wp_seq <| wp_region_lit <| s_cmp (b := (t_10.1 == 2)) h rfl rfl rfl (.inl ⟨rfl, rfl⟩) fun a h=>s_assign h rfl rfl fun a h=>wpList_nil <| x_then_n ?_
   by_cases hc_88 : t_10.1 = 2
   ·rw [if_pos hc_88] at H
    refine c_cond_t h rfl (beq_iff_eq.2 hc_88) <| wp_region_lit <| s_move h rfl rfl fun a h=>?_
    obtain ⟨t_89, et_89, H⟩ := Option.bind_eq_some_iff.1 H
    refine s_call h rfl Try.call70 rfl (pack_Reader_Num.calls K _ t_28.2.1 _ t_28.2.2 1099511627776 t_89 w0 _ _ N_77 (hS.new_zed [1]) (hS.enter [1] (by decide)) ((hr_33.mono (Mem.un_le le_31 ln_31)).mono le_77) et_89) ?_
    rintro _ w_90 ⟨v_93, N_91, rfl, hS', hr_94⟩
    intro a h
    obtain ⟨N_92, hS'', le_92, ln_92⟩ := hS.call [1] (by decide) rfl (l' := [Mem.one g_7 (.cells ([v_93, .bool t_89.2.2] : List Value).toArray 95 (0, 0))]) (ow := []) rfl hS'
    replace hS : Sep w0 w_90 [N_92, _, Mem.one g_7 (.cells ([v_93, .bool t_89.2.2] : List Value).toArray 95 (0, 0)), _] Z := hS''
    clear hS' hS''
    refine s_move h rfl rfl fun a h=>?_
    obtain ⟨t_95, et_95, H⟩ := Option.bind_eq_some_iff.1 H
    refine s_call h rfl Try.call70 rfl (pack_Reader_Num.calls K _ t_89.2.1 _ t_89.2.2 1099511627776 t_95 w0 _ _ N_92 (hS.new_zed [1]) (hS.enter [1] (by decide)) (hr_94.mono (Mem.un_le le_92 ln_92)) et_95) ?_
    rintro _ w_96 ⟨v_99, N_97, rfl, hS', hr_100⟩
    intro a h
    obtain ⟨N_98, hS'', le_98, ln_98⟩ := hS.call [1] (by decide) rfl (l' := [Mem.one g_7 (.cells ([v_99, .bool t_95.2.2] : List Value).toArray 95 (0, 0))]) (ow := []) rfl hS'
    replace hS : Sep w0 w_96 [N_98, _, Mem.one g_7 (.cells ([v_99, .bool t_95.2.2] : List Value).toArray 95 (0, 0)), _] Z := hS''
    clear hS' hS''
    refine s_move h rfl rfl fun a h=>?_
    obtain ⟨t_101, et_101, H⟩ := Option.bind_eq_some_iff.1 H
    refine s_call h rfl Try.call70 rfl (pack_Reader_Num.calls K _ t_95.2.1 _ t_95.2.2 1 t_101 w0 _ _ N_98 (hS.new_zed [1]) (hS.enter [1] (by decide)) (hr_100.mono (Mem.un_le le_98 ln_98)) et_101) ?_
    rintro _ w_102 ⟨v_105, N_103, rfl, hS', hr_106⟩
    intro a h
    obtain ⟨N_104, hS'', le_104, ln_104⟩ := hS.call [1] (by decide) rfl (l' := [Mem.one g_7 (.cells ([v_105, .bool t_101.2.2] : List Value).toArray 95 (0, 0))]) (ow := []) rfl hS'
    replace hS : Sep w0 w_102 [N_104, _, Mem.one g_7 (.cells ([v_105, .bool t_101.2.2] : List Value).toArray 95 (0, 0)), _] Z := hS''
    clear hS' hS''
    refine s_cmp (b := (t_101.1 == 1)) h rfl rfl rfl (.inl ⟨rfl, rfl⟩) fun a h=>s_fieldAddr h rfl U32 rfl ti3 rfl rfl fun a h=>?_
    obtain ⟨w_107, hs', hS'⟩ := hS.store (P := Try.prog) (p := 3) (o := 4) (t := 3) (v := iV t_89.1) (vs := [iV t_89.1]) rfl ti3 rfl rfl rfl (by intro u hu; simp only [List.mem_cons, List.not_mem_nil, or_false] at hu; rcases hu with rfl <;> rfl)
    refine s_store h rfl rfl hs' ?_
    replace hS : Sep w0 w_107 [_, _, _, Mem.one g_35 (.cells ([_, _, _, _, iV t_89.1, _, _, _, _, _, _, _, _, _, _, _, _, _, _, _, _, _, _, _] : List Value).toArray 32 (0, 0))] Z := hS'
    clear hs' hS'
    refine s_fieldAddr h rfl U32 rfl ti3 rfl rfl fun a h=>?_
    obtain ⟨w_108, hs', hS'⟩ := hS.store (P := Try.prog) (p := 3) (o := 5) (t := 3) (v := iV t_95.1) (vs := [iV t_95.1]) rfl ti3 rfl rfl rfl (by intro u hu; simp only [List.mem_cons, List.not_mem_nil, or_false] at hu; rcases hu with rfl <;> rfl)
    refine s_store h rfl rfl hs' ?_
    replace hS : Sep w0 w_108 [_, _, _, Mem.one g_35 (.cells ([_, _, _, _, _, iV t_95.1, _, _, _, _, _, _, _, _, _, _, _, _, _, _, _, _, _, _] : List Value).toArray 32 (0, 0))] Z := hS'
    clear hs' hS'
    refine s_fieldAddr h rfl U32 rfl ti4 rfl rfl fun a h=>?_
    obtain ⟨w_109, hs', hS'⟩ := hS.store (P := Try.prog) (p := 3) (o := 6) (t := 4) (v := .bool (t_101.1 == 1)) (vs := [.bool (t_101.1 == 1)]) rfl ti4 rfl rfl rfl (by intro u hu; simp only [List.mem_cons, List.not_mem_nil, or_false] at hu; rcases hu with rfl <;> rfl)
    refine s_store h rfl rfl hs' ?_
    replace hS : Sep w0 w_109 [_, _, _, Mem.one g_35 (.cells ([_, _, _, _, _, _, .bool (t_101.1 == 1), _, _, _, _, _, _, _, _, _, _, _, _, _, _, _, _, _] : List Value).toArray 32 (0, 0))] Z := hS'
    clear hs' hS'
    refine wpList_nil <| x_block_n ?_
    have hS' := hS.room
    replace hS : Sep w0 w_109 [_, _, _, _, Mem.no] Z := hS'
    clear hS'
    have hS' := hS.room
    replace hS : Sep w0 w_109 [_, _, _, _, _, Mem.no] Z := hS'
    clear hS'
    have hS' := hS.room
    replace hS : Sep w0 w_109 [_, _, _, _, _, _, Mem.no] Z := hS'
    clear hS'
    have hS' := hS.room
    replace hS : Sep w0 w_109 [_, _, _, _, _, _, _, Mem.no] Z := hS'
    clear hS'
    have hS' := hS.room
    replace hS : Sep w0 w_109 [_, _, _, _, _, _, _, _, Mem.no] Z := hS'
    clear hS'
    have hS' := hS.room
    replace hS : Sep w0 w_109 [_, _, _, _, _, _, _, _, _, Mem.no] Z := hS'
    clear hS'
    replace hS : Sep w0 w_109 [_, _, _, _, _, _, _, _, _, _] Z := hS
    replace h : Fr 87 a [(2, _), (3, _), (4, _), (5, _)] := h.keep [2, 3, 4, 5]
    exact x_then_n (hJ_j_68 (⟨t_101.2.1, t_101.2.2⟩ : pack_Reader) (⟨t_10.1, t_16.1, t_22.1, t_28.1, t_89.1, t_95.1, (t_101.1 == 1), 0, 0, 0, 0, ([] : List UInt8), 0, 0, ([] : List Int), ([] : List Int), 0, (⟨0, 0, (⟨0, 0, ([] : List UInt8), ([] : List UInt8), ([] : List UInt8)⟩ : api_Cmd)⟩ : api_Entry)⟩ : api_Msg) H _ _ ⟨v_105, nS, nS, nS, nS, nS, nS, N_104, Mem.no, Mem.no, Mem.no, Mem.no, Mem.no, Mem.no, h, (Sep.sel hS [0, 1, 2, 3, 4, 5, 6, 7, 8, 9] (by decide)), (le_77.trans (le_92.trans (le_98.trans le_104))), (hr_106.mono (Mem.un_le le_104 ln_104)), (Own.nil Kd.u8 5 Mem.no), (Own.nil (Kd.int .i64) 3 Mem.no), (Own.nil (Kd.int .i64) 3 Mem.no), (Own.nil Kd.u8 5 Mem.no), (Own.nil Kd.u8 5 Mem.no), (Own.nil Kd.u8 5 Mem.no)⟩)
   ·rw [if_neg hc_88] at H
    refine c_cond_f h rfl (beq_eq_false_iff_ne.2 hc_88) <| wp_seq <| wp_region_lit <| s_cmp (b := (t_10.1 == 3)) h rfl rfl rfl (.inl ⟨rfl, rfl⟩) fun a h=>s_assign h rfl rfl fun a h=>wpList_nil <| x_then_n ?_
    by_cases hc_116 : t_10.1 = 3
    ·rw [if_pos hc_116] at H
     refine c_cond_t h rfl (beq_iff_eq.2 hc_116) <| wp_region_lit <| s_move h rfl rfl fun a h=>?_
     obtain ⟨t_117, et_117, H⟩ := Option.bind_eq_some_iff.1 H
     refine s_call h rfl Try.call70 rfl (pack_Reader_Num.calls K _ t_28.2.1 _ t_28.2.2 127 t_117 w0 _ _ N_77 (hS.new_zed [1]) (hS.enter [1] (by decide)) ((hr_33.mono (Mem.un_le le_31 ln_31)).mono le_77) et_117) ?_
     rintro _ w_118 ⟨v_121, N_119, rfl, hS', hr_122⟩
     intro a h
     obtain ⟨N_120, hS'', le_120, ln_120⟩ := hS.call [1] (by decide) rfl (l' := [Mem.one g_7 (.cells ([v_121, .bool t_117.2.2] : List Value).toArray 95 (0, 0))]) (ow := []) rfl hS'
     replace hS : Sep w0 w_118 [N_120, _, Mem.one g_7 (.cells ([v_121, .bool t_117.2.2] : List Value).toArray 95 (0, 0)), _] Z := hS''
     clear hS' hS''
     refine s_move h rfl rfl fun a h=>?_
     obtain ⟨t_123, et_123, H⟩ := Option.bind_eq_some_iff.1 H
     refine s_call h rfl Try.call70 rfl (pack_Reader_Num.calls K _ t_117.2.1 _ t_117.2.2 6 t_123 w0 _ _ N_120 (hS.new_zed [1]) (hS.enter [1] (by decide)) (hr_122.mono (Mem.un_le le_120 ln_120)) et_123) ?_
     rintro _ w_124 ⟨v_127, N_125, rfl, hS', hr_128⟩
     intro a h
     obtain ⟨N_126, hS'', le_126, ln_126⟩ := hS.call [1] (by decide) rfl (l' := [Mem.one g_7 (.cells ([v_127, .bool t_123.2.2] : List Value).toArray 95 (0, 0))]) (ow := []) rfl hS'
     replace hS : Sep w0 w_124 [N_126, _, Mem.one g_7 (.cells ([v_127, .bool t_123.2.2] : List Value).toArray 95 (0, 0)), _] Z := hS''
     clear hS' hS''
     refine s_move h rfl rfl fun a h=>?_
     obtain ⟨t_129, et_129, H⟩ := Option.bind_eq_some_iff.1 H
     refine s_call h rfl Try.call70 rfl (pack_Reader_Num.calls K _ t_123.2.1 _ t_123.2.2 1099511627776 t_129 w0 _ _ N_126 (hS.new_zed [1]) (hS.enter [1] (by decide)) (hr_128.mono (Mem.un_le le_126 ln_126)) et_129) ?_
     rintro _ w_130 ⟨v_133, N_131, rfl, hS', hr_134⟩
     intro a h
     obtain ⟨N_132, hS'', le_132, ln_132⟩ := hS.call [1] (by decide) rfl (l' := [Mem.one g_7 (.cells ([v_133, .bool t_129.2.2] : List Value).toArray 95 (0, 0))]) (ow := []) rfl hS'
     replace hS : Sep w0 w_130 [N_132, _, Mem.one g_7 (.cells ([v_133, .bool t_129.2.2] : List Value).toArray 95 (0, 0)), _] Z := hS''
     clear hS' hS''
     refine s_fieldAddr h rfl U32 rfl ti3 rfl rfl fun a h=>?_
     obtain ⟨w_135, hs', hS'⟩ := hS.store (P := Try.prog) (p := 3) (o := 7) (t := 3) (v := iV t_117.1) (vs := [iV t_117.1]) rfl ti3 rfl rfl rfl (by intro u hu; simp only [List.mem_cons, List.not_mem_nil, or_false] at hu; rcases hu with rfl <;> rfl)
     refine s_store h rfl rfl hs' ?_
     replace hS : Sep w0 w_135 [_, _, _, Mem.one g_35 (.cells ([_, _, _, _, _, _, _, iV t_117.1, _, _, _, _, _, _, _, _, _, _, _, _, _, _, _, _] : List Value).toArray 32 (0, 0))] Z := hS'
     clear hs' hS'
     refine s_fieldAddr h rfl U32 rfl ti3 rfl rfl fun a h=>?_
     obtain ⟨w_136, hs', hS'⟩ := hS.store (P := Try.prog) (p := 3) (o := 8) (t := 3) (v := iV t_123.1) (vs := [iV t_123.1]) rfl ti3 rfl rfl rfl (by intro u hu; simp only [List.mem_cons, List.not_mem_nil, or_false] at hu; rcases hu with rfl <;> rfl)
     refine s_store h rfl rfl hs' ?_
     replace hS : Sep w0 w_136 [_, _, _, Mem.one g_35 (.cells ([_, _, _, _, _, _, _, _, iV t_123.1, _, _, _, _, _, _, _, _, _, _, _, _, _, _, _] : List Value).toArray 32 (0, 0))] Z := hS'
     clear hs' hS'
     refine s_fieldAddr h rfl U32 rfl ti3 rfl rfl fun a h=>?_
     obtain ⟨w_137, hs', hS'⟩ := hS.store (P := Try.prog) (p := 3) (o := 5) (t := 3) (v := iV t_129.1) (vs := [iV t_129.1]) rfl ti3 rfl rfl rfl (by intro u hu; simp only [List.mem_cons, List.not_mem_nil, or_false] at hu; rcases hu with rfl <;> rfl)
     refine s_store h rfl rfl hs' ?_
     replace hS : Sep w0 w_137 [_, _, _, Mem.one g_35 (.cells ([_, _, _, _, _, iV t_129.1, _, _, _, _, _, _, _, _, _, _, _, _, _, _, _, _, _, _] : List Value).toArray 32 (0, 0))] Z := hS'
     clear hs' hS'
     refine wpList_nil ?_
     replace h : Fr 87 a [(2, _), (3, _), (4, _), (5, _)] := h.keep [2, 3, 4, 5]
     refine x_block_n ?_
     have hS' := hS.room
     replace hS : Sep w0 w_137 [_, _, _, _, Mem.no] Z := hS'
     clear hS'
     have hS' := hS.room
     replace hS : Sep w0 w_137 [_, _, _, _, _, Mem.no] Z := hS'
     clear hS'
     have hS' := hS.room
     replace hS : Sep w0 w_137 [_, _, _, _, _, _, Mem.no] Z := hS'
     clear hS'
     have hS' := hS.room
     replace hS : Sep w0 w_137 [_, _, _, _, _, _, _, Mem.no] Z := hS'
     clear hS'
     have hS' := hS.room
     replace hS : Sep w0 w_137 [_, _, _, _, _, _, _, _, Mem.no] Z := hS'
     clear hS'
     have hS' := hS.room
     replace hS : Sep w0 w_137 [_, _, _, _, _, _, _, _, _, Mem.no] Z := hS'
     clear hS'
     replace hS : Sep w0 w_137 [_, _, _, _, _, _, _, _, _, _] Z := hS
     replace h : Fr 87 a [(2, _), (3, _), (4, _), (5, _)] := h.keep [2, 3, 4, 5]
     exact x_then_n (hJ_j_68 (⟨t_129.2.1, t_129.2.2⟩ : pack_Reader) (⟨t_10.1, t_16.1, t_22.1, t_28.1, 0, t_129.1, false, t_117.1, t_123.1, 0, 0, ([] : List UInt8), 0, 0, ([] : List Int), ([] : List Int), 0, (⟨0, 0, (⟨0, 0, ([] : List UInt8), ([] : List UInt8), ([] : List UInt8)⟩ : api_Cmd)⟩ : api_Entry)⟩ : api_Msg) H _ _ ⟨v_133, nS, nS, nS, nS, nS, nS, N_132, Mem.no, Mem.no, Mem.no, Mem.no, Mem.no, Mem.no, h, (Sep.sel hS [0, 1, 2, 3, 4, 5, 6, 7, 8, 9] (by decide)), (le_77.trans (le_120.trans (le_126.trans le_132))), (hr_134.mono (Mem.un_le le_132 ln_132)), (Own.nil Kd.u8 5 Mem.no), (Own.nil (Kd.int .i64) 3 Mem.no), (Own.nil (Kd.int .i64) 3 Mem.no), (Own.nil Kd.u8 5 Mem.no), (Own.nil Kd.u8 5 Mem.no), (Own.nil Kd.u8 5 Mem.no)⟩)
    ·rw [if_neg hc_116] at H
     refine c_cond_f h rfl (beq_eq_false_iff_ne.2 hc_116) <| wp_seq <| wp_region_lit <| s_cmp (b := (t_10.1 == 4)) h rfl rfl rfl (.inl ⟨rfl, rfl⟩) fun a h=>s_assign h rfl rfl fun a h=>wpList_nil ?_
     replace h : Fr 87 a [(2, _), (3, _), (4, _), (5, _), (18, _), (46, .bool (t_10.1 == 4))] := h.keep [2, 3, 4, 5, 18, 46]
     refine x_then_n ?_
     by_cases hc_144 : t_10.1 = 4
     ·rw [if_pos hc_144] at H
      refine c_cond_t h rfl (beq_iff_eq.2 hc_144) <| wp_region_lit <| s_move h rfl rfl fun a h=>?_
      obtain ⟨t_145, et_145, H⟩ := Option.bind_eq_some_iff.1 H
      refine s_call h rfl Try.call70 rfl (pack_Reader_Num.calls K _ t_28.2.1 _ t_28.2.2 1099511627776 t_145 w0 _ _ N_77 (hS.new_zed [1]) (hS.enter [1] (by decide)) ((hr_33.mono (Mem.un_le le_31 ln_31)).mono le_77) et_145) ?_
      rintro _ w_146 ⟨v_149, N_147, rfl, hS', hr_150⟩
      intro a h
      obtain ⟨N_148, hS'', le_148, ln_148⟩ := hS.call [1] (by decide) rfl (l' := [Mem.one g_7 (.cells ([v_149, .bool t_145.2.2] : List Value).toArray 95 (0, 0))]) (ow := []) rfl hS'
      replace hS : Sep w0 w_146 [N_148, _, Mem.one g_7 (.cells ([v_149, .bool t_145.2.2] : List Value).toArray 95 (0, 0)), _] Z := hS''
      clear hS' hS''
      refine s_fieldAddr h rfl U32 rfl ti3 rfl rfl fun a h=>?_
      obtain ⟨w_151, hs', hS'⟩ := hS.store (P := Try.prog) (p := 3) (o := 9) (t := 3) (v := iV t_145.1) (vs := [iV t_145.1]) rfl ti3 rfl rfl rfl (by intro u hu; simp only [List.mem_cons, List.not_mem_nil, or_false] at hu; rcases hu with rfl <;> rfl)
      refine s_store h rfl rfl hs' ?_
      replace hS : Sep w0 w_151 [_, _, _, Mem.one g_35 (.cells ([_, _, _, _, _, _, _, _, _, iV t_145.1, _, _, _, _, _, _, _, _, _, _, _, _, _, _] : List Value).toArray 32 (0, 0))] Z := hS'
      clear hs' hS'
      refine wpList_nil <| x_block_n ?_
      have hS' := hS.room
      replace hS : Sep w0 w_151 [_, _, _, _, Mem.no] Z := hS'
      clear hS'
      have hS' := hS.room
      replace hS : Sep w0 w_151 [_, _, _, _, _, Mem.no] Z := hS'
      clear hS'
      have hS' := hS.room
      replace hS : Sep w0 w_151 [_, _, _, _, _, _, Mem.no] Z := hS'
      clear hS'
      have hS' := hS.room
      replace hS : Sep w0 w_151 [_, _, _, _, _, _, _, Mem.no] Z := hS'
      clear hS'
      have hS' := hS.room
      replace hS : Sep w0 w_151 [_, _, _, _, _, _, _, _, Mem.no] Z := hS'
      clear hS'
      have hS' := hS.room
      replace hS : Sep w0 w_151 [_, _, _, _, _, _, _, _, _, Mem.no] Z := hS'
      clear hS'
      replace hS : Sep w0 w_151 [_, _, _, _, _, _, _, _, _, _] Z := hS
      replace h : Fr 87 a [(2, _), (3, _), (4, _), (5, _)] := h.keep [2, 3, 4, 5]
      exact x_then_n (hJ_j_68 (⟨t_145.2.1, t_145.2.2⟩ : pack_Reader) (⟨t_10.1, t_16.1, t_22.1, t_28.1, 0, 0, false, 0, 0, t_145.1, 0, ([] : List UInt8), 0, 0, ([] : List Int), ([] : List Int), 0, (⟨0, 0, (⟨0, 0, ([] : List UInt8), ([] : List UInt8), ([] : List UInt8)⟩ : api_Cmd)⟩ : api_Entry)⟩ : api_Msg) H _ _ ⟨v_149, nS, nS, nS, nS, nS, nS, N_148, Mem.no, Mem.no, Mem.no, Mem.no, Mem.no, Mem.no, h, (Sep.sel hS [0, 1, 2, 3, 4, 5, 6, 7, 8, 9] (by decide)), (le_77.trans le_148), (hr_150.mono (Mem.un_le le_148 ln_148)), (Own.nil Kd.u8 5 Mem.no), (Own.nil (Kd.int .i64) 3 Mem.no), (Own.nil (Kd.int .i64) 3 Mem.no), (Own.nil Kd.u8 5 Mem.no), (Own.nil Kd.u8 5 Mem.no), (Own.nil Kd.u8 5 Mem.no)⟩)
     ·rw [if_neg hc_144] at H
      refine c_cond_f h rfl (beq_eq_false_iff_ne.2 hc_144) <| wp_seq <| wp_region_lit <| s_cmp (b := (t_10.1 == 5)) h rfl rfl rfl (.inl ⟨rfl, rfl⟩) fun a h=>s_assign h rfl rfl fun a h=>wpList_nil <| x_then_n ?_
      by_cases hc_158 : t_10.1 = 5
      ·rw [if_pos hc_158] at H
       refine c_cond_t h rfl (beq_iff_eq.2 hc_158) <| wp_region_lit <| s_move h rfl rfl fun a h=>?_
       obtain ⟨t_159, et_159, H⟩ := Option.bind_eq_some_iff.1 H
       refine s_call h rfl Try.call70 rfl (pack_Reader_Num.calls K _ t_28.2.1 _ t_28.2.2 1099511627776 t_159 w0 _ _ N_77 (hS.new_zed [1]) (hS.enter [1] (by decide)) ((hr_33.mono (Mem.un_le le_31 ln_31)).mono le_77) et_159) ?_
       rintro _ w_160 ⟨v_163, N_161, rfl, hS', hr_164⟩
       intro a h
       obtain ⟨N_162, hS'', le_162, ln_162⟩ := hS.call [1] (by decide) rfl (l' := [Mem.one g_7 (.cells ([v_163, .bool t_159.2.2] : List Value).toArray 95 (0, 0))]) (ow := []) rfl hS'
       replace hS : Sep w0 w_160 [N_162, _, Mem.one g_7 (.cells ([v_163, .bool t_159.2.2] : List Value).toArray 95 (0, 0)), _] Z := hS''
       clear hS' hS''
       refine s_move h rfl rfl fun a h=>?_
       obtain ⟨t_165, et_165, H⟩ := Option.bind_eq_some_iff.1 H
       refine s_call h rfl Try.call70 rfl (pack_Reader_Num.calls K _ t_159.2.1 _ t_159.2.2 1099511627776 t_165 w0 _ _ N_162 (hS.new_zed [1]) (hS.enter [1] (by decide)) (hr_164.mono (Mem.un_le le_162 ln_162)) et_165) ?_
       rintro _ w_166 ⟨v_169, N_167, rfl, hS', hr_170⟩
       intro a h
       obtain ⟨N_168, hS'', le_168, ln_168⟩ := hS.call [1] (by decide) rfl (l' := [Mem.one g_7 (.cells ([v_169, .bool t_165.2.2] : List Value).toArray 95 (0, 0))]) (ow := []) rfl hS'
       replace hS : Sep w0 w_166 [N_168, _, Mem.one g_7 (.cells ([v_169, .bool t_165.2.2] : List Value).toArray 95 (0, 0)), _] Z := hS''
       clear hS' hS''
       refine s_move h rfl rfl fun a h=>?_
       obtain ⟨t_171, et_171, H⟩ := Option.bind_eq_some_iff.1 H
       refine s_call h rfl Try.call71 rfl (pack_Reader_Bytes.calls K _ t_165.2.1 _ t_165.2.2 64 t_171 w0 _ _ N_168 (hS.new_zed [1]) (hS.enter [1] (by decide)) (hr_170.mono (Mem.un_le le_168 ln_168)) et_171) ?_
       rintro v_175 w_172 ⟨_, v_179, N_173, M_177, rfl, hS', hr_176, hr_180⟩
       intro a h
       obtain ⟨N_174, hS'', le_174, ln_174⟩ := hS.call [1] (by decide) rfl (l' := [Mem.one g_7 (.cells ([v_179, .bool t_171.2.2] : List Value).toArray 95 (0, 0))]) (ow := [M_177]) rfl hS'
       replace hS : Sep w0 w_172 [N_174, _, Mem.one g_7 (.cells ([v_179, .bool t_171.2.2] : List Value).toArray 95 (0, 0)), _, M_177] Z := hS''
       clear hS' hS''
       refine s_fieldAddr h rfl U32 rfl ti3 rfl rfl fun a h=>?_
       obtain ⟨w_181, hs', hS'⟩ := hS.store (P := Try.prog) (p := 3) (o := 9) (t := 3) (v := iV t_159.1) (vs := [iV t_159.1]) rfl ti3 rfl rfl rfl (by intro u hu; simp only [List.mem_cons, List.not_mem_nil, or_false] at hu; rcases hu with rfl <;> rfl)
       refine s_store h rfl rfl hs' ?_
       replace hS : Sep w0 w_181 [_, _, _, Mem.one g_35 (.cells ([_, _, _, _, _, _, _, _, _, iV t_159.1, _, _, _, _, _, _, _, _, _, _, _, _, _, _] : List Value).toArray 32 (0, 0)), _] Z := hS'
       clear hs' hS'
       refine s_fieldAddr h rfl U32 rfl ti3 rfl rfl fun a h=>?_
       obtain ⟨w_182, hs', hS'⟩ := hS.store (P := Try.prog) (p := 3) (o := 10) (t := 3) (v := iV t_165.1) (vs := [iV t_165.1]) rfl ti3 rfl rfl rfl (by intro u hu; simp only [List.mem_cons, List.not_mem_nil, or_false] at hu; rcases hu with rfl <;> rfl)
       refine s_store h rfl rfl hs' ?_
       replace hS : Sep w0 w_182 [_, _, _, Mem.one g_35 (.cells ([_, _, _, _, _, _, _, _, _, _, iV t_165.1, _, _, _, _, _, _, _, _, _, _, _, _, _] : List Value).toArray 32 (0, 0)), _] Z := hS'
       clear hs' hS'
       refine s_fieldAddr h rfl U32 rfl ti26 rfl rfl fun a h=>?_
       obtain ⟨w_183, hs', hS'⟩ := hS.store (P := Try.prog) (p := 3) (o := 11) (t := 26) (v := v_175) (vs := [v_175]) rfl ti26 hr_176.cellsA rfl rfl (by intro u hu; simp only [List.mem_cons, List.not_mem_nil, or_false] at hu; rcases hu with rfl <;> first | rfl | exact hr_176.one)
       refine s_store h rfl rfl hs' ?_
       replace hS : Sep w0 w_183 [_, _, _, Mem.one g_35 (.cells ([_, _, _, _, _, _, _, _, _, _, _, v_175, _, _, _, _, _, _, _, _, _, _, _, _] : List Value).toArray 32 (0, 0)), _] Z := hS'
       clear hs' hS'
       refine wpList_nil <| x_block_n ?_
       have hS' := hS.room
       replace hS : Sep w0 w_183 [_, _, _, _, _, Mem.no] Z := hS'
       clear hS'
       have hS' := hS.room
       replace hS : Sep w0 w_183 [_, _, _, _, _, _, Mem.no] Z := hS'
       clear hS'
       have hS' := hS.room
       replace hS : Sep w0 w_183 [_, _, _, _, _, _, _, Mem.no] Z := hS'
       clear hS'
       have hS' := hS.room
       replace hS : Sep w0 w_183 [_, _, _, _, _, _, _, _, Mem.no] Z := hS'
       clear hS'
       have hS' := hS.room
       replace hS : Sep w0 w_183 [_, _, _, _, _, _, _, _, _, Mem.no] Z := hS'
       clear hS'
       replace hS : Sep w0 w_183 [_, _, _, _, _, _, _, _, _, _] Z := hS
       replace h : Fr 87 a [(2, _), (3, _), (4, _), (5, _)] := h.keep [2, 3, 4, 5]
       exact x_then_n (hJ_j_68 (⟨t_171.2.1, t_171.2.2⟩ : pack_Reader) (⟨t_10.1, t_16.1, t_22.1, t_28.1, 0, 0, false, 0, 0, t_159.1, t_165.1, t_171.1, 0, 0, ([] : List Int), ([] : List Int), 0, (⟨0, 0, (⟨0, 0, ([] : List UInt8), ([] : List UInt8), ([] : List UInt8)⟩ : api_Cmd)⟩ : api_Entry)⟩ : api_Msg) H _ _ ⟨v_179, v_175, nS, nS, nS, nS, nS, N_174, M_177, Mem.no, Mem.no, Mem.no, Mem.no, Mem.no, h, (Sep.sel hS [0, 1, 2, 3, 4, 5, 6, 7, 8, 9] (by decide)), (le_77.trans (le_162.trans (le_168.trans le_174))), (hr_180.mono (Mem.un_le le_174 ln_174)), hr_176, (Own.nil (Kd.int .i64) 3 Mem.no), (Own.nil (Kd.int .i64) 3 Mem.no), (Own.nil Kd.u8 5 Mem.no), (Own.nil Kd.u8 5 Mem.no), (Own.nil Kd.u8 5 Mem.no)⟩)
      ·rw [if_neg hc_158] at H
       refine c_cond_f h rfl (beq_eq_false_iff_ne.2 hc_158) <| wp_seq <| wp_region_lit <| s_cmp (b := (t_10.1 == 7)) h rfl rfl rfl (.inl ⟨rfl, rfl⟩) fun a h=>s_assign h rfl rfl fun a h=>wpList_nil <| x_then_n ?_
       by_cases hc_189 : t_10.1 = 7
       ·rw [if_pos hc_189] at H
        refine c_cond_t h rfl (beq_iff_eq.2 hc_189) <| wp_seq <| wp_region_lit <| s_move h rfl rfl fun a h=>?_
        obtain ⟨t_190, et_190, H⟩ := Option.bind_eq_some_iff.1 H
        refine s_call h rfl Try.call70 rfl (pack_Reader_Num.calls K _ t_28.2.1 _ t_28.2.2 1099511627776 t_190 w0 _ _ N_77 (hS.new_zed [1]) (hS.enter [1] (by decide)) ((hr_33.mono (Mem.un_le le_31 ln_31)).mono le_77) et_190) ?_
        rintro _ w_191 ⟨v_194, N_192, rfl, hS', hr_195⟩
        intro a h
        obtain ⟨N_193, hS'', le_193, ln_193⟩ := hS.call [1] (by decide) rfl (l' := [Mem.one g_7 (.cells ([v_194, .bool t_190.2.2] : List Value).toArray 95 (0, 0))]) (ow := []) rfl hS'
        replace hS : Sep w0 w_191 [N_193, _, Mem.one g_7 (.cells ([v_194, .bool t_190.2.2] : List Value).toArray 95 (0, 0)), _] Z := hS''
        clear hS' hS''
        refine s_move h rfl rfl fun a h=>?_
        obtain ⟨t_196, et_196, H⟩ := Option.bind_eq_some_iff.1 H
        refine s_call h rfl Try.call70 rfl (pack_Reader_Num.calls K _ t_190.2.1 _ t_190.2.2 1099511627776 t_196 w0 _ _ N_193 (hS.new_zed [1]) (hS.enter [1] (by decide)) (hr_195.mono (Mem.un_le le_193 ln_193)) et_196) ?_
        rintro _ w_197 ⟨v_200, N_198, rfl, hS', hr_201⟩
        intro a h
        obtain ⟨N_199, hS'', le_199, ln_199⟩ := hS.call [1] (by decide) rfl (l' := [Mem.one g_7 (.cells ([v_200, .bool t_196.2.2] : List Value).toArray 95 (0, 0))]) (ow := []) rfl hS'
        replace hS : Sep w0 w_197 [N_199, _, Mem.one g_7 (.cells ([v_200, .bool t_196.2.2] : List Value).toArray 95 (0, 0)), _] Z := hS''
        clear hS' hS''
        refine s_fieldAddr h rfl U32 rfl ti3 rfl rfl fun a h=>?_
        obtain ⟨w_202, hs', hS'⟩ := hS.store (P := Try.prog) (p := 3) (o := 12) (t := 3) (v := iV t_190.1) (vs := [iV t_190.1]) rfl ti3 rfl rfl rfl (by intro u hu; simp only [List.mem_cons, List.not_mem_nil, or_false] at hu; rcases hu with rfl <;> rfl)
        refine s_store h rfl rfl hs' ?_
        replace hS : Sep w0 w_202 [_, _, _, Mem.one g_35 (.cells ([_, _, _, _, _, _, _, _, _, _, _, _, iV t_190.1, _, _, _, _, _, _, _, _, _, _, _] : List Value).toArray 32 (0, 0))] Z := hS'
        clear hs' hS'
        refine s_fieldAddr h rfl U32 rfl ti3 rfl rfl fun a h=>?_
        obtain ⟨w_203, hs', hS'⟩ := hS.store (P := Try.prog) (p := 3) (o := 13) (t := 3) (v := iV t_196.1) (vs := [iV t_196.1]) rfl ti3 rfl rfl rfl (by intro u hu; simp only [List.mem_cons, List.not_mem_nil, or_false] at hu; rcases hu with rfl <;> rfl)
        refine s_store h rfl rfl hs' ?_
        replace hS : Sep w0 w_203 [_, _, _, Mem.one g_35 (.cells ([_, _, _, _, _, _, _, _, _, _, _, _, _, iV t_196.1, _, _, _, _, _, _, _, _, _, _] : List Value).toArray 32 (0, 0))] Z := hS'
        clear hs' hS'
        refine wpList_nil <| x_then_n <| wp_region_lit <| s_move h rfl rfl fun a h=>?_
        obtain ⟨t_204, et_204, H⟩ := Option.bind_eq_some_iff.1 H
        refine s_call h rfl Try.call72 rfl (mesg_numbers.calls K _ t_196.2.1 _ t_196.2.2 7 t_204 w0 _ _ N_199 (hS.new_zed [1]) (hS.enter [1] (by decide)) (hr_201.mono (Mem.un_le le_199 ln_199)) et_204) ?_
        rintro v_208 w_205 ⟨_, v_212, N_206, M_210, rfl, hS', hr_209, hr_213⟩
        intro a h
        obtain ⟨N_207, hS'', le_207, ln_207⟩ := hS.call [1] (by decide) rfl (l' := [Mem.one g_7 (.cells ([v_212, .bool t_204.2.2] : List Value).toArray 95 (0, 0))]) (ow := [M_210]) rfl hS'
        replace hS : Sep w0 w_205 [N_207, _, Mem.one g_7 (.cells ([v_212, .bool t_204.2.2] : List Value).toArray 95 (0, 0)), _, M_210] Z := hS''
        clear hS' hS''
        refine s_move h rfl rfl fun a h=>?_
        obtain ⟨t_214, et_214, H⟩ := Option.bind_eq_some_iff.1 H
        refine s_call h rfl Try.call72 rfl (mesg_numbers.calls K _ t_204.2.1 _ t_204.2.2 8 t_214 w0 _ _ N_207 (hS.new_zed [1]) (hS.enter [1] (by decide)) (hr_213.mono (Mem.un_le le_207 ln_207)) et_214) ?_
        rintro v_218 w_215 ⟨_, v_222, N_216, M_220, rfl, hS', hr_219, hr_223⟩
        intro a h
        obtain ⟨N_217, hS'', le_217, ln_217⟩ := hS.call [1] (by decide) rfl (l' := [Mem.one g_7 (.cells ([v_222, .bool t_214.2.2] : List Value).toArray 95 (0, 0))]) (ow := [M_220]) rfl hS'
        replace hS : Sep w0 w_215 [N_217, _, Mem.one g_7 (.cells ([v_222, .bool t_214.2.2] : List Value).toArray 95 (0, 0)), _, _, M_220] Z := hS''
        clear hS' hS''
        refine s_fieldAddr h rfl U32 rfl ti22 rfl rfl fun a h=>?_
        obtain ⟨w_224, hs', hS'⟩ := hS.store (P := Try.prog) (p := 3) (o := 14) (t := 22) (v := v_208) (vs := [v_208]) rfl ti22 hr_209.cellsA rfl rfl (by intro u hu; simp only [List.mem_cons, List.not_mem_nil, or_false] at hu; rcases hu with rfl <;> first | rfl | exact hr_209.one)
        refine s_store h rfl rfl hs' ?_
        replace hS : Sep w0 w_224 [_, _, _, Mem.one g_35 (.cells ([_, _, _, _, _, _, _, _, _, _, _, _, _, _, v_208, _, _, _, _, _, _, _, _, _] : List Value).toArray 32 (0, 0)), _, _] Z := hS'
        clear hs' hS'
        refine s_fieldAddr h rfl U32 rfl ti22 rfl rfl fun a h=>?_
        obtain ⟨w_225, hs', hS'⟩ := hS.store (P := Try.prog) (p := 3) (o := 15) (t := 22) (v := v_218) (vs := [v_218]) rfl ti22 hr_219.cellsA rfl rfl (by intro u hu; simp only [List.mem_cons, List.not_mem_nil, or_false] at hu; rcases hu with rfl <;> first | rfl | exact hr_219.one)
        refine s_store h rfl rfl hs' ?_
        replace hS : Sep w0 w_225 [_, _, _, Mem.one g_35 (.cells ([_, _, _, _, _, _, _, _, _, _, _, _, _, _, _, v_218, _, _, _, _, _, _, _, _] : List Value).toArray 32 (0, 0)), _, _] Z := hS'
        clear hs' hS'
        refine wpList_nil ?_
        replace h : Fr 87 a [(2, _), (3, _), (4, _), (5, _)] := h.keep [2, 3, 4, 5]
        refine x_block_n ?_
        have hS' := hS.room
        replace hS : Sep w0 w_225 [_, _, _, _, _, _, Mem.no] Z := hS'
        clear hS'
        have hS' := hS.room
        replace hS : Sep w0 w_225 [_, _, _, _, _, _, _, Mem.no] Z := hS'
        clear hS'
        have hS' := hS.room
        replace hS : Sep w0 w_225 [_, _, _, _, _, _, _, _, Mem.no] Z := hS'
        clear hS'
        have hS' := hS.room
        replace hS : Sep w0 w_225 [_, _, _, _, _, _, _, _, _, Mem.no] Z := hS'
        clear hS'
        replace hS : Sep w0 w_225 [_, _, _, _, _, _, _, _, _, _] Z := hS
        replace h : Fr 87 a [(2, _), (3, _), (4, _), (5, _)] := h.keep [2, 3, 4, 5]
        exact x_then_n (hJ_j_68 (⟨t_214.2.1, t_214.2.2⟩ : pack_Reader) (⟨t_10.1, t_16.1, t_22.1, t_28.1, 0, 0, false, 0, 0, 0, 0, ([] : List UInt8), t_190.1, t_196.1, t_204.1, t_214.1, 0, (⟨0, 0, (⟨0, 0, ([] : List UInt8), ([] : List UInt8), ([] : List UInt8)⟩ : api_Cmd)⟩ : api_Entry)⟩ : api_Msg) H _ _ ⟨v_222, nS, v_208, v_218, nS, nS, nS, N_217, Mem.no, M_210, M_220, Mem.no, Mem.no, Mem.no, h, (Sep.sel hS [0, 1, 2, 3, 6, 4, 5, 7, 8, 9] (by decide)), (le_77.trans (le_193.trans (le_199.trans (le_207.trans le_217)))), (hr_223.mono (Mem.un_le le_217 ln_217)), (Own.nil Kd.u8 5 Mem.no), hr_209, hr_219, (Own.nil Kd.u8 5 Mem.no), (Own.nil Kd.u8 5 Mem.no), (Own.nil Kd.u8 5 Mem.no)⟩)
       ·rw [if_neg hc_189] at H
        refine c_cond_f h rfl (beq_eq_false_iff_ne.2 hc_189) <| wp_seq <| wp_region_lit <| s_cmp (b := (t_10.1 == 8)) h rfl rfl rfl (.inl ⟨rfl, rfl⟩) fun a h=>s_assign h rfl rfl fun a h=>wpList_nil <| x_then_n ?_
        by_cases hc_230 : t_10.1 = 8
        ·rw [if_pos hc_230] at H
         refine c_cond_t h rfl (beq_iff_eq.2 hc_230) <| wp_region_lit <| s_move h rfl rfl fun a h=>?_
         obtain ⟨t_231, et_231, H⟩ := Option.bind_eq_some_iff.1 H
         refine s_call h rfl Try.call70 rfl (pack_Reader_Num.calls K _ t_28.2.1 _ t_28.2.2 1099511627776 t_231 w0 _ _ N_77 (hS.new_zed [1]) (hS.enter [1] (by decide)) ((hr_33.mono (Mem.un_le le_31 ln_31)).mono le_77) et_231) ?_
         rintro _ w_232 ⟨v_235, N_233, rfl, hS', hr_236⟩
         intro a h
         obtain ⟨N_234, hS'', le_234, ln_234⟩ := hS.call [1] (by decide) rfl (l' := [Mem.one g_7 (.cells ([v_235, .bool t_231.2.2] : List Value).toArray 95 (0, 0))]) (ow := []) rfl hS'
         replace hS : Sep w0 w_232 [N_234, _, Mem.one g_7 (.cells ([v_235, .bool t_231.2.2] : List Value).toArray 95 (0, 0)), _] Z := hS''
         clear hS' hS''
         refine s_move h rfl rfl fun a h=>?_
         obtain ⟨t_237, et_237, H⟩ := Option.bind_eq_some_iff.1 H
         refine s_call h rfl Try.call73 rfl (mach_GetEntry.calls K _ t_231.2.1 _ t_231.2.2 t_237 w0 _ _ N_234 (hS.new_zed [1]) (hS.enter [1] (by decide)) (hr_236.mono (Mem.un_le le_234 ln_234)) et_237) ?_
         rintro _ w_238 ⟨v_241, v_245, v_249, v_253, N_239, M_243, M_247, M_251, rfl, hS', hr_242, hr_246, hr_250, hr_254⟩
         intro a h
         obtain ⟨N_240, hS'', le_240, ln_240⟩ := hS.call [1] (by decide) rfl (l' := [Mem.one g_7 (.cells ([v_253, .bool t_237.2.2] : List Value).toArray 95 (0, 0))]) (ow := [M_243, M_247, M_251]) rfl hS'
         replace hS : Sep w0 w_238 [N_240, _, Mem.one g_7 (.cells ([v_253, .bool t_237.2.2] : List Value).toArray 95 (0, 0)), _, M_243, M_247, M_251] Z := hS''
         clear hS' hS''
         refine s_fieldAddr h rfl U32 rfl ti3 rfl rfl fun a h=>?_
         obtain ⟨w_255, hs', hS'⟩ := hS.store (P := Try.prog) (p := 3) (o := 16) (t := 3) (v := iV t_231.1) (vs := [iV t_231.1]) rfl ti3 rfl rfl rfl (by intro u hu; simp only [List.mem_cons, List.not_mem_nil, or_false] at hu; rcases hu with rfl <;> rfl)
         refine s_store h rfl rfl hs' ?_
         replace hS : Sep w0 w_255 [_, _, _, Mem.one g_35 (.cells ([_, _, _, _, _, _, _, _, _, _, _, _, _, _, _, _, iV t_231.1, _, _, _, _, _, _, _] : List Value).toArray 32 (0, 0)), _, _, _] Z := hS'
         clear hs' hS'
         refine s_fieldAddr h rfl U32 rfl ti30 rfl rfl fun a h=>?_
         obtain ⟨w_256, hs', hS'⟩ := hS.store (P := Try.prog) (p := 3) (o := 17) (t := 30) (v := .agg ([iV t_237.1.Sess, iV t_237.1.Seq, iV t_237.1.Cmd.Kind, iV t_237.1.Cmd.Who, v_241, v_245, v_249] : List Value).toArray) (vs := [iV t_237.1.Sess, iV t_237.1.Seq, iV t_237.1.Cmd.Kind, iV t_237.1.Cmd.Who, v_241, v_245, v_249]) rfl ti30 rfl rfl rfl (by intro u hu; simp only [List.mem_cons, List.not_mem_nil, or_false] at hu; rcases hu with rfl | rfl | rfl | rfl | rfl | rfl | rfl <;> first | rfl | exact hr_242.one | exact hr_246.one | exact hr_250.one)
         refine s_store h rfl rfl hs' ?_
         replace hS : Sep w0 w_256 [_, _, _, Mem.one g_35 (.cells ([_, _, _, _, _, _, _, _, _, _, _, _, _, _, _, _, _, iV t_237.1.Sess, iV t_237.1.Seq, iV t_237.1.Cmd.Kind, iV t_237.1.Cmd.Who, v_241, v_245, v_249] : List Value).toArray 32 (0, 0)), _, _, _] Z := hS'
         clear hs' hS'
         refine wpList_nil ?_
         replace h : Fr 87 a [(2, _), (3, _), (4, _), (5, _)] := h.keep [2, 3, 4, 5]
         refine x_block_n ?_
         have hS' := hS.room
         replace hS : Sep w0 w_256 [_, _, _, _, _, _, _, Mem.no] Z := hS'
         clear hS'
         have hS' := hS.room
         replace hS : Sep w0 w_256 [_, _, _, _, _, _, _, _, Mem.no] Z := hS'
         clear hS'
         have hS' := hS.room
         replace hS : Sep w0 w_256 [_, _, _, _, _, _, _, _, _, Mem.no] Z := hS'
         clear hS'
         replace hS : Sep w0 w_256 [_, _, _, _, _, _, _, _, _, _] Z := hS
         replace h : Fr 87 a [(2, _), (3, _), (4, _), (5, _)] := h.keep [2, 3, 4, 5]
         exact x_then_n (hJ_j_68 (⟨t_237.2.1, t_237.2.2⟩ : pack_Reader) (⟨t_10.1, t_16.1, t_22.1, t_28.1, 0, 0, false, 0, 0, 0, 0, ([] : List UInt8), 0, 0, ([] : List Int), ([] : List Int), t_231.1, t_237.1⟩ : api_Msg) H _ _ ⟨v_253, nS, nS, nS, v_241, v_245, v_249, N_240, Mem.no, Mem.no, Mem.no, M_243, M_247, M_251, h, (Sep.sel hS [0, 1, 2, 3, 7, 8, 9, 4, 5, 6] (by decide)), (le_77.trans (le_234.trans le_240)), (hr_254.mono (Mem.un_le le_240 ln_240)), (Own.nil Kd.u8 5 Mem.no), (Own.nil (Kd.int .i64) 3 Mem.no), (Own.nil (Kd.int .i64) 3 Mem.no), hr_242, hr_246, hr_250⟩)
        ·rw [if_neg hc_230] at H
         refine c_cond_f h rfl (beq_eq_false_iff_ne.2 hc_230) <| wp_seq <| wp_region_lit <| s_build h rfl ti32 pl32 rfl .nil (cs := [iV 0, iV 0, iV 0, iV 0, iV 0, iV 0, .bool false, iV 0, iV 0, iV 0, iV 0, nS, iV 0, iV 0, nS, nS, iV 0, iV 0, iV 0, iV 0, iV 0, nS, nS, nS]) (by kernel_rfl) fun a h=>?_
         obtain ⟨w_260, hs', hS'⟩ := hS.store (P := Try.prog) (p := 1) (o := 0) (t := 32) (v := .agg ([iV 0, iV 0, iV 0, iV 0, iV 0, iV 0, .bool false, iV 0, iV 0, iV 0, iV 0, nS, iV 0, iV 0, nS, nS, iV 0, iV 0, iV 0, iV 0, iV 0, nS, nS, nS] : List Value).toArray) (vs := [iV 0, iV 0, iV 0, iV 0, iV 0, iV 0, .bool false, iV 0, iV 0, iV 0, iV 0, nS, iV 0, iV 0, nS, nS, iV 0, iV 0, iV 0, iV 0, iV 0, nS, nS, nS]) rfl ti32 rfl rfl rfl (by intro u hu; simp only [List.mem_cons, List.not_mem_nil, or_false] at hu; rcases hu with rfl | rfl | rfl | rfl | rfl | rfl | rfl | rfl | rfl | rfl | rfl | rfl | rfl | rfl | rfl | rfl | rfl | rfl | rfl | rfl | rfl | rfl | rfl | rfl <;> rfl)
         refine s_store h rfl rfl hs' ?_
         replace hS : Sep w0 w_260 [_, _, _, _] Z := hS'
         clear hs' hS'
         refine s_assign h rfl rfl fun a h=>wpList_nil ?_
         replace h : Fr 87 a [(2, _), (3, _), (4, _), (5, _)] := h.keep [2, 3, 4, 5]
         refine x_then_n <| wp_ret (x_block_r (x_then_r ?_))
         have hS' := hS.room
         replace hS : Sep w0 w_260 [_, _, _, _, Mem.no] Z := hS'
         clear hS'
         replace hS : Sep w0 w_260 [_, _, _, _, _] Z := hS
         have hS' := hS.room
         replace hS : Sep w0 w_260 [_, _, _, _, _, Mem.no] Z := hS'
         clear hS'
         replace hS : Sep w0 w_260 [_, _, _, _, _, _] Z := hS
         have hS' := hS.room
         replace hS : Sep w0 w_260 [_, _, _, _, _, _, Mem.no] Z := hS'
         clear hS'
         replace hS : Sep w0 w_260 [_, _, _, _, _, _, _] Z := hS
         have hS' := hS.room
         replace hS : Sep w0 w_260 [_, _, _, _, _, _, _, Mem.no] Z := hS'
         clear hS'
         replace hS : Sep w0 w_260 [_, _, _, _, _, _, _, _] Z := hS
         have hS' := hS.room
         replace hS : Sep w0 w_260 [_, _, _, _, _, _, _, _, Mem.no] Z := hS'
         clear hS'
         replace hS : Sep w0 w_260 [_, _, _, _, _, _, _, _, _] Z := hS
         have hS' := hS.room
         replace hS : Sep w0 w_260 [_, _, _, _, _, _, _, _, _, Mem.no] Z := hS'
         clear hS'
         replace hS : Sep w0 w_260 [_, _, _, _, _, _, _, _, _, _] Z := hS
         obtain rfl := Option.some.inj H
         exact f_ret h (rs := [.cell 2 32, .tmp 3]) rfl (.cell rfl (hS.load_agg (p := 1) (us := [iV 0, iV 0, iV 0, iV 0, iV 0, iV 0, .bool false, iV 0, iV 0, iV 0, iV 0, nS, iV 0, iV 0, nS, nS, iV 0, iV 0, iV 0, iV 0, iV 0, nS, nS, nS]) rfl U32 rfl ti32 rfl rfl) (.tmp rfl .nil)) ⟨_, rfl, nS, nS, nS, nS, nS, nS, N_77, Mem.no, Mem.no, Mem.no, Mem.no, Mem.no, Mem.no, rfl, (Sep.sel hS [0, 4, 5, 6, 7, 8, 9] (by decide)), (Own.nil Kd.u8 5 Mem.no), (Own.nil (Kd.int .i64) 3 Mem.no), (Own.nil (Kd.int .i64) 3 Mem.no), (Own.nil Kd.u8 5 Mem.no), (Own.nil Kd.u8 5 Mem.no), (Own.nil Kd.u8 5 Mem.no)⟩
 clear hKJ_76
 by_cases hc_267 : t_10.1 = 1
 ·rw [if_pos hc_267] at H
  refine c_cond_t h rfl (beq_iff_eq.2 hc_267) <| wp_skip ?_
  replace hS : Sep w0 w_36 [_, _, _, _] Z := hS
  replace h : Fr 87 a [(2, _), (3, _), (4, _), (5, _), (18, _), (20, .bool (t_10.1 == 1))] := h.keep [2, 3, 4, 5, 18, 20]
  exact x_then_n (hJ_j_80 (t_10.1 == 1) H _ _ ⟨N_31, h, (Sep.sel hS [0, 1, 2, 3] (by decide)), (Mem.le.refl _)⟩)
 ·rw [if_neg hc_267] at H
  refine c_cond_f h rfl (beq_eq_false_iff_ne.2 hc_267) <| wp_region_lit <| s_cmp (b := (t_10.1 == 6)) h rfl rfl rfl (.inl ⟨rfl, rfl⟩) fun a h=>s_assign h rfl rfl fun a h=>wpList_nil ?_
  replace hS : Sep w0 w_36 [_, _, _, _] Z := hS
  replace h : Fr 87 a [(2, _), (3, _), (4, _), (5, _), (18, _), (20, .bool (t_10.1 == 6))] := h.keep [2, 3, 4, 5, 18, 20]
  exact x_then_n (hJ_j_80 (t_10.1 == 6) H _ _ ⟨N_31, h, (Sep.sel hS [0, 1, 2, 3] (by decide)), (Mem.le.refl _)⟩)

set_option maxHeartbeats 4000000 in
set_option maxRecDepth 20000 in
theorem bytes_Equal.calls (x0 : List UInt8) (p0_0 : Value) (x1 : List UInt8) (p1_1 : Value) (r : Bool) (w0 w : World) (Z A : Mem) (hA : A.le Z) (hS : Sep w0 w [] Z) (hp0_0 : Rd Kd.u8 A p0_0 x0) (hp1_1 : Rd Kd.u8 A p1_1 x1)
    (H : bytes_Equal.f x0 x1 = some r) :
    Calls Try.prog 81 [p0_0, p1_1].toArray w (Ret fun v w' => ∃ (N : Mem), v = .bool r ∧ Sep w0 w' [N] Z) := by
 unfold bytes_Equal.f at H
 refine f_enter _ Try.func81 rfl Try.ntmps81 rfl fun a h=>?_
 replace h : Fr 10 a [(0, p0_0), (1, p1_1)] := h
 replace hS := hS.start
 replace hS : Sep w0 w [_] Z := hS
 refine wp_seq <| wp_region_lit <| s_assign h rfl rfl fun a h=>wpList_nil <| x_then_n <| wp_seq <| wp_region_lit <| s_move h rfl rfl fun a h=>s_b2s h rfl U26 U5 U9 rfl hp0_0 (hA.trans hS.old) fun a h=>s_move h rfl rfl fun a h=>s_b2s h rfl U26 U5 U9 rfl hp1_1 (hA.trans hS.old) fun a h=>s_strEq (b := (x0 == x1)) h rfl rfl rfl (.inl ⟨rfl, rfl⟩) fun a h=>?_
 refine s_assign h rfl rfl fun a h=>wpList_nil <| x_then_n <| wp_ret ?_
 obtain rfl := Option.some.inj H
 exact f_ret h (rs := [.tmp 4]) rfl (.tmp rfl .nil) ⟨_, rfl, Mem.no, rfl, (Sep.sel hS [0] (by decide))⟩

set_option maxHeartbeats 4000000 in
set_option maxRecDepth 20000 in
theorem slices_Equal_sint_int.calls (K : Nat) (x0 : List Int) (p0_0 : Value) (x1 : List Int) (p1_1 : Value) (r : Bool) (w0 w : World) (Z A : Mem) (hA : A.le Z) (hS : Sep w0 w [] Z) (hp0_0 : Rd (Kd.int .i64) A p0_0 x0) (hp1_1 : Rd (Kd.int .i64) A p1_1 x1)
    (H : slices_Equal_sint_int.f K x0 x1 = some r) :
    Calls Try.prog 82 [p0_0, p1_1].toArray w (Ret fun v w' => ∃ (N : Mem), v = .bool r ∧ Sep w0 w' [N] Z) := by
 unfold slices_Equal_sint_int.f at H
 refine f_enter _ Try.func82 rfl Try.ntmps82 rfl fun a h=>?_
 replace h : Fr 26 a [(0, p0_0), (1, p1_1)] := h
 replace hS := hS.start
 replace hS : Sep w0 w [_] Z := hS
 refine wp_seq <| wp_region_lit <| s_assign h rfl rfl fun a h=>wpList_nil <| x_then_n <| c_seq fun KJ_1 hKJ_1 => wp_seq <| wp_region_lit <| s_move h rfl rfl fun a h=>s_len h rfl U22 rfl hp0_0 fun a h=>s_move h rfl rfl fun a h=>s_len h rfl U22 rfl hp1_1 fun a h=>?_
 refine s_cmp (b := ((x0.length : Int) != (x1.length : Int))) h rfl rfl rfl (.inr (.inl ⟨rfl, rfl⟩)) fun a h=>wpList_nil <| x_then_n ?_
 by_cases hc_2 : (x0.length : Int) = (x1.length : Int)
 ·rw [if_pos hc_2] at H
  refine c_cond_f h rfl (bne_eq_false_iff_eq.2 hc_2) <| wp_skip <| x_then_n (hKJ_1 _ _ ?_)
  refine c_seq fun KJ_3 hKJ_3 => wp_seq <| wp_region_lit <| s_move h rfl rfl fun a h=>s_len h rfl U22 rfl hp0_0 fun a h=>s_move h rfl rfl fun a h=>wpList_nil <| x_then_n ?_
  have hJ_j_6 : slices_Equal_sint_int.J1 K = some r → ∀ (a : Act) (w_5 : World), (∃ (N_4 : Mem), Fr 26 a [(4, .bool false)] ∧ Sep w0 w_5 [N_4] Z ∧ Mem.no.le N_4) → KJ_3 a w_5 := by
   clear H h hS a
   rintro H a w_5 ⟨N_4, h, hS, le_4⟩
   unfold slices_Equal_sint_int.J1 at H
   refine hKJ_3 _ _ <| wp_seq <| wp_region_lit <| s_assign h rfl rfl fun a h=>wpList_nil ?_
   replace h : Fr 26 a [(4, .bool true)] := h.keep [4]
   refine x_then_n <| wp_ret ?_
   obtain rfl := Option.some.inj H
   exact f_ret h (rs := [.tmp 4]) rfl (.tmp rfl .nil) ⟨_, rfl, N_4, rfl, (Sep.sel hS [0] (by decide))⟩
  clear hKJ_3
  replace hS : Sep w0 w [_] Z := hS
  replace h : Fr 26 a [(0, _), (1, _), (4, .bool false), (12, iV (x0.length : Int)), (13, iV 0)] := h.keep [0, 1, 4, 12, 13]
  refine c_block <| c_loop (fun k_9 a w_9 => ∃ (x_8 : Int) (N_7 : Mem), slices_Equal_sint_int.L1 K x0 x1 (fun v => slices_Equal_sint_int.J1 K) k_9 x_8 = some r ∧ Fr 26 a [(0, p0_0), (1, p1_1), (4, .bool false), (12, iV (x0.length : Int)), (13, iV x_8)] ∧ Sep w0 w_9 [N_7] Z ∧ Mem.no.le N_7) K ⟨0, Mem.no, H, h, (Sep.sel hS [0] (by decide)), (Mem.le.refl _)⟩ (fun a w h => by obtain ⟨_, _, H, _⟩ := h; cases (show (none : Option (Bool)) = some r from H)) ?_
  clear h hS a H
  rintro k_9 a w_9 KL_9 hKL_9 ⟨x_8, N_7, H, h, hS, le_7⟩
  replace H : slices_Equal_sint_int.B1 K x0 x1 (fun v => slices_Equal_sint_int.J1 K) (slices_Equal_sint_int.L1 K x0 x1 (fun v => slices_Equal_sint_int.J1 K) k_9) x_8 = some r := H
  unfold slices_Equal_sint_int.B1 at H
  refine wp_seq <| wp_region_lit <| s_cmp (b := decide (x_8 < (x0.length : Int))) h rfl rfl rfl (.inr (.inr (.inl ⟨rfl, rfl⟩))) fun a h=>wpList_nil ?_
  replace h : Fr 26 a [(0, _), (1, _), (4, _), (12, _), (13, _), (14, .bool (decide (x_8 < (x0.length : Int))))] := h.keep [0, 1, 4, 12, 13, 14]
  refine x_then_n <| c_seq fun KJ_11 hKJ_11 => ?_
  by_cases hc_12 : x_8 < (x0.length : Int)
  ·rw [if_pos hc_12] at H
   refine c_cond_t h rfl (decide_eq_true hc_12) <| wp_skip <| x_then_n (hKJ_11 _ _ ?_)
   refine c_seq fun KJ_13 hKJ_13 => c_block <| wp_seq <| wp_region_lit <| s_move h rfl rfl fun a h=>s_assign h rfl rfl fun a h=>wpList_nil <| x_then_n <| c_seq fun KJ_14 hKJ_14 => h_begin (S := fun w => Sep w0 w [N_7] Z) 9 (by kernel_rfl) rfl (bA 9 0) (by kernel_rfl) hS fun w_15 hS => ?_
   replace hS : Sep w0 w_15 [_] Z := hS
   refine t_take 0 (bA 9 1) rfl rfl rfl rfl h (hS.sub .ii) (v := p0_0) (fun w hS => r_move h rfl) fun a h=>t_take 1 (bA 9 3) rfl rfl rfl rfl h (hS.sub .ii) (v := iV x_8) (fun w hS => r_move h rfl) fun a h=>?_
   obtain ⟨t_16, et_16, H⟩ := Option.bind_eq_some_iff.1 H
   refine t_takeE 2 (bA 9 7) rfl rfl rfl rfl h (hS.sub .ii) (f := fun ad => .pointer (some ad)) (r_index h U22 ti3 rfl rfl rfl hp0_0 et_16) ?_
   rintro ad_17 ⟨cs_18, hk_19, hc_20⟩
   obtain rfl := (show cs_18 = [iV t_16] from hk_19)
   intro a h
   refine t_take 3 (bA 9 15) rfl rfl rfl rfl h (hS.sub .ii) (v := iV t_16) (fun w hS => r_load h rfl (el_one (o := 0) (fun j c h => Mem.cell_le (hA.trans hS.old) (hc_20 j c h)) U3 rfl rfl)) fun a h=>t_take 4 (bA 9 31) rfl rfl rfl rfl h (hS.sub .ii) (v := p1_1) (fun w hS => r_move h rfl) fun a h=>t_take 5 (bA 9 63) rfl rfl rfl rfl h (hS.sub .ii) (v := iV x_8) (fun w hS => r_move h rfl) fun a h=>?_
   obtain ⟨t_21, et_21, H⟩ := Option.bind_eq_some_iff.1 H
   refine t_takeE 6 (bA 9 127) rfl rfl rfl rfl h (hS.sub .ii) (f := fun ad => .pointer (some ad)) (r_index h U22 ti3 rfl rfl rfl hp1_1 et_21) ?_
   rintro ad_22 ⟨cs_23, hk_24, hc_25⟩
   obtain rfl := (show cs_23 = [iV t_21] from hk_24)
   intro a h
   refine t_take 7 (bA 9 255) rfl rfl rfl rfl h (hS.sub .ii) (v := iV t_21) (fun w hS => r_load h rfl (el_one (o := 0) (fun j c h => Mem.cell_le (hA.trans hS.old) (hc_25 j c h)) U3 rfl rfl)) fun a h=>t_take 8 (bA 9 511) rfl rfl rfl rfl h (hS.sub .ii) (v := .bool (t_16 != t_21)) (fun w hS => r_cmp (b := (t_16 != t_21)) h rfl rfl (.inr (.inl ⟨rfl, rfl⟩))) fun a h=>h_done (by kernel_rfl) <| x_then_n (hKJ_14 _ _ ?_)
   by_cases hc_26 : t_16 = t_21
   ·rw [if_pos hc_26] at H
    refine c_cond_f h rfl (bne_eq_false_iff_eq.2 hc_26) <| wp_skip <| x_block_n <| x_then_n (hKJ_13 _ _ ?_)
    refine wp_region_lit <| s_arith (r := w64 (x_8 + 1)) h rfl rfl rfl (.inl ⟨rfl, rfl⟩) fun a h=>s_move h rfl rfl fun a h=>wpList_nil <| x_then_n (hKL_9 _ _ ?_)
    replace hS : Sep w0 w_15 [_] Z := hS
    replace h : Fr 26 a [(0, _), (1, _), (4, _), (12, _), (13, iV (w64 (x_8 + 1)))] := h.keep [0, 1, 4, 12, 13]
    exact ⟨w64 (x_8 + 1), N_7, H, h, (Sep.sel hS [0] (by decide)), le_7⟩
   ·rw [if_neg hc_26] at H
    refine c_cond_t h rfl (bne_iff_ne.2 hc_26) <| wp_seq <| wp_region_lit <| s_assign h rfl rfl fun a h=>wpList_nil <| x_then_n <| wp_ret (x_block_r (x_then_r (x_then_r (x_block_r (x_then_r ?_)))))
    obtain rfl := Option.some.inj H
    exact f_ret h (rs := [.tmp 4]) rfl (.tmp rfl .nil) ⟨_, rfl, N_7, rfl, (Sep.sel hS [0] (by decide))⟩
  ·rw [if_neg hc_12] at H
   refine c_cond_f h rfl (decide_eq_false hc_12) <| wp_exit (x_then_x (x_then_x (x_block_t ?_)))
   replace hS : Sep w0 w_9 [_] Z := hS
   replace h : Fr 26 a [(4, _)] := h.keep [4]
   exact x_then_n (hJ_j_6  H _ _ ⟨N_7, h, (Sep.sel hS [0] (by decide)), le_7⟩)
 ·rw [if_neg hc_2] at H
  refine c_cond_t h rfl (bne_iff_ne.2 hc_2) <| wp_seq <| wp_region_lit <| s_assign h rfl rfl fun a h=>wpList_nil <| x_then_n <| wp_ret (x_then_r ?_)
  obtain rfl := Option.some.inj H
  exact f_ret h (rs := [.tmp 4]) rfl (.tmp rfl .nil) ⟨_, rfl, Mem.no, rfl, (Sep.sel hS [0] (by decide))⟩

set_option maxHeartbeats 4000000 in
set_option maxRecDepth 20000 in
theorem mach_SameEntry.calls (x0 : api_Entry) (p0_0 : Value) (p0_1 : Value) (p0_2 : Value) (x1 : api_Entry) (p1_3 : Value) (p1_4 : Value) (p1_5 : Value) (r : Bool) (w0 w : World) (Z A : Mem) (hA : A.le Z) (hS : Sep w0 w [] Z) (hp0_0 : Rd Kd.u8 A p0_0 x0.Cmd.Key) (hp0_1 : Rd Kd.u8 A p0_1 x0.Cmd.Val) (hp0_2 : Rd Kd.u8 A p0_2 x0.Cmd.Old) (hp1_3 : Rd Kd.u8 A p1_3 x1.Cmd.Key) (hp1_4 : Rd Kd.u8 A p1_4 x1.Cmd.Val) (hp1_5 : Rd Kd.u8 A p1_5 x1.Cmd.Old)
    (H : mach_SameEntry.f x0 x1 = some r) :
    Calls Try.prog 83 [.agg ([iV x0.Sess, iV x0.Seq, iV x0.Cmd.Kind, iV x0.Cmd.Who, p0_0, p0_1, p0_2] : List Value).toArray, .agg ([iV x1.Sess, iV x1.Seq, iV x1.Cmd.Kind, iV x1.Cmd.Who, p1_3, p1_4, p1_5] : List Value).toArray].toArray w (Ret fun v w' => ∃ (N : Mem), v = .bool r ∧ Sep w0 w' [N] Z) := by
 unfold mach_SameEntry.f at H
 refine f_enter _ Try.func83 rfl Try.ntmps83 rfl fun a h=>?_
 replace h : Fr 58 a [(0, .agg ([iV x0.Sess, iV x0.Seq, iV x0.Cmd.Kind, iV x0.Cmd.Who, p0_0, p0_1, p0_2] : List Value).toArray), (1, .agg ([iV x1.Sess, iV x1.Seq, iV x1.Cmd.Kind, iV x1.Cmd.Who, p1_3, p1_4, p1_5] : List Value).toArray)] := h
 replace hS := hS.start
 replace hS : Sep w0 w [_] Z := hS
 refine wp_seq <| wp_region_lit <| v_box (vs := [iV x0.Sess, iV x0.Seq, iV x0.Cmd.Kind, iV x0.Cmd.Who, p0_0, p0_1, p0_2]) h rfl rfl rfl hS fun w_1 g_2 hS' a h => ?_
 replace hS : Sep w0 w_1 [_, Mem.one g_2 (.cells ([iV x0.Sess, iV x0.Seq, iV x0.Cmd.Kind, iV x0.Cmd.Who, p0_0, p0_1, p0_2] : List Value).toArray 30 (0, 0))] Z := hS'
 clear hS'
 refine v_box (vs := [iV x1.Sess, iV x1.Seq, iV x1.Cmd.Kind, iV x1.Cmd.Who, p1_3, p1_4, p1_5]) h rfl rfl rfl hS fun w_3 g_4 hS' a h => ?_
 replace hS : Sep w0 w_3 [_, _, Mem.one g_4 (.cells ([iV x1.Sess, iV x1.Seq, iV x1.Cmd.Kind, iV x1.Cmd.Who, p1_3, p1_4, p1_5] : List Value).toArray 30 (0, 0))] Z := hS'
 clear hS'
 refine s_assign h rfl rfl fun a h=>wpList_nil <| x_then_n <| c_seq fun KJ_5 hKJ_5 => ?_
 have hJ_j_10 : mach_SameEntry.J1 x0 x1 = some r → ∀ (a : Act) (w_9 : World), (∃ (g_7 : Nat) (g_8 : Nat) (N_6 : Mem), Fr 58 a [(2, .pointer (some ⟨g_2, 0, none⟩)), (3, .pointer (some ⟨g_4, 0, none⟩)), (4, .bool false), (5, .pointer (some ⟨g_7, 0, none⟩)), (6, .pointer (some ⟨g_8, 0, none⟩))] ∧ Sep w0 w_9 [N_6, Mem.one g_2 (.cells ([iV x0.Sess, iV x0.Seq, iV x0.Cmd.Kind, iV x0.Cmd.Who, p0_0, p0_1, p0_2] : List Value).toArray 30 (0, 0)), Mem.one g_4 (.cells ([iV x1.Sess, iV x1.Seq, iV x1.Cmd.Kind, iV x1.Cmd.Who, p1_3, p1_4, p1_5] : List Value).toArray 30 (0, 0)), Mem.one g_7 (.cells ([iV x0.Cmd.Kind, iV x0.Cmd.Who, p0_0, p0_1, p0_2] : List Value).toArray 28 (0, 0)), Mem.one g_8 (.cells ([iV x1.Cmd.Kind, iV x1.Cmd.Who, p1_3, p1_4, p1_5] : List Value).toArray 28 (0, 0))] Z ∧ Mem.no.le N_6) → KJ_5 a w_9 := by
  clear H h hS a
  rintro H a w_9 ⟨g_7, g_8, N_6, h, hS, le_6⟩
  unfold mach_SameEntry.J1 at H
  refine hKJ_5 _ _ <| c_seq fun KJ_11 hKJ_11 => wp_region_lit <| s_fieldAddr h rfl U30 rfl ti3 rfl rfl fun a h=>s_load h rfl rfl (hS.load_one (p := 1) rfl U3 rfl rfl) fun a h=>s_fieldAddr h rfl U30 rfl ti3 rfl rfl fun a h=>s_load h rfl rfl (hS.load_one (p := 2) rfl U3 rfl rfl) fun a h=>s_cmp (b := (x0.Sess == x1.Sess)) h rfl rfl rfl (.inl ⟨rfl, rfl⟩) fun a h=>s_move h rfl rfl fun a h=>?_
  by_cases hc_12 : x0.Sess = x1.Sess
  ·rw [if_pos hc_12] at H
   refine s_on h rfl rfl (beq_iff_eq.2 hc_12) <| s_fieldAddr h rfl U30 rfl ti3 rfl rfl fun a h=>s_on h rfl rfl (beq_iff_eq.2 hc_12) <| s_load h rfl rfl (hS.load_one (p := 1) rfl U3 rfl rfl) fun a h=>s_on h rfl rfl (beq_iff_eq.2 hc_12) <| s_fieldAddr h rfl U30 rfl ti3 rfl rfl fun a h=>s_on h rfl rfl (beq_iff_eq.2 hc_12) <| s_load h rfl rfl (hS.load_one (p := 2) rfl U3 rfl rfl) fun a h=>s_on h rfl rfl (beq_iff_eq.2 hc_12) <| s_cmp (b := (x0.Seq == x1.Seq)) h rfl rfl rfl (.inl ⟨rfl, rfl⟩) fun a h=>s_pick_t h rfl rfl (beq_iff_eq.2 hc_12) rfl fun a h=>s_move h rfl rfl fun a h=>?_
   by_cases hc_13 : x0.Seq = x1.Seq
   ·rw [if_pos hc_13] at H
    refine s_on h rfl rfl (beq_iff_eq.2 hc_13) <| s_fieldAddr h rfl U28 rfl ti3 rfl rfl fun a h=>s_on h rfl rfl (beq_iff_eq.2 hc_13) <| s_load h rfl rfl (hS.load_one (p := 3) rfl U3 rfl rfl) fun a h=>s_on h rfl rfl (beq_iff_eq.2 hc_13) <| s_fieldAddr h rfl U28 rfl ti3 rfl rfl fun a h=>s_on h rfl rfl (beq_iff_eq.2 hc_13) <| s_load h rfl rfl (hS.load_one (p := 4) rfl U3 rfl rfl) fun a h=>s_on h rfl rfl (beq_iff_eq.2 hc_13) <| s_cmp (b := (x0.Cmd.Kind == x1.Cmd.Kind)) h rfl rfl rfl (.inl ⟨rfl, rfl⟩) fun a h=>s_pick_t h rfl rfl (beq_iff_eq.2 hc_13) rfl fun a h=>s_move h rfl rfl fun a h=>?_
    by_cases hc_14 : x0.Cmd.Kind = x1.Cmd.Kind
    ·rw [if_pos hc_14] at H
     refine s_on h rfl rfl (beq_iff_eq.2 hc_14) <| s_fieldAddr h rfl U28 rfl ti3 rfl rfl fun a h=>s_on h rfl rfl (beq_iff_eq.2 hc_14) <| s_load h rfl rfl (hS.load_one (p := 3) rfl U3 rfl rfl) fun a h=>s_on h rfl rfl (beq_iff_eq.2 hc_14) <| s_fieldAddr h rfl U28 rfl ti3 rfl rfl fun a h=>s_on h rfl rfl (beq_iff_eq.2 hc_14) <| s_load h rfl rfl (hS.load_one (p := 4) rfl U3 rfl rfl) fun a h=>s_on h rfl rfl (beq_iff_eq.2 hc_14) <| s_cmp (b := (x0.Cmd.Who == x1.Cmd.Who)) h rfl rfl rfl (.inl ⟨rfl, rfl⟩) fun a h=>s_pick_t h rfl rfl (beq_iff_eq.2 hc_14) rfl fun a h=>s_move h rfl rfl fun a h=>?_
     by_cases hc_15 : x0.Cmd.Who = x1.Cmd.Who
     ·rw [if_pos hc_15] at H
      refine s_on h rfl rfl (beq_iff_eq.2 hc_15) <| s_fieldAddr h rfl U28 rfl ti26 rfl rfl fun a h=>s_on h rfl rfl (beq_iff_eq.2 hc_15) <| s_load h rfl rfl (hS.load_one (p := 3) rfl U26 rfl rfl) fun a h=>s_on h rfl rfl (beq_iff_eq.2 hc_15) <| s_fieldAddr h rfl U28 rfl ti26 rfl rfl fun a h=>s_on h rfl rfl (beq_iff_eq.2 hc_15) <| s_load h rfl rfl (hS.load_one (p := 4) rfl U26 rfl rfl) fun a h=>s_on h rfl rfl (beq_iff_eq.2 hc_15) ?_
      obtain ⟨t_16, et_16, H⟩ := Option.bind_eq_some_iff.1 H
      refine s_call h rfl Try.call81 rfl (bytes_Equal.calls x0.Cmd.Key _ x1.Cmd.Key _ t_16 w0 _ _ _ (Mem.le.refl _) (hS.enter [] (by decide)) (hp0_0.mono (hA.trans (hS.le_zed []))) (hp1_3.mono (hA.trans (hS.le_zed []))) et_16) ?_
      rintro _ w_17 ⟨N_18, rfl, hS'⟩
      intro a h
      obtain ⟨N_19, hS'', le_19, ln_19⟩ := hS.call [] (by decide) rfl (l' := []) (ow := []) rfl hS'
      replace hS : Sep w0 w_17 [N_19, _, _, _, _] Z := hS''
      clear hS' hS''
      refine s_pick_t h rfl rfl (beq_iff_eq.2 hc_15) rfl fun a h=>s_move h rfl rfl fun a h=>?_
      by_cases hc_20 : t_16 = true
      ·rw [if_pos hc_20] at H
       refine s_on h rfl rfl hc_20 <| s_fieldAddr h rfl U28 rfl ti26 rfl rfl fun a h=>s_on h rfl rfl hc_20 <| s_load h rfl rfl (hS.load_one (p := 3) rfl U26 rfl rfl) fun a h=>s_on h rfl rfl hc_20 <| s_fieldAddr h rfl U28 rfl ti26 rfl rfl fun a h=>s_on h rfl rfl hc_20 <| s_load h rfl rfl (hS.load_one (p := 4) rfl U26 rfl rfl) fun a h=>s_on h rfl rfl hc_20 ?_
       obtain ⟨t_21, et_21, H⟩ := Option.bind_eq_some_iff.1 H
       refine s_call h rfl Try.call81 rfl (bytes_Equal.calls x0.Cmd.Val _ x1.Cmd.Val _ t_21 w0 _ _ _ (Mem.le.refl _) (hS.enter [] (by decide)) (hp0_1.mono (hA.trans (hS.le_zed []))) (hp1_4.mono (hA.trans (hS.le_zed []))) et_21) ?_
       rintro _ w_22 ⟨N_23, rfl, hS'⟩
       intro a h
       obtain ⟨N_24, hS'', le_24, ln_24⟩ := hS.call [] (by decide) rfl (l' := []) (ow := []) rfl hS'
       replace hS : Sep w0 w_22 [N_24, _, _, _, _] Z := hS''
       clear hS' hS''
       refine s_pick_t h rfl rfl hc_20 rfl fun a h=>s_move h rfl rfl fun a h=>?_
       by_cases hc_25 : t_21 = true
       ·rw [if_pos hc_25] at H
        refine s_on h rfl rfl hc_25 <| s_fieldAddr h rfl U28 rfl ti26 rfl rfl fun a h=>s_on h rfl rfl hc_25 <| s_load h rfl rfl (hS.load_one (p := 3) rfl U26 rfl rfl) fun a h=>s_on h rfl rfl hc_25 <| s_fieldAddr h rfl U28 rfl ti26 rfl rfl fun a h=>s_on h rfl rfl hc_25 <| s_load h rfl rfl (hS.load_one (p := 4) rfl U26 rfl rfl) fun a h=>s_on h rfl rfl hc_25 ?_
        obtain ⟨t_26, et_26, H⟩ := Option.bind_eq_some_iff.1 H
        refine s_call h rfl Try.call81 rfl (bytes_Equal.calls x0.Cmd.Old _ x1.Cmd.Old _ t_26 w0 _ _ _ (Mem.le.refl _) (hS.enter [] (by decide)) (hp0_2.mono (hA.trans (hS.le_zed []))) (hp1_5.mono (hA.trans (hS.le_zed []))) et_26) ?_
        rintro _ w_27 ⟨N_28, rfl, hS'⟩
        intro a h
        obtain ⟨N_29, hS'', le_29, ln_29⟩ := hS.call [] (by decide) rfl (l' := []) (ow := []) rfl hS'
        replace hS : Sep w0 w_27 [N_29, _, _, _, _] Z := hS''
        clear hS' hS''
        refine s_pick_t h rfl rfl hc_25 rfl fun a h=>s_assign h rfl rfl fun a h=>wpList_nil <| x_then_n (hKJ_11 _ _ ?_)
        refine wp_ret ?_
        obtain rfl := Option.some.inj H
        exact f_ret h (rs := [.tmp 4]) rfl (.tmp rfl .nil) ⟨_, rfl, N_29, rfl, (Sep.sel hS [0] (by decide))⟩
       ·rw [if_neg hc_25] at H
        refine s_off h rfl rfl rfl (Bool.eq_false_iff.2 hc_25) fun a h=>s_off h rfl rfl rfl (Bool.eq_false_iff.2 hc_25) fun a h=>s_off h rfl rfl rfl (Bool.eq_false_iff.2 hc_25) fun a h=>s_off h rfl rfl rfl (Bool.eq_false_iff.2 hc_25) fun a h=>s_off h rfl rfl rfl (Bool.eq_false_iff.2 hc_25) fun a h=>s_pick_f h rfl rfl (Bool.eq_false_iff.2 hc_25) rfl fun a h=>s_assign h rfl rfl fun a h=>wpList_nil <| x_then_n (hKJ_11 _ _ ?_)
        refine wp_ret ?_
        obtain rfl := Option.some.inj H
        exact f_ret h (rs := [.tmp 4]) rfl (.tmp rfl .nil) ⟨_, rfl, N_24, rfl, (Sep.sel hS [0] (by decide))⟩
      ·rw [if_neg hc_20] at H
       refine s_off h rfl rfl rfl (Bool.eq_false_iff.2 hc_20) fun a h=>s_off h rfl rfl rfl (Bool.eq_false_iff.2 hc_20) fun a h=>s_off h rfl rfl rfl (Bool.eq_false_iff.2 hc_20) fun a h=>s_off h rfl rfl rfl (Bool.eq_false_iff.2 hc_20) fun a h=>s_off h rfl rfl rfl (Bool.eq_false_iff.2 hc_20) fun a h=>s_pick_f h rfl rfl (Bool.eq_false_iff.2 hc_20) rfl fun a h=>s_move h rfl rfl fun a h=>s_off h rfl rfl rfl rfl fun a h=>s_off h rfl rfl rfl rfl fun a h=>s_off h rfl rfl rfl rfl fun a h=>s_off h rfl rfl rfl rfl fun a h=>s_off h rfl rfl rfl rfl fun a h=>?_
       refine s_pick_f h rfl rfl rfl rfl fun a h=>s_assign h rfl rfl fun a h=>wpList_nil <| x_then_n (hKJ_11 _ _ ?_)
       refine wp_ret ?_
       obtain rfl := Option.some.inj H
       exact f_ret h (rs := [.tmp 4]) rfl (.tmp rfl .nil) ⟨_, rfl, N_19, rfl, (Sep.sel hS [0] (by decide))⟩
     ·rw [if_neg hc_15] at H
      refine s_off h rfl rfl rfl (beq_eq_false_iff_ne.2 hc_15) fun a h=>s_off h rfl rfl rfl (beq_eq_false_iff_ne.2 hc_15) fun a h=>s_off h rfl rfl rfl (beq_eq_false_iff_ne.2 hc_15) fun a h=>s_off h rfl rfl rfl (beq_eq_false_iff_ne.2 hc_15) fun a h=>s_off h rfl rfl rfl (beq_eq_false_iff_ne.2 hc_15) fun a h=>s_pick_f h rfl rfl (beq_eq_false_iff_ne.2 hc_15) rfl fun a h=>s_move h rfl rfl fun a h=>s_off h rfl rfl rfl rfl fun a h=>s_off h rfl rfl rfl rfl fun a h=>s_off h rfl rfl rfl rfl fun a h=>s_off h rfl rfl rfl rfl fun a h=>s_off h rfl rfl rfl rfl fun a h=>?_
      refine s_pick_f h rfl rfl rfl rfl fun a h=>s_move h rfl rfl fun a h=>s_off h rfl rfl rfl rfl fun a h=>s_off h rfl rfl rfl rfl fun a h=>s_off h rfl rfl rfl rfl fun a h=>s_off h rfl rfl rfl rfl fun a h=>s_off h rfl rfl rfl rfl fun a h=>s_pick_f h rfl rfl rfl rfl fun a h=>s_assign h rfl rfl fun a h=>wpList_nil <| x_then_n (hKJ_11 _ _ ?_)
      refine wp_ret ?_
      obtain rfl := Option.some.inj H
      exact f_ret h (rs := [.tmp 4]) rfl (.tmp rfl .nil) ⟨_, rfl, N_6, rfl, (Sep.sel hS [0] (by decide))⟩
    ·rw [if_neg hc_14] at H
     refine s_off h rfl rfl rfl (beq_eq_false_iff_ne.2 hc_14) fun a h=>s_off h rfl rfl rfl (beq_eq_false_iff_ne.2 hc_14) fun a h=>s_off h rfl rfl rfl (beq_eq_false_iff_ne.2 hc_14) fun a h=>s_off h rfl rfl rfl (beq_eq_false_iff_ne.2 hc_14) fun a h=>s_off h rfl rfl rfl (beq_eq_false_iff_ne.2 hc_14) fun a h=>s_pick_f h rfl rfl (beq_eq_false_iff_ne.2 hc_14) rfl fun a h=>s_move h rfl rfl fun a h=>s_off h rfl rfl rfl rfl fun a h=>s_off h rfl rfl rfl rfl fun a h=>s_off h rfl rfl rfl rfl fun a h=>s_off h rfl rfl rfl rfl fun a h=>s_off h rfl rfl rfl rfl fun a h=>?_
     refine s_pick_f h rfl rfl rfl rfl fun a h=>s_move h rfl rfl fun a h=>s_off h rfl rfl rfl rfl fun a h=>s_off h rfl rfl rfl rfl fun a h=>s_off h rfl rfl rfl rfl fun a h=>s_off h rfl rfl rfl rfl fun a h=>s_off h rfl rfl rfl rfl fun a h=>s_pick_f h rfl rfl rfl rfl fun a h=>s_move h rfl rfl fun a h=>s_off h rfl rfl rfl rfl fun a h=>s_off h rfl rfl rfl rfl fun a h=>s_off h rfl rfl rfl rfl fun a h=>?_
     refine s_off h rfl rfl rfl rfl fun a h=>s_off h rfl rfl rfl rfl fun a h=>s_pick_f h rfl rfl rfl rfl fun a h=>s_assign h rfl rfl fun a h=>wpList_nil <| x_then_n (hKJ_11 _ _ ?_)
     refine wp_ret ?_
     obtain rfl := Option.some.inj H
     exact f_ret h (rs := [.tmp 4]) rfl (.tmp rfl .nil) ⟨_, rfl, N_6, rfl, (Sep.sel hS [0] (by decide))⟩
   ·rw [if_neg hc_13] at H
    refine s_off h rfl rfl rfl (beq_eq_false_iff_ne.2 hc_13) fun a h=>s_off h rfl rfl rfl (beq_eq_false_iff_ne.2 hc_13) fun a h=>s_off h rfl rfl rfl (beq_eq_false_iff_ne.2 hc_13) fun a h=>s_off h rfl rfl rfl (beq_eq_false_iff_ne.2 hc_13) fun a h=>s_off h rfl rfl rfl (beq_eq_false_iff_ne.2 hc_13) fun a h=>s_pick_f h rfl rfl (beq_eq_false_iff_ne.2 hc_13) rfl fun a h=>s_move h rfl rfl fun a h=>s_off h rfl rfl rfl rfl fun a h=>s_off h rfl rfl rfl rfl fun a h=>s_off h rfl rfl rfl rfl fun a h=>s_off h rfl rfl rfl rfl fun a h=>s_off h rfl rfl rfl rfl fun a h=>?_
    refine s_pick_f h rfl rfl rfl rfl fun a h=>s_move h rfl rfl fun a h=>s_off h rfl rfl rfl rfl fun a h=>s_off h rfl rfl rfl rfl fun a h=>s_off h rfl rfl rfl rfl fun a h=>s_off h rfl rfl rfl rfl fun a h=>s_off h rfl rfl rfl rfl fun a h=>s_pick_f h rfl rfl rfl rfl fun a h=>s_move h rfl rfl fun a h=>s_off h rfl rfl rfl rfl fun a h=>s_off h rfl rfl rfl rfl fun a h=>s_off h rfl rfl rfl rfl fun a h=>?_
    refine s_off h rfl rfl rfl rfl fun a h=>s_off h rfl rfl rfl rfl fun a h=>s_pick_f h rfl rfl rfl rfl fun a h=>s_move h rfl rfl fun a h=>s_off h rfl rfl rfl rfl fun a h=>s_off h rfl rfl rfl rfl fun a h=>s_off h rfl rfl rfl rfl fun a h=>s_off h rfl rfl rfl rfl fun a h=>s_off h rfl rfl rfl rfl fun a h=>s_pick_f h rfl rfl rfl rfl fun a h=>s_assign h rfl rfl fun a h=>wpList_nil <| x_then_n (hKJ_11 _ _ ?_)
    refine wp_ret ?_
    obtain rfl := Option.some.inj H
    exact f_ret h (rs := [.tmp 4]) rfl (.tmp rfl .nil) ⟨_, rfl, N_6, rfl, (Sep.sel hS [0] (by decide))⟩
  ·rw [if_neg hc_12] at H
   refine s_off h rfl rfl rfl (beq_eq_false_iff_ne.2 hc_12) fun a h=>s_off h rfl rfl rfl (beq_eq_false_iff_ne.2 hc_12) fun a h=>s_off h rfl rfl rfl (beq_eq_false_iff_ne.2 hc_12) fun a h=>s_off h rfl rfl rfl (beq_eq_false_iff_ne.2 hc_12) fun a h=>s_off h rfl rfl rfl (beq_eq_false_iff_ne.2 hc_12) fun a h=>s_pick_f h rfl rfl (beq_eq_false_iff_ne.2 hc_12) rfl fun a h=>s_move h rfl rfl fun a h=>s_off h rfl rfl rfl rfl fun a h=>s_off h rfl rfl rfl rfl fun a h=>s_off h rfl rfl rfl rfl fun a h=>s_off h rfl rfl rfl rfl fun a h=>s_off h rfl rfl rfl rfl fun a h=>?_
   refine s_pick_f h rfl rfl rfl rfl fun a h=>s_move h rfl rfl fun a h=>s_off h rfl rfl rfl rfl fun a h=>s_off h rfl rfl rfl rfl fun a h=>s_off h rfl rfl rfl rfl fun a h=>s_off h rfl rfl rfl rfl fun a h=>s_off h rfl rfl rfl rfl fun a h=>s_pick_f h rfl rfl rfl rfl fun a h=>s_move h rfl rfl fun a h=>s_off h rfl rfl rfl rfl fun a h=>s_off h rfl rfl rfl rfl fun a h=>s_off h rfl rfl rfl rfl fun a h=>?_
   refine s_off h rfl rfl rfl rfl fun a h=>s_off h rfl rfl rfl rfl fun a h=>s_pick_f h rfl rfl rfl rfl fun a h=>s_move h rfl rfl fun a h=>s_off h rfl rfl rfl rfl fun a h=>s_off h rfl rfl rfl rfl fun a h=>s_off h rfl rfl rfl rfl fun a h=>s_off h rfl rfl rfl rfl fun a h=>s_off h rfl rfl rfl rfl fun a h=>s_pick_f h rfl rfl rfl rfl fun a h=>s_move h rfl rfl fun a h=>s_off h rfl rfl rfl rfl fun a h=>?_
   refine s_off h rfl rfl rfl rfl fun a h=>s_off h rfl rfl rfl rfl fun a h=>s_off h rfl rfl rfl rfl fun a h=>s_off h rfl rfl rfl rfl fun a h=>s_pick_f h rfl rfl rfl rfl fun a h=>s_assign h rfl rfl fun a h=>wpList_nil <| x_then_n (hKJ_11 _ _ ?_)
   refine wp_ret ?_
   obtain rfl := Option.some.inj H
   exact f_ret h (rs := [.tmp 4]) rfl (.tmp rfl .nil) ⟨_, rfl, N_6, rfl, (Sep.sel hS [0] (by decide))⟩
 clear hKJ_5
 refine h_begin (S := fun w => Sep w0 w [Mem.no, Mem.one g_2 (.cells ([iV x0.Sess, iV x0.Seq, iV x0.Cmd.Kind, iV x0.Cmd.Who, p0_0, p0_1, p0_2] : List Value).toArray 30 (0, 0)), Mem.one g_4 (.cells ([iV x1.Sess, iV x1.Seq, iV x1.Cmd.Kind, iV x1.Cmd.Who, p1_3, p1_4, p1_5] : List Value).toArray 30 (0, 0))] Z) 8 (by kernel_rfl) rfl (bA 8 0) (by kernel_rfl) hS fun w_30 hS => ?_
 replace hS : Sep w0 w_30 [_, _, _] Z := hS
 refine t_take 0 (bA 8 1) rfl rfl rfl rfl h (hS.sub .ii) (v := .pointer (some ⟨g_2, 2, none⟩)) (fun w hS => r_fieldAddr h U30 rfl ti28 rfl rfl rfl) fun a h=>t_take 1 (bA 8 3) rfl rfl rfl rfl h (hS.sub .ii) (v := .agg ([iV x0.Cmd.Kind, iV x0.Cmd.Who, p0_0, p0_1, p0_2] : List Value).toArray) (fun w hS => r_load h rfl (hS.load_agg (p := 1) (us := [iV x0.Cmd.Kind, iV x0.Cmd.Who, p0_0, p0_1, p0_2]) rfl U28 rfl ti28 rfl rfl)) fun a h=>t_take 2 (bA 8 7) rfl rfl rfl rfl h (hS.sub .ii) (v := .pointer (some ⟨g_4, 2, none⟩)) (fun w hS => r_fieldAddr h U30 rfl ti28 rfl rfl rfl) fun a h=>t_take 3 (bA 8 15) rfl rfl rfl rfl h (hS.sub .ii) (v := .agg ([iV x1.Cmd.Kind, iV x1.Cmd.Who, p1_3, p1_4, p1_5] : List Value).toArray) (fun w hS => r_load h rfl (hS.load_agg (p := 2) (us := [iV x1.Cmd.Kind, iV x1.Cmd.Who, p1_3, p1_4, p1_5]) rfl U28 rfl ti28 rfl rfl)) fun a h=>h_events [4, 5] (by kernel_rfl) (by simp) ?_
 intro i hi; simp only [List.mem_cons, List.not_mem_nil, or_false] at hi; rcases hi with rfl | rfl
 ·refine ⟨_, (bA 8 31), rfl, by kernel_rfl, ?_⟩
  refine v_alloc h rfl ti28 hS fun w_31 g_32 hS' a h => ?_
  replace hS : Sep w0 w_31 [_, _, _, Mem.one g_32 (.cells ([iV 0, iV 0, nS, nS, nS] : List Value).toArray 28 (0, 0))] Z := hS'
  clear hS'
  refine wpList_nil <| x_then_n ⟨(hS.sub (.cons (Mem.le.refl _) (.rr (.rr .nn)))), ?_⟩
  refine h_event 5 (bA 8 63) rfl (by kernel_rfl) (by kernel_rfl) <| v_alloc h rfl ti28 hS fun w_33 g_34 hS' a h => ?_
  replace hS : Sep w0 w_33 [_, _, _, _, Mem.one g_34 (.cells ([iV 0, iV 0, nS, nS, nS] : List Value).toArray 28 (0, 0))] Z := hS'
  clear hS'
  refine wpList_nil <| x_then_n ⟨(hS.sub (.cons (Mem.le.refl _) (.rr (.rr .nn)))), ?_⟩
  refine h_event 6 (bA 8 127) rfl (by kernel_rfl) (by kernel_rfl) ?_
  obtain ⟨w_35, hs', hS'⟩ := hS.store (P := Try.prog) (p := 3) (o := 0) (t := 28) (v := .agg ([iV x0.Cmd.Kind, iV x0.Cmd.Who, p0_0, p0_1, p0_2] : List Value).toArray) (vs := [iV x0.Cmd.Kind, iV x0.Cmd.Who, p0_0, p0_1, p0_2]) rfl ti28 rfl rfl rfl (by intro u hu; simp only [List.mem_cons, List.not_mem_nil, or_false] at hu; rcases hu with rfl | rfl | rfl | rfl | rfl <;> first | rfl | exact hp0_0.one | exact hp0_1.one | exact hp0_2.one)
  refine s_store h rfl rfl hs' ?_
  replace hS : Sep w0 w_35 [_, _, _, Mem.one g_32 (.cells ([iV x0.Cmd.Kind, iV x0.Cmd.Who, p0_0, p0_1, p0_2] : List Value).toArray 28 (0, 0)), _] Z := hS'
  clear hs' hS'
  refine wpList_nil <| x_then_n ⟨(hS.sub (.cons (Mem.le.refl _) (.rr (.rr .nn)))), ?_⟩
  refine h_event 7 (bA 8 255) rfl (by kernel_rfl) (by kernel_rfl) ?_
  obtain ⟨w_36, hs', hS'⟩ := hS.store (P := Try.prog) (p := 4) (o := 0) (t := 28) (v := .agg ([iV x1.Cmd.Kind, iV x1.Cmd.Who, p1_3, p1_4, p1_5] : List Value).toArray) (vs := [iV x1.Cmd.Kind, iV x1.Cmd.Who, p1_3, p1_4, p1_5]) rfl ti28 rfl rfl rfl (by intro u hu; simp only [List.mem_cons, List.not_mem_nil, or_false] at hu; rcases hu with rfl | rfl | rfl | rfl | rfl <;> first | rfl | exact hp1_3.one | exact hp1_4.one | exact hp1_5.one)
  refine s_store h rfl rfl hs' ?_
  replace hS : Sep w0 w_36 [_, _, _, _, Mem.one g_34 (.cells ([iV x1.Cmd.Kind, iV x1.Cmd.Who, p1_3, p1_4, p1_5] : List Value).toArray 28 (0, 0))] Z := hS'
  clear hs' hS'
  refine wpList_nil <| x_then_n ⟨(hS.sub (.cons (Mem.le.refl _) (.rr (.rr .nn)))), ?_⟩
  refine h_done (by kernel_rfl) ?_
  replace hS : Sep w0 w_36 [_, _, _, _, _] Z := hS
  replace h : Fr 58 a [(2, .pointer (some ⟨g_2, 0, none⟩)), (3, .pointer (some ⟨g_4, 0, none⟩)), (4, .bool false), (5, .pointer (some ⟨g_32, 0, none⟩)), (6, .pointer (some ⟨g_34, 0, none⟩))] := h.keep [2, 3, 4, 5, 6]
  exact x_then_n (hJ_j_10  H _ _ ⟨g_32, g_34, Mem.no, h, (Sep.sel hS [0, 1, 2, 3, 4] (by decide)), (Mem.le.refl _)⟩)
 ·refine ⟨_, (bA 8 47), rfl, by kernel_rfl, ?_⟩
  refine v_alloc h rfl ti28 hS fun w_37 g_38 hS' a h => ?_
  replace hS : Sep w0 w_37 [_, _, _, Mem.one g_38 (.cells ([iV 0, iV 0, nS, nS, nS] : List Value).toArray 28 (0, 0))] Z := hS'
  clear hS'
  refine wpList_nil <| x_then_n ⟨(hS.sub (.cons (Mem.le.refl _) (.rr (.rr .nn)))), ?_⟩
  refine h_event 4 (bA 8 63) rfl (by kernel_rfl) (by kernel_rfl) <| v_alloc h rfl ti28 hS fun w_39 g_40 hS' a h => ?_
  replace hS : Sep w0 w_39 [_, _, _, _, Mem.one g_40 (.cells ([iV 0, iV 0, nS, nS, nS] : List Value).toArray 28 (0, 0))] Z := hS'
  clear hS'
  refine wpList_nil <| x_then_n ⟨(hS.sub (.cons (Mem.le.refl _) (.rr (.rr .nn)))), ?_⟩
  refine h_event 6 (bA 8 127) rfl (by kernel_rfl) (by kernel_rfl) ?_
  obtain ⟨w_41, hs', hS'⟩ := hS.store (P := Try.prog) (p := 4) (o := 0) (t := 28) (v := .agg ([iV x0.Cmd.Kind, iV x0.Cmd.Who, p0_0, p0_1, p0_2] : List Value).toArray) (vs := [iV x0.Cmd.Kind, iV x0.Cmd.Who, p0_0, p0_1, p0_2]) rfl ti28 rfl rfl rfl (by intro u hu; simp only [List.mem_cons, List.not_mem_nil, or_false] at hu; rcases hu with rfl | rfl | rfl | rfl | rfl <;> first | rfl | exact hp0_0.one | exact hp0_1.one | exact hp0_2.one)
  refine s_store h rfl rfl hs' ?_
  replace hS : Sep w0 w_41 [_, _, _, _, Mem.one g_40 (.cells ([iV x0.Cmd.Kind, iV x0.Cmd.Who, p0_0, p0_1, p0_2] : List Value).toArray 28 (0, 0))] Z := hS'
  clear hs' hS'
  refine wpList_nil <| x_then_n ⟨(hS.sub (.cons (Mem.le.refl _) (.rr (.rr .nn)))), ?_⟩
  refine h_event 7 (bA 8 255) rfl (by kernel_rfl) (by kernel_rfl) ?_
  obtain ⟨w_42, hs', hS'⟩ := hS.store (P := Try.prog) (p := 3) (o := 0) (t := 28) (v := .agg ([iV x1.Cmd.Kind, iV x1.Cmd.Who, p1_3, p1_4, p1_5] : List Value).toArray) (vs := [iV x1.Cmd.Kind, iV x1.Cmd.Who, p1_3, p1_4, p1_5]) rfl ti28 rfl rfl rfl (by intro u hu; simp only [List.mem_cons, List.not_mem_nil, or_false] at hu; rcases hu with rfl | rfl | rfl | rfl | rfl <;> first | rfl | exact hp1_3.one | exact hp1_4.one | exact hp1_5.one)
  refine s_store h rfl rfl hs' ?_
  replace hS : Sep w0 w_42 [_, _, _, Mem.one g_38 (.cells ([iV x1.Cmd.Kind, iV x1.Cmd.Who, p1_3, p1_4, p1_5] : List Value).toArray 28 (0, 0)), _] Z := hS'
  clear hs' hS'
  refine wpList_nil <| x_then_n ⟨(hS.sub (.cons (Mem.le.refl _) (.rr (.rr .nn)))), ?_⟩
  refine h_done (by kernel_rfl) ?_
  replace hS : Sep w0 w_42 [_, _, _, _, _] Z := hS
  replace h : Fr 58 a [(2, .pointer (some ⟨g_2, 0, none⟩)), (3, .pointer (some ⟨g_4, 0, none⟩)), (4, .bool false), (5, .pointer (some ⟨g_40, 0, none⟩)), (6, .pointer (some ⟨g_38, 0, none⟩))] := h.keep [2, 3, 4, 5, 6]
  exact x_then_n (hJ_j_10  H _ _ ⟨g_40, g_38, Mem.no, h, (Sep.sel hS [0, 1, 2, 4, 3] (by decide)), (Mem.le.refl _)⟩)


end Go.Proofs
