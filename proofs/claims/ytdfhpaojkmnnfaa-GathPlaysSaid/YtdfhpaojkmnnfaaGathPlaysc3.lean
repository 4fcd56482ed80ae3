/- What the calls do: each function once. -/
import Derived.Test.YtdfhpaojkmnnfaaGathPlaysc2
namespace Go.Proofs
open Go.Gp
set_option linter.unusedVariables false
set_option maxHeartbeats 4000000 in
set_option maxRecDepth 20000 in
theorem hocketref11_Same.calls (K : Nat) (x0 : api_Msg) (p0_0 : Value) (p0_1 : Value) (p0_2 : Value) (p0_3 : Value) (p0_4 : Value) (p0_5 : Value) (x1 : api_Msg) (p1_6 : Value) (p1_7 : Value) (p1_8 : Value) (p1_9 : Value) (p1_10 : Value) (p1_11 : Value) (r : Bool) (w0 w : World) (Z A : Mem) (hA : A.le Z) (hS : Sep w0 w [] Z) (hp0_0 : Rd Kd.u8 A p0_0 x0.Data) (hp0_1 : Rd (Kd.int .i64) A p0_1 x0.Have) (hp0_2 : Rd (Kd.int .i64) A p0_2 x0.Need) (hp0_3 : Rd Kd.u8 A p0_3 x0.Entry.Cmd.Key) (hp0_4 : Rd Kd.u8 A p0_4 x0.Entry.Cmd.Val) (hp0_5 : Rd Kd.u8 A p0_5 x0.Entry.Cmd.Old) (hp1_6 : Rd Kd.u8 A p1_6 x1.Data) (hp1_7 : Rd (Kd.int .i64) A p1_7 x1.Have) (hp1_8 : Rd (Kd.int .i64) A p1_8 x1.Need) (hp1_9 : Rd Kd.u8 A p1_9 x1.Entry.Cmd.Key) (hp1_10 : Rd Kd.u8 A p1_10 x1.Entry.Cmd.Val) (hp1_11 : Rd Kd.u8 A p1_11 x1.Entry.Cmd.Old)
    (H : hocketref11_Same.f K x0 x1 = some r) :
    Calls Try.prog 11 [.agg ([iV x0.Kind, iV x0.From, iV x0.To, iV x0.View, iV x0.Inst, iV x0.Len, .bool x0.Has, iV x0.Members, iV x0.Source, iV x0.At, iV x0.Total, p0_0, iV x0.Hop, iV x0.Seq, p0_1, p0_2, iV x0.Index, iV x0.Entry.Sess, iV x0.Entry.Seq, iV x0.Entry.Cmd.Kind, iV x0.Entry.Cmd.Who, p0_3, p0_4, p0_5] : List Value).toArray, .agg ([iV x1.Kind, iV x1.From, iV x1.To, iV x1.View, iV x1.Inst, iV x1.Len, .bool x1.Has, iV x1.Members, iV x1.Source, iV x1.At, iV x1.Total, p1_6, iV x1.Hop, iV x1.Seq, p1_7, p1_8, iV x1.Index, iV x1.Entry.Sess, iV x1.Entry.Seq, iV x1.Entry.Cmd.Kind, iV x1.Entry.Cmd.Who, p1_9, p1_10, p1_11] : List Value).toArray].toArray w (Ret fun v w' => ∃ (N : Mem), v = .bool r ∧ Sep w0 w' [N] Z) := by
 unfold hocketref11_Same.f at H
 refine f_enter _ Try.func11 rfl Try.ntmps11 rfl fun a h=>?_
 replace h : Fr 131 a [(0, .agg ([iV x0.Kind, iV x0.From, iV x0.To, iV x0.View, iV x0.Inst, iV x0.Len, .bool x0.Has, iV x0.Members, iV x0.Source, iV x0.At, iV x0.Total, p0_0, iV x0.Hop, iV x0.Seq, p0_1, p0_2, iV x0.Index, iV x0.Entry.Sess, iV x0.Entry.Seq, iV x0.Entry.Cmd.Kind, iV x0.Entry.Cmd.Who, p0_3, p0_4, p0_5] : List Value).toArray), (1, .agg ([iV x1.Kind, iV x1.From, iV x1.To, iV x1.View, iV x1.Inst, iV x1.Len, .bool x1.Has, iV x1.Members, iV x1.Source, iV x1.At, iV x1.Total, p1_6, iV x1.Hop, iV x1.Seq, p1_7, p1_8, iV x1.Index, iV x1.Entry.Sess, iV x1.Entry.Seq, iV x1.Entry.Cmd.Kind, iV x1.Entry.Cmd.Who, p1_9, p1_10, p1_11] : List Value).toArray)] := h
 replace hS := hS.start
 replace hS : Sep w0 w [_] Z := hS
 refine wp_seq <| wp_region_lit <| v_box (vs := [iV x0.Kind, iV x0.From, iV x0.To, iV x0.View, iV x0.Inst, iV x0.Len, .bool x0.Has, iV x0.Members, iV x0.Source, iV x0.At, iV x0.Total, p0_0, iV x0.Hop, iV x0.Seq, p0_1, p0_2, iV x0.Index, iV x0.Entry.Sess, iV x0.Entry.Seq, iV x0.Entry.Cmd.Kind, iV x0.Entry.Cmd.Who, p0_3, p0_4, p0_5]) h rfl rfl rfl hS fun w_1 g_2 hS' a h => ?_
 replace hS : Sep w0 w_1 [_, Mem.one g_2 (.cells ([iV x0.Kind, iV x0.From, iV x0.To, iV x0.View, iV x0.Inst, iV x0.Len, .bool x0.Has, iV x0.Members, iV x0.Source, iV x0.At, iV x0.Total, p0_0, iV x0.Hop, iV x0.Seq, p0_1, p0_2, iV x0.Index, iV x0.Entry.Sess, iV x0.Entry.Seq, iV x0.Entry.Cmd.Kind, iV x0.Entry.Cmd.Who, p0_3, p0_4, p0_5] : List Value).toArray 29 (0, 0))] Z := hS'
 clear hS'
 refine v_box (vs := [iV x1.Kind, iV x1.From, iV x1.To, iV x1.View, iV x1.Inst, iV x1.Len, .bool x1.Has, iV x1.Members, iV x1.Source, iV x1.At, iV x1.Total, p1_6, iV x1.Hop, iV x1.Seq, p1_7, p1_8, iV x1.Index, iV x1.Entry.Sess, iV x1.Entry.Seq, iV x1.Entry.Cmd.Kind, iV x1.Entry.Cmd.Who, p1_9, p1_10, p1_11]) h rfl rfl rfl hS fun w_3 g_4 hS' a h => ?_
 replace hS : Sep w0 w_3 [_, _, Mem.one g_4 (.cells ([iV x1.Kind, iV x1.From, iV x1.To, iV x1.View, iV x1.Inst, iV x1.Len, .bool x1.Has, iV x1.Members, iV x1.Source, iV x1.At, iV x1.Total, p1_6, iV x1.Hop, iV x1.Seq, p1_7, p1_8, iV x1.Index, iV x1.Entry.Sess, iV x1.Entry.Seq, iV x1.Entry.Cmd.Kind, iV x1.Entry.Cmd.Who, p1_9, p1_10, p1_11] : List Value).toArray 29 (0, 0))] Z := hS'
 clear hS'
 refine s_assign h rfl rfl fun a h=>wpList_nil <| x_then_n <| c_seq fun KJ_5 hKJ_5 => wp_region_lit <| s_fieldAddr h rfl U29 rfl ti3 rfl rfl fun a h=>s_load h rfl rfl (hS.load_one (p := 1) rfl U3 rfl rfl) fun a h=>s_fieldAddr h rfl U29 rfl ti3 rfl rfl fun a h=>s_load h rfl rfl (hS.load_one (p := 2) rfl U3 rfl rfl) fun a h=>s_cmp (b := (x0.Kind == x1.Kind)) h rfl rfl rfl (.inl ⟨rfl, rfl⟩) fun a h=>s_move h rfl rfl fun a h=>?_
 by_cases hc_6 : x0.Kind = x1.Kind
 ·rw [if_pos hc_6] at H
  refine s_on h rfl rfl (beq_iff_eq.2 hc_6) <| s_fieldAddr h rfl U29 rfl ti3 rfl rfl fun a h=>s_on h rfl rfl (beq_iff_eq.2 hc_6) <| s_load h rfl rfl (hS.load_one (p := 1) rfl U3 rfl rfl) fun a h=>s_on h rfl rfl (beq_iff_eq.2 hc_6) <| s_fieldAddr h rfl U29 rfl ti3 rfl rfl fun a h=>s_on h rfl rfl (beq_iff_eq.2 hc_6) <| s_load h rfl rfl (hS.load_one (p := 2) rfl U3 rfl rfl) fun a h=>s_on h rfl rfl (beq_iff_eq.2 hc_6) <| s_cmp (b := (x0.From == x1.From)) h rfl rfl rfl (.inl ⟨rfl, rfl⟩) fun a h=>s_pick_t h rfl rfl (beq_iff_eq.2 hc_6) rfl fun a h=>s_move h rfl rfl fun a h=>?_
  by_cases hc_7 : x0.From = x1.From
  ·rw [if_pos hc_7] at H
   refine s_on h rfl rfl (beq_iff_eq.2 hc_7) <| s_fieldAddr h rfl U29 rfl ti3 rfl rfl fun a h=>s_on h rfl rfl (beq_iff_eq.2 hc_7) <| s_load h rfl rfl (hS.load_one (p := 1) rfl U3 rfl rfl) fun a h=>s_on h rfl rfl (beq_iff_eq.2 hc_7) <| s_fieldAddr h rfl U29 rfl ti3 rfl rfl fun a h=>s_on h rfl rfl (beq_iff_eq.2 hc_7) <| s_load h rfl rfl (hS.load_one (p := 2) rfl U3 rfl rfl) fun a h=>s_on h rfl rfl (beq_iff_eq.2 hc_7) <| s_cmp (b := (x0.To == x1.To)) h rfl rfl rfl (.inl ⟨rfl, rfl⟩) fun a h=>s_pick_t h rfl rfl (beq_iff_eq.2 hc_7) rfl fun a h=>s_move h rfl rfl fun a h=>?_
   by_cases hc_8 : x0.To = x1.To
   ·rw [if_pos hc_8] at H
    refine s_on h rfl rfl (beq_iff_eq.2 hc_8) <| s_fieldAddr h rfl U29 rfl ti3 rfl rfl fun a h=>s_on h rfl rfl (beq_iff_eq.2 hc_8) <| s_load h rfl rfl (hS.load_one (p := 1) rfl U3 rfl rfl) fun a h=>s_on h rfl rfl (beq_iff_eq.2 hc_8) <| s_fieldAddr h rfl U29 rfl ti3 rfl rfl fun a h=>s_on h rfl rfl (beq_iff_eq.2 hc_8) <| s_load h rfl rfl (hS.load_one (p := 2) rfl U3 rfl rfl) fun a h=>s_on h rfl rfl (beq_iff_eq.2 hc_8) <| s_cmp (b := (x0.View == x1.View)) h rfl rfl rfl (.inl ⟨rfl, rfl⟩) fun a h=>s_pick_t h rfl rfl (beq_iff_eq.2 hc_8) rfl fun a h=>s_move h rfl rfl fun a h=>?_
    by_cases hc_9 : x0.View = x1.View
    ·rw [if_pos hc_9] at H
     refine s_on h rfl rfl (beq_iff_eq.2 hc_9) <| s_fieldAddr h rfl U29 rfl ti3 rfl rfl fun a h=>s_on h rfl rfl (beq_iff_eq.2 hc_9) <| s_load h rfl rfl (hS.load_one (p := 1) rfl U3 rfl rfl) fun a h=>s_on h rfl rfl (beq_iff_eq.2 hc_9) <| s_fieldAddr h rfl U29 rfl ti3 rfl rfl fun a h=>s_on h rfl rfl (beq_iff_eq.2 hc_9) <| s_load h rfl rfl (hS.load_one (p := 2) rfl U3 rfl rfl) fun a h=>s_on h rfl rfl (beq_iff_eq.2 hc_9) <| s_cmp (b := (x0.Inst == x1.Inst)) h rfl rfl rfl (.inl ⟨rfl, rfl⟩) fun a h=>s_pick_t h rfl rfl (beq_iff_eq.2 hc_9) rfl fun a h=>s_move h rfl rfl fun a h=>?_
     by_cases hc_10 : x0.Inst = x1.Inst
     ·rw [if_pos hc_10] at H
      refine s_on h rfl rfl (beq_iff_eq.2 hc_10) <| s_fieldAddr h rfl U29 rfl ti3 rfl rfl fun a h=>s_on h rfl rfl (beq_iff_eq.2 hc_10) <| s_load h rfl rfl (hS.load_one (p := 1) rfl U3 rfl rfl) fun a h=>s_on h rfl rfl (beq_iff_eq.2 hc_10) <| s_fieldAddr h rfl U29 rfl ti3 rfl rfl fun a h=>s_on h rfl rfl (beq_iff_eq.2 hc_10) <| s_load h rfl rfl (hS.load_one (p := 2) rfl U3 rfl rfl) fun a h=>s_on h rfl rfl (beq_iff_eq.2 hc_10) <| s_cmp (b := (x0.Len == x1.Len)) h rfl rfl rfl (.inl ⟨rfl, rfl⟩) fun a h=>s_pick_t h rfl rfl (beq_iff_eq.2 hc_10) rfl fun a h=>s_move h rfl rfl fun a h=>?_
      by_cases hc_11 : x0.Len = x1.Len
      ·rw [if_pos hc_11] at H
       refine s_on h rfl rfl (beq_iff_eq.2 hc_11) <| s_fieldAddr h rfl U29 rfl ti4 rfl rfl fun a h=>s_on h rfl rfl (beq_iff_eq.2 hc_11) <| s_load h rfl rfl (hS.load_one (p := 1) rfl U4 rfl rfl) fun a h=>s_on h rfl rfl (beq_iff_eq.2 hc_11) <| s_fieldAddr h rfl U29 rfl ti4 rfl rfl fun a h=>s_on h rfl rfl (beq_iff_eq.2 hc_11) <| s_load h rfl rfl (hS.load_one (p := 2) rfl U4 rfl rfl) fun a h=>s_on h rfl rfl (beq_iff_eq.2 hc_11) <| s_beq (b := (x0.Has == x1.Has)) h rfl U4 rfl rfl (.inl ⟨rfl, rfl⟩) fun a h=>s_pick_t h rfl rfl (beq_iff_eq.2 hc_11) rfl fun a h=>s_move h rfl rfl fun a h=>?_
       by_cases hc_12 : x0.Has = x1.Has
       ·rw [if_pos hc_12] at H
        refine s_on h rfl rfl (beq_iff_eq.2 hc_12) <| s_fieldAddr h rfl U29 rfl ti3 rfl rfl fun a h=>s_on h rfl rfl (beq_iff_eq.2 hc_12) <| s_load h rfl rfl (hS.load_one (p := 1) rfl U3 rfl rfl) fun a h=>s_on h rfl rfl (beq_iff_eq.2 hc_12) <| s_fieldAddr h rfl U29 rfl ti3 rfl rfl fun a h=>s_on h rfl rfl (beq_iff_eq.2 hc_12) <| s_load h rfl rfl (hS.load_one (p := 2) rfl U3 rfl rfl) fun a h=>s_on h rfl rfl (beq_iff_eq.2 hc_12) <| s_cmp (b := (x0.Members == x1.Members)) h rfl rfl rfl (.inl ⟨rfl, rfl⟩) fun a h=>s_pick_t h rfl rfl (beq_iff_eq.2 hc_12) rfl fun a h=>s_move h rfl rfl fun a h=>?_
        by_cases hc_13 : x0.Members = x1.Members
        ·rw [if_pos hc_13] at H
         refine s_on h rfl rfl (beq_iff_eq.2 hc_13) <| s_fieldAddr h rfl U29 rfl ti3 rfl rfl fun a h=>s_on h rfl rfl (beq_iff_eq.2 hc_13) <| s_load h rfl rfl (hS.load_one (p := 1) rfl U3 rfl rfl) fun a h=>s_on h rfl rfl (beq_iff_eq.2 hc_13) <| s_fieldAddr h rfl U29 rfl ti3 rfl rfl fun a h=>s_on h rfl rfl (beq_iff_eq.2 hc_13) <| s_load h rfl rfl (hS.load_one (p := 2) rfl U3 rfl rfl) fun a h=>s_on h rfl rfl (beq_iff_eq.2 hc_13) <| s_cmp (b := (x0.Source == x1.Source)) h rfl rfl rfl (.inl ⟨rfl, rfl⟩) fun a h=>s_pick_t h rfl rfl (beq_iff_eq.2 hc_13) rfl fun a h=>s_move h rfl rfl fun a h=>?_
         by_cases hc_14 : x0.Source = x1.Source
         ·rw [if_pos hc_14] at H
          refine s_on h rfl rfl (beq_iff_eq.2 hc_14) <| s_fieldAddr h rfl U29 rfl ti3 rfl rfl fun a h=>s_on h rfl rfl (beq_iff_eq.2 hc_14) <| s_load h rfl rfl (hS.load_one (p := 1) rfl U3 rfl rfl) fun a h=>s_on h rfl rfl (beq_iff_eq.2 hc_14) <| s_fieldAddr h rfl U29 rfl ti3 rfl rfl fun a h=>s_on h rfl rfl (beq_iff_eq.2 hc_14) <| s_load h rfl rfl (hS.load_one (p := 2) rfl U3 rfl rfl) fun a h=>s_on h rfl rfl (beq_iff_eq.2 hc_14) <| s_cmp (b := (x0.At == x1.At)) h rfl rfl rfl (.inl ⟨rfl, rfl⟩) fun a h=>s_pick_t h rfl rfl (beq_iff_eq.2 hc_14) rfl fun a h=>s_move h rfl rfl fun a h=>?_
          by_cases hc_15 : x0.At = x1.At
          ·rw [if_pos hc_15] at H
           refine s_on h rfl rfl (beq_iff_eq.2 hc_15) <| s_fieldAddr h rfl U29 rfl ti3 rfl rfl fun a h=>s_on h rfl rfl (beq_iff_eq.2 hc_15) <| s_load h rfl rfl (hS.load_one (p := 1) rfl U3 rfl rfl) fun a h=>s_on h rfl rfl (beq_iff_eq.2 hc_15) <| s_fieldAddr h rfl U29 rfl ti3 rfl rfl fun a h=>s_on h rfl rfl (beq_iff_eq.2 hc_15) <| s_load h rfl rfl (hS.load_one (p := 2) rfl U3 rfl rfl) fun a h=>s_on h rfl rfl (beq_iff_eq.2 hc_15) <| s_cmp (b := (x0.Total == x1.Total)) h rfl rfl rfl (.inl ⟨rfl, rfl⟩) fun a h=>s_pick_t h rfl rfl (beq_iff_eq.2 hc_15) rfl fun a h=>s_move h rfl rfl fun a h=>?_
           by_cases hc_16 : x0.Total = x1.Total
           ·rw [if_pos hc_16] at H
            refine s_on h rfl rfl (beq_iff_eq.2 hc_16) <| s_fieldAddr h rfl U29 rfl ti22 rfl rfl fun a h=>s_on h rfl rfl (beq_iff_eq.2 hc_16) <| s_load h rfl rfl (hS.load_one (p := 1) rfl U22 rfl rfl) fun a h=>s_on h rfl rfl (beq_iff_eq.2 hc_16) <| s_b2s h rfl U22 U5 U9 rfl hp0_0 (hA.trans hS.old) fun a h=>s_on h rfl rfl (beq_iff_eq.2 hc_16) <| s_fieldAddr h rfl U29 rfl ti22 rfl rfl fun a h=>s_on h rfl rfl (beq_iff_eq.2 hc_16) <| s_load h rfl rfl (hS.load_one (p := 2) rfl U22 rfl rfl) fun a h=>s_on h rfl rfl (beq_iff_eq.2 hc_16) <| s_b2s h rfl U22 U5 U9 rfl hp1_6 (hA.trans hS.old) fun a h=>?_
            refine s_on h rfl rfl (beq_iff_eq.2 hc_16) <| s_strEq (b := (x0.Data == x1.Data)) h rfl rfl rfl (.inl ⟨rfl, rfl⟩) fun a h=>s_pick_t h rfl rfl (beq_iff_eq.2 hc_16) rfl fun a h=>s_move h rfl rfl fun a h=>?_
            by_cases hc_17 : x0.Data = x1.Data
            ·rw [if_pos hc_17] at H
             refine s_on h rfl rfl (beq_iff_eq.2 hc_17) <| s_fieldAddr h rfl U29 rfl ti3 rfl rfl fun a h=>s_on h rfl rfl (beq_iff_eq.2 hc_17) <| s_load h rfl rfl (hS.load_one (p := 1) rfl U3 rfl rfl) fun a h=>s_on h rfl rfl (beq_iff_eq.2 hc_17) <| s_fieldAddr h rfl U29 rfl ti3 rfl rfl fun a h=>s_on h rfl rfl (beq_iff_eq.2 hc_17) <| s_load h rfl rfl (hS.load_one (p := 2) rfl U3 rfl rfl) fun a h=>s_on h rfl rfl (beq_iff_eq.2 hc_17) <| s_cmp (b := (x0.Hop == x1.Hop)) h rfl rfl rfl (.inl ⟨rfl, rfl⟩) fun a h=>s_pick_t h rfl rfl (beq_iff_eq.2 hc_17) rfl fun a h=>s_move h rfl rfl fun a h=>?_
             by_cases hc_18 : x0.Hop = x1.Hop
             ·rw [if_pos hc_18] at H
              refine s_on h rfl rfl (beq_iff_eq.2 hc_18) <| s_fieldAddr h rfl U29 rfl ti3 rfl rfl fun a h=>s_on h rfl rfl (beq_iff_eq.2 hc_18) <| s_load h rfl rfl (hS.load_one (p := 1) rfl U3 rfl rfl) fun a h=>s_on h rfl rfl (beq_iff_eq.2 hc_18) <| s_fieldAddr h rfl U29 rfl ti3 rfl rfl fun a h=>s_on h rfl rfl (beq_iff_eq.2 hc_18) <| s_load h rfl rfl (hS.load_one (p := 2) rfl U3 rfl rfl) fun a h=>s_on h rfl rfl (beq_iff_eq.2 hc_18) <| s_cmp (b := (x0.Seq == x1.Seq)) h rfl rfl rfl (.inl ⟨rfl, rfl⟩) fun a h=>s_pick_t h rfl rfl (beq_iff_eq.2 hc_18) rfl fun a h=>s_move h rfl rfl fun a h=>?_
              by_cases hc_19 : x0.Seq = x1.Seq
              ·rw [if_pos hc_19] at H
               refine s_on h rfl rfl (beq_iff_eq.2 hc_19) <| s_fieldAddr h rfl U29 rfl ti23 rfl rfl fun a h=>s_on h rfl rfl (beq_iff_eq.2 hc_19) <| s_load h rfl rfl (hS.load_one (p := 1) rfl U23 rfl rfl) fun a h=>s_on h rfl rfl (beq_iff_eq.2 hc_19) <| s_fieldAddr h rfl U29 rfl ti23 rfl rfl fun a h=>s_on h rfl rfl (beq_iff_eq.2 hc_19) <| s_load h rfl rfl (hS.load_one (p := 2) rfl U23 rfl rfl) fun a h=>s_on h rfl rfl (beq_iff_eq.2 hc_19) ?_
               obtain ⟨t_20, et_20, H⟩ := Option.bind_eq_some_iff.1 H
               refine s_call h rfl Try.call14 rfl (hocketref1_SameInts.calls K x0.Have _ x1.Have _ t_20 w0 _ _ _ (Mem.le.refl _) (hS.enter [] (by decide)) (hp0_1.mono (hA.trans (hS.le_zed []))) (hp1_7.mono (hA.trans (hS.le_zed []))) et_20) ?_
               rintro _ w_21 ⟨N_22, rfl, hS'⟩
               intro a h
               obtain ⟨N_23, hS'', le_23, ln_23⟩ := hS.call [] (by decide) rfl (l' := []) (ow := []) rfl hS'
               replace hS : Sep w0 w_21 [N_23, _, _] Z := hS''
               clear hS' hS''
               refine s_pick_t h rfl rfl (beq_iff_eq.2 hc_19) rfl fun a h=>s_move h rfl rfl fun a h=>?_
               by_cases hc_24 : t_20 = true
               ·rw [if_pos hc_24] at H
                refine s_on h rfl rfl hc_24 <| s_fieldAddr h rfl U29 rfl ti23 rfl rfl fun a h=>s_on h rfl rfl hc_24 <| s_load h rfl rfl (hS.load_one (p := 1) rfl U23 rfl rfl) fun a h=>s_on h rfl rfl hc_24 <| s_fieldAddr h rfl U29 rfl ti23 rfl rfl fun a h=>s_on h rfl rfl hc_24 <| s_load h rfl rfl (hS.load_one (p := 2) rfl U23 rfl rfl) fun a h=>s_on h rfl rfl hc_24 ?_
                obtain ⟨t_25, et_25, H⟩ := Option.bind_eq_some_iff.1 H
                refine s_call h rfl Try.call14 rfl (hocketref1_SameInts.calls K x0.Need _ x1.Need _ t_25 w0 _ _ _ (Mem.le.refl _) (hS.enter [] (by decide)) (hp0_2.mono (hA.trans (hS.le_zed []))) (hp1_8.mono (hA.trans (hS.le_zed []))) et_25) ?_
                rintro _ w_26 ⟨N_27, rfl, hS'⟩
                intro a h
                obtain ⟨N_28, hS'', le_28, ln_28⟩ := hS.call [] (by decide) rfl (l' := []) (ow := []) rfl hS'
                replace hS : Sep w0 w_26 [N_28, _, _] Z := hS''
                clear hS' hS''
                refine s_pick_t h rfl rfl hc_24 rfl fun a h=>s_move h rfl rfl fun a h=>?_
                by_cases hc_29 : t_25 = true
                ·rw [if_pos hc_29] at H
                 refine s_on h rfl rfl hc_29 <| s_fieldAddr h rfl U29 rfl ti3 rfl rfl fun a h=>s_on h rfl rfl hc_29 <| s_load h rfl rfl (hS.load_one (p := 1) rfl U3 rfl rfl) fun a h=>s_on h rfl rfl hc_29 <| s_fieldAddr h rfl U29 rfl ti3 rfl rfl fun a h=>s_on h rfl rfl hc_29 <| s_load h rfl rfl (hS.load_one (p := 2) rfl U3 rfl rfl) fun a h=>s_on h rfl rfl hc_29 <| s_cmp (b := (x0.Index == x1.Index)) h rfl rfl rfl (.inl ⟨rfl, rfl⟩) fun a h=>s_pick_t h rfl rfl hc_29 rfl fun a h=>s_move h rfl rfl fun a h=>?_
                 by_cases hc_30 : x0.Index = x1.Index
                 ·rw [if_pos hc_30] at H
                  refine s_on h rfl rfl (beq_iff_eq.2 hc_30) <| s_fieldAddr h rfl U29 rfl ti27 rfl rfl fun a h=>s_on h rfl rfl (beq_iff_eq.2 hc_30) <| s_load h rfl rfl (hS.load_agg (p := 1) (us := [iV x0.Entry.Sess, iV x0.Entry.Seq, iV x0.Entry.Cmd.Kind, iV x0.Entry.Cmd.Who, p0_3, p0_4, p0_5]) rfl U27 rfl ti27 rfl rfl) fun a h=>s_on h rfl rfl (beq_iff_eq.2 hc_30) <| s_fieldAddr h rfl U29 rfl ti27 rfl rfl fun a h=>s_on h rfl rfl (beq_iff_eq.2 hc_30) <| s_load h rfl rfl (hS.load_agg (p := 2) (us := [iV x1.Entry.Sess, iV x1.Entry.Seq, iV x1.Entry.Cmd.Kind, iV x1.Entry.Cmd.Who, p1_9, p1_10, p1_11]) rfl U27 rfl ti27 rfl rfl) fun a h=>s_on h rfl rfl (beq_iff_eq.2 hc_30) ?_
                  obtain ⟨t_31, et_31, H⟩ := Option.bind_eq_some_iff.1 H
                  refine s_call h rfl Try.call27 rfl (hocketref4_SameEntry.calls x0.Entry _ _ _ x1.Entry _ _ _ t_31 w0 _ _ _ (Mem.le.refl _) (hS.enter [] (by decide)) (hp0_3.mono (hA.trans (hS.le_zed []))) (hp0_4.mono (hA.trans (hS.le_zed []))) (hp0_5.mono (hA.trans (hS.le_zed []))) (hp1_9.mono (hA.trans (hS.le_zed []))) (hp1_10.mono (hA.trans (hS.le_zed []))) (hp1_11.mono (hA.trans (hS.le_zed []))) et_31) ?_
                  rintro _ w_32 ⟨N_33, rfl, hS'⟩
                  intro a h
                  obtain ⟨N_34, hS'', le_34, ln_34⟩ := hS.call [] (by decide) rfl (l' := []) (ow := []) rfl hS'
                  replace hS : Sep w0 w_32 [N_34, _, _] Z := hS''
                  clear hS' hS''
                  refine s_pick_t h rfl rfl (beq_iff_eq.2 hc_30) rfl fun a h=>s_assign h rfl rfl fun a h=>wpList_nil <| x_then_n (hKJ_5 _ _ ?_)
                  refine wp_ret ?_
                  obtain rfl := Option.some.inj H
                  exact f_ret h (rs := [.tmp 4]) rfl (.tmp rfl .nil) ⟨_, rfl, N_34, rfl, (Sep.sel hS [0] (by decide))⟩
                 ·rw [if_neg hc_30] at H
                  refine s_off h rfl rfl rfl (beq_eq_false_iff_ne.2 hc_30) fun a h=>s_off h rfl rfl rfl (beq_eq_false_iff_ne.2 hc_30) fun a h=>s_off h rfl rfl rfl (beq_eq_false_iff_ne.2 hc_30) fun a h=>s_off h rfl rfl rfl (beq_eq_false_iff_ne.2 hc_30) fun a h=>s_off h rfl rfl rfl (beq_eq_false_iff_ne.2 hc_30) fun a h=>s_pick_f h rfl rfl (beq_eq_false_iff_ne.2 hc_30) rfl fun a h=>s_assign h rfl rfl fun a h=>wpList_nil <| x_then_n (hKJ_5 _ _ ?_)
                  refine wp_ret ?_
                  obtain rfl := Option.some.inj H
                  exact f_ret h (rs := [.tmp 4]) rfl (.tmp rfl .nil) ⟨_, rfl, N_28, rfl, (Sep.sel hS [0] (by decide))⟩
                ·rw [if_neg hc_29] at H
                 refine s_off h rfl rfl rfl (Bool.eq_false_iff.2 hc_29) fun a h=>s_off h rfl rfl rfl (Bool.eq_false_iff.2 hc_29) fun a h=>s_off h rfl rfl rfl (Bool.eq_false_iff.2 hc_29) fun a h=>s_off h rfl rfl rfl (Bool.eq_false_iff.2 hc_29) fun a h=>s_off h rfl rfl rfl (Bool.eq_false_iff.2 hc_29) fun a h=>s_pick_f h rfl rfl (Bool.eq_false_iff.2 hc_29) rfl fun a h=>s_move h rfl rfl fun a h=>s_off h rfl rfl rfl rfl fun a h=>s_off h rfl rfl rfl rfl fun a h=>s_off h rfl rfl rfl rfl fun a h=>s_off h rfl rfl rfl rfl fun a h=>s_off h rfl rfl rfl rfl fun a h=>?_
                 refine s_pick_f h rfl rfl rfl rfl fun a h=>s_assign h rfl rfl fun a h=>wpList_nil <| x_then_n (hKJ_5 _ _ ?_)
                 refine wp_ret ?_
                 obtain rfl := Option.some.inj H
                 exact f_ret h (rs := [.tmp 4]) rfl (.tmp rfl .nil) ⟨_, rfl, N_28, rfl, (Sep.sel hS [0] (by decide))⟩
               ·rw [if_neg hc_24] at H
                refine s_off h rfl rfl rfl (Bool.eq_false_iff.2 hc_24) fun a h=>s_off h rfl rfl rfl (Bool.eq_false_iff.2 hc_24) fun a h=>s_off h rfl rfl rfl (Bool.eq_false_iff.2 hc_24) fun a h=>s_off h rfl rfl rfl (Bool.eq_false_iff.2 hc_24) fun a h=>s_off h rfl rfl rfl (Bool.eq_false_iff.2 hc_24) fun a h=>s_pick_f h rfl rfl (Bool.eq_false_iff.2 hc_24) rfl fun a h=>s_move h rfl rfl fun a h=>s_off h rfl rfl rfl rfl fun a h=>s_off h rfl rfl rfl rfl fun a h=>s_off h rfl rfl rfl rfl fun a h=>s_off h rfl rfl rfl rfl fun a h=>s_off h rfl rfl rfl rfl fun a h=>?_
                refine s_pick_f h rfl rfl rfl rfl fun a h=>s_move h rfl rfl fun a h=>s_off h rfl rfl rfl rfl fun a h=>s_off h rfl rfl rfl rfl fun a h=>s_off h rfl rfl rfl rfl fun a h=>s_off h rfl rfl rfl rfl fun a h=>s_off h rfl rfl rfl rfl fun a h=>s_pick_f h rfl rfl rfl rfl fun a h=>s_assign h rfl rfl fun a h=>wpList_nil <| x_then_n (hKJ_5 _ _ ?_)
                refine wp_ret ?_
                obtain rfl := Option.some.inj H
                exact f_ret h (rs := [.tmp 4]) rfl (.tmp rfl .nil) ⟨_, rfl, N_23, rfl, (Sep.sel hS [0] (by decide))⟩
              ·rw [if_neg hc_19] at H
               refine s_off h rfl rfl rfl (beq_eq_false_iff_ne.2 hc_19) fun a h=>s_off h rfl rfl rfl (beq_eq_false_iff_ne.2 hc_19) fun a h=>s_off h rfl rfl rfl (beq_eq_false_iff_ne.2 hc_19) fun a h=>s_off h rfl rfl rfl (beq_eq_false_iff_ne.2 hc_19) fun a h=>s_off h rfl rfl rfl (beq_eq_false_iff_ne.2 hc_19) fun a h=>s_pick_f h rfl rfl (beq_eq_false_iff_ne.2 hc_19) rfl fun a h=>s_move h rfl rfl fun a h=>s_off h rfl rfl rfl rfl fun a h=>s_off h rfl rfl rfl rfl fun a h=>s_off h rfl rfl rfl rfl fun a h=>s_off h rfl rfl rfl rfl fun a h=>s_off h rfl rfl rfl rfl fun a h=>?_
               refine s_pick_f h rfl rfl rfl rfl fun a h=>s_move h rfl rfl fun a h=>s_off h rfl rfl rfl rfl fun a h=>s_off h rfl rfl rfl rfl fun a h=>s_off h rfl rfl rfl rfl fun a h=>s_off h rfl rfl rfl rfl fun a h=>s_off h rfl rfl rfl rfl fun a h=>s_pick_f h rfl rfl rfl rfl fun a h=>s_move h rfl rfl fun a h=>s_off h rfl rfl rfl rfl fun a h=>s_off h rfl rfl rfl rfl fun a h=>s_off h rfl rfl rfl rfl fun a h=>?_
               refine s_off h rfl rfl rfl rfl fun a h=>s_off h rfl rfl rfl rfl fun a h=>s_pick_f h rfl rfl rfl rfl fun a h=>s_assign h rfl rfl fun a h=>wpList_nil <| x_then_n (hKJ_5 _ _ ?_)
               refine wp_ret ?_
               obtain rfl := Option.some.inj H
               exact f_ret h (rs := [.tmp 4]) rfl (.tmp rfl .nil) ⟨_, rfl, Mem.no, rfl, (Sep.sel hS [0] (by decide))⟩
             ·rw [if_neg hc_18] at H
              refine s_off h rfl rfl rfl (beq_eq_false_iff_ne.2 hc_18) fun a h=>s_off h rfl rfl rfl (beq_eq_false_iff_ne.2 hc_18) fun a h=>s_off h rfl rfl rfl (beq_eq_false_iff_ne.2 hc_18) fun a h=>s_off h rfl rfl rfl (beq_eq_false_iff_ne.2 hc_18) fun a h=>s_off h rfl rfl rfl (beq_eq_false_iff_ne.2 hc_18) fun a h=>s_pick_f h rfl rfl (beq_eq_false_iff_ne.2 hc_18) rfl fun a h=>s_move h rfl rfl fun a h=>s_off h rfl rfl rfl rfl fun a h=>s_off h rfl rfl rfl rfl fun a h=>s_off h rfl rfl rfl rfl fun a h=>s_off h rfl rfl rfl rfl fun a h=>s_off h rfl rfl rfl rfl fun a h=>?_
              refine s_pick_f h rfl rfl rfl rfl fun a h=>s_move h rfl rfl fun a h=>s_off h rfl rfl rfl rfl fun a h=>s_off h rfl rfl rfl rfl fun a h=>s_off h rfl rfl rfl rfl fun a h=>s_off h rfl rfl rfl rfl fun a h=>s_off h rfl rfl rfl rfl fun a h=>s_pick_f h rfl rfl rfl rfl fun a h=>s_move h rfl rfl fun a h=>s_off h rfl rfl rfl rfl fun a h=>s_off h rfl rfl rfl rfl fun a h=>s_off h rfl rfl rfl rfl fun a h=>?_
              refine s_off h rfl rfl rfl rfl fun a h=>s_off h rfl rfl rfl rfl fun a h=>s_pick_f h rfl rfl rfl rfl fun a h=>s_move h rfl rfl fun a h=>s_off h rfl rfl rfl rfl fun a h=>s_off h rfl rfl rfl rfl fun a h=>s_off h rfl rfl rfl rfl fun a h=>s_off h rfl rfl rfl rfl fun a h=>s_off h rfl rfl rfl rfl fun a h=>s_pick_f h rfl rfl rfl rfl fun a h=>s_assign h rfl rfl fun a h=>wpList_nil <| x_then_n (hKJ_5 _ _ ?_)
              refine wp_ret ?_
              obtain rfl := Option.some.inj H
              exact f_ret h (rs := [.tmp 4]) rfl (.tmp rfl .nil) ⟨_, rfl, Mem.no, rfl, (Sep.sel hS [0] (by decide))⟩
            ·rw [if_neg hc_17] at H
             refine s_off h rfl rfl rfl (beq_eq_false_iff_ne.2 hc_17) fun a h=>s_off h rfl rfl rfl (beq_eq_false_iff_ne.2 hc_17) fun a h=>s_off h rfl rfl rfl (beq_eq_false_iff_ne.2 hc_17) fun a h=>s_off h rfl rfl rfl (beq_eq_false_iff_ne.2 hc_17) fun a h=>s_off h rfl rfl rfl (beq_eq_false_iff_ne.2 hc_17) fun a h=>s_pick_f h rfl rfl (beq_eq_false_iff_ne.2 hc_17) rfl fun a h=>s_move h rfl rfl fun a h=>s_off h rfl rfl rfl rfl fun a h=>s_off h rfl rfl rfl rfl fun a h=>s_off h rfl rfl rfl rfl fun a h=>s_off h rfl rfl rfl rfl fun a h=>s_off h rfl rfl rfl rfl fun a h=>?_
             refine s_pick_f h rfl rfl rfl rfl fun a h=>s_move h rfl rfl fun a h=>s_off h rfl rfl rfl rfl fun a h=>s_off h rfl rfl rfl rfl fun a h=>s_off h rfl rfl rfl rfl fun a h=>s_off h rfl rfl rfl rfl fun a h=>s_off h rfl rfl rfl rfl fun a h=>s_pick_f h rfl rfl rfl rfl fun a h=>s_move h rfl rfl fun a h=>s_off h rfl rfl rfl rfl fun a h=>s_off h rfl rfl rfl rfl fun a h=>s_off h rfl rfl rfl rfl fun a h=>?_
             refine s_off h rfl rfl rfl rfl fun a h=>s_off h rfl rfl rfl rfl fun a h=>s_pick_f h rfl rfl rfl rfl fun a h=>s_move h rfl rfl fun a h=>s_off h rfl rfl rfl rfl fun a h=>s_off h rfl rfl rfl rfl fun a h=>s_off h rfl rfl rfl rfl fun a h=>s_off h rfl rfl rfl rfl fun a h=>s_off h rfl rfl rfl rfl fun a h=>s_pick_f h rfl rfl rfl rfl fun a h=>s_move h rfl rfl fun a h=>s_off h rfl rfl rfl rfl fun a h=>?_
             refine s_off h rfl rfl rfl rfl fun a h=>s_off h rfl rfl rfl rfl fun a h=>s_off h rfl rfl rfl rfl fun a h=>s_off h rfl rfl rfl rfl fun a h=>s_pick_f h rfl rfl rfl rfl fun a h=>s_assign h rfl rfl fun a h=>wpList_nil <| x_then_n (hKJ_5 _ _ ?_)
             refine wp_ret ?_
             obtain rfl := Option.some.inj H
             exact f_ret h (rs := [.tmp 4]) rfl (.tmp rfl .nil) ⟨_, rfl, Mem.no, rfl, (Sep.sel hS [0] (by decide))⟩
           ·rw [if_neg hc_16] at H
            refine s_off h rfl rfl rfl (beq_eq_false_iff_ne.2 hc_16) fun a h=>s_off h rfl rfl rfl (beq_eq_false_iff_ne.2 hc_16) fun a h=>s_off h rfl rfl rfl (beq_eq_false_iff_ne.2 hc_16) fun a h=>s_off h rfl rfl rfl (beq_eq_false_iff_ne.2 hc_16) fun a h=>s_off h rfl rfl rfl (beq_eq_false_iff_ne.2 hc_16) fun a h=>s_off h rfl rfl rfl (beq_eq_false_iff_ne.2 hc_16) fun a h=>s_off h rfl rfl rfl (beq_eq_false_iff_ne.2 hc_16) fun a h=>s_pick_f h rfl rfl (beq_eq_false_iff_ne.2 hc_16) rfl fun a h=>s_move h rfl rfl fun a h=>s_off h rfl rfl rfl rfl fun a h=>s_off h rfl rfl rfl rfl fun a h=>s_off h rfl rfl rfl rfl fun a h=>?_
            refine s_off h rfl rfl rfl rfl fun a h=>s_off h rfl rfl rfl rfl fun a h=>s_pick_f h rfl rfl rfl rfl fun a h=>s_move h rfl rfl fun a h=>s_off h rfl rfl rfl rfl fun a h=>s_off h rfl rfl rfl rfl fun a h=>s_off h rfl rfl rfl rfl fun a h=>s_off h rfl rfl rfl rfl fun a h=>s_off h rfl rfl rfl rfl fun a h=>s_pick_f h rfl rfl rfl rfl fun a h=>s_move h rfl rfl fun a h=>s_off h rfl rfl rfl rfl fun a h=>?_
            refine s_off h rfl rfl rfl rfl fun a h=>s_off h rfl rfl rfl rfl fun a h=>s_off h rfl rfl rfl rfl fun a h=>s_off h rfl rfl rfl rfl fun a h=>s_pick_f h rfl rfl rfl rfl fun a h=>s_move h rfl rfl fun a h=>s_off h rfl rfl rfl rfl fun a h=>s_off h rfl rfl rfl rfl fun a h=>s_off h rfl rfl rfl rfl fun a h=>s_off h rfl rfl rfl rfl fun a h=>s_off h rfl rfl rfl rfl fun a h=>s_pick_f h rfl rfl rfl rfl fun a h=>?_
            refine s_move h rfl rfl fun a h=>s_off h rfl rfl rfl rfl fun a h=>s_off h rfl rfl rfl rfl fun a h=>s_off h rfl rfl rfl rfl fun a h=>s_off h rfl rfl rfl rfl fun a h=>s_off h rfl rfl rfl rfl fun a h=>s_pick_f h rfl rfl rfl rfl fun a h=>s_move h rfl rfl fun a h=>s_off h rfl rfl rfl rfl fun a h=>s_off h rfl rfl rfl rfl fun a h=>s_off h rfl rfl rfl rfl fun a h=>s_off h rfl rfl rfl rfl fun a h=>?_
            refine s_off h rfl rfl rfl rfl fun a h=>s_pick_f h rfl rfl rfl rfl fun a h=>s_assign h rfl rfl fun a h=>wpList_nil <| x_then_n (hKJ_5 _ _ ?_)
            refine wp_ret ?_
            obtain rfl := Option.some.inj H
            exact f_ret h (rs := [.tmp 4]) rfl (.tmp rfl .nil) ⟨_, rfl, Mem.no, rfl, (Sep.sel hS [0] (by decide))⟩
          ·rw [if_neg hc_15] at H
           refine s_off h rfl rfl rfl (beq_eq_false_iff_ne.2 hc_15) fun a h=>s_off h rfl rfl rfl (beq_eq_false_iff_ne.2 hc_15) fun a h=>s_off h rfl rfl rfl (beq_eq_false_iff_ne.2 hc_15) fun a h=>s_off h rfl rfl rfl (beq_eq_false_iff_ne.2 hc_15) fun a h=>s_off h rfl rfl rfl (beq_eq_false_iff_ne.2 hc_15) fun a h=>s_pick_f h rfl rfl (beq_eq_false_iff_ne.2 hc_15) rfl fun a h=>s_move h rfl rfl fun a h=>s_off h rfl rfl rfl rfl fun a h=>s_off h rfl rfl rfl rfl fun a h=>s_off h rfl rfl rfl rfl fun a h=>s_off h rfl rfl rfl rfl fun a h=>s_off h rfl rfl rfl rfl fun a h=>?_
           refine s_off h rfl rfl rfl rfl fun a h=>s_off h rfl rfl rfl rfl fun a h=>s_pick_f h rfl rfl rfl rfl fun a h=>s_move h rfl rfl fun a h=>s_off h rfl rfl rfl rfl fun a h=>s_off h rfl rfl rfl rfl fun a h=>s_off h rfl rfl rfl rfl fun a h=>s_off h rfl rfl rfl rfl fun a h=>s_off h rfl rfl rfl rfl fun a h=>s_pick_f h rfl rfl rfl rfl fun a h=>s_move h rfl rfl fun a h=>s_off h rfl rfl rfl rfl fun a h=>?_
           refine s_off h rfl rfl rfl rfl fun a h=>s_off h rfl rfl rfl rfl fun a h=>s_off h rfl rfl rfl rfl fun a h=>s_off h rfl rfl rfl rfl fun a h=>s_pick_f h rfl rfl rfl rfl fun a h=>s_move h rfl rfl fun a h=>s_off h rfl rfl rfl rfl fun a h=>s_off h rfl rfl rfl rfl fun a h=>s_off h rfl rfl rfl rfl fun a h=>s_off h rfl rfl rfl rfl fun a h=>s_off h rfl rfl rfl rfl fun a h=>s_pick_f h rfl rfl rfl rfl fun a h=>?_
           refine s_move h rfl rfl fun a h=>s_off h rfl rfl rfl rfl fun a h=>s_off h rfl rfl rfl rfl fun a h=>s_off h rfl rfl rfl rfl fun a h=>s_off h rfl rfl rfl rfl fun a h=>s_off h rfl rfl rfl rfl fun a h=>s_pick_f h rfl rfl rfl rfl fun a h=>s_move h rfl rfl fun a h=>s_off h rfl rfl rfl rfl fun a h=>s_off h rfl rfl rfl rfl fun a h=>s_off h rfl rfl rfl rfl fun a h=>s_off h rfl rfl rfl rfl fun a h=>?_
           refine s_off h rfl rfl rfl rfl fun a h=>s_pick_f h rfl rfl rfl rfl fun a h=>s_move h rfl rfl fun a h=>s_off h rfl rfl rfl rfl fun a h=>s_off h rfl rfl rfl rfl fun a h=>s_off h rfl rfl rfl rfl fun a h=>s_off h rfl rfl rfl rfl fun a h=>s_off h rfl rfl rfl rfl fun a h=>s_pick_f h rfl rfl rfl rfl fun a h=>s_assign h rfl rfl fun a h=>wpList_nil <| x_then_n (hKJ_5 _ _ ?_)
           refine wp_ret ?_
           obtain rfl := Option.some.inj H
           exact f_ret h (rs := [.tmp 4]) rfl (.tmp rfl .nil) ⟨_, rfl, Mem.no, rfl, (Sep.sel hS [0] (by decide))⟩
         ·rw [if_neg hc_14] at H
          refine s_off h rfl rfl rfl (beq_eq_false_iff_ne.2 hc_14) fun a h=>s_off h rfl rfl rfl (beq_eq_false_iff_ne.2 hc_14) fun a h=>s_off h rfl rfl rfl (beq_eq_false_iff_ne.2 hc_14) fun a h=>s_off h rfl rfl rfl (beq_eq_false_iff_ne.2 hc_14) fun a h=>s_off h rfl rfl rfl (beq_eq_false_iff_ne.2 hc_14) fun a h=>s_pick_f h rfl rfl (beq_eq_false_iff_ne.2 hc_14) rfl fun a h=>s_move h rfl rfl fun a h=>s_off h rfl rfl rfl rfl fun a h=>s_off h rfl rfl rfl rfl fun a h=>s_off h rfl rfl rfl rfl fun a h=>s_off h rfl rfl rfl rfl fun a h=>s_off h rfl rfl rfl rfl fun a h=>?_
          refine s_pick_f h rfl rfl rfl rfl fun a h=>s_move h rfl rfl fun a h=>s_off h rfl rfl rfl rfl fun a h=>s_off h rfl rfl rfl rfl fun a h=>s_off h rfl rfl rfl rfl fun a h=>s_off h rfl rfl rfl rfl fun a h=>s_off h rfl rfl rfl rfl fun a h=>s_off h rfl rfl rfl rfl fun a h=>s_off h rfl rfl rfl rfl fun a h=>s_pick_f h rfl rfl rfl rfl fun a h=>s_move h rfl rfl fun a h=>s_off h rfl rfl rfl rfl fun a h=>?_
          refine s_off h rfl rfl rfl rfl fun a h=>s_off h rfl rfl rfl rfl fun a h=>s_off h rfl rfl rfl rfl fun a h=>s_off h rfl rfl rfl rfl fun a h=>s_pick_f h rfl rfl rfl rfl fun a h=>s_move h rfl rfl fun a h=>s_off h rfl rfl rfl rfl fun a h=>s_off h rfl rfl rfl rfl fun a h=>s_off h rfl rfl rfl rfl fun a h=>s_off h rfl rfl rfl rfl fun a h=>s_off h rfl rfl rfl rfl fun a h=>s_pick_f h rfl rfl rfl rfl fun a h=>?_
          refine s_move h rfl rfl fun a h=>s_off h rfl rfl rfl rfl fun a h=>s_off h rfl rfl rfl rfl fun a h=>s_off h rfl rfl rfl rfl fun a h=>s_off h rfl rfl rfl rfl fun a h=>s_off h rfl rfl rfl rfl fun a h=>s_pick_f h rfl rfl rfl rfl fun a h=>s_move h rfl rfl fun a h=>s_off h rfl rfl rfl rfl fun a h=>s_off h rfl rfl rfl rfl fun a h=>s_off h rfl rfl rfl rfl fun a h=>s_off h rfl rfl rfl rfl fun a h=>?_
          refine s_off h rfl rfl rfl rfl fun a h=>s_pick_f h rfl rfl rfl rfl fun a h=>s_move h rfl rfl fun a h=>s_off h rfl rfl rfl rfl fun a h=>s_off h rfl rfl rfl rfl fun a h=>s_off h rfl rfl rfl rfl fun a h=>s_off h rfl rfl rfl rfl fun a h=>s_off h rfl rfl rfl rfl fun a h=>s_pick_f h rfl rfl rfl rfl fun a h=>s_move h rfl rfl fun a h=>s_off h rfl rfl rfl rfl fun a h=>s_off h rfl rfl rfl rfl fun a h=>?_
          refine s_off h rfl rfl rfl rfl fun a h=>s_off h rfl rfl rfl rfl fun a h=>s_off h rfl rfl rfl rfl fun a h=>s_pick_f h rfl rfl rfl rfl fun a h=>s_assign h rfl rfl fun a h=>wpList_nil <| x_then_n (hKJ_5 _ _ ?_)
          refine wp_ret ?_
          obtain rfl := Option.some.inj H
          exact f_ret h (rs := [.tmp 4]) rfl (.tmp rfl .nil) ⟨_, rfl, Mem.no, rfl, (Sep.sel hS [0] (by decide))⟩
        ·rw [if_neg hc_13] at H
         refine s_off h rfl rfl rfl (beq_eq_false_iff_ne.2 hc_13) fun a h=>s_off h rfl rfl rfl (beq_eq_false_iff_ne.2 hc_13) fun a h=>s_off h rfl rfl rfl (beq_eq_false_iff_ne.2 hc_13) fun a h=>s_off h rfl rfl rfl (beq_eq_false_iff_ne.2 hc_13) fun a h=>s_off h rfl rfl rfl (beq_eq_false_iff_ne.2 hc_13) fun a h=>s_pick_f h rfl rfl (beq_eq_false_iff_ne.2 hc_13) rfl fun a h=>s_move h rfl rfl fun a h=>s_off h rfl rfl rfl rfl fun a h=>s_off h rfl rfl rfl rfl fun a h=>s_off h rfl rfl rfl rfl fun a h=>s_off h rfl rfl rfl rfl fun a h=>s_off h rfl rfl rfl rfl fun a h=>?_
         refine s_pick_f h rfl rfl rfl rfl fun a h=>s_move h rfl rfl fun a h=>s_off h rfl rfl rfl rfl fun a h=>s_off h rfl rfl rfl rfl fun a h=>s_off h rfl rfl rfl rfl fun a h=>s_off h rfl rfl rfl rfl fun a h=>s_off h rfl rfl rfl rfl fun a h=>s_pick_f h rfl rfl rfl rfl fun a h=>s_move h rfl rfl fun a h=>s_off h rfl rfl rfl rfl fun a h=>s_off h rfl rfl rfl rfl fun a h=>s_off h rfl rfl rfl rfl fun a h=>?_
         refine s_off h rfl rfl rfl rfl fun a h=>s_off h rfl rfl rfl rfl fun a h=>s_off h rfl rfl rfl rfl fun a h=>s_off h rfl rfl rfl rfl fun a h=>s_pick_f h rfl rfl rfl rfl fun a h=>s_move h rfl rfl fun a h=>s_off h rfl rfl rfl rfl fun a h=>s_off h rfl rfl rfl rfl fun a h=>s_off h rfl rfl rfl rfl fun a h=>s_off h rfl rfl rfl rfl fun a h=>s_off h rfl rfl rfl rfl fun a h=>s_pick_f h rfl rfl rfl rfl fun a h=>?_
         refine s_move h rfl rfl fun a h=>s_off h rfl rfl rfl rfl fun a h=>s_off h rfl rfl rfl rfl fun a h=>s_off h rfl rfl rfl rfl fun a h=>s_off h rfl rfl rfl rfl fun a h=>s_off h rfl rfl rfl rfl fun a h=>s_pick_f h rfl rfl rfl rfl fun a h=>s_move h rfl rfl fun a h=>s_off h rfl rfl rfl rfl fun a h=>s_off h rfl rfl rfl rfl fun a h=>s_off h rfl rfl rfl rfl fun a h=>s_off h rfl rfl rfl rfl fun a h=>?_
         refine s_off h rfl rfl rfl rfl fun a h=>s_pick_f h rfl rfl rfl rfl fun a h=>s_move h rfl rfl fun a h=>s_off h rfl rfl rfl rfl fun a h=>s_off h rfl rfl rfl rfl fun a h=>s_off h rfl rfl rfl rfl fun a h=>s_off h rfl rfl rfl rfl fun a h=>s_off h rfl rfl rfl rfl fun a h=>s_pick_f h rfl rfl rfl rfl fun a h=>s_move h rfl rfl fun a h=>s_off h rfl rfl rfl rfl fun a h=>s_off h rfl rfl rfl rfl fun a h=>?_
         refine s_off h rfl rfl rfl rfl fun a h=>s_off h rfl rfl rfl rfl fun a h=>s_off h rfl rfl rfl rfl fun a h=>s_pick_f h rfl rfl rfl rfl fun a h=>s_move h rfl rfl fun a h=>s_off h rfl rfl rfl rfl fun a h=>s_off h rfl rfl rfl rfl fun a h=>s_off h rfl rfl rfl rfl fun a h=>s_off h rfl rfl rfl rfl fun a h=>s_off h rfl rfl rfl rfl fun a h=>s_pick_f h rfl rfl rfl rfl fun a h=>s_assign h rfl rfl fun a h=>?_
         refine wpList_nil <| x_then_n (hKJ_5 _ _ ?_)
         refine wp_ret ?_
         obtain rfl := Option.some.inj H
         exact f_ret h (rs := [.tmp 4]) rfl (.tmp rfl .nil) ⟨_, rfl, Mem.no, rfl, (Sep.sel hS [0] (by decide))⟩
       ·rw [if_neg hc_12] at H
        refine s_off h rfl rfl rfl (beq_eq_false_iff_ne.2 hc_12) fun a h=>s_off h rfl rfl rfl (beq_eq_false_iff_ne.2 hc_12) fun a h=>s_off h rfl rfl rfl (beq_eq_false_iff_ne.2 hc_12) fun a h=>s_off h rfl rfl rfl (beq_eq_false_iff_ne.2 hc_12) fun a h=>s_off h rfl rfl rfl (beq_eq_false_iff_ne.2 hc_12) fun a h=>s_pick_f h rfl rfl (beq_eq_false_iff_ne.2 hc_12) rfl fun a h=>s_move h rfl rfl fun a h=>s_off h rfl rfl rfl rfl fun a h=>s_off h rfl rfl rfl rfl fun a h=>s_off h rfl rfl rfl rfl fun a h=>s_off h rfl rfl rfl rfl fun a h=>s_off h rfl rfl rfl rfl fun a h=>?_
        refine s_pick_f h rfl rfl rfl rfl fun a h=>s_move h rfl rfl fun a h=>s_off h rfl rfl rfl rfl fun a h=>s_off h rfl rfl rfl rfl fun a h=>s_off h rfl rfl rfl rfl fun a h=>s_off h rfl rfl rfl rfl fun a h=>s_off h rfl rfl rfl rfl fun a h=>s_pick_f h rfl rfl rfl rfl fun a h=>s_move h rfl rfl fun a h=>s_off h rfl rfl rfl rfl fun a h=>s_off h rfl rfl rfl rfl fun a h=>s_off h rfl rfl rfl rfl fun a h=>?_
        refine s_off h rfl rfl rfl rfl fun a h=>s_off h rfl rfl rfl rfl fun a h=>s_pick_f h rfl rfl rfl rfl fun a h=>s_move h rfl rfl fun a h=>s_off h rfl rfl rfl rfl fun a h=>s_off h rfl rfl rfl rfl fun a h=>s_off h rfl rfl rfl rfl fun a h=>s_off h rfl rfl rfl rfl fun a h=>s_off h rfl rfl rfl rfl fun a h=>s_off h rfl rfl rfl rfl fun a h=>s_off h rfl rfl rfl rfl fun a h=>s_pick_f h rfl rfl rfl rfl fun a h=>?_
        refine s_move h rfl rfl fun a h=>s_off h rfl rfl rfl rfl fun a h=>s_off h rfl rfl rfl rfl fun a h=>s_off h rfl rfl rfl rfl fun a h=>s_off h rfl rfl rfl rfl fun a h=>s_off h rfl rfl rfl rfl fun a h=>s_pick_f h rfl rfl rfl rfl fun a h=>s_move h rfl rfl fun a h=>s_off h rfl rfl rfl rfl fun a h=>s_off h rfl rfl rfl rfl fun a h=>s_off h rfl rfl rfl rfl fun a h=>s_off h rfl rfl rfl rfl fun a h=>?_
        refine s_off h rfl rfl rfl rfl fun a h=>s_pick_f h rfl rfl rfl rfl fun a h=>s_move h rfl rfl fun a h=>s_off h rfl rfl rfl rfl fun a h=>s_off h rfl rfl rfl rfl fun a h=>s_off h rfl rfl rfl rfl fun a h=>s_off h rfl rfl rfl rfl fun a h=>s_off h rfl rfl rfl rfl fun a h=>s_pick_f h rfl rfl rfl rfl fun a h=>s_move h rfl rfl fun a h=>s_off h rfl rfl rfl rfl fun a h=>s_off h rfl rfl rfl rfl fun a h=>?_
        refine s_off h rfl rfl rfl rfl fun a h=>s_off h rfl rfl rfl rfl fun a h=>s_off h rfl rfl rfl rfl fun a h=>s_pick_f h rfl rfl rfl rfl fun a h=>s_move h rfl rfl fun a h=>s_off h rfl rfl rfl rfl fun a h=>s_off h rfl rfl rfl rfl fun a h=>s_off h rfl rfl rfl rfl fun a h=>s_off h rfl rfl rfl rfl fun a h=>s_off h rfl rfl rfl rfl fun a h=>s_pick_f h rfl rfl rfl rfl fun a h=>s_move h rfl rfl fun a h=>?_
        refine s_off h rfl rfl rfl rfl fun a h=>s_off h rfl rfl rfl rfl fun a h=>s_off h rfl rfl rfl rfl fun a h=>s_off h rfl rfl rfl rfl fun a h=>s_off h rfl rfl rfl rfl fun a h=>s_pick_f h rfl rfl rfl rfl fun a h=>s_assign h rfl rfl fun a h=>wpList_nil <| x_then_n (hKJ_5 _ _ ?_)
        refine wp_ret ?_
        obtain rfl := Option.some.inj H
        exact f_ret h (rs := [.tmp 4]) rfl (.tmp rfl .nil) ⟨_, rfl, Mem.no, rfl, (Sep.sel hS [0] (by decide))⟩
      ·rw [if_neg hc_11] at H
       refine s_off h rfl rfl rfl (beq_eq_false_iff_ne.2 hc_11) fun a h=>s_off h rfl rfl rfl (beq_eq_false_iff_ne.2 hc_11) fun a h=>s_off h rfl rfl rfl (beq_eq_false_iff_ne.2 hc_11) fun a h=>s_off h rfl rfl rfl (beq_eq_false_iff_ne.2 hc_11) fun a h=>s_off h rfl rfl rfl (beq_eq_false_iff_ne.2 hc_11) fun a h=>s_pick_f h rfl rfl (beq_eq_false_iff_ne.2 hc_11) rfl fun a h=>s_move h rfl rfl fun a h=>s_off h rfl rfl rfl rfl fun a h=>s_off h rfl rfl rfl rfl fun a h=>s_off h rfl rfl rfl rfl fun a h=>s_off h rfl rfl rfl rfl fun a h=>s_off h rfl rfl rfl rfl fun a h=>?_
       refine s_pick_f h rfl rfl rfl rfl fun a h=>s_move h rfl rfl fun a h=>s_off h rfl rfl rfl rfl fun a h=>s_off h rfl rfl rfl rfl fun a h=>s_off h rfl rfl rfl rfl fun a h=>s_off h rfl rfl rfl rfl fun a h=>s_off h rfl rfl rfl rfl fun a h=>s_pick_f h rfl rfl rfl rfl fun a h=>s_move h rfl rfl fun a h=>s_off h rfl rfl rfl rfl fun a h=>s_off h rfl rfl rfl rfl fun a h=>s_off h rfl rfl rfl rfl fun a h=>?_
       refine s_off h rfl rfl rfl rfl fun a h=>s_off h rfl rfl rfl rfl fun a h=>s_pick_f h rfl rfl rfl rfl fun a h=>s_move h rfl rfl fun a h=>s_off h rfl rfl rfl rfl fun a h=>s_off h rfl rfl rfl rfl fun a h=>s_off h rfl rfl rfl rfl fun a h=>s_off h rfl rfl rfl rfl fun a h=>s_off h rfl rfl rfl rfl fun a h=>s_pick_f h rfl rfl rfl rfl fun a h=>s_move h rfl rfl fun a h=>s_off h rfl rfl rfl rfl fun a h=>?_
       refine s_off h rfl rfl rfl rfl fun a h=>s_off h rfl rfl rfl rfl fun a h=>s_off h rfl rfl rfl rfl fun a h=>s_off h rfl rfl rfl rfl fun a h=>s_off h rfl rfl rfl rfl fun a h=>s_off h rfl rfl rfl rfl fun a h=>s_pick_f h rfl rfl rfl rfl fun a h=>s_move h rfl rfl fun a h=>s_off h rfl rfl rfl rfl fun a h=>s_off h rfl rfl rfl rfl fun a h=>s_off h rfl rfl rfl rfl fun a h=>s_off h rfl rfl rfl rfl fun a h=>?_
       refine s_off h rfl rfl rfl rfl fun a h=>s_pick_f h rfl rfl rfl rfl fun a h=>s_move h rfl rfl fun a h=>s_off h rfl rfl rfl rfl fun a h=>s_off h rfl rfl rfl rfl fun a h=>s_off h rfl rfl rfl rfl fun a h=>s_off h rfl rfl rfl rfl fun a h=>s_off h rfl rfl rfl rfl fun a h=>s_pick_f h rfl rfl rfl rfl fun a h=>s_move h rfl rfl fun a h=>s_off h rfl rfl rfl rfl fun a h=>s_off h rfl rfl rfl rfl fun a h=>?_
       refine s_off h rfl rfl rfl rfl fun a h=>s_off h rfl rfl rfl rfl fun a h=>s_off h rfl rfl rfl rfl fun a h=>s_pick_f h rfl rfl rfl rfl fun a h=>s_move h rfl rfl fun a h=>s_off h rfl rfl rfl rfl fun a h=>s_off h rfl rfl rfl rfl fun a h=>s_off h rfl rfl rfl rfl fun a h=>s_off h rfl rfl rfl rfl fun a h=>s_off h rfl rfl rfl rfl fun a h=>s_pick_f h rfl rfl rfl rfl fun a h=>s_move h rfl rfl fun a h=>?_
       refine s_off h rfl rfl rfl rfl fun a h=>s_off h rfl rfl rfl rfl fun a h=>s_off h rfl rfl rfl rfl fun a h=>s_off h rfl rfl rfl rfl fun a h=>s_off h rfl rfl rfl rfl fun a h=>s_pick_f h rfl rfl rfl rfl fun a h=>s_move h rfl rfl fun a h=>s_off h rfl rfl rfl rfl fun a h=>s_off h rfl rfl rfl rfl fun a h=>s_off h rfl rfl rfl rfl fun a h=>s_off h rfl rfl rfl rfl fun a h=>s_off h rfl rfl rfl rfl fun a h=>?_
       refine s_pick_f h rfl rfl rfl rfl fun a h=>s_assign h rfl rfl fun a h=>wpList_nil <| x_then_n (hKJ_5 _ _ ?_)
       refine wp_ret ?_
       obtain rfl := Option.some.inj H
       exact f_ret h (rs := [.tmp 4]) rfl (.tmp rfl .nil) ⟨_, rfl, Mem.no, rfl, (Sep.sel hS [0] (by decide))⟩
     ·rw [if_neg hc_10] at H
      refine s_off h rfl rfl rfl (beq_eq_false_iff_ne.2 hc_10) fun a h=>s_off h rfl rfl rfl (beq_eq_false_iff_ne.2 hc_10) fun a h=>s_off h rfl rfl rfl (beq_eq_false_iff_ne.2 hc_10) fun a h=>s_off h rfl rfl rfl (beq_eq_false_iff_ne.2 hc_10) fun a h=>s_off h rfl rfl rfl (beq_eq_false_iff_ne.2 hc_10) fun a h=>s_pick_f h rfl rfl (beq_eq_false_iff_ne.2 hc_10) rfl fun a h=>s_move h rfl rfl fun a h=>s_off h rfl rfl rfl rfl fun a h=>s_off h rfl rfl rfl rfl fun a h=>s_off h rfl rfl rfl rfl fun a h=>s_off h rfl rfl rfl rfl fun a h=>s_off h rfl rfl rfl rfl fun a h=>?_
      refine s_pick_f h rfl rfl rfl rfl fun a h=>s_move h rfl rfl fun a h=>s_off h rfl rfl rfl rfl fun a h=>s_off h rfl rfl rfl rfl fun a h=>s_off h rfl rfl rfl rfl fun a h=>s_off h rfl rfl rfl rfl fun a h=>s_off h rfl rfl rfl rfl fun a h=>s_pick_f h rfl rfl rfl rfl fun a h=>s_move h rfl rfl fun a h=>s_off h rfl rfl rfl rfl fun a h=>s_off h rfl rfl rfl rfl fun a h=>s_off h rfl rfl rfl rfl fun a h=>?_
      refine s_off h rfl rfl rfl rfl fun a h=>s_off h rfl rfl rfl rfl fun a h=>s_pick_f h rfl rfl rfl rfl fun a h=>s_move h rfl rfl fun a h=>s_off h rfl rfl rfl rfl fun a h=>s_off h rfl rfl rfl rfl fun a h=>s_off h rfl rfl rfl rfl fun a h=>s_off h rfl rfl rfl rfl fun a h=>s_off h rfl rfl rfl rfl fun a h=>s_pick_f h rfl rfl rfl rfl fun a h=>s_move h rfl rfl fun a h=>s_off h rfl rfl rfl rfl fun a h=>?_
      refine s_off h rfl rfl rfl rfl fun a h=>s_off h rfl rfl rfl rfl fun a h=>s_off h rfl rfl rfl rfl fun a h=>s_off h rfl rfl rfl rfl fun a h=>s_pick_f h rfl rfl rfl rfl fun a h=>s_move h rfl rfl fun a h=>s_off h rfl rfl rfl rfl fun a h=>s_off h rfl rfl rfl rfl fun a h=>s_off h rfl rfl rfl rfl fun a h=>s_off h rfl rfl rfl rfl fun a h=>s_off h rfl rfl rfl rfl fun a h=>s_off h rfl rfl rfl rfl fun a h=>?_
      refine s_off h rfl rfl rfl rfl fun a h=>s_pick_f h rfl rfl rfl rfl fun a h=>s_move h rfl rfl fun a h=>s_off h rfl rfl rfl rfl fun a h=>s_off h rfl rfl rfl rfl fun a h=>s_off h rfl rfl rfl rfl fun a h=>s_off h rfl rfl rfl rfl fun a h=>s_off h rfl rfl rfl rfl fun a h=>s_pick_f h rfl rfl rfl rfl fun a h=>s_move h rfl rfl fun a h=>s_off h rfl rfl rfl rfl fun a h=>s_off h rfl rfl rfl rfl fun a h=>?_
      refine s_off h rfl rfl rfl rfl fun a h=>s_off h rfl rfl rfl rfl fun a h=>s_off h rfl rfl rfl rfl fun a h=>s_pick_f h rfl rfl rfl rfl fun a h=>s_move h rfl rfl fun a h=>s_off h rfl rfl rfl rfl fun a h=>s_off h rfl rfl rfl rfl fun a h=>s_off h rfl rfl rfl rfl fun a h=>s_off h rfl rfl rfl rfl fun a h=>s_off h rfl rfl rfl rfl fun a h=>s_pick_f h rfl rfl rfl rfl fun a h=>s_move h rfl rfl fun a h=>?_
      refine s_off h rfl rfl rfl rfl fun a h=>s_off h rfl rfl rfl rfl fun a h=>s_off h rfl rfl rfl rfl fun a h=>s_off h rfl rfl rfl rfl fun a h=>s_off h rfl rfl rfl rfl fun a h=>s_pick_f h rfl rfl rfl rfl fun a h=>s_move h rfl rfl fun a h=>s_off h rfl rfl rfl rfl fun a h=>s_off h rfl rfl rfl rfl fun a h=>s_off h rfl rfl rfl rfl fun a h=>s_off h rfl rfl rfl rfl fun a h=>s_off h rfl rfl rfl rfl fun a h=>?_
      refine s_pick_f h rfl rfl rfl rfl fun a h=>s_move h rfl rfl fun a h=>s_off h rfl rfl rfl rfl fun a h=>s_off h rfl rfl rfl rfl fun a h=>s_off h rfl rfl rfl rfl fun a h=>s_off h rfl rfl rfl rfl fun a h=>s_off h rfl rfl rfl rfl fun a h=>s_pick_f h rfl rfl rfl rfl fun a h=>s_assign h rfl rfl fun a h=>wpList_nil <| x_then_n (hKJ_5 _ _ ?_)
      refine wp_ret ?_
      obtain rfl := Option.some.inj H
      exact f_ret h (rs := [.tmp 4]) rfl (.tmp rfl .nil) ⟨_, rfl, Mem.no, rfl, (Sep.sel hS [0] (by decide))⟩
    ·rw [if_neg hc_9] at H
     refine s_off h rfl rfl rfl (beq_eq_false_iff_ne.2 hc_9) fun a h=>s_off h rfl rfl rfl (beq_eq_false_iff_ne.2 hc_9) fun a h=>s_off h rfl rfl rfl (beq_eq_false_iff_ne.2 hc_9) fun a h=>s_off h rfl rfl rfl (beq_eq_false_iff_ne.2 hc_9) fun a h=>s_off h rfl rfl rfl (beq_eq_false_iff_ne.2 hc_9) fun a h=>s_pick_f h rfl rfl (beq_eq_false_iff_ne.2 hc_9) rfl fun a h=>s_move h rfl rfl fun a h=>s_off h rfl rfl rfl rfl fun a h=>s_off h rfl rfl rfl rfl fun a h=>s_off h rfl rfl rfl rfl fun a h=>s_off h rfl rfl rfl rfl fun a h=>s_off h rfl rfl rfl rfl fun a h=>?_
     refine s_pick_f h rfl rfl rfl rfl fun a h=>s_move h rfl rfl fun a h=>s_off h rfl rfl rfl rfl fun a h=>s_off h rfl rfl rfl rfl fun a h=>s_off h rfl rfl rfl rfl fun a h=>s_off h rfl rfl rfl rfl fun a h=>s_off h rfl rfl rfl rfl fun a h=>s_pick_f h rfl rfl rfl rfl fun a h=>s_move h rfl rfl fun a h=>s_off h rfl rfl rfl rfl fun a h=>s_off h rfl rfl rfl rfl fun a h=>s_off h rfl rfl rfl rfl fun a h=>?_
     refine s_off h rfl rfl rfl rfl fun a h=>s_off h rfl rfl rfl rfl fun a h=>s_pick_f h rfl rfl rfl rfl fun a h=>s_move h rfl rfl fun a h=>s_off h rfl rfl rfl rfl fun a h=>s_off h rfl rfl rfl rfl fun a h=>s_off h rfl rfl rfl rfl fun a h=>s_off h rfl rfl rfl rfl fun a h=>s_off h rfl rfl rfl rfl fun a h=>s_pick_f h rfl rfl rfl rfl fun a h=>s_move h rfl rfl fun a h=>s_off h rfl rfl rfl rfl fun a h=>?_
     refine s_off h rfl rfl rfl rfl fun a h=>s_off h rfl rfl rfl rfl fun a h=>s_off h rfl rfl rfl rfl fun a h=>s_off h rfl rfl rfl rfl fun a h=>s_pick_f h rfl rfl rfl rfl fun a h=>s_move h rfl rfl fun a h=>s_off h rfl rfl rfl rfl fun a h=>s_off h rfl rfl rfl rfl fun a h=>s_off h rfl rfl rfl rfl fun a h=>s_off h rfl rfl rfl rfl fun a h=>s_off h rfl rfl rfl rfl fun a h=>s_pick_f h rfl rfl rfl rfl fun a h=>?_
     refine s_move h rfl rfl fun a h=>s_off h rfl rfl rfl rfl fun a h=>s_off h rfl rfl rfl rfl fun a h=>s_off h rfl rfl rfl rfl fun a h=>s_off h rfl rfl rfl rfl fun a h=>s_off h rfl rfl rfl rfl fun a h=>s_off h rfl rfl rfl rfl fun a h=>s_off h rfl rfl rfl rfl fun a h=>s_pick_f h rfl rfl rfl rfl fun a h=>s_move h rfl rfl fun a h=>s_off h rfl rfl rfl rfl fun a h=>s_off h rfl rfl rfl rfl fun a h=>?_
     refine s_off h rfl rfl rfl rfl fun a h=>s_off h rfl rfl rfl rfl fun a h=>s_off h rfl rfl rfl rfl fun a h=>s_pick_f h rfl rfl rfl rfl fun a h=>s_move h rfl rfl fun a h=>s_off h rfl rfl rfl rfl fun a h=>s_off h rfl rfl rfl rfl fun a h=>s_off h rfl rfl rfl rfl fun a h=>s_off h rfl rfl rfl rfl fun a h=>s_off h rfl rfl rfl rfl fun a h=>s_pick_f h rfl rfl rfl rfl fun a h=>s_move h rfl rfl fun a h=>?_
     refine s_off h rfl rfl rfl rfl fun a h=>s_off h rfl rfl rfl rfl fun a h=>s_off h rfl rfl rfl rfl fun a h=>s_off h rfl rfl rfl rfl fun a h=>s_off h rfl rfl rfl rfl fun a h=>s_pick_f h rfl rfl rfl rfl fun a h=>s_move h rfl rfl fun a h=>s_off h rfl rfl rfl rfl fun a h=>s_off h rfl rfl rfl rfl fun a h=>s_off h rfl rfl rfl rfl fun a h=>s_off h rfl rfl rfl rfl fun a h=>s_off h rfl rfl rfl rfl fun a h=>?_
     refine s_pick_f h rfl rfl rfl rfl fun a h=>s_move h rfl rfl fun a h=>s_off h rfl rfl rfl rfl fun a h=>s_off h rfl rfl rfl rfl fun a h=>s_off h rfl rfl rfl rfl fun a h=>s_off h rfl rfl rfl rfl fun a h=>s_off h rfl rfl rfl rfl fun a h=>s_pick_f h rfl rfl rfl rfl fun a h=>s_move h rfl rfl fun a h=>s_off h rfl rfl rfl rfl fun a h=>s_off h rfl rfl rfl rfl fun a h=>s_off h rfl rfl rfl rfl fun a h=>?_
     refine s_off h rfl rfl rfl rfl fun a h=>s_off h rfl rfl rfl rfl fun a h=>s_pick_f h rfl rfl rfl rfl fun a h=>s_assign h rfl rfl fun a h=>wpList_nil <| x_then_n (hKJ_5 _ _ ?_)
     refine wp_ret ?_
     obtain rfl := Option.some.inj H
     exact f_ret h (rs := [.tmp 4]) rfl (.tmp rfl .nil) ⟨_, rfl, Mem.no, rfl, (Sep.sel hS [0] (by decide))⟩
   ·rw [if_neg hc_8] at H
    refine s_off h rfl rfl rfl (beq_eq_false_iff_ne.2 hc_8) fun a h=>s_off h rfl rfl rfl (beq_eq_false_iff_ne.2 hc_8) fun a h=>s_off h rfl rfl rfl (beq_eq_false_iff_ne.2 hc_8) fun a h=>s_off h rfl rfl rfl (beq_eq_false_iff_ne.2 hc_8) fun a h=>s_off h rfl rfl rfl (beq_eq_false_iff_ne.2 hc_8) fun a h=>s_pick_f h rfl rfl (beq_eq_false_iff_ne.2 hc_8) rfl fun a h=>s_move h rfl rfl fun a h=>s_off h rfl rfl rfl rfl fun a h=>s_off h rfl rfl rfl rfl fun a h=>s_off h rfl rfl rfl rfl fun a h=>s_off h rfl rfl rfl rfl fun a h=>s_off h rfl rfl rfl rfl fun a h=>?_
    refine s_pick_f h rfl rfl rfl rfl fun a h=>s_move h rfl rfl fun a h=>s_off h rfl rfl rfl rfl fun a h=>s_off h rfl rfl rfl rfl fun a h=>s_off h rfl rfl rfl rfl fun a h=>s_off h rfl rfl rfl rfl fun a h=>s_off h rfl rfl rfl rfl fun a h=>s_pick_f h rfl rfl rfl rfl fun a h=>s_move h rfl rfl fun a h=>s_off h rfl rfl rfl rfl fun a h=>s_off h rfl rfl rfl rfl fun a h=>s_off h rfl rfl rfl rfl fun a h=>?_
    refine s_off h rfl rfl rfl rfl fun a h=>s_off h rfl rfl rfl rfl fun a h=>s_pick_f h rfl rfl rfl rfl fun a h=>s_move h rfl rfl fun a h=>s_off h rfl rfl rfl rfl fun a h=>s_off h rfl rfl rfl rfl fun a h=>s_off h rfl rfl rfl rfl fun a h=>s_off h rfl rfl rfl rfl fun a h=>s_off h rfl rfl rfl rfl fun a h=>s_pick_f h rfl rfl rfl rfl fun a h=>s_move h rfl rfl fun a h=>s_off h rfl rfl rfl rfl fun a h=>?_
    refine s_off h rfl rfl rfl rfl fun a h=>s_off h rfl rfl rfl rfl fun a h=>s_off h rfl rfl rfl rfl fun a h=>s_off h rfl rfl rfl rfl fun a h=>s_pick_f h rfl rfl rfl rfl fun a h=>s_move h rfl rfl fun a h=>s_off h rfl rfl rfl rfl fun a h=>s_off h rfl rfl rfl rfl fun a h=>s_off h rfl rfl rfl rfl fun a h=>s_off h rfl rfl rfl rfl fun a h=>s_off h rfl rfl rfl rfl fun a h=>s_pick_f h rfl rfl rfl rfl fun a h=>?_
    refine s_move h rfl rfl fun a h=>s_off h rfl rfl rfl rfl fun a h=>s_off h rfl rfl rfl rfl fun a h=>s_off h rfl rfl rfl rfl fun a h=>s_off h rfl rfl rfl rfl fun a h=>s_off h rfl rfl rfl rfl fun a h=>s_pick_f h rfl rfl rfl rfl fun a h=>s_move h rfl rfl fun a h=>s_off h rfl rfl rfl rfl fun a h=>s_off h rfl rfl rfl rfl fun a h=>s_off h rfl rfl rfl rfl fun a h=>s_off h rfl rfl rfl rfl fun a h=>?_
    refine s_off h rfl rfl rfl rfl fun a h=>s_off h rfl rfl rfl rfl fun a h=>s_off h rfl rfl rfl rfl fun a h=>s_pick_f h rfl rfl rfl rfl fun a h=>s_move h rfl rfl fun a h=>s_off h rfl rfl rfl rfl fun a h=>s_off h rfl rfl rfl rfl fun a h=>s_off h rfl rfl rfl rfl fun a h=>s_off h rfl rfl rfl rfl fun a h=>s_off h rfl rfl rfl rfl fun a h=>s_pick_f h rfl rfl rfl rfl fun a h=>s_move h rfl rfl fun a h=>?_
    refine s_off h rfl rfl rfl rfl fun a h=>s_off h rfl rfl rfl rfl fun a h=>s_off h rfl rfl rfl rfl fun a h=>s_off h rfl rfl rfl rfl fun a h=>s_off h rfl rfl rfl rfl fun a h=>s_pick_f h rfl rfl rfl rfl fun a h=>s_move h rfl rfl fun a h=>s_off h rfl rfl rfl rfl fun a h=>s_off h rfl rfl rfl rfl fun a h=>s_off h rfl rfl rfl rfl fun a h=>s_off h rfl rfl rfl rfl fun a h=>s_off h rfl rfl rfl rfl fun a h=>?_
    refine s_pick_f h rfl rfl rfl rfl fun a h=>s_move h rfl rfl fun a h=>s_off h rfl rfl rfl rfl fun a h=>s_off h rfl rfl rfl rfl fun a h=>s_off h rfl rfl rfl rfl fun a h=>s_off h rfl rfl rfl rfl fun a h=>s_off h rfl rfl rfl rfl fun a h=>s_pick_f h rfl rfl rfl rfl fun a h=>s_move h rfl rfl fun a h=>s_off h rfl rfl rfl rfl fun a h=>s_off h rfl rfl rfl rfl fun a h=>s_off h rfl rfl rfl rfl fun a h=>?_
    refine s_off h rfl rfl rfl rfl fun a h=>s_off h rfl rfl rfl rfl fun a h=>s_pick_f h rfl rfl rfl rfl fun a h=>s_move h rfl rfl fun a h=>s_off h rfl rfl rfl rfl fun a h=>s_off h rfl rfl rfl rfl fun a h=>s_off h rfl rfl rfl rfl fun a h=>s_off h rfl rfl rfl rfl fun a h=>s_off h rfl rfl rfl rfl fun a h=>s_pick_f h rfl rfl rfl rfl fun a h=>s_assign h rfl rfl fun a h=>wpList_nil <| x_then_n (hKJ_5 _ _ ?_)
    refine wp_ret ?_
    obtain rfl := Option.some.inj H
    exact f_ret h (rs := [.tmp 4]) rfl (.tmp rfl .nil) ⟨_, rfl, Mem.no, rfl, (Sep.sel hS [0] (by decide))⟩
  ·rw [if_neg hc_7] at H
   refine s_off h rfl rfl rfl (beq_eq_false_iff_ne.2 hc_7) fun a h=>s_off h rfl rfl rfl (beq_eq_false_iff_ne.2 hc_7) fun a h=>s_off h rfl rfl rfl (beq_eq_false_iff_ne.2 hc_7) fun a h=>s_off h rfl rfl rfl (beq_eq_false_iff_ne.2 hc_7) fun a h=>s_off h rfl rfl rfl (beq_eq_false_iff_ne.2 hc_7) fun a h=>s_pick_f h rfl rfl (beq_eq_false_iff_ne.2 hc_7) rfl fun a h=>s_move h rfl rfl fun a h=>s_off h rfl rfl rfl rfl fun a h=>s_off h rfl rfl rfl rfl fun a h=>s_off h rfl rfl rfl rfl fun a h=>s_off h rfl rfl rfl rfl fun a h=>s_off h rfl rfl rfl rfl fun a h=>?_
   refine s_pick_f h rfl rfl rfl rfl fun a h=>s_move h rfl rfl fun a h=>s_off h rfl rfl rfl rfl fun a h=>s_off h rfl rfl rfl rfl fun a h=>s_off h rfl rfl rfl rfl fun a h=>s_off h rfl rfl rfl rfl fun a h=>s_off h rfl rfl rfl rfl fun a h=>s_pick_f h rfl rfl rfl rfl fun a h=>s_move h rfl rfl fun a h=>s_off h rfl rfl rfl rfl fun a h=>s_off h rfl rfl rfl rfl fun a h=>s_off h rfl rfl rfl rfl fun a h=>?_
   refine s_off h rfl rfl rfl rfl fun a h=>s_off h rfl rfl rfl rfl fun a h=>s_pick_f h rfl rfl rfl rfl fun a h=>s_move h rfl rfl fun a h=>s_off h rfl rfl rfl rfl fun a h=>s_off h rfl rfl rfl rfl fun a h=>s_off h rfl rfl rfl rfl fun a h=>s_off h rfl rfl rfl rfl fun a h=>s_off h rfl rfl rfl rfl fun a h=>s_pick_f h rfl rfl rfl rfl fun a h=>s_move h rfl rfl fun a h=>s_off h rfl rfl rfl rfl fun a h=>?_
   refine s_off h rfl rfl rfl rfl fun a h=>s_off h rfl rfl rfl rfl fun a h=>s_off h rfl rfl rfl rfl fun a h=>s_off h rfl rfl rfl rfl fun a h=>s_pick_f h rfl rfl rfl rfl fun a h=>s_move h rfl rfl fun a h=>s_off h rfl rfl rfl rfl fun a h=>s_off h rfl rfl rfl rfl fun a h=>s_off h rfl rfl rfl rfl fun a h=>s_off h rfl rfl rfl rfl fun a h=>s_off h rfl rfl rfl rfl fun a h=>s_pick_f h rfl rfl rfl rfl fun a h=>?_
   refine s_move h rfl rfl fun a h=>s_off h rfl rfl rfl rfl fun a h=>s_off h rfl rfl rfl rfl fun a h=>s_off h rfl rfl rfl rfl fun a h=>s_off h rfl rfl rfl rfl fun a h=>s_off h rfl rfl rfl rfl fun a h=>s_pick_f h rfl rfl rfl rfl fun a h=>s_move h rfl rfl fun a h=>s_off h rfl rfl rfl rfl fun a h=>s_off h rfl rfl rfl rfl fun a h=>s_off h rfl rfl rfl rfl fun a h=>s_off h rfl rfl rfl rfl fun a h=>?_
   refine s_off h rfl rfl rfl rfl fun a h=>s_pick_f h rfl rfl rfl rfl fun a h=>s_move h rfl rfl fun a h=>s_off h rfl rfl rfl rfl fun a h=>s_off h rfl rfl rfl rfl fun a h=>s_off h rfl rfl rfl rfl fun a h=>s_off h rfl rfl rfl rfl fun a h=>s_off h rfl rfl rfl rfl fun a h=>s_off h rfl rfl rfl rfl fun a h=>s_off h rfl rfl rfl rfl fun a h=>s_pick_f h rfl rfl rfl rfl fun a h=>s_move h rfl rfl fun a h=>?_
   refine s_off h rfl rfl rfl rfl fun a h=>s_off h rfl rfl rfl rfl fun a h=>s_off h rfl rfl rfl rfl fun a h=>s_off h rfl rfl rfl rfl fun a h=>s_off h rfl rfl rfl rfl fun a h=>s_pick_f h rfl rfl rfl rfl fun a h=>s_move h rfl rfl fun a h=>s_off h rfl rfl rfl rfl fun a h=>s_off h rfl rfl rfl rfl fun a h=>s_off h rfl rfl rfl rfl fun a h=>s_off h rfl rfl rfl rfl fun a h=>s_off h rfl rfl rfl rfl fun a h=>?_
   refine s_pick_f h rfl rfl rfl rfl fun a h=>s_move h rfl rfl fun a h=>s_off h rfl rfl rfl rfl fun a h=>s_off h rfl rfl rfl rfl fun a h=>s_off h rfl rfl rfl rfl fun a h=>s_off h rfl rfl rfl rfl fun a h=>s_off h rfl rfl rfl rfl fun a h=>s_pick_f h rfl rfl rfl rfl fun a h=>s_move h rfl rfl fun a h=>s_off h rfl rfl rfl rfl fun a h=>s_off h rfl rfl rfl rfl fun a h=>s_off h rfl rfl rfl rfl fun a h=>?_
   refine s_off h rfl rfl rfl rfl fun a h=>s_off h rfl rfl rfl rfl fun a h=>s_pick_f h rfl rfl rfl rfl fun a h=>s_move h rfl rfl fun a h=>s_off h rfl rfl rfl rfl fun a h=>s_off h rfl rfl rfl rfl fun a h=>s_off h rfl rfl rfl rfl fun a h=>s_off h rfl rfl rfl rfl fun a h=>s_off h rfl rfl rfl rfl fun a h=>s_pick_f h rfl rfl rfl rfl fun a h=>s_move h rfl rfl fun a h=>s_off h rfl rfl rfl rfl fun a h=>?_
   refine s_off h rfl rfl rfl rfl fun a h=>s_off h rfl rfl rfl rfl fun a h=>s_off h rfl rfl rfl rfl fun a h=>s_off h rfl rfl rfl rfl fun a h=>s_pick_f h rfl rfl rfl rfl fun a h=>s_assign h rfl rfl fun a h=>wpList_nil <| x_then_n (hKJ_5 _ _ ?_)
   refine wp_ret ?_
   obtain rfl := Option.some.inj H
   exact f_ret h (rs := [.tmp 4]) rfl (.tmp rfl .nil) ⟨_, rfl, Mem.no, rfl, (Sep.sel hS [0] (by decide))⟩
 ·rw [if_neg hc_6] at H
  refine s_off h rfl rfl rfl (beq_eq_false_iff_ne.2 hc_6) fun a h=>s_off h rfl rfl rfl (beq_eq_false_iff_ne.2 hc_6) fun a h=>s_off h rfl rfl rfl (beq_eq_false_iff_ne.2 hc_6) fun a h=>s_off h rfl rfl rfl (beq_eq_false_iff_ne.2 hc_6) fun a h=>s_off h rfl rfl rfl (beq_eq_false_iff_ne.2 hc_6) fun a h=>s_pick_f h rfl rfl (beq_eq_false_iff_ne.2 hc_6) rfl fun a h=>s_move h rfl rfl fun a h=>s_off h rfl rfl rfl rfl fun a h=>s_off h rfl rfl rfl rfl fun a h=>s_off h rfl rfl rfl rfl fun a h=>s_off h rfl rfl rfl rfl fun a h=>s_off h rfl rfl rfl rfl fun a h=>?_
  refine s_pick_f h rfl rfl rfl rfl fun a h=>s_move h rfl rfl fun a h=>s_off h rfl rfl rfl rfl fun a h=>s_off h rfl rfl rfl rfl fun a h=>s_off h rfl rfl rfl rfl fun a h=>s_off h rfl rfl rfl rfl fun a h=>s_off h rfl rfl rfl rfl fun a h=>s_pick_f h rfl rfl rfl rfl fun a h=>s_move h rfl rfl fun a h=>s_off h rfl rfl rfl rfl fun a h=>s_off h rfl rfl rfl rfl fun a h=>s_off h rfl rfl rfl rfl fun a h=>?_
  refine s_off h rfl rfl rfl rfl fun a h=>s_off h rfl rfl rfl rfl fun a h=>s_pick_f h rfl rfl rfl rfl fun a h=>s_move h rfl rfl fun a h=>s_off h rfl rfl rfl rfl fun a h=>s_off h rfl rfl rfl rfl fun a h=>s_off h rfl rfl rfl rfl fun a h=>s_off h rfl rfl rfl rfl fun a h=>s_off h rfl rfl rfl rfl fun a h=>s_pick_f h rfl rfl rfl rfl fun a h=>s_move h rfl rfl fun a h=>s_off h rfl rfl rfl rfl fun a h=>?_
  refine s_off h rfl rfl rfl rfl fun a h=>s_off h rfl rfl rfl rfl fun a h=>s_off h rfl rfl rfl rfl fun a h=>s_off h rfl rfl rfl rfl fun a h=>s_pick_f h rfl rfl rfl rfl fun a h=>s_move h rfl rfl fun a h=>s_off h rfl rfl rfl rfl fun a h=>s_off h rfl rfl rfl rfl fun a h=>s_off h rfl rfl rfl rfl fun a h=>s_off h rfl rfl rfl rfl fun a h=>s_off h rfl rfl rfl rfl fun a h=>s_pick_f h rfl rfl rfl rfl fun a h=>?_
  refine s_move h rfl rfl fun a h=>s_off h rfl rfl rfl rfl fun a h=>s_off h rfl rfl rfl rfl fun a h=>s_off h rfl rfl rfl rfl fun a h=>s_off h rfl rfl rfl rfl fun a h=>s_off h rfl rfl rfl rfl fun a h=>s_pick_f h rfl rfl rfl rfl fun a h=>s_move h rfl rfl fun a h=>s_off h rfl rfl rfl rfl fun a h=>s_off h rfl rfl rfl rfl fun a h=>s_off h rfl rfl rfl rfl fun a h=>s_off h rfl rfl rfl rfl fun a h=>?_
  refine s_off h rfl rfl rfl rfl fun a h=>s_pick_f h rfl rfl rfl rfl fun a h=>s_move h rfl rfl fun a h=>s_off h rfl rfl rfl rfl fun a h=>s_off h rfl rfl rfl rfl fun a h=>s_off h rfl rfl rfl rfl fun a h=>s_off h rfl rfl rfl rfl fun a h=>s_off h rfl rfl rfl rfl fun a h=>s_pick_f h rfl rfl rfl rfl fun a h=>s_move h rfl rfl fun a h=>s_off h rfl rfl rfl rfl fun a h=>s_off h rfl rfl rfl rfl fun a h=>?_
  refine s_off h rfl rfl rfl rfl fun a h=>s_off h rfl rfl rfl rfl fun a h=>s_off h rfl rfl rfl rfl fun a h=>s_off h rfl rfl rfl rfl fun a h=>s_off h rfl rfl rfl rfl fun a h=>s_pick_f h rfl rfl rfl rfl fun a h=>s_move h rfl rfl fun a h=>s_off h rfl rfl rfl rfl fun a h=>s_off h rfl rfl rfl rfl fun a h=>s_off h rfl rfl rfl rfl fun a h=>s_off h rfl rfl rfl rfl fun a h=>s_off h rfl rfl rfl rfl fun a h=>?_
  refine s_pick_f h rfl rfl rfl rfl fun a h=>s_move h rfl rfl fun a h=>s_off h rfl rfl rfl rfl fun a h=>s_off h rfl rfl rfl rfl fun a h=>s_off h rfl rfl rfl rfl fun a h=>s_off h rfl rfl rfl rfl fun a h=>s_off h rfl rfl rfl rfl fun a h=>s_pick_f h rfl rfl rfl rfl fun a h=>s_move h rfl rfl fun a h=>s_off h rfl rfl rfl rfl fun a h=>s_off h rfl rfl rfl rfl fun a h=>s_off h rfl rfl rfl rfl fun a h=>?_
  refine s_off h rfl rfl rfl rfl fun a h=>s_off h rfl rfl rfl rfl fun a h=>s_pick_f h rfl rfl rfl rfl fun a h=>s_move h rfl rfl fun a h=>s_off h rfl rfl rfl rfl fun a h=>s_off h rfl rfl rfl rfl fun a h=>s_off h rfl rfl rfl rfl fun a h=>s_off h rfl rfl rfl rfl fun a h=>s_off h rfl rfl rfl rfl fun a h=>s_pick_f h rfl rfl rfl rfl fun a h=>s_move h rfl rfl fun a h=>s_off h rfl rfl rfl rfl fun a h=>?_
  refine s_off h rfl rfl rfl rfl fun a h=>s_off h rfl rfl rfl rfl fun a h=>s_off h rfl rfl rfl rfl fun a h=>s_off h rfl rfl rfl rfl fun a h=>s_pick_f h rfl rfl rfl rfl fun a h=>s_move h rfl rfl fun a h=>s_off h rfl rfl rfl rfl fun a h=>s_off h rfl rfl rfl rfl fun a h=>s_off h rfl rfl rfl rfl fun a h=>s_off h rfl rfl rfl rfl fun a h=>s_off h rfl rfl rfl rfl fun a h=>s_pick_f h rfl rfl rfl rfl fun a h=>?_
  refine s_assign h rfl rfl fun a h=>wpList_nil <| x_then_n (hKJ_5 _ _ ?_)
  refine wp_ret ?_
  obtain rfl := Option.some.inj H
  exact f_ret h (rs := [.tmp 4]) rfl (.tmp rfl .nil) ⟨_, rfl, Mem.no, rfl, (Sep.sel hS [0] (by decide))⟩

set_option maxHeartbeats 4000000 in
set_option maxRecDepth 20000 in
theorem view_Members.calls (K : Nat) (x0 : Int) (r : (List Int)) (w0 w : World) (Z A : Mem) (hA : A.le Z) (hS : Sep w0 w [] Z)
    (H : view_Members.f K x0 = some r) :
    Calls Try.prog 38 [iV x0].toArray w (Ret fun v w' => ∃ (u0 : Value) (N : Mem) (M0 : Mem), v = u0 ∧ Sep w0 w' [N, M0] Z ∧ Own (Kd.int .i64) 3 M0 Mem.no u0 r) := by
 unfold view_Members.f at H
 refine f_enter _ Try.func38 rfl Try.ntmps38 rfl fun a h=>?_
 replace h : Fr 19 a [(0, iV x0)] := h
 replace hS := hS.start
 replace hS : Sep w0 w [_] Z := hS
 refine wp_seq <| wp_region_lit <| s_assign h rfl rfl fun a h=>wpList_nil <| x_then_n <| wp_seq <| wp_region_lit <| s_assign h rfl rfl fun a h=>wpList_nil <| x_then_n <| c_seq fun KJ_1 hKJ_1 => wp_seq <| wp_region_lit ?_
 refine s_move h rfl rfl fun a h=>wpList_nil <| x_then_n ?_
 have hJ_j_9 : ∀ (x_3 : List Int), view_Members.J1 K x_3 = some r → ∀ (a : Act) (w_8 : World), (∃ (v_6 : Value) (N_2 : Mem) (M_4 : Mem), Fr 19 a [(2, nS), (3, v_6)] ∧ Sep w0 w_8 [N_2, M_4] Z ∧ Mem.no.le N_2 ∧ Own (Kd.int .i64) 3 M_4 Mem.no v_6 x_3) → KJ_1 a w_8 := by
  clear H h hS a
  rintro x_3 H a w_8 ⟨v_6, N_2, M_4, h, hS, le_2, ho_7⟩
  unfold view_Members.J1 at H
  refine hKJ_1 _ _ <| wp_seq <| wp_region_lit <| s_move h rfl rfl fun a h=>s_assign h rfl rfl fun a h=>wpList_nil ?_
  replace h : Fr 19 a [(2, v_6)] := h.keep [2]
  refine x_then_n <| wp_ret ?_
  obtain rfl := Option.some.inj H
  exact f_ret h (rs := [.tmp 2]) rfl (.tmp rfl .nil) ⟨_, rfl, v_6, N_2, M_4, rfl, (Sep.sel hS [0, 1] (by decide)), ho_7⟩
 clear hKJ_1
 have hS' := hS.room
 replace hS : Sep w0 w [_, Mem.no] Z := hS'
 clear hS'
 replace hS : Sep w0 w [_, _] Z := hS
 replace h : Fr 19 a [(0, _), (2, nS), (3, nS), (5, iV 0)] := h.keep [0, 2, 3, 5]
 refine c_block <| c_loop (fun k_17 a w_17 => ∃ (x_11 : List Int) (x_16 : Int) (v_14 : Value) (N_10 : Mem) (M_12 : Mem), view_Members.L1 K x0 (fun v => view_Members.J1 K v) k_17 (x_11, x_16) = some r ∧ Fr 19 a [(0, iV x0), (2, nS), (3, v_14), (5, iV x_16)] ∧ Sep w0 w_17 [N_10, M_12] Z ∧ Mem.no.le N_10 ∧ Own (Kd.int .i64) 3 M_12 Mem.no v_14 x_11) K ⟨([] : List Int), 0, nS, Mem.no, Mem.no, H, h, (Sep.sel hS [0, 1] (by decide)), (Mem.le.refl _), (Own.nil (Kd.int .i64) 3 Mem.no)⟩ (fun a w h => by obtain ⟨_, _, _, _, _, H, _⟩ := h; cases (show (none : Option ((List Int))) = some r from H)) ?_
 clear h hS a H
 rintro k_17 a w_17 KL_17 hKL_17 ⟨x_11, x_16, v_14, N_10, M_12, H, h, hS, le_10, ho_15⟩
 replace H : view_Members.B1 K x0 (fun v => view_Members.J1 K v) (view_Members.L1 K x0 (fun v => view_Members.J1 K v) k_17) x_11 x_16 = some r := H
 unfold view_Members.B1 at H
 refine wp_seq <| wp_region_lit <| s_cmp (b := decide (x_16 < 7)) h rfl rfl rfl (.inr (.inr (.inl ⟨rfl, rfl⟩))) fun a h=>wpList_nil ?_
 replace h : Fr 19 a [(0, _), (2, _), (3, _), (5, _), (6, .bool (decide (x_16 < 7)))] := h.keep [0, 2, 3, 5, 6]
 refine x_then_n <| c_seq fun KJ_20 hKJ_20 => ?_
 by_cases hc_21 : x_16 < 7
 ·rw [if_pos hc_21] at H
  refine c_cond_t h rfl (decide_eq_true hc_21) <| wp_skip <| x_then_n (hKJ_20 _ _ ?_)
  refine c_seq fun KJ_22 hKJ_22 => c_block <| wp_seq <| wp_region_lit <| s_move h rfl rfl fun a h=>s_assign h rfl rfl fun a h=>wpList_nil <| x_then_n <| wp_seq <| wp_region_lit <| s_move h rfl rfl fun a h=>s_move h rfl rfl fun a h=>?_
  obtain ⟨u_23, eu_23, H⟩ := Option.bind_eq_some_iff.1 H
  refine s_shift (r := shr .i64 x0 x_16) h rfl rfl rfl (must_some eu_23) (.inr ⟨rfl, rfl⟩) fun a h=>s_bits (i := shr .i64 x0 x_16) (j := 1) (r := band .i64 (shr .i64 x0 x_16) 1) h rfl rfl rfl (.inl ⟨rfl, rfl⟩) fun a h=>s_cmp (b := ((band .i64 (shr .i64 x0 x_16) 1) == 1)) h rfl rfl rfl (.inl ⟨rfl, rfl⟩) fun a h=>wpList_nil <| x_then_n ?_
  by_cases hc_24 : (band .i64 (shr .i64 x0 x_16) 1) = 1
  ·rw [if_pos hc_24] at H
   refine c_cond_t h rfl (beq_iff_eq.2 hc_24) <| wp_region_lit <| s_move h rfl rfl fun a h=>s_move h rfl rfl fun a h=>?_
   have hq_29 : Reps (Kd.int .i64) Mem.no ([x_16] : List Int) _ := ((Reps.one (d := (Kd.int .i64)) (x := x_16) (show (Kd.int .i64).K _ _ [iV x_16] from rfl)).append (Reps.nil (Kd.int .i64) _))
   refine s_buildSlice h rfl U23 ti3 rfl rfl rfl (.cons rfl .nil) rfl rfl rfl hS hq_29 rfl fun w_25 v_26 M_27 hS' ho_28 a h => ?_
   replace hS : Sep w0 w_25 [_, _, M_27] Z := hS'
   clear hS' hq_29
   obtain ⟨t_31, et_31, H⟩ := Option.bind_eq_some_iff.1 H
   refine s_append (J := Mem.no) (I' := Mem.no) (p := 1) 17592186044416 h rfl rfl rfl U23 ti3 rfl rfl rfl rfl hS rfl ho_15 (Src.flat (flat_int .i64) (ho_28.src (hS.own 2))) (Mem.le.refl _) (Mem.le.refl _) et_31 fun w_32 v_33 M_34 hS' ho_35 a h => ?_
   replace hS : Sep w0 w_32 [_, M_34, _] Z := hS'
   clear hS'
   refine s_assign h rfl rfl fun a h=>wpList_nil <| x_block_n <| x_then_n (hKJ_22 _ _ ?_)
   refine wp_region_lit <| s_arith (r := w64 (x_16 + 1)) h rfl rfl rfl (.inl ⟨rfl, rfl⟩) fun a h=>s_move h rfl rfl fun a h=>wpList_nil ?_
   replace h : Fr 19 a [(0, _), (2, _), (3, v_33), (5, iV (w64 (x_16 + 1)))] := h.keep [0, 2, 3, 5]
   refine x_then_n (hKL_17 _ _ ?_)
   replace hS : Sep w0 w_32 [_, _, _] Z := hS
   replace h : Fr 19 a [(0, _), (2, _), (3, _), (5, _)] := h.keep [0, 2, 3, 5]
   exact ⟨t_31, w64 (x_16 + 1), v_33, N_10, M_34, H, h, (Sep.sel hS [0, 1] (by decide)), le_10, ho_35⟩
  ·rw [if_neg hc_24] at H
   refine c_cond_f h rfl (beq_eq_false_iff_ne.2 hc_24) <| wp_skip <| x_block_n <| x_then_n (hKJ_22 _ _ ?_)
   refine wp_region_lit <| s_arith (r := w64 (x_16 + 1)) h rfl rfl rfl (.inl ⟨rfl, rfl⟩) fun a h=>s_move h rfl rfl fun a h=>wpList_nil <| x_then_n (hKL_17 _ _ ?_)
   replace hS : Sep w0 w_17 [_, _] Z := hS
   replace h : Fr 19 a [(0, _), (2, _), (3, _), (5, iV (w64 (x_16 + 1)))] := h.keep [0, 2, 3, 5]
   exact ⟨x_11, w64 (x_16 + 1), v_14, N_10, M_12, H, h, (Sep.sel hS [0, 1] (by decide)), le_10, ho_15⟩
 ·rw [if_neg hc_21] at H
  refine c_cond_f h rfl (decide_eq_false hc_21) <| wp_exit (x_then_x (x_then_x (x_block_t ?_)))
  replace hS : Sep w0 w_17 [_, _] Z := hS
  replace h : Fr 19 a [(2, _), (3, _)] := h.keep [2, 3]
  exact x_then_n (hJ_j_9 x_11 H _ _ ⟨v_14, N_10, M_12, h, (Sep.sel hS [0, 1] (by decide)), le_10, ho_15⟩)

set_option maxHeartbeats 4000000 in
set_option maxRecDepth 20000 in
theorem slices_Index_sint_int.calls (K : Nat) (x0 : List Int) (p0_0 : Value) (x1 : Int) (r : Int) (w0 w : World) (Z A : Mem) (hA : A.le Z) (hS : Sep w0 w [] Z) (hp0_0 : Rd (Kd.int .i64) A p0_0 x0)
    (H : slices_Index_sint_int.f K x0 x1 = some r) :
    Calls Try.prog 36 [p0_0, iV x1].toArray w (Ret fun v w' => ∃ (N : Mem), v = iV r ∧ Sep w0 w' [N] Z) := by
 unfold slices_Index_sint_int.f at H
 refine f_enter _ Try.func36 rfl Try.ntmps36 rfl fun a h=>?_
 replace h : Fr 19 a [(0, p0_0), (1, iV x1)] := h
 replace hS := hS.start
 replace hS : Sep w0 w [_] Z := hS
 refine wp_seq <| wp_region_lit <| s_assign h rfl rfl fun a h=>wpList_nil <| x_then_n <| c_seq fun KJ_1 hKJ_1 => wp_seq <| wp_region_lit <| s_move h rfl rfl fun a h=>s_len h rfl U23 rfl hp0_0 fun a h=>s_move h rfl rfl fun a h=>wpList_nil <| x_then_n ?_
 have hJ_j_4 : slices_Index_sint_int.J1 K = some r → ∀ (a : Act) (w_3 : World), (∃ (N_2 : Mem), Fr 19 a [(4, iV 0)] ∧ Sep w0 w_3 [N_2] Z ∧ Mem.no.le N_2) → KJ_1 a w_3 := by
  clear H h hS a
  rintro H a w_3 ⟨N_2, h, hS, le_2⟩
  unfold slices_Index_sint_int.J1 at H
  refine hKJ_1 _ _ <| wp_seq <| wp_region_lit <| s_assign h rfl rfl fun a h=>wpList_nil <| x_then_n <| wp_ret ?_
  obtain rfl := Option.some.inj H
  exact f_ret h (rs := [.tmp 4]) rfl (.tmp rfl .nil) ⟨_, rfl, N_2, rfl, (Sep.sel hS [0] (by decide))⟩
 clear hKJ_1
 replace hS : Sep w0 w [_] Z := hS
 replace h : Fr 19 a [(0, _), (1, _), (4, iV 0), (7, iV (x0.length : Int)), (8, iV 0)] := h.keep [0, 1, 4, 7, 8]
 refine c_block <| c_loop (fun k_7 a w_7 => ∃ (x_6 : Int) (N_5 : Mem), slices_Index_sint_int.L1 K x0 x1 (fun v => slices_Index_sint_int.J1 K) k_7 x_6 = some r ∧ Fr 19 a [(0, p0_0), (1, iV x1), (4, iV 0), (7, iV (x0.length : Int)), (8, iV x_6)] ∧ Sep w0 w_7 [N_5] Z ∧ Mem.no.le N_5) K ⟨0, Mem.no, H, h, (Sep.sel hS [0] (by decide)), (Mem.le.refl _)⟩ (fun a w h => by obtain ⟨_, _, H, _⟩ := h; cases (show (none : Option (Int)) = some r from H)) ?_
 clear h hS a H
 rintro k_7 a w_7 KL_7 hKL_7 ⟨x_6, N_5, H, h, hS, le_5⟩
 replace H : slices_Index_sint_int.B1 K x0 x1 (fun v => slices_Index_sint_int.J1 K) (slices_Index_sint_int.L1 K x0 x1 (fun v => slices_Index_sint_int.J1 K) k_7) x_6 = some r := H
 unfold slices_Index_sint_int.B1 at H
 refine wp_seq <| wp_region_lit <| s_cmp (b := decide (x_6 < (x0.length : Int))) h rfl rfl rfl (.inr (.inr (.inl ⟨rfl, rfl⟩))) fun a h=>wpList_nil <| x_then_n <| c_seq fun KJ_9 hKJ_9 => ?_
 by_cases hc_10 : x_6 < (x0.length : Int)
 ·rw [if_pos hc_10] at H
  refine c_cond_t h rfl (decide_eq_true hc_10) <| wp_skip <| x_then_n (hKJ_9 _ _ ?_)
  refine c_seq fun KJ_11 hKJ_11 => c_block <| wp_seq <| wp_region_lit <| s_move h rfl rfl fun a h=>s_assign h rfl rfl fun a h=>wpList_nil ?_
  replace h : Fr 19 a [(0, _), (1, _), (4, _), (5, iV x_6), (7, _), (8, _)] := h.keep [0, 1, 4, 5, 7, 8]
  refine x_then_n <| wp_seq <| wp_region_lit <| s_move h rfl rfl fun a h=>s_move h rfl rfl fun a h=>s_move h rfl rfl fun a h=>?_
  obtain ⟨t_12, et_12, H⟩ := Option.bind_eq_some_iff.1 H
  refine v_index h rfl U23 ti3 rfl rfl rfl hp0_0 (hA.trans hS.old) et_12 fun ad_13 cs_14 hk_15 hc_16 => ?_
  obtain rfl := (show cs_14 = [iV t_12] from hk_15)
  intro a h
  refine s_load h rfl rfl (el_one (o := 0) hc_16 U3 rfl rfl) fun a h=>s_cmp (b := (x1 == t_12)) h rfl rfl rfl (.inl ⟨rfl, rfl⟩) fun a h=>wpList_nil <| x_then_n ?_
  by_cases hc_17 : x1 = t_12
  ·rw [if_pos hc_17] at H
   refine c_cond_t h rfl (beq_iff_eq.2 hc_17) <| wp_seq <| wp_region_lit <| s_move h rfl rfl fun a h=>s_assign h rfl rfl fun a h=>wpList_nil <| x_then_n <| wp_ret (x_block_r (x_then_r (x_then_r (x_block_r (x_then_r ?_)))))
   obtain rfl := Option.some.inj H
   exact f_ret h (rs := [.tmp 4]) rfl (.tmp rfl .nil) ⟨_, rfl, N_5, rfl, (Sep.sel hS [0] (by decide))⟩
  ·rw [if_neg hc_17] at H
   refine c_cond_f h rfl (beq_eq_false_iff_ne.2 hc_17) <| wp_skip <| x_block_n <| x_then_n (hKJ_11 _ _ ?_)
   refine wp_region_lit <| s_arith (r := w64 (x_6 + 1)) h rfl rfl rfl (.inl ⟨rfl, rfl⟩) fun a h=>s_move h rfl rfl fun a h=>wpList_nil <| x_then_n (hKL_7 _ _ ?_)
   replace hS : Sep w0 w_7 [_] Z := hS
   replace h : Fr 19 a [(0, _), (1, _), (4, _), (7, _), (8, iV (w64 (x_6 + 1)))] := h.keep [0, 1, 4, 7, 8]
   exact ⟨w64 (x_6 + 1), N_5, H, h, (Sep.sel hS [0] (by decide)), le_5⟩
 ·rw [if_neg hc_10] at H
  refine c_cond_f h rfl (decide_eq_false hc_10) <| wp_exit (x_then_x (x_then_x (x_block_t ?_)))
  replace hS : Sep w0 w_7 [_] Z := hS
  replace h : Fr 19 a [(4, _)] := h.keep [4]
  exact x_then_n (hJ_j_4  H _ _ ⟨N_5, h, (Sep.sel hS [0] (by decide)), le_5⟩)

set_option maxHeartbeats 4000000 in
set_option maxRecDepth 20000 in
theorem slices_Contains_sint_int.calls (K : Nat) (x0 : List Int) (p0_0 : Value) (x1 : Int) (r : Bool) (w0 w : World) (Z A : Mem) (hA : A.le Z) (hS : Sep w0 w [] Z) (hp0_0 : Rd (Kd.int .i64) A p0_0 x0)
    (H : slices_Contains_sint_int.f K x0 x1 = some r) :
    Calls Try.prog 28 [p0_0, iV x1].toArray w (Ret fun v w' => ∃ (N : Mem), v = .bool r ∧ Sep w0 w' [N] Z) := by
 unfold slices_Contains_sint_int.f at H
 refine f_enter _ Try.func28 rfl Try.ntmps28 rfl fun a h=>?_
 replace h : Fr 9 a [(0, p0_0), (1, iV x1)] := h
 replace hS := hS.start
 replace hS : Sep w0 w [_] Z := hS
 refine wp_seq <| wp_region_lit <| s_assign h rfl rfl fun a h=>wpList_nil <| x_then_n <| wp_seq <| wp_region_lit <| s_move h rfl rfl fun a h=>s_move h rfl rfl fun a h=>?_
 obtain ⟨t_1, et_1, H⟩ := Option.bind_eq_some_iff.1 H
 refine s_call h rfl Try.call36 rfl (slices_Index_sint_int.calls K x0 _ x1 t_1 w0 _ _ _ (Mem.le.refl _) (hS.enter [] (by decide)) (hp0_0.mono (hA.trans (hS.le_zed []))) et_1) ?_
 rintro _ w_2 ⟨N_3, rfl, hS'⟩
 intro a h
 obtain ⟨N_4, hS'', le_4, ln_4⟩ := hS.call [] (by decide) rfl (l' := []) (ow := []) rfl hS'
 replace hS : Sep w0 w_2 [N_4] Z := hS''
 clear hS' hS''
 refine s_cmp (b := decide (t_1 ≥ 0)) h rfl rfl rfl (.inr (.inr (.inr (.inr (.inr ⟨rfl, rfl⟩))))) fun a h=>s_assign h rfl rfl fun a h=>wpList_nil <| x_then_n <| wp_ret ?_
 obtain rfl := Option.some.inj H
 exact f_ret h (rs := [.tmp 4]) rfl (.tmp rfl .nil) ⟨_, rfl, N_4, rfl, (Sep.sel hS [0] (by decide))⟩

set_option maxHeartbeats 4000000 in
set_option maxRecDepth 20000 in
theorem hocketref15_Gather_Ready.calls (g0 : Nat) (x0_n : Int) (x0_id : Int) (x0_v : Int) (x0_l : List api_Msg) (p0_0 : Value) (M0_0 : Mem) (x0_commit_Kind : Int) (x0_commit_From : Int) (x0_commit_To : Int) (x0_commit_View : Int) (x0_commit_Inst : Int) (x0_commit_Len : Int) (x0_commit_Has : Bool) (x0_commit_Members : Int) (x0_commit_Source : Int) (x0_commit_At : Int) (x0_commit_Total : Int) (x0_commit_Data : List UInt8) (p0_1 : Value) (x0_commit_Hop : Int) (x0_commit_Seq : Int) (x0_commit_Have : List Int) (p0_2 : Value) (x0_commit_Need : List Int) (p0_3 : Value) (x0_commit_Index : Int) (x0_commit_Entry_Sess : Int) (x0_commit_Entry_Seq : Int) (x0_commit_Entry_Cmd_Kind : Int) (x0_commit_Entry_Cmd_Who : Int) (x0_commit_Entry_Cmd_Key : List UInt8) (p0_4 : Value) (x0_commit_Entry_Cmd_Val : List UInt8) (p0_5 : Value) (x0_commit_Entry_Cmd_Old : List UInt8) (p0_6 : Value) (x0_sure : Bool) (x0_ready : Int) (x1 : Int) (r : Bool × Int × Int × Int × (List api_Msg) × Int × Int × Int × Int × Int × Int × Bool × Int × Int × Int × Int × (List UInt8) × Int × Int × (List Int) × (List Int) × Int × Int × Int × Int × Int × (List UInt8) × (List UInt8) × (List UInt8) × Bool × Int) (w0 w : World) (Z A : Mem) (hA : A.le Z) (hS : Sep w0 w [Mem.one g0 (.cells ([iV x0_n, iV x0_id, iV x0_v, p0_0, iV x0_commit_Kind, iV x0_commit_From, iV x0_commit_To, iV x0_commit_View, iV x0_commit_Inst, iV x0_commit_Len, .bool x0_commit_Has, iV x0_commit_Members, iV x0_commit_Source, iV x0_commit_At, iV x0_commit_Total, p0_1, iV x0_commit_Hop, iV x0_commit_Seq, p0_2, p0_3, iV x0_commit_Index, iV x0_commit_Entry_Sess, iV x0_commit_Entry_Seq, iV x0_commit_Entry_Cmd_Kind, iV x0_commit_Entry_Cmd_Who, p0_4, p0_5, p0_6, .bool x0_sure, iV x0_ready] : List Value).toArray 49 (0, 0)), M0_0] Z) (hp0_0 : Own k_api_Msg 29 M0_0 A p0_0 x0_l) (hp0_1 : Rd Kd.u8 A p0_1 x0_commit_Data) (hp0_2 : Rd (Kd.int .i64) A p0_2 x0_commit_Have) (hp0_3 : Rd (Kd.int .i64) A p0_3 x0_commit_Need) (hp0_4 : Rd Kd.u8 A p0_4 x0_commit_Entry_Cmd_Key) (hp0_5 : Rd Kd.u8 A p0_5 x0_commit_Entry_Cmd_Val) (hp0_6 : Rd Kd.u8 A p0_6 x0_commit_Entry_Cmd_Old)
    (H : hocketref15_Gather_Ready.f x0_n x0_id x0_v x0_l x0_commit_Kind x0_commit_From x0_commit_To x0_commit_View x0_commit_Inst x0_commit_Len x0_commit_Has x0_commit_Members x0_commit_Source x0_commit_At x0_commit_Total x0_commit_Data x0_commit_Hop x0_commit_Seq x0_commit_Have x0_commit_Need x0_commit_Index x0_commit_Entry_Sess x0_commit_Entry_Seq x0_commit_Entry_Cmd_Kind x0_commit_Entry_Cmd_Who x0_commit_Entry_Cmd_Key x0_commit_Entry_Cmd_Val x0_commit_Entry_Cmd_Old x0_sure x0_ready x1 = some r) :
    Calls Try.prog 13 [.pointer (some ⟨g0, 0, none⟩), iV x1].toArray w (Ret fun v w' => ∃ (u0 : Value) (u1 : Value) (u2 : Value) (u3 : Value) (u4 : Value) (u5 : Value) (u6 : Value) (N : Mem) (M100 : Mem), v = .bool r.1 ∧ Sep w0 w' [N, Mem.one g0 (.cells ([iV r.2.1, iV r.2.2.1, iV r.2.2.2.1, u0, iV r.2.2.2.2.2.1, iV r.2.2.2.2.2.2.1, iV r.2.2.2.2.2.2.2.1, iV r.2.2.2.2.2.2.2.2.1, iV r.2.2.2.2.2.2.2.2.2.1, iV r.2.2.2.2.2.2.2.2.2.2.1, .bool r.2.2.2.2.2.2.2.2.2.2.2.1, iV r.2.2.2.2.2.2.2.2.2.2.2.2.1, iV r.2.2.2.2.2.2.2.2.2.2.2.2.2.1, iV r.2.2.2.2.2.2.2.2.2.2.2.2.2.2.1, iV r.2.2.2.2.2.2.2.2.2.2.2.2.2.2.2.1, u1, iV r.2.2.2.2.2.2.2.2.2.2.2.2.2.2.2.2.2.1, iV r.2.2.2.2.2.2.2.2.2.2.2.2.2.2.2.2.2.2.1, u2, u3, iV r.2.2.2.2.2.2.2.2.2.2.2.2.2.2.2.2.2.2.2.2.2.1, iV r.2.2.2.2.2.2.2.2.2.2.2.2.2.2.2.2.2.2.2.2.2.2.1, iV r.2.2.2.2.2.2.2.2.2.2.2.2.2.2.2.2.2.2.2.2.2.2.2.1, iV r.2.2.2.2.2.2.2.2.2.2.2.2.2.2.2.2.2.2.2.2.2.2.2.2.1, iV r.2.2.2.2.2.2.2.2.2.2.2.2.2.2.2.2.2.2.2.2.2.2.2.2.2.1, u4, u5, u6, .bool r.2.2.2.2.2.2.2.2.2.2.2.2.2.2.2.2.2.2.2.2.2.2.2.2.2.2.2.2.2.1, iV r.2.2.2.2.2.2.2.2.2.2.2.2.2.2.2.2.2.2.2.2.2.2.2.2.2.2.2.2.2.2] : List Value).toArray 49 (0, 0)), M100] Z ∧ Own k_api_Msg 29 M100 (A.un N) u0 r.2.2.2.2.1 ∧ Rd Kd.u8 (A.un N) u1 r.2.2.2.2.2.2.2.2.2.2.2.2.2.2.2.2.1 ∧ Rd (Kd.int .i64) (A.un N) u2 r.2.2.2.2.2.2.2.2.2.2.2.2.2.2.2.2.2.2.2.1 ∧ Rd (Kd.int .i64) (A.un N) u3 r.2.2.2.2.2.2.2.2.2.2.2.2.2.2.2.2.2.2.2.2.1 ∧ Rd Kd.u8 (A.un N) u4 r.2.2.2.2.2.2.2.2.2.2.2.2.2.2.2.2.2.2.2.2.2.2.2.2.2.2.1 ∧ Rd Kd.u8 (A.un N) u5 r.2.2.2.2.2.2.2.2.2.2.2.2.2.2.2.2.2.2.2.2.2.2.2.2.2.2.2.1 ∧ Rd Kd.u8 (A.un N) u6 r.2.2.2.2.2.2.2.2.2.2.2.2.2.2.2.2.2.2.2.2.2.2.2.2.2.2.2.2.1) := by
 unfold hocketref15_Gather_Ready.f at H
 refine f_enter _ Try.func13 rfl Try.ntmps13 rfl fun a h=>?_
 replace h : Fr 52 a [(0, .pointer (some ⟨g0, 0, none⟩)), (1, iV x1)] := h
 replace hS := hS.start
 replace hS : Sep w0 w [_, _, _] Z := hS
 refine wp_seq <| wp_region_lit <| s_assign h rfl rfl fun a h=>wpList_nil <| x_then_n <| c_seq fun KJ_1 hKJ_1 => c_seq fun KJ_2 hKJ_2 => ?_
 have hJ_j_6 : ∀ (x_4 : Bool), hocketref15_Gather_Ready.J1 x0_n x0_id x0_v x0_l x0_commit_Kind x0_commit_From x0_commit_To x0_commit_View x0_commit_Inst x0_commit_Len x0_commit_Has x0_commit_Members x0_commit_Source x0_commit_At x0_commit_Total x0_commit_Data x0_commit_Hop x0_commit_Seq x0_commit_Have x0_commit_Need x0_commit_Index x0_commit_Entry_Sess x0_commit_Entry_Seq x0_commit_Entry_Cmd_Kind x0_commit_Entry_Cmd_Who x0_commit_Entry_Cmd_Key x0_commit_Entry_Cmd_Val x0_commit_Entry_Cmd_Old x0_sure x0_ready x1 x_4 = some r → ∀ (a : Act) (w_5 : World), (∃ (N_3 : Mem), Fr 52 a [(0, .pointer (some ⟨g0, 0, none⟩)), (1, iV x1), (4, .bool false), (40, .bool x_4)] ∧ Sep w0 w_5 [N_3, Mem.one g0 (.cells ([iV x0_n, iV x0_id, iV x0_v, p0_0, iV x0_commit_Kind, iV x0_commit_From, iV x0_commit_To, iV x0_commit_View, iV x0_commit_Inst, iV x0_commit_Len, .bool x0_commit_Has, iV x0_commit_Members, iV x0_commit_Source, iV x0_commit_At, iV x0_commit_Total, p0_1, iV x0_commit_Hop, iV x0_commit_Seq, p0_2, p0_3, iV x0_commit_Index, iV x0_commit_Entry_Sess, iV x0_commit_Entry_Seq, iV x0_commit_Entry_Cmd_Kind, iV x0_commit_Entry_Cmd_Who, p0_4, p0_5, p0_6, .bool x0_sure, iV x0_ready] : List Value).toArray 49 (0, 0)), M0_0] Z ∧ Mem.no.le N_3) → KJ_2 a w_5 := by
  clear H h hS a
  rintro x_4 H a w_5 ⟨N_3, h, hS, le_3⟩
  unfold hocketref15_Gather_Ready.J1 at H
  refine hKJ_2 _ _ ?_
  by_cases hc_7 : x_4 = true
  ·rw [if_pos hc_7] at H
   refine c_cond_t h rfl hc_7 <| wp_seq <| wp_region_lit <| s_assign h rfl rfl fun a h=>wpList_nil <| x_then_n <| wp_ret (x_then_r ?_)
   obtain rfl := Option.some.inj H
   exact f_ret h (rs := [.tmp 4]) rfl (.tmp rfl .nil) ⟨_, rfl, p0_0, p0_1, p0_2, p0_3, p0_4, p0_5, p0_6, N_3, M0_0, rfl, (Sep.sel hS [0, 1, 2] (by decide)), (hp0_0.mono (Mem.le_un _ _)), (hp0_1.mono (Mem.le_un _ _)), (hp0_2.mono (Mem.le_un _ _)), (hp0_3.mono (Mem.le_un _ _)), (hp0_4.mono (Mem.le_un _ _)), (hp0_5.mono (Mem.le_un _ _)), (hp0_6.mono (Mem.le_un _ _))⟩
  ·rw [if_neg hc_7] at H
   refine c_cond_f h rfl (Bool.eq_false_iff.2 hc_7) <| wp_skip <| x_then_n (hKJ_1 _ _ ?_)
   refine wp_seq <| wp_region_lit <| s_move h rfl rfl fun a h=>s_move h rfl rfl fun a h=>s_nilCheck h rfl rfl fun a h=>s_fieldAddr h rfl U49 rfl ti3 rfl rfl fun a h=>s_load h rfl rfl (hS.load_one (p := 1) rfl U3 rfl rfl) fun a h=>s_move h rfl rfl fun a h=>s_conv (wu64 x1) h rfl U3 U36 rfl rfl fun a h=>s_shift (r := shl .i64 1 (wu64 x1)) h rfl rfl rfl (wu64_nn _) (.inl ⟨rfl, rfl⟩) fun a h=>s_bits (i := x0_ready) (j := shl .i64 1 (wu64 x1)) (r := bor .i64 x0_ready (shl .i64 1 (wu64 x1))) h rfl rfl rfl (.inr (.inl ⟨rfl, rfl⟩)) fun a h=>s_nilCheck h rfl rfl fun a h=>?_
   refine s_fieldAddr h rfl U49 rfl ti3 rfl rfl fun a h=>?_
   obtain ⟨w_8, hs', hS'⟩ := hS.store (P := Try.prog) (p := 1) (o := 29) (t := 3) (v := iV (bor .i64 x0_ready (shl .i64 1 (wu64 x1)))) (vs := [iV (bor .i64 x0_ready (shl .i64 1 (wu64 x1)))]) rfl ti3 rfl rfl rfl (by intro u hu; simp only [List.mem_cons, List.not_mem_nil, or_false] at hu; rcases hu with rfl <;> rfl)
   refine s_store h rfl rfl hs' ?_
   replace hS : Sep w0 w_8 [_, Mem.one g0 (.cells ([_, _, _, _, _, _, _, _, _, _, _, _, _, _, _, _, _, _, _, _, _, _, _, _, _, _, _, _, _, iV (bor .i64 x0_ready (shl .i64 1 (wu64 x1)))] : List Value).toArray 49 (0, 0)), _] Z := hS'
   clear hs' hS'
   refine wpList_nil <| x_then_n <| wp_seq <| wp_region_lit <| s_assign h rfl rfl fun a h=>wpList_nil <| x_then_n <| wp_ret ?_
   obtain rfl := Option.some.inj H
   exact f_ret h (rs := [.tmp 4]) rfl (.tmp rfl .nil) ⟨_, rfl, p0_0, p0_1, p0_2, p0_3, p0_4, p0_5, p0_6, N_3, M0_0, rfl, (Sep.sel hS [0, 1, 2] (by decide)), (hp0_0.mono (Mem.le_un _ _)), (hp0_1.mono (Mem.le_un _ _)), (hp0_2.mono (Mem.le_un _ _)), (hp0_3.mono (Mem.le_un _ _)), (hp0_4.mono (Mem.le_un _ _)), (hp0_5.mono (Mem.le_un _ _)), (hp0_6.mono (Mem.le_un _ _))⟩
 clear hKJ_2
 refine wp_region_lit <| s_move h rfl rfl fun a h=>s_nilCheck h rfl rfl fun a h=>s_fieldAddr h rfl U49 rfl ti4 rfl rfl fun a h=>s_load h rfl rfl (hS.load_one (p := 1) rfl U4 rfl rfl) fun a h=>s_not h rfl rfl fun a h=>s_move h rfl rfl fun a h=>?_
 by_cases hc_9 : x0_sure = true
 ·rw [if_pos hc_9] at H
  refine s_on h rfl rfl (nf hc_9) <| s_move h rfl rfl fun a h=>s_on h rfl rfl (nf hc_9) <| s_cmp (b := decide (x1 < 0)) h rfl rfl rfl (.inr (.inr (.inl ⟨rfl, rfl⟩))) fun a h=>s_pick_f h rfl rfl (nf hc_9) rfl fun a h=>s_move h rfl rfl fun a h=>?_
  by_cases hc_10 : x1 < 0
  ·rw [if_pos hc_10] at H
   refine s_off h rfl rfl rfl (decide_eq_true hc_10) fun a h=>s_off h rfl rfl rfl (decide_eq_true hc_10) fun a h=>s_pick_t h rfl rfl (decide_eq_true hc_10) rfl fun a h=>s_move h rfl rfl fun a h=>s_off h rfl rfl rfl rfl fun a h=>s_off h rfl rfl rfl rfl fun a h=>s_off h rfl rfl rfl rfl fun a h=>s_off h rfl rfl rfl rfl fun a h=>s_off h rfl rfl rfl rfl fun a h=>s_off h rfl rfl rfl rfl fun a h=>s_off h rfl rfl rfl rfl fun a h=>s_off h rfl rfl rfl rfl fun a h=>?_
   refine s_off h rfl rfl rfl rfl fun a h=>s_off h rfl rfl rfl rfl fun a h=>s_pick_t h rfl rfl rfl rfl fun a h=>s_move h rfl rfl fun a h=>s_off h rfl rfl rfl rfl fun a h=>s_off h rfl rfl rfl rfl fun a h=>s_off h rfl rfl rfl rfl fun a h=>s_off h rfl rfl rfl rfl fun a h=>s_off h rfl rfl rfl rfl fun a h=>s_off h rfl rfl rfl rfl fun a h=>s_off h rfl rfl rfl rfl fun a h=>s_off h rfl rfl rfl rfl fun a h=>?_
   refine s_off h rfl rfl rfl rfl fun a h=>s_pick_t h rfl rfl rfl rfl fun a h=>wpList_nil ?_
   replace hS : Sep w0 w [_, _, _] Z := hS
   replace h : Fr 52 a [(0, _), (1, _), (4, .bool false), (40, .bool true)] := h.keep [0, 1, 4, 40]
   exact x_then_n (hJ_j_6 true H _ _ ⟨Mem.no, h, (Sep.sel hS [0, 1, 2] (by decide)), (Mem.le.refl _)⟩)
  ·rw [if_neg hc_10] at H
   refine s_on h rfl rfl (decide_eq_false hc_10) <| s_move h rfl rfl fun a h=>s_on h rfl rfl (decide_eq_false hc_10) <| s_cmp (b := decide (x1 > 6)) h rfl rfl rfl (.inr (.inr (.inr (.inr (.inl ⟨rfl, rfl⟩))))) fun a h=>s_pick_f h rfl rfl (decide_eq_false hc_10) rfl fun a h=>s_move h rfl rfl fun a h=>?_
   by_cases hc_11 : x1 > 6
   ·rw [if_pos hc_11] at H
    refine s_off h rfl rfl rfl (decide_eq_true hc_11) fun a h=>s_off h rfl rfl rfl (decide_eq_true hc_11) fun a h=>s_off h rfl rfl rfl (decide_eq_true hc_11) fun a h=>s_off h rfl rfl rfl (decide_eq_true hc_11) fun a h=>s_off h rfl rfl rfl (decide_eq_true hc_11) fun a h=>s_off h rfl rfl rfl (decide_eq_true hc_11) fun a h=>s_off h rfl rfl rfl (decide_eq_true hc_11) fun a h=>s_off h rfl rfl rfl (decide_eq_true hc_11) fun a h=>s_off h rfl rfl rfl (decide_eq_true hc_11) fun a h=>s_off h rfl rfl rfl (decide_eq_true hc_11) fun a h=>s_pick_t h rfl rfl (decide_eq_true hc_11) rfl fun a h=>s_move h rfl rfl fun a h=>?_
    refine s_off h rfl rfl rfl rfl fun a h=>s_off h rfl rfl rfl rfl fun a h=>s_off h rfl rfl rfl rfl fun a h=>s_off h rfl rfl rfl rfl fun a h=>s_off h rfl rfl rfl rfl fun a h=>s_off h rfl rfl rfl rfl fun a h=>s_off h rfl rfl rfl rfl fun a h=>s_off h rfl rfl rfl rfl fun a h=>s_off h rfl rfl rfl rfl fun a h=>s_pick_t h rfl rfl rfl rfl fun a h=>wpList_nil ?_
    replace hS : Sep w0 w [_, _, _] Z := hS
    replace h : Fr 52 a [(0, _), (1, _), (4, .bool false), (40, .bool true)] := h.keep [0, 1, 4, 40]
    exact x_then_n (hJ_j_6 true H _ _ ⟨Mem.no, h, (Sep.sel hS [0, 1, 2] (by decide)), (Mem.le.refl _)⟩)
   ·rw [if_neg hc_11] at H
    refine s_on h rfl rfl (decide_eq_false hc_11) <| s_move h rfl rfl fun a h=>s_on h rfl rfl (decide_eq_false hc_11) <| s_nilCheck h rfl rfl fun a h=>s_on h rfl rfl (decide_eq_false hc_11) <| s_fieldAddr h rfl U49 rfl ti29 rfl rfl fun a h=>s_on h rfl rfl (decide_eq_false hc_11) <| s_fieldAddr h rfl U29 rfl ti3 rfl rfl fun a h=>s_on h rfl rfl (decide_eq_false hc_11) <| s_load h rfl rfl (hS.load_one (p := 1) rfl U3 rfl rfl) fun a h=>s_on h rfl rfl (decide_eq_false hc_11) <| s_move h rfl rfl fun a h=>?_
    refine s_on h rfl rfl (decide_eq_false hc_11) <| s_conv (wu64 x1) h rfl U3 U36 rfl rfl fun a h=>s_on h rfl rfl (decide_eq_false hc_11) <| s_shift (r := shr .i64 x0_commit_Members (wu64 x1)) h rfl rfl rfl (wu64_nn _) (.inr ⟨rfl, rfl⟩) fun a h=>s_on h rfl rfl (decide_eq_false hc_11) <| s_bits (i := shr .i64 x0_commit_Members (wu64 x1)) (j := 1) (r := band .i64 (shr .i64 x0_commit_Members (wu64 x1)) 1) h rfl rfl rfl (.inl ⟨rfl, rfl⟩) fun a h=>s_on h rfl rfl (decide_eq_false hc_11) <| s_cmp (b := ((band .i64 (shr .i64 x0_commit_Members (wu64 x1)) 1) == 0)) h rfl rfl rfl (.inl ⟨rfl, rfl⟩) fun a h=>s_pick_f h rfl rfl (decide_eq_false hc_11) rfl fun a h=>s_move h rfl rfl fun a h=>?_
    by_cases hc_12 : (band .i64 (shr .i64 x0_commit_Members (wu64 x1)) 1) = 0
    ·rw [if_pos hc_12] at H
     refine s_off h rfl rfl rfl (beq_iff_eq.2 hc_12) fun a h=>s_off h rfl rfl rfl (beq_iff_eq.2 hc_12) fun a h=>s_off h rfl rfl rfl (beq_iff_eq.2 hc_12) fun a h=>s_off h rfl rfl rfl (beq_iff_eq.2 hc_12) fun a h=>s_off h rfl rfl rfl (beq_iff_eq.2 hc_12) fun a h=>s_off h rfl rfl rfl (beq_iff_eq.2 hc_12) fun a h=>s_off h rfl rfl rfl (beq_iff_eq.2 hc_12) fun a h=>s_off h rfl rfl rfl (beq_iff_eq.2 hc_12) fun a h=>s_off h rfl rfl rfl (beq_iff_eq.2 hc_12) fun a h=>s_pick_t h rfl rfl (beq_iff_eq.2 hc_12) rfl fun a h=>wpList_nil ?_
     replace hS : Sep w0 w [_, _, _] Z := hS
     replace h : Fr 52 a [(0, _), (1, _), (4, .bool false), (40, .bool true)] := h.keep [0, 1, 4, 40]
     exact x_then_n (hJ_j_6 true H _ _ ⟨Mem.no, h, (Sep.sel hS [0, 1, 2] (by decide)), (Mem.le.refl _)⟩)
    ·rw [if_neg hc_12] at H
     refine s_on h rfl rfl (beq_eq_false_iff_ne.2 hc_12) <| s_move h rfl rfl fun a h=>s_on h rfl rfl (beq_eq_false_iff_ne.2 hc_12) <| s_nilCheck h rfl rfl fun a h=>s_on h rfl rfl (beq_eq_false_iff_ne.2 hc_12) <| s_fieldAddr h rfl U49 rfl ti3 rfl rfl fun a h=>s_on h rfl rfl (beq_eq_false_iff_ne.2 hc_12) <| s_load h rfl rfl (hS.load_one (p := 1) rfl U3 rfl rfl) fun a h=>s_on h rfl rfl (beq_eq_false_iff_ne.2 hc_12) <| s_move h rfl rfl fun a h=>s_on h rfl rfl (beq_eq_false_iff_ne.2 hc_12) <| s_conv (wu64 x1) h rfl U3 U36 rfl rfl fun a h=>?_
     refine s_on h rfl rfl (beq_eq_false_iff_ne.2 hc_12) <| s_shift (r := shr .i64 x0_ready (wu64 x1)) h rfl rfl rfl (wu64_nn _) (.inr ⟨rfl, rfl⟩) fun a h=>s_on h rfl rfl (beq_eq_false_iff_ne.2 hc_12) <| s_bits (i := shr .i64 x0_ready (wu64 x1)) (j := 1) (r := band .i64 (shr .i64 x0_ready (wu64 x1)) 1) h rfl rfl rfl (.inl ⟨rfl, rfl⟩) fun a h=>s_on h rfl rfl (beq_eq_false_iff_ne.2 hc_12) <| s_cmp (b := ((band .i64 (shr .i64 x0_ready (wu64 x1)) 1) == 1)) h rfl rfl rfl (.inl ⟨rfl, rfl⟩) fun a h=>s_pick_f h rfl rfl (beq_eq_false_iff_ne.2 hc_12) rfl fun a h=>wpList_nil ?_
     replace hS : Sep w0 w [_, _, _] Z := hS
     replace h : Fr 52 a [(0, _), (1, _), (4, .bool false), (40, .bool ((band .i64 (shr .i64 x0_ready (wu64 x1)) 1) == 1))] := h.keep [0, 1, 4, 40]
     exact x_then_n (hJ_j_6 ((band .i64 (shr .i64 x0_ready (wu64 x1)) 1) == 1) H _ _ ⟨Mem.no, h, (Sep.sel hS [0, 1, 2] (by decide)), (Mem.le.refl _)⟩)
 ·rw [if_neg hc_9] at H
  refine s_off h rfl rfl rfl (nt (Bool.eq_false_iff.2 hc_9)) fun a h=>s_off h rfl rfl rfl (nt (Bool.eq_false_iff.2 hc_9)) fun a h=>s_pick_t h rfl rfl (nt (Bool.eq_false_iff.2 hc_9)) rfl fun a h=>s_move h rfl rfl fun a h=>s_off h rfl rfl rfl rfl fun a h=>s_off h rfl rfl rfl rfl fun a h=>s_pick_t h rfl rfl rfl rfl fun a h=>s_move h rfl rfl fun a h=>s_off h rfl rfl rfl rfl fun a h=>s_off h rfl rfl rfl rfl fun a h=>s_off h rfl rfl rfl rfl fun a h=>s_off h rfl rfl rfl rfl fun a h=>?_
  refine s_off h rfl rfl rfl rfl fun a h=>s_off h rfl rfl rfl rfl fun a h=>s_off h rfl rfl rfl rfl fun a h=>s_off h rfl rfl rfl rfl fun a h=>s_off h rfl rfl rfl rfl fun a h=>s_off h rfl rfl rfl rfl fun a h=>s_pick_t h rfl rfl rfl rfl fun a h=>s_move h rfl rfl fun a h=>s_off h rfl rfl rfl rfl fun a h=>s_off h rfl rfl rfl rfl fun a h=>s_off h rfl rfl rfl rfl fun a h=>s_off h rfl rfl rfl rfl fun a h=>?_
  refine s_off h rfl rfl rfl rfl fun a h=>s_off h rfl rfl rfl rfl fun a h=>s_off h rfl rfl rfl rfl fun a h=>s_off h rfl rfl rfl rfl fun a h=>s_off h rfl rfl rfl rfl fun a h=>s_pick_t h rfl rfl rfl rfl fun a h=>wpList_nil ?_
  replace hS : Sep w0 w [_, _, _] Z := hS
  replace h : Fr 52 a [(0, _), (1, _), (4, .bool false), (40, .bool true)] := h.keep [0, 1, 4, 40]
  exact x_then_n (hJ_j_6 true H _ _ ⟨Mem.no, h, (Sep.sel hS [0, 1, 2] (by decide)), (Mem.le.refl _)⟩)

set_option maxHeartbeats 4000000 in
set_option maxRecDepth 20000 in
theorem hocketref15_Gather_Absent.calls (K : Nat) (g0 : Nat) (x0_n : Int) (x0_id : Int) (x0_v : Int) (x0_l : List api_Msg) (p0_0 : Value) (x0_commit_Kind : Int) (x0_commit_From : Int) (x0_commit_To : Int) (x0_commit_View : Int) (x0_commit_Inst : Int) (x0_commit_Len : Int) (x0_commit_Has : Bool) (x0_commit_Members : Int) (x0_commit_Source : Int) (x0_commit_At : Int) (x0_commit_Total : Int) (x0_commit_Data : List UInt8) (p0_1 : Value) (x0_commit_Hop : Int) (x0_commit_Seq : Int) (x0_commit_Have : List Int) (p0_2 : Value) (x0_commit_Need : List Int) (p0_3 : Value) (x0_commit_Index : Int) (x0_commit_Entry_Sess : Int) (x0_commit_Entry_Seq : Int) (x0_commit_Entry_Cmd_Kind : Int) (x0_commit_Entry_Cmd_Who : Int) (x0_commit_Entry_Cmd_Key : List UInt8) (p0_4 : Value) (x0_commit_Entry_Cmd_Val : List UInt8) (p0_5 : Value) (x0_commit_Entry_Cmd_Old : List UInt8) (p0_6 : Value) (x0_sure : Bool) (x0_ready : Int) (r : (List Int)) (w0 w : World) (Z A : Mem) (hA : A.le Z) (hS : Sep w0 w [Mem.one g0 (.cells ([iV x0_n, iV x0_id, iV x0_v, p0_0, iV x0_commit_Kind, iV x0_commit_From, iV x0_commit_To, iV x0_commit_View, iV x0_commit_Inst, iV x0_commit_Len, .bool x0_commit_Has, iV x0_commit_Members, iV x0_commit_Source, iV x0_commit_At, iV x0_commit_Total, p0_1, iV x0_commit_Hop, iV x0_commit_Seq, p0_2, p0_3, iV x0_commit_Index, iV x0_commit_Entry_Sess, iV x0_commit_Entry_Seq, iV x0_commit_Entry_Cmd_Kind, iV x0_commit_Entry_Cmd_Who, p0_4, p0_5, p0_6, .bool x0_sure, iV x0_ready] : List Value).toArray 49 (0, 0))] Z) (hp0_0 : Rd k_api_Msg A p0_0 x0_l) (hp0_1 : Rd Kd.u8 A p0_1 x0_commit_Data) (hp0_2 : Rd (Kd.int .i64) A p0_2 x0_commit_Have) (hp0_3 : Rd (Kd.int .i64) A p0_3 x0_commit_Need) (hp0_4 : Rd Kd.u8 A p0_4 x0_commit_Entry_Cmd_Key) (hp0_5 : Rd Kd.u8 A p0_5 x0_commit_Entry_Cmd_Val) (hp0_6 : Rd Kd.u8 A p0_6 x0_commit_Entry_Cmd_Old)
    (H : hocketref15_Gather_Absent.f K x0_n x0_id x0_v x0_l x0_commit_Kind x0_commit_From x0_commit_To x0_commit_View x0_commit_Inst x0_commit_Len x0_commit_Has x0_commit_Members x0_commit_Source x0_commit_At x0_commit_Total x0_commit_Data x0_commit_Hop x0_commit_Seq x0_commit_Have x0_commit_Need x0_commit_Index x0_commit_Entry_Sess x0_commit_Entry_Seq x0_commit_Entry_Cmd_Kind x0_commit_Entry_Cmd_Who x0_commit_Entry_Cmd_Key x0_commit_Entry_Cmd_Val x0_commit_Entry_Cmd_Old x0_sure x0_ready = some r) :
    Calls Try.prog 16 [.pointer (some ⟨g0, 0, none⟩)].toArray w (Ret fun v w' => ∃ (u0 : Value) (N : Mem) (M0 : Mem), v = u0 ∧ Sep w0 w' [N, Mem.one g0 (.cells ([iV x0_n, iV x0_id, iV x0_v, p0_0, iV x0_commit_Kind, iV x0_commit_From, iV x0_commit_To, iV x0_commit_View, iV x0_commit_Inst, iV x0_commit_Len, .bool x0_commit_Has, iV x0_commit_Members, iV x0_commit_Source, iV x0_commit_At, iV x0_commit_Total, p0_1, iV x0_commit_Hop, iV x0_commit_Seq, p0_2, p0_3, iV x0_commit_Index, iV x0_commit_Entry_Sess, iV x0_commit_Entry_Seq, iV x0_commit_Entry_Cmd_Kind, iV x0_commit_Entry_Cmd_Who, p0_4, p0_5, p0_6, .bool x0_sure, iV x0_ready] : List Value).toArray 49 (0, 0)), M0] Z ∧ Own (Kd.int .i64) 3 M0 Mem.no u0 r) := by
 unfold hocketref15_Gather_Absent.f at H
 refine f_enter _ Try.func16 rfl Try.ntmps16 rfl fun a h=>?_
 replace h : Fr 22 a [(0, .pointer (some ⟨g0, 0, none⟩))] := h
 replace hS := hS.start
 replace hS : Sep w0 w [_, _] Z := hS
 refine wp_seq <| wp_region_lit <| s_assign h rfl rfl fun a h=>wpList_nil <| x_then_n <| wp_seq <| wp_region_lit <| s_assign h rfl rfl fun a h=>wpList_nil <| x_then_n <| c_seq fun KJ_1 hKJ_1 => wp_seq <| wp_region_lit ?_
 refine s_assign h rfl rfl fun a h=>wpList_nil <| x_then_n ?_
 have hJ_j_9 : ∀ (x_3 : List Int), hocketref15_Gather_Absent.J1 K x_3 = some r → ∀ (a : Act) (w_8 : World), (∃ (v_6 : Value) (N_2 : Mem) (M_4 : Mem), Fr 22 a [(2, nS), (3, v_6)] ∧ Sep w0 w_8 [N_2, Mem.one g0 (.cells ([iV x0_n, iV x0_id, iV x0_v, p0_0, iV x0_commit_Kind, iV x0_commit_From, iV x0_commit_To, iV x0_commit_View, iV x0_commit_Inst, iV x0_commit_Len, .bool x0_commit_Has, iV x0_commit_Members, iV x0_commit_Source, iV x0_commit_At, iV x0_commit_Total, p0_1, iV x0_commit_Hop, iV x0_commit_Seq, p0_2, p0_3, iV x0_commit_Index, iV x0_commit_Entry_Sess, iV x0_commit_Entry_Seq, iV x0_commit_Entry_Cmd_Kind, iV x0_commit_Entry_Cmd_Who, p0_4, p0_5, p0_6, .bool x0_sure, iV x0_ready] : List Value).toArray 49 (0, 0)), M_4] Z ∧ Mem.no.le N_2 ∧ Own (Kd.int .i64) 3 M_4 Mem.no v_6 x_3) → KJ_1 a w_8 := by
  clear H h hS a
  rintro x_3 H a w_8 ⟨v_6, N_2, M_4, h, hS, le_2, ho_7⟩
  unfold hocketref15_Gather_Absent.J1 at H
  refine hKJ_1 _ _ <| wp_seq <| wp_region_lit <| s_move h rfl rfl fun a h=>s_assign h rfl rfl fun a h=>wpList_nil ?_
  replace h : Fr 22 a [(2, v_6)] := h.keep [2]
  refine x_then_n <| wp_ret ?_
  obtain rfl := Option.some.inj H
  exact f_ret h (rs := [.tmp 2]) rfl (.tmp rfl .nil) ⟨_, rfl, v_6, N_2, M_4, rfl, (Sep.sel hS [0, 1, 2] (by decide)), ho_7⟩
 clear hKJ_1
 have hS' := hS.room
 replace hS : Sep w0 w [_, _, Mem.no] Z := hS'
 clear hS'
 replace hS : Sep w0 w [_, _, _] Z := hS
 replace h : Fr 22 a [(0, _), (2, nS), (3, nS), (4, iV 0)] := h.keep [0, 2, 3, 4]
 refine c_block <| c_loop (fun k_17 a w_17 => ∃ (x_11 : List Int) (x_16 : Int) (v_14 : Value) (N_10 : Mem) (M_12 : Mem), hocketref15_Gather_Absent.L1 K x0_n x0_id x0_v x0_l x0_commit_Kind x0_commit_From x0_commit_To x0_commit_View x0_commit_Inst x0_commit_Len x0_commit_Has x0_commit_Members x0_commit_Source x0_commit_At x0_commit_Total x0_commit_Data x0_commit_Hop x0_commit_Seq x0_commit_Have x0_commit_Need x0_commit_Index x0_commit_Entry_Sess x0_commit_Entry_Seq x0_commit_Entry_Cmd_Kind x0_commit_Entry_Cmd_Who x0_commit_Entry_Cmd_Key x0_commit_Entry_Cmd_Val x0_commit_Entry_Cmd_Old x0_sure x0_ready (fun v => hocketref15_Gather_Absent.J1 K v) k_17 (x_11, x_16) = some r ∧ Fr 22 a [(0, .pointer (some ⟨g0, 0, none⟩)), (2, nS), (3, v_14), (4, iV x_16)] ∧ Sep w0 w_17 [N_10, Mem.one g0 (.cells ([iV x0_n, iV x0_id, iV x0_v, p0_0, iV x0_commit_Kind, iV x0_commit_From, iV x0_commit_To, iV x0_commit_View, iV x0_commit_Inst, iV x0_commit_Len, .bool x0_commit_Has, iV x0_commit_Members, iV x0_commit_Source, iV x0_commit_At, iV x0_commit_Total, p0_1, iV x0_commit_Hop, iV x0_commit_Seq, p0_2, p0_3, iV x0_commit_Index, iV x0_commit_Entry_Sess, iV x0_commit_Entry_Seq, iV x0_commit_Entry_Cmd_Kind, iV x0_commit_Entry_Cmd_Who, p0_4, p0_5, p0_6, .bool x0_sure, iV x0_ready] : List Value).toArray 49 (0, 0)), M_12] Z ∧ Mem.no.le N_10 ∧ Own (Kd.int .i64) 3 M_12 Mem.no v_14 x_11) K ⟨([] : List Int), 0, nS, Mem.no, Mem.no, H, h, (Sep.sel hS [0, 1, 2] (by decide)), (Mem.le.refl _), (Own.nil (Kd.int .i64) 3 Mem.no)⟩ (fun a w h => by obtain ⟨_, _, _, _, _, H, _⟩ := h; cases (show (none : Option ((List Int))) = some r from H)) ?_
 clear h hS a H
 rintro k_17 a w_17 KL_17 hKL_17 ⟨x_11, x_16, v_14, N_10, M_12, H, h, hS, le_10, ho_15⟩
 replace H : hocketref15_Gather_Absent.B1 K x0_n x0_id x0_v x0_l x0_commit_Kind x0_commit_From x0_commit_To x0_commit_View x0_commit_Inst x0_commit_Len x0_commit_Has x0_commit_Members x0_commit_Source x0_commit_At x0_commit_Total x0_commit_Data x0_commit_Hop x0_commit_Seq x0_commit_Have x0_commit_Need x0_commit_Index x0_commit_Entry_Sess x0_commit_Entry_Seq x0_commit_Entry_Cmd_Kind x0_commit_Entry_Cmd_Who x0_commit_Entry_Cmd_Key x0_commit_Entry_Cmd_Val x0_commit_Entry_Cmd_Old x0_sure x0_ready (fun v => hocketref15_Gather_Absent.J1 K v) (hocketref15_Gather_Absent.L1 K x0_n x0_id x0_v x0_l x0_commit_Kind x0_commit_From x0_commit_To x0_commit_View x0_commit_Inst x0_commit_Len x0_commit_Has x0_commit_Members x0_commit_Source x0_commit_At x0_commit_Total x0_commit_Data x0_commit_Hop x0_commit_Seq x0_commit_Have x0_commit_Need x0_commit_Index x0_commit_Entry_Sess x0_commit_Entry_Seq x0_commit_Entry_Cmd_Kind x0_commit_Entry_Cmd_Who x0_commit_Entry_Cmd_Key x0_commit_Entry_Cmd_Val x0_commit_Entry_Cmd_Old x0_sure x0_ready (fun v => hocketref15_Gather_Absent.J1 K v) k_17) x_11 x_16 = some r := H
 unfold hocketref15_Gather_Absent.B1 at H
 refine c_seq fun KJ_20 hKJ_20 => wp_seq <| wp_region_lit <| s_move h rfl rfl fun a h=>s_move h rfl rfl fun a h=>s_nilCheck h rfl rfl fun a h=>s_fieldAddr h rfl U49 rfl ti3 rfl rfl fun a h=>s_load h rfl rfl (hS.load_one (p := 1) rfl U3 rfl rfl) fun a h=>s_cmp (b := decide (x_16 < x0_n)) h rfl rfl rfl (.inr (.inr (.inl ⟨rfl, rfl⟩))) fun a h=>wpList_nil ?_
 replace h : Fr 22 a [(0, _), (2, _), (3, _), (4, _), (10, .bool (decide (x_16 < x0_n)))] := h.keep [0, 2, 3, 4, 10]
 refine x_then_n ?_
 by_cases hc_21 : x_16 < x0_n
 ·rw [if_pos hc_21] at H
  refine c_cond_t h rfl (decide_eq_true hc_21) <| wp_skip <| x_then_n (hKJ_20 _ _ ?_)
  refine c_seq fun KJ_22 hKJ_22 => c_block <| wp_seq <| wp_region_lit <| s_move h rfl rfl fun a h=>s_move h rfl rfl fun a h=>?_
  obtain ⟨t_23, et_23, H⟩ := Option.bind_eq_some_iff.1 H
  refine s_call h rfl Try.call24 rfl (hocketref15_Gather_has.calls K _ x0_n x0_id x0_v x0_l _ x0_commit_Kind x0_commit_From x0_commit_To x0_commit_View x0_commit_Inst x0_commit_Len x0_commit_Has x0_commit_Members x0_commit_Source x0_commit_At x0_commit_Total x0_commit_Data _ x0_commit_Hop x0_commit_Seq x0_commit_Have _ x0_commit_Need _ x0_commit_Index x0_commit_Entry_Sess x0_commit_Entry_Seq x0_commit_Entry_Cmd_Kind x0_commit_Entry_Cmd_Who x0_commit_Entry_Cmd_Key _ x0_commit_Entry_Cmd_Val _ x0_commit_Entry_Cmd_Old _ x0_sure x0_ready x_16 t_23 w0 _ _ _ (Mem.le.refl _) (hS.enter [0] (by decide)) (hp0_0.mono (hA.trans (hS.le_zed [0]))) (hp0_1.mono (hA.trans (hS.le_zed [0]))) (hp0_2.mono (hA.trans (hS.le_zed [0]))) (hp0_3.mono (hA.trans (hS.le_zed [0]))) (hp0_4.mono (hA.trans (hS.le_zed [0]))) (hp0_5.mono (hA.trans (hS.le_zed [0]))) (hp0_6.mono (hA.trans (hS.le_zed [0]))) et_23) ?_
  rintro _ w_24 ⟨N_25, rfl, hS'⟩
  intro a h
  obtain ⟨N_26, hS'', le_26, ln_26⟩ := hS.call [0] (by decide) rfl (l' := [Mem.one g0 (.cells ([iV x0_n, iV x0_id, iV x0_v, p0_0, iV x0_commit_Kind, iV x0_commit_From, iV x0_commit_To, iV x0_commit_View, iV x0_commit_Inst, iV x0_commit_Len, .bool x0_commit_Has, iV x0_commit_Members, iV x0_commit_Source, iV x0_commit_At, iV x0_commit_Total, p0_1, iV x0_commit_Hop, iV x0_commit_Seq, p0_2, p0_3, iV x0_commit_Index, iV x0_commit_Entry_Sess, iV x0_commit_Entry_Seq, iV x0_commit_Entry_Cmd_Kind, iV x0_commit_Entry_Cmd_Who, p0_4, p0_5, p0_6, .bool x0_sure, iV x0_ready] : List Value).toArray 49 (0, 0))]) (ow := []) rfl hS'
  replace hS : Sep w0 w_24 [N_26, _, _] Z := hS''
  clear hS' hS''
  refine s_not h rfl rfl fun a h=>wpList_nil <| x_then_n ?_
  by_cases hc_27 : t_23 = true
  ·rw [if_pos hc_27] at H
   refine c_cond_f h rfl (nf hc_27) <| wp_skip <| x_block_n <| x_then_n (hKJ_22 _ _ ?_)
   refine wp_region_lit <| s_move h rfl rfl fun a h=>s_arith (r := w64 (x_16 + 1)) h rfl rfl rfl (.inl ⟨rfl, rfl⟩) fun a h=>s_assign h rfl rfl fun a h=>wpList_nil <| x_then_n (hKL_17 _ _ ?_)
   replace hS : Sep w0 w_24 [_, _, _] Z := hS
   replace h : Fr 22 a [(0, _), (2, _), (3, _), (4, iV (w64 (x_16 + 1)))] := h.keep [0, 2, 3, 4]
   exact ⟨x_11, w64 (x_16 + 1), v_14, N_26, M_12, H, h, (Sep.sel hS [0, 1, 2] (by decide)), (le_10.trans le_26), ho_15⟩
  ·rw [if_neg hc_27] at H
   refine c_cond_t h rfl (nt (Bool.eq_false_iff.2 hc_27)) <| wp_region_lit <| s_move h rfl rfl fun a h=>s_move h rfl rfl fun a h=>?_
   have hq_32 : Reps (Kd.int .i64) Mem.no ([x_16] : List Int) _ := ((Reps.one (d := (Kd.int .i64)) (x := x_16) (show (Kd.int .i64).K _ _ [iV x_16] from rfl)).append (Reps.nil (Kd.int .i64) _))
   refine s_buildSlice h rfl U23 ti3 rfl rfl rfl (.cons rfl .nil) rfl rfl rfl hS hq_32 rfl fun w_28 v_29 M_30 hS' ho_31 a h => ?_
   replace hS : Sep w0 w_28 [_, _, _, M_30] Z := hS'
   clear hS' hq_32
   obtain ⟨t_34, et_34, H⟩ := Option.bind_eq_some_iff.1 H
   refine s_append (J := Mem.no) (I' := Mem.no) (p := 2) 17592186044416 h rfl rfl rfl U23 ti3 rfl rfl rfl rfl hS rfl ho_15 (Src.flat (flat_int .i64) (ho_31.src (hS.own 3))) (Mem.le.refl _) (Mem.le.refl _) et_34 fun w_35 v_36 M_37 hS' ho_38 a h => ?_
   replace hS : Sep w0 w_35 [_, _, M_37, _] Z := hS'
   clear hS'
   refine s_assign h rfl rfl fun a h=>wpList_nil <| x_block_n <| x_then_n (hKJ_22 _ _ ?_)
   refine wp_region_lit <| s_move h rfl rfl fun a h=>s_arith (r := w64 (x_16 + 1)) h rfl rfl rfl (.inl ⟨rfl, rfl⟩) fun a h=>s_assign h rfl rfl fun a h=>wpList_nil <| x_then_n (hKL_17 _ _ ?_)
   replace hS : Sep w0 w_35 [_, _, _, _] Z := hS
   replace h : Fr 22 a [(0, _), (2, _), (3, v_36), (4, iV (w64 (x_16 + 1)))] := h.keep [0, 2, 3, 4]
   exact ⟨t_34, w64 (x_16 + 1), v_36, N_26, M_37, H, h, (Sep.sel hS [0, 1, 2] (by decide)), (le_10.trans le_26), ho_38⟩
 ·rw [if_neg hc_21] at H
  refine c_cond_f h rfl (decide_eq_false hc_21) <| wp_exit (x_then_x (x_then_x (x_block_t ?_)))
  replace hS : Sep w0 w_17 [_, _, _] Z := hS
  replace h : Fr 22 a [(2, _), (3, _)] := h.keep [2, 3]
  exact x_then_n (hJ_j_9 x_11 H _ _ ⟨v_14, N_10, M_12, h, (Sep.sel hS [0, 1, 2] (by decide)), le_10, ho_15⟩)

set_option maxHeartbeats 4000000 in
set_option maxRecDepth 20000 in
theorem hocketref15_Gather_Unready.calls (K : Nat) (g0 : Nat) (x0_n : Int) (x0_id : Int) (x0_v : Int) (x0_l : List api_Msg) (p0_0 : Value) (x0_commit_Kind : Int) (x0_commit_From : Int) (x0_commit_To : Int) (x0_commit_View : Int) (x0_commit_Inst : Int) (x0_commit_Len : Int) (x0_commit_Has : Bool) (x0_commit_Members : Int) (x0_commit_Source : Int) (x0_commit_At : Int) (x0_commit_Total : Int) (x0_commit_Data : List UInt8) (p0_1 : Value) (x0_commit_Hop : Int) (x0_commit_Seq : Int) (x0_commit_Have : List Int) (p0_2 : Value) (x0_commit_Need : List Int) (p0_3 : Value) (x0_commit_Index : Int) (x0_commit_Entry_Sess : Int) (x0_commit_Entry_Seq : Int) (x0_commit_Entry_Cmd_Kind : Int) (x0_commit_Entry_Cmd_Who : Int) (x0_commit_Entry_Cmd_Key : List UInt8) (p0_4 : Value) (x0_commit_Entry_Cmd_Val : List UInt8) (p0_5 : Value) (x0_commit_Entry_Cmd_Old : List UInt8) (p0_6 : Value) (x0_sure : Bool) (x0_ready : Int) (r : (List Int)) (w0 w : World) (Z A : Mem) (hA : A.le Z) (hS : Sep w0 w [Mem.one g0 (.cells ([iV x0_n, iV x0_id, iV x0_v, p0_0, iV x0_commit_Kind, iV x0_commit_From, iV x0_commit_To, iV x0_commit_View, iV x0_commit_Inst, iV x0_commit_Len, .bool x0_commit_Has, iV x0_commit_Members, iV x0_commit_Source, iV x0_commit_At, iV x0_commit_Total, p0_1, iV x0_commit_Hop, iV x0_commit_Seq, p0_2, p0_3, iV x0_commit_Index, iV x0_commit_Entry_Sess, iV x0_commit_Entry_Seq, iV x0_commit_Entry_Cmd_Kind, iV x0_commit_Entry_Cmd_Who, p0_4, p0_5, p0_6, .bool x0_sure, iV x0_ready] : List Value).toArray 49 (0, 0))] Z) (hp0_0 : Rd k_api_Msg A p0_0 x0_l) (hp0_1 : Rd Kd.u8 A p0_1 x0_commit_Data) (hp0_2 : Rd (Kd.int .i64) A p0_2 x0_commit_Have) (hp0_3 : Rd (Kd.int .i64) A p0_3 x0_commit_Need) (hp0_4 : Rd Kd.u8 A p0_4 x0_commit_Entry_Cmd_Key) (hp0_5 : Rd Kd.u8 A p0_5 x0_commit_Entry_Cmd_Val) (hp0_6 : Rd Kd.u8 A p0_6 x0_commit_Entry_Cmd_Old)
    (H : hocketref15_Gather_Unready.f K x0_n x0_id x0_v x0_l x0_commit_Kind x0_commit_From x0_commit_To x0_commit_View x0_commit_Inst x0_commit_Len x0_commit_Has x0_commit_Members x0_commit_Source x0_commit_At x0_commit_Total x0_commit_Data x0_commit_Hop x0_commit_Seq x0_commit_Have x0_commit_Need x0_commit_Index x0_commit_Entry_Sess x0_commit_Entry_Seq x0_commit_Entry_Cmd_Kind x0_commit_Entry_Cmd_Who x0_commit_Entry_Cmd_Key x0_commit_Entry_Cmd_Val x0_commit_Entry_Cmd_Old x0_sure x0_ready = some r) :
    Calls Try.prog 19 [.pointer (some ⟨g0, 0, none⟩)].toArray w (Ret fun v w' => ∃ (u0 : Value) (N : Mem) (M0 : Mem), v = u0 ∧ Sep w0 w' [N, Mem.one g0 (.cells ([iV x0_n, iV x0_id, iV x0_v, p0_0, iV x0_commit_Kind, iV x0_commit_From, iV x0_commit_To, iV x0_commit_View, iV x0_commit_Inst, iV x0_commit_Len, .bool x0_commit_Has, iV x0_commit_Members, iV x0_commit_Source, iV x0_commit_At, iV x0_commit_Total, p0_1, iV x0_commit_Hop, iV x0_commit_Seq, p0_2, p0_3, iV x0_commit_Index, iV x0_commit_Entry_Sess, iV x0_commit_Entry_Seq, iV x0_commit_Entry_Cmd_Kind, iV x0_commit_Entry_Cmd_Who, p0_4, p0_5, p0_6, .bool x0_sure, iV x0_ready] : List Value).toArray 49 (0, 0)), M0] Z ∧ Own (Kd.int .i64) 3 M0 Mem.no u0 r) := by
 unfold hocketref15_Gather_Unready.f at H
 refine f_enter _ Try.func19 rfl Try.ntmps19 rfl fun a h=>?_
 replace h : Fr 19 a [(0, .pointer (some ⟨g0, 0, none⟩))] := h
 replace hS := hS.start
 replace hS : Sep w0 w [_, _] Z := hS
 refine wp_seq <| wp_region_lit <| s_assign h rfl rfl fun a h=>wpList_nil <| x_then_n <| c_seq fun KJ_1 hKJ_1 => wp_seq <| wp_region_lit <| s_move h rfl rfl fun a h=>s_nilCheck h rfl rfl fun a h=>s_fieldAddr h rfl U49 rfl ti4 rfl rfl fun a h=>s_load h rfl rfl (hS.load_one (p := 1) rfl U4 rfl rfl) fun a h=>?_
 refine s_not h rfl rfl fun a h=>wpList_nil <| x_then_n ?_
 by_cases hc_2 : x0_sure = true
 ·rw [if_pos hc_2] at H
  refine c_cond_f h rfl (nf hc_2) <| wp_skip <| x_then_n (hKJ_1 _ _ ?_)
  refine c_seq fun KJ_3 hKJ_3 => h_begin (S := fun w => Sep w0 w [Mem.no, Mem.one g0 (.cells ([iV x0_n, iV x0_id, iV x0_v, p0_0, iV x0_commit_Kind, iV x0_commit_From, iV x0_commit_To, iV x0_commit_View, iV x0_commit_Inst, iV x0_commit_Len, .bool x0_commit_Has, iV x0_commit_Members, iV x0_commit_Source, iV x0_commit_At, iV x0_commit_Total, p0_1, iV x0_commit_Hop, iV x0_commit_Seq, p0_2, p0_3, iV x0_commit_Index, iV x0_commit_Entry_Sess, iV x0_commit_Entry_Seq, iV x0_commit_Entry_Cmd_Kind, iV x0_commit_Entry_Cmd_Who, p0_4, p0_5, p0_6, .bool x0_sure, iV x0_ready] : List Value).toArray 49 (0, 0))] Z) 12 (by kernel_rfl) rfl (bA 12 0) (by kernel_rfl) hS fun w_4 hS => ?_
  replace hS : Sep w0 w_4 [_, _] Z := hS
  refine t_take 0 (bA 12 1) rfl rfl rfl rfl h (hS.sub .ii) (v := .pointer (some ⟨g0, 0, none⟩)) (fun w hS => r_move h rfl) fun a h=>t_take 1 (bA 12 3) rfl rfl rfl rfl h (hS.sub .ii) (v := .pointer (some ⟨g0, 0, none⟩)) (fun w hS => r_nilCheck h rfl) fun a h=>t_take 2 (bA 12 7) rfl rfl rfl rfl h (hS.sub .ii) (v := .pointer (some ⟨g0, 4, none⟩)) (fun w hS => r_fieldAddr h U49 rfl ti29 rfl rfl rfl) fun a h=>t_take 3 (bA 12 15) rfl rfl rfl rfl h (hS.sub .ii) (v := .pointer (some ⟨g0, 11, none⟩)) (fun w hS => r_fieldAddr h U29 rfl ti3 rfl rfl rfl) fun a h=>t_take 4 (bA 12 31) rfl rfl rfl rfl h (hS.sub .ii) (v := iV x0_commit_Members) (fun w hS => r_load h rfl (hS.load_one (p := 1) rfl U3 rfl rfl)) fun a h=>t_take 5 (bA 12 63) rfl rfl rfl rfl h (hS.sub .ii) (v := .pointer (some ⟨g0, 0, none⟩)) (fun w hS => r_move h rfl) fun a h=>?_
  refine t_take 6 (bA 12 127) rfl rfl rfl rfl h (hS.sub .ii) (v := .pointer (some ⟨g0, 0, none⟩)) (fun w hS => r_nilCheck h rfl) fun a h=>t_take 7 (bA 12 255) rfl rfl rfl rfl h (hS.sub .ii) (v := .pointer (some ⟨g0, 29, none⟩)) (fun w hS => r_fieldAddr h U49 rfl ti3 rfl rfl rfl) fun a h=>t_take 8 (bA 12 511) rfl rfl rfl rfl h (hS.sub .ii) (v := iV x0_ready) (fun w hS => r_load h rfl (hS.load_one (p := 1) rfl U3 rfl rfl)) fun a h=>t_take 9 (bA 12 1023) rfl rfl rfl rfl h (hS.sub .ii) (v := iV (bandn .i64 x0_commit_Members x0_ready)) (fun w hS => r_bits (i := x0_commit_Members) (j := x0_ready) (r := bandn .i64 x0_commit_Members x0_ready) h rfl rfl (.inr (.inr (.inr ⟨rfl, rfl⟩)))) fun a h=>h_event 10 (bA 12 2047) rfl (by kernel_rfl) (by kernel_rfl) ?_
  obtain ⟨t_5, et_5, H⟩ := Option.bind_eq_some_iff.1 H
  refine s_call h rfl Try.call30 rfl (hocketref11_Members.calls K (bandn .i64 x0_commit_Members x0_ready) t_5 w0 _ _ _ (Mem.le.refl _) (hS.enter [] (by decide))  et_5) ?_
  rintro v_9 w_6 ⟨_, N_7, M_11, rfl, hS', hr_10⟩
  intro a h
  obtain ⟨N_8, hS'', le_8, ln_8⟩ := hS.call [] (by decide) rfl (l' := []) (ow := [M_11]) rfl hS'
  replace hS : Sep w0 w_6 [N_8, _, M_11] Z := hS''
  clear hS' hS''
  refine wpList_nil <| x_then_n ⟨(hS.sub (.cons le_8 (.rr .nn))), ?_⟩
  refine t_take 11 (bA 12 4095) rfl rfl rfl rfl h (hS.sub (.cons le_8 (.rr .nn))) (v := v_9) (fun w hS => r_assign h rfl) fun a h=>h_done (by kernel_rfl) <| x_then_n (hKJ_3 _ _ ?_)
  refine wp_ret ?_
  obtain rfl := Option.some.inj H
  exact f_ret h (rs := [.tmp 2]) rfl (.tmp rfl .nil) ⟨_, rfl, v_9, N_8, M_11, rfl, (Sep.sel hS [0, 1, 2] (by decide)), hr_10⟩
 ·rw [if_neg hc_2] at H
  refine c_cond_t h rfl (nt (Bool.eq_false_iff.2 hc_2)) <| wp_seq <| wp_region_lit <| s_assign h rfl rfl fun a h=>wpList_nil <| x_then_n <| wp_ret (x_then_r ?_)
  have hS' := hS.room
  replace hS : Sep w0 w [_, _, Mem.no] Z := hS'
  clear hS'
  obtain rfl := Option.some.inj H
  exact f_ret h (rs := [.tmp 2]) rfl (.tmp rfl .nil) ⟨_, rfl, nS, Mem.no, Mem.no, rfl, (Sep.sel hS [0, 1, 2] (by decide)), (Own.nil (Kd.int .i64) 3 Mem.no)⟩

set_option maxHeartbeats 4000000 in
set_option maxRecDepth 20000 in
theorem hocketref15_Gather_Done.calls (g0 : Nat) (x0_n : Int) (x0_id : Int) (x0_v : Int) (x0_l : List api_Msg) (p0_0 : Value) (x0_commit_Kind : Int) (x0_commit_From : Int) (x0_commit_To : Int) (x0_commit_View : Int) (x0_commit_Inst : Int) (x0_commit_Len : Int) (x0_commit_Has : Bool) (x0_commit_Members : Int) (x0_commit_Source : Int) (x0_commit_At : Int) (x0_commit_Total : Int) (x0_commit_Data : List UInt8) (p0_1 : Value) (x0_commit_Hop : Int) (x0_commit_Seq : Int) (x0_commit_Have : List Int) (p0_2 : Value) (x0_commit_Need : List Int) (p0_3 : Value) (x0_commit_Index : Int) (x0_commit_Entry_Sess : Int) (x0_commit_Entry_Seq : Int) (x0_commit_Entry_Cmd_Kind : Int) (x0_commit_Entry_Cmd_Who : Int) (x0_commit_Entry_Cmd_Key : List UInt8) (p0_4 : Value) (x0_commit_Entry_Cmd_Val : List UInt8) (p0_5 : Value) (x0_commit_Entry_Cmd_Old : List UInt8) (p0_6 : Value) (x0_sure : Bool) (x0_ready : Int) (r : Bool) (w0 w : World) (Z A : Mem) (hA : A.le Z) (hS : Sep w0 w [Mem.one g0 (.cells ([iV x0_n, iV x0_id, iV x0_v, p0_0, iV x0_commit_Kind, iV x0_commit_From, iV x0_commit_To, iV x0_commit_View, iV x0_commit_Inst, iV x0_commit_Len, .bool x0_commit_Has, iV x0_commit_Members, iV x0_commit_Source, iV x0_commit_At, iV x0_commit_Total, p0_1, iV x0_commit_Hop, iV x0_commit_Seq, p0_2, p0_3, iV x0_commit_Index, iV x0_commit_Entry_Sess, iV x0_commit_Entry_Seq, iV x0_commit_Entry_Cmd_Kind, iV x0_commit_Entry_Cmd_Who, p0_4, p0_5, p0_6, .bool x0_sure, iV x0_ready] : List Value).toArray 49 (0, 0))] Z) (hp0_0 : Rd k_api_Msg A p0_0 x0_l) (hp0_1 : Rd Kd.u8 A p0_1 x0_commit_Data) (hp0_2 : Rd (Kd.int .i64) A p0_2 x0_commit_Have) (hp0_3 : Rd (Kd.int .i64) A p0_3 x0_commit_Need) (hp0_4 : Rd Kd.u8 A p0_4 x0_commit_Entry_Cmd_Key) (hp0_5 : Rd Kd.u8 A p0_5 x0_commit_Entry_Cmd_Val) (hp0_6 : Rd Kd.u8 A p0_6 x0_commit_Entry_Cmd_Old)
    (H : hocketref15_Gather_Done.f x0_n x0_id x0_v x0_l x0_commit_Kind x0_commit_From x0_commit_To x0_commit_View x0_commit_Inst x0_commit_Len x0_commit_Has x0_commit_Members x0_commit_Source x0_commit_At x0_commit_Total x0_commit_Data x0_commit_Hop x0_commit_Seq x0_commit_Have x0_commit_Need x0_commit_Index x0_commit_Entry_Sess x0_commit_Entry_Seq x0_commit_Entry_Cmd_Kind x0_commit_Entry_Cmd_Who x0_commit_Entry_Cmd_Key x0_commit_Entry_Cmd_Val x0_commit_Entry_Cmd_Old x0_sure x0_ready = some r) :
    Calls Try.prog 21 [.pointer (some ⟨g0, 0, none⟩)].toArray w (Ret fun v w' => ∃ (N : Mem), v = .bool r ∧ Sep w0 w' [N, Mem.one g0 (.cells ([iV x0_n, iV x0_id, iV x0_v, p0_0, iV x0_commit_Kind, iV x0_commit_From, iV x0_commit_To, iV x0_commit_View, iV x0_commit_Inst, iV x0_commit_Len, .bool x0_commit_Has, iV x0_commit_Members, iV x0_commit_Source, iV x0_commit_At, iV x0_commit_Total, p0_1, iV x0_commit_Hop, iV x0_commit_Seq, p0_2, p0_3, iV x0_commit_Index, iV x0_commit_Entry_Sess, iV x0_commit_Entry_Seq, iV x0_commit_Entry_Cmd_Kind, iV x0_commit_Entry_Cmd_Who, p0_4, p0_5, p0_6, .bool x0_sure, iV x0_ready] : List Value).toArray 49 (0, 0))] Z) := by
 unfold hocketref15_Gather_Done.f at H
 refine f_enter _ Try.func21 rfl Try.ntmps21 rfl fun a h=>?_
 replace h : Fr 19 a [(0, .pointer (some ⟨g0, 0, none⟩))] := h
 replace hS := hS.start
 replace hS : Sep w0 w [_, _] Z := hS
 refine wp_seq <| wp_region_lit <| s_assign h rfl rfl fun a h=>wpList_nil <| x_then_n <| c_seq fun KJ_1 hKJ_1 => h_begin (S := fun w => Sep w0 w [Mem.no, Mem.one g0 (.cells ([iV x0_n, iV x0_id, iV x0_v, p0_0, iV x0_commit_Kind, iV x0_commit_From, iV x0_commit_To, iV x0_commit_View, iV x0_commit_Inst, iV x0_commit_Len, .bool x0_commit_Has, iV x0_commit_Members, iV x0_commit_Source, iV x0_commit_At, iV x0_commit_Total, p0_1, iV x0_commit_Hop, iV x0_commit_Seq, p0_2, p0_3, iV x0_commit_Index, iV x0_commit_Entry_Sess, iV x0_commit_Entry_Seq, iV x0_commit_Entry_Cmd_Kind, iV x0_commit_Entry_Cmd_Who, p0_4, p0_5, p0_6, .bool x0_sure, iV x0_ready] : List Value).toArray 49 (0, 0))] Z) 17 (by kernel_rfl) rfl (bA 17 0) (by kernel_rfl) hS fun w_2 hS => ?_
 replace hS : Sep w0 w_2 [_, _] Z := hS
 refine t_take 0 (bA 17 1) rfl rfl rfl rfl h (hS.sub .ii) (v := .pointer (some ⟨g0, 0, none⟩)) (fun w hS => r_move h rfl) fun a h=>t_take 1 (bA 17 3) rfl rfl rfl rfl h (hS.sub .ii) (v := .pointer (some ⟨g0, 0, none⟩)) (fun w hS => r_nilCheck h rfl) fun a h=>t_take 2 (bA 17 7) rfl rfl rfl rfl h (hS.sub .ii) (v := .pointer (some ⟨g0, 28, none⟩)) (fun w hS => r_fieldAddr h U49 rfl ti4 rfl rfl rfl) fun a h=>t_take 3 (bA 17 15) rfl rfl rfl rfl h (hS.sub .ii) (v := .bool x0_sure) (fun w hS => r_load h rfl (hS.load_one (p := 1) rfl U4 rfl rfl)) fun a h=>t_take 4 (bA 17 31) rfl rfl rfl rfl h (hS.sub .ii) (v := .bool x0_sure) (fun w hS => r_move h rfl) fun a h=>?_
 by_cases hc_3 : x0_sure = true
 ·rw [if_pos hc_3] at H
  refine t_take_on 5 (bA 17 63) rfl rfl rfl rfl hc_3 rfl rfl h (hS.sub .ii) (v := .pointer (some ⟨g0, 0, none⟩)) (fun w hS => r_move h rfl) fun a h=>t_take_on 6 (bA 17 127) rfl rfl rfl rfl hc_3 rfl rfl h (hS.sub .ii) (v := .pointer (some ⟨g0, 0, none⟩)) (fun w hS => r_nilCheck h rfl) fun a h=>t_take_on 7 (bA 17 255) rfl rfl rfl rfl hc_3 rfl rfl h (hS.sub .ii) (v := .pointer (some ⟨g0, 29, none⟩)) (fun w hS => r_fieldAddr h U49 rfl ti3 rfl rfl rfl) fun a h=>t_take_on 8 (bA 17 511) rfl rfl rfl rfl hc_3 rfl rfl h (hS.sub .ii) (v := iV x0_ready) (fun w hS => r_load h rfl (hS.load_one (p := 1) rfl U3 rfl rfl)) fun a h=>t_take_on 9 (bA 17 1023) rfl rfl rfl rfl hc_3 rfl rfl h (hS.sub .ii) (v := .pointer (some ⟨g0, 0, none⟩)) (fun w hS => r_move h rfl) fun a h=>t_take_on 10 (bA 17 2047) rfl rfl rfl rfl hc_3 rfl rfl h (hS.sub .ii) (v := .pointer (some ⟨g0, 0, none⟩)) (fun w hS => r_nilCheck h rfl) fun a h=>?_
  refine t_take_on 11 (bA 17 4095) rfl rfl rfl rfl hc_3 rfl rfl h (hS.sub .ii) (v := .pointer (some ⟨g0, 4, none⟩)) (fun w hS => r_fieldAddr h U49 rfl ti29 rfl rfl rfl) fun a h=>t_take_on 12 (bA 17 8191) rfl rfl rfl rfl hc_3 rfl rfl h (hS.sub .ii) (v := .pointer (some ⟨g0, 11, none⟩)) (fun w hS => r_fieldAddr h U29 rfl ti3 rfl rfl rfl) fun a h=>t_take_on 13 (bA 17 16383) rfl rfl rfl rfl hc_3 rfl rfl h (hS.sub .ii) (v := iV x0_commit_Members) (fun w hS => r_load h rfl (hS.load_one (p := 1) rfl U3 rfl rfl)) fun a h=>t_take_on 14 (bA 17 32767) rfl rfl rfl rfl hc_3 rfl rfl h (hS.sub .ii) (v := .bool (x0_ready == x0_commit_Members)) (fun w hS => r_cmp (b := (x0_ready == x0_commit_Members)) h rfl rfl (.inl ⟨rfl, rfl⟩)) fun a h=>t_take 15 (bA 17 65535) rfl rfl rfl rfl h (hS.sub .ii) (v := .bool (x0_ready == x0_commit_Members)) (fun w hS => r_pick_t h rfl hc_3 rfl) fun a h=>t_take 16 (bA 17 131071) rfl rfl rfl rfl h (hS.sub .ii) (v := .bool (x0_ready == x0_commit_Members)) (fun w hS => r_assign h rfl) fun a h=>?_
  refine h_done (by kernel_rfl) <| x_then_n (hKJ_1 _ _ ?_)
  refine wp_ret ?_
  obtain rfl := Option.some.inj H
  exact f_ret h (rs := [.tmp 2]) rfl (.tmp rfl .nil) ⟨_, rfl, Mem.no, rfl, (Sep.sel hS [0, 1] (by decide))⟩
 ·rw [if_neg hc_3] at H
  refine t_take_off 5 (bA 17 63) rfl rfl rfl rfl (.inl (congrArg Value.bool (Bool.eq_false_iff.2 hc_3))) rfl rfl h (hS.sub .ii) fun a h=>t_take_off 6 (bA 17 127) rfl rfl rfl rfl (.inl (congrArg Value.bool (Bool.eq_false_iff.2 hc_3))) rfl rfl h (hS.sub .ii) fun a h=>t_take_off 7 (bA 17 255) rfl rfl rfl rfl (.inl (congrArg Value.bool (Bool.eq_false_iff.2 hc_3))) rfl rfl h (hS.sub .ii) fun a h=>t_take_off 8 (bA 17 511) rfl rfl rfl rfl (.inl (congrArg Value.bool (Bool.eq_false_iff.2 hc_3))) rfl rfl h (hS.sub .ii) fun a h=>t_take_off 9 (bA 17 1023) rfl rfl rfl rfl (.inl (congrArg Value.bool (Bool.eq_false_iff.2 hc_3))) rfl rfl h (hS.sub .ii) fun a h=>t_take_off 10 (bA 17 2047) rfl rfl rfl rfl (.inl (congrArg Value.bool (Bool.eq_false_iff.2 hc_3))) rfl rfl h (hS.sub .ii) fun a h=>t_take_off 11 (bA 17 4095) rfl rfl rfl rfl (.inl (congrArg Value.bool (Bool.eq_false_iff.2 hc_3))) rfl rfl h (hS.sub .ii) fun a h=>t_take_off 12 (bA 17 8191) rfl rfl rfl rfl (.inl (congrArg Value.bool (Bool.eq_false_iff.2 hc_3))) rfl rfl h (hS.sub .ii) fun a h=>t_take_off 13 (bA 17 16383) rfl rfl rfl rfl (.inl (congrArg Value.bool (Bool.eq_false_iff.2 hc_3))) rfl rfl h (hS.sub .ii) fun a h=>?_
  refine t_take_off 14 (bA 17 32767) rfl rfl rfl rfl (.inl (congrArg Value.bool (Bool.eq_false_iff.2 hc_3))) rfl rfl h (hS.sub .ii) fun a h=>t_take 15 (bA 17 65535) rfl rfl rfl rfl h (hS.sub .ii) (v := .bool false) (fun w hS => r_pick_f h rfl (Bool.eq_false_iff.2 hc_3) rfl) fun a h=>t_take 16 (bA 17 131071) rfl rfl rfl rfl h (hS.sub .ii) (v := .bool false) (fun w hS => r_assign h rfl) fun a h=>h_done (by kernel_rfl) <| x_then_n (hKJ_1 _ _ ?_)
  refine wp_ret ?_
  obtain rfl := Option.some.inj H
  exact f_ret h (rs := [.tmp 2]) rfl (.tmp rfl .nil) ⟨_, rfl, Mem.no, rfl, (Sep.sel hS [0, 1] (by decide))⟩

set_option maxHeartbeats 4000000 in
set_option maxRecDepth 20000 in
theorem gath_without_1.calls (x0 : Int) (g1 : Nat) (x1_ : Int) (r : Bool) (w0 w : World) (Z A : Mem) (hA : A.le Z) (hS : Sep w0 w [Mem.one g1 (.cells ([iV x1_] : List Value).toArray 3 (0, 0))] Z)
    (H : gath_without_1.f x0 x1_ = some r) :
    Calls Try.prog 39 [iV x0, .pointer (some ⟨g1, 0, none⟩)].toArray w (Ret fun v w' => ∃ (N : Mem), v = .bool r ∧ Sep w0 w' [N, Mem.one g1 (.cells ([iV x1_] : List Value).toArray 3 (0, 0))] Z) := by
 unfold gath_without_1.f at H
 refine f_enter _ Try.func39 rfl Try.ntmps39 rfl fun a h=>?_
 replace h : Fr 9 a [(0, iV x0), (1, .pointer (some ⟨g1, 0, none⟩))] := h
 replace hS := hS.start
 replace hS : Sep w0 w [_, _] Z := hS
 refine wp_seq <| wp_region_lit <| s_assign h rfl rfl fun a h=>wpList_nil <| x_then_n <| wp_seq <| wp_region_lit <| s_load h rfl rfl (hS.load_one (p := 1) rfl U3 rfl rfl) fun a h=>s_move h rfl rfl fun a h=>?_
 obtain ⟨u_1, eu_1, H⟩ := Option.bind_eq_some_iff.1 H
 refine s_shift (r := shr .i64 x1_ x0) h rfl rfl rfl (must_some eu_1) (.inr ⟨rfl, rfl⟩) fun a h=>s_bits (i := shr .i64 x1_ x0) (j := 1) (r := band .i64 (shr .i64 x1_ x0) 1) h rfl rfl rfl (.inl ⟨rfl, rfl⟩) fun a h=>s_cmp (b := ((band .i64 (shr .i64 x1_ x0) 1) == 1)) h rfl rfl rfl (.inl ⟨rfl, rfl⟩) fun a h=>s_assign h rfl rfl fun a h=>wpList_nil <| x_then_n <| wp_ret ?_
 obtain rfl := Option.some.inj H
 exact f_ret h (rs := [.tmp 3]) rfl (.tmp rfl .nil) ⟨_, rfl, Mem.no, rfl, (Sep.sel hS [0, 1] (by decide))⟩

set_option maxHeartbeats 4000000 in
set_option maxRecDepth 20000 in
theorem slices_IndexFunc_sint_int_39.calls (K : Nat) (x0 : List Int) (p0_0 : Value) (g2 : Nat) (x2_ : Int) (r : Int) (w0 w : World) (Z A : Mem) (hA : A.le Z) (hS : Sep w0 w [Mem.one g2 (.cells ([iV x2_] : List Value).toArray 3 (0, 0))] Z) (hp0_0 : Rd (Kd.int .i64) A p0_0 x0)
    (H : slices_IndexFunc_sint_int_39.f K x0 x2_ = some r) :
    Calls Try.prog 42 [p0_0, .func (.func 39) #[] [.pointer (some ⟨g2, 0, none⟩)].toArray].toArray w (Ret fun v w' => ∃ (N : Mem), v = iV r ∧ Sep w0 w' [N, Mem.one g2 (.cells ([iV x2_] : List Value).toArray 3 (0, 0))] Z) := by
 unfold slices_IndexFunc_sint_int_39.f at H
 refine f_enter _ Try.func42 rfl Try.ntmps42 rfl fun a h=>?_
 replace h : Fr 19 a [(0, p0_0), (1, .func (.func 39) #[] [.pointer (some ⟨g2, 0, none⟩)].toArray)] := h
 replace hS := hS.start
 replace hS : Sep w0 w [_, _] Z := hS
 refine wp_seq <| wp_region_lit <| s_assign h rfl rfl fun a h=>wpList_nil <| x_then_n <| c_seq fun KJ_1 hKJ_1 => wp_seq <| wp_region_lit <| s_move h rfl rfl fun a h=>s_len h rfl U23 rfl hp0_0 fun a h=>s_move h rfl rfl fun a h=>wpList_nil <| x_then_n ?_
 have hJ_j_4 : slices_IndexFunc_sint_int_39.J1 K = some r → ∀ (a : Act) (w_3 : World), (∃ (N_2 : Mem), Fr 19 a [(4, iV 0)] ∧ Sep w0 w_3 [N_2, Mem.one g2 (.cells ([iV x2_] : List Value).toArray 3 (0, 0))] Z ∧ Mem.no.le N_2) → KJ_1 a w_3 := by
  clear H h hS a
  rintro H a w_3 ⟨N_2, h, hS, le_2⟩
  unfold slices_IndexFunc_sint_int_39.J1 at H
  refine hKJ_1 _ _ <| wp_seq <| wp_region_lit <| s_assign h rfl rfl fun a h=>wpList_nil <| x_then_n <| wp_ret ?_
  obtain rfl := Option.some.inj H
  exact f_ret h (rs := [.tmp 4]) rfl (.tmp rfl .nil) ⟨_, rfl, N_2, rfl, (Sep.sel hS [0, 1] (by decide))⟩
 clear hKJ_1
 replace hS : Sep w0 w [_, _] Z := hS
 replace h : Fr 19 a [(0, _), (1, _), (4, iV 0), (7, iV (x0.length : Int)), (8, iV 0)] := h.keep [0, 1, 4, 7, 8]
 refine c_block <| c_loop (fun k_7 a w_7 => ∃ (x_6 : Int) (N_5 : Mem), slices_IndexFunc_sint_int_39.L1 K x0 x2_ (fun v => slices_IndexFunc_sint_int_39.J1 K) k_7 x_6 = some r ∧ Fr 19 a [(0, p0_0), (1, .func (.func 39) #[] [.pointer (some ⟨g2, 0, none⟩)].toArray), (4, iV 0), (7, iV (x0.length : Int)), (8, iV x_6)] ∧ Sep w0 w_7 [N_5, Mem.one g2 (.cells ([iV x2_] : List Value).toArray 3 (0, 0))] Z ∧ Mem.no.le N_5) K ⟨0, Mem.no, H, h, (Sep.sel hS [0, 1] (by decide)), (Mem.le.refl _)⟩ (fun a w h => by obtain ⟨_, _, H, _⟩ := h; cases (show (none : Option (Int)) = some r from H)) ?_
 clear h hS a H
 rintro k_7 a w_7 KL_7 hKL_7 ⟨x_6, N_5, H, h, hS, le_5⟩
 replace H : slices_IndexFunc_sint_int_39.B1 K x0 x2_ (fun v => slices_IndexFunc_sint_int_39.J1 K) (slices_IndexFunc_sint_int_39.L1 K x0 x2_ (fun v => slices_IndexFunc_sint_int_39.J1 K) k_7) x_6 = some r := H
 unfold slices_IndexFunc_sint_int_39.B1 at H
 refine wp_seq <| wp_region_lit <| s_cmp (b := decide (x_6 < (x0.length : Int))) h rfl rfl rfl (.inr (.inr (.inl ⟨rfl, rfl⟩))) fun a h=>wpList_nil <| x_then_n <| c_seq fun KJ_9 hKJ_9 => ?_
 by_cases hc_10 : x_6 < (x0.length : Int)
 ·rw [if_pos hc_10] at H
  refine c_cond_t h rfl (decide_eq_true hc_10) <| wp_skip <| x_then_n (hKJ_9 _ _ ?_)
  refine c_seq fun KJ_11 hKJ_11 => c_block <| wp_seq <| wp_region_lit <| s_move h rfl rfl fun a h=>s_assign h rfl rfl fun a h=>wpList_nil ?_
  replace h : Fr 19 a [(0, _), (1, _), (4, _), (5, iV x_6), (7, _), (8, _)] := h.keep [0, 1, 4, 5, 7, 8]
  refine x_then_n <| wp_seq <| wp_region_lit <| s_move h rfl rfl fun a h=>s_move h rfl rfl fun a h=>s_move h rfl rfl fun a h=>?_
  obtain ⟨t_12, et_12, H⟩ := Option.bind_eq_some_iff.1 H
  refine v_index h rfl U23 ti3 rfl rfl rfl hp0_0 (hA.trans hS.old) et_12 fun ad_13 cs_14 hk_15 hc_16 => ?_
  obtain rfl := (show cs_14 = [iV t_12] from hk_15)
  intro a h
  refine s_load h rfl rfl (el_one (o := 0) hc_16 U3 rfl rfl) fun a h=>?_
  obtain ⟨t_17, et_17, H⟩ := Option.bind_eq_some_iff.1 H
  refine s_callv h rfl rfl Try.call39 rfl (gath_without_1.calls t_12 _ x2_ t_17 w0 _ _ _ (Mem.le.refl _) (hS.enter [0] (by decide))  et_17) ?_
  rintro _ w_18 ⟨N_19, rfl, hS'⟩
  intro a h
  obtain ⟨N_20, hS'', le_20, ln_20⟩ := hS.call [0] (by decide) rfl (l' := [Mem.one g2 (.cells ([iV x2_] : List Value).toArray 3 (0, 0))]) (ow := []) rfl hS'
  replace hS : Sep w0 w_18 [N_20, _] Z := hS''
  clear hS' hS''
  refine wpList_nil <| x_then_n ?_
  by_cases hc_21 : t_17 = true
  ·rw [if_pos hc_21] at H
   refine c_cond_t h rfl hc_21 <| wp_seq <| wp_region_lit <| s_move h rfl rfl fun a h=>s_assign h rfl rfl fun a h=>wpList_nil <| x_then_n <| wp_ret (x_block_r (x_then_r (x_then_r (x_block_r (x_then_r ?_)))))
   obtain rfl := Option.some.inj H
   exact f_ret h (rs := [.tmp 4]) rfl (.tmp rfl .nil) ⟨_, rfl, N_20, rfl, (Sep.sel hS [0, 1] (by decide))⟩
  ·rw [if_neg hc_21] at H
   refine c_cond_f h rfl (Bool.eq_false_iff.2 hc_21) <| wp_skip <| x_block_n <| x_then_n (hKJ_11 _ _ ?_)
   refine wp_region_lit <| s_arith (r := w64 (x_6 + 1)) h rfl rfl rfl (.inl ⟨rfl, rfl⟩) fun a h=>s_move h rfl rfl fun a h=>wpList_nil <| x_then_n (hKL_7 _ _ ?_)
   replace hS : Sep w0 w_18 [_, _] Z := hS
   replace h : Fr 19 a [(0, _), (1, _), (4, _), (7, _), (8, iV (w64 (x_6 + 1)))] := h.keep [0, 1, 4, 7, 8]
   exact ⟨w64 (x_6 + 1), N_20, H, h, (Sep.sel hS [0, 1] (by decide)), (le_5.trans le_20)⟩
 ·rw [if_neg hc_10] at H
  refine c_cond_f h rfl (decide_eq_false hc_10) <| wp_exit (x_then_x (x_then_x (x_block_t ?_)))
  replace hS : Sep w0 w_7 [_, _] Z := hS
  replace h : Fr 19 a [(4, _)] := h.keep [4]
  exact x_then_n (hJ_j_4  H _ _ ⟨N_5, h, (Sep.sel hS [0, 1] (by decide)), le_5⟩)

set_option maxHeartbeats 4000000 in
set_option maxRecDepth 20000 in
theorem slices_DeleteFunc_sint_int_39.calls (K : Nat) (x0 : List Int) (p0_0 : Value) (M0_0 : Mem) (g2 : Nat) (x2_ : Int) (r : (List Int)) (w0 w : World) (Z A : Mem) (hA : A.le Z) (hS : Sep w0 w [M0_0, Mem.one g2 (.cells ([iV x2_] : List Value).toArray 3 (0, 0))] Z) (hp0_0 : Own (Kd.int .i64) 3 M0_0 Mem.no p0_0 x0)
    (H : slices_DeleteFunc_sint_int_39.f K x0 x2_ = some r) :
    Calls Try.prog 37 [p0_0, .func (.func 39) #[] [.pointer (some ⟨g2, 0, none⟩)].toArray].toArray w (Ret fun v w' => ∃ (u0 : Value) (N : Mem) (M0 : Mem), v = u0 ∧ Sep w0 w' [N, Mem.no, Mem.one g2 (.cells ([iV x2_] : List Value).toArray 3 (0, 0)), M0] Z ∧ Own (Kd.int .i64) 3 M0 Mem.no u0 r) := by
 unfold slices_DeleteFunc_sint_int_39.f at H
 refine f_enter _ Try.func37 rfl Try.ntmps37 rfl fun a h=>?_
 replace h : Fr 42 a [(0, p0_0), (1, .func (.func 39) #[] [.pointer (some ⟨g2, 0, none⟩)].toArray)] := h
 replace hS := hS.start
 replace hS : Sep w0 w [_, _, _] Z := hS
 refine wp_seq <| wp_region_lit <| s_assign h rfl rfl fun a h=>wpList_nil <| x_then_n <| wp_seq <| wp_region_lit <| s_move h rfl rfl fun a h=>s_move h rfl rfl fun a h=>?_
 obtain ⟨t_1, et_1, H⟩ := Option.bind_eq_some_iff.1 H
 refine s_call h rfl Try.call42 rfl (slices_IndexFunc_sint_int_39.calls K x0 _ _ x2_ t_1 w0 _ _ _ (Mem.le.refl _) (hS.enter [1] (by decide)) (hp0_0.rd (hS.own_zed [1] 0 (by decide)) (Mem.no_le _)) et_1) ?_
 rintro _ w_2 ⟨N_3, rfl, hS'⟩
 intro a h
 obtain ⟨N_4, hS'', le_4, ln_4⟩ := hS.call [1] (by decide) rfl (l' := [Mem.one g2 (.cells ([iV x2_] : List Value).toArray 3 (0, 0))]) (ow := []) rfl hS'
 replace hS : Sep w0 w_2 [N_4, _, _] Z := hS''
 clear hS' hS''
 refine s_assign h rfl rfl fun a h=>wpList_nil <| x_then_n <| c_seq fun KJ_5 hKJ_5 => wp_seq <| wp_region_lit <| s_move h rfl rfl fun a h=>s_cmp (b := (t_1 == (-1))) h rfl rfl rfl (.inl ⟨rfl, rfl⟩) fun a h=>wpList_nil <| x_then_n ?_
 by_cases hc_6 : t_1 = (-1)
 ·rw [if_pos hc_6] at H
  refine c_cond_t h rfl (beq_iff_eq.2 hc_6) <| wp_seq <| wp_region_lit <| s_move h rfl rfl fun a h=>s_assign h rfl rfl fun a h=>wpList_nil ?_
  replace h : Fr 42 a [(0, _), (1, _), (4, p0_0), (5, iV t_1)] := h.keep [0, 1, 4, 5]
  refine x_then_n <| wp_ret (x_then_r ?_)
  obtain rfl := Option.some.inj H
  exact f_ret h (rs := [.tmp 4]) rfl (.tmp rfl .nil) ⟨_, rfl, p0_0, N_4, M0_0, rfl, (Sep.sel hS [0, 1000, 2, 1] (by decide)), hp0_0⟩
 ·rw [if_neg hc_6] at H
  refine c_cond_f h rfl (beq_eq_false_iff_ne.2 hc_6) <| wp_skip <| x_then_n (hKJ_5 _ _ ?_)
  refine c_seq fun KJ_7 hKJ_7 => wp_seq <| wp_region_lit <| s_move h rfl rfl fun a h=>s_arith (r := w64 (t_1 + 1)) h rfl rfl rfl (.inl ⟨rfl, rfl⟩) fun a h=>s_assign h rfl rfl fun a h=>wpList_nil ?_
  replace h : Fr 42 a [(0, _), (1, _), (4, nS), (5, iV t_1), (6, iV (w64 (t_1 + 1)))] := h.keep [0, 1, 4, 5, 6]
  refine x_then_n ?_
  have hJ_j_16 : ∀ (x_9 : List Int), ∀ (x_14 : Int), slices_DeleteFunc_sint_int_39.J1 K x_9 x_14 = some r → ∀ (a : Act) (w_15 : World), (∃ (v_12 : Value) (N_8 : Mem) (M_10 : Mem), Fr 42 a [(0, v_12), (4, nS), (5, iV x_14)] ∧ Sep w0 w_15 [N_8, M_10, Mem.one g2 (.cells ([iV x2_] : List Value).toArray 3 (0, 0))] Z ∧ N_4.le N_8 ∧ Own (Kd.int .i64) 3 M_10 Mem.no v_12 x_9) → KJ_7 a w_15 := by
   clear H h hS a
   rintro x_9 x_14 H a w_15 ⟨v_12, N_8, M_10, h, hS, le_8, ho_13⟩
   unfold slices_DeleteFunc_sint_int_39.J1 at H
   refine hKJ_7 _ _ <| wp_seq <| wp_region_lit <| s_move h rfl rfl fun a h=>s_move h rfl rfl fun a h=>?_
   obtain ⟨u_17, eu_17, H⟩ := Option.bind_eq_some_iff.1 H
   refine s_piece h rfl U23 ti3 rfl rfl ho_13 (ho_13.room) rfl rfl (must_some eu_17) fun v_18 hq_19 a h => s_clearE (p := 1) (u := 0) h U23 ti3 rfl rfl (show (Kd.int .i64).K _ _ [iV 0] from rfl) rfl ho_13 hq_19 (by have := (must_some eu_17); omega) hS rfl fun w_20 M_21 hS' ho_22 => ?_
   replace hS : Sep w0 w_20 [_, M_21, _] Z := hS'
   clear hS'
   refine wpList_nil <| x_then_n <| wp_seq <| wp_region_lit <| s_move h rfl rfl fun a h=>s_move h rfl rfl fun a h=>?_
   obtain ⟨u_24, eu_24, H⟩ := Option.bind_eq_some_iff.1 H
   refine s_prefix h rfl U23 ti3 rfl rfl ho_22 (must_some eu_24) fun v_25 ho_26 a h => s_assign h rfl rfl fun a h=>wpList_nil <| x_then_n <| wp_ret ?_
   obtain rfl := Option.some.inj H
   exact f_ret h (rs := [.tmp 4]) rfl (.tmp rfl .nil) ⟨_, rfl, v_25, N_8, M_21, rfl, (Sep.sel hS [0, 1000, 2, 1] (by decide)), ho_26⟩
  clear hKJ_7
  replace hS : Sep w0 w_2 [_, _, _] Z := hS
  replace h : Fr 42 a [(0, _), (1, _), (4, _), (5, _), (6, _)] := h.keep [0, 1, 4, 5, 6]
  refine c_block <| c_loop (fun k_36 a w_36 => ∃ (x_29 : List Int) (x_34 : Int) (x_35 : Int) (v_32 : Value) (N_28 : Mem) (M_30 : Mem), slices_DeleteFunc_sint_int_39.L1 K x2_ (fun v => slices_DeleteFunc_sint_int_39.J1 K v.1 v.2) k_36 (x_29, x_34, x_35) = some r ∧ Fr 42 a [(0, v_32), (1, .func (.func 39) #[] [.pointer (some ⟨g2, 0, none⟩)].toArray), (4, nS), (5, iV x_34), (6, iV x_35)] ∧ Sep w0 w_36 [N_28, M_30, Mem.one g2 (.cells ([iV x2_] : List Value).toArray 3 (0, 0))] Z ∧ N_4.le N_28 ∧ Own (Kd.int .i64) 3 M_30 Mem.no v_32 x_29) K ⟨x0, t_1, w64 (t_1 + 1), p0_0, N_4, M0_0, H, h, (Sep.sel hS [0, 1, 2] (by decide)), (Mem.le.refl _), hp0_0⟩ (fun a w h => by obtain ⟨_, _, _, _, _, _, H, _⟩ := h; cases (show (none : Option ((List Int))) = some r from H)) ?_
  clear h hS a H
  rintro k_36 a w_36 KL_36 hKL_36 ⟨x_29, x_34, x_35, v_32, N_28, M_30, H, h, hS, le_28, ho_33⟩
  replace H : slices_DeleteFunc_sint_int_39.B1 K x2_ (fun v => slices_DeleteFunc_sint_int_39.J1 K v.1 v.2) (slices_DeleteFunc_sint_int_39.L1 K x2_ (fun v => slices_DeleteFunc_sint_int_39.J1 K v.1 v.2) k_36) x_29 x_34 x_35 = some r := H
  unfold slices_DeleteFunc_sint_int_39.B1 at H
  refine c_seq fun KJ_38 hKJ_38 => wp_seq <| wp_region_lit <| s_move h rfl rfl fun a h=>s_move h rfl rfl fun a h=>s_lenO h rfl U23 rfl ho_33 fun a h=>s_cmp (b := decide (x_35 < (x_29.length : Int))) h rfl rfl rfl (.inr (.inr (.inl ⟨rfl, rfl⟩))) fun a h=>wpList_nil <| x_then_n ?_
  by_cases hc_39 : x_35 < (x_29.length : Int)
  ·rw [if_pos hc_39] at H
   refine c_cond_t h rfl (decide_eq_true hc_39) <| wp_skip <| x_then_n (hKJ_38 _ _ ?_)
   refine c_seq fun KJ_40 hKJ_40 => c_block <| wp_seq <| wp_region_lit <| s_move h rfl rfl fun a h=>s_move h rfl rfl fun a h=>?_
   obtain ⟨t_41, et_41, H⟩ := Option.bind_eq_some_iff.1 H
   refine v_indexO h rfl U23 ti3 rfl rfl rfl ho_33 (hS.own 1) et_41 fun ad_42 cs_43 hk_44 hc_45 => ?_
   obtain rfl := (show cs_43 = [iV t_41] from hk_44)
   intro a h
   refine s_load h rfl rfl (el_one (o := 0) hc_45 U3 rfl rfl) fun a h=>s_assign h rfl rfl fun a h=>wpList_nil <| x_then_n <| wp_seq <| wp_region_lit <| s_move h rfl rfl fun a h=>s_move h rfl rfl fun a h=>?_
   obtain ⟨t_46, et_46, H⟩ := Option.bind_eq_some_iff.1 H
   refine s_callv h rfl rfl Try.call39 rfl (gath_without_1.calls t_41 _ x2_ t_46 w0 _ _ _ (Mem.le.refl _) (hS.enter [1] (by decide))  et_46) ?_
   rintro _ w_47 ⟨N_48, rfl, hS'⟩
   intro a h
   obtain ⟨N_49, hS'', le_49, ln_49⟩ := hS.call [1] (by decide) rfl (l' := [Mem.one g2 (.cells ([iV x2_] : List Value).toArray 3 (0, 0))]) (ow := []) rfl hS'
   replace hS : Sep w0 w_47 [N_49, _, _] Z := hS''
   clear hS' hS''
   refine s_not h rfl rfl fun a h=>wpList_nil <| x_then_n ?_
   by_cases hc_50 : t_46 = true
   ·rw [if_pos hc_50] at H
    refine c_cond_f h rfl (nf hc_50) <| wp_skip <| x_block_n <| x_then_n (hKJ_40 _ _ ?_)
    refine wp_region_lit <| s_move h rfl rfl fun a h=>s_arith (r := w64 (x_35 + 1)) h rfl rfl rfl (.inl ⟨rfl, rfl⟩) fun a h=>s_assign h rfl rfl fun a h=>wpList_nil ?_
    replace h : Fr 42 a [(0, _), (1, _), (4, _), (5, _), (6, iV (w64 (x_35 + 1)))] := h.keep [0, 1, 4, 5, 6]
    refine x_then_n (hKL_36 _ _ ?_)
    replace hS : Sep w0 w_47 [_, _, _] Z := hS
    replace h : Fr 42 a [(0, _), (1, _), (4, _), (5, _), (6, _)] := h.keep [0, 1, 4, 5, 6]
    exact ⟨x_29, x_34, w64 (x_35 + 1), v_32, N_49, M_30, H, h, (Sep.sel hS [0, 1, 2] (by decide)), (le_28.trans le_49), ho_33⟩
   ·rw [if_neg hc_50] at H
    refine c_cond_t h rfl (nt (Bool.eq_false_iff.2 hc_50)) <| wp_seq <| wp_region_lit <| s_move h rfl rfl fun a h=>s_move h rfl rfl fun a h=>s_move h rfl rfl fun a h=>?_
    obtain ⟨t_51, et_51, H⟩ := Option.bind_eq_some_iff.1 H
    refine s_indexOwn h rfl U23 ti3 rfl rfl rfl ho_33 et_51 fun g_52 cur_53 hM_54 a h => ?_
    obtain ⟨w_55, M_56, hs', hS', ho_57⟩ := Own.stored (P := Try.prog) (p := 1) (t := 3) (o := 0) (nv := iV t_41) (vs := [iV t_41]) (u' := t_41) hS rfl ho_33 hM_54 et_51 ti3 rfl rfl rfl (by intro u hu; simp only [List.mem_cons, List.not_mem_nil, or_false] at hu; rcases hu with rfl <;> rfl) (fun cs hk => by obtain rfl := (show cs = [_] from hk); rfl)
    refine s_store h rfl rfl hs' ?_
    replace hS : Sep w0 w_55 [_, M_56, _] Z := hS'
    clear hs' hS'
    refine wpList_nil ?_
    replace h : Fr 42 a [(0, _), (1, _), (4, _), (5, _), (6, _)] := h.keep [0, 1, 4, 5, 6]
    refine x_then_n <| wp_region_lit <| s_move h rfl rfl fun a h=>s_arith (r := w64 (x_34 + 1)) h rfl rfl rfl (.inl ⟨rfl, rfl⟩) fun a h=>s_assign h rfl rfl fun a h=>wpList_nil <| x_block_n <| x_then_n (hKJ_40 _ _ ?_)
    refine wp_region_lit <| s_move h rfl rfl fun a h=>s_arith (r := w64 (x_35 + 1)) h rfl rfl rfl (.inl ⟨rfl, rfl⟩) fun a h=>s_assign h rfl rfl fun a h=>wpList_nil <| x_then_n (hKL_36 _ _ ?_)
    replace hS : Sep w0 w_55 [_, _, _] Z := hS
    replace h : Fr 42 a [(0, _), (1, _), (4, _), (5, iV (w64 (x_34 + 1))), (6, iV (w64 (x_35 + 1)))] := h.keep [0, 1, 4, 5, 6]
    exact ⟨(x_29.set (x_34).toNat t_41), w64 (x_34 + 1), w64 (x_35 + 1), v_32, N_49, M_56, H, h, (Sep.sel hS [0, 1, 2] (by decide)), (le_28.trans le_49), ho_57⟩
  ·rw [if_neg hc_39] at H
   refine c_cond_f h rfl (decide_eq_false hc_39) <| wp_exit (x_then_x (x_then_x (x_block_t ?_)))
   replace hS : Sep w0 w_36 [_, _, _] Z := hS
   replace h : Fr 42 a [(0, _), (4, _), (5, _)] := h.keep [0, 4, 5]
   exact x_then_n (hJ_j_16 x_29 x_34 H _ _ ⟨v_32, N_28, M_30, h, (Sep.sel hS [0, 1, 2] (by decide)), le_28, ho_33⟩)

set_option maxHeartbeats 4000000 in
set_option maxRecDepth 20000 in
theorem gath_without.calls (K : Nat) (x0 : Int) (x1 : Int) (r : (List Int)) (w0 w : World) (Z A : Mem) (hA : A.le Z) (hS : Sep w0 w [] Z)
    (H : gath_without.f K x0 x1 = some r) :
    Calls Try.prog 29 [iV x0, iV x1].toArray w (Ret fun v w' => ∃ (u0 : Value) (N : Mem) (M0 : Mem), v = u0 ∧ Sep w0 w' [N, M0] Z ∧ Own (Kd.int .i64) 3 M0 Mem.no u0 r) := by
 unfold gath_without.f at H
 refine f_enter _ Try.func29 rfl Try.ntmps29 rfl fun a h=>?_
 replace h : Fr 9 a [(0, iV x0), (1, iV x1)] := h
 replace hS := hS.start
 replace hS : Sep w0 w [_] Z := hS
 refine wp_seq <| wp_region_lit <| v_box (vs := [iV x1]) h rfl rfl rfl hS fun w_1 g_2 hS' a h => ?_
 replace hS : Sep w0 w_1 [_, Mem.one g_2 (.cells ([iV x1] : List Value).toArray 3 (0, 0))] Z := hS'
 clear hS'
 refine s_assign h rfl rfl fun a h=>wpList_nil <| x_then_n <| wp_seq <| wp_region_lit <| s_move h rfl rfl fun a h=>?_
 obtain ⟨t_3, et_3, H⟩ := Option.bind_eq_some_iff.1 H
 refine s_call h rfl Try.call38 rfl (view_Members.calls K x0 t_3 w0 _ _ _ (Mem.le.refl _) (hS.enter [] (by decide))  et_3) ?_
 rintro v_7 w_4 ⟨_, N_5, M_9, rfl, hS', hr_8⟩
 intro a h
 obtain ⟨N_6, hS'', le_6, ln_6⟩ := hS.call [] (by decide) rfl (l' := []) (ow := [M_9]) rfl hS'
 replace hS : Sep w0 w_4 [N_6, _, M_9] Z := hS''
 clear hS' hS''
 refine s_func h rfl rfl fun a h=>?_
 obtain ⟨t_11, et_11, H⟩ := Option.bind_eq_some_iff.1 H
 refine s_call h rfl Try.call37 rfl (slices_DeleteFunc_sint_int_39.calls K t_3 _ _ _ x1 t_11 w0 _ _ _ (Mem.le.refl _) (hS.enter [1, 0] (by decide)) hr_8 et_11) ?_
 rintro v_15 w_12 ⟨_, N_13, M_17, rfl, hS', hr_16⟩
 intro a h
 obtain ⟨N_14, hS'', le_14, ln_14⟩ := hS.call [1, 0] (by decide) rfl (l' := [Mem.no, Mem.one g_2 (.cells ([iV x1] : List Value).toArray 3 (0, 0))]) (ow := [M_17]) rfl hS'
 replace hS : Sep w0 w_12 [N_14, _, Mem.no, M_17] Z := hS''
 clear hS' hS''
 refine s_assign h rfl rfl fun a h=>wpList_nil <| x_then_n <| wp_ret ?_
 obtain rfl := Option.some.inj H
 exact f_ret h (rs := [.tmp 4]) rfl (.tmp rfl .nil) ⟨_, rfl, v_15, N_14, M_17, rfl, (Sep.sel hS [0, 3] (by decide)), hr_16⟩

set_option maxHeartbeats 4000000 in
set_option maxRecDepth 20000 in
theorem gath_Gather_Unready.calls (K : Nat) (g0 : Nat) (x0_n : Int) (x0_id : Int) (x0_v : Int) (x0_l : List api_Msg) (p0_0 : Value) (x0_come : Int) (x0_ready : Int) (x0_commit_Kind : Int) (x0_commit_From : Int) (x0_commit_To : Int) (x0_commit_View : Int) (x0_commit_Inst : Int) (x0_commit_Len : Int) (x0_commit_Has : Bool) (x0_commit_Members : Int) (x0_commit_Source : Int) (x0_commit_At : Int) (x0_commit_Total : Int) (x0_commit_Data : List UInt8) (p0_1 : Value) (x0_commit_Hop : Int) (x0_commit_Seq : Int) (x0_commit_Have : List Int) (p0_2 : Value) (x0_commit_Need : List Int) (p0_3 : Value) (x0_commit_Index : Int) (x0_commit_Entry_Sess : Int) (x0_commit_Entry_Seq : Int) (x0_commit_Entry_Cmd_Kind : Int) (x0_commit_Entry_Cmd_Who : Int) (x0_commit_Entry_Cmd_Key : List UInt8) (p0_4 : Value) (x0_commit_Entry_Cmd_Val : List UInt8) (p0_5 : Value) (x0_commit_Entry_Cmd_Old : List UInt8) (p0_6 : Value) (x0_is : Bool) (r : (List Int)) (w0 w : World) (Z A : Mem) (hA : A.le Z) (hS : Sep w0 w [Mem.one g0 (.cells ([iV x0_n, iV x0_id, iV x0_v, p0_0, iV x0_come, iV x0_ready, iV x0_commit_Kind, iV x0_commit_From, iV x0_commit_To, iV x0_commit_View, iV x0_commit_Inst, iV x0_commit_Len, .bool x0_commit_Has, iV x0_commit_Members, iV x0_commit_Source, iV x0_commit_At, iV x0_commit_Total, p0_1, iV x0_commit_Hop, iV x0_commit_Seq, p0_2, p0_3, iV x0_commit_Index, iV x0_commit_Entry_Sess, iV x0_commit_Entry_Seq, iV x0_commit_Entry_Cmd_Kind, iV x0_commit_Entry_Cmd_Who, p0_4, p0_5, p0_6, .bool x0_is] : List Value).toArray 47 (0, 0))] Z) (hp0_0 : Rd k_api_Msg A p0_0 x0_l) (hp0_1 : Rd Kd.u8 A p0_1 x0_commit_Data) (hp0_2 : Rd (Kd.int .i64) A p0_2 x0_commit_Have) (hp0_3 : Rd (Kd.int .i64) A p0_3 x0_commit_Need) (hp0_4 : Rd Kd.u8 A p0_4 x0_commit_Entry_Cmd_Key) (hp0_5 : Rd Kd.u8 A p0_5 x0_commit_Entry_Cmd_Val) (hp0_6 : Rd Kd.u8 A p0_6 x0_commit_Entry_Cmd_Old)
    (H : gath_Gather_Unready.f K x0_n x0_id x0_v x0_l x0_come x0_ready x0_commit_Kind x0_commit_From x0_commit_To x0_commit_View x0_commit_Inst x0_commit_Len x0_commit_Has x0_commit_Members x0_commit_Source x0_commit_At x0_commit_Total x0_commit_Data x0_commit_Hop x0_commit_Seq x0_commit_Have x0_commit_Need x0_commit_Index x0_commit_Entry_Sess x0_commit_Entry_Seq x0_commit_Entry_Cmd_Kind x0_commit_Entry_Cmd_Who x0_commit_Entry_Cmd_Key x0_commit_Entry_Cmd_Val x0_commit_Entry_Cmd_Old x0_is = some r) :
    Calls Try.prog 18 [.pointer (some ⟨g0, 0, none⟩)].toArray w (Ret fun v w' => ∃ (u0 : Value) (N : Mem) (M0 : Mem), v = u0 ∧ Sep w0 w' [N, Mem.one g0 (.cells ([iV x0_n, iV x0_id, iV x0_v, p0_0, iV x0_come, iV x0_ready, iV x0_commit_Kind, iV x0_commit_From, iV x0_commit_To, iV x0_commit_View, iV x0_commit_Inst, iV x0_commit_Len, .bool x0_commit_Has, iV x0_commit_Members, iV x0_commit_Source, iV x0_commit_At, iV x0_commit_Total, p0_1, iV x0_commit_Hop, iV x0_commit_Seq, p0_2, p0_3, iV x0_commit_Index, iV x0_commit_Entry_Sess, iV x0_commit_Entry_Seq, iV x0_commit_Entry_Cmd_Kind, iV x0_commit_Entry_Cmd_Who, p0_4, p0_5, p0_6, .bool x0_is] : List Value).toArray 47 (0, 0)), M0] Z ∧ Own (Kd.int .i64) 3 M0 Mem.no u0 r) := by
 unfold gath_Gather_Unready.f at H
 refine f_enter _ Try.func18 rfl Try.ntmps18 rfl fun a h=>?_
 replace h : Fr 13 a [(0, .pointer (some ⟨g0, 0, none⟩))] := h
 replace hS := hS.start
 replace hS : Sep w0 w [_, _] Z := hS
 refine wp_seq <| wp_region_lit <| s_assign h rfl rfl fun a h=>wpList_nil <| x_then_n <| c_seq fun KJ_1 hKJ_1 => h_begin (S := fun w => Sep w0 w [Mem.no, Mem.one g0 (.cells ([iV x0_n, iV x0_id, iV x0_v, p0_0, iV x0_come, iV x0_ready, iV x0_commit_Kind, iV x0_commit_From, iV x0_commit_To, iV x0_commit_View, iV x0_commit_Inst, iV x0_commit_Len, .bool x0_commit_Has, iV x0_commit_Members, iV x0_commit_Source, iV x0_commit_At, iV x0_commit_Total, p0_1, iV x0_commit_Hop, iV x0_commit_Seq, p0_2, p0_3, iV x0_commit_Index, iV x0_commit_Entry_Sess, iV x0_commit_Entry_Seq, iV x0_commit_Entry_Cmd_Kind, iV x0_commit_Entry_Cmd_Who, p0_4, p0_5, p0_6, .bool x0_is] : List Value).toArray 47 (0, 0))] Z) 11 (by kernel_rfl) rfl (bA 11 0) (by kernel_rfl) hS fun w_2 hS => ?_
 replace hS : Sep w0 w_2 [_, _] Z := hS
 refine t_take 0 (bA 11 1) rfl rfl rfl rfl h (hS.sub .ii) (v := .pointer (some ⟨g0, 0, none⟩)) (fun w hS => r_move h rfl) fun a h=>t_take 1 (bA 11 3) rfl rfl rfl rfl h (hS.sub .ii) (v := .pointer (some ⟨g0, 0, none⟩)) (fun w hS => r_nilCheck h rfl) fun a h=>t_take 2 (bA 11 7) rfl rfl rfl rfl h (hS.sub .ii) (v := .pointer (some ⟨g0, 6, none⟩)) (fun w hS => r_fieldAddr h U47 rfl ti29 rfl rfl rfl) fun a h=>t_take 3 (bA 11 15) rfl rfl rfl rfl h (hS.sub .ii) (v := .pointer (some ⟨g0, 13, none⟩)) (fun w hS => r_fieldAddr h U29 rfl ti3 rfl rfl rfl) fun a h=>t_take 4 (bA 11 31) rfl rfl rfl rfl h (hS.sub .ii) (v := iV x0_commit_Members) (fun w hS => r_load h rfl (hS.load_one (p := 1) rfl U3 rfl rfl)) fun a h=>t_take 5 (bA 11 63) rfl rfl rfl rfl h (hS.sub .ii) (v := .pointer (some ⟨g0, 0, none⟩)) (fun w hS => r_move h rfl) fun a h=>?_
 refine t_take 6 (bA 11 127) rfl rfl rfl rfl h (hS.sub .ii) (v := .pointer (some ⟨g0, 0, none⟩)) (fun w hS => r_nilCheck h rfl) fun a h=>t_take 7 (bA 11 255) rfl rfl rfl rfl h (hS.sub .ii) (v := .pointer (some ⟨g0, 5, none⟩)) (fun w hS => r_fieldAddr h U47 rfl ti3 rfl rfl rfl) fun a h=>t_take 8 (bA 11 511) rfl rfl rfl rfl h (hS.sub .ii) (v := iV x0_ready) (fun w hS => r_load h rfl (hS.load_one (p := 1) rfl U3 rfl rfl)) fun a h=>h_event 9 (bA 11 1023) rfl (by kernel_rfl) (by kernel_rfl) ?_
 obtain ⟨t_3, et_3, H⟩ := Option.bind_eq_some_iff.1 H
 refine s_call h rfl Try.call29 rfl (gath_without.calls K x0_commit_Members x0_ready t_3 w0 _ _ _ (Mem.le.refl _) (hS.enter [] (by decide))  et_3) ?_
 rintro v_7 w_4 ⟨_, N_5, M_9, rfl, hS', hr_8⟩
 intro a h
 obtain ⟨N_6, hS'', le_6, ln_6⟩ := hS.call [] (by decide) rfl (l' := []) (ow := [M_9]) rfl hS'
 replace hS : Sep w0 w_4 [N_6, _, M_9] Z := hS''
 clear hS' hS''
 refine wpList_nil <| x_then_n ⟨(hS.sub (.cons le_6 (.rr .nn))), ?_⟩
 refine t_take 10 (bA 11 2047) rfl rfl rfl rfl h (hS.sub (.cons le_6 (.rr .nn))) (v := v_7) (fun w hS => r_assign h rfl) fun a h=>h_done (by kernel_rfl) <| x_then_n (hKJ_1 _ _ ?_)
 refine wp_ret ?_
 obtain rfl := Option.some.inj H
 exact f_ret h (rs := [.tmp 2]) rfl (.tmp rfl .nil) ⟨_, rfl, v_7, N_6, M_9, rfl, (Sep.sel hS [0, 1, 2] (by decide)), hr_8⟩

set_option maxHeartbeats 4000000 in
set_option maxRecDepth 20000 in
theorem gath_Gather_Ready.calls (K : Nat) (g0 : Nat) (x0_n : Int) (x0_id : Int) (x0_v : Int) (x0_l : List api_Msg) (p0_0 : Value) (M0_0 : Mem) (x0_come : Int) (x0_ready : Int) (x0_commit_Kind : Int) (x0_commit_From : Int) (x0_commit_To : Int) (x0_commit_View : Int) (x0_commit_Inst : Int) (x0_commit_Len : Int) (x0_commit_Has : Bool) (x0_commit_Members : Int) (x0_commit_Source : Int) (x0_commit_At : Int) (x0_commit_Total : Int) (x0_commit_Data : List UInt8) (p0_1 : Value) (x0_commit_Hop : Int) (x0_commit_Seq : Int) (x0_commit_Have : List Int) (p0_2 : Value) (x0_commit_Need : List Int) (p0_3 : Value) (x0_commit_Index : Int) (x0_commit_Entry_Sess : Int) (x0_commit_Entry_Seq : Int) (x0_commit_Entry_Cmd_Kind : Int) (x0_commit_Entry_Cmd_Who : Int) (x0_commit_Entry_Cmd_Key : List UInt8) (p0_4 : Value) (x0_commit_Entry_Cmd_Val : List UInt8) (p0_5 : Value) (x0_commit_Entry_Cmd_Old : List UInt8) (p0_6 : Value) (x0_is : Bool) (x1 : Int) (r : Bool × Int × Int × Int × (List api_Msg) × Int × Int × Int × Int × Int × Int × Int × Int × Bool × Int × Int × Int × Int × (List UInt8) × Int × Int × (List Int) × (List Int) × Int × Int × Int × Int × Int × (List UInt8) × (List UInt8) × (List UInt8) × Bool) (w0 w : World) (Z A : Mem) (hA : A.le Z) (hS : Sep w0 w [Mem.one g0 (.cells ([iV x0_n, iV x0_id, iV x0_v, p0_0, iV x0_come, iV x0_ready, iV x0_commit_Kind, iV x0_commit_From, iV x0_commit_To, iV x0_commit_View, iV x0_commit_Inst, iV x0_commit_Len, .bool x0_commit_Has, iV x0_commit_Members, iV x0_commit_Source, iV x0_commit_At, iV x0_commit_Total, p0_1, iV x0_commit_Hop, iV x0_commit_Seq, p0_2, p0_3, iV x0_commit_Index, iV x0_commit_Entry_Sess, iV x0_commit_Entry_Seq, iV x0_commit_Entry_Cmd_Kind, iV x0_commit_Entry_Cmd_Who, p0_4, p0_5, p0_6, .bool x0_is] : List Value).toArray 47 (0, 0)), M0_0] Z) (hp0_0 : Own k_api_Msg 29 M0_0 A p0_0 x0_l) (hp0_1 : Rd Kd.u8 A p0_1 x0_commit_Data) (hp0_2 : Rd (Kd.int .i64) A p0_2 x0_commit_Have) (hp0_3 : Rd (Kd.int .i64) A p0_3 x0_commit_Need) (hp0_4 : Rd Kd.u8 A p0_4 x0_commit_Entry_Cmd_Key) (hp0_5 : Rd Kd.u8 A p0_5 x0_commit_Entry_Cmd_Val) (hp0_6 : Rd Kd.u8 A p0_6 x0_commit_Entry_Cmd_Old)
    (H : gath_Gather_Ready.f K x0_n x0_id x0_v x0_l x0_come x0_ready x0_commit_Kind x0_commit_From x0_commit_To x0_commit_View x0_commit_Inst x0_commit_Len x0_commit_Has x0_commit_Members x0_commit_Source x0_commit_At x0_commit_Total x0_commit_Data x0_commit_Hop x0_commit_Seq x0_commit_Have x0_commit_Need x0_commit_Index x0_commit_Entry_Sess x0_commit_Entry_Seq x0_commit_Entry_Cmd_Kind x0_commit_Entry_Cmd_Who x0_commit_Entry_Cmd_Key x0_commit_Entry_Cmd_Val x0_commit_Entry_Cmd_Old x0_is x1 = some r) :
    Calls Try.prog 12 [.pointer (some ⟨g0, 0, none⟩), iV x1].toArray w (Ret fun v w' => ∃ (u0 : Value) (u1 : Value) (u2 : Value) (u3 : Value) (u4 : Value) (u5 : Value) (u6 : Value) (N : Mem) (M100 : Mem), v = .bool r.1 ∧ Sep w0 w' [N, Mem.one g0 (.cells ([iV r.2.1, iV r.2.2.1, iV r.2.2.2.1, u0, iV r.2.2.2.2.2.1, iV r.2.2.2.2.2.2.1, iV r.2.2.2.2.2.2.2.1, iV r.2.2.2.2.2.2.2.2.1, iV r.2.2.2.2.2.2.2.2.2.1, iV r.2.2.2.2.2.2.2.2.2.2.1, iV r.2.2.2.2.2.2.2.2.2.2.2.1, iV r.2.2.2.2.2.2.2.2.2.2.2.2.1, .bool r.2.2.2.2.2.2.2.2.2.2.2.2.2.1, iV r.2.2.2.2.2.2.2.2.2.2.2.2.2.2.1, iV r.2.2.2.2.2.2.2.2.2.2.2.2.2.2.2.1, iV r.2.2.2.2.2.2.2.2.2.2.2.2.2.2.2.2.1, iV r.2.2.2.2.2.2.2.2.2.2.2.2.2.2.2.2.2.1, u1, iV r.2.2.2.2.2.2.2.2.2.2.2.2.2.2.2.2.2.2.2.1, iV r.2.2.2.2.2.2.2.2.2.2.2.2.2.2.2.2.2.2.2.2.1, u2, u3, iV r.2.2.2.2.2.2.2.2.2.2.2.2.2.2.2.2.2.2.2.2.2.2.2.1, iV r.2.2.2.2.2.2.2.2.2.2.2.2.2.2.2.2.2.2.2.2.2.2.2.2.1, iV r.2.2.2.2.2.2.2.2.2.2.2.2.2.2.2.2.2.2.2.2.2.2.2.2.2.1, iV r.2.2.2.2.2.2.2.2.2.2.2.2.2.2.2.2.2.2.2.2.2.2.2.2.2.2.1, iV r.2.2.2.2.2.2.2.2.2.2.2.2.2.2.2.2.2.2.2.2.2.2.2.2.2.2.2.1, u4, u5, u6, .bool r.2.2.2.2.2.2.2.2.2.2.2.2.2.2.2.2.2.2.2.2.2.2.2.2.2.2.2.2.2.2.2] : List Value).toArray 47 (0, 0)), M100] Z ∧ Own k_api_Msg 29 M100 (A.un N) u0 r.2.2.2.2.1 ∧ Rd Kd.u8 (A.un N) u1 r.2.2.2.2.2.2.2.2.2.2.2.2.2.2.2.2.2.2.1 ∧ Rd (Kd.int .i64) (A.un N) u2 r.2.2.2.2.2.2.2.2.2.2.2.2.2.2.2.2.2.2.2.2.2.1 ∧ Rd (Kd.int .i64) (A.un N) u3 r.2.2.2.2.2.2.2.2.2.2.2.2.2.2.2.2.2.2.2.2.2.2.1 ∧ Rd Kd.u8 (A.un N) u4 r.2.2.2.2.2.2.2.2.2.2.2.2.2.2.2.2.2.2.2.2.2.2.2.2.2.2.2.2.1 ∧ Rd Kd.u8 (A.un N) u5 r.2.2.2.2.2.2.2.2.2.2.2.2.2.2.2.2.2.2.2.2.2.2.2.2.2.2.2.2.2.1 ∧ Rd Kd.u8 (A.un N) u6 r.2.2.2.2.2.2.2.2.2.2.2.2.2.2.2.2.2.2.2.2.2.2.2.2.2.2.2.2.2.2.1) := by
 unfold gath_Gather_Ready.f at H
 refine f_enter _ Try.func12 rfl Try.ntmps12 rfl fun a h=>?_
 replace h : Fr 26 a [(0, .pointer (some ⟨g0, 0, none⟩)), (1, iV x1)] := h
 replace hS := hS.start
 replace hS : Sep w0 w [_, _, _] Z := hS
 refine wp_seq <| wp_region_lit <| s_assign h rfl rfl fun a h=>wpList_nil <| x_then_n <| c_seq fun KJ_1 hKJ_1 => c_seq fun KJ_2 hKJ_2 => ?_
 have hJ_j_6 : ∀ (x_4 : Bool), gath_Gather_Ready.J1 K x0_n x0_id x0_v x0_l x0_come x0_ready x0_commit_Kind x0_commit_From x0_commit_To x0_commit_View x0_commit_Inst x0_commit_Len x0_commit_Has x0_commit_Members x0_commit_Source x0_commit_At x0_commit_Total x0_commit_Data x0_commit_Hop x0_commit_Seq x0_commit_Have x0_commit_Need x0_commit_Index x0_commit_Entry_Sess x0_commit_Entry_Seq x0_commit_Entry_Cmd_Kind x0_commit_Entry_Cmd_Who x0_commit_Entry_Cmd_Key x0_commit_Entry_Cmd_Val x0_commit_Entry_Cmd_Old x0_is x1 x_4 = some r → ∀ (a : Act) (w_5 : World), (∃ (N_3 : Mem), Fr 26 a [(0, .pointer (some ⟨g0, 0, none⟩)), (1, iV x1), (4, .bool false), (16, .bool x_4)] ∧ Sep w0 w_5 [N_3, Mem.one g0 (.cells ([iV x0_n, iV x0_id, iV x0_v, p0_0, iV x0_come, iV x0_ready, iV x0_commit_Kind, iV x0_commit_From, iV x0_commit_To, iV x0_commit_View, iV x0_commit_Inst, iV x0_commit_Len, .bool x0_commit_Has, iV x0_commit_Members, iV x0_commit_Source, iV x0_commit_At, iV x0_commit_Total, p0_1, iV x0_commit_Hop, iV x0_commit_Seq, p0_2, p0_3, iV x0_commit_Index, iV x0_commit_Entry_Sess, iV x0_commit_Entry_Seq, iV x0_commit_Entry_Cmd_Kind, iV x0_commit_Entry_Cmd_Who, p0_4, p0_5, p0_6, .bool x0_is] : List Value).toArray 47 (0, 0)), M0_0] Z ∧ Mem.no.le N_3) → KJ_2 a w_5 := by
  clear H h hS a
  rintro x_4 H a w_5 ⟨N_3, h, hS, le_3⟩
  unfold gath_Gather_Ready.J1 at H
  refine hKJ_2 _ _ ?_
  by_cases hc_7 : x_4 = true
  ·rw [if_pos hc_7] at H
   refine c_cond_t h rfl hc_7 <| wp_seq <| wp_region_lit <| s_assign h rfl rfl fun a h=>wpList_nil <| x_then_n <| wp_ret (x_then_r ?_)
   obtain rfl := Option.some.inj H
   exact f_ret h (rs := [.tmp 4]) rfl (.tmp rfl .nil) ⟨_, rfl, p0_0, p0_1, p0_2, p0_3, p0_4, p0_5, p0_6, N_3, M0_0, rfl, (Sep.sel hS [0, 1, 2] (by decide)), (hp0_0.mono (Mem.le_un _ _)), (hp0_1.mono (Mem.le_un _ _)), (hp0_2.mono (Mem.le_un _ _)), (hp0_3.mono (Mem.le_un _ _)), (hp0_4.mono (Mem.le_un _ _)), (hp0_5.mono (Mem.le_un _ _)), (hp0_6.mono (Mem.le_un _ _))⟩
  ·rw [if_neg hc_7] at H
   refine c_cond_f h rfl (Bool.eq_false_iff.2 hc_7) <| wp_skip <| x_then_n (hKJ_1 _ _ ?_)
   refine c_seq fun KJ_8 hKJ_8 => h_begin (S := fun w => Sep w0 w [N_3, Mem.no, M0_0] Z) 10 (by kernel_rfl) rfl (bA 10 0) (by kernel_rfl) hS fun w_9 hS => ?_
   replace hS : Sep w0 w_9 [_, _, _] Z := hS
   refine t_take 0 (bA 10 1) rfl rfl rfl rfl h (hS.sub (.cons (Mem.le.refl _) (.zz .ii))) (v := .pointer (some ⟨g0, 0, none⟩)) (fun w hS => r_move h rfl) fun a h=>t_take 1 (bA 10 3) rfl rfl rfl rfl h (hS.sub (.cons (Mem.le.refl _) (.zz .ii))) (v := .pointer (some ⟨g0, 0, none⟩)) (fun w hS => r_nilCheck h rfl) fun a h=>t_take 2 (bA 10 7) rfl rfl rfl rfl h (hS.sub (.cons (Mem.le.refl _) (.zz .ii))) (v := .pointer (some ⟨g0, 5, none⟩)) (fun w hS => r_fieldAddr h U47 rfl ti3 rfl rfl rfl) fun a h=>t_take 4 (bA 10 23) rfl rfl rfl rfl h (hS.sub (.cons (Mem.le.refl _) (.zz .ii))) (v := iV x1) (fun w hS => r_move h rfl) fun a h=>?_
   obtain ⟨u_10, eu_10, H⟩ := Option.bind_eq_some_iff.1 H
   refine t_take 5 (bA 10 55) rfl rfl rfl rfl h (hS.sub (.cons (Mem.le.refl _) (.zz .ii))) (v := iV (shl .i64 1 x1)) (fun w hS => r_shift (r := shl .i64 1 x1) h rfl rfl (must_some eu_10) (.inl ⟨rfl, rfl⟩)) fun a h=>h_event 3 (bA 10 63) rfl (by kernel_rfl) (by kernel_rfl) <| s_load h rfl rfl (hS.load_one (p := 1) rfl U3 rfl rfl) fun a h=>wpList_nil <| x_then_n ⟨(hS.sub (.cons (Mem.le.refl _) (.zz .ii))), ?_⟩
   refine t_take 6 (bA 10 127) rfl rfl rfl rfl h (hS.sub (.cons (Mem.le.refl _) (.zz .ii))) (v := iV (bor .i64 x0_ready (shl .i64 1 x1))) (fun w hS => r_bits (i := x0_ready) (j := shl .i64 1 x1) (r := bor .i64 x0_ready (shl .i64 1 x1)) h rfl rfl (.inr (.inl ⟨rfl, rfl⟩))) fun a h=>t_take 7 (bA 10 255) rfl rfl rfl rfl h (hS.sub (.cons (Mem.le.refl _) (.zz .ii))) (v := .pointer (some ⟨g0, 0, none⟩)) (fun w hS => r_nilCheck h rfl) fun a h=>t_take 8 (bA 10 511) rfl rfl rfl rfl h (hS.sub (.cons (Mem.le.refl _) (.zz .ii))) (v := .pointer (some ⟨g0, 5, none⟩)) (fun w hS => r_fieldAddr h U47 rfl ti3 rfl rfl rfl) fun a h=>h_event 9 (bA 10 1023) rfl (by kernel_rfl) (by kernel_rfl) ?_
   obtain ⟨w_11, hs', hS'⟩ := hS.store (P := Try.prog) (p := 1) (o := 5) (t := 3) (v := iV (bor .i64 x0_ready (shl .i64 1 x1))) (vs := [iV (bor .i64 x0_ready (shl .i64 1 x1))]) rfl ti3 rfl rfl rfl (by intro u hu; simp only [List.mem_cons, List.not_mem_nil, or_false] at hu; rcases hu with rfl <;> rfl)
   refine s_store h rfl rfl hs' ?_
   replace hS : Sep w0 w_11 [_, Mem.one g0 (.cells ([_, _, _, _, _, iV (bor .i64 x0_ready (shl .i64 1 x1)), _, _, _, _, _, _, _, _, _, _, _, _, _, _, _, _, _, _, _, _, _, _, _, _, _] : List Value).toArray 47 (0, 0)), _] Z := hS'
   clear hs' hS'
   refine wpList_nil <| x_then_n ⟨(hS.sub (.cons (Mem.le.refl _) (.zz .ii))), ?_⟩
   refine h_done (by kernel_rfl) <| x_then_n (hKJ_8 _ _ ?_)
   refine wp_seq <| wp_region_lit <| s_assign h rfl rfl fun a h=>wpList_nil <| x_then_n <| wp_ret ?_
   obtain rfl := Option.some.inj H
   exact f_ret h (rs := [.tmp 4]) rfl (.tmp rfl .nil) ⟨_, rfl, p0_0, p0_1, p0_2, p0_3, p0_4, p0_5, p0_6, N_3, M0_0, rfl, (Sep.sel hS [0, 1, 2] (by decide)), (hp0_0.mono (Mem.le_un _ _)), (hp0_1.mono (Mem.le_un _ _)), (hp0_2.mono (Mem.le_un _ _)), (hp0_3.mono (Mem.le_un _ _)), (hp0_4.mono (Mem.le_un _ _)), (hp0_5.mono (Mem.le_un _ _)), (hp0_6.mono (Mem.le_un _ _))⟩
 clear hKJ_2
 refine wp_region_lit <| s_move h rfl rfl fun a h=>s_nilCheck h rfl rfl fun a h=>s_fieldAddr h rfl U47 rfl ti4 rfl rfl fun a h=>s_load h rfl rfl (hS.load_one (p := 1) rfl U4 rfl rfl) fun a h=>s_not h rfl rfl fun a h=>s_move h rfl rfl fun a h=>?_
 by_cases hc_12 : x0_is = true
 ·rw [if_pos hc_12] at H
  refine s_on h rfl rfl (nf hc_12) <| s_move h rfl rfl fun a h=>s_on h rfl rfl (nf hc_12) ?_
  obtain ⟨t_13, et_13, H⟩ := Option.bind_eq_some_iff.1 H
  refine s_call h rfl Try.call18 rfl (gath_Gather_Unready.calls K _ x0_n x0_id x0_v x0_l _ x0_come x0_ready x0_commit_Kind x0_commit_From x0_commit_To x0_commit_View x0_commit_Inst x0_commit_Len x0_commit_Has x0_commit_Members x0_commit_Source x0_commit_At x0_commit_Total x0_commit_Data _ x0_commit_Hop x0_commit_Seq x0_commit_Have _ x0_commit_Need _ x0_commit_Index x0_commit_Entry_Sess x0_commit_Entry_Seq x0_commit_Entry_Cmd_Kind x0_commit_Entry_Cmd_Who x0_commit_Entry_Cmd_Key _ x0_commit_Entry_Cmd_Val _ x0_commit_Entry_Cmd_Old _ x0_is t_13 w0 _ _ _ (Mem.le.refl _) (hS.enter [0] (by decide)) (hp0_0.rd (hS.own_zed [0] 1 (by decide)) (hA.trans (hS.le_zed [0]))) (hp0_1.mono (hA.trans (hS.le_zed [0]))) (hp0_2.mono (hA.trans (hS.le_zed [0]))) (hp0_3.mono (hA.trans (hS.le_zed [0]))) (hp0_4.mono (hA.trans (hS.le_zed [0]))) (hp0_5.mono (hA.trans (hS.le_zed [0]))) (hp0_6.mono (hA.trans (hS.le_zed [0]))) et_13) ?_
  rintro v_17 w_14 ⟨_, N_15, M_19, rfl, hS', hr_18⟩
  intro a h
  obtain ⟨N_16, hS'', le_16, ln_16⟩ := hS.call [0] (by decide) rfl (l' := [Mem.one g0 (.cells ([iV x0_n, iV x0_id, iV x0_v, p0_0, iV x0_come, iV x0_ready, iV x0_commit_Kind, iV x0_commit_From, iV x0_commit_To, iV x0_commit_View, iV x0_commit_Inst, iV x0_commit_Len, .bool x0_commit_Has, iV x0_commit_Members, iV x0_commit_Source, iV x0_commit_At, iV x0_commit_Total, p0_1, iV x0_commit_Hop, iV x0_commit_Seq, p0_2, p0_3, iV x0_commit_Index, iV x0_commit_Entry_Sess, iV x0_commit_Entry_Seq, iV x0_commit_Entry_Cmd_Kind, iV x0_commit_Entry_Cmd_Who, p0_4, p0_5, p0_6, .bool x0_is] : List Value).toArray 47 (0, 0))]) (ow := [M_19]) rfl hS'
  replace hS : Sep w0 w_14 [N_16, _, _, M_19] Z := hS''
  clear hS' hS''
  refine s_on h rfl rfl (nf hc_12) <| s_move h rfl rfl fun a h=>s_on h rfl rfl (nf hc_12) ?_
  obtain ⟨t_21, et_21, H⟩ := Option.bind_eq_some_iff.1 H
  refine s_call h rfl Try.call28 rfl (slices_Contains_sint_int.calls K t_13 _ x1 t_21 w0 _ _ _ (Mem.le.refl _) (hS.enter [] (by decide)) (hr_18.rd (hS.own_zed [] 2 (by decide)) (Mem.no_le _)) et_21) ?_
  rintro _ w_22 ⟨N_23, rfl, hS'⟩
  intro a h
  obtain ⟨N_24, hS'', le_24, ln_24⟩ := hS.call [] (by decide) rfl (l' := []) (ow := []) rfl hS'
  replace hS : Sep w0 w_22 [N_24, _, _, _] Z := hS''
  clear hS' hS''
  refine s_on h rfl rfl (nf hc_12) <| s_not h rfl rfl fun a h=>s_pick_f h rfl rfl (nf hc_12) rfl fun a h=>wpList_nil ?_
  replace hS : Sep w0 w_22 [_, _, _, _] Z := hS
  replace h : Fr 26 a [(0, _), (1, _), (4, .bool false), (16, .bool (!t_21))] := h.keep [0, 1, 4, 16]
  exact x_then_n (hJ_j_6 (!t_21) H _ _ ⟨N_24, h, (Sep.sel hS [0, 1, 2] (by decide)), (le_16.trans le_24)⟩)
 ·rw [if_neg hc_12] at H
  refine s_off h rfl rfl rfl (nt (Bool.eq_false_iff.2 hc_12)) fun a h=>s_off h rfl rfl rfl (nt (Bool.eq_false_iff.2 hc_12)) fun a h=>s_off h rfl rfl rfl (nt (Bool.eq_false_iff.2 hc_12)) fun a h=>s_off h rfl rfl rfl (nt (Bool.eq_false_iff.2 hc_12)) fun a h=>s_off h rfl rfl rfl (nt (Bool.eq_false_iff.2 hc_12)) fun a h=>s_pick_t h rfl rfl (nt (Bool.eq_false_iff.2 hc_12)) rfl fun a h=>wpList_nil ?_
  replace hS : Sep w0 w [_, _, _] Z := hS
  replace h : Fr 26 a [(0, _), (1, _), (4, .bool false), (16, .bool true)] := h.keep [0, 1, 4, 16]
  exact x_then_n (hJ_j_6 true H _ _ ⟨Mem.no, h, (Sep.sel hS [0, 1, 2] (by decide)), (Mem.le.refl _)⟩)

set_option maxHeartbeats 4000000 in
set_option maxRecDepth 20000 in
theorem gath_Gather_Absent.calls (K : Nat) (g0 : Nat) (x0_n : Int) (x0_id : Int) (x0_v : Int) (x0_l : List api_Msg) (p0_0 : Value) (x0_come : Int) (x0_ready : Int) (x0_commit_Kind : Int) (x0_commit_From : Int) (x0_commit_To : Int) (x0_commit_View : Int) (x0_commit_Inst : Int) (x0_commit_Len : Int) (x0_commit_Has : Bool) (x0_commit_Members : Int) (x0_commit_Source : Int) (x0_commit_At : Int) (x0_commit_Total : Int) (x0_commit_Data : List UInt8) (p0_1 : Value) (x0_commit_Hop : Int) (x0_commit_Seq : Int) (x0_commit_Have : List Int) (p0_2 : Value) (x0_commit_Need : List Int) (p0_3 : Value) (x0_commit_Index : Int) (x0_commit_Entry_Sess : Int) (x0_commit_Entry_Seq : Int) (x0_commit_Entry_Cmd_Kind : Int) (x0_commit_Entry_Cmd_Who : Int) (x0_commit_Entry_Cmd_Key : List UInt8) (p0_4 : Value) (x0_commit_Entry_Cmd_Val : List UInt8) (p0_5 : Value) (x0_commit_Entry_Cmd_Old : List UInt8) (p0_6 : Value) (x0_is : Bool) (r : (List Int)) (w0 w : World) (Z A : Mem) (hA : A.le Z) (hS : Sep w0 w [Mem.one g0 (.cells ([iV x0_n, iV x0_id, iV x0_v, p0_0, iV x0_come, iV x0_ready, iV x0_commit_Kind, iV x0_commit_From, iV x0_commit_To, iV x0_commit_View, iV x0_commit_Inst, iV x0_commit_Len, .bool x0_commit_Has, iV x0_commit_Members, iV x0_commit_Source, iV x0_commit_At, iV x0_commit_Total, p0_1, iV x0_commit_Hop, iV x0_commit_Seq, p0_2, p0_3, iV x0_commit_Index, iV x0_commit_Entry_Sess, iV x0_commit_Entry_Seq, iV x0_commit_Entry_Cmd_Kind, iV x0_commit_Entry_Cmd_Who, p0_4, p0_5, p0_6, .bool x0_is] : List Value).toArray 47 (0, 0))] Z) (hp0_0 : Rd k_api_Msg A p0_0 x0_l) (hp0_1 : Rd Kd.u8 A p0_1 x0_commit_Data) (hp0_2 : Rd (Kd.int .i64) A p0_2 x0_commit_Have) (hp0_3 : Rd (Kd.int .i64) A p0_3 x0_commit_Need) (hp0_4 : Rd Kd.u8 A p0_4 x0_commit_Entry_Cmd_Key) (hp0_5 : Rd Kd.u8 A p0_5 x0_commit_Entry_Cmd_Val) (hp0_6 : Rd Kd.u8 A p0_6 x0_commit_Entry_Cmd_Old)
    (H : gath_Gather_Absent.f K x0_n x0_id x0_v x0_l x0_come x0_ready x0_commit_Kind x0_commit_From x0_commit_To x0_commit_View x0_commit_Inst x0_commit_Len x0_commit_Has x0_commit_Members x0_commit_Source x0_commit_At x0_commit_Total x0_commit_Data x0_commit_Hop x0_commit_Seq x0_commit_Have x0_commit_Need x0_commit_Index x0_commit_Entry_Sess x0_commit_Entry_Seq x0_commit_Entry_Cmd_Kind x0_commit_Entry_Cmd_Who x0_commit_Entry_Cmd_Key x0_commit_Entry_Cmd_Val x0_commit_Entry_Cmd_Old x0_is = some r) :
    Calls Try.prog 15 [.pointer (some ⟨g0, 0, none⟩)].toArray w (Ret fun v w' => ∃ (u0 : Value) (N : Mem) (M0 : Mem), v = u0 ∧ Sep w0 w' [N, Mem.one g0 (.cells ([iV x0_n, iV x0_id, iV x0_v, p0_0, iV x0_come, iV x0_ready, iV x0_commit_Kind, iV x0_commit_From, iV x0_commit_To, iV x0_commit_View, iV x0_commit_Inst, iV x0_commit_Len, .bool x0_commit_Has, iV x0_commit_Members, iV x0_commit_Source, iV x0_commit_At, iV x0_commit_Total, p0_1, iV x0_commit_Hop, iV x0_commit_Seq, p0_2, p0_3, iV x0_commit_Index, iV x0_commit_Entry_Sess, iV x0_commit_Entry_Seq, iV x0_commit_Entry_Cmd_Kind, iV x0_commit_Entry_Cmd_Who, p0_4, p0_5, p0_6, .bool x0_is] : List Value).toArray 47 (0, 0)), M0] Z ∧ Own (Kd.int .i64) 3 M0 Mem.no u0 r) := by
 unfold gath_Gather_Absent.f at H
 refine f_enter _ Try.func15 rfl Try.ntmps15 rfl fun a h=>?_
 replace h : Fr 14 a [(0, .pointer (some ⟨g0, 0, none⟩))] := h
 replace hS := hS.start
 replace hS : Sep w0 w [_, _] Z := hS
 refine wp_seq <| wp_region_lit <| s_assign h rfl rfl fun a h=>wpList_nil <| x_then_n <| c_seq fun KJ_1 hKJ_1 => h_begin (S := fun w => Sep w0 w [Mem.no, Mem.one g0 (.cells ([iV x0_n, iV x0_id, iV x0_v, p0_0, iV x0_come, iV x0_ready, iV x0_commit_Kind, iV x0_commit_From, iV x0_commit_To, iV x0_commit_View, iV x0_commit_Inst, iV x0_commit_Len, .bool x0_commit_Has, iV x0_commit_Members, iV x0_commit_Source, iV x0_commit_At, iV x0_commit_Total, p0_1, iV x0_commit_Hop, iV x0_commit_Seq, p0_2, p0_3, iV x0_commit_Index, iV x0_commit_Entry_Sess, iV x0_commit_Entry_Seq, iV x0_commit_Entry_Cmd_Kind, iV x0_commit_Entry_Cmd_Who, p0_4, p0_5, p0_6, .bool x0_is] : List Value).toArray 47 (0, 0))] Z) 12 (by kernel_rfl) rfl (bA 12 0) (by kernel_rfl) hS fun w_2 hS => ?_
 replace hS : Sep w0 w_2 [_, _] Z := hS
 refine t_take 0 (bA 12 1) rfl rfl rfl rfl h (hS.sub .ii) (v := .pointer (some ⟨g0, 0, none⟩)) (fun w hS => r_move h rfl) fun a h=>t_take 1 (bA 12 3) rfl rfl rfl rfl h (hS.sub .ii) (v := .pointer (some ⟨g0, 0, none⟩)) (fun w hS => r_nilCheck h rfl) fun a h=>t_take 2 (bA 12 7) rfl rfl rfl rfl h (hS.sub .ii) (v := .pointer (some ⟨g0, 0, none⟩)) (fun w hS => r_fieldAddr h U47 rfl ti3 rfl rfl rfl) fun a h=>t_take 3 (bA 12 15) rfl rfl rfl rfl h (hS.sub .ii) (v := iV x0_n) (fun w hS => r_load h rfl (hS.load_one (p := 1) rfl U3 rfl rfl)) fun a h=>?_
 obtain ⟨u_3, eu_3, H⟩ := Option.bind_eq_some_iff.1 H
 refine t_take 4 (bA 12 31) rfl rfl rfl rfl h (hS.sub .ii) (v := iV (shl .i64 1 x0_n)) (fun w hS => r_shift (r := shl .i64 1 x0_n) h rfl rfl (must_some eu_3) (.inl ⟨rfl, rfl⟩)) fun a h=>t_take 5 (bA 12 63) rfl rfl rfl rfl h (hS.sub .ii) (v := iV (w64 ((shl .i64 1 x0_n) - 1))) (fun w hS => r_arith (r := w64 ((shl .i64 1 x0_n) - 1)) h rfl rfl (.inr (.inl ⟨rfl, rfl⟩))) fun a h=>t_take 6 (bA 12 127) rfl rfl rfl rfl h (hS.sub .ii) (v := .pointer (some ⟨g0, 0, none⟩)) (fun w hS => r_move h rfl) fun a h=>t_take 7 (bA 12 255) rfl rfl rfl rfl h (hS.sub .ii) (v := .pointer (some ⟨g0, 0, none⟩)) (fun w hS => r_nilCheck h rfl) fun a h=>t_take 8 (bA 12 511) rfl rfl rfl rfl h (hS.sub .ii) (v := .pointer (some ⟨g0, 4, none⟩)) (fun w hS => r_fieldAddr h U47 rfl ti3 rfl rfl rfl) fun a h=>t_take 9 (bA 12 1023) rfl rfl rfl rfl h (hS.sub .ii) (v := iV x0_come) (fun w hS => r_load h rfl (hS.load_one (p := 1) rfl U3 rfl rfl)) fun a h=>?_
 refine h_event 10 (bA 12 2047) rfl (by kernel_rfl) (by kernel_rfl) ?_
 obtain ⟨t_4, et_4, H⟩ := Option.bind_eq_some_iff.1 H
 refine s_call h rfl Try.call29 rfl (gath_without.calls K (w64 ((shl .i64 1 x0_n) - 1)) x0_come t_4 w0 _ _ _ (Mem.le.refl _) (hS.enter [] (by decide))  et_4) ?_
 rintro v_8 w_5 ⟨_, N_6, M_10, rfl, hS', hr_9⟩
 intro a h
 obtain ⟨N_7, hS'', le_7, ln_7⟩ := hS.call [] (by decide) rfl (l' := []) (ow := [M_10]) rfl hS'
 replace hS : Sep w0 w_5 [N_7, _, M_10] Z := hS''
 clear hS' hS''
 refine wpList_nil <| x_then_n ⟨(hS.sub (.cons le_7 (.rr .nn))), ?_⟩
 refine t_take 11 (bA 12 4095) rfl rfl rfl rfl h (hS.sub (.cons le_7 (.rr .nn))) (v := v_8) (fun w hS => r_assign h rfl) fun a h=>h_done (by kernel_rfl) <| x_then_n (hKJ_1 _ _ ?_)
 refine wp_ret ?_
 obtain rfl := Option.some.inj H
 exact f_ret h (rs := [.tmp 2]) rfl (.tmp rfl .nil) ⟨_, rfl, v_8, N_7, M_10, rfl, (Sep.sel hS [0, 1, 2] (by decide)), hr_9⟩

set_option maxHeartbeats 4000000 in
set_option maxRecDepth 20000 in
theorem gath_Gather_All.calls (K : Nat) (g0 : Nat) (x0_n : Int) (x0_id : Int) (x0_v : Int) (x0_l : List api_Msg) (p0_0 : Value) (x0_come : Int) (x0_ready : Int) (x0_commit_Kind : Int) (x0_commit_From : Int) (x0_commit_To : Int) (x0_commit_View : Int) (x0_commit_Inst : Int) (x0_commit_Len : Int) (x0_commit_Has : Bool) (x0_commit_Members : Int) (x0_commit_Source : Int) (x0_commit_At : Int) (x0_commit_Total : Int) (x0_commit_Data : List UInt8) (p0_1 : Value) (x0_commit_Hop : Int) (x0_commit_Seq : Int) (x0_commit_Have : List Int) (p0_2 : Value) (x0_commit_Need : List Int) (p0_3 : Value) (x0_commit_Index : Int) (x0_commit_Entry_Sess : Int) (x0_commit_Entry_Seq : Int) (x0_commit_Entry_Cmd_Kind : Int) (x0_commit_Entry_Cmd_Who : Int) (x0_commit_Entry_Cmd_Key : List UInt8) (p0_4 : Value) (x0_commit_Entry_Cmd_Val : List UInt8) (p0_5 : Value) (x0_commit_Entry_Cmd_Old : List UInt8) (p0_6 : Value) (x0_is : Bool) (r : Bool) (w0 w : World) (Z A : Mem) (hA : A.le Z) (hS : Sep w0 w [Mem.one g0 (.cells ([iV x0_n, iV x0_id, iV x0_v, p0_0, iV x0_come, iV x0_ready, iV x0_commit_Kind, iV x0_commit_From, iV x0_commit_To, iV x0_commit_View, iV x0_commit_Inst, iV x0_commit_Len, .bool x0_commit_Has, iV x0_commit_Members, iV x0_commit_Source, iV x0_commit_At, iV x0_commit_Total, p0_1, iV x0_commit_Hop, iV x0_commit_Seq, p0_2, p0_3, iV x0_commit_Index, iV x0_commit_Entry_Sess, iV x0_commit_Entry_Seq, iV x0_commit_Entry_Cmd_Kind, iV x0_commit_Entry_Cmd_Who, p0_4, p0_5, p0_6, .bool x0_is] : List Value).toArray 47 (0, 0))] Z) (hp0_0 : Rd k_api_Msg A p0_0 x0_l) (hp0_1 : Rd Kd.u8 A p0_1 x0_commit_Data) (hp0_2 : Rd (Kd.int .i64) A p0_2 x0_commit_Have) (hp0_3 : Rd (Kd.int .i64) A p0_3 x0_commit_Need) (hp0_4 : Rd Kd.u8 A p0_4 x0_commit_Entry_Cmd_Key) (hp0_5 : Rd Kd.u8 A p0_5 x0_commit_Entry_Cmd_Val) (hp0_6 : Rd Kd.u8 A p0_6 x0_commit_Entry_Cmd_Old)
    (H : gath_Gather_All.f K x0_n x0_id x0_v x0_l x0_come x0_ready x0_commit_Kind x0_commit_From x0_commit_To x0_commit_View x0_commit_Inst x0_commit_Len x0_commit_Has x0_commit_Members x0_commit_Source x0_commit_At x0_commit_Total x0_commit_Data x0_commit_Hop x0_commit_Seq x0_commit_Have x0_commit_Need x0_commit_Index x0_commit_Entry_Sess x0_commit_Entry_Seq x0_commit_Entry_Cmd_Kind x0_commit_Entry_Cmd_Who x0_commit_Entry_Cmd_Key x0_commit_Entry_Cmd_Val x0_commit_Entry_Cmd_Old x0_is = some r) :
    Calls Try.prog 17 [.pointer (some ⟨g0, 0, none⟩)].toArray w (Ret fun v w' => ∃ (N : Mem), v = .bool r ∧ Sep w0 w' [N, Mem.one g0 (.cells ([iV x0_n, iV x0_id, iV x0_v, p0_0, iV x0_come, iV x0_ready, iV x0_commit_Kind, iV x0_commit_From, iV x0_commit_To, iV x0_commit_View, iV x0_commit_Inst, iV x0_commit_Len, .bool x0_commit_Has, iV x0_commit_Members, iV x0_commit_Source, iV x0_commit_At, iV x0_commit_Total, p0_1, iV x0_commit_Hop, iV x0_commit_Seq, p0_2, p0_3, iV x0_commit_Index, iV x0_commit_Entry_Sess, iV x0_commit_Entry_Seq, iV x0_commit_Entry_Cmd_Kind, iV x0_commit_Entry_Cmd_Who, p0_4, p0_5, p0_6, .bool x0_is] : List Value).toArray 47 (0, 0))] Z) := by
 unfold gath_Gather_All.f at H
 refine f_enter _ Try.func17 rfl Try.ntmps17 rfl fun a h=>?_
 replace h : Fr 7 a [(0, .pointer (some ⟨g0, 0, none⟩))] := h
 replace hS := hS.start
 replace hS : Sep w0 w [_, _] Z := hS
 refine wp_seq <| wp_region_lit <| s_assign h rfl rfl fun a h=>wpList_nil <| x_then_n <| wp_seq <| wp_region_lit <| s_move h rfl rfl fun a h=>?_
 obtain ⟨t_1, et_1, H⟩ := Option.bind_eq_some_iff.1 H
 refine s_call h rfl Try.call15 rfl (gath_Gather_Absent.calls K _ x0_n x0_id x0_v x0_l _ x0_come x0_ready x0_commit_Kind x0_commit_From x0_commit_To x0_commit_View x0_commit_Inst x0_commit_Len x0_commit_Has x0_commit_Members x0_commit_Source x0_commit_At x0_commit_Total x0_commit_Data _ x0_commit_Hop x0_commit_Seq x0_commit_Have _ x0_commit_Need _ x0_commit_Index x0_commit_Entry_Sess x0_commit_Entry_Seq x0_commit_Entry_Cmd_Kind x0_commit_Entry_Cmd_Who x0_commit_Entry_Cmd_Key _ x0_commit_Entry_Cmd_Val _ x0_commit_Entry_Cmd_Old _ x0_is t_1 w0 _ _ _ (Mem.le.refl _) (hS.enter [0] (by decide)) (hp0_0.mono (hA.trans (hS.le_zed [0]))) (hp0_1.mono (hA.trans (hS.le_zed [0]))) (hp0_2.mono (hA.trans (hS.le_zed [0]))) (hp0_3.mono (hA.trans (hS.le_zed [0]))) (hp0_4.mono (hA.trans (hS.le_zed [0]))) (hp0_5.mono (hA.trans (hS.le_zed [0]))) (hp0_6.mono (hA.trans (hS.le_zed [0]))) et_1) ?_
 rintro v_5 w_2 ⟨_, N_3, M_7, rfl, hS', hr_6⟩
 intro a h
 obtain ⟨N_4, hS'', le_4, ln_4⟩ := hS.call [0] (by decide) rfl (l' := [Mem.one g0 (.cells ([iV x0_n, iV x0_id, iV x0_v, p0_0, iV x0_come, iV x0_ready, iV x0_commit_Kind, iV x0_commit_From, iV x0_commit_To, iV x0_commit_View, iV x0_commit_Inst, iV x0_commit_Len, .bool x0_commit_Has, iV x0_commit_Members, iV x0_commit_Source, iV x0_commit_At, iV x0_commit_Total, p0_1, iV x0_commit_Hop, iV x0_commit_Seq, p0_2, p0_3, iV x0_commit_Index, iV x0_commit_Entry_Sess, iV x0_commit_Entry_Seq, iV x0_commit_Entry_Cmd_Kind, iV x0_commit_Entry_Cmd_Who, p0_4, p0_5, p0_6, .bool x0_is] : List Value).toArray 47 (0, 0))]) (ow := [M_7]) rfl hS'
 replace hS : Sep w0 w_2 [N_4, _, M_7] Z := hS''
 clear hS' hS''
 refine s_lenO h rfl U23 rfl hr_6 fun a h=>s_cmp (b := ((t_1.length : Int) == 0)) h rfl rfl rfl (.inl ⟨rfl, rfl⟩) fun a h=>s_assign h rfl rfl fun a h=>wpList_nil <| x_then_n <| wp_ret ?_
 obtain rfl := Option.some.inj H
 exact f_ret h (rs := [.tmp 2]) rfl (.tmp rfl .nil) ⟨_, rfl, N_4, rfl, (Sep.sel hS [0, 1] (by decide))⟩

set_option maxHeartbeats 4000000 in
set_option maxRecDepth 20000 in
theorem gath_Gather_Done.calls (K : Nat) (g0 : Nat) (x0_n : Int) (x0_id : Int) (x0_v : Int) (x0_l : List api_Msg) (p0_0 : Value) (x0_come : Int) (x0_ready : Int) (x0_commit_Kind : Int) (x0_commit_From : Int) (x0_commit_To : Int) (x0_commit_View : Int) (x0_commit_Inst : Int) (x0_commit_Len : Int) (x0_commit_Has : Bool) (x0_commit_Members : Int) (x0_commit_Source : Int) (x0_commit_At : Int) (x0_commit_Total : Int) (x0_commit_Data : List UInt8) (p0_1 : Value) (x0_commit_Hop : Int) (x0_commit_Seq : Int) (x0_commit_Have : List Int) (p0_2 : Value) (x0_commit_Need : List Int) (p0_3 : Value) (x0_commit_Index : Int) (x0_commit_Entry_Sess : Int) (x0_commit_Entry_Seq : Int) (x0_commit_Entry_Cmd_Kind : Int) (x0_commit_Entry_Cmd_Who : Int) (x0_commit_Entry_Cmd_Key : List UInt8) (p0_4 : Value) (x0_commit_Entry_Cmd_Val : List UInt8) (p0_5 : Value) (x0_commit_Entry_Cmd_Old : List UInt8) (p0_6 : Value) (x0_is : Bool) (r : Bool) (w0 w : World) (Z A : Mem) (hA : A.le Z) (hS : Sep w0 w [Mem.one g0 (.cells ([iV x0_n, iV x0_id, iV x0_v, p0_0, iV x0_come, iV x0_ready, iV x0_commit_Kind, iV x0_commit_From, iV x0_commit_To, iV x0_commit_View, iV x0_commit_Inst, iV x0_commit_Len, .bool x0_commit_Has, iV x0_commit_Members, iV x0_commit_Source, iV x0_commit_At, iV x0_commit_Total, p0_1, iV x0_commit_Hop, iV x0_commit_Seq, p0_2, p0_3, iV x0_commit_Index, iV x0_commit_Entry_Sess, iV x0_commit_Entry_Seq, iV x0_commit_Entry_Cmd_Kind, iV x0_commit_Entry_Cmd_Who, p0_4, p0_5, p0_6, .bool x0_is] : List Value).toArray 47 (0, 0))] Z) (hp0_0 : Rd k_api_Msg A p0_0 x0_l) (hp0_1 : Rd Kd.u8 A p0_1 x0_commit_Data) (hp0_2 : Rd (Kd.int .i64) A p0_2 x0_commit_Have) (hp0_3 : Rd (Kd.int .i64) A p0_3 x0_commit_Need) (hp0_4 : Rd Kd.u8 A p0_4 x0_commit_Entry_Cmd_Key) (hp0_5 : Rd Kd.u8 A p0_5 x0_commit_Entry_Cmd_Val) (hp0_6 : Rd Kd.u8 A p0_6 x0_commit_Entry_Cmd_Old)
    (H : gath_Gather_Done.f K x0_n x0_id x0_v x0_l x0_come x0_ready x0_commit_Kind x0_commit_From x0_commit_To x0_commit_View x0_commit_Inst x0_commit_Len x0_commit_Has x0_commit_Members x0_commit_Source x0_commit_At x0_commit_Total x0_commit_Data x0_commit_Hop x0_commit_Seq x0_commit_Have x0_commit_Need x0_commit_Index x0_commit_Entry_Sess x0_commit_Entry_Seq x0_commit_Entry_Cmd_Kind x0_commit_Entry_Cmd_Who x0_commit_Entry_Cmd_Key x0_commit_Entry_Cmd_Val x0_commit_Entry_Cmd_Old x0_is = some r) :
    Calls Try.prog 20 [.pointer (some ⟨g0, 0, none⟩)].toArray w (Ret fun v w' => ∃ (N : Mem), v = .bool r ∧ Sep w0 w' [N, Mem.one g0 (.cells ([iV x0_n, iV x0_id, iV x0_v, p0_0, iV x0_come, iV x0_ready, iV x0_commit_Kind, iV x0_commit_From, iV x0_commit_To, iV x0_commit_View, iV x0_commit_Inst, iV x0_commit_Len, .bool x0_commit_Has, iV x0_commit_Members, iV x0_commit_Source, iV x0_commit_At, iV x0_commit_Total, p0_1, iV x0_commit_Hop, iV x0_commit_Seq, p0_2, p0_3, iV x0_commit_Index, iV x0_commit_Entry_Sess, iV x0_commit_Entry_Seq, iV x0_commit_Entry_Cmd_Kind, iV x0_commit_Entry_Cmd_Who, p0_4, p0_5, p0_6, .bool x0_is] : List Value).toArray 47 (0, 0))] Z) := by
 unfold gath_Gather_Done.f at H
 refine f_enter _ Try.func20 rfl Try.ntmps20 rfl fun a h=>?_
 replace h : Fr 13 a [(0, .pointer (some ⟨g0, 0, none⟩))] := h
 replace hS := hS.start
 replace hS : Sep w0 w [_, _] Z := hS
 refine wp_seq <| wp_region_lit <| s_assign h rfl rfl fun a h=>wpList_nil <| x_then_n <| c_seq fun KJ_1 hKJ_1 => wp_region_lit <| s_move h rfl rfl fun a h=>s_nilCheck h rfl rfl fun a h=>s_fieldAddr h rfl U47 rfl ti4 rfl rfl fun a h=>s_load h rfl rfl (hS.load_one (p := 1) rfl U4 rfl rfl) fun a h=>s_move h rfl rfl fun a h=>?_
 by_cases hc_2 : x0_is = true
 ·rw [if_pos hc_2] at H
  refine s_on h rfl rfl hc_2 <| s_move h rfl rfl fun a h=>s_on h rfl rfl hc_2 ?_
  obtain ⟨t_3, et_3, H⟩ := Option.bind_eq_some_iff.1 H
  refine s_call h rfl Try.call18 rfl (gath_Gather_Unready.calls K _ x0_n x0_id x0_v x0_l _ x0_come x0_ready x0_commit_Kind x0_commit_From x0_commit_To x0_commit_View x0_commit_Inst x0_commit_Len x0_commit_Has x0_commit_Members x0_commit_Source x0_commit_At x0_commit_Total x0_commit_Data _ x0_commit_Hop x0_commit_Seq x0_commit_Have _ x0_commit_Need _ x0_commit_Index x0_commit_Entry_Sess x0_commit_Entry_Seq x0_commit_Entry_Cmd_Kind x0_commit_Entry_Cmd_Who x0_commit_Entry_Cmd_Key _ x0_commit_Entry_Cmd_Val _ x0_commit_Entry_Cmd_Old _ x0_is t_3 w0 _ _ _ (Mem.le.refl _) (hS.enter [0] (by decide)) (hp0_0.mono (hA.trans (hS.le_zed [0]))) (hp0_1.mono (hA.trans (hS.le_zed [0]))) (hp0_2.mono (hA.trans (hS.le_zed [0]))) (hp0_3.mono (hA.trans (hS.le_zed [0]))) (hp0_4.mono (hA.trans (hS.le_zed [0]))) (hp0_5.mono (hA.trans (hS.le_zed [0]))) (hp0_6.mono (hA.trans (hS.le_zed [0]))) et_3) ?_
  rintro v_7 w_4 ⟨_, N_5, M_9, rfl, hS', hr_8⟩
  intro a h
  obtain ⟨N_6, hS'', le_6, ln_6⟩ := hS.call [0] (by decide) rfl (l' := [Mem.one g0 (.cells ([iV x0_n, iV x0_id, iV x0_v, p0_0, iV x0_come, iV x0_ready, iV x0_commit_Kind, iV x0_commit_From, iV x0_commit_To, iV x0_commit_View, iV x0_commit_Inst, iV x0_commit_Len, .bool x0_commit_Has, iV x0_commit_Members, iV x0_commit_Source, iV x0_commit_At, iV x0_commit_Total, p0_1, iV x0_commit_Hop, iV x0_commit_Seq, p0_2, p0_3, iV x0_commit_Index, iV x0_commit_Entry_Sess, iV x0_commit_Entry_Seq, iV x0_commit_Entry_Cmd_Kind, iV x0_commit_Entry_Cmd_Who, p0_4, p0_5, p0_6, .bool x0_is] : List Value).toArray 47 (0, 0))]) (ow := [M_9]) rfl hS'
  replace hS : Sep w0 w_4 [N_6, _, M_9] Z := hS''
  clear hS' hS''
  refine s_on h rfl rfl hc_2 <| s_lenO h rfl U23 rfl hr_8 fun a h=>s_on h rfl rfl hc_2 <| s_cmp (b := ((t_3.length : Int) == 0)) h rfl rfl rfl (.inl ⟨rfl, rfl⟩) fun a h=>s_pick_t h rfl rfl hc_2 rfl fun a h=>s_assign h rfl rfl fun a h=>wpList_nil <| x_then_n (hKJ_1 _ _ ?_)
  refine wp_ret ?_
  obtain rfl := Option.some.inj H
  exact f_ret h (rs := [.tmp 2]) rfl (.tmp rfl .nil) ⟨_, rfl, N_6, rfl, (Sep.sel hS [0, 1] (by decide))⟩
 ·rw [if_neg hc_2] at H
  refine s_off h rfl rfl rfl (Bool.eq_false_iff.2 hc_2) fun a h=>s_off h rfl rfl rfl (Bool.eq_false_iff.2 hc_2) fun a h=>s_off h rfl rfl rfl (Bool.eq_false_iff.2 hc_2) fun a h=>s_off h rfl rfl rfl (Bool.eq_false_iff.2 hc_2) fun a h=>s_pick_f h rfl rfl (Bool.eq_false_iff.2 hc_2) rfl fun a h=>s_assign h rfl rfl fun a h=>wpList_nil <| x_then_n (hKJ_1 _ _ ?_)
  refine wp_ret ?_
  obtain rfl := Option.some.inj H
  exact f_ret h (rs := [.tmp 2]) rfl (.tmp rfl .nil) ⟨_, rfl, Mem.no, rfl, (Sep.sel hS [0, 1] (by decide))⟩


end Go.Proofs
