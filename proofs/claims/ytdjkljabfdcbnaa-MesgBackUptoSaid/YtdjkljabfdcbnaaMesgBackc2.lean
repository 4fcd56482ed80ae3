/- What the calls do: each function once. -/
import Derived.Test.YtdjkljabfdcbnaaMesgBackc1
namespace Go.Proofs
open Go.Gp
set_option linter.unusedVariables false
set_option maxHeartbeats 4000000 in
set_option maxRecDepth 20000 in
theorem hocketlaw11_Msg.calls (K : Nat) (x0 : Int) (x1 : Int) (r : api_Msg) (w0 w : World) (Z A : Mem) (hA : A.le Z) (hS : Sep w0 w [] Z)
    (H : hocketlaw11_Msg.f K x0 x1 = some r) :
    Calls Try.prog 14 [iV x0, iV x1].toArray w (Ret fun v w' => ∃ (u0 : Value) (u1 : Value) (u2 : Value) (u3 : Value) (u4 : Value) (u5 : Value) (N : Mem) (M0 : Mem) (M1 : Mem) (M2 : Mem), v = .agg [iV r.Kind, iV r.From, iV r.To, iV r.View, iV r.Inst, iV r.Len, .bool r.Has, iV r.Members, iV r.Source, iV r.At, iV r.Total, u0, iV r.Hop, iV r.Seq, u1, u2, iV r.Index, iV r.Entry.Sess, iV r.Entry.Seq, iV r.Entry.Cmd.Kind, iV r.Entry.Cmd.Who, u3, u4, u5].toArray ∧ Sep w0 w' [N, M0, M1, M2] Z ∧ Own Kd.u8 5 M0 Mem.no u0 r.Data ∧ Own (Kd.int .i64) 3 M1 Mem.no u1 r.Have ∧ Own (Kd.int .i64) 3 M2 Mem.no u2 r.Need ∧ Rd Kd.u8 N u3 r.Entry.Cmd.Key ∧ Rd Kd.u8 N u4 r.Entry.Cmd.Val ∧ Rd Kd.u8 N u5 r.Entry.Cmd.Old) := by
 unfold hocketlaw11_Msg.f at H
 refine f_enter _ Try.func14 rfl Try.ntmps14 rfl fun a h=>?_
 replace h : Fr 150 a [(0, iV x0), (1, iV x1)] := h
 replace hS := hS.start
 replace hS : Sep w0 w [_] Z := hS
 refine wp_seq <| wp_region_lit <| v_alloc h rfl ti29 hS fun w_1 g_2 hS' a h => ?_
 replace hS : Sep w0 w_1 [_, Mem.one g_2 (.cells ([iV 0, iV 0, iV 0, iV 0, iV 0, iV 0, .bool false, iV 0, iV 0, iV 0, iV 0, nS, iV 0, iV 0, nS, nS, iV 0, iV 0, iV 0, iV 0, iV 0, nS, nS, nS] : List Value).toArray 29 (0, 0))] Z := hS'
 clear hS'
 refine wpList_nil <| x_then_n <| wp_seq <| wp_region_lit <| s_move h rfl rfl fun a h=>s_bits (i := x0) (j := 7) (r := band .i64 x0 7) h rfl rfl rfl (.inl ⟨rfl, rfl⟩) fun a h=>s_arith (r := w64 ((band .i64 x0 7) + 1)) h rfl rfl rfl (.inl ⟨rfl, rfl⟩) fun a h=>s_move h rfl rfl fun a h=>s_shift (r := shr .i64 x0 3) h rfl rfl rfl (by decide) (.inr ⟨rfl, rfl⟩) fun a h=>s_bits (i := shr .i64 x0 3) (j := 7) (r := band .i64 (shr .i64 x0 3) 7) h rfl rfl rfl (.inl ⟨rfl, rfl⟩) fun a h=>s_div (r := Int.tmod (band .i64 (shr .i64 x0 3) 7) 7) h rfl rfl rfl (by decide) (.inr ⟨rfl, rfl⟩) fun a h=>s_move h rfl rfl fun a h=>?_
 refine s_shift (r := shr .i64 x0 6) h rfl rfl rfl (by decide) (.inr ⟨rfl, rfl⟩) fun a h=>s_bits (i := shr .i64 x0 6) (j := 7) (r := band .i64 (shr .i64 x0 6) 7) h rfl rfl rfl (.inl ⟨rfl, rfl⟩) fun a h=>s_div (r := Int.tmod (band .i64 (shr .i64 x0 6) 7) 7) h rfl rfl rfl (by decide) (.inr ⟨rfl, rfl⟩) fun a h=>s_move h rfl rfl fun a h=>s_shift (r := shr .i64 x0 9) h rfl rfl rfl (by decide) (.inr ⟨rfl, rfl⟩) fun a h=>s_bits (i := shr .i64 x0 9) (j := 1023) (r := band .i64 (shr .i64 x0 9) 1023) h rfl rfl rfl (.inl ⟨rfl, rfl⟩) fun a h=>s_build h rfl ti29 pl29 rfl (.cons rfl (.cons rfl (.cons rfl (.cons rfl .nil)))) (cs := [iV (w64 ((band .i64 x0 7) + 1)), iV (Int.tmod (band .i64 (shr .i64 x0 3) 7) 7), iV (Int.tmod (band .i64 (shr .i64 x0 6) 7) 7), iV (band .i64 (shr .i64 x0 9) 1023), iV 0, iV 0, .bool false, iV 0, iV 0, iV 0, iV 0, nS, iV 0, iV 0, nS, nS, iV 0, iV 0, iV 0, iV 0, iV 0, nS, nS, nS]) (by kernel_rfl) fun a h=>v_alloc h rfl ti29 hS fun w_3 g_4 hS' a h => ?_
 replace hS : Sep w0 w_3 [_, _, Mem.one g_4 (.cells ([iV 0, iV 0, iV 0, iV 0, iV 0, iV 0, .bool false, iV 0, iV 0, iV 0, iV 0, nS, iV 0, iV 0, nS, nS, iV 0, iV 0, iV 0, iV 0, iV 0, nS, nS, nS] : List Value).toArray 29 (0, 0))] Z := hS'
 clear hS'
 obtain ⟨w_5, hs', hS'⟩ := hS.store (P := Try.prog) (p := 2) (o := 0) (t := 29) (v := .agg ([iV (w64 ((band .i64 x0 7) + 1)), iV (Int.tmod (band .i64 (shr .i64 x0 3) 7) 7), iV (Int.tmod (band .i64 (shr .i64 x0 6) 7) 7), iV (band .i64 (shr .i64 x0 9) 1023), iV 0, iV 0, .bool false, iV 0, iV 0, iV 0, iV 0, nS, iV 0, iV 0, nS, nS, iV 0, iV 0, iV 0, iV 0, iV 0, nS, nS, nS] : List Value).toArray) (vs := [iV (w64 ((band .i64 x0 7) + 1)), iV (Int.tmod (band .i64 (shr .i64 x0 3) 7) 7), iV (Int.tmod (band .i64 (shr .i64 x0 6) 7) 7), iV (band .i64 (shr .i64 x0 9) 1023), iV 0, iV 0, .bool false, iV 0, iV 0, iV 0, iV 0, nS, iV 0, iV 0, nS, nS, iV 0, iV 0, iV 0, iV 0, iV 0, nS, nS, nS]) rfl ti29 rfl rfl rfl (by intro u hu; simp only [List.mem_cons, List.not_mem_nil, or_false] at hu; rcases hu with rfl | rfl | rfl | rfl | rfl | rfl | rfl | rfl | rfl | rfl | rfl | rfl | rfl | rfl | rfl | rfl | rfl | rfl | rfl | rfl | rfl | rfl | rfl | rfl <;> rfl)
 refine s_store h rfl rfl hs' ?_
 replace hS : Sep w0 w_5 [_, _, Mem.one g_4 (.cells ([iV (w64 ((band .i64 x0 7) + 1)), iV (Int.tmod (band .i64 (shr .i64 x0 3) 7) 7), iV (Int.tmod (band .i64 (shr .i64 x0 6) 7) 7), iV (band .i64 (shr .i64 x0 9) 1023), _, _, _, _, _, _, _, _, _, _, _, _, _, _, _, _, _, _, _, _] : List Value).toArray 29 (0, 0))] Z := hS'
 clear hs' hS'
 refine wpList_nil <| x_then_n <| c_seq fun KJ_6 hKJ_6 => wp_seq <| wp_region_lit <| s_fieldAddr h rfl U29 rfl ti3 rfl rfl fun a h=>s_load h rfl rfl (hS.load_one (p := 2) rfl U3 rfl rfl) fun a h=>wpList_nil <| x_then_n <| c_block <| wp_seq <| wp_region_lit <| s_cmp (b := ((w64 ((band .i64 x0 7) + 1)) == 2)) h rfl rfl rfl (.inl ⟨rfl, rfl⟩) fun a h=>?_
 refine s_assign h rfl rfl fun a h=>wpList_nil ?_
 replace h : Fr 150 a [(0, _), (1, _), (4, .pointer (some ⟨g_2, 0, none⟩)), (5, .pointer (some ⟨g_4, 0, none⟩)), (25, iV (w64 ((band .i64 x0 7) + 1))), (26, .bool ((w64 ((band .i64 x0 7) + 1)) == 2))] := h.keep [0, 1, 4, 5, 25, 26]
 refine x_then_n ?_
 by_cases hc_7 : (w64 ((band .i64 x0 7) + 1)) = 2
 ·rw [if_pos hc_7] at H
  refine c_cond_t h rfl (beq_iff_eq.2 hc_7) <| wp_region_lit <| s_move h rfl rfl fun a h=>s_bits (i := x1) (j := 255) (r := band .i64 x1 255) h rfl rfl rfl (.inl ⟨rfl, rfl⟩) fun a h=>s_move h rfl rfl fun a h=>s_shift (r := shr .i64 x1 8) h rfl rfl rfl (by decide) (.inr ⟨rfl, rfl⟩) fun a h=>s_bits (i := shr .i64 x1 8) (j := 63) (r := band .i64 (shr .i64 x1 8) 63) h rfl rfl rfl (.inl ⟨rfl, rfl⟩) fun a h=>s_move h rfl rfl fun a h=>s_shift (r := shr .i64 x1 14) h rfl rfl rfl (by decide) (.inr ⟨rfl, rfl⟩) fun a h=>s_bits (i := shr .i64 x1 14) (j := 1) (r := band .i64 (shr .i64 x1 14) 1) h rfl rfl rfl (.inl ⟨rfl, rfl⟩) fun a h=>s_cmp (b := ((band .i64 (shr .i64 x1 14) 1) == 1)) h rfl rfl rfl (.inl ⟨rfl, rfl⟩) fun a h=>s_fieldAddr h rfl U29 rfl ti3 rfl rfl fun a h=>?_
  obtain ⟨w_8, hs', hS'⟩ := hS.store (P := Try.prog) (p := 2) (o := 4) (t := 3) (v := iV (band .i64 x1 255)) (vs := [iV (band .i64 x1 255)]) rfl ti3 rfl rfl rfl (by intro u hu; simp only [List.mem_cons, List.not_mem_nil, or_false] at hu; rcases hu with rfl <;> rfl)
  refine s_store h rfl rfl hs' ?_
  replace hS : Sep w0 w_8 [_, _, Mem.one g_4 (.cells ([_, _, _, _, iV (band .i64 x1 255), _, _, _, _, _, _, _, _, _, _, _, _, _, _, _, _, _, _, _] : List Value).toArray 29 (0, 0))] Z := hS'
  clear hs' hS'
  refine s_fieldAddr h rfl U29 rfl ti3 rfl rfl fun a h=>?_
  obtain ⟨w_9, hs', hS'⟩ := hS.store (P := Try.prog) (p := 2) (o := 5) (t := 3) (v := iV (band .i64 (shr .i64 x1 8) 63)) (vs := [iV (band .i64 (shr .i64 x1 8) 63)]) rfl ti3 rfl rfl rfl (by intro u hu; simp only [List.mem_cons, List.not_mem_nil, or_false] at hu; rcases hu with rfl <;> rfl)
  refine s_store h rfl rfl hs' ?_
  replace hS : Sep w0 w_9 [_, _, Mem.one g_4 (.cells ([_, _, _, _, _, iV (band .i64 (shr .i64 x1 8) 63), _, _, _, _, _, _, _, _, _, _, _, _, _, _, _, _, _, _] : List Value).toArray 29 (0, 0))] Z := hS'
  clear hs' hS'
  refine s_fieldAddr h rfl U29 rfl ti4 rfl rfl fun a h=>?_
  obtain ⟨w_10, hs', hS'⟩ := hS.store (P := Try.prog) (p := 2) (o := 6) (t := 4) (v := .bool ((band .i64 (shr .i64 x1 14) 1) == 1)) (vs := [.bool ((band .i64 (shr .i64 x1 14) 1) == 1)]) rfl ti4 rfl rfl rfl (by intro u hu; simp only [List.mem_cons, List.not_mem_nil, or_false] at hu; rcases hu with rfl <;> rfl)
  refine s_store h rfl rfl hs' ?_
  replace hS : Sep w0 w_10 [_, _, Mem.one g_4 (.cells ([_, _, _, _, _, _, .bool ((band .i64 (shr .i64 x1 14) 1) == 1), _, _, _, _, _, _, _, _, _, _, _, _, _, _, _, _, _] : List Value).toArray 29 (0, 0))] Z := hS'
  clear hs' hS'
  refine wpList_nil <| x_block_n <| x_then_n (hKJ_6 _ _ ?_)
  refine wp_seq <| wp_region_lit <| s_load h rfl rfl (hS.load_agg (p := 2) (us := [iV (w64 ((band .i64 x0 7) + 1)), iV (Int.tmod (band .i64 (shr .i64 x0 3) 7) 7), iV (Int.tmod (band .i64 (shr .i64 x0 6) 7) 7), iV (band .i64 (shr .i64 x0 9) 1023), iV (band .i64 x1 255), iV (band .i64 (shr .i64 x1 8) 63), .bool ((band .i64 (shr .i64 x1 14) 1) == 1), iV 0, iV 0, iV 0, iV 0, nS, iV 0, iV 0, nS, nS, iV 0, iV 0, iV 0, iV 0, iV 0, nS, nS, nS]) rfl U29 rfl ti29 rfl rfl) fun a h=>?_
  obtain ⟨w_11, hs', hS'⟩ := hS.store (P := Try.prog) (p := 1) (o := 0) (t := 29) (v := .agg ([iV (w64 ((band .i64 x0 7) + 1)), iV (Int.tmod (band .i64 (shr .i64 x0 3) 7) 7), iV (Int.tmod (band .i64 (shr .i64 x0 6) 7) 7), iV (band .i64 (shr .i64 x0 9) 1023), iV (band .i64 x1 255), iV (band .i64 (shr .i64 x1 8) 63), .bool ((band .i64 (shr .i64 x1 14) 1) == 1), iV 0, iV 0, iV 0, iV 0, nS, iV 0, iV 0, nS, nS, iV 0, iV 0, iV 0, iV 0, iV 0, nS, nS, nS] : List Value).toArray) (vs := [iV (w64 ((band .i64 x0 7) + 1)), iV (Int.tmod (band .i64 (shr .i64 x0 3) 7) 7), iV (Int.tmod (band .i64 (shr .i64 x0 6) 7) 7), iV (band .i64 (shr .i64 x0 9) 1023), iV (band .i64 x1 255), iV (band .i64 (shr .i64 x1 8) 63), .bool ((band .i64 (shr .i64 x1 14) 1) == 1), iV 0, iV 0, iV 0, iV 0, nS, iV 0, iV 0, nS, nS, iV 0, iV 0, iV 0, iV 0, iV 0, nS, nS, nS]) rfl ti29 rfl rfl rfl (by intro u hu; simp only [List.mem_cons, List.not_mem_nil, or_false] at hu; rcases hu with rfl | rfl | rfl | rfl | rfl | rfl | rfl | rfl | rfl | rfl | rfl | rfl | rfl | rfl | rfl | rfl | rfl | rfl | rfl | rfl | rfl | rfl | rfl | rfl <;> rfl)
  refine s_store h rfl rfl hs' ?_
  replace hS : Sep w0 w_11 [_, Mem.one g_2 (.cells ([iV (w64 ((band .i64 x0 7) + 1)), iV (Int.tmod (band .i64 (shr .i64 x0 3) 7) 7), iV (Int.tmod (band .i64 (shr .i64 x0 6) 7) 7), iV (band .i64 (shr .i64 x0 9) 1023), iV (band .i64 x1 255), iV (band .i64 (shr .i64 x1 8) 63), .bool ((band .i64 (shr .i64 x1 14) 1) == 1), _, _, _, _, _, _, _, _, _, _, _, _, _, _, _, _, _] : List Value).toArray 29 (0, 0)), _] Z := hS'
  clear hs' hS'
  refine wpList_nil <| x_then_n <| wp_ret ?_
  have hS' := hS.room
  replace hS : Sep w0 w_11 [_, _, _, Mem.no] Z := hS'
  clear hS'
  replace hS : Sep w0 w_11 [_, _, _, _] Z := hS
  have hS' := hS.room
  replace hS : Sep w0 w_11 [_, _, _, _, Mem.no] Z := hS'
  clear hS'
  replace hS : Sep w0 w_11 [_, _, _, _, _] Z := hS
  have hS' := hS.room
  replace hS : Sep w0 w_11 [_, _, _, _, _, Mem.no] Z := hS'
  clear hS'
  replace hS : Sep w0 w_11 [_, _, _, _, _, _] Z := hS
  obtain rfl := Option.some.inj H
  exact f_ret h (rs := [.cell 4 29]) rfl (.cell rfl (hS.load_agg (p := 1) (us := [iV (w64 ((band .i64 x0 7) + 1)), iV (Int.tmod (band .i64 (shr .i64 x0 3) 7) 7), iV (Int.tmod (band .i64 (shr .i64 x0 6) 7) 7), iV (band .i64 (shr .i64 x0 9) 1023), iV (band .i64 x1 255), iV (band .i64 (shr .i64 x1 8) 63), .bool ((band .i64 (shr .i64 x1 14) 1) == 1), iV 0, iV 0, iV 0, iV 0, nS, iV 0, iV 0, nS, nS, iV 0, iV 0, iV 0, iV 0, iV 0, nS, nS, nS]) rfl U29 rfl ti29 rfl rfl) .nil) ⟨_, rfl, nS, nS, nS, nS, nS, nS, Mem.no, Mem.no, Mem.no, Mem.no, rfl, (Sep.sel hS [0, 3, 4, 5] (by decide)), (Own.nil Kd.u8 5 Mem.no), (Own.nil (Kd.int .i64) 3 Mem.no), (Own.nil (Kd.int .i64) 3 Mem.no), (Rd.nil _ _), (Rd.nil _ _), (Rd.nil _ _)⟩
 ·rw [if_neg hc_7] at H
  refine c_cond_f h rfl (beq_eq_false_iff_ne.2 hc_7) <| wp_seq <| wp_region_lit <| s_cmp (b := ((w64 ((band .i64 x0 7) + 1)) == 3)) h rfl rfl rfl (.inl ⟨rfl, rfl⟩) fun a h=>s_assign h rfl rfl fun a h=>wpList_nil <| x_then_n ?_
  by_cases hc_15 : (w64 ((band .i64 x0 7) + 1)) = 3
  ·rw [if_pos hc_15] at H
   refine c_cond_t h rfl (beq_iff_eq.2 hc_15) <| wp_region_lit <| s_move h rfl rfl fun a h=>s_bits (i := x1) (j := 127) (r := band .i64 x1 127) h rfl rfl rfl (.inl ⟨rfl, rfl⟩) fun a h=>s_move h rfl rfl fun a h=>s_shift (r := shr .i64 x1 7) h rfl rfl rfl (by decide) (.inr ⟨rfl, rfl⟩) fun a h=>s_bits (i := shr .i64 x1 7) (j := 7) (r := band .i64 (shr .i64 x1 7) 7) h rfl rfl rfl (.inl ⟨rfl, rfl⟩) fun a h=>s_div (r := Int.tmod (band .i64 (shr .i64 x1 7) 7) 7) h rfl rfl rfl (by decide) (.inr ⟨rfl, rfl⟩) fun a h=>s_move h rfl rfl fun a h=>s_shift (r := shr .i64 x1 10) h rfl rfl rfl (by decide) (.inr ⟨rfl, rfl⟩) fun a h=>s_bits (i := shr .i64 x1 10) (j := 63) (r := band .i64 (shr .i64 x1 10) 63) h rfl rfl rfl (.inl ⟨rfl, rfl⟩) fun a h=>s_fieldAddr h rfl U29 rfl ti3 rfl rfl fun a h=>?_
   obtain ⟨w_16, hs', hS'⟩ := hS.store (P := Try.prog) (p := 2) (o := 7) (t := 3) (v := iV (band .i64 x1 127)) (vs := [iV (band .i64 x1 127)]) rfl ti3 rfl rfl rfl (by intro u hu; simp only [List.mem_cons, List.not_mem_nil, or_false] at hu; rcases hu with rfl <;> rfl)
   refine s_store h rfl rfl hs' ?_
   replace hS : Sep w0 w_16 [_, _, Mem.one g_4 (.cells ([_, _, _, _, _, _, _, iV (band .i64 x1 127), _, _, _, _, _, _, _, _, _, _, _, _, _, _, _, _] : List Value).toArray 29 (0, 0))] Z := hS'
   clear hs' hS'
   refine s_fieldAddr h rfl U29 rfl ti3 rfl rfl fun a h=>?_
   obtain ⟨w_17, hs', hS'⟩ := hS.store (P := Try.prog) (p := 2) (o := 8) (t := 3) (v := iV (Int.tmod (band .i64 (shr .i64 x1 7) 7) 7)) (vs := [iV (Int.tmod (band .i64 (shr .i64 x1 7) 7) 7)]) rfl ti3 rfl rfl rfl (by intro u hu; simp only [List.mem_cons, List.not_mem_nil, or_false] at hu; rcases hu with rfl <;> rfl)
   refine s_store h rfl rfl hs' ?_
   replace hS : Sep w0 w_17 [_, _, Mem.one g_4 (.cells ([_, _, _, _, _, _, _, _, iV (Int.tmod (band .i64 (shr .i64 x1 7) 7) 7), _, _, _, _, _, _, _, _, _, _, _, _, _, _, _] : List Value).toArray 29 (0, 0))] Z := hS'
   clear hs' hS'
   refine s_fieldAddr h rfl U29 rfl ti3 rfl rfl fun a h=>?_
   obtain ⟨w_18, hs', hS'⟩ := hS.store (P := Try.prog) (p := 2) (o := 5) (t := 3) (v := iV (band .i64 (shr .i64 x1 10) 63)) (vs := [iV (band .i64 (shr .i64 x1 10) 63)]) rfl ti3 rfl rfl rfl (by intro u hu; simp only [List.mem_cons, List.not_mem_nil, or_false] at hu; rcases hu with rfl <;> rfl)
   refine s_store h rfl rfl hs' ?_
   replace hS : Sep w0 w_18 [_, _, Mem.one g_4 (.cells ([_, _, _, _, _, iV (band .i64 (shr .i64 x1 10) 63), _, _, _, _, _, _, _, _, _, _, _, _, _, _, _, _, _, _] : List Value).toArray 29 (0, 0))] Z := hS'
   clear hs' hS'
   refine wpList_nil <| x_block_n <| x_then_n (hKJ_6 _ _ ?_)
   refine wp_seq <| wp_region_lit <| s_load h rfl rfl (hS.load_agg (p := 2) (us := [iV (w64 ((band .i64 x0 7) + 1)), iV (Int.tmod (band .i64 (shr .i64 x0 3) 7) 7), iV (Int.tmod (band .i64 (shr .i64 x0 6) 7) 7), iV (band .i64 (shr .i64 x0 9) 1023), iV 0, iV (band .i64 (shr .i64 x1 10) 63), .bool false, iV (band .i64 x1 127), iV (Int.tmod (band .i64 (shr .i64 x1 7) 7) 7), iV 0, iV 0, nS, iV 0, iV 0, nS, nS, iV 0, iV 0, iV 0, iV 0, iV 0, nS, nS, nS]) rfl U29 rfl ti29 rfl rfl) fun a h=>?_
   obtain ⟨w_19, hs', hS'⟩ := hS.store (P := Try.prog) (p := 1) (o := 0) (t := 29) (v := .agg ([iV (w64 ((band .i64 x0 7) + 1)), iV (Int.tmod (band .i64 (shr .i64 x0 3) 7) 7), iV (Int.tmod (band .i64 (shr .i64 x0 6) 7) 7), iV (band .i64 (shr .i64 x0 9) 1023), iV 0, iV (band .i64 (shr .i64 x1 10) 63), .bool false, iV (band .i64 x1 127), iV (Int.tmod (band .i64 (shr .i64 x1 7) 7) 7), iV 0, iV 0, nS, iV 0, iV 0, nS, nS, iV 0, iV 0, iV 0, iV 0, iV 0, nS, nS, nS] : List Value).toArray) (vs := [iV (w64 ((band .i64 x0 7) + 1)), iV (Int.tmod (band .i64 (shr .i64 x0 3) 7) 7), iV (Int.tmod (band .i64 (shr .i64 x0 6) 7) 7), iV (band .i64 (shr .i64 x0 9) 1023), iV 0, iV (band .i64 (shr .i64 x1 10) 63), .bool false, iV (band .i64 x1 127), iV (Int.tmod (band .i64 (shr .i64 x1 7) 7) 7), iV 0, iV 0, nS, iV 0, iV 0, nS, nS, iV 0, iV 0, iV 0, iV 0, iV 0, nS, nS, nS]) rfl ti29 rfl rfl rfl (by intro u hu; simp only [List.mem_cons, List.not_mem_nil, or_false] at hu; rcases hu with rfl | rfl | rfl | rfl | rfl | rfl | rfl | rfl | rfl | rfl | rfl | rfl | rfl | rfl | rfl | rfl | rfl | rfl | rfl | rfl | rfl | rfl | rfl | rfl <;> rfl)
   refine s_store h rfl rfl hs' ?_
   replace hS : Sep w0 w_19 [_, Mem.one g_2 (.cells ([iV (w64 ((band .i64 x0 7) + 1)), iV (Int.tmod (band .i64 (shr .i64 x0 3) 7) 7), iV (Int.tmod (band .i64 (shr .i64 x0 6) 7) 7), iV (band .i64 (shr .i64 x0 9) 1023), _, iV (band .i64 (shr .i64 x1 10) 63), _, iV (band .i64 x1 127), iV (Int.tmod (band .i64 (shr .i64 x1 7) 7) 7), _, _, _, _, _, _, _, _, _, _, _, _, _, _, _] : List Value).toArray 29 (0, 0)), _] Z := hS'
   clear hs' hS'
   refine wpList_nil <| x_then_n <| wp_ret ?_
   have hS' := hS.room
   replace hS : Sep w0 w_19 [_, _, _, Mem.no] Z := hS'
   clear hS'
   replace hS : Sep w0 w_19 [_, _, _, _] Z := hS
   have hS' := hS.room
   replace hS : Sep w0 w_19 [_, _, _, _, Mem.no] Z := hS'
   clear hS'
   replace hS : Sep w0 w_19 [_, _, _, _, _] Z := hS
   have hS' := hS.room
   replace hS : Sep w0 w_19 [_, _, _, _, _, Mem.no] Z := hS'
   clear hS'
   replace hS : Sep w0 w_19 [_, _, _, _, _, _] Z := hS
   obtain rfl := Option.some.inj H
   exact f_ret h (rs := [.cell 4 29]) rfl (.cell rfl (hS.load_agg (p := 1) (us := [iV (w64 ((band .i64 x0 7) + 1)), iV (Int.tmod (band .i64 (shr .i64 x0 3) 7) 7), iV (Int.tmod (band .i64 (shr .i64 x0 6) 7) 7), iV (band .i64 (shr .i64 x0 9) 1023), iV 0, iV (band .i64 (shr .i64 x1 10) 63), .bool false, iV (band .i64 x1 127), iV (Int.tmod (band .i64 (shr .i64 x1 7) 7) 7), iV 0, iV 0, nS, iV 0, iV 0, nS, nS, iV 0, iV 0, iV 0, iV 0, iV 0, nS, nS, nS]) rfl U29 rfl ti29 rfl rfl) .nil) ⟨_, rfl, nS, nS, nS, nS, nS, nS, Mem.no, Mem.no, Mem.no, Mem.no, rfl, (Sep.sel hS [0, 3, 4, 5] (by decide)), (Own.nil Kd.u8 5 Mem.no), (Own.nil (Kd.int .i64) 3 Mem.no), (Own.nil (Kd.int .i64) 3 Mem.no), (Rd.nil _ _), (Rd.nil _ _), (Rd.nil _ _)⟩
  ·rw [if_neg hc_15] at H
   refine c_cond_f h rfl (beq_eq_false_iff_ne.2 hc_15) <| wp_seq <| wp_region_lit <| s_cmp (b := ((w64 ((band .i64 x0 7) + 1)) == 4)) h rfl rfl rfl (.inl ⟨rfl, rfl⟩) fun a h=>s_assign h rfl rfl fun a h=>wpList_nil <| x_then_n ?_
   by_cases hc_23 : (w64 ((band .i64 x0 7) + 1)) = 4
   ·rw [if_pos hc_23] at H
    refine c_cond_t h rfl (beq_iff_eq.2 hc_23) <| wp_region_lit <| s_move h rfl rfl fun a h=>s_bits (i := x1) (j := 4095) (r := band .i64 x1 4095) h rfl rfl rfl (.inl ⟨rfl, rfl⟩) fun a h=>s_fieldAddr h rfl U29 rfl ti3 rfl rfl fun a h=>?_
    obtain ⟨w_24, hs', hS'⟩ := hS.store (P := Try.prog) (p := 2) (o := 9) (t := 3) (v := iV (band .i64 x1 4095)) (vs := [iV (band .i64 x1 4095)]) rfl ti3 rfl rfl rfl (by intro u hu; simp only [List.mem_cons, List.not_mem_nil, or_false] at hu; rcases hu with rfl <;> rfl)
    refine s_store h rfl rfl hs' ?_
    replace hS : Sep w0 w_24 [_, _, Mem.one g_4 (.cells ([_, _, _, _, _, _, _, _, _, iV (band .i64 x1 4095), _, _, _, _, _, _, _, _, _, _, _, _, _, _] : List Value).toArray 29 (0, 0))] Z := hS'
    clear hs' hS'
    refine wpList_nil <| x_block_n <| x_then_n (hKJ_6 _ _ ?_)
    refine wp_seq <| wp_region_lit <| s_load h rfl rfl (hS.load_agg (p := 2) (us := [iV (w64 ((band .i64 x0 7) + 1)), iV (Int.tmod (band .i64 (shr .i64 x0 3) 7) 7), iV (Int.tmod (band .i64 (shr .i64 x0 6) 7) 7), iV (band .i64 (shr .i64 x0 9) 1023), iV 0, iV 0, .bool false, iV 0, iV 0, iV (band .i64 x1 4095), iV 0, nS, iV 0, iV 0, nS, nS, iV 0, iV 0, iV 0, iV 0, iV 0, nS, nS, nS]) rfl U29 rfl ti29 rfl rfl) fun a h=>?_
    obtain ⟨w_25, hs', hS'⟩ := hS.store (P := Try.prog) (p := 1) (o := 0) (t := 29) (v := .agg ([iV (w64 ((band .i64 x0 7) + 1)), iV (Int.tmod (band .i64 (shr .i64 x0 3) 7) 7), iV (Int.tmod (band .i64 (shr .i64 x0 6) 7) 7), iV (band .i64 (shr .i64 x0 9) 1023), iV 0, iV 0, .bool false, iV 0, iV 0, iV (band .i64 x1 4095), iV 0, nS, iV 0, iV 0, nS, nS, iV 0, iV 0, iV 0, iV 0, iV 0, nS, nS, nS] : List Value).toArray) (vs := [iV (w64 ((band .i64 x0 7) + 1)), iV (Int.tmod (band .i64 (shr .i64 x0 3) 7) 7), iV (Int.tmod (band .i64 (shr .i64 x0 6) 7) 7), iV (band .i64 (shr .i64 x0 9) 1023), iV 0, iV 0, .bool false, iV 0, iV 0, iV (band .i64 x1 4095), iV 0, nS, iV 0, iV 0, nS, nS, iV 0, iV 0, iV 0, iV 0, iV 0, nS, nS, nS]) rfl ti29 rfl rfl rfl (by intro u hu; simp only [List.mem_cons, List.not_mem_nil, or_false] at hu; rcases hu with rfl | rfl | rfl | rfl | rfl | rfl | rfl | rfl | rfl | rfl | rfl | rfl | rfl | rfl | rfl | rfl | rfl | rfl | rfl | rfl | rfl | rfl | rfl | rfl <;> rfl)
    refine s_store h rfl rfl hs' ?_
    replace hS : Sep w0 w_25 [_, Mem.one g_2 (.cells ([iV (w64 ((band .i64 x0 7) + 1)), iV (Int.tmod (band .i64 (shr .i64 x0 3) 7) 7), iV (Int.tmod (band .i64 (shr .i64 x0 6) 7) 7), iV (band .i64 (shr .i64 x0 9) 1023), _, _, _, _, _, iV (band .i64 x1 4095), _, _, _, _, _, _, _, _, _, _, _, _, _, _] : List Value).toArray 29 (0, 0)), _] Z := hS'
    clear hs' hS'
    refine wpList_nil ?_
    replace h : Fr 150 a [(4, _)] := h.keep [4]
    refine x_then_n <| wp_ret ?_
    have hS' := hS.room
    replace hS : Sep w0 w_25 [_, _, _, Mem.no] Z := hS'
    clear hS'
    replace hS : Sep w0 w_25 [_, _, _, _] Z := hS
    have hS' := hS.room
    replace hS : Sep w0 w_25 [_, _, _, _, Mem.no] Z := hS'
    clear hS'
    replace hS : Sep w0 w_25 [_, _, _, _, _] Z := hS
    have hS' := hS.room
    replace hS : Sep w0 w_25 [_, _, _, _, _, Mem.no] Z := hS'
    clear hS'
    replace hS : Sep w0 w_25 [_, _, _, _, _, _] Z := hS
    obtain rfl := Option.some.inj H
    exact f_ret h (rs := [.cell 4 29]) rfl (.cell rfl (hS.load_agg (p := 1) (us := [iV (w64 ((band .i64 x0 7) + 1)), iV (Int.tmod (band .i64 (shr .i64 x0 3) 7) 7), iV (Int.tmod (band .i64 (shr .i64 x0 6) 7) 7), iV (band .i64 (shr .i64 x0 9) 1023), iV 0, iV 0, .bool false, iV 0, iV 0, iV (band .i64 x1 4095), iV 0, nS, iV 0, iV 0, nS, nS, iV 0, iV 0, iV 0, iV 0, iV 0, nS, nS, nS]) rfl U29 rfl ti29 rfl rfl) .nil) ⟨_, rfl, nS, nS, nS, nS, nS, nS, Mem.no, Mem.no, Mem.no, Mem.no, rfl, (Sep.sel hS [0, 3, 4, 5] (by decide)), (Own.nil Kd.u8 5 Mem.no), (Own.nil (Kd.int .i64) 3 Mem.no), (Own.nil (Kd.int .i64) 3 Mem.no), (Rd.nil _ _), (Rd.nil _ _), (Rd.nil _ _)⟩
   ·rw [if_neg hc_23] at H
    refine c_cond_f h rfl (beq_eq_false_iff_ne.2 hc_23) <| wp_seq <| wp_region_lit <| s_cmp (b := ((w64 ((band .i64 x0 7) + 1)) == 5)) h rfl rfl rfl (.inl ⟨rfl, rfl⟩) fun a h=>s_assign h rfl rfl fun a h=>wpList_nil <| x_then_n ?_
    by_cases hc_29 : (w64 ((band .i64 x0 7) + 1)) = 5
    ·rw [if_pos hc_29] at H
     refine c_cond_t h rfl (beq_iff_eq.2 hc_29) <| wp_seq <| wp_region_lit <| s_move h rfl rfl fun a h=>s_bits (i := x1) (j := 4095) (r := band .i64 x1 4095) h rfl rfl rfl (.inl ⟨rfl, rfl⟩) fun a h=>s_move h rfl rfl fun a h=>s_shift (r := shr .i64 x1 12) h rfl rfl rfl (by decide) (.inr ⟨rfl, rfl⟩) fun a h=>s_bits (i := shr .i64 x1 12) (j := 4095) (r := band .i64 (shr .i64 x1 12) 4095) h rfl rfl rfl (.inl ⟨rfl, rfl⟩) fun a h=>s_fieldAddr h rfl U29 rfl ti3 rfl rfl fun a h=>?_
     obtain ⟨w_30, hs', hS'⟩ := hS.store (P := Try.prog) (p := 2) (o := 9) (t := 3) (v := iV (band .i64 x1 4095)) (vs := [iV (band .i64 x1 4095)]) rfl ti3 rfl rfl rfl (by intro u hu; simp only [List.mem_cons, List.not_mem_nil, or_false] at hu; rcases hu with rfl <;> rfl)
     refine s_store h rfl rfl hs' ?_
     replace hS : Sep w0 w_30 [_, _, Mem.one g_4 (.cells ([_, _, _, _, _, _, _, _, _, iV (band .i64 x1 4095), _, _, _, _, _, _, _, _, _, _, _, _, _, _] : List Value).toArray 29 (0, 0))] Z := hS'
     clear hs' hS'
     refine s_fieldAddr h rfl U29 rfl ti3 rfl rfl fun a h=>?_
     obtain ⟨w_31, hs', hS'⟩ := hS.store (P := Try.prog) (p := 2) (o := 10) (t := 3) (v := iV (band .i64 (shr .i64 x1 12) 4095)) (vs := [iV (band .i64 (shr .i64 x1 12) 4095)]) rfl ti3 rfl rfl rfl (by intro u hu; simp only [List.mem_cons, List.not_mem_nil, or_false] at hu; rcases hu with rfl <;> rfl)
     refine s_store h rfl rfl hs' ?_
     replace hS : Sep w0 w_31 [_, _, Mem.one g_4 (.cells ([_, _, _, _, _, _, _, _, _, _, iV (band .i64 (shr .i64 x1 12) 4095), _, _, _, _, _, _, _, _, _, _, _, _, _] : List Value).toArray 29 (0, 0))] Z := hS'
     clear hs' hS'
     refine wpList_nil ?_
     replace h : Fr 150 a [(1, _), (4, _), (5, _)] := h.keep [1, 4, 5]
     refine x_then_n <| wp_seq <| wp_region_lit <| s_assign h rfl rfl fun a h=>wpList_nil <| x_then_n <| c_last fun KJ_32 hKJ_32 => ?_
     have hJ_j_40 : ∀ (x_34 : List UInt8), hocketlaw11_Msg.J1 K x0 x1 x_34 = some r → ∀ (a : Act) (w_39 : World), (∃ (v_37 : Value) (N_33 : Mem) (M_35 : Mem), Fr 150 a [(4, .pointer (some ⟨g_2, 0, none⟩)), (5, .pointer (some ⟨g_4, 0, none⟩))] ∧ Sep w0 w_39 [N_33, Mem.one g_2 (.cells ([iV 0, iV 0, iV 0, iV 0, iV 0, iV 0, .bool false, iV 0, iV 0, iV 0, iV 0, nS, iV 0, iV 0, nS, nS, iV 0, iV 0, iV 0, iV 0, iV 0, nS, nS, nS] : List Value).toArray 29 (0, 0)), Mem.one g_4 (.cells ([iV (w64 ((band .i64 x0 7) + 1)), iV (Int.tmod (band .i64 (shr .i64 x0 3) 7) 7), iV (Int.tmod (band .i64 (shr .i64 x0 6) 7) 7), iV (band .i64 (shr .i64 x0 9) 1023), iV 0, iV 0, .bool false, iV 0, iV 0, iV (band .i64 x1 4095), iV (band .i64 (shr .i64 x1 12) 4095), v_37, iV 0, iV 0, nS, nS, iV 0, iV 0, iV 0, iV 0, iV 0, nS, nS, nS] : List Value).toArray 29 (0, 0)), M_35] Z ∧ Mem.no.le N_33 ∧ Own Kd.u8 5 M_35 Mem.no v_37 x_34) → KJ_32 a w_39 := by
      clear H h hS a
      rintro x_34 H a w_39 ⟨v_37, N_33, M_35, h, hS, le_33, ho_38⟩
      unfold hocketlaw11_Msg.J1 at H
      refine hKJ_32 _ _ <| x_block_n <| x_then_n (hKJ_6 _ _ ?_)
      refine wp_seq <| wp_region_lit <| s_load h rfl rfl (hS.load_agg (p := 2) (us := [iV (w64 ((band .i64 x0 7) + 1)), iV (Int.tmod (band .i64 (shr .i64 x0 3) 7) 7), iV (Int.tmod (band .i64 (shr .i64 x0 6) 7) 7), iV (band .i64 (shr .i64 x0 9) 1023), iV 0, iV 0, .bool false, iV 0, iV 0, iV (band .i64 x1 4095), iV (band .i64 (shr .i64 x1 12) 4095), v_37, iV 0, iV 0, nS, nS, iV 0, iV 0, iV 0, iV 0, iV 0, nS, nS, nS]) rfl U29 rfl ti29 rfl rfl) fun a h=>?_
      obtain ⟨w_41, hs', hS'⟩ := hS.store (P := Try.prog) (p := 1) (o := 0) (t := 29) (v := .agg ([iV (w64 ((band .i64 x0 7) + 1)), iV (Int.tmod (band .i64 (shr .i64 x0 3) 7) 7), iV (Int.tmod (band .i64 (shr .i64 x0 6) 7) 7), iV (band .i64 (shr .i64 x0 9) 1023), iV 0, iV 0, .bool false, iV 0, iV 0, iV (band .i64 x1 4095), iV (band .i64 (shr .i64 x1 12) 4095), v_37, iV 0, iV 0, nS, nS, iV 0, iV 0, iV 0, iV 0, iV 0, nS, nS, nS] : List Value).toArray) (vs := [iV (w64 ((band .i64 x0 7) + 1)), iV (Int.tmod (band .i64 (shr .i64 x0 3) 7) 7), iV (Int.tmod (band .i64 (shr .i64 x0 6) 7) 7), iV (band .i64 (shr .i64 x0 9) 1023), iV 0, iV 0, .bool false, iV 0, iV 0, iV (band .i64 x1 4095), iV (band .i64 (shr .i64 x1 12) 4095), v_37, iV 0, iV 0, nS, nS, iV 0, iV 0, iV 0, iV 0, iV 0, nS, nS, nS]) rfl ti29 rfl rfl rfl (by intro u hu; simp only [List.mem_cons, List.not_mem_nil, or_false] at hu; rcases hu with rfl | rfl | rfl | rfl | rfl | rfl | rfl | rfl | rfl | rfl | rfl | rfl | rfl | rfl | rfl | rfl | rfl | rfl | rfl | rfl | rfl | rfl | rfl | rfl <;> first | rfl | exact ho_38.one)
      refine s_store h rfl rfl hs' ?_
      replace hS : Sep w0 w_41 [_, Mem.one g_2 (.cells ([iV (w64 ((band .i64 x0 7) + 1)), iV (Int.tmod (band .i64 (shr .i64 x0 3) 7) 7), iV (Int.tmod (band .i64 (shr .i64 x0 6) 7) 7), iV (band .i64 (shr .i64 x0 9) 1023), _, _, _, _, _, iV (band .i64 x1 4095), iV (band .i64 (shr .i64 x1 12) 4095), v_37, _, _, _, _, _, _, _, _, _, _, _, _] : List Value).toArray 29 (0, 0)), _, _] Z := hS'
      clear hs' hS'
      refine wpList_nil <| x_then_n <| wp_ret ?_
      have hS' := hS.room
      replace hS : Sep w0 w_41 [_, _, _, _, Mem.no] Z := hS'
      clear hS'
      replace hS : Sep w0 w_41 [_, _, _, _, _] Z := hS
      have hS' := hS.room
      replace hS : Sep w0 w_41 [_, _, _, _, _, Mem.no] Z := hS'
      clear hS'
      replace hS : Sep w0 w_41 [_, _, _, _, _, _] Z := hS
      obtain rfl := Option.some.inj H
      exact f_ret h (rs := [.cell 4 29]) rfl (.cell rfl (hS.load_agg (p := 1) (us := [iV (w64 ((band .i64 x0 7) + 1)), iV (Int.tmod (band .i64 (shr .i64 x0 3) 7) 7), iV (Int.tmod (band .i64 (shr .i64 x0 6) 7) 7), iV (band .i64 (shr .i64 x0 9) 1023), iV 0, iV 0, .bool false, iV 0, iV 0, iV (band .i64 x1 4095), iV (band .i64 (shr .i64 x1 12) 4095), v_37, iV 0, iV 0, nS, nS, iV 0, iV 0, iV 0, iV 0, iV 0, nS, nS, nS]) rfl U29 rfl ti29 rfl rfl) .nil) ⟨_, rfl, v_37, nS, nS, nS, nS, nS, N_33, M_35, Mem.no, Mem.no, rfl, (Sep.sel hS [0, 3, 4, 5] (by decide)), ho_38, (Own.nil (Kd.int .i64) 3 Mem.no), (Own.nil (Kd.int .i64) 3 Mem.no), (Rd.nil _ _), (Rd.nil _ _), (Rd.nil _ _)⟩
     clear hKJ_32
     have hS' := hS.room
     replace hS : Sep w0 w_31 [_, _, _, Mem.no] Z := hS'
     clear hS'
     replace hS : Sep w0 w_31 [_, _, _, _] Z := hS
     replace h : Fr 150 a [(1, _), (4, _), (5, _), (6, iV 0)] := h.keep [1, 4, 5, 6]
     refine c_block <| c_loop (fun k_51 a w_51 => ∃ (x_45 : Int) (x_46 : List UInt8) (v_49 : Value) (N_44 : Mem) (M_47 : Mem), hocketlaw11_Msg.L1 K x1 (fun v => hocketlaw11_Msg.J1 K x0 x1 v) k_51 (x_45, x_46) = some r ∧ Fr 150 a [(1, iV x1), (4, .pointer (some ⟨g_2, 0, none⟩)), (5, .pointer (some ⟨g_4, 0, none⟩)), (6, iV x_45)] ∧ Sep w0 w_51 [N_44, Mem.one g_2 (.cells ([iV 0, iV 0, iV 0, iV 0, iV 0, iV 0, .bool false, iV 0, iV 0, iV 0, iV 0, nS, iV 0, iV 0, nS, nS, iV 0, iV 0, iV 0, iV 0, iV 0, nS, nS, nS] : List Value).toArray 29 (0, 0)), Mem.one g_4 (.cells ([iV (w64 ((band .i64 x0 7) + 1)), iV (Int.tmod (band .i64 (shr .i64 x0 3) 7) 7), iV (Int.tmod (band .i64 (shr .i64 x0 6) 7) 7), iV (band .i64 (shr .i64 x0 9) 1023), iV 0, iV 0, .bool false, iV 0, iV 0, iV (band .i64 x1 4095), iV (band .i64 (shr .i64 x1 12) 4095), v_49, iV 0, iV 0, nS, nS, iV 0, iV 0, iV 0, iV 0, iV 0, nS, nS, nS] : List Value).toArray 29 (0, 0)), M_47] Z ∧ Mem.no.le N_44 ∧ Own Kd.u8 5 M_47 Mem.no v_49 x_46) K ⟨0, ([] : List UInt8), nS, Mem.no, Mem.no, H, h, (Sep.sel hS [0, 1, 2, 3] (by decide)), (Mem.le.refl _), (Own.nil Kd.u8 5 Mem.no)⟩ (fun a w h => by obtain ⟨_, _, _, _, _, H, _⟩ := h; cases (show (none : Option (api_Msg)) = some r from H)) ?_
     clear h hS a H
     rintro k_51 a w_51 KL_51 hKL_51 ⟨x_45, x_46, v_49, N_44, M_47, H, h, hS, le_44, ho_50⟩
     replace H : hocketlaw11_Msg.B1 K x1 (fun v => hocketlaw11_Msg.J1 K x0 x1 v) (hocketlaw11_Msg.L1 K x1 (fun v => hocketlaw11_Msg.J1 K x0 x1 v) k_51) x_45 x_46 = some r := H
     unfold hocketlaw11_Msg.B1 at H
     refine c_seq fun KJ_54 hKJ_54 => wp_seq <| wp_region_lit <| s_move h rfl rfl fun a h=>s_move h rfl rfl fun a h=>s_shift (r := shr .i64 x1 24) h rfl rfl rfl (by decide) (.inr ⟨rfl, rfl⟩) fun a h=>s_bits (i := shr .i64 x1 24) (j := 63) (r := band .i64 (shr .i64 x1 24) 63) h rfl rfl rfl (.inl ⟨rfl, rfl⟩) fun a h=>s_cmp (b := decide (x_45 < (band .i64 (shr .i64 x1 24) 63))) h rfl rfl rfl (.inr (.inr (.inl ⟨rfl, rfl⟩))) fun a h=>wpList_nil <| x_then_n ?_
     by_cases hc_55 : x_45 < (band .i64 (shr .i64 x1 24) 63)
     ·rw [if_pos hc_55] at H
      refine c_cond_t h rfl (decide_eq_true hc_55) <| wp_skip <| x_then_n (hKJ_54 _ _ ?_)
      refine wp_seq <| c_block <| wp_region_lit <| s_fieldAddr h rfl U29 rfl ti23 rfl rfl fun a h=>s_load h rfl rfl (hS.load_one (p := 2) rfl U23 rfl rfl) fun a h=>s_move h rfl rfl fun a h=>s_move h rfl rfl fun a h=>s_bits (i := x_45) (j := 15) (r := band .i64 x_45 15) h rfl rfl rfl (.inl ⟨rfl, rfl⟩) fun a h=>s_conv (wu64 (band .i64 x_45 15)) h rfl U3 U45 rfl rfl fun a h=>s_shift (r := shr .i64 x1 (wu64 (band .i64 x_45 15))) h rfl rfl rfl (wu64_nn _) (.inr ⟨rfl, rfl⟩) fun a h=>s_conv (((toU8 (shr .i64 x1 (wu64 (band .i64 x_45 15)))).toNat : Int)) h rfl U3 U5 rfl (wrap_u8 _).symm fun a h=>?_
      have hq_60 : Reps Kd.u8 Mem.no ([toU8 (shr .i64 x1 (wu64 (band .i64 x_45 15)))] : List UInt8) _ := ((Reps.one (d := Kd.u8) (x := toU8 (shr .i64 x1 (wu64 (band .i64 x_45 15)))) (show Kd.u8.K _ _ [.int .u8 ((toU8 (shr .i64 x1 (wu64 (band .i64 x_45 15)))).toNat : Int)] from rfl)).append (Reps.nil Kd.u8 _))
      refine s_buildSlice h rfl U23 ti5 rfl rfl rfl (.cons rfl .nil) rfl rfl rfl hS hq_60 rfl fun w_56 v_57 M_58 hS' ho_59 a h => ?_
      replace hS : Sep w0 w_56 [_, _, _, _, M_58] Z := hS'
      clear hS' hq_60
      obtain ⟨t_62, et_62, H⟩ := Option.bind_eq_some_iff.1 H
      refine s_append (J := Mem.no) (I' := Mem.no) (p := 3) 140737488355328 h rfl rfl rfl U23 ti5 rfl rfl rfl rfl hS rfl ho_50 (Src.flat flat_u8 (ho_59.src (hS.own 4))) (Mem.le.refl _) (Mem.le.refl _) et_62 fun w_63 v_64 M_65 hS' ho_66 a h => ?_
      replace hS : Sep w0 w_63 [_, _, _, M_65, _] Z := hS'
      clear hS'
      refine s_fieldAddr h rfl U29 rfl ti23 rfl rfl fun a h=>?_
      obtain ⟨w_68, hs', hS'⟩ := hS.store (P := Try.prog) (p := 2) (o := 11) (t := 23) (v := v_64) (vs := [v_64]) rfl ti23 ho_66.cellsA rfl rfl (by intro u hu; simp only [List.mem_cons, List.not_mem_nil, or_false] at hu; rcases hu with rfl <;> first | rfl | exact ho_66.one)
      refine s_store h rfl rfl hs' ?_
      replace hS : Sep w0 w_68 [_, _, Mem.one g_4 (.cells ([_, _, _, _, _, _, _, _, _, _, _, v_64, _, _, _, _, _, _, _, _, _, _, _, _] : List Value).toArray 29 (0, 0)), _, _] Z := hS'
      clear hs' hS'
      refine wpList_nil <| x_block_n <| x_then_n <| wp_region_lit <| s_move h rfl rfl fun a h=>s_arith (r := w64 (x_45 + 1)) h rfl rfl rfl (.inl ⟨rfl, rfl⟩) fun a h=>s_assign h rfl rfl fun a h=>wpList_nil ?_
      replace h : Fr 150 a [(1, _), (4, _), (5, _), (6, iV (w64 (x_45 + 1)))] := h.keep [1, 4, 5, 6]
      refine x_then_n (hKL_51 _ _ ?_)
      replace hS : Sep w0 w_68 [_, _, _, _, _] Z := hS
      replace h : Fr 150 a [(1, _), (4, _), (5, _), (6, _)] := h.keep [1, 4, 5, 6]
      exact ⟨w64 (x_45 + 1), t_62, v_64, N_44, M_65, H, h, (Sep.sel hS [0, 1, 2, 3] (by decide)), le_44, ho_66⟩
     ·rw [if_neg hc_55] at H
      refine c_cond_f h rfl (decide_eq_false hc_55) <| wp_exit (x_then_x (x_then_x (x_block_t ?_)))
      replace hS : Sep w0 w_51 [_, _, _, _] Z := hS
      replace h : Fr 150 a [(4, _), (5, _)] := h.keep [4, 5]
      exact x_then_n (hJ_j_40 x_46 H _ _ ⟨v_49, N_44, M_47, h, (Sep.sel hS [0, 1, 2, 3] (by decide)), le_44, ho_50⟩)
    ·rw [if_neg hc_29] at H
     refine c_cond_f h rfl (beq_eq_false_iff_ne.2 hc_29) <| wp_seq <| wp_region_lit <| s_cmp (b := ((w64 ((band .i64 x0 7) + 1)) == 7)) h rfl rfl rfl (.inl ⟨rfl, rfl⟩) fun a h=>s_assign h rfl rfl fun a h=>wpList_nil ?_
     replace h : Fr 150 a [(0, _), (1, _), (4, _), (5, _), (25, _), (86, .bool ((w64 ((band .i64 x0 7) + 1)) == 7))] := h.keep [0, 1, 4, 5, 25, 86]
     refine x_then_n ?_
     by_cases hc_69 : (w64 ((band .i64 x0 7) + 1)) = 7
     ·rw [if_pos hc_69] at H
      refine c_cond_t h rfl (beq_iff_eq.2 hc_69) <| wp_seq <| wp_region_lit <| s_move h rfl rfl fun a h=>s_bits (i := x1) (j := 1023) (r := band .i64 x1 1023) h rfl rfl rfl (.inl ⟨rfl, rfl⟩) fun a h=>s_move h rfl rfl fun a h=>s_shift (r := shr .i64 x1 10) h rfl rfl rfl (by decide) (.inr ⟨rfl, rfl⟩) fun a h=>s_bits (i := shr .i64 x1 10) (j := 255) (r := band .i64 (shr .i64 x1 10) 255) h rfl rfl rfl (.inl ⟨rfl, rfl⟩) fun a h=>s_fieldAddr h rfl U29 rfl ti3 rfl rfl fun a h=>?_
      obtain ⟨w_70, hs', hS'⟩ := hS.store (P := Try.prog) (p := 2) (o := 12) (t := 3) (v := iV (band .i64 x1 1023)) (vs := [iV (band .i64 x1 1023)]) rfl ti3 rfl rfl rfl (by intro u hu; simp only [List.mem_cons, List.not_mem_nil, or_false] at hu; rcases hu with rfl <;> rfl)
      refine s_store h rfl rfl hs' ?_
      replace hS : Sep w0 w_70 [_, _, Mem.one g_4 (.cells ([_, _, _, _, _, _, _, _, _, _, _, _, iV (band .i64 x1 1023), _, _, _, _, _, _, _, _, _, _, _] : List Value).toArray 29 (0, 0))] Z := hS'
      clear hs' hS'
      refine s_fieldAddr h rfl U29 rfl ti3 rfl rfl fun a h=>?_
      obtain ⟨w_71, hs', hS'⟩ := hS.store (P := Try.prog) (p := 2) (o := 13) (t := 3) (v := iV (band .i64 (shr .i64 x1 10) 255)) (vs := [iV (band .i64 (shr .i64 x1 10) 255)]) rfl ti3 rfl rfl rfl (by intro u hu; simp only [List.mem_cons, List.not_mem_nil, or_false] at hu; rcases hu with rfl <;> rfl)
      refine s_store h rfl rfl hs' ?_
      replace hS : Sep w0 w_71 [_, _, Mem.one g_4 (.cells ([_, _, _, _, _, _, _, _, _, _, _, _, _, iV (band .i64 (shr .i64 x1 10) 255), _, _, _, _, _, _, _, _, _, _] : List Value).toArray 29 (0, 0))] Z := hS'
      clear hs' hS'
      refine wpList_nil <| x_then_n <| c_seq fun KJ_72 hKJ_72 => wp_seq <| wp_region_lit <| s_assign h rfl rfl fun a h=>wpList_nil <| x_then_n ?_
      have hJ_j_80 : ∀ (x_74 : List Int), hocketlaw11_Msg.J2 K x1 x0 x_74 = some r → ∀ (a : Act) (w_79 : World), (∃ (v_77 : Value) (N_73 : Mem) (M_75 : Mem), Fr 150 a [(1, iV x1), (4, .pointer (some ⟨g_2, 0, none⟩)), (5, .pointer (some ⟨g_4, 0, none⟩))] ∧ Sep w0 w_79 [N_73, Mem.one g_2 (.cells ([iV 0, iV 0, iV 0, iV 0, iV 0, iV 0, .bool false, iV 0, iV 0, iV 0, iV 0, nS, iV 0, iV 0, nS, nS, iV 0, iV 0, iV 0, iV 0, iV 0, nS, nS, nS] : List Value).toArray 29 (0, 0)), Mem.one g_4 (.cells ([iV (w64 ((band .i64 x0 7) + 1)), iV (Int.tmod (band .i64 (shr .i64 x0 3) 7) 7), iV (Int.tmod (band .i64 (shr .i64 x0 6) 7) 7), iV (band .i64 (shr .i64 x0 9) 1023), iV 0, iV 0, .bool false, iV 0, iV 0, iV 0, iV 0, nS, iV (band .i64 x1 1023), iV (band .i64 (shr .i64 x1 10) 255), v_77, nS, iV 0, iV 0, iV 0, iV 0, iV 0, nS, nS, nS] : List Value).toArray 29 (0, 0)), M_75] Z ∧ Mem.no.le N_73 ∧ Own (Kd.int .i64) 3 M_75 Mem.no v_77 x_74) → KJ_72 a w_79 := by
       clear H h hS a
       rintro x_74 H a w_79 ⟨v_77, N_73, M_75, h, hS, le_73, ho_78⟩
       unfold hocketlaw11_Msg.J2 at H
       refine hKJ_72 _ _ <| wp_seq <| wp_region_lit <| s_assign h rfl rfl fun a h=>wpList_nil <| x_then_n <| c_last fun KJ_81 hKJ_81 => ?_
       have hJ_j_89 : ∀ (x_83 : List Int), hocketlaw11_Msg.J3 K x0 x1 x_74 x_83 = some r → ∀ (a : Act) (w_88 : World), (∃ (v_86 : Value) (N_82 : Mem) (M_84 : Mem), Fr 150 a [(4, .pointer (some ⟨g_2, 0, none⟩)), (5, .pointer (some ⟨g_4, 0, none⟩))] ∧ Sep w0 w_88 [N_82, Mem.one g_2 (.cells ([iV 0, iV 0, iV 0, iV 0, iV 0, iV 0, .bool false, iV 0, iV 0, iV 0, iV 0, nS, iV 0, iV 0, nS, nS, iV 0, iV 0, iV 0, iV 0, iV 0, nS, nS, nS] : List Value).toArray 29 (0, 0)), Mem.one g_4 (.cells ([iV (w64 ((band .i64 x0 7) + 1)), iV (Int.tmod (band .i64 (shr .i64 x0 3) 7) 7), iV (Int.tmod (band .i64 (shr .i64 x0 6) 7) 7), iV (band .i64 (shr .i64 x0 9) 1023), iV 0, iV 0, .bool false, iV 0, iV 0, iV 0, iV 0, nS, iV (band .i64 x1 1023), iV (band .i64 (shr .i64 x1 10) 255), v_77, v_86, iV 0, iV 0, iV 0, iV 0, iV 0, nS, nS, nS] : List Value).toArray 29 (0, 0)), M_75, M_84] Z ∧ N_73.le N_82 ∧ Own (Kd.int .i64) 3 M_84 Mem.no v_86 x_83) → KJ_81 a w_88 := by
        clear H h hS a
        rintro x_83 H a w_88 ⟨v_86, N_82, M_84, h, hS, le_82, ho_87⟩
        unfold hocketlaw11_Msg.J3 at H
        refine hKJ_81 _ _ <| x_block_n <| x_then_n (hKJ_6 _ _ ?_)
        refine wp_seq <| wp_region_lit <| s_load h rfl rfl (hS.load_agg (p := 2) (us := [iV (w64 ((band .i64 x0 7) + 1)), iV (Int.tmod (band .i64 (shr .i64 x0 3) 7) 7), iV (Int.tmod (band .i64 (shr .i64 x0 6) 7) 7), iV (band .i64 (shr .i64 x0 9) 1023), iV 0, iV 0, .bool false, iV 0, iV 0, iV 0, iV 0, nS, iV (band .i64 x1 1023), iV (band .i64 (shr .i64 x1 10) 255), v_77, v_86, iV 0, iV 0, iV 0, iV 0, iV 0, nS, nS, nS]) rfl U29 rfl ti29 rfl rfl) fun a h=>?_
        obtain ⟨w_90, hs', hS'⟩ := hS.store (P := Try.prog) (p := 1) (o := 0) (t := 29) (v := .agg ([iV (w64 ((band .i64 x0 7) + 1)), iV (Int.tmod (band .i64 (shr .i64 x0 3) 7) 7), iV (Int.tmod (band .i64 (shr .i64 x0 6) 7) 7), iV (band .i64 (shr .i64 x0 9) 1023), iV 0, iV 0, .bool false, iV 0, iV 0, iV 0, iV 0, nS, iV (band .i64 x1 1023), iV (band .i64 (shr .i64 x1 10) 255), v_77, v_86, iV 0, iV 0, iV 0, iV 0, iV 0, nS, nS, nS] : List Value).toArray) (vs := [iV (w64 ((band .i64 x0 7) + 1)), iV (Int.tmod (band .i64 (shr .i64 x0 3) 7) 7), iV (Int.tmod (band .i64 (shr .i64 x0 6) 7) 7), iV (band .i64 (shr .i64 x0 9) 1023), iV 0, iV 0, .bool false, iV 0, iV 0, iV 0, iV 0, nS, iV (band .i64 x1 1023), iV (band .i64 (shr .i64 x1 10) 255), v_77, v_86, iV 0, iV 0, iV 0, iV 0, iV 0, nS, nS, nS]) rfl ti29 rfl rfl rfl (by intro u hu; simp only [List.mem_cons, List.not_mem_nil, or_false] at hu; rcases hu with rfl | rfl | rfl | rfl | rfl | rfl | rfl | rfl | rfl | rfl | rfl | rfl | rfl | rfl | rfl | rfl | rfl | rfl | rfl | rfl | rfl | rfl | rfl | rfl <;> first | rfl | exact ho_78.one | exact ho_87.one)
        refine s_store h rfl rfl hs' ?_
        replace hS : Sep w0 w_90 [_, Mem.one g_2 (.cells ([iV (w64 ((band .i64 x0 7) + 1)), iV (Int.tmod (band .i64 (shr .i64 x0 3) 7) 7), iV (Int.tmod (band .i64 (shr .i64 x0 6) 7) 7), iV (band .i64 (shr .i64 x0 9) 1023), _, _, _, _, _, _, _, _, iV (band .i64 x1 1023), iV (band .i64 (shr .i64 x1 10) 255), v_77, v_86, _, _, _, _, _, _, _, _] : List Value).toArray 29 (0, 0)), _, _, _] Z := hS'
        clear hs' hS'
        refine wpList_nil ?_
        replace h : Fr 150 a [(4, _)] := h.keep [4]
        refine x_then_n <| wp_ret ?_
        have hS' := hS.room
        replace hS : Sep w0 w_90 [_, _, _, _, _, Mem.no] Z := hS'
        clear hS'
        replace hS : Sep w0 w_90 [_, _, _, _, _, _] Z := hS
        obtain rfl := Option.some.inj H
        exact f_ret h (rs := [.cell 4 29]) rfl (.cell rfl (hS.load_agg (p := 1) (us := [iV (w64 ((band .i64 x0 7) + 1)), iV (Int.tmod (band .i64 (shr .i64 x0 3) 7) 7), iV (Int.tmod (band .i64 (shr .i64 x0 6) 7) 7), iV (band .i64 (shr .i64 x0 9) 1023), iV 0, iV 0, .bool false, iV 0, iV 0, iV 0, iV 0, nS, iV (band .i64 x1 1023), iV (band .i64 (shr .i64 x1 10) 255), v_77, v_86, iV 0, iV 0, iV 0, iV 0, iV 0, nS, nS, nS]) rfl U29 rfl ti29 rfl rfl) .nil) ⟨_, rfl, nS, v_77, v_86, nS, nS, nS, N_82, Mem.no, M_75, M_84, rfl, (Sep.sel hS [0, 5, 3, 4] (by decide)), (Own.nil Kd.u8 5 Mem.no), ho_78, ho_87, (Rd.nil _ _), (Rd.nil _ _), (Rd.nil _ _)⟩
       clear hKJ_81
       have hS' := hS.room
       replace hS : Sep w0 w_79 [_, _, _, _, Mem.no] Z := hS'
       clear hS'
       replace hS : Sep w0 w_79 [_, _, _, _, _] Z := hS
       replace h : Fr 150 a [(1, _), (4, _), (5, _), (8, iV 0)] := h.keep [1, 4, 5, 8]
       refine c_block <| c_loop (fun k_99 a w_99 => ∃ (x_93 : Int) (x_94 : List Int) (v_97 : Value) (N_92 : Mem) (M_95 : Mem), hocketlaw11_Msg.L2 K x1 (fun v => hocketlaw11_Msg.J3 K x0 x1 x_74 v) k_99 (x_93, x_94) = some r ∧ Fr 150 a [(1, iV x1), (4, .pointer (some ⟨g_2, 0, none⟩)), (5, .pointer (some ⟨g_4, 0, none⟩)), (8, iV x_93)] ∧ Sep w0 w_99 [N_92, Mem.one g_2 (.cells ([iV 0, iV 0, iV 0, iV 0, iV 0, iV 0, .bool false, iV 0, iV 0, iV 0, iV 0, nS, iV 0, iV 0, nS, nS, iV 0, iV 0, iV 0, iV 0, iV 0, nS, nS, nS] : List Value).toArray 29 (0, 0)), Mem.one g_4 (.cells ([iV (w64 ((band .i64 x0 7) + 1)), iV (Int.tmod (band .i64 (shr .i64 x0 3) 7) 7), iV (Int.tmod (band .i64 (shr .i64 x0 6) 7) 7), iV (band .i64 (shr .i64 x0 9) 1023), iV 0, iV 0, .bool false, iV 0, iV 0, iV 0, iV 0, nS, iV (band .i64 x1 1023), iV (band .i64 (shr .i64 x1 10) 255), v_77, v_97, iV 0, iV 0, iV 0, iV 0, iV 0, nS, nS, nS] : List Value).toArray 29 (0, 0)), M_75, M_95] Z ∧ N_73.le N_92 ∧ Own (Kd.int .i64) 3 M_95 Mem.no v_97 x_94) K ⟨0, ([] : List Int), nS, N_73, Mem.no, H, h, (Sep.sel hS [0, 1, 2, 3, 4] (by decide)), (Mem.le.refl _), (Own.nil (Kd.int .i64) 3 Mem.no)⟩ (fun a w h => by obtain ⟨_, _, _, _, _, H, _⟩ := h; cases (show (none : Option (api_Msg)) = some r from H)) ?_
       clear h hS a H
       rintro k_99 a w_99 KL_99 hKL_99 ⟨x_93, x_94, v_97, N_92, M_95, H, h, hS, le_92, ho_98⟩
       replace H : hocketlaw11_Msg.B2 K x1 (fun v => hocketlaw11_Msg.J3 K x0 x1 x_74 v) (hocketlaw11_Msg.L2 K x1 (fun v => hocketlaw11_Msg.J3 K x0 x1 x_74 v) k_99) x_93 x_94 = some r := H
       unfold hocketlaw11_Msg.B2 at H
       refine c_seq fun KJ_102 hKJ_102 => wp_seq <| wp_region_lit <| s_move h rfl rfl fun a h=>s_move h rfl rfl fun a h=>s_shift (r := shr .i64 x1 21) h rfl rfl rfl (by decide) (.inr ⟨rfl, rfl⟩) fun a h=>s_bits (i := shr .i64 x1 21) (j := 7) (r := band .i64 (shr .i64 x1 21) 7) h rfl rfl rfl (.inl ⟨rfl, rfl⟩) fun a h=>s_cmp (b := decide (x_93 < (band .i64 (shr .i64 x1 21) 7))) h rfl rfl rfl (.inr (.inr (.inl ⟨rfl, rfl⟩))) fun a h=>wpList_nil ?_
       replace h : Fr 150 a [(1, _), (4, _), (5, _), (8, _), (116, .bool (decide (x_93 < (band .i64 (shr .i64 x1 21) 7))))] := h.keep [1, 4, 5, 8, 116]
       refine x_then_n ?_
       by_cases hc_103 : x_93 < (band .i64 (shr .i64 x1 21) 7)
       ·rw [if_pos hc_103] at H
        refine c_cond_t h rfl (decide_eq_true hc_103) <| wp_skip <| x_then_n (hKJ_102 _ _ ?_)
        refine wp_seq <| c_block <| wp_region_lit <| s_fieldAddr h rfl U29 rfl ti22 rfl rfl fun a h=>s_load h rfl rfl (hS.load_one (p := 2) rfl U22 rfl rfl) fun a h=>s_move h rfl rfl fun a h=>s_move h rfl rfl fun a h=>s_arith (r := w64 (x_93 + 3)) h rfl rfl rfl (.inl ⟨rfl, rfl⟩) fun a h=>s_conv (wu64 (w64 (x_93 + 3))) h rfl U3 U45 rfl rfl fun a h=>s_shift (r := shr .i64 x1 (wu64 (w64 (x_93 + 3)))) h rfl rfl rfl (wu64_nn _) (.inr ⟨rfl, rfl⟩) fun a h=>s_bits (i := shr .i64 x1 (wu64 (w64 (x_93 + 3)))) (j := 63) (r := band .i64 (shr .i64 x1 (wu64 (w64 (x_93 + 3)))) 63) h rfl rfl rfl (.inl ⟨rfl, rfl⟩) fun a h=>?_
        have hq_108 : Reps (Kd.int .i64) Mem.no ([band .i64 (shr .i64 x1 (wu64 (w64 (x_93 + 3)))) 63] : List Int) _ := ((Reps.one (d := (Kd.int .i64)) (x := band .i64 (shr .i64 x1 (wu64 (w64 (x_93 + 3)))) 63) (show (Kd.int .i64).K _ _ [iV (band .i64 (shr .i64 x1 (wu64 (w64 (x_93 + 3)))) 63)] from rfl)).append (Reps.nil (Kd.int .i64) _))
        refine s_buildSlice h rfl U22 ti3 rfl rfl rfl (.cons rfl .nil) rfl rfl rfl hS hq_108 rfl fun w_104 v_105 M_106 hS' ho_107 a h => ?_
        replace hS : Sep w0 w_104 [_, _, _, _, _, M_106] Z := hS'
        clear hS' hq_108
        obtain ⟨t_110, et_110, H⟩ := Option.bind_eq_some_iff.1 H
        refine s_append (J := Mem.no) (I' := Mem.no) (p := 4) 17592186044416 h rfl rfl rfl U22 ti3 rfl rfl rfl rfl hS rfl ho_98 (Src.flat (flat_int .i64) (ho_107.src (hS.own 5))) (Mem.le.refl _) (Mem.le.refl _) et_110 fun w_111 v_112 M_113 hS' ho_114 a h => ?_
        replace hS : Sep w0 w_111 [_, _, _, _, M_113, _] Z := hS'
        clear hS'
        refine s_fieldAddr h rfl U29 rfl ti22 rfl rfl fun a h=>?_
        obtain ⟨w_116, hs', hS'⟩ := hS.store (P := Try.prog) (p := 2) (o := 15) (t := 22) (v := v_112) (vs := [v_112]) rfl ti22 ho_114.cellsA rfl rfl (by intro u hu; simp only [List.mem_cons, List.not_mem_nil, or_false] at hu; rcases hu with rfl <;> first | rfl | exact ho_114.one)
        refine s_store h rfl rfl hs' ?_
        replace hS : Sep w0 w_116 [_, _, Mem.one g_4 (.cells ([_, _, _, _, _, _, _, _, _, _, _, _, _, _, _, v_112, _, _, _, _, _, _, _, _] : List Value).toArray 29 (0, 0)), _, _, _] Z := hS'
        clear hs' hS'
        refine wpList_nil <| x_block_n <| x_then_n <| wp_region_lit <| s_move h rfl rfl fun a h=>s_arith (r := w64 (x_93 + 1)) h rfl rfl rfl (.inl ⟨rfl, rfl⟩) fun a h=>s_assign h rfl rfl fun a h=>wpList_nil <| x_then_n (hKL_99 _ _ ?_)
        replace hS : Sep w0 w_116 [_, _, _, _, _, _] Z := hS
        replace h : Fr 150 a [(1, _), (4, _), (5, _), (8, iV (w64 (x_93 + 1)))] := h.keep [1, 4, 5, 8]
        exact ⟨w64 (x_93 + 1), t_110, v_112, N_92, M_113, H, h, (Sep.sel hS [0, 1, 2, 3, 4] (by decide)), le_92, ho_114⟩
       ·rw [if_neg hc_103] at H
        refine c_cond_f h rfl (decide_eq_false hc_103) <| wp_exit (x_then_x (x_then_x (x_block_t ?_)))
        replace hS : Sep w0 w_99 [_, _, _, _, _] Z := hS
        replace h : Fr 150 a [(4, _), (5, _)] := h.keep [4, 5]
        exact x_then_n (hJ_j_89 x_94 H _ _ ⟨v_97, N_92, M_95, h, (Sep.sel hS [0, 1, 2, 3, 4] (by decide)), le_92, ho_98⟩)
      clear hKJ_72
      have hS' := hS.room
      replace hS : Sep w0 w_71 [_, _, _, Mem.no] Z := hS'
      clear hS'
      replace hS : Sep w0 w_71 [_, _, _, _] Z := hS
      replace h : Fr 150 a [(1, _), (4, _), (5, _), (7, iV 0)] := h.keep [1, 4, 5, 7]
      refine c_block <| c_loop (fun k_124 a w_124 => ∃ (x_118 : Int) (x_119 : List Int) (v_122 : Value) (N_117 : Mem) (M_120 : Mem), hocketlaw11_Msg.L3 K x1 (fun v => hocketlaw11_Msg.J2 K x1 x0 v) k_124 (x_118, x_119) = some r ∧ Fr 150 a [(1, iV x1), (4, .pointer (some ⟨g_2, 0, none⟩)), (5, .pointer (some ⟨g_4, 0, none⟩)), (7, iV x_118)] ∧ Sep w0 w_124 [N_117, Mem.one g_2 (.cells ([iV 0, iV 0, iV 0, iV 0, iV 0, iV 0, .bool false, iV 0, iV 0, iV 0, iV 0, nS, iV 0, iV 0, nS, nS, iV 0, iV 0, iV 0, iV 0, iV 0, nS, nS, nS] : List Value).toArray 29 (0, 0)), Mem.one g_4 (.cells ([iV (w64 ((band .i64 x0 7) + 1)), iV (Int.tmod (band .i64 (shr .i64 x0 3) 7) 7), iV (Int.tmod (band .i64 (shr .i64 x0 6) 7) 7), iV (band .i64 (shr .i64 x0 9) 1023), iV 0, iV 0, .bool false, iV 0, iV 0, iV 0, iV 0, nS, iV (band .i64 x1 1023), iV (band .i64 (shr .i64 x1 10) 255), v_122, nS, iV 0, iV 0, iV 0, iV 0, iV 0, nS, nS, nS] : List Value).toArray 29 (0, 0)), M_120] Z ∧ Mem.no.le N_117 ∧ Own (Kd.int .i64) 3 M_120 Mem.no v_122 x_119) K ⟨0, ([] : List Int), nS, Mem.no, Mem.no, H, h, (Sep.sel hS [0, 1, 2, 3] (by decide)), (Mem.le.refl _), (Own.nil (Kd.int .i64) 3 Mem.no)⟩ (fun a w h => by obtain ⟨_, _, _, _, _, H, _⟩ := h; cases (show (none : Option (api_Msg)) = some r from H)) ?_
      clear h hS a H
      rintro k_124 a w_124 KL_124 hKL_124 ⟨x_118, x_119, v_122, N_117, M_120, H, h, hS, le_117, ho_123⟩
      replace H : hocketlaw11_Msg.B3 K x1 (fun v => hocketlaw11_Msg.J2 K x1 x0 v) (hocketlaw11_Msg.L3 K x1 (fun v => hocketlaw11_Msg.J2 K x1 x0 v) k_124) x_118 x_119 = some r := H
      unfold hocketlaw11_Msg.B3 at H
      refine c_seq fun KJ_127 hKJ_127 => wp_seq <| wp_region_lit <| s_move h rfl rfl fun a h=>s_move h rfl rfl fun a h=>s_shift (r := shr .i64 x1 18) h rfl rfl rfl (by decide) (.inr ⟨rfl, rfl⟩) fun a h=>s_bits (i := shr .i64 x1 18) (j := 7) (r := band .i64 (shr .i64 x1 18) 7) h rfl rfl rfl (.inl ⟨rfl, rfl⟩) fun a h=>s_cmp (b := decide (x_118 < (band .i64 (shr .i64 x1 18) 7))) h rfl rfl rfl (.inr (.inr (.inl ⟨rfl, rfl⟩))) fun a h=>wpList_nil <| x_then_n ?_
      by_cases hc_128 : x_118 < (band .i64 (shr .i64 x1 18) 7)
      ·rw [if_pos hc_128] at H
       refine c_cond_t h rfl (decide_eq_true hc_128) <| wp_skip <| x_then_n (hKJ_127 _ _ ?_)
       refine wp_seq <| c_block <| wp_region_lit <| s_fieldAddr h rfl U29 rfl ti22 rfl rfl fun a h=>s_load h rfl rfl (hS.load_one (p := 2) rfl U22 rfl rfl) fun a h=>s_move h rfl rfl fun a h=>s_move h rfl rfl fun a h=>s_conv (wu64 x_118) h rfl U3 U45 rfl rfl fun a h=>s_shift (r := shr .i64 x1 (wu64 x_118)) h rfl rfl rfl (wu64_nn _) (.inr ⟨rfl, rfl⟩) fun a h=>s_bits (i := shr .i64 x1 (wu64 x_118)) (j := 63) (r := band .i64 (shr .i64 x1 (wu64 x_118)) 63) h rfl rfl rfl (.inl ⟨rfl, rfl⟩) fun a h=>?_
       have hq_133 : Reps (Kd.int .i64) Mem.no ([band .i64 (shr .i64 x1 (wu64 x_118)) 63] : List Int) _ := ((Reps.one (d := (Kd.int .i64)) (x := band .i64 (shr .i64 x1 (wu64 x_118)) 63) (show (Kd.int .i64).K _ _ [iV (band .i64 (shr .i64 x1 (wu64 x_118)) 63)] from rfl)).append (Reps.nil (Kd.int .i64) _))
       refine s_buildSlice h rfl U22 ti3 rfl rfl rfl (.cons rfl .nil) rfl rfl rfl hS hq_133 rfl fun w_129 v_130 M_131 hS' ho_132 a h => ?_
       replace hS : Sep w0 w_129 [_, _, _, _, M_131] Z := hS'
       clear hS' hq_133
       obtain ⟨t_135, et_135, H⟩ := Option.bind_eq_some_iff.1 H
       refine s_append (J := Mem.no) (I' := Mem.no) (p := 3) 17592186044416 h rfl rfl rfl U22 ti3 rfl rfl rfl rfl hS rfl ho_123 (Src.flat (flat_int .i64) (ho_132.src (hS.own 4))) (Mem.le.refl _) (Mem.le.refl _) et_135 fun w_136 v_137 M_138 hS' ho_139 a h => ?_
       replace hS : Sep w0 w_136 [_, _, _, M_138, _] Z := hS'
       clear hS'
       refine s_fieldAddr h rfl U29 rfl ti22 rfl rfl fun a h=>?_
       obtain ⟨w_141, hs', hS'⟩ := hS.store (P := Try.prog) (p := 2) (o := 14) (t := 22) (v := v_137) (vs := [v_137]) rfl ti22 ho_139.cellsA rfl rfl (by intro u hu; simp only [List.mem_cons, List.not_mem_nil, or_false] at hu; rcases hu with rfl <;> first | rfl | exact ho_139.one)
       refine s_store h rfl rfl hs' ?_
       replace hS : Sep w0 w_141 [_, _, Mem.one g_4 (.cells ([_, _, _, _, _, _, _, _, _, _, _, _, _, _, v_137, _, _, _, _, _, _, _, _, _] : List Value).toArray 29 (0, 0)), _, _] Z := hS'
       clear hs' hS'
       refine wpList_nil ?_
       replace h : Fr 150 a [(1, _), (4, _), (5, _), (7, _)] := h.keep [1, 4, 5, 7]
       refine x_block_n <| x_then_n <| wp_region_lit <| s_move h rfl rfl fun a h=>s_arith (r := w64 (x_118 + 1)) h rfl rfl rfl (.inl ⟨rfl, rfl⟩) fun a h=>s_assign h rfl rfl fun a h=>wpList_nil <| x_then_n (hKL_124 _ _ ?_)
       replace hS : Sep w0 w_141 [_, _, _, _, _] Z := hS
       replace h : Fr 150 a [(1, _), (4, _), (5, _), (7, iV (w64 (x_118 + 1)))] := h.keep [1, 4, 5, 7]
       exact ⟨w64 (x_118 + 1), t_135, v_137, N_117, M_138, H, h, (Sep.sel hS [0, 1, 2, 3] (by decide)), le_117, ho_139⟩
      ·rw [if_neg hc_128] at H
       refine c_cond_f h rfl (decide_eq_false hc_128) <| wp_exit (x_then_x (x_then_x (x_block_t ?_)))
       replace hS : Sep w0 w_124 [_, _, _, _] Z := hS
       replace h : Fr 150 a [(1, _), (4, _), (5, _)] := h.keep [1, 4, 5]
       exact x_then_n (hJ_j_80 x_119 H _ _ ⟨v_122, N_117, M_120, h, (Sep.sel hS [0, 1, 2, 3] (by decide)), le_117, ho_123⟩)
     ·rw [if_neg hc_69] at H
      refine c_cond_f h rfl (beq_eq_false_iff_ne.2 hc_69) <| wp_seq <| wp_region_lit <| s_cmp (b := ((w64 ((band .i64 x0 7) + 1)) == 8)) h rfl rfl rfl (.inl ⟨rfl, rfl⟩) fun a h=>s_assign h rfl rfl fun a h=>wpList_nil <| x_then_n ?_
      by_cases hc_142 : (w64 ((band .i64 x0 7) + 1)) = 8
      ·rw [if_pos hc_142] at H
       refine c_cond_t h rfl (beq_iff_eq.2 hc_142) <| wp_seq <| wp_region_lit <| s_move h rfl rfl fun a h=>s_bits (i := x1) (j := 1023) (r := band .i64 x1 1023) h rfl rfl rfl (.inl ⟨rfl, rfl⟩) fun a h=>s_move h rfl rfl fun a h=>s_move h rfl rfl fun a h=>s_shift (r := shr .i64 x1 10) h rfl rfl rfl (by decide) (.inr ⟨rfl, rfl⟩) fun a h=>s_bits (i := shr .i64 x1 10) (j := 63) (r := band .i64 (shr .i64 x1 10) 63) h rfl rfl rfl (.inl ⟨rfl, rfl⟩) fun a h=>?_
       obtain ⟨t_143, et_143, H⟩ := Option.bind_eq_some_iff.1 H
       refine s_call h rfl Try.call28 rfl (hocketlaw10_Entry.calls x0 (band .i64 (shr .i64 x1 10) 63) t_143 w0 _ _ _ (Mem.le.refl _) (hS.enter [] (by decide))  et_143) ?_
       rintro _ w_144 ⟨v_147, v_149, v_151, N_145, rfl, hS', hr_148, hr_150, hr_152⟩
       intro a h
       obtain ⟨N_146, hS'', le_146, ln_146⟩ := hS.call [] (by decide) rfl (l' := []) (ow := []) rfl hS'
       replace hS : Sep w0 w_144 [N_146, _, _] Z := hS''
       clear hS' hS''
       refine s_fieldAddr h rfl U29 rfl ti3 rfl rfl fun a h=>?_
       obtain ⟨w_153, hs', hS'⟩ := hS.store (P := Try.prog) (p := 2) (o := 16) (t := 3) (v := iV (band .i64 x1 1023)) (vs := [iV (band .i64 x1 1023)]) rfl ti3 rfl rfl rfl (by intro u hu; simp only [List.mem_cons, List.not_mem_nil, or_false] at hu; rcases hu with rfl <;> rfl)
       refine s_store h rfl rfl hs' ?_
       replace hS : Sep w0 w_153 [_, _, Mem.one g_4 (.cells ([_, _, _, _, _, _, _, _, _, _, _, _, _, _, _, _, iV (band .i64 x1 1023), _, _, _, _, _, _, _] : List Value).toArray 29 (0, 0))] Z := hS'
       clear hs' hS'
       refine s_fieldAddr h rfl U29 rfl ti27 rfl rfl fun a h=>?_
       obtain ⟨w_154, hs', hS'⟩ := hS.store (P := Try.prog) (p := 2) (o := 17) (t := 27) (v := .agg ([iV t_143.Sess, iV t_143.Seq, iV t_143.Cmd.Kind, iV t_143.Cmd.Who, v_147, v_149, v_151] : List Value).toArray) (vs := [iV t_143.Sess, iV t_143.Seq, iV t_143.Cmd.Kind, iV t_143.Cmd.Who, v_147, v_149, v_151]) rfl ti27 rfl rfl rfl (by intro u hu; simp only [List.mem_cons, List.not_mem_nil, or_false] at hu; rcases hu with rfl | rfl | rfl | rfl | rfl | rfl | rfl <;> first | rfl | exact (hr_148.mono ln_146).one | exact (hr_150.mono ln_146).one | exact (hr_152.mono ln_146).one)
       refine s_store h rfl rfl hs' ?_
       replace hS : Sep w0 w_154 [_, _, Mem.one g_4 (.cells ([_, _, _, _, _, _, _, _, _, _, _, _, _, _, _, _, _, iV t_143.Sess, iV t_143.Seq, iV t_143.Cmd.Kind, iV t_143.Cmd.Who, v_147, v_149, v_151] : List Value).toArray 29 (0, 0))] Z := hS'
       clear hs' hS'
       refine wpList_nil <| x_then_n <| wp_region_lit <| s_fieldAddr h rfl U29 rfl ti27 rfl rfl fun a h=>s_fieldAddr h rfl U27 rfl ti25 rfl rfl fun a h=>s_fieldAddr h rfl U25 rfl ti3 rfl rfl fun a h=>s_load h rfl rfl (hS.load_one (p := 2) rfl U3 rfl rfl) fun a h=>s_max h rfl rfl rfl fun a h=>s_fieldAddr h rfl U29 rfl ti27 rfl rfl fun a h=>s_fieldAddr h rfl U27 rfl ti25 rfl rfl fun a h=>s_fieldAddr h rfl U25 rfl ti3 rfl rfl fun a h=>?_
       obtain ⟨w_155, hs', hS'⟩ := hS.store (P := Try.prog) (p := 2) (o := 20) (t := 3) (v := iV (mx t_143.Cmd.Who 0)) (vs := [iV (mx t_143.Cmd.Who 0)]) rfl ti3 rfl rfl rfl (by intro u hu; simp only [List.mem_cons, List.not_mem_nil, or_false] at hu; rcases hu with rfl <;> rfl)
       refine s_store h rfl rfl hs' ?_
       replace hS : Sep w0 w_155 [_, _, Mem.one g_4 (.cells ([_, _, _, _, _, _, _, _, _, _, _, _, _, _, _, _, _, _, _, _, iV (mx t_143.Cmd.Who 0), _, _, _] : List Value).toArray 29 (0, 0))] Z := hS'
       clear hs' hS'
       refine wpList_nil <| x_block_n <| x_then_n (hKJ_6 _ _ ?_)
       refine wp_seq <| wp_region_lit <| s_load h rfl rfl (hS.load_agg (p := 2) (us := [iV (w64 ((band .i64 x0 7) + 1)), iV (Int.tmod (band .i64 (shr .i64 x0 3) 7) 7), iV (Int.tmod (band .i64 (shr .i64 x0 6) 7) 7), iV (band .i64 (shr .i64 x0 9) 1023), iV 0, iV 0, .bool false, iV 0, iV 0, iV 0, iV 0, nS, iV 0, iV 0, nS, nS, iV (band .i64 x1 1023), iV t_143.Sess, iV t_143.Seq, iV t_143.Cmd.Kind, iV (mx t_143.Cmd.Who 0), v_147, v_149, v_151]) rfl U29 rfl ti29 rfl rfl) fun a h=>?_
       obtain ⟨w_156, hs', hS'⟩ := hS.store (P := Try.prog) (p := 1) (o := 0) (t := 29) (v := .agg ([iV (w64 ((band .i64 x0 7) + 1)), iV (Int.tmod (band .i64 (shr .i64 x0 3) 7) 7), iV (Int.tmod (band .i64 (shr .i64 x0 6) 7) 7), iV (band .i64 (shr .i64 x0 9) 1023), iV 0, iV 0, .bool false, iV 0, iV 0, iV 0, iV 0, nS, iV 0, iV 0, nS, nS, iV (band .i64 x1 1023), iV t_143.Sess, iV t_143.Seq, iV t_143.Cmd.Kind, iV (mx t_143.Cmd.Who 0), v_147, v_149, v_151] : List Value).toArray) (vs := [iV (w64 ((band .i64 x0 7) + 1)), iV (Int.tmod (band .i64 (shr .i64 x0 3) 7) 7), iV (Int.tmod (band .i64 (shr .i64 x0 6) 7) 7), iV (band .i64 (shr .i64 x0 9) 1023), iV 0, iV 0, .bool false, iV 0, iV 0, iV 0, iV 0, nS, iV 0, iV 0, nS, nS, iV (band .i64 x1 1023), iV t_143.Sess, iV t_143.Seq, iV t_143.Cmd.Kind, iV (mx t_143.Cmd.Who 0), v_147, v_149, v_151]) rfl ti29 rfl rfl rfl (by intro u hu; simp only [List.mem_cons, List.not_mem_nil, or_false] at hu; rcases hu with rfl | rfl | rfl | rfl | rfl | rfl | rfl | rfl | rfl | rfl | rfl | rfl | rfl | rfl | rfl | rfl | rfl | rfl | rfl | rfl | rfl | rfl | rfl | rfl <;> first | rfl | exact (hr_148.mono ln_146).one | exact (hr_150.mono ln_146).one | exact (hr_152.mono ln_146).one)
       refine s_store h rfl rfl hs' ?_
       replace hS : Sep w0 w_156 [_, Mem.one g_2 (.cells ([iV (w64 ((band .i64 x0 7) + 1)), iV (Int.tmod (band .i64 (shr .i64 x0 3) 7) 7), iV (Int.tmod (band .i64 (shr .i64 x0 6) 7) 7), iV (band .i64 (shr .i64 x0 9) 1023), _, _, _, _, _, _, _, _, _, _, _, _, iV (band .i64 x1 1023), iV t_143.Sess, iV t_143.Seq, iV t_143.Cmd.Kind, iV (mx t_143.Cmd.Who 0), v_147, v_149, v_151] : List Value).toArray 29 (0, 0)), _] Z := hS'
       clear hs' hS'
       refine wpList_nil ?_
       replace h : Fr 150 a [(4, _)] := h.keep [4]
       refine x_then_n <| wp_ret ?_
       have hS' := hS.room
       replace hS : Sep w0 w_156 [_, _, _, Mem.no] Z := hS'
       clear hS'
       replace hS : Sep w0 w_156 [_, _, _, _] Z := hS
       have hS' := hS.room
       replace hS : Sep w0 w_156 [_, _, _, _, Mem.no] Z := hS'
       clear hS'
       replace hS : Sep w0 w_156 [_, _, _, _, _] Z := hS
       have hS' := hS.room
       replace hS : Sep w0 w_156 [_, _, _, _, _, Mem.no] Z := hS'
       clear hS'
       replace hS : Sep w0 w_156 [_, _, _, _, _, _] Z := hS
       obtain rfl := Option.some.inj H
       exact f_ret h (rs := [.cell 4 29]) rfl (.cell rfl (hS.load_agg (p := 1) (us := [iV (w64 ((band .i64 x0 7) + 1)), iV (Int.tmod (band .i64 (shr .i64 x0 3) 7) 7), iV (Int.tmod (band .i64 (shr .i64 x0 6) 7) 7), iV (band .i64 (shr .i64 x0 9) 1023), iV 0, iV 0, .bool false, iV 0, iV 0, iV 0, iV 0, nS, iV 0, iV 0, nS, nS, iV (band .i64 x1 1023), iV t_143.Sess, iV t_143.Seq, iV t_143.Cmd.Kind, iV (mx t_143.Cmd.Who 0), v_147, v_149, v_151]) rfl U29 rfl ti29 rfl rfl) .nil) ⟨_, rfl, nS, nS, nS, v_147, v_149, v_151, N_146, Mem.no, Mem.no, Mem.no, rfl, (Sep.sel hS [0, 3, 4, 5] (by decide)), (Own.nil Kd.u8 5 Mem.no), (Own.nil (Kd.int .i64) 3 Mem.no), (Own.nil (Kd.int .i64) 3 Mem.no), (hr_148.mono ln_146), (hr_150.mono ln_146), (hr_152.mono ln_146)⟩
      ·rw [if_neg hc_142] at H
       refine c_cond_f h rfl (beq_eq_false_iff_ne.2 hc_142) <| wp_skip <| x_block_n <| x_then_n (hKJ_6 _ _ ?_)
       refine wp_seq <| wp_region_lit <| s_load h rfl rfl (hS.load_agg (p := 2) (us := [iV (w64 ((band .i64 x0 7) + 1)), iV (Int.tmod (band .i64 (shr .i64 x0 3) 7) 7), iV (Int.tmod (band .i64 (shr .i64 x0 6) 7) 7), iV (band .i64 (shr .i64 x0 9) 1023), iV 0, iV 0, .bool false, iV 0, iV 0, iV 0, iV 0, nS, iV 0, iV 0, nS, nS, iV 0, iV 0, iV 0, iV 0, iV 0, nS, nS, nS]) rfl U29 rfl ti29 rfl rfl) fun a h=>?_
       obtain ⟨w_160, hs', hS'⟩ := hS.store (P := Try.prog) (p := 1) (o := 0) (t := 29) (v := .agg ([iV (w64 ((band .i64 x0 7) + 1)), iV (Int.tmod (band .i64 (shr .i64 x0 3) 7) 7), iV (Int.tmod (band .i64 (shr .i64 x0 6) 7) 7), iV (band .i64 (shr .i64 x0 9) 1023), iV 0, iV 0, .bool false, iV 0, iV 0, iV 0, iV 0, nS, iV 0, iV 0, nS, nS, iV 0, iV 0, iV 0, iV 0, iV 0, nS, nS, nS] : List Value).toArray) (vs := [iV (w64 ((band .i64 x0 7) + 1)), iV (Int.tmod (band .i64 (shr .i64 x0 3) 7) 7), iV (Int.tmod (band .i64 (shr .i64 x0 6) 7) 7), iV (band .i64 (shr .i64 x0 9) 1023), iV 0, iV 0, .bool false, iV 0, iV 0, iV 0, iV 0, nS, iV 0, iV 0, nS, nS, iV 0, iV 0, iV 0, iV 0, iV 0, nS, nS, nS]) rfl ti29 rfl rfl rfl (by intro u hu; simp only [List.mem_cons, List.not_mem_nil, or_false] at hu; rcases hu with rfl | rfl | rfl | rfl | rfl | rfl | rfl | rfl | rfl | rfl | rfl | rfl | rfl | rfl | rfl | rfl | rfl | rfl | rfl | rfl | rfl | rfl | rfl | rfl <;> rfl)
       refine s_store h rfl rfl hs' ?_
       replace hS : Sep w0 w_160 [_, Mem.one g_2 (.cells ([iV (w64 ((band .i64 x0 7) + 1)), iV (Int.tmod (band .i64 (shr .i64 x0 3) 7) 7), iV (Int.tmod (band .i64 (shr .i64 x0 6) 7) 7), iV (band .i64 (shr .i64 x0 9) 1023), _, _, _, _, _, _, _, _, _, _, _, _, _, _, _, _, _, _, _, _] : List Value).toArray 29 (0, 0)), _] Z := hS'
       clear hs' hS'
       refine wpList_nil <| x_then_n <| wp_ret ?_
       have hS' := hS.room
       replace hS : Sep w0 w_160 [_, _, _, Mem.no] Z := hS'
       clear hS'
       replace hS : Sep w0 w_160 [_, _, _, _] Z := hS
       have hS' := hS.room
       replace hS : Sep w0 w_160 [_, _, _, _, Mem.no] Z := hS'
       clear hS'
       replace hS : Sep w0 w_160 [_, _, _, _, _] Z := hS
       have hS' := hS.room
       replace hS : Sep w0 w_160 [_, _, _, _, _, Mem.no] Z := hS'
       clear hS'
       replace hS : Sep w0 w_160 [_, _, _, _, _, _] Z := hS
       obtain rfl := Option.some.inj H
       exact f_ret h (rs := [.cell 4 29]) rfl (.cell rfl (hS.load_agg (p := 1) (us := [iV (w64 ((band .i64 x0 7) + 1)), iV (Int.tmod (band .i64 (shr .i64 x0 3) 7) 7), iV (Int.tmod (band .i64 (shr .i64 x0 6) 7) 7), iV (band .i64 (shr .i64 x0 9) 1023), iV 0, iV 0, .bool false, iV 0, iV 0, iV 0, iV 0, nS, iV 0, iV 0, nS, nS, iV 0, iV 0, iV 0, iV 0, iV 0, nS, nS, nS]) rfl U29 rfl ti29 rfl rfl) .nil) ⟨_, rfl, nS, nS, nS, nS, nS, nS, Mem.no, Mem.no, Mem.no, Mem.no, rfl, (Sep.sel hS [0, 3, 4, 5] (by decide)), (Own.nil Kd.u8 5 Mem.no), (Own.nil (Kd.int .i64) 3 Mem.no), (Own.nil (Kd.int .i64) 3 Mem.no), (Rd.nil _ _), (Rd.nil _ _), (Rd.nil _ _)⟩

set_option maxHeartbeats 4000000 in
set_option maxRecDepth 20000 in
theorem mesg_write_1.calls (K : Nat) (x0 : List Int) (p0_0 : Value) (g1 : Nat) (x1_ : List UInt8) (p1_1 : Value) (M1_1 : Mem) (r : (List UInt8)) (w0 w : World) (Z A : Mem) (hA : A.le Z) (hS : Sep w0 w [Mem.one g1 (.cells ([p1_1] : List Value).toArray 23 (0, 0)), M1_1] Z) (hp0_0 : Rd (Kd.int .i64) A p0_0 x0) (hp1_1 : Own Kd.u8 5 M1_1 Mem.no p1_1 x1_)
    (H : mesg_write_1.f K x0 x1_ = some r) :
    Calls Try.prog 44 [p0_0, .pointer (some ⟨g1, 0, none⟩)].toArray w (Ret fun v w' => ∃ (u0 : Value) (N : Mem) (M100 : Mem), v = .tuple [].toArray ∧ Sep w0 w' [N, Mem.one g1 (.cells ([u0] : List Value).toArray 23 (0, 0)), M100] Z ∧ Own Kd.u8 5 M100 Mem.no u0 r) := by
 unfold mesg_write_1.f at H
 refine f_enter _ Try.func44 rfl Try.ntmps44 rfl fun a h=>?_
 replace h : Fr 15 a [(0, p0_0), (1, .pointer (some ⟨g1, 0, none⟩))] := h
 replace hS := hS.start
 replace hS : Sep w0 w [_, _, _] Z := hS
 refine wp_seq <| wp_region_lit <| s_move h rfl rfl fun a h=>s_len h rfl U22 rfl hp0_0 fun a h=>s_move h rfl rfl fun a h=>wpList_nil <| x_then_n <| c_last fun KJ_1 hKJ_1 => ?_
 have hJ_j_9 : ∀ (x_3 : List UInt8), mesg_write_1.J1 K x_3 = some r → ∀ (a : Act) (w_8 : World), (∃ (v_6 : Value) (N_2 : Mem) (M_4 : Mem), Fr 15 a [] ∧ Sep w0 w_8 [N_2, Mem.one g1 (.cells ([v_6] : List Value).toArray 23 (0, 0)), Mem.no, M_4] Z ∧ Mem.no.le N_2 ∧ Own Kd.u8 5 M_4 Mem.no v_6 x_3) → KJ_1 a w_8 := by
  clear H h hS a
  rintro x_3 H a w_8 ⟨v_6, N_2, M_4, h, hS, le_2, ho_7⟩
  unfold mesg_write_1.J1 at H
  refine hKJ_1 _ _ <| f_end ?_
  obtain rfl := Option.some.inj H
  exact f_ret h (rs := []) rfl .nil ⟨_, rfl, v_6, N_2, M_4, rfl, (Sep.sel hS [0, 1, 3] (by decide)), ho_7⟩
 clear hKJ_1
 replace hS : Sep w0 w [_, _, _] Z := hS
 replace h : Fr 15 a [(1, _), (5, p0_0), (6, iV (x0.length : Int)), (7, iV 0)] := h.keep [1, 5, 6, 7]
 refine c_block <| c_loop (fun k_17 a w_17 => ∃ (x_11 : Int) (x_12 : List UInt8) (v_15 : Value) (N_10 : Mem) (M_13 : Mem), mesg_write_1.L1 K x0 (fun v => mesg_write_1.J1 K v) k_17 (x_11, x_12) = some r ∧ Fr 15 a [(1, .pointer (some ⟨g1, 0, none⟩)), (5, p0_0), (6, iV (x0.length : Int)), (7, iV x_11)] ∧ Sep w0 w_17 [N_10, Mem.one g1 (.cells ([v_15] : List Value).toArray 23 (0, 0)), Mem.no, M_13] Z ∧ Mem.no.le N_10 ∧ Own Kd.u8 5 M_13 Mem.no v_15 x_12) K ⟨0, x1_, p1_1, Mem.no, M1_1, H, h, (Sep.sel hS [0, 1, 1001, 2] (by decide)), (Mem.le.refl _), hp1_1⟩ (fun a w h => by obtain ⟨_, _, _, _, _, H, _⟩ := h; cases (show (none : Option ((List UInt8))) = some r from H)) ?_
 clear h hS a H
 rintro k_17 a w_17 KL_17 hKL_17 ⟨x_11, x_12, v_15, N_10, M_13, H, h, hS, le_10, ho_16⟩
 replace H : mesg_write_1.B1 K x0 (fun v => mesg_write_1.J1 K v) (mesg_write_1.L1 K x0 (fun v => mesg_write_1.J1 K v) k_17) x_11 x_12 = some r := H
 unfold mesg_write_1.B1 at H
 refine wp_seq <| wp_region_lit <| s_cmp (b := decide (x_11 < (x0.length : Int))) h rfl rfl rfl (.inr (.inr (.inl ⟨rfl, rfl⟩))) fun a h=>wpList_nil <| x_then_n <| c_seq fun KJ_19 hKJ_19 => ?_
 by_cases hc_20 : x_11 < (x0.length : Int)
 ·rw [if_pos hc_20] at H
  refine c_cond_t h rfl (decide_eq_true hc_20) <| wp_skip <| x_then_n (hKJ_19 _ _ ?_)
  refine wp_seq <| c_block <| wp_seq <| wp_region_lit ?_
  obtain ⟨t_21, et_21, H⟩ := Option.bind_eq_some_iff.1 H
  refine v_index h rfl U22 ti3 rfl rfl rfl hp0_0 (hA.trans hS.old) et_21 fun ad_22 cs_23 hk_24 hc_25 => ?_
  obtain rfl := (show cs_23 = [iV t_21] from hk_24)
  intro a h
  refine s_load h rfl rfl (el_one (o := 0) hc_25 U3 rfl rfl) fun a h=>s_assign h rfl rfl fun a h=>wpList_nil <| x_then_n <| wp_region_lit <| s_load h rfl rfl (hS.load_one (p := 1) rfl U23 rfl rfl) fun a h=>s_move h rfl rfl fun a h=>?_
  obtain ⟨t_26, et_26, H⟩ := Option.bind_eq_some_iff.1 H
  refine s_call h rfl Try.call45 rfl (pack_Num.calls K x_12 _ t_21 t_26 w0 _ _ _ (Mem.le.refl _) (hS.enter [] (by decide)) (ho_16.rd (hS.own_zed [] 2 (by decide)) (Mem.no_le _)) et_26) ?_
  rintro v_30 w_27 ⟨_, N_28, M_32, rfl, hS', hr_31⟩
  intro a h
  obtain ⟨N_29, hS'', le_29, ln_29⟩ := hS.call [] (by decide) rfl (l' := []) (ow := [M_32]) rfl hS'
  replace hS : Sep w0 w_27 [N_29, _, _, _, M_32] Z := hS''
  clear hS' hS''
  obtain ⟨w_34, hs', hS'⟩ := hS.store (P := Try.prog) (p := 1) (o := 0) (t := 23) (v := v_30) (vs := [v_30]) rfl ti23 hr_31.cellsA rfl rfl (by intro u hu; simp only [List.mem_cons, List.not_mem_nil, or_false] at hu; rcases hu with rfl <;> first | rfl | exact hr_31.one)
  refine s_store h rfl rfl hs' ?_
  replace hS : Sep w0 w_34 [_, Mem.one g1 (.cells ([v_30] : List Value).toArray 23 (0, 0)), _, _, _] Z := hS'
  clear hs' hS'
  refine wpList_nil ?_
  replace h : Fr 15 a [(1, _), (5, _), (6, _), (7, _)] := h.keep [1, 5, 6, 7]
  refine x_block_n <| x_then_n <| wp_region_lit <| s_arith (r := w64 (x_11 + 1)) h rfl rfl rfl (.inl ⟨rfl, rfl⟩) fun a h=>s_move h rfl rfl fun a h=>wpList_nil <| x_then_n (hKL_17 _ _ ?_)
  replace hS : Sep w0 w_34 [_, _, _, _, _] Z := hS
  replace h : Fr 15 a [(1, _), (5, _), (6, _), (7, iV (w64 (x_11 + 1)))] := h.keep [1, 5, 6, 7]
  exact ⟨w64 (x_11 + 1), t_26, v_30, N_29, M_32, H, h, (Sep.sel hS [0, 1, 1001, 4] (by decide)), (le_10.trans le_29), hr_31⟩
 ·rw [if_neg hc_20] at H
  refine c_cond_f h rfl (decide_eq_false hc_20) <| wp_exit (x_then_x (x_then_x (x_block_t ?_)))
  replace hS : Sep w0 w_17 [_, _, _, _] Z := hS
  replace h : Fr 15 a [] := h.keep []
  exact x_then_n (hJ_j_9 x_12 H _ _ ⟨v_15, N_10, M_13, h, (Sep.sel hS [0, 1, 1001, 3] (by decide)), le_10, ho_16⟩)

set_option maxHeartbeats 4000000 in
set_option maxRecDepth 20000 in
theorem mesg_write.calls (K : Nat) (x0 : api_Msg) (p0_0 : Value) (p0_1 : Value) (p0_2 : Value) (p0_3 : Value) (p0_4 : Value) (p0_5 : Value) (r : (List UInt8)) (w0 w : World) (Z A : Mem) (hA : A.le Z) (hS : Sep w0 w [] Z) (hp0_0 : Rd Kd.u8 A p0_0 x0.Data) (hp0_1 : Rd (Kd.int .i64) A p0_1 x0.Have) (hp0_2 : Rd (Kd.int .i64) A p0_2 x0.Need) (hp0_3 : Rd Kd.u8 A p0_3 x0.Entry.Cmd.Key) (hp0_4 : Rd Kd.u8 A p0_4 x0.Entry.Cmd.Val) (hp0_5 : Rd Kd.u8 A p0_5 x0.Entry.Cmd.Old)
    (H : mesg_write.f K x0 = some r) :
    Calls Try.prog 25 [.agg ([iV x0.Kind, iV x0.From, iV x0.To, iV x0.View, iV x0.Inst, iV x0.Len, .bool x0.Has, iV x0.Members, iV x0.Source, iV x0.At, iV x0.Total, p0_0, iV x0.Hop, iV x0.Seq, p0_1, p0_2, iV x0.Index, iV x0.Entry.Sess, iV x0.Entry.Seq, iV x0.Entry.Cmd.Kind, iV x0.Entry.Cmd.Who, p0_3, p0_4, p0_5] : List Value).toArray].toArray w (Ret fun v w' => ∃ (u0 : Value) (N : Mem) (M0 : Mem), v = u0 ∧ Sep w0 w' [N, M0] Z ∧ Own Kd.u8 5 M0 Mem.no u0 r) := by
 unfold mesg_write.f at H
 refine f_enter _ Try.func25 rfl Try.ntmps25 rfl fun a h=>?_
 replace h : Fr 90 a [(0, .agg ([iV x0.Kind, iV x0.From, iV x0.To, iV x0.View, iV x0.Inst, iV x0.Len, .bool x0.Has, iV x0.Members, iV x0.Source, iV x0.At, iV x0.Total, p0_0, iV x0.Hop, iV x0.Seq, p0_1, p0_2, iV x0.Index, iV x0.Entry.Sess, iV x0.Entry.Seq, iV x0.Entry.Cmd.Kind, iV x0.Entry.Cmd.Who, p0_3, p0_4, p0_5] : List Value).toArray)] := h
 replace hS := hS.start
 replace hS : Sep w0 w [_] Z := hS
 refine wp_seq <| wp_region_lit <| v_box (vs := [iV x0.Kind, iV x0.From, iV x0.To, iV x0.View, iV x0.Inst, iV x0.Len, .bool x0.Has, iV x0.Members, iV x0.Source, iV x0.At, iV x0.Total, p0_0, iV x0.Hop, iV x0.Seq, p0_1, p0_2, iV x0.Index, iV x0.Entry.Sess, iV x0.Entry.Seq, iV x0.Entry.Cmd.Kind, iV x0.Entry.Cmd.Who, p0_3, p0_4, p0_5]) h rfl rfl rfl hS fun w_1 g_2 hS' a h => ?_
 replace hS : Sep w0 w_1 [_, Mem.one g_2 (.cells ([iV x0.Kind, iV x0.From, iV x0.To, iV x0.View, iV x0.Inst, iV x0.Len, .bool x0.Has, iV x0.Members, iV x0.Source, iV x0.At, iV x0.Total, p0_0, iV x0.Hop, iV x0.Seq, p0_1, p0_2, iV x0.Index, iV x0.Entry.Sess, iV x0.Entry.Seq, iV x0.Entry.Cmd.Kind, iV x0.Entry.Cmd.Who, p0_3, p0_4, p0_5] : List Value).toArray 29 (0, 0))] Z := hS'
 clear hS'
 refine s_assign h rfl rfl fun a h=>wpList_nil <| x_then_n <| wp_seq <| wp_region_lit <| v_alloc h rfl ti23 hS fun w_3 g_4 hS' a h => ?_
 replace hS : Sep w0 w_3 [_, _, Mem.one g_4 (.cells ([nS] : List Value).toArray 23 (0, 0))] Z := hS'
 clear hS'
 refine wpList_nil <| x_then_n <| wp_seq <| wp_region_lit <| s_func h rfl rfl fun a h=>s_assign h rfl rfl fun a h=>wpList_nil <| x_then_n <| wp_seq <| wp_region_lit <| s_move h rfl rfl fun a h=>s_fieldAddr h rfl U29 rfl ti3 rfl rfl fun a h=>?_
 refine s_load h rfl rfl (hS.load_one (p := 1) rfl U3 rfl rfl) fun a h=>s_fieldAddr h rfl U29 rfl ti3 rfl rfl fun a h=>s_load h rfl rfl (hS.load_one (p := 1) rfl U3 rfl rfl) fun a h=>s_fieldAddr h rfl U29 rfl ti3 rfl rfl fun a h=>s_load h rfl rfl (hS.load_one (p := 1) rfl U3 rfl rfl) fun a h=>s_fieldAddr h rfl U29 rfl ti3 rfl rfl fun a h=>s_load h rfl rfl (hS.load_one (p := 1) rfl U3 rfl rfl) fun a h=>?_
 have hq_9 : Reps (Kd.int .i64) Mem.no ([x0.Kind, x0.From, x0.To, x0.View] : List Int) _ := ((Reps.one (d := (Kd.int .i64)) (x := x0.Kind) (show (Kd.int .i64).K _ _ [iV x0.Kind] from rfl)).append ((Reps.one (d := (Kd.int .i64)) (x := x0.From) (show (Kd.int .i64).K _ _ [iV x0.From] from rfl)).append ((Reps.one (d := (Kd.int .i64)) (x := x0.To) (show (Kd.int .i64).K _ _ [iV x0.To] from rfl)).append ((Reps.one (d := (Kd.int .i64)) (x := x0.View) (show (Kd.int .i64).K _ _ [iV x0.View] from rfl)).append (Reps.nil (Kd.int .i64) _)))))
 refine s_buildSlice h rfl U22 ti3 rfl rfl rfl (.cons rfl (.cons rfl (.cons rfl (.cons rfl .nil)))) rfl rfl rfl hS hq_9 rfl fun w_5 v_6 M_7 hS' ho_8 a h => ?_
 replace hS : Sep w0 w_5 [_, _, _, M_7] Z := hS'
 clear hS' hq_9
 have hS' := hS.room
 replace hS : Sep w0 w_5 [_, _, _, _, Mem.no] Z := hS'
 clear hS'
 replace hS : Sep w0 w_5 [_, _, _, _, _] Z := hS
 obtain ⟨t_12, et_12, H⟩ := Option.bind_eq_some_iff.1 H
 refine s_callv h rfl rfl Try.call44 rfl (mesg_write_1.calls K ([x0.Kind, x0.From, x0.To, x0.View] : List Int) _ _ ([] : List UInt8) _ _ t_12 w0 _ _ _ (Mem.le.refl _) (hS.enter [1, 3] (by decide)) (ho_8.rd (hS.own_zed [1, 3] 2 (by decide)) (Mem.no_le _)) (Own.nil Kd.u8 5 Mem.no) et_12) ?_
 rintro _ w_13 ⟨v_16, N_14, M_18, rfl, hS', hr_17⟩
 intro a h
 obtain ⟨N_15, hS'', le_15, ln_15⟩ := hS.call [1, 3] (by decide) rfl (l' := [Mem.one g_4 (.cells ([v_16] : List Value).toArray 23 (0, 0)), M_18]) (ow := []) rfl hS'
 replace hS : Sep w0 w_13 [N_15, _, Mem.one g_4 (.cells ([v_16] : List Value).toArray 23 (0, 0)), _, M_18] Z := hS''
 clear hS' hS''
 refine wpList_nil ?_
 replace h : Fr 90 a [(1, .pointer (some ⟨g_2, 0, none⟩)), (2, nS), (3, .pointer (some ⟨g_4, 0, none⟩)), (4, .func (.func 44) #[] [.pointer (some ⟨g_4, 0, none⟩)].toArray)] := h.keep [1, 2, 3, 4]
 refine x_then_n <| c_seq fun KJ_20 hKJ_20 => wp_seq <| wp_region_lit <| s_fieldAddr h rfl U29 rfl ti3 rfl rfl fun a h=>s_load h rfl rfl (hS.load_one (p := 1) rfl U3 rfl rfl) fun a h=>wpList_nil <| x_then_n <| c_block <| wp_seq <| wp_region_lit <| s_cmp (b := (x0.Kind == 2)) h rfl rfl rfl (.inl ⟨rfl, rfl⟩) fun a h=>?_
 refine s_assign h rfl rfl fun a h=>wpList_nil <| x_then_n ?_
 by_cases hc_21 : x0.Kind = 2
 ·rw [if_pos hc_21] at H
  refine c_cond_t h rfl (beq_iff_eq.2 hc_21) <| h_begin (S := fun w => Sep w0 w [N_15, Mem.one g_2 (.cells ([iV x0.Kind, iV x0.From, iV x0.To, iV x0.View, iV x0.Inst, iV x0.Len, .bool x0.Has, iV x0.Members, iV x0.Source, iV x0.At, iV x0.Total, p0_0, iV x0.Hop, iV x0.Seq, p0_1, p0_2, iV x0.Index, iV x0.Entry.Sess, iV x0.Entry.Seq, iV x0.Entry.Cmd.Kind, iV x0.Entry.Cmd.Who, p0_3, p0_4, p0_5] : List Value).toArray 29 (0, 0)), Mem.no, M_7, Mem.no] Z) 10 (by kernel_rfl) rfl (bA 10 0) (by kernel_rfl) hS fun w_22 hS => ?_
  replace hS : Sep w0 w_22 [_, _, _, _, _] Z := hS
  refine t_take 0 (bA 10 1) rfl rfl rfl rfl h (hS.sub (.cons (Mem.le.refl _) (.rr (.zz (.rr (.zz .ii)))))) (v := .func (.func 44) #[] [.pointer (some ⟨g_4, 0, none⟩)].toArray) (fun w hS => r_move h rfl) fun a h=>t_take 1 (bA 10 3) rfl rfl rfl rfl h (hS.sub (.cons (Mem.le.refl _) (.rr (.zz (.rr (.zz .ii)))))) (v := .pointer (some ⟨g_2, 4, none⟩)) (fun w hS => r_fieldAddr h U29 rfl ti3 rfl rfl rfl) fun a h=>t_take 2 (bA 10 7) rfl rfl rfl rfl h (hS.sub (.cons (Mem.le.refl _) (.rr (.zz (.rr (.zz .ii)))))) (v := iV x0.Inst) (fun w hS => r_load h rfl (hS.load_one (p := 1) rfl U3 rfl rfl)) fun a h=>t_take 3 (bA 10 15) rfl rfl rfl rfl h (hS.sub (.cons (Mem.le.refl _) (.rr (.zz (.rr (.zz .ii)))))) (v := .pointer (some ⟨g_2, 5, none⟩)) (fun w hS => r_fieldAddr h U29 rfl ti3 rfl rfl rfl) fun a h=>t_take 4 (bA 10 31) rfl rfl rfl rfl h (hS.sub (.cons (Mem.le.refl _) (.rr (.zz (.rr (.zz .ii)))))) (v := iV x0.Len) (fun w hS => r_load h rfl (hS.load_one (p := 1) rfl U3 rfl rfl)) fun a h=>t_take 5 (bA 10 63) rfl rfl rfl rfl h (hS.sub (.cons (Mem.le.refl _) (.rr (.zz (.rr (.zz .ii)))))) (v := .pointer (some ⟨g_2, 6, none⟩)) (fun w hS => r_fieldAddr h U29 rfl ti4 rfl rfl rfl) fun a h=>?_
  refine t_take 6 (bA 10 127) rfl rfl rfl rfl h (hS.sub (.cons (Mem.le.refl _) (.rr (.zz (.rr (.zz .ii)))))) (v := .bool x0.Has) (fun w hS => r_load h rfl (hS.load_one (p := 1) rfl U4 rfl rfl)) fun a h=>h_event 7 (bA 10 255) rfl (by kernel_rfl) (by kernel_rfl) ?_
  obtain ⟨t_23, et_23, H⟩ := Option.bind_eq_some_iff.1 H
  refine s_call h rfl Try.call46 rfl (mesg_flag.calls x0.Has t_23 w0 _ _ _ (Mem.le.refl _) (hS.enter [] (by decide))  et_23) ?_
  rintro _ w_24 ⟨N_25, rfl, hS'⟩
  intro a h
  obtain ⟨N_26, hS'', le_26, ln_26⟩ := hS.call [] (by decide) rfl (l' := []) (ow := []) rfl hS'
  replace hS : Sep w0 w_24 [N_26, _, _, _, _] Z := hS''
  clear hS' hS''
  refine wpList_nil <| x_then_n ⟨(hS.sub (.cons le_26 (.rr (.zz (.rr (.zz .ii)))))), ?_⟩
  refine h_event 8 (bA 10 511) rfl (by kernel_rfl) (by kernel_rfl) ?_
  have hq_31 : Reps (Kd.int .i64) Mem.no ([x0.Inst, x0.Len, t_23] : List Int) _ := ((Reps.one (d := (Kd.int .i64)) (x := x0.Inst) (show (Kd.int .i64).K _ _ [iV x0.Inst] from rfl)).append ((Reps.one (d := (Kd.int .i64)) (x := x0.Len) (show (Kd.int .i64).K _ _ [iV x0.Len] from rfl)).append ((Reps.one (d := (Kd.int .i64)) (x := t_23) (show (Kd.int .i64).K _ _ [iV t_23] from rfl)).append (Reps.nil (Kd.int .i64) _))))
  refine s_buildSlice h rfl U22 ti3 rfl rfl rfl (.cons rfl (.cons rfl (.cons rfl .nil))) rfl rfl rfl hS hq_31 rfl fun w_27 v_28 M_29 hS' ho_30 a h => ?_
  replace hS : Sep w0 w_27 [_, _, _, _, _, M_29] Z := hS'
  clear hS' hq_31
  refine wpList_nil <| x_then_n ⟨(hS.sub (.cons le_26 (.rr (.zz (.rr (.zz .nn)))))), ?_⟩
  refine h_event 9 (bA 10 1023) rfl (by kernel_rfl) (by kernel_rfl) ?_
  obtain ⟨t_33, et_33, H⟩ := Option.bind_eq_some_iff.1 H
  refine s_callv h rfl rfl Try.call44 rfl (mesg_write_1.calls K ([x0.Inst, x0.Len, t_23] : List Int) _ _ t_12 _ _ t_33 w0 _ _ _ (Mem.le.refl _) (hS.enter [1, 3] (by decide)) (ho_30.rd (hS.own_zed [1, 3] 4 (by decide)) (Mem.no_le _)) hr_17 et_33) ?_
  rintro _ w_34 ⟨v_37, N_35, M_39, rfl, hS', hr_38⟩
  intro a h
  obtain ⟨N_36, hS'', le_36, ln_36⟩ := hS.call [1, 3] (by decide) rfl (l' := [Mem.one g_4 (.cells ([v_37] : List Value).toArray 23 (0, 0)), M_39]) (ow := []) rfl hS'
  replace hS : Sep w0 w_34 [N_36, _, Mem.one g_4 (.cells ([v_37] : List Value).toArray 23 (0, 0)), _, M_39, _] Z := hS''
  clear hS' hS''
  refine wpList_nil <| x_then_n ⟨(hS.sub (.cons (le_26.trans le_36) (.rr (.zz (.rr (.zz .nn)))))), ?_⟩
  refine h_done (by kernel_rfl) <| x_block_n <| x_then_n (hKJ_20 _ _ ?_)
  refine wp_seq <| wp_region_lit <| s_load h rfl rfl (hS.load_one (p := 2) rfl U23 rfl rfl) fun a h=>s_assign h rfl rfl fun a h=>wpList_nil ?_
  replace h : Fr 90 a [(2, v_37)] := h.keep [2]
  refine x_then_n <| wp_ret ?_
  obtain rfl := Option.some.inj H
  exact f_ret h (rs := [.tmp 2]) rfl (.tmp rfl .nil) ⟨_, rfl, v_37, N_36, M_39, rfl, (Sep.sel hS [0, 4] (by decide)), hr_38⟩
 ·rw [if_neg hc_21] at H
  refine c_cond_f h rfl (beq_eq_false_iff_ne.2 hc_21) <| wp_seq <| wp_region_lit <| s_cmp (b := (x0.Kind == 3)) h rfl rfl rfl (.inl ⟨rfl, rfl⟩) fun a h=>s_assign h rfl rfl fun a h=>wpList_nil <| x_then_n ?_
  by_cases hc_41 : x0.Kind = 3
  ·rw [if_pos hc_41] at H
   refine c_cond_t h rfl (beq_iff_eq.2 hc_41) <| wp_region_lit <| s_move h rfl rfl fun a h=>s_fieldAddr h rfl U29 rfl ti3 rfl rfl fun a h=>s_load h rfl rfl (hS.load_one (p := 1) rfl U3 rfl rfl) fun a h=>s_fieldAddr h rfl U29 rfl ti3 rfl rfl fun a h=>s_load h rfl rfl (hS.load_one (p := 1) rfl U3 rfl rfl) fun a h=>s_fieldAddr h rfl U29 rfl ti3 rfl rfl fun a h=>s_load h rfl rfl (hS.load_one (p := 1) rfl U3 rfl rfl) fun a h=>?_
   have hq_46 : Reps (Kd.int .i64) Mem.no ([x0.Members, x0.Source, x0.Len] : List Int) _ := ((Reps.one (d := (Kd.int .i64)) (x := x0.Members) (show (Kd.int .i64).K _ _ [iV x0.Members] from rfl)).append ((Reps.one (d := (Kd.int .i64)) (x := x0.Source) (show (Kd.int .i64).K _ _ [iV x0.Source] from rfl)).append ((Reps.one (d := (Kd.int .i64)) (x := x0.Len) (show (Kd.int .i64).K _ _ [iV x0.Len] from rfl)).append (Reps.nil (Kd.int .i64) _))))
   refine s_buildSlice h rfl U22 ti3 rfl rfl rfl (.cons rfl (.cons rfl (.cons rfl .nil))) rfl rfl rfl hS hq_46 rfl fun w_42 v_43 M_44 hS' ho_45 a h => ?_
   replace hS : Sep w0 w_42 [_, _, _, _, _, M_44] Z := hS'
   clear hS' hq_46
   obtain ⟨t_48, et_48, H⟩ := Option.bind_eq_some_iff.1 H
   refine s_callv h rfl rfl Try.call44 rfl (mesg_write_1.calls K ([x0.Members, x0.Source, x0.Len] : List Int) _ _ t_12 _ _ t_48 w0 _ _ _ (Mem.le.refl _) (hS.enter [1, 3] (by decide)) (ho_45.rd (hS.own_zed [1, 3] 4 (by decide)) (Mem.no_le _)) hr_17 et_48) ?_
   rintro _ w_49 ⟨v_52, N_50, M_54, rfl, hS', hr_53⟩
   intro a h
   obtain ⟨N_51, hS'', le_51, ln_51⟩ := hS.call [1, 3] (by decide) rfl (l' := [Mem.one g_4 (.cells ([v_52] : List Value).toArray 23 (0, 0)), M_54]) (ow := []) rfl hS'
   replace hS : Sep w0 w_49 [N_51, _, Mem.one g_4 (.cells ([v_52] : List Value).toArray 23 (0, 0)), _, M_54, _] Z := hS''
   clear hS' hS''
   refine wpList_nil ?_
   replace h : Fr 90 a [(2, _), (3, _)] := h.keep [2, 3]
   refine x_block_n <| x_then_n (hKJ_20 _ _ ?_)
   refine wp_seq <| wp_region_lit <| s_load h rfl rfl (hS.load_one (p := 2) rfl U23 rfl rfl) fun a h=>s_assign h rfl rfl fun a h=>wpList_nil <| x_then_n <| wp_ret ?_
   obtain rfl := Option.some.inj H
   exact f_ret h (rs := [.tmp 2]) rfl (.tmp rfl .nil) ⟨_, rfl, v_52, N_51, M_54, rfl, (Sep.sel hS [0, 4] (by decide)), hr_53⟩
  ·rw [if_neg hc_41] at H
   refine c_cond_f h rfl (beq_eq_false_iff_ne.2 hc_41) <| wp_seq <| wp_region_lit <| s_cmp (b := (x0.Kind == 4)) h rfl rfl rfl (.inl ⟨rfl, rfl⟩) fun a h=>s_assign h rfl rfl fun a h=>wpList_nil ?_
   replace h : Fr 90 a [(1, _), (2, _), (3, _), (4, _), (18, iV x0.Kind), (42, .bool (x0.Kind == 4))] := h.keep [1, 2, 3, 4, 18, 42]
   refine x_then_n ?_
   by_cases hc_56 : x0.Kind = 4
   ·rw [if_pos hc_56] at H
    refine c_cond_t h rfl (beq_iff_eq.2 hc_56) <| wp_region_lit <| s_move h rfl rfl fun a h=>s_fieldAddr h rfl U29 rfl ti3 rfl rfl fun a h=>s_load h rfl rfl (hS.load_one (p := 1) rfl U3 rfl rfl) fun a h=>?_
    have hq_61 : Reps (Kd.int .i64) Mem.no ([x0.At] : List Int) _ := ((Reps.one (d := (Kd.int .i64)) (x := x0.At) (show (Kd.int .i64).K _ _ [iV x0.At] from rfl)).append (Reps.nil (Kd.int .i64) _))
    refine s_buildSlice h rfl U22 ti3 rfl rfl rfl (.cons rfl .nil) rfl rfl rfl hS hq_61 rfl fun w_57 v_58 M_59 hS' ho_60 a h => ?_
    replace hS : Sep w0 w_57 [_, _, _, _, _, M_59] Z := hS'
    clear hS' hq_61
    obtain ⟨t_63, et_63, H⟩ := Option.bind_eq_some_iff.1 H
    refine s_callv h rfl rfl Try.call44 rfl (mesg_write_1.calls K ([x0.At] : List Int) _ _ t_12 _ _ t_63 w0 _ _ _ (Mem.le.refl _) (hS.enter [1, 3] (by decide)) (ho_60.rd (hS.own_zed [1, 3] 4 (by decide)) (Mem.no_le _)) hr_17 et_63) ?_
    rintro _ w_64 ⟨v_67, N_65, M_69, rfl, hS', hr_68⟩
    intro a h
    obtain ⟨N_66, hS'', le_66, ln_66⟩ := hS.call [1, 3] (by decide) rfl (l' := [Mem.one g_4 (.cells ([v_67] : List Value).toArray 23 (0, 0)), M_69]) (ow := []) rfl hS'
    replace hS : Sep w0 w_64 [N_66, _, Mem.one g_4 (.cells ([v_67] : List Value).toArray 23 (0, 0)), _, M_69, _] Z := hS''
    clear hS' hS''
    refine wpList_nil <| x_block_n <| x_then_n (hKJ_20 _ _ ?_)
    refine wp_seq <| wp_region_lit <| s_load h rfl rfl (hS.load_one (p := 2) rfl U23 rfl rfl) fun a h=>s_assign h rfl rfl fun a h=>wpList_nil <| x_then_n <| wp_ret ?_
    obtain rfl := Option.some.inj H
    exact f_ret h (rs := [.tmp 2]) rfl (.tmp rfl .nil) ⟨_, rfl, v_67, N_66, M_69, rfl, (Sep.sel hS [0, 4] (by decide)), hr_68⟩
   ·rw [if_neg hc_56] at H
    refine c_cond_f h rfl (beq_eq_false_iff_ne.2 hc_56) <| wp_seq <| wp_region_lit <| s_cmp (b := (x0.Kind == 5)) h rfl rfl rfl (.inl ⟨rfl, rfl⟩) fun a h=>s_assign h rfl rfl fun a h=>wpList_nil <| x_then_n ?_
    by_cases hc_71 : x0.Kind = 5
    ·rw [if_pos hc_71] at H
     refine c_cond_t h rfl (beq_iff_eq.2 hc_71) <| wp_seq <| wp_region_lit <| s_move h rfl rfl fun a h=>s_fieldAddr h rfl U29 rfl ti3 rfl rfl fun a h=>s_load h rfl rfl (hS.load_one (p := 1) rfl U3 rfl rfl) fun a h=>s_fieldAddr h rfl U29 rfl ti3 rfl rfl fun a h=>s_load h rfl rfl (hS.load_one (p := 1) rfl U3 rfl rfl) fun a h=>?_
     have hq_76 : Reps (Kd.int .i64) Mem.no ([x0.At, x0.Total] : List Int) _ := ((Reps.one (d := (Kd.int .i64)) (x := x0.At) (show (Kd.int .i64).K _ _ [iV x0.At] from rfl)).append ((Reps.one (d := (Kd.int .i64)) (x := x0.Total) (show (Kd.int .i64).K _ _ [iV x0.Total] from rfl)).append (Reps.nil (Kd.int .i64) _)))
     refine s_buildSlice h rfl U22 ti3 rfl rfl rfl (.cons rfl (.cons rfl .nil)) rfl rfl rfl hS hq_76 rfl fun w_72 v_73 M_74 hS' ho_75 a h => ?_
     replace hS : Sep w0 w_72 [_, _, _, _, _, M_74] Z := hS'
     clear hS' hq_76
     obtain ⟨t_78, et_78, H⟩ := Option.bind_eq_some_iff.1 H
     refine s_callv h rfl rfl Try.call44 rfl (mesg_write_1.calls K ([x0.At, x0.Total] : List Int) _ _ t_12 _ _ t_78 w0 _ _ _ (Mem.le.refl _) (hS.enter [1, 3] (by decide)) (ho_75.rd (hS.own_zed [1, 3] 4 (by decide)) (Mem.no_le _)) hr_17 et_78) ?_
     rintro _ w_79 ⟨v_82, N_80, M_84, rfl, hS', hr_83⟩
     intro a h
     obtain ⟨N_81, hS'', le_81, ln_81⟩ := hS.call [1, 3] (by decide) rfl (l' := [Mem.one g_4 (.cells ([v_82] : List Value).toArray 23 (0, 0)), M_84]) (ow := []) rfl hS'
     replace hS : Sep w0 w_79 [N_81, _, Mem.one g_4 (.cells ([v_82] : List Value).toArray 23 (0, 0)), _, M_84, _] Z := hS''
     clear hS' hS''
     refine wpList_nil <| x_then_n <| wp_region_lit <| s_load h rfl rfl (hS.load_one (p := 2) rfl U23 rfl rfl) fun a h=>s_fieldAddr h rfl U29 rfl ti23 rfl rfl fun a h=>s_load h rfl rfl (hS.load_one (p := 1) rfl U23 rfl rfl) fun a h=>?_
     obtain ⟨t_86, et_86, H⟩ := Option.bind_eq_some_iff.1 H
     refine s_call h rfl Try.call47 rfl (pack_Bytes.calls K t_78 _ x0.Data _ t_86 w0 _ _ _ (Mem.le.refl _) (hS.enter [] (by decide)) (hr_83.rd (hS.own_zed [] 3 (by decide)) (Mem.no_le _)) (hp0_0.mono (hA.trans (hS.le_zed []))) et_86) ?_
     rintro v_90 w_87 ⟨_, N_88, M_92, rfl, hS', hr_91⟩
     intro a h
     obtain ⟨N_89, hS'', le_89, ln_89⟩ := hS.call [] (by decide) rfl (l' := []) (ow := [M_92]) rfl hS'
     replace hS : Sep w0 w_87 [N_89, _, _, _, _, _, M_92] Z := hS''
     clear hS' hS''
     obtain ⟨w_94, hs', hS'⟩ := hS.store (P := Try.prog) (p := 2) (o := 0) (t := 23) (v := v_90) (vs := [v_90]) rfl ti23 hr_91.cellsA rfl rfl (by intro u hu; simp only [List.mem_cons, List.not_mem_nil, or_false] at hu; rcases hu with rfl <;> first | rfl | exact hr_91.one)
     refine s_store h rfl rfl hs' ?_
     replace hS : Sep w0 w_94 [_, _, Mem.one g_4 (.cells ([v_90] : List Value).toArray 23 (0, 0)), _, _, _, _] Z := hS'
     clear hs' hS'
     refine wpList_nil <| x_block_n <| x_then_n (hKJ_20 _ _ ?_)
     refine wp_seq <| wp_region_lit <| s_load h rfl rfl (hS.load_one (p := 2) rfl U23 rfl rfl) fun a h=>s_assign h rfl rfl fun a h=>wpList_nil ?_
     replace h : Fr 90 a [(2, v_90)] := h.keep [2]
     refine x_then_n <| wp_ret ?_
     obtain rfl := Option.some.inj H
     exact f_ret h (rs := [.tmp 2]) rfl (.tmp rfl .nil) ⟨_, rfl, v_90, N_89, M_92, rfl, (Sep.sel hS [0, 6] (by decide)), hr_91⟩
    ·rw [if_neg hc_71] at H
     refine c_cond_f h rfl (beq_eq_false_iff_ne.2 hc_71) <| wp_seq <| wp_region_lit <| s_cmp (b := (x0.Kind == 7)) h rfl rfl rfl (.inl ⟨rfl, rfl⟩) fun a h=>s_assign h rfl rfl fun a h=>wpList_nil <| x_then_n ?_
     by_cases hc_95 : x0.Kind = 7
     ·rw [if_pos hc_95] at H
      refine c_cond_t h rfl (beq_iff_eq.2 hc_95) <| wp_seq <| wp_region_lit <| s_move h rfl rfl fun a h=>s_fieldAddr h rfl U29 rfl ti3 rfl rfl fun a h=>s_load h rfl rfl (hS.load_one (p := 1) rfl U3 rfl rfl) fun a h=>s_fieldAddr h rfl U29 rfl ti3 rfl rfl fun a h=>s_load h rfl rfl (hS.load_one (p := 1) rfl U3 rfl rfl) fun a h=>?_
      have hq_100 : Reps (Kd.int .i64) Mem.no ([x0.Hop, x0.Seq] : List Int) _ := ((Reps.one (d := (Kd.int .i64)) (x := x0.Hop) (show (Kd.int .i64).K _ _ [iV x0.Hop] from rfl)).append ((Reps.one (d := (Kd.int .i64)) (x := x0.Seq) (show (Kd.int .i64).K _ _ [iV x0.Seq] from rfl)).append (Reps.nil (Kd.int .i64) _)))
      refine s_buildSlice h rfl U22 ti3 rfl rfl rfl (.cons rfl (.cons rfl .nil)) rfl rfl rfl hS hq_100 rfl fun w_96 v_97 M_98 hS' ho_99 a h => ?_
      replace hS : Sep w0 w_96 [_, _, _, _, _, M_98] Z := hS'
      clear hS' hq_100
      obtain ⟨t_102, et_102, H⟩ := Option.bind_eq_some_iff.1 H
      refine s_callv h rfl rfl Try.call44 rfl (mesg_write_1.calls K ([x0.Hop, x0.Seq] : List Int) _ _ t_12 _ _ t_102 w0 _ _ _ (Mem.le.refl _) (hS.enter [1, 3] (by decide)) (ho_99.rd (hS.own_zed [1, 3] 4 (by decide)) (Mem.no_le _)) hr_17 et_102) ?_
      rintro _ w_103 ⟨v_106, N_104, M_108, rfl, hS', hr_107⟩
      intro a h
      obtain ⟨N_105, hS'', le_105, ln_105⟩ := hS.call [1, 3] (by decide) rfl (l' := [Mem.one g_4 (.cells ([v_106] : List Value).toArray 23 (0, 0)), M_108]) (ow := []) rfl hS'
      replace hS : Sep w0 w_103 [N_105, _, Mem.one g_4 (.cells ([v_106] : List Value).toArray 23 (0, 0)), _, M_108, _] Z := hS''
      clear hS' hS''
      refine wpList_nil <| x_then_n <| h_begin (S := fun w => Sep w0 w [N_105, Mem.one g_2 (.cells ([iV x0.Kind, iV x0.From, iV x0.To, iV x0.View, iV x0.Inst, iV x0.Len, .bool x0.Has, iV x0.Members, iV x0.Source, iV x0.At, iV x0.Total, p0_0, iV x0.Hop, iV x0.Seq, p0_1, p0_2, iV x0.Index, iV x0.Entry.Sess, iV x0.Entry.Seq, iV x0.Entry.Cmd.Kind, iV x0.Entry.Cmd.Who, p0_3, p0_4, p0_5] : List Value).toArray 29 (0, 0)), Mem.no, M_7, M_108, M_98] Z) 8 (by kernel_rfl) rfl (bA 8 0) (by kernel_rfl) hS fun w_110 hS => ?_
      replace hS : Sep w0 w_110 [_, _, _, _, _, _] Z := hS
      refine t_take 1 (bA 8 2) rfl rfl rfl rfl h (hS.sub (.cons (Mem.le.refl _) (.rr (.zz .ii)))) (v := .pointer (some ⟨g_2, 14, none⟩)) (fun w hS => r_fieldAddr h U29 rfl ti22 rfl rfl rfl) fun a h=>t_take 2 (bA 8 6) rfl rfl rfl rfl h (hS.sub (.cons (Mem.le.refl _) (.rr (.zz .ii)))) (v := p0_1) (fun w hS => r_load h rfl (hS.load_one (p := 1) rfl U22 rfl rfl)) fun a h=>t_take 4 (bA 8 22) rfl rfl rfl rfl h (hS.sub (.cons (Mem.le.refl _) (.rr (.zz .ii)))) (v := .pointer (some ⟨g_2, 15, none⟩)) (fun w hS => r_fieldAddr h U29 rfl ti22 rfl rfl rfl) fun a h=>t_take 5 (bA 8 54) rfl rfl rfl rfl h (hS.sub (.cons (Mem.le.refl _) (.rr (.zz .ii)))) (v := p0_2) (fun w hS => r_load h rfl (hS.load_one (p := 1) rfl U22 rfl rfl)) fun a h=>h_event 0 (bA 8 55) rfl (by kernel_rfl) (by kernel_rfl) <| s_load h rfl rfl (hS.load_one (p := 2) rfl U23 rfl rfl) fun a h=>wpList_nil <| x_then_n ⟨(hS.sub (.cons (Mem.le.refl _) (.rr (.zz .ii)))), ?_⟩
      refine h_event 3 (bA 8 63) rfl (by kernel_rfl) (by kernel_rfl) ?_
      obtain ⟨t_111, et_111, H⟩ := Option.bind_eq_some_iff.1 H
      refine s_call h rfl Try.call48 rfl (mesg_row.calls K t_102 _ x0.Have _ t_111 w0 _ _ _ (Mem.le.refl _) (hS.enter [] (by decide)) (hr_107.rd (hS.own_zed [] 3 (by decide)) (Mem.no_le _)) (hp0_1.mono (hA.trans (hS.le_zed []))) et_111) ?_
      rintro v_115 w_112 ⟨_, N_113, M_117, rfl, hS', hr_116⟩
      intro a h
      obtain ⟨N_114, hS'', le_114, ln_114⟩ := hS.call [] (by decide) rfl (l' := []) (ow := [M_117]) rfl hS'
      replace hS : Sep w0 w_112 [N_114, _, _, _, _, _, M_117] Z := hS''
      clear hS' hS''
      refine wpList_nil <| x_then_n ⟨(hS.sub (.cons le_114 (.rr (.zz (.rr (.rr (.rr .nn))))))), ?_⟩
      refine h_event 6 (bA 8 127) rfl (by kernel_rfl) (by kernel_rfl) ?_
      obtain ⟨t_119, et_119, H⟩ := Option.bind_eq_some_iff.1 H
      refine s_call h rfl Try.call48 rfl (mesg_row.calls K t_111 _ x0.Need _ t_119 w0 _ _ _ (Mem.le.refl _) (hS.enter [] (by decide)) (hr_116.rd (hS.own_zed [] 5 (by decide)) (Mem.no_le _)) (hp0_2.mono (hA.trans (hS.le_zed []))) et_119) ?_
      rintro v_123 w_120 ⟨_, N_121, M_125, rfl, hS', hr_124⟩
      intro a h
      obtain ⟨N_122, hS'', le_122, ln_122⟩ := hS.call [] (by decide) rfl (l' := []) (ow := [M_125]) rfl hS'
      replace hS : Sep w0 w_120 [N_122, _, _, _, _, _, _, M_125] Z := hS''
      clear hS' hS''
      refine wpList_nil <| x_then_n ⟨(hS.sub (.cons (le_114.trans le_122) (.rr (.zz (.rr (.rr (.rr .nn))))))), ?_⟩
      refine h_event 7 (bA 8 255) rfl (by kernel_rfl) (by kernel_rfl) ?_
      obtain ⟨w_127, hs', hS'⟩ := hS.store (P := Try.prog) (p := 2) (o := 0) (t := 23) (v := v_123) (vs := [v_123]) rfl ti23 hr_124.cellsA rfl rfl (by intro u hu; simp only [List.mem_cons, List.not_mem_nil, or_false] at hu; rcases hu with rfl <;> first | rfl | exact hr_124.one)
      refine s_store h rfl rfl hs' ?_
      replace hS : Sep w0 w_127 [_, _, Mem.one g_4 (.cells ([v_123] : List Value).toArray 23 (0, 0)), _, _, _, _, _] Z := hS'
      clear hs' hS'
      refine wpList_nil <| x_then_n ⟨(hS.sub (.cons (le_114.trans le_122) (.rr (.zz (.rr (.rr (.rr .nn))))))), ?_⟩
      refine h_done (by kernel_rfl) ?_
      replace h : Fr 90 a [(2, _), (3, _)] := h.keep [2, 3]
      refine x_block_n <| x_then_n (hKJ_20 _ _ ?_)
      refine wp_seq <| wp_region_lit <| s_load h rfl rfl (hS.load_one (p := 2) rfl U23 rfl rfl) fun a h=>s_assign h rfl rfl fun a h=>wpList_nil <| x_then_n <| wp_ret ?_
      obtain rfl := Option.some.inj H
      exact f_ret h (rs := [.tmp 2]) rfl (.tmp rfl .nil) ⟨_, rfl, v_123, N_122, M_125, rfl, (Sep.sel hS [0, 7] (by decide)), hr_124⟩
     ·rw [if_neg hc_95] at H
      refine c_cond_f h rfl (beq_eq_false_iff_ne.2 hc_95) <| wp_seq <| wp_region_lit <| s_cmp (b := (x0.Kind == 8)) h rfl rfl rfl (.inl ⟨rfl, rfl⟩) fun a h=>s_assign h rfl rfl fun a h=>wpList_nil <| x_then_n ?_
      by_cases hc_128 : x0.Kind = 8
      ·rw [if_pos hc_128] at H
       refine c_cond_t h rfl (beq_iff_eq.2 hc_128) <| wp_seq <| wp_region_lit <| s_move h rfl rfl fun a h=>s_fieldAddr h rfl U29 rfl ti3 rfl rfl fun a h=>s_load h rfl rfl (hS.load_one (p := 1) rfl U3 rfl rfl) fun a h=>?_
       have hq_133 : Reps (Kd.int .i64) Mem.no ([x0.Index] : List Int) _ := ((Reps.one (d := (Kd.int .i64)) (x := x0.Index) (show (Kd.int .i64).K _ _ [iV x0.Index] from rfl)).append (Reps.nil (Kd.int .i64) _))
       refine s_buildSlice h rfl U22 ti3 rfl rfl rfl (.cons rfl .nil) rfl rfl rfl hS hq_133 rfl fun w_129 v_130 M_131 hS' ho_132 a h => ?_
       replace hS : Sep w0 w_129 [_, _, _, _, _, M_131] Z := hS'
       clear hS' hq_133
       obtain ⟨t_135, et_135, H⟩ := Option.bind_eq_some_iff.1 H
       refine s_callv h rfl rfl Try.call44 rfl (mesg_write_1.calls K ([x0.Index] : List Int) _ _ t_12 _ _ t_135 w0 _ _ _ (Mem.le.refl _) (hS.enter [1, 3] (by decide)) (ho_132.rd (hS.own_zed [1, 3] 4 (by decide)) (Mem.no_le _)) hr_17 et_135) ?_
       rintro _ w_136 ⟨v_139, N_137, M_141, rfl, hS', hr_140⟩
       intro a h
       obtain ⟨N_138, hS'', le_138, ln_138⟩ := hS.call [1, 3] (by decide) rfl (l' := [Mem.one g_4 (.cells ([v_139] : List Value).toArray 23 (0, 0)), M_141]) (ow := []) rfl hS'
       replace hS : Sep w0 w_136 [N_138, _, Mem.one g_4 (.cells ([v_139] : List Value).toArray 23 (0, 0)), _, M_141, _] Z := hS''
       clear hS' hS''
       refine wpList_nil ?_
       replace h : Fr 90 a [(1, _), (2, _), (3, _)] := h.keep [1, 2, 3]
       refine x_then_n <| wp_region_lit <| s_load h rfl rfl (hS.load_one (p := 2) rfl U23 rfl rfl) fun a h=>s_fieldAddr h rfl U29 rfl ti27 rfl rfl fun a h=>s_load h rfl rfl (hS.load_agg (p := 1) (us := [iV x0.Entry.Sess, iV x0.Entry.Seq, iV x0.Entry.Cmd.Kind, iV x0.Entry.Cmd.Who, p0_3, p0_4, p0_5]) rfl U27 rfl ti27 rfl rfl) fun a h=>?_
       obtain ⟨t_143, et_143, H⟩ := Option.bind_eq_some_iff.1 H
       refine s_call h rfl Try.call49 rfl (mach_PutEntry.calls K t_135 _ x0.Entry _ _ _ t_143 w0 _ _ _ (Mem.le.refl _) (hS.enter [] (by decide)) (hr_140.rd (hS.own_zed [] 3 (by decide)) (Mem.no_le _)) (hp0_3.mono (hA.trans (hS.le_zed []))) (hp0_4.mono (hA.trans (hS.le_zed []))) (hp0_5.mono (hA.trans (hS.le_zed []))) et_143) ?_
       rintro v_147 w_144 ⟨_, N_145, M_149, rfl, hS', hr_148⟩
       intro a h
       obtain ⟨N_146, hS'', le_146, ln_146⟩ := hS.call [] (by decide) rfl (l' := []) (ow := [M_149]) rfl hS'
       replace hS : Sep w0 w_144 [N_146, _, _, _, _, _, M_149] Z := hS''
       clear hS' hS''
       obtain ⟨w_151, hs', hS'⟩ := hS.store (P := Try.prog) (p := 2) (o := 0) (t := 23) (v := v_147) (vs := [v_147]) rfl ti23 hr_148.cellsA rfl rfl (by intro u hu; simp only [List.mem_cons, List.not_mem_nil, or_false] at hu; rcases hu with rfl <;> first | rfl | exact hr_148.one)
       refine s_store h rfl rfl hs' ?_
       replace hS : Sep w0 w_151 [_, _, Mem.one g_4 (.cells ([v_147] : List Value).toArray 23 (0, 0)), _, _, _, _] Z := hS'
       clear hs' hS'
       refine wpList_nil <| x_block_n <| x_then_n (hKJ_20 _ _ ?_)
       refine wp_seq <| wp_region_lit <| s_load h rfl rfl (hS.load_one (p := 2) rfl U23 rfl rfl) fun a h=>s_assign h rfl rfl fun a h=>wpList_nil <| x_then_n <| wp_ret ?_
       obtain rfl := Option.some.inj H
       exact f_ret h (rs := [.tmp 2]) rfl (.tmp rfl .nil) ⟨_, rfl, v_147, N_146, M_149, rfl, (Sep.sel hS [0, 6] (by decide)), hr_148⟩
      ·rw [if_neg hc_128] at H
       refine c_cond_f h rfl (beq_eq_false_iff_ne.2 hc_128) <| wp_skip <| x_block_n <| x_then_n (hKJ_20 _ _ ?_)
       refine wp_seq <| wp_region_lit <| s_load h rfl rfl (hS.load_one (p := 2) rfl U23 rfl rfl) fun a h=>s_assign h rfl rfl fun a h=>wpList_nil ?_
       replace h : Fr 90 a [(2, v_16)] := h.keep [2]
       refine x_then_n <| wp_ret ?_
       obtain rfl := Option.some.inj H
       exact f_ret h (rs := [.tmp 2]) rfl (.tmp rfl .nil) ⟨_, rfl, v_16, N_15, M_18, rfl, (Sep.sel hS [0, 4] (by decide)), hr_17⟩

set_option maxHeartbeats 4000000 in
set_option maxRecDepth 20000 in
theorem mesg_Encode.calls (K : Nat) (x0 : api_Msg) (p0_0 : Value) (p0_1 : Value) (p0_2 : Value) (p0_3 : Value) (p0_4 : Value) (p0_5 : Value) (r : (List UInt8)) (w0 w : World) (Z A : Mem) (hA : A.le Z) (hS : Sep w0 w [] Z) (hp0_0 : Rd Kd.u8 A p0_0 x0.Data) (hp0_1 : Rd (Kd.int .i64) A p0_1 x0.Have) (hp0_2 : Rd (Kd.int .i64) A p0_2 x0.Need) (hp0_3 : Rd Kd.u8 A p0_3 x0.Entry.Cmd.Key) (hp0_4 : Rd Kd.u8 A p0_4 x0.Entry.Cmd.Val) (hp0_5 : Rd Kd.u8 A p0_5 x0.Entry.Cmd.Old)
    (H : mesg_Encode.f K x0 = some r) :
    Calls Try.prog 11 [.agg ([iV x0.Kind, iV x0.From, iV x0.To, iV x0.View, iV x0.Inst, iV x0.Len, .bool x0.Has, iV x0.Members, iV x0.Source, iV x0.At, iV x0.Total, p0_0, iV x0.Hop, iV x0.Seq, p0_1, p0_2, iV x0.Index, iV x0.Entry.Sess, iV x0.Entry.Seq, iV x0.Entry.Cmd.Kind, iV x0.Entry.Cmd.Who, p0_3, p0_4, p0_5] : List Value).toArray].toArray w (Ret fun v w' => ∃ (u0 : Value) (N : Mem) (M0 : Mem), v = u0 ∧ Sep w0 w' [N, M0] Z ∧ Own Kd.u8 5 M0 Mem.no u0 r) := by
 unfold mesg_Encode.f at H
 refine f_enter _ Try.func11 rfl Try.ntmps11 rfl fun a h=>?_
 replace h : Fr 24 a [(0, .agg ([iV x0.Kind, iV x0.From, iV x0.To, iV x0.View, iV x0.Inst, iV x0.Len, .bool x0.Has, iV x0.Members, iV x0.Source, iV x0.At, iV x0.Total, p0_0, iV x0.Hop, iV x0.Seq, p0_1, p0_2, iV x0.Index, iV x0.Entry.Sess, iV x0.Entry.Seq, iV x0.Entry.Cmd.Kind, iV x0.Entry.Cmd.Who, p0_3, p0_4, p0_5] : List Value).toArray)] := h
 replace hS := hS.start
 replace hS : Sep w0 w [_] Z := hS
 refine wp_seq <| wp_region_lit <| v_box (vs := [iV x0.Kind, iV x0.From, iV x0.To, iV x0.View, iV x0.Inst, iV x0.Len, .bool x0.Has, iV x0.Members, iV x0.Source, iV x0.At, iV x0.Total, p0_0, iV x0.Hop, iV x0.Seq, p0_1, p0_2, iV x0.Index, iV x0.Entry.Sess, iV x0.Entry.Seq, iV x0.Entry.Cmd.Kind, iV x0.Entry.Cmd.Who, p0_3, p0_4, p0_5]) h rfl rfl rfl hS fun w_1 g_2 hS' a h => ?_
 replace hS : Sep w0 w_1 [_, Mem.one g_2 (.cells ([iV x0.Kind, iV x0.From, iV x0.To, iV x0.View, iV x0.Inst, iV x0.Len, .bool x0.Has, iV x0.Members, iV x0.Source, iV x0.At, iV x0.Total, p0_0, iV x0.Hop, iV x0.Seq, p0_1, p0_2, iV x0.Index, iV x0.Entry.Sess, iV x0.Entry.Seq, iV x0.Entry.Cmd.Kind, iV x0.Entry.Cmd.Who, p0_3, p0_4, p0_5] : List Value).toArray 29 (0, 0))] Z := hS'
 clear hS'
 refine s_assign h rfl rfl fun a h=>wpList_nil <| x_then_n <| c_seq fun KJ_3 hKJ_3 => wp_seq <| wp_region_lit <| s_load h rfl rfl (hS.load_agg (p := 1) (us := [iV x0.Kind, iV x0.From, iV x0.To, iV x0.View, iV x0.Inst, iV x0.Len, .bool x0.Has, iV x0.Members, iV x0.Source, iV x0.At, iV x0.Total, p0_0, iV x0.Hop, iV x0.Seq, p0_1, p0_2, iV x0.Index, iV x0.Entry.Sess, iV x0.Entry.Seq, iV x0.Entry.Cmd.Kind, iV x0.Entry.Cmd.Who, p0_3, p0_4, p0_5]) rfl U29 rfl ti29 rfl rfl) fun a h=>?_
 obtain ⟨t_4, et_4, H⟩ := Option.bind_eq_some_iff.1 H
 refine s_call h rfl Try.call24 rfl (mesg_beyond.calls x0 _ _ _ _ _ _ t_4 w0 _ _ _ (Mem.le.refl _) (hS.enter [] (by decide)) (hp0_0.mono (hA.trans (hS.le_zed []))) (hp0_1.mono (hA.trans (hS.le_zed []))) (hp0_2.mono (hA.trans (hS.le_zed []))) (hp0_3.mono (hA.trans (hS.le_zed []))) (hp0_4.mono (hA.trans (hS.le_zed []))) (hp0_5.mono (hA.trans (hS.le_zed []))) et_4) ?_
 rintro _ w_5 ⟨N_6, rfl, hS'⟩
 intro a h
 obtain ⟨N_7, hS'', le_7, ln_7⟩ := hS.call [] (by decide) rfl (l' := []) (ow := []) rfl hS'
 replace hS : Sep w0 w_5 [N_7, _] Z := hS''
 clear hS' hS''
 refine wpList_nil <| x_then_n ?_
 by_cases hc_8 : t_4 = true
 ·rw [if_pos hc_8] at H
  refine c_cond_t h rfl hc_8 <| wp_seq <| wp_region_lit <| s_assign h rfl rfl fun a h=>wpList_nil <| x_then_n <| wp_ret (x_then_r ?_)
  have hS' := hS.room
  replace hS : Sep w0 w_5 [_, _, Mem.no] Z := hS'
  clear hS'
  obtain rfl := Option.some.inj H
  exact f_ret h (rs := [.tmp 2]) rfl (.tmp rfl .nil) ⟨_, rfl, nS, N_7, Mem.no, rfl, (Sep.sel hS [0, 2] (by decide)), (Own.nil Kd.u8 5 Mem.no)⟩
 ·rw [if_neg hc_8] at H
  refine c_cond_f h rfl (Bool.eq_false_iff.2 hc_8) <| wp_skip <| x_then_n (hKJ_3 _ _ ?_)
  refine wp_seq <| wp_region_lit <| s_load h rfl rfl (hS.load_agg (p := 1) (us := [iV x0.Kind, iV x0.From, iV x0.To, iV x0.View, iV x0.Inst, iV x0.Len, .bool x0.Has, iV x0.Members, iV x0.Source, iV x0.At, iV x0.Total, p0_0, iV x0.Hop, iV x0.Seq, p0_1, p0_2, iV x0.Index, iV x0.Entry.Sess, iV x0.Entry.Seq, iV x0.Entry.Cmd.Kind, iV x0.Entry.Cmd.Who, p0_3, p0_4, p0_5]) rfl U29 rfl ti29 rfl rfl) fun a h=>?_
  obtain ⟨t_10, et_10, H⟩ := Option.bind_eq_some_iff.1 H
  refine s_call h rfl Try.call25 rfl (mesg_write.calls K x0 _ _ _ _ _ _ t_10 w0 _ _ _ (Mem.le.refl _) (hS.enter [] (by decide)) (hp0_0.mono (hA.trans (hS.le_zed []))) (hp0_1.mono (hA.trans (hS.le_zed []))) (hp0_2.mono (hA.trans (hS.le_zed []))) (hp0_3.mono (hA.trans (hS.le_zed []))) (hp0_4.mono (hA.trans (hS.le_zed []))) (hp0_5.mono (hA.trans (hS.le_zed []))) et_10) ?_
  rintro v_14 w_11 ⟨_, N_12, M_16, rfl, hS', hr_15⟩
  intro a h
  obtain ⟨N_13, hS'', le_13, ln_13⟩ := hS.call [] (by decide) rfl (l' := []) (ow := [M_16]) rfl hS'
  replace hS : Sep w0 w_11 [N_13, _, M_16] Z := hS''
  clear hS' hS''
  refine s_assign h rfl rfl fun a h=>wpList_nil <| x_then_n <| c_seq fun KJ_18 hKJ_18 => wp_seq <| wp_region_lit <| s_move h rfl rfl fun a h=>?_
  obtain ⟨t_19, et_19, H⟩ := Option.bind_eq_some_iff.1 H
  refine s_call h rfl Try.call26 rfl (mesg_read.calls K t_10 _ t_19 w0 _ _ _ (Mem.le.refl _) (hS.enter [] (by decide)) (hr_15.rd (hS.own_zed [] 1 (by decide)) (Mem.no_le _)) et_19) ?_
  rintro _ w_20 ⟨v_23, v_27, v_31, v_35, v_39, v_43, N_21, M_25, M_29, M_33, M_37, M_41, M_45, rfl, hS', hr_24, hr_28, hr_32, hr_36, hr_40, hr_44⟩
  intro a h
  obtain ⟨N_22, hS'', le_22, ln_22⟩ := hS.call [] (by decide) rfl (l' := []) (ow := [M_25, M_29, M_33, M_37, M_41, M_45]) rfl hS'
  replace hS : Sep w0 w_20 [N_22, _, _, M_25, M_29, M_33, M_37, M_41, M_45] Z := hS''
  clear hS' hS''
  refine s_move h rfl rfl fun a h=>s_extract h rfl rfl rfl fun a h=>s_extract h rfl rfl rfl fun a h=>v_alloc h rfl ti29 hS fun w_47 g_48 hS' a h => ?_
  replace hS : Sep w0 w_47 [_, _, _, _, _, _, _, _, _, Mem.one g_48 (.cells ([iV 0, iV 0, iV 0, iV 0, iV 0, iV 0, .bool false, iV 0, iV 0, iV 0, iV 0, nS, iV 0, iV 0, nS, nS, iV 0, iV 0, iV 0, iV 0, iV 0, nS, nS, nS] : List Value).toArray 29 (0, 0))] Z := hS'
  clear hS'
  obtain ⟨w_49, hs', hS'⟩ := hS.store (P := Try.prog) (p := 9) (o := 0) (t := 29) (v := .agg ([iV t_19.1.Kind, iV t_19.1.From, iV t_19.1.To, iV t_19.1.View, iV t_19.1.Inst, iV t_19.1.Len, .bool t_19.1.Has, iV t_19.1.Members, iV t_19.1.Source, iV t_19.1.At, iV t_19.1.Total, v_23, iV t_19.1.Hop, iV t_19.1.Seq, v_27, v_31, iV t_19.1.Index, iV t_19.1.Entry.Sess, iV t_19.1.Entry.Seq, iV t_19.1.Entry.Cmd.Kind, iV t_19.1.Entry.Cmd.Who, v_35, v_39, v_43] : List Value).toArray) (vs := [iV t_19.1.Kind, iV t_19.1.From, iV t_19.1.To, iV t_19.1.View, iV t_19.1.Inst, iV t_19.1.Len, .bool t_19.1.Has, iV t_19.1.Members, iV t_19.1.Source, iV t_19.1.At, iV t_19.1.Total, v_23, iV t_19.1.Hop, iV t_19.1.Seq, v_27, v_31, iV t_19.1.Index, iV t_19.1.Entry.Sess, iV t_19.1.Entry.Seq, iV t_19.1.Entry.Cmd.Kind, iV t_19.1.Entry.Cmd.Who, v_35, v_39, v_43]) rfl ti29 rfl rfl rfl (by intro u hu; simp only [List.mem_cons, List.not_mem_nil, or_false] at hu; rcases hu with rfl | rfl | rfl | rfl | rfl | rfl | rfl | rfl | rfl | rfl | rfl | rfl | rfl | rfl | rfl | rfl | rfl | rfl | rfl | rfl | rfl | rfl | rfl | rfl <;> first | rfl | exact hr_24.one | exact hr_28.one | exact hr_32.one | exact hr_36.one | exact hr_40.one | exact hr_44.one)
  refine s_store h rfl rfl hs' ?_
  replace hS : Sep w0 w_49 [_, _, _, _, _, _, _, _, _, Mem.one g_48 (.cells ([iV t_19.1.Kind, iV t_19.1.From, iV t_19.1.To, iV t_19.1.View, iV t_19.1.Inst, iV t_19.1.Len, .bool t_19.1.Has, iV t_19.1.Members, iV t_19.1.Source, iV t_19.1.At, iV t_19.1.Total, v_23, iV t_19.1.Hop, iV t_19.1.Seq, v_27, v_31, iV t_19.1.Index, iV t_19.1.Entry.Sess, iV t_19.1.Entry.Seq, iV t_19.1.Entry.Cmd.Kind, iV t_19.1.Entry.Cmd.Who, v_35, v_39, v_43] : List Value).toArray 29 (0, 0))] Z := hS'
  clear hs' hS'
  refine s_assign h rfl rfl fun a h=>wpList_nil ?_
  replace h : Fr 24 a [(1, .pointer (some ⟨g_2, 0, none⟩)), (2, nS), (3, v_14), (4, .pointer (some ⟨g_48, 0, none⟩)), (5, .bool t_19.2)] := h.keep [1, 2, 3, 4, 5]
  refine x_then_n <| c_seq fun KJ_50 hKJ_50 => wp_region_lit <| s_move h rfl rfl fun a h=>s_not h rfl rfl fun a h=>s_move h rfl rfl fun a h=>?_
  by_cases hc_51 : t_19.2 = true
  ·rw [if_pos hc_51] at H
   refine s_on h rfl rfl (nf hc_51) <| s_load h rfl rfl (hS.load_agg (p := 9) (us := [iV t_19.1.Kind, iV t_19.1.From, iV t_19.1.To, iV t_19.1.View, iV t_19.1.Inst, iV t_19.1.Len, .bool t_19.1.Has, iV t_19.1.Members, iV t_19.1.Source, iV t_19.1.At, iV t_19.1.Total, v_23, iV t_19.1.Hop, iV t_19.1.Seq, v_27, v_31, iV t_19.1.Index, iV t_19.1.Entry.Sess, iV t_19.1.Entry.Seq, iV t_19.1.Entry.Cmd.Kind, iV t_19.1.Entry.Cmd.Who, v_35, v_39, v_43]) rfl U29 rfl ti29 rfl rfl) fun a h=>s_on h rfl rfl (nf hc_51) <| s_load h rfl rfl (hS.load_agg (p := 1) (us := [iV x0.Kind, iV x0.From, iV x0.To, iV x0.View, iV x0.Inst, iV x0.Len, .bool x0.Has, iV x0.Members, iV x0.Source, iV x0.At, iV x0.Total, p0_0, iV x0.Hop, iV x0.Seq, p0_1, p0_2, iV x0.Index, iV x0.Entry.Sess, iV x0.Entry.Seq, iV x0.Entry.Cmd.Kind, iV x0.Entry.Cmd.Who, p0_3, p0_4, p0_5]) rfl U29 rfl ti29 rfl rfl) fun a h=>s_on h rfl rfl (nf hc_51) ?_
   obtain ⟨t_52, et_52, H⟩ := Option.bind_eq_some_iff.1 H
   refine s_call h rfl Try.call27 rfl (mesg_alike.calls K t_19.1 _ _ _ _ _ _ x0 _ _ _ _ _ _ t_52 w0 _ _ _ (Mem.le.refl _) (hS.enter [] (by decide)) (hr_24.rd (hS.own_zed [] 2 (by decide)) (Mem.no_le _)) (hr_28.rd (hS.own_zed [] 3 (by decide)) (Mem.no_le _)) (hr_32.rd (hS.own_zed [] 4 (by decide)) (Mem.no_le _)) (hr_36.rd (hS.own_zed [] 5 (by decide)) (Mem.no_le _)) (hr_40.rd (hS.own_zed [] 6 (by decide)) (Mem.no_le _)) (hr_44.rd (hS.own_zed [] 7 (by decide)) (Mem.no_le _)) (hp0_0.mono (hA.trans (hS.le_zed []))) (hp0_1.mono (hA.trans (hS.le_zed []))) (hp0_2.mono (hA.trans (hS.le_zed []))) (hp0_3.mono (hA.trans (hS.le_zed []))) (hp0_4.mono (hA.trans (hS.le_zed []))) (hp0_5.mono (hA.trans (hS.le_zed []))) et_52) ?_
   rintro _ w_53 ⟨N_54, rfl, hS'⟩
   intro a h
   obtain ⟨N_55, hS'', le_55, ln_55⟩ := hS.call [] (by decide) rfl (l' := []) (ow := []) rfl hS'
   replace hS : Sep w0 w_53 [N_55, _, _, _, _, _, _, _, _, _] Z := hS''
   clear hS' hS''
   refine s_on h rfl rfl (nf hc_51) <| s_not h rfl rfl fun a h=>s_pick_f h rfl rfl (nf hc_51) rfl fun a h=>wpList_nil <| x_then_n (hKJ_50 _ _ ?_)
   by_cases hc_56 : t_52 = true
   ·rw [if_pos hc_56] at H
    refine c_cond_f h rfl (nf hc_56) <| wp_skip <| x_then_n (hKJ_18 _ _ ?_)
    refine wp_seq <| wp_region_lit <| s_move h rfl rfl fun a h=>s_assign h rfl rfl fun a h=>wpList_nil <| x_then_n <| wp_ret ?_
    obtain rfl := Option.some.inj H
    exact f_ret h (rs := [.tmp 2]) rfl (.tmp rfl .nil) ⟨_, rfl, v_14, N_55, M_16, rfl, (Sep.sel hS [0, 2] (by decide)), hr_15⟩
   ·rw [if_neg hc_56] at H
    refine c_cond_t h rfl (nt (Bool.eq_false_iff.2 hc_56)) <| wp_seq <| wp_region_lit <| s_assign h rfl rfl fun a h=>wpList_nil <| x_then_n <| wp_ret (x_then_r ?_)
    have hS' := hS.room
    replace hS : Sep w0 w_53 [_, _, _, _, _, _, _, _, _, _, Mem.no] Z := hS'
    clear hS'
    obtain rfl := Option.some.inj H
    exact f_ret h (rs := [.tmp 2]) rfl (.tmp rfl .nil) ⟨_, rfl, nS, N_55, Mem.no, rfl, (Sep.sel hS [0, 10] (by decide)), (Own.nil Kd.u8 5 Mem.no)⟩
  ·rw [if_neg hc_51] at H
   refine s_off h rfl rfl rfl (nt (Bool.eq_false_iff.2 hc_51)) fun a h=>s_off h rfl rfl rfl (nt (Bool.eq_false_iff.2 hc_51)) fun a h=>s_off h rfl rfl rfl (nt (Bool.eq_false_iff.2 hc_51)) fun a h=>s_off h rfl rfl rfl (nt (Bool.eq_false_iff.2 hc_51)) fun a h=>s_pick_t h rfl rfl (nt (Bool.eq_false_iff.2 hc_51)) rfl fun a h=>wpList_nil <| x_then_n (hKJ_50 _ _ ?_)
   refine c_cond_t h rfl rfl <| wp_seq <| wp_region_lit <| s_assign h rfl rfl fun a h=>wpList_nil <| x_then_n <| wp_ret (x_then_r ?_)
   have hS' := hS.room
   replace hS : Sep w0 w_49 [_, _, _, _, _, _, _, _, _, _, Mem.no] Z := hS'
   clear hS'
   obtain rfl := Option.some.inj H
   exact f_ret h (rs := [.tmp 2]) rfl (.tmp rfl .nil) ⟨_, rfl, nS, N_22, Mem.no, rfl, (Sep.sel hS [0, 10] (by decide)), (Own.nil Kd.u8 5 Mem.no)⟩

set_option maxHeartbeats 4000000 in
set_option maxRecDepth 20000 in
theorem hocketlaw11_awake.calls (K : Nat) (r : Unit) (w0 w : World) (Z A : Mem) (hA : A.le Z) (hS : Sep w0 w [] Z)
    (H : hocketlaw11_awake.f K = some r) :
    Calls Try.prog 13 [].toArray w (Ret fun v w' => ∃ (N : Mem), v = .bool true ∧ Sep w0 w' [N] Z) := by
 unfold hocketlaw11_awake.f at H
 refine f_enter _ Try.func13 rfl Try.ntmps13 rfl fun a h=>?_
 replace h : Fr 57 a [] := h
 replace hS := hS.start
 replace hS : Sep w0 w [_] Z := hS
 refine wp_seq <| wp_region_lit <| s_assign h rfl rfl fun a h=>wpList_nil <| x_then_n <| wp_seq <| wp_region_lit ?_
 have hq_5 : Reps (Kd.int .i64) Mem.no ([5, 4] : List Int) _ := ((Reps.one (d := (Kd.int .i64)) (x := 5) (show (Kd.int .i64).K _ _ [iV 5] from rfl)).append ((Reps.one (d := (Kd.int .i64)) (x := 4) (show (Kd.int .i64).K _ _ [iV 4] from rfl)).append (Reps.nil (Kd.int .i64) _)))
 refine s_buildSlice h rfl U22 ti3 rfl rfl rfl (.cons rfl (.cons rfl .nil)) rfl rfl rfl hS hq_5 rfl fun w_1 v_2 M_3 hS' ho_4 a h => ?_
 replace hS : Sep w0 w_1 [_, M_3] Z := hS'
 clear hS' hq_5
 have hq_11 : Reps (Kd.int .i64) Mem.no ([5] : List Int) _ := ((Reps.one (d := (Kd.int .i64)) (x := 5) (show (Kd.int .i64).K _ _ [iV 5] from rfl)).append (Reps.nil (Kd.int .i64) _))
 refine s_buildSlice h rfl U22 ti3 rfl rfl rfl (.cons rfl .nil) rfl rfl rfl hS hq_11 rfl fun w_7 v_8 M_9 hS' ho_10 a h => ?_
 replace hS : Sep w0 w_7 [_, _, M_9] Z := hS'
 clear hS' hq_11
 refine s_build h rfl ti29 pl29 rfl (.cons rfl (.cons rfl (.cons rfl (.cons rfl (.cons rfl (.cons rfl (.cons ho_4.cells (.cons ho_10.cells .nil)))))))) (cs := [iV 7, iV 1, iV 2, iV 300, iV 0, iV 0, .bool false, iV 0, iV 0, iV 0, iV 0, nS, iV 4, iV 5, v_2, v_8, iV 0, iV 0, iV 0, iV 0, iV 0, nS, nS, nS]) (by kernel_rfl) fun a h=>v_alloc h rfl ti29 hS fun w_13 g_14 hS' a h => ?_
 replace hS : Sep w0 w_13 [_, _, _, Mem.one g_14 (.cells ([iV 0, iV 0, iV 0, iV 0, iV 0, iV 0, .bool false, iV 0, iV 0, iV 0, iV 0, nS, iV 0, iV 0, nS, nS, iV 0, iV 0, iV 0, iV 0, iV 0, nS, nS, nS] : List Value).toArray 29 (0, 0))] Z := hS'
 clear hS'
 obtain ⟨w_15, hs', hS'⟩ := hS.store (P := Try.prog) (p := 3) (o := 0) (t := 29) (v := .agg ([iV 7, iV 1, iV 2, iV 300, iV 0, iV 0, .bool false, iV 0, iV 0, iV 0, iV 0, nS, iV 4, iV 5, v_2, v_8, iV 0, iV 0, iV 0, iV 0, iV 0, nS, nS, nS] : List Value).toArray) (vs := [iV 7, iV 1, iV 2, iV 300, iV 0, iV 0, .bool false, iV 0, iV 0, iV 0, iV 0, nS, iV 4, iV 5, v_2, v_8, iV 0, iV 0, iV 0, iV 0, iV 0, nS, nS, nS]) rfl ti29 rfl rfl rfl (by intro u hu; simp only [List.mem_cons, List.not_mem_nil, or_false] at hu; rcases hu with rfl | rfl | rfl | rfl | rfl | rfl | rfl | rfl | rfl | rfl | rfl | rfl | rfl | rfl | rfl | rfl | rfl | rfl | rfl | rfl | rfl | rfl | rfl | rfl <;> first | rfl | exact ho_4.one | exact ho_10.one)
 refine s_store h rfl rfl hs' ?_
 replace hS : Sep w0 w_15 [_, _, _, Mem.one g_14 (.cells ([iV 7, iV 1, iV 2, iV 300, _, _, _, _, _, _, _, _, iV 4, iV 5, v_2, v_8, _, _, _, _, _, _, _, _] : List Value).toArray 29 (0, 0))] Z := hS'
 clear hs' hS'
 refine wpList_nil <| x_then_n <| wp_seq <| wp_region_lit <| s_load h rfl rfl (hS.load_agg (p := 3) (us := [iV 7, iV 1, iV 2, iV 300, iV 0, iV 0, .bool false, iV 0, iV 0, iV 0, iV 0, nS, iV 4, iV 5, v_2, v_8, iV 0, iV 0, iV 0, iV 0, iV 0, nS, nS, nS]) rfl U29 rfl ti29 rfl rfl) fun a h=>?_
 obtain ⟨t_16, et_16, H⟩ := Option.bind_eq_some_iff.1 H
 refine s_call h rfl Try.call11 rfl (mesg_Encode.calls K (⟨7, 1, 2, 300, 0, 0, false, 0, 0, 0, 0, ([] : List UInt8), 4, 5, ([5, 4] : List Int), ([5] : List Int), 0, (⟨0, 0, (⟨0, 0, ([] : List UInt8), ([] : List UInt8), ([] : List UInt8)⟩ : api_Cmd)⟩ : api_Entry)⟩ : api_Msg) _ _ _ _ _ _ t_16 w0 _ _ _ (Mem.le.refl _) (hS.enter [] (by decide)) (Rd.nil _ _) (ho_4.rd (hS.own_zed [] 0 (by decide)) (Mem.no_le _)) (ho_10.rd (hS.own_zed [] 1 (by decide)) (Mem.no_le _)) (Rd.nil _ _) (Rd.nil _ _) (Rd.nil _ _) et_16) ?_
 rintro v_20 w_17 ⟨_, N_18, M_22, rfl, hS', hr_21⟩
 intro a h
 obtain ⟨N_19, hS'', le_19, ln_19⟩ := hS.call [] (by decide) rfl (l' := []) (ow := [M_22]) rfl hS'
 replace hS : Sep w0 w_17 [N_19, _, _, _, M_22] Z := hS''
 clear hS' hS''
 refine s_assign h rfl rfl fun a h=>wpList_nil <| x_then_n <| wp_seq <| wp_region_lit <| s_move h rfl rfl fun a h=>?_
 obtain ⟨t_24, et_24, H⟩ := Option.bind_eq_some_iff.1 H
 refine s_call h rfl Try.call12 rfl (mesg_Decode.calls K t_16 _ t_24 w0 _ _ _ (Mem.le.refl _) (hS.enter [] (by decide)) (hr_21.rd (hS.own_zed [] 3 (by decide)) (Mem.no_le _)) et_24) ?_
 rintro _ w_25 ⟨v_28, v_32, v_36, v_40, v_44, v_48, N_26, M_30, M_34, M_38, M_42, M_46, M_50, rfl, hS', hr_29, hr_33, hr_37, hr_41, hr_45, hr_49⟩
 intro a h
 obtain ⟨N_27, hS'', le_27, ln_27⟩ := hS.call [] (by decide) rfl (l' := []) (ow := [M_30, M_34, M_38, M_42, M_46, M_50]) rfl hS'
 replace hS : Sep w0 w_25 [N_27, _, _, _, _, M_30, M_34, M_38, M_42, M_46, M_50] Z := hS''
 clear hS' hS''
 refine s_move h rfl rfl fun a h=>s_extract h rfl rfl rfl fun a h=>s_extract h rfl rfl rfl fun a h=>v_alloc h rfl ti29 hS fun w_52 g_53 hS' a h => ?_
 replace hS : Sep w0 w_52 [_, _, _, _, _, _, _, _, _, _, _, Mem.one g_53 (.cells ([iV 0, iV 0, iV 0, iV 0, iV 0, iV 0, .bool false, iV 0, iV 0, iV 0, iV 0, nS, iV 0, iV 0, nS, nS, iV 0, iV 0, iV 0, iV 0, iV 0, nS, nS, nS] : List Value).toArray 29 (0, 0))] Z := hS'
 clear hS'
 obtain ⟨w_54, hs', hS'⟩ := hS.store (P := Try.prog) (p := 11) (o := 0) (t := 29) (v := .agg ([iV t_24.1.Kind, iV t_24.1.From, iV t_24.1.To, iV t_24.1.View, iV t_24.1.Inst, iV t_24.1.Len, .bool t_24.1.Has, iV t_24.1.Members, iV t_24.1.Source, iV t_24.1.At, iV t_24.1.Total, v_28, iV t_24.1.Hop, iV t_24.1.Seq, v_32, v_36, iV t_24.1.Index, iV t_24.1.Entry.Sess, iV t_24.1.Entry.Seq, iV t_24.1.Entry.Cmd.Kind, iV t_24.1.Entry.Cmd.Who, v_40, v_44, v_48] : List Value).toArray) (vs := [iV t_24.1.Kind, iV t_24.1.From, iV t_24.1.To, iV t_24.1.View, iV t_24.1.Inst, iV t_24.1.Len, .bool t_24.1.Has, iV t_24.1.Members, iV t_24.1.Source, iV t_24.1.At, iV t_24.1.Total, v_28, iV t_24.1.Hop, iV t_24.1.Seq, v_32, v_36, iV t_24.1.Index, iV t_24.1.Entry.Sess, iV t_24.1.Entry.Seq, iV t_24.1.Entry.Cmd.Kind, iV t_24.1.Entry.Cmd.Who, v_40, v_44, v_48]) rfl ti29 rfl rfl rfl (by intro u hu; simp only [List.mem_cons, List.not_mem_nil, or_false] at hu; rcases hu with rfl | rfl | rfl | rfl | rfl | rfl | rfl | rfl | rfl | rfl | rfl | rfl | rfl | rfl | rfl | rfl | rfl | rfl | rfl | rfl | rfl | rfl | rfl | rfl <;> first | rfl | exact hr_29.one | exact hr_33.one | exact hr_37.one | exact hr_41.one | exact hr_45.one | exact hr_49.one)
 refine s_store h rfl rfl hs' ?_
 replace hS : Sep w0 w_54 [_, _, _, _, _, _, _, _, _, _, _, Mem.one g_53 (.cells ([iV t_24.1.Kind, iV t_24.1.From, iV t_24.1.To, iV t_24.1.View, iV t_24.1.Inst, iV t_24.1.Len, .bool t_24.1.Has, iV t_24.1.Members, iV t_24.1.Source, iV t_24.1.At, iV t_24.1.Total, v_28, iV t_24.1.Hop, iV t_24.1.Seq, v_32, v_36, iV t_24.1.Index, iV t_24.1.Entry.Sess, iV t_24.1.Entry.Seq, iV t_24.1.Entry.Cmd.Kind, iV t_24.1.Entry.Cmd.Who, v_40, v_44, v_48] : List Value).toArray 29 (0, 0))] Z := hS'
 clear hs' hS'
 refine s_assign h rfl rfl fun a h=>wpList_nil ?_
 replace h : Fr 57 a [(0, .bool false), (1, .pointer (some ⟨g_14, 0, none⟩)), (2, v_20), (3, .pointer (some ⟨g_53, 0, none⟩)), (4, .bool t_24.2)] := h.keep [0, 1, 2, 3, 4]
 refine x_then_n <| wp_seq <| wp_region_lit <| s_move h rfl rfl fun a h=>?_
 have hq_59 : Reps Kd.u8 Mem.no ([(0 : UInt8)] : List UInt8) _ := ((Reps.one (d := Kd.u8) (x := (0 : UInt8)) (show Kd.u8.K _ _ [.int .u8 ((0 : UInt8).toNat : Int)] from rfl)).append (Reps.nil Kd.u8 _))
 refine s_buildSlice h rfl U23 ti5 rfl rfl rfl (.cons rfl .nil) rfl rfl rfl hS hq_59 rfl fun w_55 v_56 M_57 hS' ho_58 a h => ?_
 replace hS : Sep w0 w_55 [_, _, _, _, _, _, _, _, _, _, _, _, M_57] Z := hS'
 clear hS' hq_59
 obtain ⟨t_61, et_61, H⟩ := Option.bind_eq_some_iff.1 H
 refine s_appendK (J := Mem.no) (I' := Mem.no) (p := 4) 140737488355328 h rfl rfl rfl U23 ti5 rfl rfl rfl rfl hS rfl rfl hr_21 (Src.flat flat_u8 (ho_58.src (hS.own 12))) (Mem.le.refl _) (Mem.le.refl _) et_61 fun w_62 v_63 M_64 M_66 hS' ho_65 hk_67 a h => ?_
 replace hS : Sep w0 w_62 [_, _, _, _, M_64, _, _, _, _, _, _, _, _, M_66] Z := hS'
 clear hS'
 obtain ⟨N_69, hS', le_69, lo_69⟩ := hS.freeze 3 rfl
 replace hS : Sep w0 w_62 [N_69, _, _, _, Mem.no, _, _, _, _, _, _, _, _, _] Z := hS'
 clear hS'
 obtain ⟨N_70, hS', le_70, lo_70⟩ := hS.freeze 12 rfl
 replace hS : Sep w0 w_62 [N_70, _, _, _, _, _, _, _, _, _, _, _, _, Mem.no] Z := hS'
 clear hS'
 have hr_71 : Rd Kd.u8 N_70 v_20 t_16 := hk_67 _ (lo_69.trans le_70) lo_70 (Mem.no_le _)
 obtain ⟨t_72, et_72, H⟩ := Option.bind_eq_some_iff.1 H
 refine s_call h rfl Try.call12 rfl (mesg_Decode.calls K t_61 _ t_72 w0 _ _ _ (Mem.le.refl _) (hS.enter [] (by decide)) ((ho_65.rd lo_69 (Mem.no_le _)).mono (le_70.trans (hS.new_zed []))) et_72) ?_
 rintro _ w_73 ⟨v_76, v_80, v_84, v_88, v_92, v_96, N_74, M_78, M_82, M_86, M_90, M_94, M_98, rfl, hS', hr_77, hr_81, hr_85, hr_89, hr_93, hr_97⟩
 intro a h
 obtain ⟨N_75, hS'', le_75, ln_75⟩ := hS.call [] (by decide) rfl (l' := []) (ow := [M_78, M_82, M_86, M_90, M_94, M_98]) rfl hS'
 replace hS : Sep w0 w_73 [N_75, _, _, _, _, _, _, _, _, _, _, _, _, _, M_78, M_82, M_86, M_90, M_94, M_98] Z := hS''
 clear hS' hS''
 refine s_move h rfl rfl fun a h=>s_extract h rfl rfl rfl fun a h=>s_extract h rfl rfl rfl fun a h=>v_alloc h rfl ti29 hS fun w_100 g_101 hS' a h => ?_
 replace hS : Sep w0 w_100 [_, _, _, _, _, _, _, _, _, _, _, _, _, _, _, _, _, _, _, _, Mem.one g_101 (.cells ([iV 0, iV 0, iV 0, iV 0, iV 0, iV 0, .bool false, iV 0, iV 0, iV 0, iV 0, nS, iV 0, iV 0, nS, nS, iV 0, iV 0, iV 0, iV 0, iV 0, nS, nS, nS] : List Value).toArray 29 (0, 0))] Z := hS'
 clear hS'
 obtain ⟨w_102, hs', hS'⟩ := hS.store (P := Try.prog) (p := 20) (o := 0) (t := 29) (v := .agg ([iV t_72.1.Kind, iV t_72.1.From, iV t_72.1.To, iV t_72.1.View, iV t_72.1.Inst, iV t_72.1.Len, .bool t_72.1.Has, iV t_72.1.Members, iV t_72.1.Source, iV t_72.1.At, iV t_72.1.Total, v_76, iV t_72.1.Hop, iV t_72.1.Seq, v_80, v_84, iV t_72.1.Index, iV t_72.1.Entry.Sess, iV t_72.1.Entry.Seq, iV t_72.1.Entry.Cmd.Kind, iV t_72.1.Entry.Cmd.Who, v_88, v_92, v_96] : List Value).toArray) (vs := [iV t_72.1.Kind, iV t_72.1.From, iV t_72.1.To, iV t_72.1.View, iV t_72.1.Inst, iV t_72.1.Len, .bool t_72.1.Has, iV t_72.1.Members, iV t_72.1.Source, iV t_72.1.At, iV t_72.1.Total, v_76, iV t_72.1.Hop, iV t_72.1.Seq, v_80, v_84, iV t_72.1.Index, iV t_72.1.Entry.Sess, iV t_72.1.Entry.Seq, iV t_72.1.Entry.Cmd.Kind, iV t_72.1.Entry.Cmd.Who, v_88, v_92, v_96]) rfl ti29 rfl rfl rfl (by intro u hu; simp only [List.mem_cons, List.not_mem_nil, or_false] at hu; rcases hu with rfl | rfl | rfl | rfl | rfl | rfl | rfl | rfl | rfl | rfl | rfl | rfl | rfl | rfl | rfl | rfl | rfl | rfl | rfl | rfl | rfl | rfl | rfl | rfl <;> first | rfl | exact hr_77.one | exact hr_81.one | exact hr_85.one | exact hr_89.one | exact hr_93.one | exact hr_97.one)
 refine s_store h rfl rfl hs' ?_
 replace hS : Sep w0 w_102 [_, _, _, _, _, _, _, _, _, _, _, _, _, _, _, _, _, _, _, _, Mem.one g_101 (.cells ([iV t_72.1.Kind, iV t_72.1.From, iV t_72.1.To, iV t_72.1.View, iV t_72.1.Inst, iV t_72.1.Len, .bool t_72.1.Has, iV t_72.1.Members, iV t_72.1.Source, iV t_72.1.At, iV t_72.1.Total, v_76, iV t_72.1.Hop, iV t_72.1.Seq, v_80, v_84, iV t_72.1.Index, iV t_72.1.Entry.Sess, iV t_72.1.Entry.Seq, iV t_72.1.Entry.Cmd.Kind, iV t_72.1.Entry.Cmd.Who, v_88, v_92, v_96] : List Value).toArray 29 (0, 0))] Z := hS'
 clear hs' hS'
 refine s_assign h rfl rfl fun a h=>wpList_nil <| x_then_n <| c_seq fun KJ_103 hKJ_103 => wp_region_lit <| s_move h rfl rfl fun a h=>s_b2s h rfl U23 U5 U9 rfl hr_71 (le_75.trans (hS.own 0)) fun a h=>s_strEq (b := (t_16 == ([7, 1, 2, 172, 2, 4, 5, 2, 5, 4, 1, 5] : List UInt8))) h rfl rfl rfl (.inl ⟨rfl, rfl⟩) fun a h=>s_move h rfl rfl fun a h=>?_
 by_cases hc_104 : t_16 = ([7, 1, 2, 172, 2, 4, 5, 2, 5, 4, 1, 5] : List UInt8)
 ·rw [if_pos hc_104] at H
  refine s_on h rfl rfl (beq_iff_eq.2 hc_104) <| s_move h rfl rfl fun a h=>s_pick_t h rfl rfl (beq_iff_eq.2 hc_104) rfl fun a h=>s_move h rfl rfl fun a h=>?_
  by_cases hc_105 : t_24.2 = true
  ·rw [if_pos hc_105] at H
   refine s_on h rfl rfl hc_105 <| s_load h rfl rfl (hS.load_agg (p := 11) (us := [iV t_24.1.Kind, iV t_24.1.From, iV t_24.1.To, iV t_24.1.View, iV t_24.1.Inst, iV t_24.1.Len, .bool t_24.1.Has, iV t_24.1.Members, iV t_24.1.Source, iV t_24.1.At, iV t_24.1.Total, v_28, iV t_24.1.Hop, iV t_24.1.Seq, v_32, v_36, iV t_24.1.Index, iV t_24.1.Entry.Sess, iV t_24.1.Entry.Seq, iV t_24.1.Entry.Cmd.Kind, iV t_24.1.Entry.Cmd.Who, v_40, v_44, v_48]) rfl U29 rfl ti29 rfl rfl) fun a h=>s_on h rfl rfl hc_105 <| s_load h rfl rfl (hS.load_agg (p := 3) (us := [iV 7, iV 1, iV 2, iV 300, iV 0, iV 0, .bool false, iV 0, iV 0, iV 0, iV 0, nS, iV 4, iV 5, v_2, v_8, iV 0, iV 0, iV 0, iV 0, iV 0, nS, nS, nS]) rfl U29 rfl ti29 rfl rfl) fun a h=>s_on h rfl rfl hc_105 ?_
   obtain ⟨t_106, et_106, H⟩ := Option.bind_eq_some_iff.1 H
   refine s_call h rfl Try.call17 rfl (mesg_Same.calls K t_24.1 _ _ _ _ _ _ (⟨7, 1, 2, 300, 0, 0, false, 0, 0, 0, 0, ([] : List UInt8), 4, 5, ([5, 4] : List Int), ([5] : List Int), 0, (⟨0, 0, (⟨0, 0, ([] : List UInt8), ([] : List UInt8), ([] : List UInt8)⟩ : api_Cmd)⟩ : api_Entry)⟩ : api_Msg) _ _ _ _ _ _ t_106 w0 _ _ _ (Mem.le.refl _) (hS.enter [] (by decide)) (hr_29.rd (hS.own_zed [] 4 (by decide)) (Mem.no_le _)) (hr_33.rd (hS.own_zed [] 5 (by decide)) (Mem.no_le _)) (hr_37.rd (hS.own_zed [] 6 (by decide)) (Mem.no_le _)) (hr_41.rd (hS.own_zed [] 7 (by decide)) (Mem.no_le _)) (hr_45.rd (hS.own_zed [] 8 (by decide)) (Mem.no_le _)) (hr_49.rd (hS.own_zed [] 9 (by decide)) (Mem.no_le _)) (Rd.nil _ _) (ho_4.rd (hS.own_zed [] 0 (by decide)) (Mem.no_le _)) (ho_10.rd (hS.own_zed [] 1 (by decide)) (Mem.no_le _)) (Rd.nil _ _) (Rd.nil _ _) (Rd.nil _ _) et_106) ?_
   rintro _ w_107 ⟨N_108, rfl, hS'⟩
   intro a h
   obtain ⟨N_109, hS'', le_109, ln_109⟩ := hS.call [] (by decide) rfl (l' := []) (ow := []) rfl hS'
   replace hS : Sep w0 w_107 [N_109, _, _, _, _, _, _, _, _, _, _, _, _, _, _, _, _, _, _, _, _] Z := hS''
   clear hS' hS''
   refine s_pick_t h rfl rfl hc_105 rfl fun a h=>s_move h rfl rfl fun a h=>?_
   by_cases hc_110 : t_106 = true
   ·rw [if_pos hc_110] at H
    refine s_on h rfl rfl hc_110 <| s_move h rfl rfl fun a h=>s_on h rfl rfl hc_110 <| s_not h rfl rfl fun a h=>s_pick_t h rfl rfl hc_110 rfl fun a h=>s_move h rfl rfl fun a h=>?_
    by_cases hc_111 : t_72.2 = true
    ·rw [if_pos hc_111] at H
     cases H
    ·rw [if_neg hc_111] at H
     refine s_on h rfl rfl (nt (Bool.eq_false_iff.2 hc_111)) <| s_build h rfl ti29 pl29 rfl .nil (cs := [iV 0, iV 0, iV 0, iV 0, iV 0, iV 0, .bool false, iV 0, iV 0, iV 0, iV 0, nS, iV 0, iV 0, nS, nS, iV 0, iV 0, iV 0, iV 0, iV 0, nS, nS, nS]) (by kernel_rfl) fun a h=>s_on h rfl rfl (nt (Bool.eq_false_iff.2 hc_111)) ?_
     obtain ⟨t_112, et_112, H⟩ := Option.bind_eq_some_iff.1 H
     refine s_call h rfl Try.call11 rfl (mesg_Encode.calls K (⟨0, 0, 0, 0, 0, 0, false, 0, 0, 0, 0, ([] : List UInt8), 0, 0, ([] : List Int), ([] : List Int), 0, (⟨0, 0, (⟨0, 0, ([] : List UInt8), ([] : List UInt8), ([] : List UInt8)⟩ : api_Cmd)⟩ : api_Entry)⟩ : api_Msg) _ _ _ _ _ _ t_112 w0 _ _ _ (Mem.le.refl _) (hS.enter [] (by decide)) (Rd.nil _ _) (Rd.nil _ _) (Rd.nil _ _) (Rd.nil _ _) (Rd.nil _ _) (Rd.nil _ _) et_112) ?_
     rintro v_116 w_113 ⟨_, N_114, M_118, rfl, hS', hr_117⟩
     intro a h
     obtain ⟨N_115, hS'', le_115, ln_115⟩ := hS.call [] (by decide) rfl (l' := []) (ow := [M_118]) rfl hS'
     replace hS : Sep w0 w_113 [N_115, _, _, _, _, _, _, _, _, _, _, _, _, _, _, _, _, _, _, _, _, M_118] Z := hS''
     clear hS' hS''
     refine s_on h rfl rfl (nt (Bool.eq_false_iff.2 hc_111)) <| s_lenO h rfl U23 rfl hr_117 fun a h=>s_on h rfl rfl (nt (Bool.eq_false_iff.2 hc_111)) <| s_cmp (b := ((t_112.length : Int) == 0)) h rfl rfl rfl (.inl ⟨rfl, rfl⟩) fun a h=>s_pick_t h rfl rfl (nt (Bool.eq_false_iff.2 hc_111)) rfl fun a h=>s_move h rfl rfl fun a h=>?_
     by_cases hc_120 : (t_112.length : Int) = 0
     ·rw [if_pos hc_120] at H
      refine s_on h rfl rfl (beq_iff_eq.2 hc_120) <| s_build h rfl ti29 pl29 rfl (.cons rfl (.cons rfl .nil)) (cs := [iV 1, iV 7, iV 0, iV 0, iV 0, iV 0, .bool false, iV 0, iV 0, iV 0, iV 0, nS, iV 0, iV 0, nS, nS, iV 0, iV 0, iV 0, iV 0, iV 0, nS, nS, nS]) (by kernel_rfl) fun a h=>s_on h rfl rfl (beq_iff_eq.2 hc_120) ?_
      obtain ⟨t_121, et_121, H⟩ := Option.bind_eq_some_iff.1 H
      refine s_call h rfl Try.call11 rfl (mesg_Encode.calls K (⟨1, 7, 0, 0, 0, 0, false, 0, 0, 0, 0, ([] : List UInt8), 0, 0, ([] : List Int), ([] : List Int), 0, (⟨0, 0, (⟨0, 0, ([] : List UInt8), ([] : List UInt8), ([] : List UInt8)⟩ : api_Cmd)⟩ : api_Entry)⟩ : api_Msg) _ _ _ _ _ _ t_121 w0 _ _ _ (Mem.le.refl _) (hS.enter [] (by decide)) (Rd.nil _ _) (Rd.nil _ _) (Rd.nil _ _) (Rd.nil _ _) (Rd.nil _ _) (Rd.nil _ _) et_121) ?_
      rintro v_125 w_122 ⟨_, N_123, M_127, rfl, hS', hr_126⟩
      intro a h
      obtain ⟨N_124, hS'', le_124, ln_124⟩ := hS.call [] (by decide) rfl (l' := []) (ow := [M_127]) rfl hS'
      replace hS : Sep w0 w_122 [N_124, _, _, _, _, _, _, _, _, _, _, _, _, _, _, _, _, _, _, _, _, _, M_127] Z := hS''
      clear hS' hS''
      refine s_on h rfl rfl (beq_iff_eq.2 hc_120) <| s_lenO h rfl U23 rfl hr_126 fun a h=>s_on h rfl rfl (beq_iff_eq.2 hc_120) <| s_cmp (b := ((t_121.length : Int) == 0)) h rfl rfl rfl (.inl ⟨rfl, rfl⟩) fun a h=>s_pick_t h rfl rfl (beq_iff_eq.2 hc_120) rfl fun a h=>s_move h rfl rfl fun a h=>?_
      by_cases hc_129 : (t_121.length : Int) = 0
      ·rw [if_pos hc_129] at H
       refine s_on h rfl rfl (beq_iff_eq.2 hc_129) <| s_load h rfl rfl (hS.load_agg (p := 3) (us := [iV 7, iV 1, iV 2, iV 300, iV 0, iV 0, .bool false, iV 0, iV 0, iV 0, iV 0, nS, iV 4, iV 5, v_2, v_8, iV 0, iV 0, iV 0, iV 0, iV 0, nS, nS, nS]) rfl U29 rfl ti29 rfl rfl) fun a h=>s_on h rfl rfl (beq_iff_eq.2 hc_129) <| s_build h rfl ti29 pl29 rfl .nil (cs := [iV 0, iV 0, iV 0, iV 0, iV 0, iV 0, .bool false, iV 0, iV 0, iV 0, iV 0, nS, iV 0, iV 0, nS, nS, iV 0, iV 0, iV 0, iV 0, iV 0, nS, nS, nS]) (by kernel_rfl) fun a h=>s_on h rfl rfl (beq_iff_eq.2 hc_129) ?_
       obtain ⟨t_130, et_130, H⟩ := Option.bind_eq_some_iff.1 H
       refine s_call h rfl Try.call17 rfl (mesg_Same.calls K (⟨7, 1, 2, 300, 0, 0, false, 0, 0, 0, 0, ([] : List UInt8), 4, 5, ([5, 4] : List Int), ([5] : List Int), 0, (⟨0, 0, (⟨0, 0, ([] : List UInt8), ([] : List UInt8), ([] : List UInt8)⟩ : api_Cmd)⟩ : api_Entry)⟩ : api_Msg) _ _ _ _ _ _ (⟨0, 0, 0, 0, 0, 0, false, 0, 0, 0, 0, ([] : List UInt8), 0, 0, ([] : List Int), ([] : List Int), 0, (⟨0, 0, (⟨0, 0, ([] : List UInt8), ([] : List UInt8), ([] : List UInt8)⟩ : api_Cmd)⟩ : api_Entry)⟩ : api_Msg) _ _ _ _ _ _ t_130 w0 _ _ _ (Mem.le.refl _) (hS.enter [] (by decide)) (Rd.nil _ _) (ho_4.rd (hS.own_zed [] 0 (by decide)) (Mem.no_le _)) (ho_10.rd (hS.own_zed [] 1 (by decide)) (Mem.no_le _)) (Rd.nil _ _) (Rd.nil _ _) (Rd.nil _ _) (Rd.nil _ _) (Rd.nil _ _) (Rd.nil _ _) (Rd.nil _ _) (Rd.nil _ _) (Rd.nil _ _) et_130) ?_
       rintro _ w_131 ⟨N_132, rfl, hS'⟩
       intro a h
       obtain ⟨N_133, hS'', le_133, ln_133⟩ := hS.call [] (by decide) rfl (l' := []) (ow := []) rfl hS'
       replace hS : Sep w0 w_131 [N_133, _, _, _, _, _, _, _, _, _, _, _, _, _, _, _, _, _, _, _, _, _, _] Z := hS''
       clear hS' hS''
       refine s_on h rfl rfl (beq_iff_eq.2 hc_129) <| s_not h rfl rfl fun a h=>s_pick_t h rfl rfl (beq_iff_eq.2 hc_129) rfl fun a h=>s_assign h rfl rfl fun a h=>wpList_nil <| x_then_n (hKJ_103 _ _ ?_)
       refine wp_ret ?_
       by_cases hc_134 : t_130 = true
       ·rw [if_pos hc_134] at H
        cases H
       ·rw [if_neg hc_134] at H
        exact f_ret h (rs := [.tmp 0]) rfl (.tmp rfl .nil) ⟨_, rfl, N_133, (by rw [(nt (Bool.eq_false_iff.2 hc_134))]; rfl), (Sep.sel hS [0] (by decide))⟩
      ·rw [if_neg hc_129] at H
       cases H
     ·rw [if_neg hc_120] at H
      cases H
   ·rw [if_neg hc_110] at H
    cases H
  ·rw [if_neg hc_105] at H
   cases H
 ·rw [if_neg hc_104] at H
  cases H


end Go.Proofs
