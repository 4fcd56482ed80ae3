/- What the calls do: each function once. -/
import Derived.Test.YtmcaielgjfpekaaNetsPlaysc1
namespace Go.Proofs
open Go.Gp
set_option linter.unusedVariables false
set_option maxHeartbeats 4000000 in
set_option maxRecDepth 20000 in
theorem hocketlaw11_Msg.calls (K : Nat) (x0 : Int) (x1 : Int) (r : api_Msg) (w0 w : World) (Z A : Mem) (hA : A.le Z) (hS : Sep w0 w [] Z)
    (H : hocketlaw11_Msg.f K x0 x1 = some r) :
    Calls Try.prog 14 [iV x0, iV x1].toArray w (Ret fun v w' => ∃ (u0 : Value) (u1 : Value) (u2 : Value) (u3 : Value) (u4 : Value) (u5 : Value) (N : Mem) (M0 : Mem) (M1 : Mem) (M2 : Mem), v = .agg [iV r.Kind, iV r.From, iV r.To, iV r.View, iV r.Inst, iV r.Len, .bool r.Has, iV r.Members, iV r.Source, iV r.At, iV r.Total, u0, iV r.Hop, iV r.Seq, u1, u2, iV r.Index, iV r.Entry.Sess, iV r.Entry.Seq, iV r.Entry.Cmd.Kind, iV r.Entry.Cmd.Who, u3, u4, u5].toArray ∧ Sep w0 w' [N, M0, M1, M2] Z ∧ Own Kd.u8 5 M0 Mem.no u0 r.Data ∧ Own (Kd.int .i64) 3 M1 Mem.no u1 r.Have ∧ Own (Kd.int .i64) 3 M2 Mem.no u2 r.Need ∧ Rd Kd.u8 N u3 r.Entry.Cmd.Key ∧ Rd Kd.u8 N u4 r.Entry.Cmd.Val ∧ Rd Kd.u8 N u5 r.Entry.Cmd.Old) := by
 unfold hocketlaw11_Msg.f at H
 refine f_enter _ Try.func14 rfl Try.ntmps14 rfl fun a h=>?_
 replace h : Fr 150 a [(0, iV x0), (1, iV x1)] := h
 replace hS := hS.start
 refine qr <| v_alloc h rfl ti32 hS fun w_1 g_1 hS' a h => ?_
 replace hS : Sep w0 w_1 [_, bx g_1 32 Q0] Z := hS'
 refine nx <| qr <| mv h rfl fun a h=>s_bits (i := x0) (j := 7) (r := band .i64 x0 7) h rfl rfl rfl (.inl ⟨rfl, rfl⟩) fun a h=>s_arith (r := w64 ((band .i64 x0 7) + 1)) h rfl rfl rfl (.inl ⟨rfl, rfl⟩) fun a h=>mv h rfl fun a h=>s_shift (r := shr .i64 x0 3) h rfl rfl rfl (by decide) (.inr ⟨rfl, rfl⟩) fun a h=>s_bits (i := shr .i64 x0 3) (j := 7) (r := band .i64 (shr .i64 x0 3) 7) h rfl rfl rfl (.inl ⟨rfl, rfl⟩) fun a h=>s_div (r := Int.tmod (band .i64 (shr .i64 x0 3) 7) 7) h rfl rfl rfl (by decide) (.inr ⟨rfl, rfl⟩) fun a h=>mv h rfl fun a h=>?_
 refine s_shift (r := shr .i64 x0 6) h rfl rfl rfl (by decide) (.inr ⟨rfl, rfl⟩) fun a h=>s_bits (i := shr .i64 x0 6) (j := 7) (r := band .i64 (shr .i64 x0 6) 7) h rfl rfl rfl (.inl ⟨rfl, rfl⟩) fun a h=>s_div (r := Int.tmod (band .i64 (shr .i64 x0 6) 7) 7) h rfl rfl rfl (by decide) (.inr ⟨rfl, rfl⟩) fun a h=>mv h rfl fun a h=>s_shift (r := shr .i64 x0 9) h rfl rfl rfl (by decide) (.inr ⟨rfl, rfl⟩) fun a h=>s_bits (i := shr .i64 x0 9) (j := 1023) (r := band .i64 (shr .i64 x0 9) 1023) h rfl rfl rfl (.inl ⟨rfl, rfl⟩) fun a h=>s_build h rfl ti32 pl32 rfl (.cons rfl (.cons rfl (.cons rfl (.cons rfl .nil)))) (cs := [iV (w64 ((band .i64 x0 7) + 1)), iV (Int.tmod (band .i64 (shr .i64 x0 3) 7) 7), iV (Int.tmod (band .i64 (shr .i64 x0 6) 7) 7), iV (band .i64 (shr .i64 x0 9) 1023), iV 0, iV 0, .bool false, iV 0, iV 0, iV 0, iV 0, nS, iV 0, iV 0, nS, nS, iV 0, iV 0, iV 0, iV 0, iV 0, nS, nS, nS]) (by kernel_rfl) fun a h=>v_alloc h rfl ti32 hS fun w_2 g_2 hS' a h => ?_
 replace hS : Sep w0 w_2 [_, _, bx g_2 32 Q0] Z := hS'
 refine sto 2 h rfl rfl hS rfl ti32 rfl rfl rfl (oz rfl) fun w_3 hS' => ?_
 replace hS : Sep w0 w_3 [_, _, bx g_2 32 [iV (w64 ((band .i64 x0 7) + 1)), iV (Int.tmod (band .i64 (shr .i64 x0 3) 7) 7), iV (Int.tmod (band .i64 (shr .i64 x0 6) 7) 7), iV (band .i64 (shr .i64 x0 9) 1023), _, _, _, _, _, _, _, _, _, _, _, _, _, _, _, _, _, _, _, _]] Z := hS'
 refine nx <| c_seq fun KJ_1 hKJ_1 => qr <| s_fieldAddr h rfl U32 rfl ti3 rfl rfl fun a h=>s_load h rfl rfl (hS.load_one (p := 2) rfl U3 rfl rfl) fun a h=>nx <| c_block <| qr <| s_cmp (b := ((w64 ((band .i64 x0 7) + 1)) == 2)) h rfl rfl rfl (.inl ⟨rfl, rfl⟩) fun a h=>?_
 refine sg h rfl fun a h=>wpList_nil ?_
 replace h : Fr 150 a [(0, _), (1, _), (4, .pointer (some ⟨g_1, 0, none⟩)), (5, .pointer (some ⟨g_2, 0, none⟩)), (25, iV (w64 ((band .i64 x0 7) + 1))), (26, .bool ((w64 ((band .i64 x0 7) + 1)) == 2))] := h.keep [0, 1, 4, 5, 25, 26]
 refine x_then_n ?_
 obtain ⟨hc_1, H⟩ | ⟨hc_1, H⟩ := ii H
 ·refine c_cond_t h rfl (bt hc_1) <| wp_region_lit <| mv h rfl fun a h=>s_bits (i := x1) (j := 255) (r := band .i64 x1 255) h rfl rfl rfl (.inl ⟨rfl, rfl⟩) fun a h=>mv h rfl fun a h=>s_shift (r := shr .i64 x1 8) h rfl rfl rfl (by decide) (.inr ⟨rfl, rfl⟩) fun a h=>s_bits (i := shr .i64 x1 8) (j := 63) (r := band .i64 (shr .i64 x1 8) 63) h rfl rfl rfl (.inl ⟨rfl, rfl⟩) fun a h=>mv h rfl fun a h=>s_shift (r := shr .i64 x1 14) h rfl rfl rfl (by decide) (.inr ⟨rfl, rfl⟩) fun a h=>s_bits (i := shr .i64 x1 14) (j := 1) (r := band .i64 (shr .i64 x1 14) 1) h rfl rfl rfl (.inl ⟨rfl, rfl⟩) fun a h=>s_cmp (b := ((band .i64 (shr .i64 x1 14) 1) == 1)) h rfl rfl rfl (.inl ⟨rfl, rfl⟩) fun a h=>s_fieldAddr h rfl U32 rfl ti3 rfl rfl fun a h=>?_
  refine sto 2 h rfl rfl hS rfl ti3 rfl rfl rfl (oz rfl) fun w_4 hS' => ?_
  replace hS : Sep w0 w_4 [_, _, bx g_2 32 [_, _, _, _, iV (band .i64 x1 255), _, _, _, _, _, _, _, _, _, _, _, _, _, _, _, _, _, _, _]] Z := hS'
  refine s_fieldAddr h rfl U32 rfl ti3 rfl rfl fun a h=>?_
  refine sto 2 h rfl rfl hS rfl ti3 rfl rfl rfl (oz rfl) fun w_5 hS' => ?_
  replace hS : Sep w0 w_5 [_, _, bx g_2 32 [_, _, _, _, _, iV (band .i64 (shr .i64 x1 8) 63), _, _, _, _, _, _, _, _, _, _, _, _, _, _, _, _, _, _]] Z := hS'
  refine s_fieldAddr h rfl U32 rfl ti4 rfl rfl fun a h=>?_
  refine sto 2 h rfl rfl hS rfl ti4 rfl rfl rfl (oz rfl) fun w_6 hS' => ?_
  replace hS : Sep w0 w_6 [_, _, bx g_2 32 [_, _, _, _, _, _, .bool ((band .i64 (shr .i64 x1 14) 1) == 1), _, _, _, _, _, _, _, _, _, _, _, _, _, _, _, _, _]] Z := hS'
  refine wpList_nil <| x_block_n <| x_then_n (hKJ_1 _ _ ?_)
  refine qr <| s_load h rfl rfl (hS.load_agg (p := 2) (us := [iV (w64 ((band .i64 x0 7) + 1)), iV (Int.tmod (band .i64 (shr .i64 x0 3) 7) 7), iV (Int.tmod (band .i64 (shr .i64 x0 6) 7) 7), iV (band .i64 (shr .i64 x0 9) 1023), iV (band .i64 x1 255), iV (band .i64 (shr .i64 x1 8) 63), .bool ((band .i64 (shr .i64 x1 14) 1) == 1), iV 0, iV 0, iV 0, iV 0, nS, iV 0, iV 0, nS, nS, iV 0, iV 0, iV 0, iV 0, iV 0, nS, nS, nS]) rfl U32 rfl ti32 rfl rfl) fun a h=>?_
  refine sto 1 h rfl rfl hS rfl ti32 rfl rfl rfl (oz rfl) fun w_7 hS' => ?_
  replace hS : Sep w0 w_7 [_, bx g_1 32 [iV (w64 ((band .i64 x0 7) + 1)), iV (Int.tmod (band .i64 (shr .i64 x0 3) 7) 7), iV (Int.tmod (band .i64 (shr .i64 x0 6) 7) 7), iV (band .i64 (shr .i64 x0 9) 1023), iV (band .i64 x1 255), iV (band .i64 (shr .i64 x1 8) 63), .bool ((band .i64 (shr .i64 x1 14) 1) == 1), _, _, _, _, _, _, _, _, _, _, _, _, _, _, _, _, _], _] Z := hS'
  refine nx <| wp_ret ?_
  have hS' := hS.room
  replace hS : Sep w0 w_7 [_, _, _, Mem.no] Z := hS'
  have hS' := hS.room
  replace hS : Sep w0 w_7 [_, _, _, _, Mem.no] Z := hS'
  have hS' := hS.room
  replace hS : Sep w0 w_7 [_, _, _, _, _, Mem.no] Z := hS'
  obtain rfl := Option.some.inj H
  exact f_ret h (rs := [.cell 4 32]) rfl (.cell rfl (hS.load_agg (p := 1) (us := [iV (w64 ((band .i64 x0 7) + 1)), iV (Int.tmod (band .i64 (shr .i64 x0 3) 7) 7), iV (Int.tmod (band .i64 (shr .i64 x0 6) 7) 7), iV (band .i64 (shr .i64 x0 9) 1023), iV (band .i64 x1 255), iV (band .i64 (shr .i64 x1 8) 63), .bool ((band .i64 (shr .i64 x1 14) 1) == 1), iV 0, iV 0, iV 0, iV 0, nS, iV 0, iV 0, nS, nS, iV 0, iV 0, iV 0, iV 0, iV 0, nS, nS, nS]) rfl U32 rfl ti32 rfl rfl) .nil) ⟨_, rfl, nS, nS, nS, nS, nS, nS, Mem.no, Mem.no, Mem.no, Mem.no, rfl, (hS.sel [0, 3, 4, 5] (by decide)), (Own.nil Kd.u8 5 Mem.no), (Own.nil (Kd.int .i64) 3 Mem.no), (Own.nil (Kd.int .i64) 3 Mem.no), (Rd.nil _ _), (Rd.nil _ _), (Rd.nil _ _)⟩
 ·refine c_cond_f h rfl (bf hc_1) <| qr <| s_cmp (b := ((w64 ((band .i64 x0 7) + 1)) == 3)) h rfl rfl rfl (.inl ⟨rfl, rfl⟩) fun a h=>sg h rfl fun a h=>wpList_nil <| x_then_n ?_
  obtain ⟨hc_2, H⟩ | ⟨hc_2, H⟩ := ii H
  ·refine c_cond_t h rfl (bt hc_2) <| wp_region_lit <| mv h rfl fun a h=>s_bits (i := x1) (j := 127) (r := band .i64 x1 127) h rfl rfl rfl (.inl ⟨rfl, rfl⟩) fun a h=>mv h rfl fun a h=>s_shift (r := shr .i64 x1 7) h rfl rfl rfl (by decide) (.inr ⟨rfl, rfl⟩) fun a h=>s_bits (i := shr .i64 x1 7) (j := 7) (r := band .i64 (shr .i64 x1 7) 7) h rfl rfl rfl (.inl ⟨rfl, rfl⟩) fun a h=>s_div (r := Int.tmod (band .i64 (shr .i64 x1 7) 7) 7) h rfl rfl rfl (by decide) (.inr ⟨rfl, rfl⟩) fun a h=>mv h rfl fun a h=>s_shift (r := shr .i64 x1 10) h rfl rfl rfl (by decide) (.inr ⟨rfl, rfl⟩) fun a h=>s_bits (i := shr .i64 x1 10) (j := 63) (r := band .i64 (shr .i64 x1 10) 63) h rfl rfl rfl (.inl ⟨rfl, rfl⟩) fun a h=>s_fieldAddr h rfl U32 rfl ti3 rfl rfl fun a h=>?_
   refine sto 2 h rfl rfl hS rfl ti3 rfl rfl rfl (oz rfl) fun w_8 hS' => ?_
   replace hS : Sep w0 w_8 [_, _, bx g_2 32 [_, _, _, _, _, _, _, iV (band .i64 x1 127), _, _, _, _, _, _, _, _, _, _, _, _, _, _, _, _]] Z := hS'
   refine s_fieldAddr h rfl U32 rfl ti3 rfl rfl fun a h=>?_
   refine sto 2 h rfl rfl hS rfl ti3 rfl rfl rfl (oz rfl) fun w_9 hS' => ?_
   replace hS : Sep w0 w_9 [_, _, bx g_2 32 [_, _, _, _, _, _, _, _, iV (Int.tmod (band .i64 (shr .i64 x1 7) 7) 7), _, _, _, _, _, _, _, _, _, _, _, _, _, _, _]] Z := hS'
   refine s_fieldAddr h rfl U32 rfl ti3 rfl rfl fun a h=>?_
   refine sto 2 h rfl rfl hS rfl ti3 rfl rfl rfl (oz rfl) fun w_10 hS' => ?_
   replace hS : Sep w0 w_10 [_, _, bx g_2 32 [_, _, _, _, _, iV (band .i64 (shr .i64 x1 10) 63), _, _, _, _, _, _, _, _, _, _, _, _, _, _, _, _, _, _]] Z := hS'
   refine wpList_nil <| x_block_n <| x_then_n (hKJ_1 _ _ ?_)
   refine qr <| s_load h rfl rfl (hS.load_agg (p := 2) (us := [iV (w64 ((band .i64 x0 7) + 1)), iV (Int.tmod (band .i64 (shr .i64 x0 3) 7) 7), iV (Int.tmod (band .i64 (shr .i64 x0 6) 7) 7), iV (band .i64 (shr .i64 x0 9) 1023), iV 0, iV (band .i64 (shr .i64 x1 10) 63), .bool false, iV (band .i64 x1 127), iV (Int.tmod (band .i64 (shr .i64 x1 7) 7) 7), iV 0, iV 0, nS, iV 0, iV 0, nS, nS, iV 0, iV 0, iV 0, iV 0, iV 0, nS, nS, nS]) rfl U32 rfl ti32 rfl rfl) fun a h=>?_
   refine sto 1 h rfl rfl hS rfl ti32 rfl rfl rfl (oz rfl) fun w_11 hS' => ?_
   replace hS : Sep w0 w_11 [_, bx g_1 32 [iV (w64 ((band .i64 x0 7) + 1)), iV (Int.tmod (band .i64 (shr .i64 x0 3) 7) 7), iV (Int.tmod (band .i64 (shr .i64 x0 6) 7) 7), iV (band .i64 (shr .i64 x0 9) 1023), _, iV (band .i64 (shr .i64 x1 10) 63), _, iV (band .i64 x1 127), iV (Int.tmod (band .i64 (shr .i64 x1 7) 7) 7), _, _, _, _, _, _, _, _, _, _, _, _, _, _, _], _] Z := hS'
   refine nx <| wp_ret ?_
   have hS' := hS.room
   replace hS : Sep w0 w_11 [_, _, _, Mem.no] Z := hS'
   have hS' := hS.room
   replace hS : Sep w0 w_11 [_, _, _, _, Mem.no] Z := hS'
   have hS' := hS.room
   replace hS : Sep w0 w_11 [_, _, _, _, _, Mem.no] Z := hS'
   obtain rfl := Option.some.inj H
   exact f_ret h (rs := [.cell 4 32]) rfl (.cell rfl (hS.load_agg (p := 1) (us := [iV (w64 ((band .i64 x0 7) + 1)), iV (Int.tmod (band .i64 (shr .i64 x0 3) 7) 7), iV (Int.tmod (band .i64 (shr .i64 x0 6) 7) 7), iV (band .i64 (shr .i64 x0 9) 1023), iV 0, iV (band .i64 (shr .i64 x1 10) 63), .bool false, iV (band .i64 x1 127), iV (Int.tmod (band .i64 (shr .i64 x1 7) 7) 7), iV 0, iV 0, nS, iV 0, iV 0, nS, nS, iV 0, iV 0, iV 0, iV 0, iV 0, nS, nS, nS]) rfl U32 rfl ti32 rfl rfl) .nil) ⟨_, rfl, nS, nS, nS, nS, nS, nS, Mem.no, Mem.no, Mem.no, Mem.no, rfl, (hS.sel [0, 3, 4, 5] (by decide)), (Own.nil Kd.u8 5 Mem.no), (Own.nil (Kd.int .i64) 3 Mem.no), (Own.nil (Kd.int .i64) 3 Mem.no), (Rd.nil _ _), (Rd.nil _ _), (Rd.nil _ _)⟩
  ·refine c_cond_f h rfl (bf hc_2) <| qr <| s_cmp (b := ((w64 ((band .i64 x0 7) + 1)) == 4)) h rfl rfl rfl (.inl ⟨rfl, rfl⟩) fun a h=>sg h rfl fun a h=>wpList_nil <| x_then_n ?_
   obtain ⟨hc_3, H⟩ | ⟨hc_3, H⟩ := ii H
   ·refine c_cond_t h rfl (bt hc_3) <| wp_region_lit <| mv h rfl fun a h=>s_bits (i := x1) (j := 4095) (r := band .i64 x1 4095) h rfl rfl rfl (.inl ⟨rfl, rfl⟩) fun a h=>s_fieldAddr h rfl U32 rfl ti3 rfl rfl fun a h=>?_
    refine sto 2 h rfl rfl hS rfl ti3 rfl rfl rfl (oz rfl) fun w_12 hS' => ?_
    replace hS : Sep w0 w_12 [_, _, bx g_2 32 [_, _, _, _, _, _, _, _, _, iV (band .i64 x1 4095), _, _, _, _, _, _, _, _, _, _, _, _, _, _]] Z := hS'
    refine wpList_nil <| x_block_n <| x_then_n (hKJ_1 _ _ ?_)
    refine qr <| s_load h rfl rfl (hS.load_agg (p := 2) (us := [iV (w64 ((band .i64 x0 7) + 1)), iV (Int.tmod (band .i64 (shr .i64 x0 3) 7) 7), iV (Int.tmod (band .i64 (shr .i64 x0 6) 7) 7), iV (band .i64 (shr .i64 x0 9) 1023), iV 0, iV 0, .bool false, iV 0, iV 0, iV (band .i64 x1 4095), iV 0, nS, iV 0, iV 0, nS, nS, iV 0, iV 0, iV 0, iV 0, iV 0, nS, nS, nS]) rfl U32 rfl ti32 rfl rfl) fun a h=>?_
    refine sto 1 h rfl rfl hS rfl ti32 rfl rfl rfl (oz rfl) fun w_13 hS' => ?_
    replace hS : Sep w0 w_13 [_, bx g_1 32 [iV (w64 ((band .i64 x0 7) + 1)), iV (Int.tmod (band .i64 (shr .i64 x0 3) 7) 7), iV (Int.tmod (band .i64 (shr .i64 x0 6) 7) 7), iV (band .i64 (shr .i64 x0 9) 1023), _, _, _, _, _, iV (band .i64 x1 4095), _, _, _, _, _, _, _, _, _, _, _, _, _, _], _] Z := hS'
    refine wpList_nil ?_
    replace h : Fr 150 a [(4, _)] := h.keep [4]
    refine x_then_n <| wp_ret ?_
    have hS' := hS.room
    replace hS : Sep w0 w_13 [_, _, _, Mem.no] Z := hS'
    have hS' := hS.room
    replace hS : Sep w0 w_13 [_, _, _, _, Mem.no] Z := hS'
    have hS' := hS.room
    replace hS : Sep w0 w_13 [_, _, _, _, _, Mem.no] Z := hS'
    obtain rfl := Option.some.inj H
    exact f_ret h (rs := [.cell 4 32]) rfl (.cell rfl (hS.load_agg (p := 1) (us := [iV (w64 ((band .i64 x0 7) + 1)), iV (Int.tmod (band .i64 (shr .i64 x0 3) 7) 7), iV (Int.tmod (band .i64 (shr .i64 x0 6) 7) 7), iV (band .i64 (shr .i64 x0 9) 1023), iV 0, iV 0, .bool false, iV 0, iV 0, iV (band .i64 x1 4095), iV 0, nS, iV 0, iV 0, nS, nS, iV 0, iV 0, iV 0, iV 0, iV 0, nS, nS, nS]) rfl U32 rfl ti32 rfl rfl) .nil) ⟨_, rfl, nS, nS, nS, nS, nS, nS, Mem.no, Mem.no, Mem.no, Mem.no, rfl, (hS.sel [0, 3, 4, 5] (by decide)), (Own.nil Kd.u8 5 Mem.no), (Own.nil (Kd.int .i64) 3 Mem.no), (Own.nil (Kd.int .i64) 3 Mem.no), (Rd.nil _ _), (Rd.nil _ _), (Rd.nil _ _)⟩
   ·refine c_cond_f h rfl (bf hc_3) <| qr <| s_cmp (b := ((w64 ((band .i64 x0 7) + 1)) == 5)) h rfl rfl rfl (.inl ⟨rfl, rfl⟩) fun a h=>sg h rfl fun a h=>wpList_nil <| x_then_n ?_
    obtain ⟨hc_4, H⟩ | ⟨hc_4, H⟩ := ii H
    ·refine c_cond_t h rfl (bt hc_4) <| qr <| mv h rfl fun a h=>s_bits (i := x1) (j := 4095) (r := band .i64 x1 4095) h rfl rfl rfl (.inl ⟨rfl, rfl⟩) fun a h=>mv h rfl fun a h=>s_shift (r := shr .i64 x1 12) h rfl rfl rfl (by decide) (.inr ⟨rfl, rfl⟩) fun a h=>s_bits (i := shr .i64 x1 12) (j := 4095) (r := band .i64 (shr .i64 x1 12) 4095) h rfl rfl rfl (.inl ⟨rfl, rfl⟩) fun a h=>s_fieldAddr h rfl U32 rfl ti3 rfl rfl fun a h=>?_
     refine sto 2 h rfl rfl hS rfl ti3 rfl rfl rfl (oz rfl) fun w_14 hS' => ?_
     replace hS : Sep w0 w_14 [_, _, bx g_2 32 [_, _, _, _, _, _, _, _, _, iV (band .i64 x1 4095), _, _, _, _, _, _, _, _, _, _, _, _, _, _]] Z := hS'
     refine s_fieldAddr h rfl U32 rfl ti3 rfl rfl fun a h=>?_
     refine sto 2 h rfl rfl hS rfl ti3 rfl rfl rfl (oz rfl) fun w_15 hS' => ?_
     replace hS : Sep w0 w_15 [_, _, bx g_2 32 [_, _, _, _, _, _, _, _, _, _, iV (band .i64 (shr .i64 x1 12) 4095), _, _, _, _, _, _, _, _, _, _, _, _, _]] Z := hS'
     refine wpList_nil ?_
     replace h : Fr 150 a [(1, _), (4, _), (5, _)] := h.keep [1, 4, 5]
     refine x_then_n <| qr <| sg h rfl fun a h=>nx <| c_last fun KJ_2 hKJ_2 => ?_
     have hJ_j_1 : ∀ (x_1 : List UInt8), hocketlaw11_Msg.J1 K x0 x1 x_1 = some r → ∀ (a : Act) (w_16 : World), (∃ (v_1 : Value) (N_1 : Mem) (M_1 : Mem), Fr 150 a [(4, .pointer (some ⟨g_1, 0, none⟩)), (5, .pointer (some ⟨g_2, 0, none⟩))] ∧ Sep w0 w_16 [N_1, bx g_1 32 Q0, bx g_2 32 [iV (w64 ((band .i64 x0 7) + 1)), iV (Int.tmod (band .i64 (shr .i64 x0 3) 7) 7), iV (Int.tmod (band .i64 (shr .i64 x0 6) 7) 7), iV (band .i64 (shr .i64 x0 9) 1023), iV 0, iV 0, .bool false, iV 0, iV 0, iV (band .i64 x1 4095), iV (band .i64 (shr .i64 x1 12) 4095), v_1, iV 0, iV 0, nS, nS, iV 0, iV 0, iV 0, iV 0, iV 0, nS, nS, nS], M_1] Z ∧ Mem.no.le N_1 ∧ Own Kd.u8 5 M_1 Mem.no v_1 x_1) → KJ_2 a w_16 := by
      clear H h hS a
      rintro x_1 H a w_16 ⟨v_1, N_1, M_1, h, hS, le_1, ho_1⟩
      unfold hocketlaw11_Msg.J1 at H
      refine hKJ_2 _ _ <| x_block_n <| x_then_n (hKJ_1 _ _ ?_)
      refine qr <| s_load h rfl rfl (hS.load_agg (p := 2) (us := [iV (w64 ((band .i64 x0 7) + 1)), iV (Int.tmod (band .i64 (shr .i64 x0 3) 7) 7), iV (Int.tmod (band .i64 (shr .i64 x0 6) 7) 7), iV (band .i64 (shr .i64 x0 9) 1023), iV 0, iV 0, .bool false, iV 0, iV 0, iV (band .i64 x1 4095), iV (band .i64 (shr .i64 x1 12) 4095), v_1, iV 0, iV 0, nS, nS, iV 0, iV 0, iV 0, iV 0, iV 0, nS, nS, nS]) rfl U32 rfl ti32 rfl rfl) fun a h=>?_
      refine sto 1 h rfl rfl hS rfl ti32 rfl rfl rfl (oa 11 rfl (oc ho_1.one (oz rfl))) fun w_17 hS' => ?_
      replace hS : Sep w0 w_17 [_, bx g_1 32 [iV (w64 ((band .i64 x0 7) + 1)), iV (Int.tmod (band .i64 (shr .i64 x0 3) 7) 7), iV (Int.tmod (band .i64 (shr .i64 x0 6) 7) 7), iV (band .i64 (shr .i64 x0 9) 1023), _, _, _, _, _, iV (band .i64 x1 4095), iV (band .i64 (shr .i64 x1 12) 4095), v_1, _, _, _, _, _, _, _, _, _, _, _, _], _, _] Z := hS'
      refine nx <| wp_ret ?_
      have hS' := hS.room
      replace hS : Sep w0 w_17 [_, _, _, _, Mem.no] Z := hS'
      have hS' := hS.room
      replace hS : Sep w0 w_17 [_, _, _, _, _, Mem.no] Z := hS'
      obtain rfl := Option.some.inj H
      exact f_ret h (rs := [.cell 4 32]) rfl (.cell rfl (hS.load_agg (p := 1) (us := [iV (w64 ((band .i64 x0 7) + 1)), iV (Int.tmod (band .i64 (shr .i64 x0 3) 7) 7), iV (Int.tmod (band .i64 (shr .i64 x0 6) 7) 7), iV (band .i64 (shr .i64 x0 9) 1023), iV 0, iV 0, .bool false, iV 0, iV 0, iV (band .i64 x1 4095), iV (band .i64 (shr .i64 x1 12) 4095), v_1, iV 0, iV 0, nS, nS, iV 0, iV 0, iV 0, iV 0, iV 0, nS, nS, nS]) rfl U32 rfl ti32 rfl rfl) .nil) ⟨_, rfl, v_1, nS, nS, nS, nS, nS, N_1, M_1, Mem.no, Mem.no, rfl, (hS.sel [0, 3, 4, 5] (by decide)), ho_1, (Own.nil (Kd.int .i64) 3 Mem.no), (Own.nil (Kd.int .i64) 3 Mem.no), (Rd.nil _ _), (Rd.nil _ _), (Rd.nil _ _)⟩
     clear hKJ_2
     have hS' := hS.room
     replace hS : Sep w0 w_15 [_, _, _, Mem.no] Z := hS'
     refine c_block <| c_loop (fun k_1 a w_18 => ∃ (x_2 : Int) (x_3 : List UInt8) (v_2 : Value) (N_2 : Mem) (M_2 : Mem), hocketlaw11_Msg.L1 K x1 (fun v => hocketlaw11_Msg.J1 K x0 x1 v) k_1 (x_2, x_3) = some r ∧ Fr 150 a [(1, iV x1), (4, .pointer (some ⟨g_1, 0, none⟩)), (5, .pointer (some ⟨g_2, 0, none⟩)), (6, iV x_2)] ∧ Sep w0 w_18 [N_2, bx g_1 32 Q0, bx g_2 32 [iV (w64 ((band .i64 x0 7) + 1)), iV (Int.tmod (band .i64 (shr .i64 x0 3) 7) 7), iV (Int.tmod (band .i64 (shr .i64 x0 6) 7) 7), iV (band .i64 (shr .i64 x0 9) 1023), iV 0, iV 0, .bool false, iV 0, iV 0, iV (band .i64 x1 4095), iV (band .i64 (shr .i64 x1 12) 4095), v_2, iV 0, iV 0, nS, nS, iV 0, iV 0, iV 0, iV 0, iV 0, nS, nS, nS], M_2] Z ∧ Mem.no.le N_2 ∧ Own Kd.u8 5 M_2 Mem.no v_2 x_3) K ⟨0, ([] : List UInt8), nS, Mem.no, Mem.no, H, (h.keep [1, 4, 5, 6]), (hS.sel [0, 1, 2, 3] (by decide)), mr, (Own.nil Kd.u8 5 Mem.no)⟩ (fun a w h => by obtain ⟨_, _, _, _, _, H, _⟩ := h; cases (show (none : Option (api_Msg)) = some r from H)) ?_
     clear h hS a H
     rintro k_1 a w_18 KL_1 hKL_1 ⟨x_2, x_3, v_2, N_2, M_2, H, h, hS, le_2, ho_2⟩
     replace H : hocketlaw11_Msg.B1 K x1 (fun v => hocketlaw11_Msg.J1 K x0 x1 v) (hocketlaw11_Msg.L1 K x1 (fun v => hocketlaw11_Msg.J1 K x0 x1 v) k_1) x_2 x_3 = some r := H
     unfold hocketlaw11_Msg.B1 at H
     refine c_seq fun KJ_3 hKJ_3 => qr <| mv h rfl fun a h=>mv h rfl fun a h=>s_shift (r := shr .i64 x1 24) h rfl rfl rfl (by decide) (.inr ⟨rfl, rfl⟩) fun a h=>s_bits (i := shr .i64 x1 24) (j := 63) (r := band .i64 (shr .i64 x1 24) 63) h rfl rfl rfl (.inl ⟨rfl, rfl⟩) fun a h=>s_cmp (b := decide (x_2 < (band .i64 (shr .i64 x1 24) 63))) h rfl rfl rfl (.inr (.inr (.inl ⟨rfl, rfl⟩))) fun a h=>wpList_nil <| x_then_n ?_
     obtain ⟨hc_5, H⟩ | ⟨hc_5, H⟩ := ii H
     ·refine c_cond_t h rfl (dt hc_5) <| wp_skip <| x_then_n (hKJ_3 _ _ ?_)
      refine wp_seq <| c_block <| wp_region_lit <| s_fieldAddr h rfl U32 rfl ti26 rfl rfl fun a h=>s_load h rfl rfl (hS.load_one (p := 2) rfl U26 rfl rfl) fun a h=>mv h rfl fun a h=>mv h rfl fun a h=>s_bits (i := x_2) (j := 15) (r := band .i64 x_2 15) h rfl rfl rfl (.inl ⟨rfl, rfl⟩) fun a h=>s_conv (wu64 (band .i64 x_2 15)) h rfl U3 U48 rfl rfl fun a h=>s_shift (r := shr .i64 x1 (wu64 (band .i64 x_2 15))) h rfl rfl rfl (wu64_nn _) (.inr ⟨rfl, rfl⟩) fun a h=>s_conv (((toU8 (shr .i64 x1 (wu64 (band .i64 x_2 15)))).toNat : Int)) h rfl U3 U5 rfl (wrap_u8 _).symm fun a h=>?_
      have hq_1 : Reps Kd.u8 Mem.no ([toU8 (shr .i64 x1 (wu64 (band .i64 x_2 15)))] : List UInt8) _ := ((Reps.one (d := Kd.u8) (x := toU8 (shr .i64 x1 (wu64 (band .i64 x_2 15)))) (show Kd.u8.K _ _ [.int .u8 ((toU8 (shr .i64 x1 (wu64 (band .i64 x_2 15)))).toNat : Int)] from rfl)).append (Reps.nil Kd.u8 _))
      refine s_buildSlice h rfl U26 ti5 rfl rfl rfl (.cons rfl .nil) rfl rfl rfl hS hq_1 rfl fun w_19 v_3 M_3 hS' ho_3 a h => ?_
      replace hS : Sep w0 w_19 [_, _, _, _, M_3] Z := hS'
      obtain ⟨t_1, et_1, H⟩ := bs H
      refine s_append (J := Mem.no) (I' := Mem.no) (p := 3) 140737488355328 h rfl rfl rfl U26 ti5 rfl rfl rfl rfl hS rfl ho_2 (Src.flat flat_u8 (ho_3.src (hS.own 4))) mr mr et_1 fun w_20 v_4 M_4 hS' ho_4 a h => ?_
      replace hS : Sep w0 w_20 [_, _, _, M_4, _] Z := hS'
      refine s_fieldAddr h rfl U32 rfl ti26 rfl rfl fun a h=>?_
      refine sto 2 h rfl rfl hS rfl ti26 ho_4.cellsA rfl rfl (oc ho_4.one on0) fun w_21 hS' => ?_
      replace hS : Sep w0 w_21 [_, _, bx g_2 32 [_, _, _, _, _, _, _, _, _, _, _, v_4, _, _, _, _, _, _, _, _, _, _, _, _], _, _] Z := hS'
      refine wpList_nil <| x_block_n <| x_then_n <| wp_region_lit <| mv h rfl fun a h=>s_arith (r := w64 (x_2 + 1)) h rfl rfl rfl (.inl ⟨rfl, rfl⟩) fun a h=>sg h rfl fun a h=>wpList_nil ?_
      replace h : Fr 150 a [(1, _), (4, _), (5, _), (6, iV (w64 (x_2 + 1)))] := h.keep [1, 4, 5, 6]
      refine x_then_n (hKL_1 _ _ ?_)
      exact ⟨w64 (x_2 + 1), t_1, v_4, N_2, M_4, H, (h.keep [1, 4, 5, 6]), (hS.sel [0, 1, 2, 3] (by decide)), le_2, ho_4⟩
     ·refine c_cond_f h rfl (df hc_5) <| wp_exit (x_then_x (x_then_x (x_block_t ?_)))
      exact x_then_n (hJ_j_1 x_3 H _ _ ⟨v_2, N_2, M_2, (h.keep [4, 5]), (hS.sel [0, 1, 2, 3] (by decide)), le_2, ho_2⟩)
    ·refine c_cond_f h rfl (bf hc_4) <| qr <| s_cmp (b := ((w64 ((band .i64 x0 7) + 1)) == 7)) h rfl rfl rfl (.inl ⟨rfl, rfl⟩) fun a h=>sg h rfl fun a h=>wpList_nil ?_
     replace h : Fr 150 a [(0, _), (1, _), (4, _), (5, _), (25, _), (86, .bool ((w64 ((band .i64 x0 7) + 1)) == 7))] := h.keep [0, 1, 4, 5, 25, 86]
     refine x_then_n ?_
     obtain ⟨hc_6, H⟩ | ⟨hc_6, H⟩ := ii H
     ·refine c_cond_t h rfl (bt hc_6) <| qr <| mv h rfl fun a h=>s_bits (i := x1) (j := 1023) (r := band .i64 x1 1023) h rfl rfl rfl (.inl ⟨rfl, rfl⟩) fun a h=>mv h rfl fun a h=>s_shift (r := shr .i64 x1 10) h rfl rfl rfl (by decide) (.inr ⟨rfl, rfl⟩) fun a h=>s_bits (i := shr .i64 x1 10) (j := 255) (r := band .i64 (shr .i64 x1 10) 255) h rfl rfl rfl (.inl ⟨rfl, rfl⟩) fun a h=>s_fieldAddr h rfl U32 rfl ti3 rfl rfl fun a h=>?_
      refine sto 2 h rfl rfl hS rfl ti3 rfl rfl rfl (oz rfl) fun w_22 hS' => ?_
      replace hS : Sep w0 w_22 [_, _, bx g_2 32 [_, _, _, _, _, _, _, _, _, _, _, _, iV (band .i64 x1 1023), _, _, _, _, _, _, _, _, _, _, _]] Z := hS'
      refine s_fieldAddr h rfl U32 rfl ti3 rfl rfl fun a h=>?_
      refine sto 2 h rfl rfl hS rfl ti3 rfl rfl rfl (oz rfl) fun w_23 hS' => ?_
      replace hS : Sep w0 w_23 [_, _, bx g_2 32 [_, _, _, _, _, _, _, _, _, _, _, _, _, iV (band .i64 (shr .i64 x1 10) 255), _, _, _, _, _, _, _, _, _, _]] Z := hS'
      refine nx <| c_seq fun KJ_4 hKJ_4 => qr <| sg h rfl fun a h=>wpList_nil <| x_then_n ?_
      have hJ_j_2 : ∀ (x_4 : List Int), hocketlaw11_Msg.J2 K x1 x0 x_4 = some r → ∀ (a : Act) (w_24 : World), (∃ (v_5 : Value) (N_3 : Mem) (M_5 : Mem), Fr 150 a [(1, iV x1), (4, .pointer (some ⟨g_1, 0, none⟩)), (5, .pointer (some ⟨g_2, 0, none⟩))] ∧ Sep w0 w_24 [N_3, bx g_1 32 Q0, bx g_2 32 [iV (w64 ((band .i64 x0 7) + 1)), iV (Int.tmod (band .i64 (shr .i64 x0 3) 7) 7), iV (Int.tmod (band .i64 (shr .i64 x0 6) 7) 7), iV (band .i64 (shr .i64 x0 9) 1023), iV 0, iV 0, .bool false, iV 0, iV 0, iV 0, iV 0, nS, iV (band .i64 x1 1023), iV (band .i64 (shr .i64 x1 10) 255), v_5, nS, iV 0, iV 0, iV 0, iV 0, iV 0, nS, nS, nS], M_5] Z ∧ Mem.no.le N_3 ∧ Own (Kd.int .i64) 3 M_5 Mem.no v_5 x_4) → KJ_4 a w_24 := by
       clear H h hS a
       rintro x_4 H a w_24 ⟨v_5, N_3, M_5, h, hS, le_3, ho_5⟩
       unfold hocketlaw11_Msg.J2 at H
       refine hKJ_4 _ _ <| qr <| sg h rfl fun a h=>nx <| c_last fun KJ_5 hKJ_5 => ?_
       have hJ_j_3 : ∀ (x_5 : List Int), hocketlaw11_Msg.J3 K x0 x1 x_4 x_5 = some r → ∀ (a : Act) (w_25 : World), (∃ (v_6 : Value) (N_4 : Mem) (M_6 : Mem), Fr 150 a [(4, .pointer (some ⟨g_1, 0, none⟩)), (5, .pointer (some ⟨g_2, 0, none⟩))] ∧ Sep w0 w_25 [N_4, bx g_1 32 Q0, bx g_2 32 [iV (w64 ((band .i64 x0 7) + 1)), iV (Int.tmod (band .i64 (shr .i64 x0 3) 7) 7), iV (Int.tmod (band .i64 (shr .i64 x0 6) 7) 7), iV (band .i64 (shr .i64 x0 9) 1023), iV 0, iV 0, .bool false, iV 0, iV 0, iV 0, iV 0, nS, iV (band .i64 x1 1023), iV (band .i64 (shr .i64 x1 10) 255), v_5, v_6, iV 0, iV 0, iV 0, iV 0, iV 0, nS, nS, nS], M_5, M_6] Z ∧ N_3.le N_4 ∧ Own (Kd.int .i64) 3 M_6 Mem.no v_6 x_5) → KJ_5 a w_25 := by
        clear H h hS a
        rintro x_5 H a w_25 ⟨v_6, N_4, M_6, h, hS, le_4, ho_6⟩
        unfold hocketlaw11_Msg.J3 at H
        refine hKJ_5 _ _ <| x_block_n <| x_then_n (hKJ_1 _ _ ?_)
        refine qr <| s_load h rfl rfl (hS.load_agg (p := 2) (us := [iV (w64 ((band .i64 x0 7) + 1)), iV (Int.tmod (band .i64 (shr .i64 x0 3) 7) 7), iV (Int.tmod (band .i64 (shr .i64 x0 6) 7) 7), iV (band .i64 (shr .i64 x0 9) 1023), iV 0, iV 0, .bool false, iV 0, iV 0, iV 0, iV 0, nS, iV (band .i64 x1 1023), iV (band .i64 (shr .i64 x1 10) 255), v_5, v_6, iV 0, iV 0, iV 0, iV 0, iV 0, nS, nS, nS]) rfl U32 rfl ti32 rfl rfl) fun a h=>?_
        refine sto 1 h rfl rfl hS rfl ti32 rfl rfl rfl (oa 14 rfl (oc ho_5.one (oc ho_6.one (oz rfl)))) fun w_26 hS' => ?_
        replace hS : Sep w0 w_26 [_, bx g_1 32 [iV (w64 ((band .i64 x0 7) + 1)), iV (Int.tmod (band .i64 (shr .i64 x0 3) 7) 7), iV (Int.tmod (band .i64 (shr .i64 x0 6) 7) 7), iV (band .i64 (shr .i64 x0 9) 1023), _, _, _, _, _, _, _, _, iV (band .i64 x1 1023), iV (band .i64 (shr .i64 x1 10) 255), v_5, v_6, _, _, _, _, _, _, _, _], _, _, _] Z := hS'
        refine wpList_nil ?_
        replace h : Fr 150 a [(4, _)] := h.keep [4]
        refine x_then_n <| wp_ret ?_
        have hS' := hS.room
        replace hS : Sep w0 w_26 [_, _, _, _, _, Mem.no] Z := hS'
        obtain rfl := Option.some.inj H
        exact f_ret h (rs := [.cell 4 32]) rfl (.cell rfl (hS.load_agg (p := 1) (us := [iV (w64 ((band .i64 x0 7) + 1)), iV (Int.tmod (band .i64 (shr .i64 x0 3) 7) 7), iV (Int.tmod (band .i64 (shr .i64 x0 6) 7) 7), iV (band .i64 (shr .i64 x0 9) 1023), iV 0, iV 0, .bool false, iV 0, iV 0, iV 0, iV 0, nS, iV (band .i64 x1 1023), iV (band .i64 (shr .i64 x1 10) 255), v_5, v_6, iV 0, iV 0, iV 0, iV 0, iV 0, nS, nS, nS]) rfl U32 rfl ti32 rfl rfl) .nil) ⟨_, rfl, nS, v_5, v_6, nS, nS, nS, N_4, Mem.no, M_5, M_6, rfl, (hS.sel [0, 5, 3, 4] (by decide)), (Own.nil Kd.u8 5 Mem.no), ho_5, ho_6, (Rd.nil _ _), (Rd.nil _ _), (Rd.nil _ _)⟩
       clear hKJ_5
       have hS' := hS.room
       replace hS : Sep w0 w_24 [_, _, _, _, Mem.no] Z := hS'
       refine c_block <| c_loop (fun k_2 a w_27 => ∃ (x_6 : Int) (x_7 : List Int) (v_7 : Value) (N_5 : Mem) (M_7 : Mem), hocketlaw11_Msg.L2 K x1 (fun v => hocketlaw11_Msg.J3 K x0 x1 x_4 v) k_2 (x_6, x_7) = some r ∧ Fr 150 a [(1, iV x1), (4, .pointer (some ⟨g_1, 0, none⟩)), (5, .pointer (some ⟨g_2, 0, none⟩)), (8, iV x_6)] ∧ Sep w0 w_27 [N_5, bx g_1 32 Q0, bx g_2 32 [iV (w64 ((band .i64 x0 7) + 1)), iV (Int.tmod (band .i64 (shr .i64 x0 3) 7) 7), iV (Int.tmod (band .i64 (shr .i64 x0 6) 7) 7), iV (band .i64 (shr .i64 x0 9) 1023), iV 0, iV 0, .bool false, iV 0, iV 0, iV 0, iV 0, nS, iV (band .i64 x1 1023), iV (band .i64 (shr .i64 x1 10) 255), v_5, v_7, iV 0, iV 0, iV 0, iV 0, iV 0, nS, nS, nS], M_5, M_7] Z ∧ N_3.le N_5 ∧ Own (Kd.int .i64) 3 M_7 Mem.no v_7 x_7) K ⟨0, ([] : List Int), nS, N_3, Mem.no, H, (h.keep [1, 4, 5, 8]), (hS.sel [0, 1, 2, 3, 4] (by decide)), mr, (Own.nil (Kd.int .i64) 3 Mem.no)⟩ (fun a w h => by obtain ⟨_, _, _, _, _, H, _⟩ := h; cases (show (none : Option (api_Msg)) = some r from H)) ?_
       clear h hS a H
       rintro k_2 a w_27 KL_2 hKL_2 ⟨x_6, x_7, v_7, N_5, M_7, H, h, hS, le_5, ho_7⟩
       replace H : hocketlaw11_Msg.B2 K x1 (fun v => hocketlaw11_Msg.J3 K x0 x1 x_4 v) (hocketlaw11_Msg.L2 K x1 (fun v => hocketlaw11_Msg.J3 K x0 x1 x_4 v) k_2) x_6 x_7 = some r := H
       unfold hocketlaw11_Msg.B2 at H
       refine c_seq fun KJ_6 hKJ_6 => qr <| mv h rfl fun a h=>mv h rfl fun a h=>s_shift (r := shr .i64 x1 21) h rfl rfl rfl (by decide) (.inr ⟨rfl, rfl⟩) fun a h=>s_bits (i := shr .i64 x1 21) (j := 7) (r := band .i64 (shr .i64 x1 21) 7) h rfl rfl rfl (.inl ⟨rfl, rfl⟩) fun a h=>s_cmp (b := decide (x_6 < (band .i64 (shr .i64 x1 21) 7))) h rfl rfl rfl (.inr (.inr (.inl ⟨rfl, rfl⟩))) fun a h=>wpList_nil ?_
       replace h : Fr 150 a [(1, _), (4, _), (5, _), (8, _), (116, .bool (decide (x_6 < (band .i64 (shr .i64 x1 21) 7))))] := h.keep [1, 4, 5, 8, 116]
       refine x_then_n ?_
       obtain ⟨hc_7, H⟩ | ⟨hc_7, H⟩ := ii H
       ·refine c_cond_t h rfl (dt hc_7) <| wp_skip <| x_then_n (hKJ_6 _ _ ?_)
        refine wp_seq <| c_block <| wp_region_lit <| s_fieldAddr h rfl U32 rfl ti22 rfl rfl fun a h=>s_load h rfl rfl (hS.load_one (p := 2) rfl U22 rfl rfl) fun a h=>mv h rfl fun a h=>mv h rfl fun a h=>s_arith (r := w64 (x_6 + 3)) h rfl rfl rfl (.inl ⟨rfl, rfl⟩) fun a h=>s_conv (wu64 (w64 (x_6 + 3))) h rfl U3 U48 rfl rfl fun a h=>s_shift (r := shr .i64 x1 (wu64 (w64 (x_6 + 3)))) h rfl rfl rfl (wu64_nn _) (.inr ⟨rfl, rfl⟩) fun a h=>s_bits (i := shr .i64 x1 (wu64 (w64 (x_6 + 3)))) (j := 63) (r := band .i64 (shr .i64 x1 (wu64 (w64 (x_6 + 3)))) 63) h rfl rfl rfl (.inl ⟨rfl, rfl⟩) fun a h=>?_
        have hq_2 : Reps (Kd.int .i64) Mem.no ([band .i64 (shr .i64 x1 (wu64 (w64 (x_6 + 3)))) 63] : List Int) _ := ((Reps.one (d := (Kd.int .i64)) (x := band .i64 (shr .i64 x1 (wu64 (w64 (x_6 + 3)))) 63) (show (Kd.int .i64).K _ _ [iV (band .i64 (shr .i64 x1 (wu64 (w64 (x_6 + 3)))) 63)] from rfl)).append (Reps.nil (Kd.int .i64) _))
        refine s_buildSlice h rfl U22 ti3 rfl rfl rfl (.cons rfl .nil) rfl rfl rfl hS hq_2 rfl fun w_28 v_8 M_8 hS' ho_8 a h => ?_
        replace hS : Sep w0 w_28 [_, _, _, _, _, M_8] Z := hS'
        obtain ⟨t_2, et_2, H⟩ := bs H
        refine s_append (J := Mem.no) (I' := Mem.no) (p := 4) 17592186044416 h rfl rfl rfl U22 ti3 rfl rfl rfl rfl hS rfl ho_7 (Src.flat (flat_int .i64) (ho_8.src (hS.own 5))) mr mr et_2 fun w_29 v_9 M_9 hS' ho_9 a h => ?_
        replace hS : Sep w0 w_29 [_, _, _, _, M_9, _] Z := hS'
        refine s_fieldAddr h rfl U32 rfl ti22 rfl rfl fun a h=>?_
        refine sto 2 h rfl rfl hS rfl ti22 ho_9.cellsA rfl rfl (oc ho_9.one on0) fun w_30 hS' => ?_
        replace hS : Sep w0 w_30 [_, _, bx g_2 32 [_, _, _, _, _, _, _, _, _, _, _, _, _, _, _, v_9, _, _, _, _, _, _, _, _], _, _, _] Z := hS'
        refine wpList_nil <| x_block_n <| x_then_n <| wp_region_lit <| mv h rfl fun a h=>s_arith (r := w64 (x_6 + 1)) h rfl rfl rfl (.inl ⟨rfl, rfl⟩) fun a h=>sg h rfl fun a h=>wpList_nil <| x_then_n (hKL_2 _ _ ?_)
        exact ⟨w64 (x_6 + 1), t_2, v_9, N_5, M_9, H, (h.keep [1, 4, 5, 8]), (hS.sel [0, 1, 2, 3, 4] (by decide)), le_5, ho_9⟩
       ·refine c_cond_f h rfl (df hc_7) <| wp_exit (x_then_x (x_then_x (x_block_t ?_)))
        exact x_then_n (hJ_j_3 x_7 H _ _ ⟨v_7, N_5, M_7, (h.keep [4, 5]), (hS.sel [0, 1, 2, 3, 4] (by decide)), le_5, ho_7⟩)
      clear hKJ_4
      have hS' := hS.room
      replace hS : Sep w0 w_23 [_, _, _, Mem.no] Z := hS'
      refine c_block <| c_loop (fun k_3 a w_31 => ∃ (x_8 : Int) (x_9 : List Int) (v_10 : Value) (N_6 : Mem) (M_10 : Mem), hocketlaw11_Msg.L3 K x1 (fun v => hocketlaw11_Msg.J2 K x1 x0 v) k_3 (x_8, x_9) = some r ∧ Fr 150 a [(1, iV x1), (4, .pointer (some ⟨g_1, 0, none⟩)), (5, .pointer (some ⟨g_2, 0, none⟩)), (7, iV x_8)] ∧ Sep w0 w_31 [N_6, bx g_1 32 Q0, bx g_2 32 [iV (w64 ((band .i64 x0 7) + 1)), iV (Int.tmod (band .i64 (shr .i64 x0 3) 7) 7), iV (Int.tmod (band .i64 (shr .i64 x0 6) 7) 7), iV (band .i64 (shr .i64 x0 9) 1023), iV 0, iV 0, .bool false, iV 0, iV 0, iV 0, iV 0, nS, iV (band .i64 x1 1023), iV (band .i64 (shr .i64 x1 10) 255), v_10, nS, iV 0, iV 0, iV 0, iV 0, iV 0, nS, nS, nS], M_10] Z ∧ Mem.no.le N_6 ∧ Own (Kd.int .i64) 3 M_10 Mem.no v_10 x_9) K ⟨0, ([] : List Int), nS, Mem.no, Mem.no, H, (h.keep [1, 4, 5, 7]), (hS.sel [0, 1, 2, 3] (by decide)), mr, (Own.nil (Kd.int .i64) 3 Mem.no)⟩ (fun a w h => by obtain ⟨_, _, _, _, _, H, _⟩ := h; cases (show (none : Option (api_Msg)) = some r from H)) ?_
      clear h hS a H
      rintro k_3 a w_31 KL_3 hKL_3 ⟨x_8, x_9, v_10, N_6, M_10, H, h, hS, le_6, ho_10⟩
      replace H : hocketlaw11_Msg.B3 K x1 (fun v => hocketlaw11_Msg.J2 K x1 x0 v) (hocketlaw11_Msg.L3 K x1 (fun v => hocketlaw11_Msg.J2 K x1 x0 v) k_3) x_8 x_9 = some r := H
      unfold hocketlaw11_Msg.B3 at H
      refine c_seq fun KJ_7 hKJ_7 => qr <| mv h rfl fun a h=>mv h rfl fun a h=>s_shift (r := shr .i64 x1 18) h rfl rfl rfl (by decide) (.inr ⟨rfl, rfl⟩) fun a h=>s_bits (i := shr .i64 x1 18) (j := 7) (r := band .i64 (shr .i64 x1 18) 7) h rfl rfl rfl (.inl ⟨rfl, rfl⟩) fun a h=>s_cmp (b := decide (x_8 < (band .i64 (shr .i64 x1 18) 7))) h rfl rfl rfl (.inr (.inr (.inl ⟨rfl, rfl⟩))) fun a h=>wpList_nil <| x_then_n ?_
      obtain ⟨hc_8, H⟩ | ⟨hc_8, H⟩ := ii H
      ·refine c_cond_t h rfl (dt hc_8) <| wp_skip <| x_then_n (hKJ_7 _ _ ?_)
       refine wp_seq <| c_block <| wp_region_lit <| s_fieldAddr h rfl U32 rfl ti22 rfl rfl fun a h=>s_load h rfl rfl (hS.load_one (p := 2) rfl U22 rfl rfl) fun a h=>mv h rfl fun a h=>mv h rfl fun a h=>s_conv (wu64 x_8) h rfl U3 U48 rfl rfl fun a h=>s_shift (r := shr .i64 x1 (wu64 x_8)) h rfl rfl rfl (wu64_nn _) (.inr ⟨rfl, rfl⟩) fun a h=>s_bits (i := shr .i64 x1 (wu64 x_8)) (j := 63) (r := band .i64 (shr .i64 x1 (wu64 x_8)) 63) h rfl rfl rfl (.inl ⟨rfl, rfl⟩) fun a h=>?_
       have hq_3 : Reps (Kd.int .i64) Mem.no ([band .i64 (shr .i64 x1 (wu64 x_8)) 63] : List Int) _ := ((Reps.one (d := (Kd.int .i64)) (x := band .i64 (shr .i64 x1 (wu64 x_8)) 63) (show (Kd.int .i64).K _ _ [iV (band .i64 (shr .i64 x1 (wu64 x_8)) 63)] from rfl)).append (Reps.nil (Kd.int .i64) _))
       refine s_buildSlice h rfl U22 ti3 rfl rfl rfl (.cons rfl .nil) rfl rfl rfl hS hq_3 rfl fun w_32 v_11 M_11 hS' ho_11 a h => ?_
       replace hS : Sep w0 w_32 [_, _, _, _, M_11] Z := hS'
       obtain ⟨t_3, et_3, H⟩ := bs H
       refine s_append (J := Mem.no) (I' := Mem.no) (p := 3) 17592186044416 h rfl rfl rfl U22 ti3 rfl rfl rfl rfl hS rfl ho_10 (Src.flat (flat_int .i64) (ho_11.src (hS.own 4))) mr mr et_3 fun w_33 v_12 M_12 hS' ho_12 a h => ?_
       replace hS : Sep w0 w_33 [_, _, _, M_12, _] Z := hS'
       refine s_fieldAddr h rfl U32 rfl ti22 rfl rfl fun a h=>?_
       refine sto 2 h rfl rfl hS rfl ti22 ho_12.cellsA rfl rfl (oc ho_12.one on0) fun w_34 hS' => ?_
       replace hS : Sep w0 w_34 [_, _, bx g_2 32 [_, _, _, _, _, _, _, _, _, _, _, _, _, _, v_12, _, _, _, _, _, _, _, _, _], _, _] Z := hS'
       refine wpList_nil ?_
       replace h : Fr 150 a [(1, _), (4, _), (5, _), (7, _)] := h.keep [1, 4, 5, 7]
       refine x_block_n <| x_then_n <| wp_region_lit <| mv h rfl fun a h=>s_arith (r := w64 (x_8 + 1)) h rfl rfl rfl (.inl ⟨rfl, rfl⟩) fun a h=>sg h rfl fun a h=>wpList_nil <| x_then_n (hKL_3 _ _ ?_)
       exact ⟨w64 (x_8 + 1), t_3, v_12, N_6, M_12, H, (h.keep [1, 4, 5, 7]), (hS.sel [0, 1, 2, 3] (by decide)), le_6, ho_12⟩
      ·refine c_cond_f h rfl (df hc_8) <| wp_exit (x_then_x (x_then_x (x_block_t ?_)))
       exact x_then_n (hJ_j_2 x_9 H _ _ ⟨v_10, N_6, M_10, (h.keep [1, 4, 5]), (hS.sel [0, 1, 2, 3] (by decide)), le_6, ho_10⟩)
     ·refine c_cond_f h rfl (bf hc_6) <| qr <| s_cmp (b := ((w64 ((band .i64 x0 7) + 1)) == 8)) h rfl rfl rfl (.inl ⟨rfl, rfl⟩) fun a h=>sg h rfl fun a h=>wpList_nil <| x_then_n ?_
      obtain ⟨hc_9, H⟩ | ⟨hc_9, H⟩ := ii H
      ·refine c_cond_t h rfl (bt hc_9) <| qr <| mv h rfl fun a h=>s_bits (i := x1) (j := 1023) (r := band .i64 x1 1023) h rfl rfl rfl (.inl ⟨rfl, rfl⟩) fun a h=>mv h rfl fun a h=>mv h rfl fun a h=>s_shift (r := shr .i64 x1 10) h rfl rfl rfl (by decide) (.inr ⟨rfl, rfl⟩) fun a h=>s_bits (i := shr .i64 x1 10) (j := 63) (r := band .i64 (shr .i64 x1 10) 63) h rfl rfl rfl (.inl ⟨rfl, rfl⟩) fun a h=>?_
       obtain ⟨t_4, et_4, H⟩ := bs H
       refine s_call h rfl Try.call28 rfl (hocketlaw10_Entry.calls x0 (band .i64 (shr .i64 x1 10) 63) t_4 w0 _ _ _ mr (hS.enter [] (by decide))  et_4) ?_
       rintro _ w_35 ⟨v_13, v_14, v_15, N_7, rfl, hS', hr_1, hr_2, hr_3⟩
       intro a h
       obtain ⟨N_8, hS'', le_7, ln_1⟩ := hS.call [] (by decide) rfl (l' := []) (ow := []) rfl hS'
       replace hS : Sep w0 w_35 [N_8, _, _] Z := hS''
       refine s_fieldAddr h rfl U32 rfl ti3 rfl rfl fun a h=>?_
       refine sto 2 h rfl rfl hS rfl ti3 rfl rfl rfl (oz rfl) fun w_36 hS' => ?_
       replace hS : Sep w0 w_36 [_, _, bx g_2 32 [_, _, _, _, _, _, _, _, _, _, _, _, _, _, _, _, iV (band .i64 x1 1023), _, _, _, _, _, _, _]] Z := hS'
       refine s_fieldAddr h rfl U32 rfl ti30 rfl rfl fun a h=>?_
       refine sto 2 h rfl rfl hS rfl ti30 rfl rfl rfl (oa 4 rfl (oc (hr_1.mono ln_1).one (oc (hr_2.mono ln_1).one (oc (hr_3.mono ln_1).one on0)))) fun w_37 hS' => ?_
       replace hS : Sep w0 w_37 [_, _, bx g_2 32 [_, _, _, _, _, _, _, _, _, _, _, _, _, _, _, _, _, iV t_4.Sess, iV t_4.Seq, iV t_4.Cmd.Kind, iV t_4.Cmd.Who, v_13, v_14, v_15]] Z := hS'
       refine nx <| wp_region_lit <| s_fieldAddr h rfl U32 rfl ti30 rfl rfl fun a h=>s_fieldAddr h rfl U30 rfl ti28 rfl rfl fun a h=>s_fieldAddr h rfl U28 rfl ti3 rfl rfl fun a h=>s_load h rfl rfl (hS.load_one (p := 2) rfl U3 rfl rfl) fun a h=>s_max h rfl rfl rfl fun a h=>s_fieldAddr h rfl U32 rfl ti30 rfl rfl fun a h=>s_fieldAddr h rfl U30 rfl ti28 rfl rfl fun a h=>s_fieldAddr h rfl U28 rfl ti3 rfl rfl fun a h=>?_
       refine sto 2 h rfl rfl hS rfl ti3 rfl rfl rfl (oz rfl) fun w_38 hS' => ?_
       replace hS : Sep w0 w_38 [_, _, bx g_2 32 [_, _, _, _, _, _, _, _, _, _, _, _, _, _, _, _, _, _, _, _, iV (mx t_4.Cmd.Who 0), _, _, _]] Z := hS'
       refine wpList_nil <| x_block_n <| x_then_n (hKJ_1 _ _ ?_)
       refine qr <| s_load h rfl rfl (hS.load_agg (p := 2) (us := [iV (w64 ((band .i64 x0 7) + 1)), iV (Int.tmod (band .i64 (shr .i64 x0 3) 7) 7), iV (Int.tmod (band .i64 (shr .i64 x0 6) 7) 7), iV (band .i64 (shr .i64 x0 9) 1023), iV 0, iV 0, .bool false, iV 0, iV 0, iV 0, iV 0, nS, iV 0, iV 0, nS, nS, iV (band .i64 x1 1023), iV t_4.Sess, iV t_4.Seq, iV t_4.Cmd.Kind, iV (mx t_4.Cmd.Who 0), v_13, v_14, v_15]) rfl U32 rfl ti32 rfl rfl) fun a h=>?_
       refine sto 1 h rfl rfl hS rfl ti32 rfl rfl rfl (oa 21 rfl (oc (hr_1.mono ln_1).one (oc (hr_2.mono ln_1).one (oc (hr_3.mono ln_1).one on0)))) fun w_39 hS' => ?_
       replace hS : Sep w0 w_39 [_, bx g_1 32 [iV (w64 ((band .i64 x0 7) + 1)), iV (Int.tmod (band .i64 (shr .i64 x0 3) 7) 7), iV (Int.tmod (band .i64 (shr .i64 x0 6) 7) 7), iV (band .i64 (shr .i64 x0 9) 1023), _, _, _, _, _, _, _, _, _, _, _, _, iV (band .i64 x1 1023), iV t_4.Sess, iV t_4.Seq, iV t_4.Cmd.Kind, iV (mx t_4.Cmd.Who 0), v_13, v_14, v_15], _] Z := hS'
       refine wpList_nil ?_
       replace h : Fr 150 a [(4, _)] := h.keep [4]
       refine x_then_n <| wp_ret ?_
       have hS' := hS.room
       replace hS : Sep w0 w_39 [_, _, _, Mem.no] Z := hS'
       have hS' := hS.room
       replace hS : Sep w0 w_39 [_, _, _, _, Mem.no] Z := hS'
       have hS' := hS.room
       replace hS : Sep w0 w_39 [_, _, _, _, _, Mem.no] Z := hS'
       obtain rfl := Option.some.inj H
       exact f_ret h (rs := [.cell 4 32]) rfl (.cell rfl (hS.load_agg (p := 1) (us := [iV (w64 ((band .i64 x0 7) + 1)), iV (Int.tmod (band .i64 (shr .i64 x0 3) 7) 7), iV (Int.tmod (band .i64 (shr .i64 x0 6) 7) 7), iV (band .i64 (shr .i64 x0 9) 1023), iV 0, iV 0, .bool false, iV 0, iV 0, iV 0, iV 0, nS, iV 0, iV 0, nS, nS, iV (band .i64 x1 1023), iV t_4.Sess, iV t_4.Seq, iV t_4.Cmd.Kind, iV (mx t_4.Cmd.Who 0), v_13, v_14, v_15]) rfl U32 rfl ti32 rfl rfl) .nil) ⟨_, rfl, nS, nS, nS, v_13, v_14, v_15, N_8, Mem.no, Mem.no, Mem.no, rfl, (hS.sel [0, 3, 4, 5] (by decide)), (Own.nil Kd.u8 5 Mem.no), (Own.nil (Kd.int .i64) 3 Mem.no), (Own.nil (Kd.int .i64) 3 Mem.no), (hr_1.mono ln_1), (hr_2.mono ln_1), (hr_3.mono ln_1)⟩
      ·refine c_cond_f h rfl (bf hc_9) <| wp_skip <| x_block_n <| x_then_n (hKJ_1 _ _ ?_)
       refine qr <| s_load h rfl rfl (hS.load_agg (p := 2) (us := [iV (w64 ((band .i64 x0 7) + 1)), iV (Int.tmod (band .i64 (shr .i64 x0 3) 7) 7), iV (Int.tmod (band .i64 (shr .i64 x0 6) 7) 7), iV (band .i64 (shr .i64 x0 9) 1023), iV 0, iV 0, .bool false, iV 0, iV 0, iV 0, iV 0, nS, iV 0, iV 0, nS, nS, iV 0, iV 0, iV 0, iV 0, iV 0, nS, nS, nS]) rfl U32 rfl ti32 rfl rfl) fun a h=>?_
       refine sto 1 h rfl rfl hS rfl ti32 rfl rfl rfl (oz rfl) fun w_40 hS' => ?_
       replace hS : Sep w0 w_40 [_, bx g_1 32 [iV (w64 ((band .i64 x0 7) + 1)), iV (Int.tmod (band .i64 (shr .i64 x0 3) 7) 7), iV (Int.tmod (band .i64 (shr .i64 x0 6) 7) 7), iV (band .i64 (shr .i64 x0 9) 1023), _, _, _, _, _, _, _, _, _, _, _, _, _, _, _, _, _, _, _, _], _] Z := hS'
       refine nx <| wp_ret ?_
       have hS' := hS.room
       replace hS : Sep w0 w_40 [_, _, _, Mem.no] Z := hS'
       have hS' := hS.room
       replace hS : Sep w0 w_40 [_, _, _, _, Mem.no] Z := hS'
       have hS' := hS.room
       replace hS : Sep w0 w_40 [_, _, _, _, _, Mem.no] Z := hS'
       obtain rfl := Option.some.inj H
       exact f_ret h (rs := [.cell 4 32]) rfl (.cell rfl (hS.load_agg (p := 1) (us := [iV (w64 ((band .i64 x0 7) + 1)), iV (Int.tmod (band .i64 (shr .i64 x0 3) 7) 7), iV (Int.tmod (band .i64 (shr .i64 x0 6) 7) 7), iV (band .i64 (shr .i64 x0 9) 1023), iV 0, iV 0, .bool false, iV 0, iV 0, iV 0, iV 0, nS, iV 0, iV 0, nS, nS, iV 0, iV 0, iV 0, iV 0, iV 0, nS, nS, nS]) rfl U32 rfl ti32 rfl rfl) .nil) ⟨_, rfl, nS, nS, nS, nS, nS, nS, Mem.no, Mem.no, Mem.no, Mem.no, rfl, (hS.sel [0, 3, 4, 5] (by decide)), (Own.nil Kd.u8 5 Mem.no), (Own.nil (Kd.int .i64) 3 Mem.no), (Own.nil (Kd.int .i64) 3 Mem.no), (Rd.nil _ _), (Rd.nil _ _), (Rd.nil _ _)⟩

set_option maxHeartbeats 4000000 in
set_option maxRecDepth 20000 in
theorem hocketref1_SameInts.calls (K : Nat) (x0 : List Int) (p0_0 : Value) (x1 : List Int) (p1_1 : Value) (r : Bool) (w0 w : World) (Z A : Mem) (hA : A.le Z) (hS : Sep w0 w [] Z) (hp0_0 : Rd (Kd.int .i64) A p0_0 x0) (hp1_1 : Rd (Kd.int .i64) A p1_1 x1)
    (H : hocketref1_SameInts.f K x0 x1 = some r) :
    Calls Try.prog 31 [p0_0, p1_1].toArray w (Ret fun v w' => ∃ (N : Mem), v = .bool r ∧ Sep w0 w' [N] Z) := by
 unfold hocketref1_SameInts.f at H
 refine f_enter _ Try.func31 rfl Try.ntmps31 rfl fun a h=>?_
 replace h : Fr 26 a [(0, p0_0), (1, p1_1)] := h
 replace hS := hS.start
 refine qr <| sg h rfl fun a h=>nx <| c_seq fun KJ_1 hKJ_1 => qr <| mv h rfl fun a h=>s_len h rfl U22 rfl hp0_0 fun a h=>mv h rfl fun a h=>s_len h rfl U22 rfl hp1_1 fun a h=>?_
 refine s_cmp (b := ((x0.length : Int) != (x1.length : Int))) h rfl rfl rfl (.inr (.inl ⟨rfl, rfl⟩)) fun a h=>wpList_nil <| x_then_n ?_
 obtain ⟨hc_1, H⟩ | ⟨hc_1, H⟩ := ii H
 ·refine c_cond_f h rfl (xf hc_1) <| wp_skip <| x_then_n (hKJ_1 _ _ ?_)
  refine c_seq fun KJ_2 hKJ_2 => qr <| sg h rfl fun a h=>wpList_nil <| x_then_n ?_
  have hJ_j_1 : hocketref1_SameInts.J1 K = some r → ∀ (a : Act) (w_1 : World), (∃ (N_1 : Mem), Fr 26 a [(4, .bool false)] ∧ Sep w0 w_1 [N_1] Z ∧ Mem.no.le N_1) → KJ_2 a w_1 := by
   clear H h hS a
   rintro H a w_1 ⟨N_1, h, hS, le_1⟩
   unfold hocketref1_SameInts.J1 at H
   refine hKJ_2 _ _ <| qr <| sg h rfl fun a h=>wpList_nil ?_
   replace h : Fr 26 a [(4, .bool true)] := h.keep [4]
   refine x_then_n <| wp_ret ?_
   obtain rfl := Option.some.inj H
   exact r1 h 4 rfl rfl ⟨_, rfl, N_1, rfl, (hS.sel [0] (by decide))⟩
  clear hKJ_2
  refine c_block <| c_loop (fun k_1 a w_2 => ∃ (x_1 : Int) (N_2 : Mem), hocketref1_SameInts.L1 K x0 x1 (fun v => hocketref1_SameInts.J1 K) k_1 x_1 = some r ∧ Fr 26 a [(0, p0_0), (1, p1_1), (4, .bool false), (5, iV x_1)] ∧ Sep w0 w_2 [N_2] Z ∧ Mem.no.le N_2) K ⟨0, Mem.no, H, (h.keep [0, 1, 4, 5]), (hS.sel [0] (by decide)), mr⟩ (fun a w h => by obtain ⟨_, _, H, _⟩ := h; cases (show (none : Option (Bool)) = some r from H)) ?_
  clear h hS a H
  rintro k_1 a w_2 KL_1 hKL_1 ⟨x_1, N_2, H, h, hS, le_2⟩
  replace H : hocketref1_SameInts.B1 K x0 x1 (fun v => hocketref1_SameInts.J1 K) (hocketref1_SameInts.L1 K x0 x1 (fun v => hocketref1_SameInts.J1 K) k_1) x_1 = some r := H
  unfold hocketref1_SameInts.B1 at H
  refine c_seq fun KJ_3 hKJ_3 => qr <| mv h rfl fun a h=>mv h rfl fun a h=>s_len h rfl U22 rfl hp0_0 fun a h=>s_cmp (b := decide (x_1 < (x0.length : Int))) h rfl rfl rfl (.inr (.inr (.inl ⟨rfl, rfl⟩))) fun a h=>wpList_nil ?_
  replace h : Fr 26 a [(0, _), (1, _), (4, _), (5, _), (14, .bool (decide (x_1 < (x0.length : Int))))] := h.keep [0, 1, 4, 5, 14]
  refine x_then_n ?_
  obtain ⟨hc_2, H⟩ | ⟨hc_2, H⟩ := ii H
  ·refine c_cond_t h rfl (dt hc_2) <| wp_skip <| x_then_n (hKJ_3 _ _ ?_)
   refine c_seq fun KJ_4 hKJ_4 => c_block <| c_seq fun KJ_5 hKJ_5 => h_begin (S := fun w => Sep w0 w [N_2] Z) 9 (by kernel_rfl) rfl (bA 9 0) (by kernel_rfl) hS fun w_3 hS => ?_
   refine t_take 0 (bA 9 1) rfl rfl rfl rfl h (hS.sub .ii) (v := p0_0) (fun w hS => r_move h rfl) fun a h=>t_take 1 (bA 9 3) rfl rfl rfl rfl h (hS.sub .ii) (v := iV x_1) (fun w hS => r_move h rfl) fun a h=>?_
   obtain ⟨t_1, et_1, H⟩ := bs H
   refine t_takeE 2 (bA 9 7) rfl rfl rfl rfl h (hS.sub .ii) (f := fun ad => .pointer (some ad)) (r_index h U22 ti3 rfl rfl rfl hp0_0 et_1) ?_
   rintro ad_1 ⟨cs_1, hk_1, hc_3⟩
   obtain rfl := (show cs_1 = [iV t_1] from hk_1)
   intro a h
   refine t_take 3 (bA 9 15) rfl rfl rfl rfl h (hS.sub .ii) (v := iV t_1) (fun w hS => r_load h rfl (el_one (o := 0) (fun j c h => Mem.cell_le (hA.trans hS.old) (hc_3 j c h)) U3 rfl rfl)) fun a h=>t_take 4 (bA 9 31) rfl rfl rfl rfl h (hS.sub .ii) (v := p1_1) (fun w hS => r_move h rfl) fun a h=>t_take 5 (bA 9 63) rfl rfl rfl rfl h (hS.sub .ii) (v := iV x_1) (fun w hS => r_move h rfl) fun a h=>?_
   obtain ⟨t_2, et_2, H⟩ := bs H
   refine t_takeE 6 (bA 9 127) rfl rfl rfl rfl h (hS.sub .ii) (f := fun ad => .pointer (some ad)) (r_index h U22 ti3 rfl rfl rfl hp1_1 et_2) ?_
   rintro ad_2 ⟨cs_2, hk_2, hc_4⟩
   obtain rfl := (show cs_2 = [iV t_2] from hk_2)
   intro a h
   refine t_take 7 (bA 9 255) rfl rfl rfl rfl h (hS.sub .ii) (v := iV t_2) (fun w hS => r_load h rfl (el_one (o := 0) (fun j c h => Mem.cell_le (hA.trans hS.old) (hc_4 j c h)) U3 rfl rfl)) fun a h=>t_take 8 (bA 9 511) rfl rfl rfl rfl h (hS.sub .ii) (v := .bool (t_1 != t_2)) (fun w hS => r_cmp (b := (t_1 != t_2)) h rfl rfl (.inr (.inl ⟨rfl, rfl⟩))) fun a h=>h_done (by kernel_rfl) <| x_then_n (hKJ_5 _ _ ?_)
   obtain ⟨hc_5, H⟩ | ⟨hc_5, H⟩ := ii H
   ·refine c_cond_f h rfl (xf hc_5) <| wp_skip <| x_block_n <| x_then_n (hKJ_4 _ _ ?_)
    refine wp_region_lit <| mv h rfl fun a h=>s_arith (r := w64 (x_1 + 1)) h rfl rfl rfl (.inl ⟨rfl, rfl⟩) fun a h=>sg h rfl fun a h=>wpList_nil <| x_then_n (hKL_1 _ _ ?_)
    exact ⟨w64 (x_1 + 1), N_2, H, (h.keep [0, 1, 4, 5]), (hS.sel [0] (by decide)), le_2⟩
   ·refine c_cond_t h rfl (xt hc_5) <| qr <| sg h rfl fun a h=>nx <| wp_ret (x_block_r (x_then_r (x_then_r (x_block_r (x_then_r ?_)))))
    obtain rfl := Option.some.inj H
    exact r1 h 4 rfl rfl ⟨_, rfl, N_2, rfl, (hS.sel [0] (by decide))⟩
  ·refine c_cond_f h rfl (df hc_2) <| wp_exit (x_then_x (x_then_x (x_block_t ?_)))
   exact x_then_n (hJ_j_1  H _ _ ⟨N_2, (h.keep [4]), (hS.sel [0] (by decide)), le_2⟩)
 ·refine c_cond_t h rfl (xt hc_1) <| qr <| sg h rfl fun a h=>nx <| wp_ret (x_then_r ?_)
  obtain rfl := Option.some.inj H
  exact r1 h 4 rfl rfl ⟨_, rfl, Mem.no, rfl, (hS.sel [0] (by decide))⟩

set_option maxHeartbeats 4000000 in
set_option maxRecDepth 20000 in
theorem hocketref4_SameEntry.calls (x0 : api_Entry) (p0_0 : Value) (p0_1 : Value) (p0_2 : Value) (x1 : api_Entry) (p1_3 : Value) (p1_4 : Value) (p1_5 : Value) (r : Bool) (w0 w : World) (Z A : Mem) (hA : A.le Z) (hS : Sep w0 w [] Z) (hp0_0 : Rd Kd.u8 A p0_0 x0.Cmd.Key) (hp0_1 : Rd Kd.u8 A p0_1 x0.Cmd.Val) (hp0_2 : Rd Kd.u8 A p0_2 x0.Cmd.Old) (hp1_3 : Rd Kd.u8 A p1_3 x1.Cmd.Key) (hp1_4 : Rd Kd.u8 A p1_4 x1.Cmd.Val) (hp1_5 : Rd Kd.u8 A p1_5 x1.Cmd.Old)
    (H : hocketref4_SameEntry.f x0 x1 = some r) :
    Calls Try.prog 32 [.agg (E30 x0 p0_0 p0_1 p0_2).toArray, .agg (E30 x1 p1_3 p1_4 p1_5).toArray].toArray w (Ret fun v w' => ∃ (N : Mem), v = .bool r ∧ Sep w0 w' [N] Z) := by
 unfold hocketref4_SameEntry.f at H
 refine f_enter _ Try.func32 rfl Try.ntmps32 rfl fun a h=>?_
 replace h : Fr 68 a [(0, .agg (E30 x0 p0_0 p0_1 p0_2).toArray), (1, .agg (E30 x1 p1_3 p1_4 p1_5).toArray)] := h
 replace hS := hS.start
 refine qr <| v_box (vs := (E30 x0 p0_0 p0_1 p0_2)) h rfl rfl rfl hS fun w_1 g_1 hS' a h => ?_
 replace hS : Sep w0 w_1 [_, bx g_1 30 (E30 x0 p0_0 p0_1 p0_2)] Z := hS'
 refine v_box (vs := (E30 x1 p1_3 p1_4 p1_5)) h rfl rfl rfl hS fun w_2 g_2 hS' a h => ?_
 replace hS : Sep w0 w_2 [_, _, bx g_2 30 (E30 x1 p1_3 p1_4 p1_5)] Z := hS'
 refine sg h rfl fun a h=>nx <| c_seq fun KJ_1 hKJ_1 => wp_region_lit <| s_fieldAddr h rfl U30 rfl ti3 rfl rfl fun a h=>s_load h rfl rfl (hS.load_one (p := 1) rfl U3 rfl rfl) fun a h=>s_fieldAddr h rfl U30 rfl ti3 rfl rfl fun a h=>s_load h rfl rfl (hS.load_one (p := 2) rfl U3 rfl rfl) fun a h=>s_cmp (b := (x0.Sess == x1.Sess)) h rfl rfl rfl (.inl ⟨rfl, rfl⟩) fun a h=>mv h rfl fun a h=>?_
 obtain ⟨hc_1, H⟩ | ⟨hc_1, H⟩ := ii H
 ·refine s_on h rfl rfl (bt hc_1) <| s_fieldAddr h rfl U30 rfl ti3 rfl rfl fun a h=>s_on h rfl rfl (bt hc_1) <| s_load h rfl rfl (hS.load_one (p := 1) rfl U3 rfl rfl) fun a h=>s_on h rfl rfl (bt hc_1) <| s_fieldAddr h rfl U30 rfl ti3 rfl rfl fun a h=>s_on h rfl rfl (bt hc_1) <| s_load h rfl rfl (hS.load_one (p := 2) rfl U3 rfl rfl) fun a h=>s_on h rfl rfl (bt hc_1) <| s_cmp (b := (x0.Seq == x1.Seq)) h rfl rfl rfl (.inl ⟨rfl, rfl⟩) fun a h=>pt h rfl (bt hc_1) fun a h=>mv h rfl fun a h=>?_
  obtain ⟨hc_2, H⟩ | ⟨hc_2, H⟩ := ii H
  ·refine s_on h rfl rfl (bt hc_2) <| s_fieldAddr h rfl U30 rfl ti28 rfl rfl fun a h=>s_on h rfl rfl (bt hc_2) <| s_fieldAddr h rfl U28 rfl ti3 rfl rfl fun a h=>s_on h rfl rfl (bt hc_2) <| s_load h rfl rfl (hS.load_one (p := 1) rfl U3 rfl rfl) fun a h=>s_on h rfl rfl (bt hc_2) <| s_fieldAddr h rfl U30 rfl ti28 rfl rfl fun a h=>s_on h rfl rfl (bt hc_2) <| s_fieldAddr h rfl U28 rfl ti3 rfl rfl fun a h=>s_on h rfl rfl (bt hc_2) <| s_load h rfl rfl (hS.load_one (p := 2) rfl U3 rfl rfl) fun a h=>?_
   refine s_on h rfl rfl (bt hc_2) <| s_cmp (b := (x0.Cmd.Kind == x1.Cmd.Kind)) h rfl rfl rfl (.inl ⟨rfl, rfl⟩) fun a h=>pt h rfl (bt hc_2) fun a h=>mv h rfl fun a h=>?_
   obtain ⟨hc_3, H⟩ | ⟨hc_3, H⟩ := ii H
   ·refine s_on h rfl rfl (bt hc_3) <| s_fieldAddr h rfl U30 rfl ti28 rfl rfl fun a h=>s_on h rfl rfl (bt hc_3) <| s_fieldAddr h rfl U28 rfl ti3 rfl rfl fun a h=>s_on h rfl rfl (bt hc_3) <| s_load h rfl rfl (hS.load_one (p := 1) rfl U3 rfl rfl) fun a h=>s_on h rfl rfl (bt hc_3) <| s_fieldAddr h rfl U30 rfl ti28 rfl rfl fun a h=>s_on h rfl rfl (bt hc_3) <| s_fieldAddr h rfl U28 rfl ti3 rfl rfl fun a h=>s_on h rfl rfl (bt hc_3) <| s_load h rfl rfl (hS.load_one (p := 2) rfl U3 rfl rfl) fun a h=>?_
    refine s_on h rfl rfl (bt hc_3) <| s_cmp (b := (x0.Cmd.Who == x1.Cmd.Who)) h rfl rfl rfl (.inl ⟨rfl, rfl⟩) fun a h=>pt h rfl (bt hc_3) fun a h=>mv h rfl fun a h=>?_
    obtain ⟨hc_4, H⟩ | ⟨hc_4, H⟩ := ii H
    ·refine s_on h rfl rfl (bt hc_4) <| s_fieldAddr h rfl U30 rfl ti28 rfl rfl fun a h=>s_on h rfl rfl (bt hc_4) <| s_fieldAddr h rfl U28 rfl ti26 rfl rfl fun a h=>s_on h rfl rfl (bt hc_4) <| s_load h rfl rfl (hS.load_one (p := 1) rfl U26 rfl rfl) fun a h=>s_on h rfl rfl (bt hc_4) <| s_b2s h rfl U26 U5 U9 rfl hp0_0 (hA.trans hS.old) fun a h=>s_on h rfl rfl (bt hc_4) <| s_fieldAddr h rfl U30 rfl ti28 rfl rfl fun a h=>s_on h rfl rfl (bt hc_4) <| s_fieldAddr h rfl U28 rfl ti26 rfl rfl fun a h=>?_
     refine s_on h rfl rfl (bt hc_4) <| s_load h rfl rfl (hS.load_one (p := 2) rfl U26 rfl rfl) fun a h=>s_on h rfl rfl (bt hc_4) <| s_b2s h rfl U26 U5 U9 rfl hp1_3 (hA.trans hS.old) fun a h=>s_on h rfl rfl (bt hc_4) <| s_strEq (b := (x0.Cmd.Key == x1.Cmd.Key)) h rfl rfl rfl (.inl ⟨rfl, rfl⟩) fun a h=>pt h rfl (bt hc_4) fun a h=>mv h rfl fun a h=>?_
     obtain ⟨hc_5, H⟩ | ⟨hc_5, H⟩ := ii H
     ·refine s_on h rfl rfl (bt hc_5) <| s_fieldAddr h rfl U30 rfl ti28 rfl rfl fun a h=>s_on h rfl rfl (bt hc_5) <| s_fieldAddr h rfl U28 rfl ti26 rfl rfl fun a h=>s_on h rfl rfl (bt hc_5) <| s_load h rfl rfl (hS.load_one (p := 1) rfl U26 rfl rfl) fun a h=>s_on h rfl rfl (bt hc_5) <| s_b2s h rfl U26 U5 U9 rfl hp0_1 (hA.trans hS.old) fun a h=>s_on h rfl rfl (bt hc_5) <| s_fieldAddr h rfl U30 rfl ti28 rfl rfl fun a h=>s_on h rfl rfl (bt hc_5) <| s_fieldAddr h rfl U28 rfl ti26 rfl rfl fun a h=>?_
      refine s_on h rfl rfl (bt hc_5) <| s_load h rfl rfl (hS.load_one (p := 2) rfl U26 rfl rfl) fun a h=>s_on h rfl rfl (bt hc_5) <| s_b2s h rfl U26 U5 U9 rfl hp1_4 (hA.trans hS.old) fun a h=>s_on h rfl rfl (bt hc_5) <| s_strEq (b := (x0.Cmd.Val == x1.Cmd.Val)) h rfl rfl rfl (.inl ⟨rfl, rfl⟩) fun a h=>pt h rfl (bt hc_5) fun a h=>mv h rfl fun a h=>?_
      obtain ⟨hc_6, H⟩ | ⟨hc_6, H⟩ := ii H
      ·refine s_on h rfl rfl (bt hc_6) <| s_fieldAddr h rfl U30 rfl ti28 rfl rfl fun a h=>s_on h rfl rfl (bt hc_6) <| s_fieldAddr h rfl U28 rfl ti26 rfl rfl fun a h=>s_on h rfl rfl (bt hc_6) <| s_load h rfl rfl (hS.load_one (p := 1) rfl U26 rfl rfl) fun a h=>s_on h rfl rfl (bt hc_6) <| s_b2s h rfl U26 U5 U9 rfl hp0_2 (hA.trans hS.old) fun a h=>s_on h rfl rfl (bt hc_6) <| s_fieldAddr h rfl U30 rfl ti28 rfl rfl fun a h=>s_on h rfl rfl (bt hc_6) <| s_fieldAddr h rfl U28 rfl ti26 rfl rfl fun a h=>?_
       refine s_on h rfl rfl (bt hc_6) <| s_load h rfl rfl (hS.load_one (p := 2) rfl U26 rfl rfl) fun a h=>s_on h rfl rfl (bt hc_6) <| s_b2s h rfl U26 U5 U9 rfl hp1_5 (hA.trans hS.old) fun a h=>s_on h rfl rfl (bt hc_6) <| s_strEq (b := (x0.Cmd.Old == x1.Cmd.Old)) h rfl rfl rfl (.inl ⟨rfl, rfl⟩) fun a h=>pt h rfl (bt hc_6) fun a h=>sg h rfl fun a h=>wpList_nil <| x_then_n (hKJ_1 _ _ ?_)
       refine wp_ret ?_
       obtain rfl := Option.some.inj H
       exact r1 h 4 rfl rfl ⟨_, rfl, Mem.no, rfl, (hS.sel [0] (by decide))⟩
      ·refine of h rfl rfl (bf hc_6) fun a h=>of h rfl rfl (bf hc_6) fun a h=>of h rfl rfl (bf hc_6) fun a h=>of h rfl rfl (bf hc_6) fun a h=>of h rfl rfl (bf hc_6) fun a h=>of h rfl rfl (bf hc_6) fun a h=>of h rfl rfl (bf hc_6) fun a h=>of h rfl rfl (bf hc_6) fun a h=>of h rfl rfl (bf hc_6) fun a h=>pf h rfl (bf hc_6) fun a h=>sg h rfl fun a h=>wpList_nil <| x_then_n (hKJ_1 _ _ ?_)
       refine wp_ret ?_
       obtain rfl := Option.some.inj H
       exact r1 h 4 rfl rfl ⟨_, rfl, Mem.no, rfl, (hS.sel [0] (by decide))⟩
     ·refine of h rfl rfl (bf hc_5) fun a h=>of h rfl rfl (bf hc_5) fun a h=>of h rfl rfl (bf hc_5) fun a h=>of h rfl rfl (bf hc_5) fun a h=>of h rfl rfl (bf hc_5) fun a h=>of h rfl rfl (bf hc_5) fun a h=>of h rfl rfl (bf hc_5) fun a h=>of h rfl rfl (bf hc_5) fun a h=>of h rfl rfl (bf hc_5) fun a h=>pf h rfl (bf hc_5) fun a h=>mv h rfl fun a h=>oo h rfl rfl fun a h=>?_
      refine oo h rfl rfl fun a h=>oo h rfl rfl fun a h=>oo h rfl rfl fun a h=>oo h rfl rfl fun a h=>oo h rfl rfl fun a h=>oo h rfl rfl fun a h=>oo h rfl rfl fun a h=>oo h rfl rfl fun a h=>pf h rfl rfl fun a h=>sg h rfl fun a h=>wpList_nil <| x_then_n (hKJ_1 _ _ ?_)
      refine wp_ret ?_
      obtain rfl := Option.some.inj H
      exact r1 h 4 rfl rfl ⟨_, rfl, Mem.no, rfl, (hS.sel [0] (by decide))⟩
    ·refine of h rfl rfl (bf hc_4) fun a h=>of h rfl rfl (bf hc_4) fun a h=>of h rfl rfl (bf hc_4) fun a h=>of h rfl rfl (bf hc_4) fun a h=>of h rfl rfl (bf hc_4) fun a h=>of h rfl rfl (bf hc_4) fun a h=>of h rfl rfl (bf hc_4) fun a h=>of h rfl rfl (bf hc_4) fun a h=>of h rfl rfl (bf hc_4) fun a h=>pf h rfl (bf hc_4) fun a h=>mv h rfl fun a h=>oo h rfl rfl fun a h=>?_
     refine oo h rfl rfl fun a h=>oo h rfl rfl fun a h=>oo h rfl rfl fun a h=>oo h rfl rfl fun a h=>oo h rfl rfl fun a h=>oo h rfl rfl fun a h=>oo h rfl rfl fun a h=>oo h rfl rfl fun a h=>pf h rfl rfl fun a h=>mv h rfl fun a h=>oo h rfl rfl fun a h=>oo h rfl rfl fun a h=>?_
     refine oo h rfl rfl fun a h=>oo h rfl rfl fun a h=>oo h rfl rfl fun a h=>oo h rfl rfl fun a h=>oo h rfl rfl fun a h=>oo h rfl rfl fun a h=>oo h rfl rfl fun a h=>pf h rfl rfl fun a h=>sg h rfl fun a h=>wpList_nil <| x_then_n (hKJ_1 _ _ ?_)
     refine wp_ret ?_
     obtain rfl := Option.some.inj H
     exact r1 h 4 rfl rfl ⟨_, rfl, Mem.no, rfl, (hS.sel [0] (by decide))⟩
   ·refine of h rfl rfl (bf hc_3) fun a h=>of h rfl rfl (bf hc_3) fun a h=>of h rfl rfl (bf hc_3) fun a h=>of h rfl rfl (bf hc_3) fun a h=>of h rfl rfl (bf hc_3) fun a h=>of h rfl rfl (bf hc_3) fun a h=>of h rfl rfl (bf hc_3) fun a h=>pf h rfl (bf hc_3) fun a h=>mv h rfl fun a h=>oo h rfl rfl fun a h=>oo h rfl rfl fun a h=>oo h rfl rfl fun a h=>?_
    refine oo h rfl rfl fun a h=>oo h rfl rfl fun a h=>oo h rfl rfl fun a h=>oo h rfl rfl fun a h=>oo h rfl rfl fun a h=>oo h rfl rfl fun a h=>pf h rfl rfl fun a h=>mv h rfl fun a h=>oo h rfl rfl fun a h=>oo h rfl rfl fun a h=>oo h rfl rfl fun a h=>oo h rfl rfl fun a h=>?_
    refine oo h rfl rfl fun a h=>oo h rfl rfl fun a h=>oo h rfl rfl fun a h=>oo h rfl rfl fun a h=>oo h rfl rfl fun a h=>pf h rfl rfl fun a h=>mv h rfl fun a h=>oo h rfl rfl fun a h=>oo h rfl rfl fun a h=>oo h rfl rfl fun a h=>oo h rfl rfl fun a h=>oo h rfl rfl fun a h=>?_
    refine oo h rfl rfl fun a h=>oo h rfl rfl fun a h=>oo h rfl rfl fun a h=>oo h rfl rfl fun a h=>pf h rfl rfl fun a h=>sg h rfl fun a h=>wpList_nil <| x_then_n (hKJ_1 _ _ ?_)
    refine wp_ret ?_
    obtain rfl := Option.some.inj H
    exact r1 h 4 rfl rfl ⟨_, rfl, Mem.no, rfl, (hS.sel [0] (by decide))⟩
  ·refine of h rfl rfl (bf hc_2) fun a h=>of h rfl rfl (bf hc_2) fun a h=>of h rfl rfl (bf hc_2) fun a h=>of h rfl rfl (bf hc_2) fun a h=>of h rfl rfl (bf hc_2) fun a h=>of h rfl rfl (bf hc_2) fun a h=>of h rfl rfl (bf hc_2) fun a h=>pf h rfl (bf hc_2) fun a h=>mv h rfl fun a h=>oo h rfl rfl fun a h=>oo h rfl rfl fun a h=>oo h rfl rfl fun a h=>?_
   refine oo h rfl rfl fun a h=>oo h rfl rfl fun a h=>oo h rfl rfl fun a h=>oo h rfl rfl fun a h=>pf h rfl rfl fun a h=>mv h rfl fun a h=>oo h rfl rfl fun a h=>oo h rfl rfl fun a h=>oo h rfl rfl fun a h=>oo h rfl rfl fun a h=>oo h rfl rfl fun a h=>oo h rfl rfl fun a h=>?_
   refine oo h rfl rfl fun a h=>oo h rfl rfl fun a h=>oo h rfl rfl fun a h=>pf h rfl rfl fun a h=>mv h rfl fun a h=>oo h rfl rfl fun a h=>oo h rfl rfl fun a h=>oo h rfl rfl fun a h=>oo h rfl rfl fun a h=>oo h rfl rfl fun a h=>oo h rfl rfl fun a h=>oo h rfl rfl fun a h=>?_
   refine oo h rfl rfl fun a h=>oo h rfl rfl fun a h=>pf h rfl rfl fun a h=>mv h rfl fun a h=>oo h rfl rfl fun a h=>oo h rfl rfl fun a h=>oo h rfl rfl fun a h=>oo h rfl rfl fun a h=>oo h rfl rfl fun a h=>oo h rfl rfl fun a h=>oo h rfl rfl fun a h=>oo h rfl rfl fun a h=>?_
   refine oo h rfl rfl fun a h=>pf h rfl rfl fun a h=>sg h rfl fun a h=>wpList_nil <| x_then_n (hKJ_1 _ _ ?_)
   refine wp_ret ?_
   obtain rfl := Option.some.inj H
   exact r1 h 4 rfl rfl ⟨_, rfl, Mem.no, rfl, (hS.sel [0] (by decide))⟩
 ·refine of h rfl rfl (bf hc_1) fun a h=>of h rfl rfl (bf hc_1) fun a h=>of h rfl rfl (bf hc_1) fun a h=>of h rfl rfl (bf hc_1) fun a h=>of h rfl rfl (bf hc_1) fun a h=>pf h rfl (bf hc_1) fun a h=>mv h rfl fun a h=>oo h rfl rfl fun a h=>oo h rfl rfl fun a h=>oo h rfl rfl fun a h=>oo h rfl rfl fun a h=>oo h rfl rfl fun a h=>?_
  refine oo h rfl rfl fun a h=>oo h rfl rfl fun a h=>pf h rfl rfl fun a h=>mv h rfl fun a h=>oo h rfl rfl fun a h=>oo h rfl rfl fun a h=>oo h rfl rfl fun a h=>oo h rfl rfl fun a h=>oo h rfl rfl fun a h=>oo h rfl rfl fun a h=>oo h rfl rfl fun a h=>pf h rfl rfl fun a h=>?_
  refine mv h rfl fun a h=>oo h rfl rfl fun a h=>oo h rfl rfl fun a h=>oo h rfl rfl fun a h=>oo h rfl rfl fun a h=>oo h rfl rfl fun a h=>oo h rfl rfl fun a h=>oo h rfl rfl fun a h=>oo h rfl rfl fun a h=>oo h rfl rfl fun a h=>pf h rfl rfl fun a h=>mv h rfl fun a h=>?_
  refine oo h rfl rfl fun a h=>oo h rfl rfl fun a h=>oo h rfl rfl fun a h=>oo h rfl rfl fun a h=>oo h rfl rfl fun a h=>oo h rfl rfl fun a h=>oo h rfl rfl fun a h=>oo h rfl rfl fun a h=>oo h rfl rfl fun a h=>pf h rfl rfl fun a h=>mv h rfl fun a h=>oo h rfl rfl fun a h=>?_
  refine oo h rfl rfl fun a h=>oo h rfl rfl fun a h=>oo h rfl rfl fun a h=>oo h rfl rfl fun a h=>oo h rfl rfl fun a h=>oo h rfl rfl fun a h=>oo h rfl rfl fun a h=>oo h rfl rfl fun a h=>pf h rfl rfl fun a h=>sg h rfl fun a h=>wpList_nil <| x_then_n (hKJ_1 _ _ ?_)
  refine wp_ret ?_
  obtain rfl := Option.some.inj H
  exact r1 h 4 rfl rfl ⟨_, rfl, Mem.no, rfl, (hS.sel [0] (by decide))⟩

set_option maxHeartbeats 4000000 in
set_option maxRecDepth 20000 in
theorem hocketref11_Same.calls (K : Nat) (x0 : api_Msg) (p0_0 : Value) (p0_1 : Value) (p0_2 : Value) (p0_3 : Value) (p0_4 : Value) (p0_5 : Value) (x1 : api_Msg) (p1_6 : Value) (p1_7 : Value) (p1_8 : Value) (p1_9 : Value) (p1_10 : Value) (p1_11 : Value) (r : Bool) (w0 w : World) (Z A : Mem) (hA : A.le Z) (hS : Sep w0 w [] Z) (hp0_0 : Rd Kd.u8 A p0_0 x0.Data) (hp0_1 : Rd (Kd.int .i64) A p0_1 x0.Have) (hp0_2 : Rd (Kd.int .i64) A p0_2 x0.Need) (hp0_3 : Rd Kd.u8 A p0_3 x0.Entry.Cmd.Key) (hp0_4 : Rd Kd.u8 A p0_4 x0.Entry.Cmd.Val) (hp0_5 : Rd Kd.u8 A p0_5 x0.Entry.Cmd.Old) (hp1_6 : Rd Kd.u8 A p1_6 x1.Data) (hp1_7 : Rd (Kd.int .i64) A p1_7 x1.Have) (hp1_8 : Rd (Kd.int .i64) A p1_8 x1.Need) (hp1_9 : Rd Kd.u8 A p1_9 x1.Entry.Cmd.Key) (hp1_10 : Rd Kd.u8 A p1_10 x1.Entry.Cmd.Val) (hp1_11 : Rd Kd.u8 A p1_11 x1.Entry.Cmd.Old)
    (H : hocketref11_Same.f K x0 x1 = some r) :
    Calls Try.prog 17 [.agg (E32 x0 p0_0 p0_1 p0_2 p0_3 p0_4 p0_5).toArray, .agg (E32 x1 p1_6 p1_7 p1_8 p1_9 p1_10 p1_11).toArray].toArray w (Ret fun v w' => ∃ (N : Mem), v = .bool r ∧ Sep w0 w' [N] Z) := by
 unfold hocketref11_Same.f at H
 refine f_enter _ Try.func17 rfl Try.ntmps17 rfl fun a h=>?_
 replace h : Fr 131 a [(0, .agg (E32 x0 p0_0 p0_1 p0_2 p0_3 p0_4 p0_5).toArray), (1, .agg (E32 x1 p1_6 p1_7 p1_8 p1_9 p1_10 p1_11).toArray)] := h
 replace hS := hS.start
 refine qr <| v_box (vs := (E32 x0 p0_0 p0_1 p0_2 p0_3 p0_4 p0_5)) h rfl rfl rfl hS fun w_1 g_1 hS' a h => ?_
 replace hS : Sep w0 w_1 [_, bx g_1 32 (E32 x0 p0_0 p0_1 p0_2 p0_3 p0_4 p0_5)] Z := hS'
 refine v_box (vs := (E32 x1 p1_6 p1_7 p1_8 p1_9 p1_10 p1_11)) h rfl rfl rfl hS fun w_2 g_2 hS' a h => ?_
 replace hS : Sep w0 w_2 [_, _, bx g_2 32 (E32 x1 p1_6 p1_7 p1_8 p1_9 p1_10 p1_11)] Z := hS'
 refine sg h rfl fun a h=>nx <| c_seq fun KJ_1 hKJ_1 => wp_region_lit <| s_fieldAddr h rfl U32 rfl ti3 rfl rfl fun a h=>s_load h rfl rfl (hS.load_one (p := 1) rfl U3 rfl rfl) fun a h=>s_fieldAddr h rfl U32 rfl ti3 rfl rfl fun a h=>s_load h rfl rfl (hS.load_one (p := 2) rfl U3 rfl rfl) fun a h=>s_cmp (b := (x0.Kind == x1.Kind)) h rfl rfl rfl (.inl ⟨rfl, rfl⟩) fun a h=>mv h rfl fun a h=>?_
 obtain ⟨hc_1, H⟩ | ⟨hc_1, H⟩ := ii H
 ·refine s_on h rfl rfl (bt hc_1) <| s_fieldAddr h rfl U32 rfl ti3 rfl rfl fun a h=>s_on h rfl rfl (bt hc_1) <| s_load h rfl rfl (hS.load_one (p := 1) rfl U3 rfl rfl) fun a h=>s_on h rfl rfl (bt hc_1) <| s_fieldAddr h rfl U32 rfl ti3 rfl rfl fun a h=>s_on h rfl rfl (bt hc_1) <| s_load h rfl rfl (hS.load_one (p := 2) rfl U3 rfl rfl) fun a h=>s_on h rfl rfl (bt hc_1) <| s_cmp (b := (x0.From == x1.From)) h rfl rfl rfl (.inl ⟨rfl, rfl⟩) fun a h=>pt h rfl (bt hc_1) fun a h=>mv h rfl fun a h=>?_
  obtain ⟨hc_2, H⟩ | ⟨hc_2, H⟩ := ii H
  ·refine s_on h rfl rfl (bt hc_2) <| s_fieldAddr h rfl U32 rfl ti3 rfl rfl fun a h=>s_on h rfl rfl (bt hc_2) <| s_load h rfl rfl (hS.load_one (p := 1) rfl U3 rfl rfl) fun a h=>s_on h rfl rfl (bt hc_2) <| s_fieldAddr h rfl U32 rfl ti3 rfl rfl fun a h=>s_on h rfl rfl (bt hc_2) <| s_load h rfl rfl (hS.load_one (p := 2) rfl U3 rfl rfl) fun a h=>s_on h rfl rfl (bt hc_2) <| s_cmp (b := (x0.To == x1.To)) h rfl rfl rfl (.inl ⟨rfl, rfl⟩) fun a h=>pt h rfl (bt hc_2) fun a h=>mv h rfl fun a h=>?_
   obtain ⟨hc_3, H⟩ | ⟨hc_3, H⟩ := ii H
   ·refine s_on h rfl rfl (bt hc_3) <| s_fieldAddr h rfl U32 rfl ti3 rfl rfl fun a h=>s_on h rfl rfl (bt hc_3) <| s_load h rfl rfl (hS.load_one (p := 1) rfl U3 rfl rfl) fun a h=>s_on h rfl rfl (bt hc_3) <| s_fieldAddr h rfl U32 rfl ti3 rfl rfl fun a h=>s_on h rfl rfl (bt hc_3) <| s_load h rfl rfl (hS.load_one (p := 2) rfl U3 rfl rfl) fun a h=>s_on h rfl rfl (bt hc_3) <| s_cmp (b := (x0.View == x1.View)) h rfl rfl rfl (.inl ⟨rfl, rfl⟩) fun a h=>pt h rfl (bt hc_3) fun a h=>mv h rfl fun a h=>?_
    obtain ⟨hc_4, H⟩ | ⟨hc_4, H⟩ := ii H
    ·refine s_on h rfl rfl (bt hc_4) <| s_fieldAddr h rfl U32 rfl ti3 rfl rfl fun a h=>s_on h rfl rfl (bt hc_4) <| s_load h rfl rfl (hS.load_one (p := 1) rfl U3 rfl rfl) fun a h=>s_on h rfl rfl (bt hc_4) <| s_fieldAddr h rfl U32 rfl ti3 rfl rfl fun a h=>s_on h rfl rfl (bt hc_4) <| s_load h rfl rfl (hS.load_one (p := 2) rfl U3 rfl rfl) fun a h=>s_on h rfl rfl (bt hc_4) <| s_cmp (b := (x0.Inst == x1.Inst)) h rfl rfl rfl (.inl ⟨rfl, rfl⟩) fun a h=>pt h rfl (bt hc_4) fun a h=>mv h rfl fun a h=>?_
     obtain ⟨hc_5, H⟩ | ⟨hc_5, H⟩ := ii H
     ·refine s_on h rfl rfl (bt hc_5) <| s_fieldAddr h rfl U32 rfl ti3 rfl rfl fun a h=>s_on h rfl rfl (bt hc_5) <| s_load h rfl rfl (hS.load_one (p := 1) rfl U3 rfl rfl) fun a h=>s_on h rfl rfl (bt hc_5) <| s_fieldAddr h rfl U32 rfl ti3 rfl rfl fun a h=>s_on h rfl rfl (bt hc_5) <| s_load h rfl rfl (hS.load_one (p := 2) rfl U3 rfl rfl) fun a h=>s_on h rfl rfl (bt hc_5) <| s_cmp (b := (x0.Len == x1.Len)) h rfl rfl rfl (.inl ⟨rfl, rfl⟩) fun a h=>pt h rfl (bt hc_5) fun a h=>mv h rfl fun a h=>?_
      obtain ⟨hc_6, H⟩ | ⟨hc_6, H⟩ := ii H
      ·refine s_on h rfl rfl (bt hc_6) <| s_fieldAddr h rfl U32 rfl ti4 rfl rfl fun a h=>s_on h rfl rfl (bt hc_6) <| s_load h rfl rfl (hS.load_one (p := 1) rfl U4 rfl rfl) fun a h=>s_on h rfl rfl (bt hc_6) <| s_fieldAddr h rfl U32 rfl ti4 rfl rfl fun a h=>s_on h rfl rfl (bt hc_6) <| s_load h rfl rfl (hS.load_one (p := 2) rfl U4 rfl rfl) fun a h=>s_on h rfl rfl (bt hc_6) <| s_beq (b := (x0.Has == x1.Has)) h rfl U4 rfl rfl (.inl ⟨rfl, rfl⟩) fun a h=>pt h rfl (bt hc_6) fun a h=>mv h rfl fun a h=>?_
       obtain ⟨hc_7, H⟩ | ⟨hc_7, H⟩ := ii H
       ·refine s_on h rfl rfl (bt hc_7) <| s_fieldAddr h rfl U32 rfl ti3 rfl rfl fun a h=>s_on h rfl rfl (bt hc_7) <| s_load h rfl rfl (hS.load_one (p := 1) rfl U3 rfl rfl) fun a h=>s_on h rfl rfl (bt hc_7) <| s_fieldAddr h rfl U32 rfl ti3 rfl rfl fun a h=>s_on h rfl rfl (bt hc_7) <| s_load h rfl rfl (hS.load_one (p := 2) rfl U3 rfl rfl) fun a h=>s_on h rfl rfl (bt hc_7) <| s_cmp (b := (x0.Members == x1.Members)) h rfl rfl rfl (.inl ⟨rfl, rfl⟩) fun a h=>pt h rfl (bt hc_7) fun a h=>mv h rfl fun a h=>?_
        obtain ⟨hc_8, H⟩ | ⟨hc_8, H⟩ := ii H
        ·refine s_on h rfl rfl (bt hc_8) <| s_fieldAddr h rfl U32 rfl ti3 rfl rfl fun a h=>s_on h rfl rfl (bt hc_8) <| s_load h rfl rfl (hS.load_one (p := 1) rfl U3 rfl rfl) fun a h=>s_on h rfl rfl (bt hc_8) <| s_fieldAddr h rfl U32 rfl ti3 rfl rfl fun a h=>s_on h rfl rfl (bt hc_8) <| s_load h rfl rfl (hS.load_one (p := 2) rfl U3 rfl rfl) fun a h=>s_on h rfl rfl (bt hc_8) <| s_cmp (b := (x0.Source == x1.Source)) h rfl rfl rfl (.inl ⟨rfl, rfl⟩) fun a h=>pt h rfl (bt hc_8) fun a h=>mv h rfl fun a h=>?_
         obtain ⟨hc_9, H⟩ | ⟨hc_9, H⟩ := ii H
         ·refine s_on h rfl rfl (bt hc_9) <| s_fieldAddr h rfl U32 rfl ti3 rfl rfl fun a h=>s_on h rfl rfl (bt hc_9) <| s_load h rfl rfl (hS.load_one (p := 1) rfl U3 rfl rfl) fun a h=>s_on h rfl rfl (bt hc_9) <| s_fieldAddr h rfl U32 rfl ti3 rfl rfl fun a h=>s_on h rfl rfl (bt hc_9) <| s_load h rfl rfl (hS.load_one (p := 2) rfl U3 rfl rfl) fun a h=>s_on h rfl rfl (bt hc_9) <| s_cmp (b := (x0.At == x1.At)) h rfl rfl rfl (.inl ⟨rfl, rfl⟩) fun a h=>pt h rfl (bt hc_9) fun a h=>mv h rfl fun a h=>?_
          obtain ⟨hc_10, H⟩ | ⟨hc_10, H⟩ := ii H
          ·refine s_on h rfl rfl (bt hc_10) <| s_fieldAddr h rfl U32 rfl ti3 rfl rfl fun a h=>s_on h rfl rfl (bt hc_10) <| s_load h rfl rfl (hS.load_one (p := 1) rfl U3 rfl rfl) fun a h=>s_on h rfl rfl (bt hc_10) <| s_fieldAddr h rfl U32 rfl ti3 rfl rfl fun a h=>s_on h rfl rfl (bt hc_10) <| s_load h rfl rfl (hS.load_one (p := 2) rfl U3 rfl rfl) fun a h=>s_on h rfl rfl (bt hc_10) <| s_cmp (b := (x0.Total == x1.Total)) h rfl rfl rfl (.inl ⟨rfl, rfl⟩) fun a h=>pt h rfl (bt hc_10) fun a h=>mv h rfl fun a h=>?_
           obtain ⟨hc_11, H⟩ | ⟨hc_11, H⟩ := ii H
           ·refine s_on h rfl rfl (bt hc_11) <| s_fieldAddr h rfl U32 rfl ti26 rfl rfl fun a h=>s_on h rfl rfl (bt hc_11) <| s_load h rfl rfl (hS.load_one (p := 1) rfl U26 rfl rfl) fun a h=>s_on h rfl rfl (bt hc_11) <| s_b2s h rfl U26 U5 U9 rfl hp0_0 (hA.trans hS.old) fun a h=>s_on h rfl rfl (bt hc_11) <| s_fieldAddr h rfl U32 rfl ti26 rfl rfl fun a h=>s_on h rfl rfl (bt hc_11) <| s_load h rfl rfl (hS.load_one (p := 2) rfl U26 rfl rfl) fun a h=>s_on h rfl rfl (bt hc_11) <| s_b2s h rfl U26 U5 U9 rfl hp1_6 (hA.trans hS.old) fun a h=>?_
            refine s_on h rfl rfl (bt hc_11) <| s_strEq (b := (x0.Data == x1.Data)) h rfl rfl rfl (.inl ⟨rfl, rfl⟩) fun a h=>pt h rfl (bt hc_11) fun a h=>mv h rfl fun a h=>?_
            obtain ⟨hc_12, H⟩ | ⟨hc_12, H⟩ := ii H
            ·refine s_on h rfl rfl (bt hc_12) <| s_fieldAddr h rfl U32 rfl ti3 rfl rfl fun a h=>s_on h rfl rfl (bt hc_12) <| s_load h rfl rfl (hS.load_one (p := 1) rfl U3 rfl rfl) fun a h=>s_on h rfl rfl (bt hc_12) <| s_fieldAddr h rfl U32 rfl ti3 rfl rfl fun a h=>s_on h rfl rfl (bt hc_12) <| s_load h rfl rfl (hS.load_one (p := 2) rfl U3 rfl rfl) fun a h=>s_on h rfl rfl (bt hc_12) <| s_cmp (b := (x0.Hop == x1.Hop)) h rfl rfl rfl (.inl ⟨rfl, rfl⟩) fun a h=>pt h rfl (bt hc_12) fun a h=>mv h rfl fun a h=>?_
             obtain ⟨hc_13, H⟩ | ⟨hc_13, H⟩ := ii H
             ·refine s_on h rfl rfl (bt hc_13) <| s_fieldAddr h rfl U32 rfl ti3 rfl rfl fun a h=>s_on h rfl rfl (bt hc_13) <| s_load h rfl rfl (hS.load_one (p := 1) rfl U3 rfl rfl) fun a h=>s_on h rfl rfl (bt hc_13) <| s_fieldAddr h rfl U32 rfl ti3 rfl rfl fun a h=>s_on h rfl rfl (bt hc_13) <| s_load h rfl rfl (hS.load_one (p := 2) rfl U3 rfl rfl) fun a h=>s_on h rfl rfl (bt hc_13) <| s_cmp (b := (x0.Seq == x1.Seq)) h rfl rfl rfl (.inl ⟨rfl, rfl⟩) fun a h=>pt h rfl (bt hc_13) fun a h=>mv h rfl fun a h=>?_
              obtain ⟨hc_14, H⟩ | ⟨hc_14, H⟩ := ii H
              ·refine s_on h rfl rfl (bt hc_14) <| s_fieldAddr h rfl U32 rfl ti22 rfl rfl fun a h=>s_on h rfl rfl (bt hc_14) <| s_load h rfl rfl (hS.load_one (p := 1) rfl U22 rfl rfl) fun a h=>s_on h rfl rfl (bt hc_14) <| s_fieldAddr h rfl U32 rfl ti22 rfl rfl fun a h=>s_on h rfl rfl (bt hc_14) <| s_load h rfl rfl (hS.load_one (p := 2) rfl U22 rfl rfl) fun a h=>s_on h rfl rfl (bt hc_14) ?_
               obtain ⟨t_1, et_1, H⟩ := bs H
               refine s_call h rfl Try.call31 rfl (hocketref1_SameInts.calls K x0.Have _ x1.Have _ t_1 w0 _ _ _ mr (hS.enter [] (by decide)) (hp0_1.mono (hA.trans (hS.le_zed []))) (hp1_7.mono (hA.trans (hS.le_zed []))) et_1) ?_
               rintro _ w_3 ⟨N_1, rfl, hS'⟩
               intro a h
               obtain ⟨N_2, hS'', le_1, ln_1⟩ := hS.call [] (by decide) rfl (l' := []) (ow := []) rfl hS'
               replace hS : Sep w0 w_3 [N_2, _, _] Z := hS''
               refine pt h rfl (bt hc_14) fun a h=>mv h rfl fun a h=>?_
               obtain ⟨hc_15, H⟩ | ⟨hc_15, H⟩ := ii H
               ·refine s_on h rfl rfl hc_15 <| s_fieldAddr h rfl U32 rfl ti22 rfl rfl fun a h=>s_on h rfl rfl hc_15 <| s_load h rfl rfl (hS.load_one (p := 1) rfl U22 rfl rfl) fun a h=>s_on h rfl rfl hc_15 <| s_fieldAddr h rfl U32 rfl ti22 rfl rfl fun a h=>s_on h rfl rfl hc_15 <| s_load h rfl rfl (hS.load_one (p := 2) rfl U22 rfl rfl) fun a h=>s_on h rfl rfl hc_15 ?_
                obtain ⟨t_2, et_2, H⟩ := bs H
                refine s_call h rfl Try.call31 rfl (hocketref1_SameInts.calls K x0.Need _ x1.Need _ t_2 w0 _ _ _ mr (hS.enter [] (by decide)) (hp0_2.mono (hA.trans (hS.le_zed []))) (hp1_8.mono (hA.trans (hS.le_zed []))) et_2) ?_
                rintro _ w_4 ⟨N_3, rfl, hS'⟩
                intro a h
                obtain ⟨N_4, hS'', le_2, ln_2⟩ := hS.call [] (by decide) rfl (l' := []) (ow := []) rfl hS'
                replace hS : Sep w0 w_4 [N_4, _, _] Z := hS''
                refine pt h rfl hc_15 fun a h=>mv h rfl fun a h=>?_
                obtain ⟨hc_16, H⟩ | ⟨hc_16, H⟩ := ii H
                ·refine s_on h rfl rfl hc_16 <| s_fieldAddr h rfl U32 rfl ti3 rfl rfl fun a h=>s_on h rfl rfl hc_16 <| s_load h rfl rfl (hS.load_one (p := 1) rfl U3 rfl rfl) fun a h=>s_on h rfl rfl hc_16 <| s_fieldAddr h rfl U32 rfl ti3 rfl rfl fun a h=>s_on h rfl rfl hc_16 <| s_load h rfl rfl (hS.load_one (p := 2) rfl U3 rfl rfl) fun a h=>s_on h rfl rfl hc_16 <| s_cmp (b := (x0.Index == x1.Index)) h rfl rfl rfl (.inl ⟨rfl, rfl⟩) fun a h=>pt h rfl hc_16 fun a h=>mv h rfl fun a h=>?_
                 obtain ⟨hc_17, H⟩ | ⟨hc_17, H⟩ := ii H
                 ·refine s_on h rfl rfl (bt hc_17) <| s_fieldAddr h rfl U32 rfl ti30 rfl rfl fun a h=>s_on h rfl rfl (bt hc_17) <| s_load h rfl rfl (hS.load_agg (p := 1) (us := (E30 x0.Entry p0_3 p0_4 p0_5)) rfl U30 rfl ti30 rfl rfl) fun a h=>s_on h rfl rfl (bt hc_17) <| s_fieldAddr h rfl U32 rfl ti30 rfl rfl fun a h=>s_on h rfl rfl (bt hc_17) <| s_load h rfl rfl (hS.load_agg (p := 2) (us := (E30 x1.Entry p1_9 p1_10 p1_11)) rfl U30 rfl ti30 rfl rfl) fun a h=>s_on h rfl rfl (bt hc_17) ?_
                  obtain ⟨t_3, et_3, H⟩ := bs H
                  refine s_call h rfl Try.call32 rfl (hocketref4_SameEntry.calls x0.Entry _ _ _ x1.Entry _ _ _ t_3 w0 _ _ _ mr (hS.enter [] (by decide)) (hp0_3.mono (hA.trans (hS.le_zed []))) (hp0_4.mono (hA.trans (hS.le_zed []))) (hp0_5.mono (hA.trans (hS.le_zed []))) (hp1_9.mono (hA.trans (hS.le_zed []))) (hp1_10.mono (hA.trans (hS.le_zed []))) (hp1_11.mono (hA.trans (hS.le_zed []))) et_3) ?_
                  rintro _ w_5 ⟨N_5, rfl, hS'⟩
                  intro a h
                  obtain ⟨N_6, hS'', le_3, ln_3⟩ := hS.call [] (by decide) rfl (l' := []) (ow := []) rfl hS'
                  replace hS : Sep w0 w_5 [N_6, _, _] Z := hS''
                  refine pt h rfl (bt hc_17) fun a h=>sg h rfl fun a h=>wpList_nil <| x_then_n (hKJ_1 _ _ ?_)
                  refine wp_ret ?_
                  obtain rfl := Option.some.inj H
                  exact r1 h 4 rfl rfl ⟨_, rfl, N_6, rfl, (hS.sel [0] (by decide))⟩
                 ·refine of h rfl rfl (bf hc_17) fun a h=>of h rfl rfl (bf hc_17) fun a h=>of h rfl rfl (bf hc_17) fun a h=>of h rfl rfl (bf hc_17) fun a h=>of h rfl rfl (bf hc_17) fun a h=>pf h rfl (bf hc_17) fun a h=>sg h rfl fun a h=>wpList_nil <| x_then_n (hKJ_1 _ _ ?_)
                  refine wp_ret ?_
                  obtain rfl := Option.some.inj H
                  exact r1 h 4 rfl rfl ⟨_, rfl, N_4, rfl, (hS.sel [0] (by decide))⟩
                ·refine of h rfl rfl (ef hc_16) fun a h=>of h rfl rfl (ef hc_16) fun a h=>of h rfl rfl (ef hc_16) fun a h=>of h rfl rfl (ef hc_16) fun a h=>of h rfl rfl (ef hc_16) fun a h=>pf h rfl (ef hc_16) fun a h=>mv h rfl fun a h=>oo h rfl rfl fun a h=>oo h rfl rfl fun a h=>oo h rfl rfl fun a h=>oo h rfl rfl fun a h=>oo h rfl rfl fun a h=>?_
                 refine pf h rfl rfl fun a h=>sg h rfl fun a h=>wpList_nil <| x_then_n (hKJ_1 _ _ ?_)
                 refine wp_ret ?_
                 obtain rfl := Option.some.inj H
                 exact r1 h 4 rfl rfl ⟨_, rfl, N_4, rfl, (hS.sel [0] (by decide))⟩
               ·refine of h rfl rfl (ef hc_15) fun a h=>of h rfl rfl (ef hc_15) fun a h=>of h rfl rfl (ef hc_15) fun a h=>of h rfl rfl (ef hc_15) fun a h=>of h rfl rfl (ef hc_15) fun a h=>pf h rfl (ef hc_15) fun a h=>mv h rfl fun a h=>oo h rfl rfl fun a h=>oo h rfl rfl fun a h=>oo h rfl rfl fun a h=>oo h rfl rfl fun a h=>oo h rfl rfl fun a h=>?_
                refine pf h rfl rfl fun a h=>mv h rfl fun a h=>oo h rfl rfl fun a h=>oo h rfl rfl fun a h=>oo h rfl rfl fun a h=>oo h rfl rfl fun a h=>oo h rfl rfl fun a h=>pf h rfl rfl fun a h=>sg h rfl fun a h=>wpList_nil <| x_then_n (hKJ_1 _ _ ?_)
                refine wp_ret ?_
                obtain rfl := Option.some.inj H
                exact r1 h 4 rfl rfl ⟨_, rfl, N_2, rfl, (hS.sel [0] (by decide))⟩
              ·refine of h rfl rfl (bf hc_14) fun a h=>of h rfl rfl (bf hc_14) fun a h=>of h rfl rfl (bf hc_14) fun a h=>of h rfl rfl (bf hc_14) fun a h=>of h rfl rfl (bf hc_14) fun a h=>pf h rfl (bf hc_14) fun a h=>mv h rfl fun a h=>oo h rfl rfl fun a h=>oo h rfl rfl fun a h=>oo h rfl rfl fun a h=>oo h rfl rfl fun a h=>oo h rfl rfl fun a h=>?_
               refine pf h rfl rfl fun a h=>mv h rfl fun a h=>oo h rfl rfl fun a h=>oo h rfl rfl fun a h=>oo h rfl rfl fun a h=>oo h rfl rfl fun a h=>oo h rfl rfl fun a h=>pf h rfl rfl fun a h=>mv h rfl fun a h=>oo h rfl rfl fun a h=>oo h rfl rfl fun a h=>oo h rfl rfl fun a h=>?_
               refine oo h rfl rfl fun a h=>oo h rfl rfl fun a h=>pf h rfl rfl fun a h=>sg h rfl fun a h=>wpList_nil <| x_then_n (hKJ_1 _ _ ?_)
               refine wp_ret ?_
               obtain rfl := Option.some.inj H
               exact r1 h 4 rfl rfl ⟨_, rfl, Mem.no, rfl, (hS.sel [0] (by decide))⟩
             ·refine of h rfl rfl (bf hc_13) fun a h=>of h rfl rfl (bf hc_13) fun a h=>of h rfl rfl (bf hc_13) fun a h=>of h rfl rfl (bf hc_13) fun a h=>of h rfl rfl (bf hc_13) fun a h=>pf h rfl (bf hc_13) fun a h=>mv h rfl fun a h=>oo h rfl rfl fun a h=>oo h rfl rfl fun a h=>oo h rfl rfl fun a h=>oo h rfl rfl fun a h=>oo h rfl rfl fun a h=>?_
              refine pf h rfl rfl fun a h=>mv h rfl fun a h=>oo h rfl rfl fun a h=>oo h rfl rfl fun a h=>oo h rfl rfl fun a h=>oo h rfl rfl fun a h=>oo h rfl rfl fun a h=>pf h rfl rfl fun a h=>mv h rfl fun a h=>oo h rfl rfl fun a h=>oo h rfl rfl fun a h=>oo h rfl rfl fun a h=>?_
              refine oo h rfl rfl fun a h=>oo h rfl rfl fun a h=>pf h rfl rfl fun a h=>mv h rfl fun a h=>oo h rfl rfl fun a h=>oo h rfl rfl fun a h=>oo h rfl rfl fun a h=>oo h rfl rfl fun a h=>oo h rfl rfl fun a h=>pf h rfl rfl fun a h=>sg h rfl fun a h=>wpList_nil <| x_then_n (hKJ_1 _ _ ?_)
              refine wp_ret ?_
              obtain rfl := Option.some.inj H
              exact r1 h 4 rfl rfl ⟨_, rfl, Mem.no, rfl, (hS.sel [0] (by decide))⟩
            ·refine of h rfl rfl (bf hc_12) fun a h=>of h rfl rfl (bf hc_12) fun a h=>of h rfl rfl (bf hc_12) fun a h=>of h rfl rfl (bf hc_12) fun a h=>of h rfl rfl (bf hc_12) fun a h=>pf h rfl (bf hc_12) fun a h=>mv h rfl fun a h=>oo h rfl rfl fun a h=>oo h rfl rfl fun a h=>oo h rfl rfl fun a h=>oo h rfl rfl fun a h=>oo h rfl rfl fun a h=>?_
             refine pf h rfl rfl fun a h=>mv h rfl fun a h=>oo h rfl rfl fun a h=>oo h rfl rfl fun a h=>oo h rfl rfl fun a h=>oo h rfl rfl fun a h=>oo h rfl rfl fun a h=>pf h rfl rfl fun a h=>mv h rfl fun a h=>oo h rfl rfl fun a h=>oo h rfl rfl fun a h=>oo h rfl rfl fun a h=>?_
             refine oo h rfl rfl fun a h=>oo h rfl rfl fun a h=>pf h rfl rfl fun a h=>mv h rfl fun a h=>oo h rfl rfl fun a h=>oo h rfl rfl fun a h=>oo h rfl rfl fun a h=>oo h rfl rfl fun a h=>oo h rfl rfl fun a h=>pf h rfl rfl fun a h=>mv h rfl fun a h=>oo h rfl rfl fun a h=>?_
             refine oo h rfl rfl fun a h=>oo h rfl rfl fun a h=>oo h rfl rfl fun a h=>oo h rfl rfl fun a h=>pf h rfl rfl fun a h=>sg h rfl fun a h=>wpList_nil <| x_then_n (hKJ_1 _ _ ?_)
             refine wp_ret ?_
             obtain rfl := Option.some.inj H
             exact r1 h 4 rfl rfl ⟨_, rfl, Mem.no, rfl, (hS.sel [0] (by decide))⟩
           ·refine of h rfl rfl (bf hc_11) fun a h=>of h rfl rfl (bf hc_11) fun a h=>of h rfl rfl (bf hc_11) fun a h=>of h rfl rfl (bf hc_11) fun a h=>of h rfl rfl (bf hc_11) fun a h=>of h rfl rfl (bf hc_11) fun a h=>of h rfl rfl (bf hc_11) fun a h=>pf h rfl (bf hc_11) fun a h=>mv h rfl fun a h=>oo h rfl rfl fun a h=>oo h rfl rfl fun a h=>oo h rfl rfl fun a h=>?_
            refine oo h rfl rfl fun a h=>oo h rfl rfl fun a h=>pf h rfl rfl fun a h=>mv h rfl fun a h=>oo h rfl rfl fun a h=>oo h rfl rfl fun a h=>oo h rfl rfl fun a h=>oo h rfl rfl fun a h=>oo h rfl rfl fun a h=>pf h rfl rfl fun a h=>mv h rfl fun a h=>oo h rfl rfl fun a h=>?_
            refine oo h rfl rfl fun a h=>oo h rfl rfl fun a h=>oo h rfl rfl fun a h=>oo h rfl rfl fun a h=>pf h rfl rfl fun a h=>mv h rfl fun a h=>oo h rfl rfl fun a h=>oo h rfl rfl fun a h=>oo h rfl rfl fun a h=>oo h rfl rfl fun a h=>oo h rfl rfl fun a h=>pf h rfl rfl fun a h=>?_
            refine mv h rfl fun a h=>oo h rfl rfl fun a h=>oo h rfl rfl fun a h=>oo h rfl rfl fun a h=>oo h rfl rfl fun a h=>oo h rfl rfl fun a h=>pf h rfl rfl fun a h=>mv h rfl fun a h=>oo h rfl rfl fun a h=>oo h rfl rfl fun a h=>oo h rfl rfl fun a h=>oo h rfl rfl fun a h=>?_
            refine oo h rfl rfl fun a h=>pf h rfl rfl fun a h=>sg h rfl fun a h=>wpList_nil <| x_then_n (hKJ_1 _ _ ?_)
            refine wp_ret ?_
            obtain rfl := Option.some.inj H
            exact r1 h 4 rfl rfl ⟨_, rfl, Mem.no, rfl, (hS.sel [0] (by decide))⟩
          ·refine of h rfl rfl (bf hc_10) fun a h=>of h rfl rfl (bf hc_10) fun a h=>of h rfl rfl (bf hc_10) fun a h=>of h rfl rfl (bf hc_10) fun a h=>of h rfl rfl (bf hc_10) fun a h=>pf h rfl (bf hc_10) fun a h=>mv h rfl fun a h=>oo h rfl rfl fun a h=>oo h rfl rfl fun a h=>oo h rfl rfl fun a h=>oo h rfl rfl fun a h=>oo h rfl rfl fun a h=>?_
           refine oo h rfl rfl fun a h=>oo h rfl rfl fun a h=>pf h rfl rfl fun a h=>mv h rfl fun a h=>oo h rfl rfl fun a h=>oo h rfl rfl fun a h=>oo h rfl rfl fun a h=>oo h rfl rfl fun a h=>oo h rfl rfl fun a h=>pf h rfl rfl fun a h=>mv h rfl fun a h=>oo h rfl rfl fun a h=>?_
           refine oo h rfl rfl fun a h=>oo h rfl rfl fun a h=>oo h rfl rfl fun a h=>oo h rfl rfl fun a h=>pf h rfl rfl fun a h=>mv h rfl fun a h=>oo h rfl rfl fun a h=>oo h rfl rfl fun a h=>oo h rfl rfl fun a h=>oo h rfl rfl fun a h=>oo h rfl rfl fun a h=>pf h rfl rfl fun a h=>?_
           refine mv h rfl fun a h=>oo h rfl rfl fun a h=>oo h rfl rfl fun a h=>oo h rfl rfl fun a h=>oo h rfl rfl fun a h=>oo h rfl rfl fun a h=>pf h rfl rfl fun a h=>mv h rfl fun a h=>oo h rfl rfl fun a h=>oo h rfl rfl fun a h=>oo h rfl rfl fun a h=>oo h rfl rfl fun a h=>?_
           refine oo h rfl rfl fun a h=>pf h rfl rfl fun a h=>mv h rfl fun a h=>oo h rfl rfl fun a h=>oo h rfl rfl fun a h=>oo h rfl rfl fun a h=>oo h rfl rfl fun a h=>oo h rfl rfl fun a h=>pf h rfl rfl fun a h=>sg h rfl fun a h=>wpList_nil <| x_then_n (hKJ_1 _ _ ?_)
           refine wp_ret ?_
           obtain rfl := Option.some.inj H
           exact r1 h 4 rfl rfl ⟨_, rfl, Mem.no, rfl, (hS.sel [0] (by decide))⟩
         ·refine of h rfl rfl (bf hc_9) fun a h=>of h rfl rfl (bf hc_9) fun a h=>of h rfl rfl (bf hc_9) fun a h=>of h rfl rfl (bf hc_9) fun a h=>of h rfl rfl (bf hc_9) fun a h=>pf h rfl (bf hc_9) fun a h=>mv h rfl fun a h=>oo h rfl rfl fun a h=>oo h rfl rfl fun a h=>oo h rfl rfl fun a h=>oo h rfl rfl fun a h=>oo h rfl rfl fun a h=>?_
          refine pf h rfl rfl fun a h=>mv h rfl fun a h=>oo h rfl rfl fun a h=>oo h rfl rfl fun a h=>oo h rfl rfl fun a h=>oo h rfl rfl fun a h=>oo h rfl rfl fun a h=>oo h rfl rfl fun a h=>oo h rfl rfl fun a h=>pf h rfl rfl fun a h=>mv h rfl fun a h=>oo h rfl rfl fun a h=>?_
          refine oo h rfl rfl fun a h=>oo h rfl rfl fun a h=>oo h rfl rfl fun a h=>oo h rfl rfl fun a h=>pf h rfl rfl fun a h=>mv h rfl fun a h=>oo h rfl rfl fun a h=>oo h rfl rfl fun a h=>oo h rfl rfl fun a h=>oo h rfl rfl fun a h=>oo h rfl rfl fun a h=>pf h rfl rfl fun a h=>?_
          refine mv h rfl fun a h=>oo h rfl rfl fun a h=>oo h rfl rfl fun a h=>oo h rfl rfl fun a h=>oo h rfl rfl fun a h=>oo h rfl rfl fun a h=>pf h rfl rfl fun a h=>mv h rfl fun a h=>oo h rfl rfl fun a h=>oo h rfl rfl fun a h=>oo h rfl rfl fun a h=>oo h rfl rfl fun a h=>?_
          refine oo h rfl rfl fun a h=>pf h rfl rfl fun a h=>mv h rfl fun a h=>oo h rfl rfl fun a h=>oo h rfl rfl fun a h=>oo h rfl rfl fun a h=>oo h rfl rfl fun a h=>oo h rfl rfl fun a h=>pf h rfl rfl fun a h=>mv h rfl fun a h=>oo h rfl rfl fun a h=>oo h rfl rfl fun a h=>?_
          refine oo h rfl rfl fun a h=>oo h rfl rfl fun a h=>oo h rfl rfl fun a h=>pf h rfl rfl fun a h=>sg h rfl fun a h=>wpList_nil <| x_then_n (hKJ_1 _ _ ?_)
          refine wp_ret ?_
          obtain rfl := Option.some.inj H
          exact r1 h 4 rfl rfl ⟨_, rfl, Mem.no, rfl, (hS.sel [0] (by decide))⟩
        ·refine of h rfl rfl (bf hc_8) fun a h=>of h rfl rfl (bf hc_8) fun a h=>of h rfl rfl (bf hc_8) fun a h=>of h rfl rfl (bf hc_8) fun a h=>of h rfl rfl (bf hc_8) fun a h=>pf h rfl (bf hc_8) fun a h=>mv h rfl fun a h=>oo h rfl rfl fun a h=>oo h rfl rfl fun a h=>oo h rfl rfl fun a h=>oo h rfl rfl fun a h=>oo h rfl rfl fun a h=>?_
         refine pf h rfl rfl fun a h=>mv h rfl fun a h=>oo h rfl rfl fun a h=>oo h rfl rfl fun a h=>oo h rfl rfl fun a h=>oo h rfl rfl fun a h=>oo h rfl rfl fun a h=>pf h rfl rfl fun a h=>mv h rfl fun a h=>oo h rfl rfl fun a h=>oo h rfl rfl fun a h=>oo h rfl rfl fun a h=>?_
         refine oo h rfl rfl fun a h=>oo h rfl rfl fun a h=>oo h rfl rfl fun a h=>oo h rfl rfl fun a h=>pf h rfl rfl fun a h=>mv h rfl fun a h=>oo h rfl rfl fun a h=>oo h rfl rfl fun a h=>oo h rfl rfl fun a h=>oo h rfl rfl fun a h=>oo h rfl rfl fun a h=>pf h rfl rfl fun a h=>?_
         refine mv h rfl fun a h=>oo h rfl rfl fun a h=>oo h rfl rfl fun a h=>oo h rfl rfl fun a h=>oo h rfl rfl fun a h=>oo h rfl rfl fun a h=>pf h rfl rfl fun a h=>mv h rfl fun a h=>oo h rfl rfl fun a h=>oo h rfl rfl fun a h=>oo h rfl rfl fun a h=>oo h rfl rfl fun a h=>?_
         refine oo h rfl rfl fun a h=>pf h rfl rfl fun a h=>mv h rfl fun a h=>oo h rfl rfl fun a h=>oo h rfl rfl fun a h=>oo h rfl rfl fun a h=>oo h rfl rfl fun a h=>oo h rfl rfl fun a h=>pf h rfl rfl fun a h=>mv h rfl fun a h=>oo h rfl rfl fun a h=>oo h rfl rfl fun a h=>?_
         refine oo h rfl rfl fun a h=>oo h rfl rfl fun a h=>oo h rfl rfl fun a h=>pf h rfl rfl fun a h=>mv h rfl fun a h=>oo h rfl rfl fun a h=>oo h rfl rfl fun a h=>oo h rfl rfl fun a h=>oo h rfl rfl fun a h=>oo h rfl rfl fun a h=>pf h rfl rfl fun a h=>sg h rfl fun a h=>?_
         refine wpList_nil <| x_then_n (hKJ_1 _ _ ?_)
         refine wp_ret ?_
         obtain rfl := Option.some.inj H
         exact r1 h 4 rfl rfl ⟨_, rfl, Mem.no, rfl, (hS.sel [0] (by decide))⟩
       ·refine of h rfl rfl (bf hc_7) fun a h=>of h rfl rfl (bf hc_7) fun a h=>of h rfl rfl (bf hc_7) fun a h=>of h rfl rfl (bf hc_7) fun a h=>of h rfl rfl (bf hc_7) fun a h=>pf h rfl (bf hc_7) fun a h=>mv h rfl fun a h=>oo h rfl rfl fun a h=>oo h rfl rfl fun a h=>oo h rfl rfl fun a h=>oo h rfl rfl fun a h=>oo h rfl rfl fun a h=>?_
        refine pf h rfl rfl fun a h=>mv h rfl fun a h=>oo h rfl rfl fun a h=>oo h rfl rfl fun a h=>oo h rfl rfl fun a h=>oo h rfl rfl fun a h=>oo h rfl rfl fun a h=>pf h rfl rfl fun a h=>mv h rfl fun a h=>oo h rfl rfl fun a h=>oo h rfl rfl fun a h=>oo h rfl rfl fun a h=>?_
        refine oo h rfl rfl fun a h=>oo h rfl rfl fun a h=>pf h rfl rfl fun a h=>mv h rfl fun a h=>oo h rfl rfl fun a h=>oo h rfl rfl fun a h=>oo h rfl rfl fun a h=>oo h rfl rfl fun a h=>oo h rfl rfl fun a h=>oo h rfl rfl fun a h=>oo h rfl rfl fun a h=>pf h rfl rfl fun a h=>?_
        refine mv h rfl fun a h=>oo h rfl rfl fun a h=>oo h rfl rfl fun a h=>oo h rfl rfl fun a h=>oo h rfl rfl fun a h=>oo h rfl rfl fun a h=>pf h rfl rfl fun a h=>mv h rfl fun a h=>oo h rfl rfl fun a h=>oo h rfl rfl fun a h=>oo h rfl rfl fun a h=>oo h rfl rfl fun a h=>?_
        refine oo h rfl rfl fun a h=>pf h rfl rfl fun a h=>mv h rfl fun a h=>oo h rfl rfl fun a h=>oo h rfl rfl fun a h=>oo h rfl rfl fun a h=>oo h rfl rfl fun a h=>oo h rfl rfl fun a h=>pf h rfl rfl fun a h=>mv h rfl fun a h=>oo h rfl rfl fun a h=>oo h rfl rfl fun a h=>?_
        refine oo h rfl rfl fun a h=>oo h rfl rfl fun a h=>oo h rfl rfl fun a h=>pf h rfl rfl fun a h=>mv h rfl fun a h=>oo h rfl rfl fun a h=>oo h rfl rfl fun a h=>oo h rfl rfl fun a h=>oo h rfl rfl fun a h=>oo h rfl rfl fun a h=>pf h rfl rfl fun a h=>mv h rfl fun a h=>?_
        refine oo h rfl rfl fun a h=>oo h rfl rfl fun a h=>oo h rfl rfl fun a h=>oo h rfl rfl fun a h=>oo h rfl rfl fun a h=>pf h rfl rfl fun a h=>sg h rfl fun a h=>wpList_nil <| x_then_n (hKJ_1 _ _ ?_)
        refine wp_ret ?_
        obtain rfl := Option.some.inj H
        exact r1 h 4 rfl rfl ⟨_, rfl, Mem.no, rfl, (hS.sel [0] (by decide))⟩
      ·refine of h rfl rfl (bf hc_6) fun a h=>of h rfl rfl (bf hc_6) fun a h=>of h rfl rfl (bf hc_6) fun a h=>of h rfl rfl (bf hc_6) fun a h=>of h rfl rfl (bf hc_6) fun a h=>pf h rfl (bf hc_6) fun a h=>mv h rfl fun a h=>oo h rfl rfl fun a h=>oo h rfl rfl fun a h=>oo h rfl rfl fun a h=>oo h rfl rfl fun a h=>oo h rfl rfl fun a h=>?_
       refine pf h rfl rfl fun a h=>mv h rfl fun a h=>oo h rfl rfl fun a h=>oo h rfl rfl fun a h=>oo h rfl rfl fun a h=>oo h rfl rfl fun a h=>oo h rfl rfl fun a h=>pf h rfl rfl fun a h=>mv h rfl fun a h=>oo h rfl rfl fun a h=>oo h rfl rfl fun a h=>oo h rfl rfl fun a h=>?_
       refine oo h rfl rfl fun a h=>oo h rfl rfl fun a h=>pf h rfl rfl fun a h=>mv h rfl fun a h=>oo h rfl rfl fun a h=>oo h rfl rfl fun a h=>oo h rfl rfl fun a h=>oo h rfl rfl fun a h=>oo h rfl rfl fun a h=>pf h rfl rfl fun a h=>mv h rfl fun a h=>oo h rfl rfl fun a h=>?_
       refine oo h rfl rfl fun a h=>oo h rfl rfl fun a h=>oo h rfl rfl fun a h=>oo h rfl rfl fun a h=>oo h rfl rfl fun a h=>oo h rfl rfl fun a h=>pf h rfl rfl fun a h=>mv h rfl fun a h=>oo h rfl rfl fun a h=>oo h rfl rfl fun a h=>oo h rfl rfl fun a h=>oo h rfl rfl fun a h=>?_
       refine oo h rfl rfl fun a h=>pf h rfl rfl fun a h=>mv h rfl fun a h=>oo h rfl rfl fun a h=>oo h rfl rfl fun a h=>oo h rfl rfl fun a h=>oo h rfl rfl fun a h=>oo h rfl rfl fun a h=>pf h rfl rfl fun a h=>mv h rfl fun a h=>oo h rfl rfl fun a h=>oo h rfl rfl fun a h=>?_
       refine oo h rfl rfl fun a h=>oo h rfl rfl fun a h=>oo h rfl rfl fun a h=>pf h rfl rfl fun a h=>mv h rfl fun a h=>oo h rfl rfl fun a h=>oo h rfl rfl fun a h=>oo h rfl rfl fun a h=>oo h rfl rfl fun a h=>oo h rfl rfl fun a h=>pf h rfl rfl fun a h=>mv h rfl fun a h=>?_
       refine oo h rfl rfl fun a h=>oo h rfl rfl fun a h=>oo h rfl rfl fun a h=>oo h rfl rfl fun a h=>oo h rfl rfl fun a h=>pf h rfl rfl fun a h=>mv h rfl fun a h=>oo h rfl rfl fun a h=>oo h rfl rfl fun a h=>oo h rfl rfl fun a h=>oo h rfl rfl fun a h=>oo h rfl rfl fun a h=>?_
       refine pf h rfl rfl fun a h=>sg h rfl fun a h=>wpList_nil <| x_then_n (hKJ_1 _ _ ?_)
       refine wp_ret ?_
       obtain rfl := Option.some.inj H
       exact r1 h 4 rfl rfl ⟨_, rfl, Mem.no, rfl, (hS.sel [0] (by decide))⟩
     ·refine of h rfl rfl (bf hc_5) fun a h=>of h rfl rfl (bf hc_5) fun a h=>of h rfl rfl (bf hc_5) fun a h=>of h rfl rfl (bf hc_5) fun a h=>of h rfl rfl (bf hc_5) fun a h=>pf h rfl (bf hc_5) fun a h=>mv h rfl fun a h=>oo h rfl rfl fun a h=>oo h rfl rfl fun a h=>oo h rfl rfl fun a h=>oo h rfl rfl fun a h=>oo h rfl rfl fun a h=>?_
      refine pf h rfl rfl fun a h=>mv h rfl fun a h=>oo h rfl rfl fun a h=>oo h rfl rfl fun a h=>oo h rfl rfl fun a h=>oo h rfl rfl fun a h=>oo h rfl rfl fun a h=>pf h rfl rfl fun a h=>mv h rfl fun a h=>oo h rfl rfl fun a h=>oo h rfl rfl fun a h=>oo h rfl rfl fun a h=>?_
      refine oo h rfl rfl fun a h=>oo h rfl rfl fun a h=>pf h rfl rfl fun a h=>mv h rfl fun a h=>oo h rfl rfl fun a h=>oo h rfl rfl fun a h=>oo h rfl rfl fun a h=>oo h rfl rfl fun a h=>oo h rfl rfl fun a h=>pf h rfl rfl fun a h=>mv h rfl fun a h=>oo h rfl rfl fun a h=>?_
      refine oo h rfl rfl fun a h=>oo h rfl rfl fun a h=>oo h rfl rfl fun a h=>oo h rfl rfl fun a h=>pf h rfl rfl fun a h=>mv h rfl fun a h=>oo h rfl rfl fun a h=>oo h rfl rfl fun a h=>oo h rfl rfl fun a h=>oo h rfl rfl fun a h=>oo h rfl rfl fun a h=>oo h rfl rfl fun a h=>?_
      refine oo h rfl rfl fun a h=>pf h rfl rfl fun a h=>mv h rfl fun a h=>oo h rfl rfl fun a h=>oo h rfl rfl fun a h=>oo h rfl rfl fun a h=>oo h rfl rfl fun a h=>oo h rfl rfl fun a h=>pf h rfl rfl fun a h=>mv h rfl fun a h=>oo h rfl rfl fun a h=>oo h rfl rfl fun a h=>?_
      refine oo h rfl rfl fun a h=>oo h rfl rfl fun a h=>oo h rfl rfl fun a h=>pf h rfl rfl fun a h=>mv h rfl fun a h=>oo h rfl rfl fun a h=>oo h rfl rfl fun a h=>oo h rfl rfl fun a h=>oo h rfl rfl fun a h=>oo h rfl rfl fun a h=>pf h rfl rfl fun a h=>mv h rfl fun a h=>?_
      refine oo h rfl rfl fun a h=>oo h rfl rfl fun a h=>oo h rfl rfl fun a h=>oo h rfl rfl fun a h=>oo h rfl rfl fun a h=>pf h rfl rfl fun a h=>mv h rfl fun a h=>oo h rfl rfl fun a h=>oo h rfl rfl fun a h=>oo h rfl rfl fun a h=>oo h rfl rfl fun a h=>oo h rfl rfl fun a h=>?_
      refine pf h rfl rfl fun a h=>mv h rfl fun a h=>oo h rfl rfl fun a h=>oo h rfl rfl fun a h=>oo h rfl rfl fun a h=>oo h rfl rfl fun a h=>oo h rfl rfl fun a h=>pf h rfl rfl fun a h=>sg h rfl fun a h=>wpList_nil <| x_then_n (hKJ_1 _ _ ?_)
      refine wp_ret ?_
      obtain rfl := Option.some.inj H
      exact r1 h 4 rfl rfl ⟨_, rfl, Mem.no, rfl, (hS.sel [0] (by decide))⟩
    ·refine of h rfl rfl (bf hc_4) fun a h=>of h rfl rfl (bf hc_4) fun a h=>of h rfl rfl (bf hc_4) fun a h=>of h rfl rfl (bf hc_4) fun a h=>of h rfl rfl (bf hc_4) fun a h=>pf h rfl (bf hc_4) fun a h=>mv h rfl fun a h=>oo h rfl rfl fun a h=>oo h rfl rfl fun a h=>oo h rfl rfl fun a h=>oo h rfl rfl fun a h=>oo h rfl rfl fun a h=>?_
     refine pf h rfl rfl fun a h=>mv h rfl fun a h=>oo h rfl rfl fun a h=>oo h rfl rfl fun a h=>oo h rfl rfl fun a h=>oo h rfl rfl fun a h=>oo h rfl rfl fun a h=>pf h rfl rfl fun a h=>mv h rfl fun a h=>oo h rfl rfl fun a h=>oo h rfl rfl fun a h=>oo h rfl rfl fun a h=>?_
     refine oo h rfl rfl fun a h=>oo h rfl rfl fun a h=>pf h rfl rfl fun a h=>mv h rfl fun a h=>oo h rfl rfl fun a h=>oo h rfl rfl fun a h=>oo h rfl rfl fun a h=>oo h rfl rfl fun a h=>oo h rfl rfl fun a h=>pf h rfl rfl fun a h=>mv h rfl fun a h=>oo h rfl rfl fun a h=>?_
     refine oo h rfl rfl fun a h=>oo h rfl rfl fun a h=>oo h rfl rfl fun a h=>oo h rfl rfl fun a h=>pf h rfl rfl fun a h=>mv h rfl fun a h=>oo h rfl rfl fun a h=>oo h rfl rfl fun a h=>oo h rfl rfl fun a h=>oo h rfl rfl fun a h=>oo h rfl rfl fun a h=>pf h rfl rfl fun a h=>?_
     refine mv h rfl fun a h=>oo h rfl rfl fun a h=>oo h rfl rfl fun a h=>oo h rfl rfl fun a h=>oo h rfl rfl fun a h=>oo h rfl rfl fun a h=>oo h rfl rfl fun a h=>oo h rfl rfl fun a h=>pf h rfl rfl fun a h=>mv h rfl fun a h=>oo h rfl rfl fun a h=>oo h rfl rfl fun a h=>?_
     refine oo h rfl rfl fun a h=>oo h rfl rfl fun a h=>oo h rfl rfl fun a h=>pf h rfl rfl fun a h=>mv h rfl fun a h=>oo h rfl rfl fun a h=>oo h rfl rfl fun a h=>oo h rfl rfl fun a h=>oo h rfl rfl fun a h=>oo h rfl rfl fun a h=>pf h rfl rfl fun a h=>mv h rfl fun a h=>?_
     refine oo h rfl rfl fun a h=>oo h rfl rfl fun a h=>oo h rfl rfl fun a h=>oo h rfl rfl fun a h=>oo h rfl rfl fun a h=>pf h rfl rfl fun a h=>mv h rfl fun a h=>oo h rfl rfl fun a h=>oo h rfl rfl fun a h=>oo h rfl rfl fun a h=>oo h rfl rfl fun a h=>oo h rfl rfl fun a h=>?_
     refine pf h rfl rfl fun a h=>mv h rfl fun a h=>oo h rfl rfl fun a h=>oo h rfl rfl fun a h=>oo h rfl rfl fun a h=>oo h rfl rfl fun a h=>oo h rfl rfl fun a h=>pf h rfl rfl fun a h=>mv h rfl fun a h=>oo h rfl rfl fun a h=>oo h rfl rfl fun a h=>oo h rfl rfl fun a h=>?_
     refine oo h rfl rfl fun a h=>oo h rfl rfl fun a h=>pf h rfl rfl fun a h=>sg h rfl fun a h=>wpList_nil <| x_then_n (hKJ_1 _ _ ?_)
     refine wp_ret ?_
     obtain rfl := Option.some.inj H
     exact r1 h 4 rfl rfl ⟨_, rfl, Mem.no, rfl, (hS.sel [0] (by decide))⟩
   ·refine of h rfl rfl (bf hc_3) fun a h=>of h rfl rfl (bf hc_3) fun a h=>of h rfl rfl (bf hc_3) fun a h=>of h rfl rfl (bf hc_3) fun a h=>of h rfl rfl (bf hc_3) fun a h=>pf h rfl (bf hc_3) fun a h=>mv h rfl fun a h=>oo h rfl rfl fun a h=>oo h rfl rfl fun a h=>oo h rfl rfl fun a h=>oo h rfl rfl fun a h=>oo h rfl rfl fun a h=>?_
    refine pf h rfl rfl fun a h=>mv h rfl fun a h=>oo h rfl rfl fun a h=>oo h rfl rfl fun a h=>oo h rfl rfl fun a h=>oo h rfl rfl fun a h=>oo h rfl rfl fun a h=>pf h rfl rfl fun a h=>mv h rfl fun a h=>oo h rfl rfl fun a h=>oo h rfl rfl fun a h=>oo h rfl rfl fun a h=>?_
    refine oo h rfl rfl fun a h=>oo h rfl rfl fun a h=>pf h rfl rfl fun a h=>mv h rfl fun a h=>oo h rfl rfl fun a h=>oo h rfl rfl fun a h=>oo h rfl rfl fun a h=>oo h rfl rfl fun a h=>oo h rfl rfl fun a h=>pf h rfl rfl fun a h=>mv h rfl fun a h=>oo h rfl rfl fun a h=>?_
    refine oo h rfl rfl fun a h=>oo h rfl rfl fun a h=>oo h rfl rfl fun a h=>oo h rfl rfl fun a h=>pf h rfl rfl fun a h=>mv h rfl fun a h=>oo h rfl rfl fun a h=>oo h rfl rfl fun a h=>oo h rfl rfl fun a h=>oo h rfl rfl fun a h=>oo h rfl rfl fun a h=>pf h rfl rfl fun a h=>?_
    refine mv h rfl fun a h=>oo h rfl rfl fun a h=>oo h rfl rfl fun a h=>oo h rfl rfl fun a h=>oo h rfl rfl fun a h=>oo h rfl rfl fun a h=>pf h rfl rfl fun a h=>mv h rfl fun a h=>oo h rfl rfl fun a h=>oo h rfl rfl fun a h=>oo h rfl rfl fun a h=>oo h rfl rfl fun a h=>?_
    refine oo h rfl rfl fun a h=>oo h rfl rfl fun a h=>oo h rfl rfl fun a h=>pf h rfl rfl fun a h=>mv h rfl fun a h=>oo h rfl rfl fun a h=>oo h rfl rfl fun a h=>oo h rfl rfl fun a h=>oo h rfl rfl fun a h=>oo h rfl rfl fun a h=>pf h rfl rfl fun a h=>mv h rfl fun a h=>?_
    refine oo h rfl rfl fun a h=>oo h rfl rfl fun a h=>oo h rfl rfl fun a h=>oo h rfl rfl fun a h=>oo h rfl rfl fun a h=>pf h rfl rfl fun a h=>mv h rfl fun a h=>oo h rfl rfl fun a h=>oo h rfl rfl fun a h=>oo h rfl rfl fun a h=>oo h rfl rfl fun a h=>oo h rfl rfl fun a h=>?_
    refine pf h rfl rfl fun a h=>mv h rfl fun a h=>oo h rfl rfl fun a h=>oo h rfl rfl fun a h=>oo h rfl rfl fun a h=>oo h rfl rfl fun a h=>oo h rfl rfl fun a h=>pf h rfl rfl fun a h=>mv h rfl fun a h=>oo h rfl rfl fun a h=>oo h rfl rfl fun a h=>oo h rfl rfl fun a h=>?_
    refine oo h rfl rfl fun a h=>oo h rfl rfl fun a h=>pf h rfl rfl fun a h=>mv h rfl fun a h=>oo h rfl rfl fun a h=>oo h rfl rfl fun a h=>oo h rfl rfl fun a h=>oo h rfl rfl fun a h=>oo h rfl rfl fun a h=>pf h rfl rfl fun a h=>sg h rfl fun a h=>wpList_nil <| x_then_n (hKJ_1 _ _ ?_)
    refine wp_ret ?_
    obtain rfl := Option.some.inj H
    exact r1 h 4 rfl rfl ⟨_, rfl, Mem.no, rfl, (hS.sel [0] (by decide))⟩
  ·refine of h rfl rfl (bf hc_2) fun a h=>of h rfl rfl (bf hc_2) fun a h=>of h rfl rfl (bf hc_2) fun a h=>of h rfl rfl (bf hc_2) fun a h=>of h rfl rfl (bf hc_2) fun a h=>pf h rfl (bf hc_2) fun a h=>mv h rfl fun a h=>oo h rfl rfl fun a h=>oo h rfl rfl fun a h=>oo h rfl rfl fun a h=>oo h rfl rfl fun a h=>oo h rfl rfl fun a h=>?_
   refine pf h rfl rfl fun a h=>mv h rfl fun a h=>oo h rfl rfl fun a h=>oo h rfl rfl fun a h=>oo h rfl rfl fun a h=>oo h rfl rfl fun a h=>oo h rfl rfl fun a h=>pf h rfl rfl fun a h=>mv h rfl fun a h=>oo h rfl rfl fun a h=>oo h rfl rfl fun a h=>oo h rfl rfl fun a h=>?_
   refine oo h rfl rfl fun a h=>oo h rfl rfl fun a h=>pf h rfl rfl fun a h=>mv h rfl fun a h=>oo h rfl rfl fun a h=>oo h rfl rfl fun a h=>oo h rfl rfl fun a h=>oo h rfl rfl fun a h=>oo h rfl rfl fun a h=>pf h rfl rfl fun a h=>mv h rfl fun a h=>oo h rfl rfl fun a h=>?_
   refine oo h rfl rfl fun a h=>oo h rfl rfl fun a h=>oo h rfl rfl fun a h=>oo h rfl rfl fun a h=>pf h rfl rfl fun a h=>mv h rfl fun a h=>oo h rfl rfl fun a h=>oo h rfl rfl fun a h=>oo h rfl rfl fun a h=>oo h rfl rfl fun a h=>oo h rfl rfl fun a h=>pf h rfl rfl fun a h=>?_
   refine mv h rfl fun a h=>oo h rfl rfl fun a h=>oo h rfl rfl fun a h=>oo h rfl rfl fun a h=>oo h rfl rfl fun a h=>oo h rfl rfl fun a h=>pf h rfl rfl fun a h=>mv h rfl fun a h=>oo h rfl rfl fun a h=>oo h rfl rfl fun a h=>oo h rfl rfl fun a h=>oo h rfl rfl fun a h=>?_
   refine oo h rfl rfl fun a h=>pf h rfl rfl fun a h=>mv h rfl fun a h=>oo h rfl rfl fun a h=>oo h rfl rfl fun a h=>oo h rfl rfl fun a h=>oo h rfl rfl fun a h=>oo h rfl rfl fun a h=>oo h rfl rfl fun a h=>oo h rfl rfl fun a h=>pf h rfl rfl fun a h=>mv h rfl fun a h=>?_
   refine oo h rfl rfl fun a h=>oo h rfl rfl fun a h=>oo h rfl rfl fun a h=>oo h rfl rfl fun a h=>oo h rfl rfl fun a h=>pf h rfl rfl fun a h=>mv h rfl fun a h=>oo h rfl rfl fun a h=>oo h rfl rfl fun a h=>oo h rfl rfl fun a h=>oo h rfl rfl fun a h=>oo h rfl rfl fun a h=>?_
   refine pf h rfl rfl fun a h=>mv h rfl fun a h=>oo h rfl rfl fun a h=>oo h rfl rfl fun a h=>oo h rfl rfl fun a h=>oo h rfl rfl fun a h=>oo h rfl rfl fun a h=>pf h rfl rfl fun a h=>mv h rfl fun a h=>oo h rfl rfl fun a h=>oo h rfl rfl fun a h=>oo h rfl rfl fun a h=>?_
   refine oo h rfl rfl fun a h=>oo h rfl rfl fun a h=>pf h rfl rfl fun a h=>mv h rfl fun a h=>oo h rfl rfl fun a h=>oo h rfl rfl fun a h=>oo h rfl rfl fun a h=>oo h rfl rfl fun a h=>oo h rfl rfl fun a h=>pf h rfl rfl fun a h=>mv h rfl fun a h=>oo h rfl rfl fun a h=>?_
   refine oo h rfl rfl fun a h=>oo h rfl rfl fun a h=>oo h rfl rfl fun a h=>oo h rfl rfl fun a h=>pf h rfl rfl fun a h=>sg h rfl fun a h=>wpList_nil <| x_then_n (hKJ_1 _ _ ?_)
   refine wp_ret ?_
   obtain rfl := Option.some.inj H
   exact r1 h 4 rfl rfl ⟨_, rfl, Mem.no, rfl, (hS.sel [0] (by decide))⟩
 ·refine of h rfl rfl (bf hc_1) fun a h=>of h rfl rfl (bf hc_1) fun a h=>of h rfl rfl (bf hc_1) fun a h=>of h rfl rfl (bf hc_1) fun a h=>of h rfl rfl (bf hc_1) fun a h=>pf h rfl (bf hc_1) fun a h=>mv h rfl fun a h=>oo h rfl rfl fun a h=>oo h rfl rfl fun a h=>oo h rfl rfl fun a h=>oo h rfl rfl fun a h=>oo h rfl rfl fun a h=>?_
  refine pf h rfl rfl fun a h=>mv h rfl fun a h=>oo h rfl rfl fun a h=>oo h rfl rfl fun a h=>oo h rfl rfl fun a h=>oo h rfl rfl fun a h=>oo h rfl rfl fun a h=>pf h rfl rfl fun a h=>mv h rfl fun a h=>oo h rfl rfl fun a h=>oo h rfl rfl fun a h=>oo h rfl rfl fun a h=>?_
  refine oo h rfl rfl fun a h=>oo h rfl rfl fun a h=>pf h rfl rfl fun a h=>mv h rfl fun a h=>oo h rfl rfl fun a h=>oo h rfl rfl fun a h=>oo h rfl rfl fun a h=>oo h rfl rfl fun a h=>oo h rfl rfl fun a h=>pf h rfl rfl fun a h=>mv h rfl fun a h=>oo h rfl rfl fun a h=>?_
  refine oo h rfl rfl fun a h=>oo h rfl rfl fun a h=>oo h rfl rfl fun a h=>oo h rfl rfl fun a h=>pf h rfl rfl fun a h=>mv h rfl fun a h=>oo h rfl rfl fun a h=>oo h rfl rfl fun a h=>oo h rfl rfl fun a h=>oo h rfl rfl fun a h=>oo h rfl rfl fun a h=>pf h rfl rfl fun a h=>?_
  refine mv h rfl fun a h=>oo h rfl rfl fun a h=>oo h rfl rfl fun a h=>oo h rfl rfl fun a h=>oo h rfl rfl fun a h=>oo h rfl rfl fun a h=>pf h rfl rfl fun a h=>mv h rfl fun a h=>oo h rfl rfl fun a h=>oo h rfl rfl fun a h=>oo h rfl rfl fun a h=>oo h rfl rfl fun a h=>?_
  refine oo h rfl rfl fun a h=>pf h rfl rfl fun a h=>mv h rfl fun a h=>oo h rfl rfl fun a h=>oo h rfl rfl fun a h=>oo h rfl rfl fun a h=>oo h rfl rfl fun a h=>oo h rfl rfl fun a h=>pf h rfl rfl fun a h=>mv h rfl fun a h=>oo h rfl rfl fun a h=>oo h rfl rfl fun a h=>?_
  refine oo h rfl rfl fun a h=>oo h rfl rfl fun a h=>oo h rfl rfl fun a h=>oo h rfl rfl fun a h=>oo h rfl rfl fun a h=>pf h rfl rfl fun a h=>mv h rfl fun a h=>oo h rfl rfl fun a h=>oo h rfl rfl fun a h=>oo h rfl rfl fun a h=>oo h rfl rfl fun a h=>oo h rfl rfl fun a h=>?_
  refine pf h rfl rfl fun a h=>mv h rfl fun a h=>oo h rfl rfl fun a h=>oo h rfl rfl fun a h=>oo h rfl rfl fun a h=>oo h rfl rfl fun a h=>oo h rfl rfl fun a h=>pf h rfl rfl fun a h=>mv h rfl fun a h=>oo h rfl rfl fun a h=>oo h rfl rfl fun a h=>oo h rfl rfl fun a h=>?_
  refine oo h rfl rfl fun a h=>oo h rfl rfl fun a h=>pf h rfl rfl fun a h=>mv h rfl fun a h=>oo h rfl rfl fun a h=>oo h rfl rfl fun a h=>oo h rfl rfl fun a h=>oo h rfl rfl fun a h=>oo h rfl rfl fun a h=>pf h rfl rfl fun a h=>mv h rfl fun a h=>oo h rfl rfl fun a h=>?_
  refine oo h rfl rfl fun a h=>oo h rfl rfl fun a h=>oo h rfl rfl fun a h=>oo h rfl rfl fun a h=>pf h rfl rfl fun a h=>mv h rfl fun a h=>oo h rfl rfl fun a h=>oo h rfl rfl fun a h=>oo h rfl rfl fun a h=>oo h rfl rfl fun a h=>oo h rfl rfl fun a h=>pf h rfl rfl fun a h=>?_
  refine sg h rfl fun a h=>wpList_nil <| x_then_n (hKJ_1 _ _ ?_)
  refine wp_ret ?_
  obtain rfl := Option.some.inj H
  exact r1 h 4 rfl rfl ⟨_, rfl, Mem.no, rfl, (hS.sel [0] (by decide))⟩

set_option maxHeartbeats 4000000 in
set_option maxRecDepth 20000 in
theorem hocketref11_within.calls (K : Nat) (x0 : List Int) (p0_0 : Value) (x1 : Int) (r : Bool) (w0 w : World) (Z A : Mem) (hA : A.le Z) (hS : Sep w0 w [] Z) (hp0_0 : Rd (Kd.int .i64) A p0_0 x0)
    (H : hocketref11_within.f K x0 x1 = some r) :
    Calls Try.prog 34 [p0_0, iV x1].toArray w (Ret fun v w' => ∃ (N : Mem), v = .bool r ∧ Sep w0 w' [N] Z) := by
 unfold hocketref11_within.f at H
 refine f_enter _ Try.func34 rfl Try.ntmps34 rfl fun a h=>?_
 replace h : Fr 28 a [(0, p0_0), (1, iV x1)] := h
 replace hS := hS.start
 refine qr <| sg h rfl fun a h=>nx <| c_seq fun KJ_1 hKJ_1 => qr <| sg h rfl fun a h=>wpList_nil <| x_then_n ?_
 have hJ_j_1 : hocketref11_within.J1 K x0 x1 = some r → ∀ (a : Act) (w_1 : World), (∃ (N_1 : Mem), Fr 28 a [(0, p0_0), (1, iV x1), (4, .bool false)] ∧ Sep w0 w_1 [N_1] Z ∧ Mem.no.le N_1) → KJ_1 a w_1 := by
  clear H h hS a
  rintro H a w_1 ⟨N_1, h, hS, le_1⟩
  unfold hocketref11_within.J1 at H
  refine hKJ_1 _ _ <| qr <| mv h rfl fun a h=>s_len h rfl U22 rfl hp0_0 fun a h=>mv h rfl fun a h=>s_cmp (b := decide ((x0.length : Int) ≤ x1)) h rfl rfl rfl (.inr (.inr (.inr (.inl ⟨rfl, rfl⟩)))) fun a h=>sg h rfl fun a h=>nx <| wp_ret ?_
  obtain rfl := Option.some.inj H
  exact r1 h 4 rfl rfl ⟨_, rfl, N_1, rfl, (hS.sel [0] (by decide))⟩
 clear hKJ_1
 refine c_block <| c_loop (fun k_1 a w_2 => ∃ (x_1 : Int) (N_2 : Mem), hocketref11_within.L1 K x0 (fun v => hocketref11_within.J1 K x0 x1) k_1 x_1 = some r ∧ Fr 28 a [(0, p0_0), (1, iV x1), (4, .bool false), (5, iV x_1)] ∧ Sep w0 w_2 [N_2] Z ∧ Mem.no.le N_2) K ⟨0, Mem.no, H, (h.keep [0, 1, 4, 5]), (hS.sel [0] (by decide)), mr⟩ (fun a w h => by obtain ⟨_, _, H, _⟩ := h; cases (show (none : Option (Bool)) = some r from H)) ?_
 clear h hS a H
 rintro k_1 a w_2 KL_1 hKL_1 ⟨x_1, N_2, H, h, hS, le_2⟩
 replace H : hocketref11_within.B1 K x0 (fun v => hocketref11_within.J1 K x0 x1) (hocketref11_within.L1 K x0 (fun v => hocketref11_within.J1 K x0 x1) k_1) x_1 = some r := H
 unfold hocketref11_within.B1 at H
 refine c_seq fun KJ_2 hKJ_2 => qr <| mv h rfl fun a h=>mv h rfl fun a h=>s_len h rfl U22 rfl hp0_0 fun a h=>s_cmp (b := decide (x_1 < (x0.length : Int))) h rfl rfl rfl (.inr (.inr (.inl ⟨rfl, rfl⟩))) fun a h=>wpList_nil <| x_then_n ?_
 obtain ⟨hc_1, H⟩ | ⟨hc_1, H⟩ := ii H
 ·refine c_cond_t h rfl (dt hc_1) <| wp_skip <| x_then_n (hKJ_2 _ _ ?_)
  refine c_seq fun KJ_3 hKJ_3 => c_block <| c_seq fun KJ_4 hKJ_4 => ?_
  have hJ_j_2 : ∀ (x_2 : Bool), hocketref11_within.J2 K (hocketref11_within.L1 K x0 (fun v => hocketref11_within.J1 K x0 x1) k_1) x_1 x_2 = some r → ∀ (a : Act) (w_3 : World), (∃ (N_3 : Mem), Fr 28 a [(0, p0_0), (1, iV x1), (4, .bool false), (5, iV x_1), (23, .bool x_2)] ∧ Sep w0 w_3 [N_3] Z ∧ N_2.le N_3) → KJ_4 a w_3 := by
   clear H h hS a
   rintro x_2 H a w_3 ⟨N_3, h, hS, le_3⟩
   unfold hocketref11_within.J2 at H
   refine hKJ_4 _ _ ?_
   obtain ⟨hc_2, H⟩ | ⟨hc_2, H⟩ := ii H
   ·refine c_cond_t h rfl hc_2 <| qr <| sg h rfl fun a h=>wpList_nil ?_
    replace h : Fr 28 a [(0, _), (1, _), (4, _), (5, _)] := h.keep [0, 1, 4, 5]
    refine x_then_n <| wp_ret (x_block_r (x_then_r (x_then_r (x_block_r (x_then_r ?_)))))
    obtain rfl := Option.some.inj H
    exact r1 h 4 rfl rfl ⟨_, rfl, N_3, rfl, (hS.sel [0] (by decide))⟩
   ·refine c_cond_f h rfl (ef hc_2) <| wp_skip <| x_block_n <| x_then_n (hKJ_3 _ _ ?_)
    refine wp_region_lit <| mv h rfl fun a h=>s_arith (r := w64 (x_1 + 1)) h rfl rfl rfl (.inl ⟨rfl, rfl⟩) fun a h=>sg h rfl fun a h=>wpList_nil ?_
    replace h : Fr 28 a [(0, _), (1, _), (4, _), (5, iV (w64 (x_1 + 1)))] := h.keep [0, 1, 4, 5]
    refine x_then_n (hKL_1 _ _ ?_)
    exact ⟨w64 (x_1 + 1), N_3, H, (h.keep [0, 1, 4, 5]), (hS.sel [0] (by decide)), (le_2.trans le_3)⟩
  clear hKJ_4
  refine wp_region_lit <| mv h rfl fun a h=>mv h rfl fun a h=>?_
  obtain ⟨t_1, et_1, H⟩ := bs H
  refine v_index h rfl U22 ti3 rfl rfl rfl hp0_0 (hA.trans hS.old) et_1 fun ad_1 cs_1 hk_1 hc_3 => ?_
  obtain rfl := (show cs_1 = [iV t_1] from hk_1)
  intro a h
  refine s_load h rfl rfl (el_one (o := 0) hc_3 U3 rfl rfl) fun a h=>s_cmp (b := decide (t_1 < 0)) h rfl rfl rfl (.inr (.inr (.inl ⟨rfl, rfl⟩))) fun a h=>mv h rfl fun a h=>?_
  obtain ⟨hc_4, H⟩ | ⟨hc_4, H⟩ := ii H
  ·refine of h rfl rfl (dt hc_4) fun a h=>of h rfl rfl (dt hc_4) fun a h=>of h rfl rfl (dt hc_4) fun a h=>of h rfl rfl (dt hc_4) fun a h=>of h rfl rfl (dt hc_4) fun a h=>pt h rfl (dt hc_4) fun a h=>wpList_nil ?_
   replace h : Fr 28 a [(0, _), (1, _), (4, _), (5, _), (23, .bool true)] := h.keep [0, 1, 4, 5, 23]
   exact x_then_n (hJ_j_2 true H _ _ ⟨N_2, (h.keep [0, 1, 4, 5, 23]), (hS.sel [0] (by decide)), mr⟩)
  ·refine s_on h rfl rfl (df hc_4) <| mv h rfl fun a h=>s_on h rfl rfl (df hc_4) <| mv h rfl fun a h=>s_on h rfl rfl (df hc_4) ?_
   obtain ⟨t_2, et_2, H⟩ := bs H
   refine v_index h rfl U22 ti3 rfl rfl rfl hp0_0 (hA.trans hS.old) et_2 fun ad_2 cs_2 hk_2 hc_5 => ?_
   obtain rfl := (show cs_2 = [iV t_2] from hk_2)
   intro a h
   refine s_on h rfl rfl (df hc_4) <| s_load h rfl rfl (el_one (o := 0) hc_5 U3 rfl rfl) fun a h=>s_on h rfl rfl (df hc_4) <| s_cmp (b := decide (t_2 > 1099511627776)) h rfl rfl rfl (.inr (.inr (.inr (.inr (.inl ⟨rfl, rfl⟩))))) fun a h=>pf h rfl (df hc_4) fun a h=>wpList_nil ?_
   replace h : Fr 28 a [(0, _), (1, _), (4, _), (5, _), (23, .bool (decide (t_2 > 1099511627776)))] := h.keep [0, 1, 4, 5, 23]
   exact x_then_n (hJ_j_2 (decide (t_2 > 1099511627776)) H _ _ ⟨N_2, (h.keep [0, 1, 4, 5, 23]), (hS.sel [0] (by decide)), mr⟩)
 ·refine c_cond_f h rfl (df hc_1) <| wp_exit (x_then_x (x_then_x (x_block_t ?_)))
  exact x_then_n (hJ_j_1  H _ _ ⟨N_2, (h.keep [0, 1, 4]), (hS.sel [0] (by decide)), le_2⟩)

set_option maxHeartbeats 4000000 in
set_option maxRecDepth 20000 in
theorem hocketref11_entry.calls (x0 : api_Entry) (p0_0 : Value) (p0_1 : Value) (p0_2 : Value) (r : Bool) (w0 w : World) (Z A : Mem) (hA : A.le Z) (hS : Sep w0 w [] Z) (hp0_0 : Rd Kd.u8 A p0_0 x0.Cmd.Key) (hp0_1 : Rd Kd.u8 A p0_1 x0.Cmd.Val) (hp0_2 : Rd Kd.u8 A p0_2 x0.Cmd.Old)
    (H : hocketref11_entry.f x0 = some r) :
    Calls Try.prog 35 [.agg (E30 x0 p0_0 p0_1 p0_2).toArray].toArray w (Ret fun v w' => ∃ (N : Mem), v = .bool r ∧ Sep w0 w' [N] Z) := by
 unfold hocketref11_entry.f at H
 refine f_enter _ Try.func35 rfl Try.ntmps35 rfl fun a h=>?_
 replace h : Fr 62 a [(0, .agg (E30 x0 p0_0 p0_1 p0_2).toArray)] := h
 replace hS := hS.start
 refine qr <| v_box (vs := (E30 x0 p0_0 p0_1 p0_2)) h rfl rfl rfl hS fun w_1 g_1 hS' a h => ?_
 replace hS : Sep w0 w_1 [_, bx g_1 30 (E30 x0 p0_0 p0_1 p0_2)] Z := hS'
 refine sg h rfl fun a h=>nx <| qr <| s_fieldAddr h rfl U30 rfl ti28 rfl rfl fun a h=>s_load h rfl rfl (hS.load_agg (p := 1) (us := (E28 x0.Cmd p0_0 p0_1 p0_2)) rfl U28 rfl ti28 rfl rfl) fun a h=>v_alloc h rfl ti28 hS fun w_2 g_2 hS' a h => ?_
 replace hS : Sep w0 w_2 [_, _, bx g_2 28 [iV 0, iV 0, nS, nS, nS]] Z := hS'
 refine sto 2 h rfl rfl hS rfl ti28 rfl rfl rfl (oa 2 rfl (oc hp0_0.one (oc hp0_1.one (oc hp0_2.one on0)))) fun w_3 hS' => ?_
 replace hS : Sep w0 w_3 [_, _, bx g_2 28 (E28 x0.Cmd p0_0 p0_1 p0_2)] Z := hS'
 refine nx <| c_seq fun KJ_1 hKJ_1 => wp_region_lit <| s_fieldAddr h rfl U30 rfl ti3 rfl rfl fun a h=>s_load h rfl rfl (hS.load_one (p := 1) rfl U3 rfl rfl) fun a h=>s_cmp (b := decide (x0.Sess ≥ 0)) h rfl rfl rfl (.inr (.inr (.inr (.inr (.inr ⟨rfl, rfl⟩))))) fun a h=>mv h rfl fun a h=>?_
 obtain ⟨hc_1, H⟩ | ⟨hc_1, H⟩ := ii H
 ·refine s_on h rfl rfl (dt hc_1) <| s_fieldAddr h rfl U30 rfl ti3 rfl rfl fun a h=>s_on h rfl rfl (dt hc_1) <| s_load h rfl rfl (hS.load_one (p := 1) rfl U3 rfl rfl) fun a h=>s_on h rfl rfl (dt hc_1) <| s_cmp (b := decide (x0.Sess ≤ 1073741824)) h rfl rfl rfl (.inr (.inr (.inr (.inl ⟨rfl, rfl⟩)))) fun a h=>pt h rfl (dt hc_1) fun a h=>mv h rfl fun a h=>?_
  obtain ⟨hc_2, H⟩ | ⟨hc_2, H⟩ := ii H
  ·refine s_on h rfl rfl (dt hc_2) <| s_fieldAddr h rfl U30 rfl ti3 rfl rfl fun a h=>s_on h rfl rfl (dt hc_2) <| s_load h rfl rfl (hS.load_one (p := 1) rfl U3 rfl rfl) fun a h=>s_on h rfl rfl (dt hc_2) <| s_cmp (b := decide (x0.Seq ≥ 0)) h rfl rfl rfl (.inr (.inr (.inr (.inr (.inr ⟨rfl, rfl⟩))))) fun a h=>pt h rfl (dt hc_2) fun a h=>mv h rfl fun a h=>?_
   obtain ⟨hc_3, H⟩ | ⟨hc_3, H⟩ := ii H
   ·refine s_on h rfl rfl (dt hc_3) <| s_fieldAddr h rfl U30 rfl ti3 rfl rfl fun a h=>s_on h rfl rfl (dt hc_3) <| s_load h rfl rfl (hS.load_one (p := 1) rfl U3 rfl rfl) fun a h=>s_on h rfl rfl (dt hc_3) <| s_cmp (b := decide (x0.Seq ≤ 1073741824)) h rfl rfl rfl (.inr (.inr (.inr (.inl ⟨rfl, rfl⟩)))) fun a h=>pt h rfl (dt hc_3) fun a h=>mv h rfl fun a h=>?_
    obtain ⟨hc_4, H⟩ | ⟨hc_4, H⟩ := ii H
    ·refine s_on h rfl rfl (dt hc_4) <| s_fieldAddr h rfl U28 rfl ti3 rfl rfl fun a h=>s_on h rfl rfl (dt hc_4) <| s_load h rfl rfl (hS.load_one (p := 2) rfl U3 rfl rfl) fun a h=>s_on h rfl rfl (dt hc_4) <| s_cmp (b := decide (x0.Cmd.Kind ≥ 0)) h rfl rfl rfl (.inr (.inr (.inr (.inr (.inr ⟨rfl, rfl⟩))))) fun a h=>pt h rfl (dt hc_4) fun a h=>mv h rfl fun a h=>?_
     obtain ⟨hc_5, H⟩ | ⟨hc_5, H⟩ := ii H
     ·refine s_on h rfl rfl (dt hc_5) <| s_fieldAddr h rfl U28 rfl ti3 rfl rfl fun a h=>s_on h rfl rfl (dt hc_5) <| s_load h rfl rfl (hS.load_one (p := 2) rfl U3 rfl rfl) fun a h=>s_on h rfl rfl (dt hc_5) <| s_cmp (b := decide (x0.Cmd.Kind ≤ 1073741824)) h rfl rfl rfl (.inr (.inr (.inr (.inl ⟨rfl, rfl⟩)))) fun a h=>pt h rfl (dt hc_5) fun a h=>mv h rfl fun a h=>?_
      obtain ⟨hc_6, H⟩ | ⟨hc_6, H⟩ := ii H
      ·refine s_on h rfl rfl (dt hc_6) <| s_fieldAddr h rfl U28 rfl ti3 rfl rfl fun a h=>s_on h rfl rfl (dt hc_6) <| s_load h rfl rfl (hS.load_one (p := 2) rfl U3 rfl rfl) fun a h=>s_on h rfl rfl (dt hc_6) <| s_cmp (b := decide (x0.Cmd.Who ≥ 0)) h rfl rfl rfl (.inr (.inr (.inr (.inr (.inr ⟨rfl, rfl⟩))))) fun a h=>pt h rfl (dt hc_6) fun a h=>mv h rfl fun a h=>?_
       obtain ⟨hc_7, H⟩ | ⟨hc_7, H⟩ := ii H
       ·refine s_on h rfl rfl (dt hc_7) <| s_fieldAddr h rfl U28 rfl ti3 rfl rfl fun a h=>s_on h rfl rfl (dt hc_7) <| s_load h rfl rfl (hS.load_one (p := 2) rfl U3 rfl rfl) fun a h=>s_on h rfl rfl (dt hc_7) <| s_cmp (b := decide (x0.Cmd.Who ≤ 1073741824)) h rfl rfl rfl (.inr (.inr (.inr (.inl ⟨rfl, rfl⟩)))) fun a h=>pt h rfl (dt hc_7) fun a h=>mv h rfl fun a h=>?_
        obtain ⟨hc_8, H⟩ | ⟨hc_8, H⟩ := ii H
        ·refine s_on h rfl rfl (dt hc_8) <| s_fieldAddr h rfl U28 rfl ti26 rfl rfl fun a h=>s_on h rfl rfl (dt hc_8) <| s_load h rfl rfl (hS.load_one (p := 2) rfl U26 rfl rfl) fun a h=>s_on h rfl rfl (dt hc_8) <| s_len h rfl U26 rfl hp0_0 fun a h=>s_on h rfl rfl (dt hc_8) <| s_cmp (b := decide ((x0.Cmd.Key.length : Int) ≤ 32)) h rfl rfl rfl (.inr (.inr (.inr (.inl ⟨rfl, rfl⟩)))) fun a h=>pt h rfl (dt hc_8) fun a h=>mv h rfl fun a h=>?_
         obtain ⟨hc_9, H⟩ | ⟨hc_9, H⟩ := ii H
         ·refine s_on h rfl rfl (dt hc_9) <| s_fieldAddr h rfl U28 rfl ti26 rfl rfl fun a h=>s_on h rfl rfl (dt hc_9) <| s_load h rfl rfl (hS.load_one (p := 2) rfl U26 rfl rfl) fun a h=>s_on h rfl rfl (dt hc_9) <| s_len h rfl U26 rfl hp0_1 fun a h=>s_on h rfl rfl (dt hc_9) <| s_cmp (b := decide ((x0.Cmd.Val.length : Int) ≤ 32)) h rfl rfl rfl (.inr (.inr (.inr (.inl ⟨rfl, rfl⟩)))) fun a h=>pt h rfl (dt hc_9) fun a h=>mv h rfl fun a h=>?_
          obtain ⟨hc_10, H⟩ | ⟨hc_10, H⟩ := ii H
          ·refine s_on h rfl rfl (dt hc_10) <| s_fieldAddr h rfl U28 rfl ti26 rfl rfl fun a h=>s_on h rfl rfl (dt hc_10) <| s_load h rfl rfl (hS.load_one (p := 2) rfl U26 rfl rfl) fun a h=>s_on h rfl rfl (dt hc_10) <| s_len h rfl U26 rfl hp0_2 fun a h=>s_on h rfl rfl (dt hc_10) <| s_cmp (b := decide ((x0.Cmd.Old.length : Int) ≤ 32)) h rfl rfl rfl (.inr (.inr (.inr (.inl ⟨rfl, rfl⟩)))) fun a h=>pt h rfl (dt hc_10) fun a h=>sg h rfl fun a h=>wpList_nil <| x_then_n (hKJ_1 _ _ ?_)
           refine wp_ret ?_
           obtain rfl := Option.some.inj H
           exact r1 h 2 rfl rfl ⟨_, rfl, Mem.no, rfl, (hS.sel [0] (by decide))⟩
          ·refine of h rfl rfl (df hc_10) fun a h=>of h rfl rfl (df hc_10) fun a h=>of h rfl rfl (df hc_10) fun a h=>of h rfl rfl (df hc_10) fun a h=>pf h rfl (df hc_10) fun a h=>sg h rfl fun a h=>wpList_nil <| x_then_n (hKJ_1 _ _ ?_)
           refine wp_ret ?_
           obtain rfl := Option.some.inj H
           exact r1 h 2 rfl rfl ⟨_, rfl, Mem.no, rfl, (hS.sel [0] (by decide))⟩
         ·refine of h rfl rfl (df hc_9) fun a h=>of h rfl rfl (df hc_9) fun a h=>of h rfl rfl (df hc_9) fun a h=>of h rfl rfl (df hc_9) fun a h=>pf h rfl (df hc_9) fun a h=>mv h rfl fun a h=>oo h rfl rfl fun a h=>oo h rfl rfl fun a h=>oo h rfl rfl fun a h=>oo h rfl rfl fun a h=>pf h rfl rfl fun a h=>sg h rfl fun a h=>?_
          refine wpList_nil <| x_then_n (hKJ_1 _ _ ?_)
          refine wp_ret ?_
          obtain rfl := Option.some.inj H
          exact r1 h 2 rfl rfl ⟨_, rfl, Mem.no, rfl, (hS.sel [0] (by decide))⟩
        ·refine of h rfl rfl (df hc_8) fun a h=>of h rfl rfl (df hc_8) fun a h=>of h rfl rfl (df hc_8) fun a h=>of h rfl rfl (df hc_8) fun a h=>pf h rfl (df hc_8) fun a h=>mv h rfl fun a h=>oo h rfl rfl fun a h=>oo h rfl rfl fun a h=>oo h rfl rfl fun a h=>oo h rfl rfl fun a h=>pf h rfl rfl fun a h=>mv h rfl fun a h=>?_
         refine oo h rfl rfl fun a h=>oo h rfl rfl fun a h=>oo h rfl rfl fun a h=>oo h rfl rfl fun a h=>pf h rfl rfl fun a h=>sg h rfl fun a h=>wpList_nil <| x_then_n (hKJ_1 _ _ ?_)
         refine wp_ret ?_
         obtain rfl := Option.some.inj H
         exact r1 h 2 rfl rfl ⟨_, rfl, Mem.no, rfl, (hS.sel [0] (by decide))⟩
       ·refine of h rfl rfl (df hc_7) fun a h=>of h rfl rfl (df hc_7) fun a h=>of h rfl rfl (df hc_7) fun a h=>pf h rfl (df hc_7) fun a h=>mv h rfl fun a h=>oo h rfl rfl fun a h=>oo h rfl rfl fun a h=>oo h rfl rfl fun a h=>oo h rfl rfl fun a h=>pf h rfl rfl fun a h=>mv h rfl fun a h=>oo h rfl rfl fun a h=>?_
        refine oo h rfl rfl fun a h=>oo h rfl rfl fun a h=>oo h rfl rfl fun a h=>pf h rfl rfl fun a h=>mv h rfl fun a h=>oo h rfl rfl fun a h=>oo h rfl rfl fun a h=>oo h rfl rfl fun a h=>oo h rfl rfl fun a h=>pf h rfl rfl fun a h=>sg h rfl fun a h=>wpList_nil <| x_then_n (hKJ_1 _ _ ?_)
        refine wp_ret ?_
        obtain rfl := Option.some.inj H
        exact r1 h 2 rfl rfl ⟨_, rfl, Mem.no, rfl, (hS.sel [0] (by decide))⟩
      ·refine of h rfl rfl (df hc_6) fun a h=>of h rfl rfl (df hc_6) fun a h=>of h rfl rfl (df hc_6) fun a h=>pf h rfl (df hc_6) fun a h=>mv h rfl fun a h=>oo h rfl rfl fun a h=>oo h rfl rfl fun a h=>oo h rfl rfl fun a h=>pf h rfl rfl fun a h=>mv h rfl fun a h=>oo h rfl rfl fun a h=>oo h rfl rfl fun a h=>?_
       refine oo h rfl rfl fun a h=>oo h rfl rfl fun a h=>pf h rfl rfl fun a h=>mv h rfl fun a h=>oo h rfl rfl fun a h=>oo h rfl rfl fun a h=>oo h rfl rfl fun a h=>oo h rfl rfl fun a h=>pf h rfl rfl fun a h=>mv h rfl fun a h=>oo h rfl rfl fun a h=>oo h rfl rfl fun a h=>?_
       refine oo h rfl rfl fun a h=>oo h rfl rfl fun a h=>pf h rfl rfl fun a h=>sg h rfl fun a h=>wpList_nil <| x_then_n (hKJ_1 _ _ ?_)
       refine wp_ret ?_
       obtain rfl := Option.some.inj H
       exact r1 h 2 rfl rfl ⟨_, rfl, Mem.no, rfl, (hS.sel [0] (by decide))⟩
     ·refine of h rfl rfl (df hc_5) fun a h=>of h rfl rfl (df hc_5) fun a h=>of h rfl rfl (df hc_5) fun a h=>pf h rfl (df hc_5) fun a h=>mv h rfl fun a h=>oo h rfl rfl fun a h=>oo h rfl rfl fun a h=>oo h rfl rfl fun a h=>pf h rfl rfl fun a h=>mv h rfl fun a h=>oo h rfl rfl fun a h=>oo h rfl rfl fun a h=>?_
      refine oo h rfl rfl fun a h=>pf h rfl rfl fun a h=>mv h rfl fun a h=>oo h rfl rfl fun a h=>oo h rfl rfl fun a h=>oo h rfl rfl fun a h=>oo h rfl rfl fun a h=>pf h rfl rfl fun a h=>mv h rfl fun a h=>oo h rfl rfl fun a h=>oo h rfl rfl fun a h=>oo h rfl rfl fun a h=>?_
      refine oo h rfl rfl fun a h=>pf h rfl rfl fun a h=>mv h rfl fun a h=>oo h rfl rfl fun a h=>oo h rfl rfl fun a h=>oo h rfl rfl fun a h=>oo h rfl rfl fun a h=>pf h rfl rfl fun a h=>sg h rfl fun a h=>wpList_nil <| x_then_n (hKJ_1 _ _ ?_)
      refine wp_ret ?_
      obtain rfl := Option.some.inj H
      exact r1 h 2 rfl rfl ⟨_, rfl, Mem.no, rfl, (hS.sel [0] (by decide))⟩
    ·refine of h rfl rfl (df hc_4) fun a h=>of h rfl rfl (df hc_4) fun a h=>of h rfl rfl (df hc_4) fun a h=>pf h rfl (df hc_4) fun a h=>mv h rfl fun a h=>oo h rfl rfl fun a h=>oo h rfl rfl fun a h=>oo h rfl rfl fun a h=>pf h rfl rfl fun a h=>mv h rfl fun a h=>oo h rfl rfl fun a h=>oo h rfl rfl fun a h=>?_
     refine oo h rfl rfl fun a h=>pf h rfl rfl fun a h=>mv h rfl fun a h=>oo h rfl rfl fun a h=>oo h rfl rfl fun a h=>oo h rfl rfl fun a h=>pf h rfl rfl fun a h=>mv h rfl fun a h=>oo h rfl rfl fun a h=>oo h rfl rfl fun a h=>oo h rfl rfl fun a h=>oo h rfl rfl fun a h=>?_
     refine pf h rfl rfl fun a h=>mv h rfl fun a h=>oo h rfl rfl fun a h=>oo h rfl rfl fun a h=>oo h rfl rfl fun a h=>oo h rfl rfl fun a h=>pf h rfl rfl fun a h=>mv h rfl fun a h=>oo h rfl rfl fun a h=>oo h rfl rfl fun a h=>oo h rfl rfl fun a h=>oo h rfl rfl fun a h=>?_
     refine pf h rfl rfl fun a h=>sg h rfl fun a h=>wpList_nil <| x_then_n (hKJ_1 _ _ ?_)
     refine wp_ret ?_
     obtain rfl := Option.some.inj H
     exact r1 h 2 rfl rfl ⟨_, rfl, Mem.no, rfl, (hS.sel [0] (by decide))⟩
   ·refine of h rfl rfl (df hc_3) fun a h=>of h rfl rfl (df hc_3) fun a h=>of h rfl rfl (df hc_3) fun a h=>pf h rfl (df hc_3) fun a h=>mv h rfl fun a h=>oo h rfl rfl fun a h=>oo h rfl rfl fun a h=>oo h rfl rfl fun a h=>pf h rfl rfl fun a h=>mv h rfl fun a h=>oo h rfl rfl fun a h=>oo h rfl rfl fun a h=>?_
    refine oo h rfl rfl fun a h=>pf h rfl rfl fun a h=>mv h rfl fun a h=>oo h rfl rfl fun a h=>oo h rfl rfl fun a h=>oo h rfl rfl fun a h=>pf h rfl rfl fun a h=>mv h rfl fun a h=>oo h rfl rfl fun a h=>oo h rfl rfl fun a h=>oo h rfl rfl fun a h=>pf h rfl rfl fun a h=>?_
    refine mv h rfl fun a h=>oo h rfl rfl fun a h=>oo h rfl rfl fun a h=>oo h rfl rfl fun a h=>oo h rfl rfl fun a h=>pf h rfl rfl fun a h=>mv h rfl fun a h=>oo h rfl rfl fun a h=>oo h rfl rfl fun a h=>oo h rfl rfl fun a h=>oo h rfl rfl fun a h=>pf h rfl rfl fun a h=>?_
    refine mv h rfl fun a h=>oo h rfl rfl fun a h=>oo h rfl rfl fun a h=>oo h rfl rfl fun a h=>oo h rfl rfl fun a h=>pf h rfl rfl fun a h=>sg h rfl fun a h=>wpList_nil <| x_then_n (hKJ_1 _ _ ?_)
    refine wp_ret ?_
    obtain rfl := Option.some.inj H
    exact r1 h 2 rfl rfl ⟨_, rfl, Mem.no, rfl, (hS.sel [0] (by decide))⟩
  ·refine of h rfl rfl (df hc_2) fun a h=>of h rfl rfl (df hc_2) fun a h=>of h rfl rfl (df hc_2) fun a h=>pf h rfl (df hc_2) fun a h=>mv h rfl fun a h=>oo h rfl rfl fun a h=>oo h rfl rfl fun a h=>oo h rfl rfl fun a h=>pf h rfl rfl fun a h=>mv h rfl fun a h=>oo h rfl rfl fun a h=>oo h rfl rfl fun a h=>?_
   refine oo h rfl rfl fun a h=>pf h rfl rfl fun a h=>mv h rfl fun a h=>oo h rfl rfl fun a h=>oo h rfl rfl fun a h=>oo h rfl rfl fun a h=>pf h rfl rfl fun a h=>mv h rfl fun a h=>oo h rfl rfl fun a h=>oo h rfl rfl fun a h=>oo h rfl rfl fun a h=>pf h rfl rfl fun a h=>?_
   refine mv h rfl fun a h=>oo h rfl rfl fun a h=>oo h rfl rfl fun a h=>oo h rfl rfl fun a h=>pf h rfl rfl fun a h=>mv h rfl fun a h=>oo h rfl rfl fun a h=>oo h rfl rfl fun a h=>oo h rfl rfl fun a h=>oo h rfl rfl fun a h=>pf h rfl rfl fun a h=>mv h rfl fun a h=>?_
   refine oo h rfl rfl fun a h=>oo h rfl rfl fun a h=>oo h rfl rfl fun a h=>oo h rfl rfl fun a h=>pf h rfl rfl fun a h=>mv h rfl fun a h=>oo h rfl rfl fun a h=>oo h rfl rfl fun a h=>oo h rfl rfl fun a h=>oo h rfl rfl fun a h=>pf h rfl rfl fun a h=>sg h rfl fun a h=>?_
   refine wpList_nil <| x_then_n (hKJ_1 _ _ ?_)
   refine wp_ret ?_
   obtain rfl := Option.some.inj H
   exact r1 h 2 rfl rfl ⟨_, rfl, Mem.no, rfl, (hS.sel [0] (by decide))⟩
 ·refine of h rfl rfl (df hc_1) fun a h=>of h rfl rfl (df hc_1) fun a h=>of h rfl rfl (df hc_1) fun a h=>pf h rfl (df hc_1) fun a h=>mv h rfl fun a h=>oo h rfl rfl fun a h=>oo h rfl rfl fun a h=>oo h rfl rfl fun a h=>pf h rfl rfl fun a h=>mv h rfl fun a h=>oo h rfl rfl fun a h=>oo h rfl rfl fun a h=>?_
  refine oo h rfl rfl fun a h=>pf h rfl rfl fun a h=>mv h rfl fun a h=>oo h rfl rfl fun a h=>oo h rfl rfl fun a h=>oo h rfl rfl fun a h=>pf h rfl rfl fun a h=>mv h rfl fun a h=>oo h rfl rfl fun a h=>oo h rfl rfl fun a h=>oo h rfl rfl fun a h=>pf h rfl rfl fun a h=>?_
  refine mv h rfl fun a h=>oo h rfl rfl fun a h=>oo h rfl rfl fun a h=>oo h rfl rfl fun a h=>pf h rfl rfl fun a h=>mv h rfl fun a h=>oo h rfl rfl fun a h=>oo h rfl rfl fun a h=>oo h rfl rfl fun a h=>pf h rfl rfl fun a h=>mv h rfl fun a h=>oo h rfl rfl fun a h=>?_
  refine oo h rfl rfl fun a h=>oo h rfl rfl fun a h=>oo h rfl rfl fun a h=>pf h rfl rfl fun a h=>mv h rfl fun a h=>oo h rfl rfl fun a h=>oo h rfl rfl fun a h=>oo h rfl rfl fun a h=>oo h rfl rfl fun a h=>pf h rfl rfl fun a h=>mv h rfl fun a h=>oo h rfl rfl fun a h=>?_
  refine oo h rfl rfl fun a h=>oo h rfl rfl fun a h=>oo h rfl rfl fun a h=>pf h rfl rfl fun a h=>sg h rfl fun a h=>wpList_nil <| x_then_n (hKJ_1 _ _ ?_)
  refine wp_ret ?_
  obtain rfl := Option.some.inj H
  exact r1 h 2 rfl rfl ⟨_, rfl, Mem.no, rfl, (hS.sel [0] (by decide))⟩

set_option maxHeartbeats 4000000 in
set_option maxRecDepth 20000 in
theorem hocketref11_Ok.calls (K : Nat) (x0 : api_Msg) (p0_0 : Value) (p0_1 : Value) (p0_2 : Value) (p0_3 : Value) (p0_4 : Value) (p0_5 : Value) (r : Bool) (w0 w : World) (Z A : Mem) (hA : A.le Z) (hS : Sep w0 w [] Z) (hp0_0 : Rd Kd.u8 A p0_0 x0.Data) (hp0_1 : Rd (Kd.int .i64) A p0_1 x0.Have) (hp0_2 : Rd (Kd.int .i64) A p0_2 x0.Need) (hp0_3 : Rd Kd.u8 A p0_3 x0.Entry.Cmd.Key) (hp0_4 : Rd Kd.u8 A p0_4 x0.Entry.Cmd.Val) (hp0_5 : Rd Kd.u8 A p0_5 x0.Entry.Cmd.Old)
    (H : hocketref11_Ok.f K x0 = some r) :
    Calls Try.prog 21 [.agg (E32 x0 p0_0 p0_1 p0_2 p0_3 p0_4 p0_5).toArray].toArray w (Ret fun v w' => ∃ (N : Mem), v = .bool r ∧ Sep w0 w' [N] Z) := by
 unfold hocketref11_Ok.f at H
 refine f_enter _ Try.func21 rfl Try.ntmps21 rfl fun a h=>?_
 replace h : Fr 119 a [(0, .agg (E32 x0 p0_0 p0_1 p0_2 p0_3 p0_4 p0_5).toArray)] := h
 replace hS := hS.start
 refine qr <| v_box (vs := (E32 x0 p0_0 p0_1 p0_2 p0_3 p0_4 p0_5)) h rfl rfl rfl hS fun w_1 g_1 hS' a h => ?_
 replace hS : Sep w0 w_1 [_, bx g_1 32 (E32 x0 p0_0 p0_1 p0_2 p0_3 p0_4 p0_5)] Z := hS'
 refine sg h rfl fun a h=>nx <| c_seq fun KJ_1 hKJ_1 => c_seq fun KJ_2 hKJ_2 => ?_
 have hJ_j_1 : ∀ (x_1 : Bool), hocketref11_Ok.J1 K x0 x_1 = some r → ∀ (a : Act) (w_2 : World), (∃ (N_1 : Mem), Fr 119 a [(1, .pointer (some ⟨g_1, 0, none⟩)), (2, .bool false), (30, .bool x_1)] ∧ Sep w0 w_2 [N_1, bx g_1 32 (E32 x0 p0_0 p0_1 p0_2 p0_3 p0_4 p0_5)] Z ∧ Mem.no.le N_1) → KJ_2 a w_2 := by
  clear H h hS a
  rintro x_1 H a w_2 ⟨N_1, h, hS, le_1⟩
  unfold hocketref11_Ok.J1 at H
  refine hKJ_2 _ _ ?_
  obtain ⟨hc_1, H⟩ | ⟨hc_1, H⟩ := ii H
  ·refine c_cond_t h rfl hc_1 <| qr <| sg h rfl fun a h=>nx <| wp_ret (x_then_r ?_)
   obtain rfl := Option.some.inj H
   exact r1 h 2 rfl rfl ⟨_, rfl, N_1, rfl, (hS.sel [0] (by decide))⟩
  ·refine c_cond_f h rfl (ef hc_1) <| wp_skip <| x_then_n (hKJ_1 _ _ ?_)
   refine c_seq fun KJ_3 hKJ_3 => qr <| s_fieldAddr h rfl U32 rfl ti3 rfl rfl fun a h=>s_load h rfl rfl (hS.load_one (p := 1) rfl U3 rfl rfl) fun a h=>nx <| c_block <| c_seq fun KJ_4 hKJ_4 => qr <| s_cmp (b := (x0.Kind == 1)) h rfl rfl rfl (.inl ⟨rfl, rfl⟩) fun a h=>?_
   refine sg h rfl fun a h=>wpList_nil <| x_then_n ?_
   have hJ_j_2 : ∀ (x_2 : Bool), hocketref11_Ok.J2 K x0 x_2 = some r → ∀ (a : Act) (w_3 : World), (∃ (N_2 : Mem), Fr 119 a [(1, .pointer (some ⟨g_1, 0, none⟩)), (2, .bool false), (32, iV x0.Kind), (33, .bool x_2)] ∧ Sep w0 w_3 [N_2, bx g_1 32 (E32 x0 p0_0 p0_1 p0_2 p0_3 p0_4 p0_5)] Z ∧ N_1.le N_2) → KJ_4 a w_3 := by
    clear H h hS a
    rintro x_2 H a w_3 ⟨N_2, h, hS, le_2⟩
    unfold hocketref11_Ok.J2 at H
    refine hKJ_4 _ _ ?_
    obtain ⟨hc_2, H⟩ | ⟨hc_2, H⟩ := ii H
    ·refine c_cond_t h rfl hc_2 <| qr <| sg h rfl fun a h=>wpList_nil ?_
     replace h : Fr 119 a [(2, .bool true)] := h.keep [2]
     refine x_then_n <| wp_ret (x_block_r (x_then_r ?_))
     obtain rfl := Option.some.inj H
     exact r1 h 2 rfl rfl ⟨_, rfl, N_2, rfl, (hS.sel [0] (by decide))⟩
    ·refine c_cond_f h rfl (ef hc_2) <| qr <| s_cmp (b := (x0.Kind == 2)) h rfl rfl rfl (.inl ⟨rfl, rfl⟩) fun a h=>sg h rfl fun a h=>wpList_nil ?_
     replace h : Fr 119 a [(1, _), (2, _), (32, _), (36, .bool (x0.Kind == 2))] := h.keep [1, 2, 32, 36]
     refine x_then_n ?_
     obtain ⟨hc_3, H⟩ | ⟨hc_3, H⟩ := ii H
     ·refine c_cond_t h rfl (bt hc_3) <| qr <| s_fieldAddr h rfl U32 rfl ti3 rfl rfl fun a h=>s_load h rfl rfl (hS.load_one (p := 1) rfl U3 rfl rfl) fun a h=>s_fieldAddr h rfl U32 rfl ti3 rfl rfl fun a h=>s_load h rfl rfl (hS.load_one (p := 1) rfl U3 rfl rfl) fun a h=>?_
      have hq_1 : Reps (Kd.int .i64) Mem.no ([x0.Inst, x0.Len] : List Int) _ := ((Reps.one (d := (Kd.int .i64)) (x := x0.Inst) (show (Kd.int .i64).K _ _ [iV x0.Inst] from rfl)).append ((Reps.one (d := (Kd.int .i64)) (x := x0.Len) (show (Kd.int .i64).K _ _ [iV x0.Len] from rfl)).append (Reps.nil (Kd.int .i64) _)))
      refine s_buildSlice h rfl U22 ti3 rfl rfl rfl (.cons rfl (.cons rfl .nil)) rfl rfl rfl hS hq_1 rfl fun w_4 v_1 M_1 hS' ho_1 a h => ?_
      replace hS : Sep w0 w_4 [_, _, M_1] Z := hS'
      obtain ⟨t_1, et_1, H⟩ := bs H
      refine s_call h rfl Try.call34 rfl (hocketref11_within.calls K ([x0.Inst, x0.Len] : List Int) _ 2 t_1 w0 _ _ _ mr (hS.enter [] (by decide)) (ho_1.rd (hS.own_zed [] 1 (by decide)) (Mem.no_le _)) et_1) ?_
      rintro _ w_5 ⟨N_3, rfl, hS'⟩
      intro a h
      obtain ⟨N_4, hS'', le_3, ln_1⟩ := hS.call [] (by decide) rfl (l' := []) (ow := []) rfl hS'
      replace hS : Sep w0 w_5 [N_4, _, _] Z := hS''
      refine sg h rfl fun a h=>nx <| wp_ret (x_block_r (x_then_r ?_))
      obtain rfl := Option.some.inj H
      exact r1 h 2 rfl rfl ⟨_, rfl, N_4, rfl, (hS.sel [0] (by decide))⟩
     ·refine c_cond_f h rfl (bf hc_3) <| qr <| s_cmp (b := (x0.Kind == 3)) h rfl rfl rfl (.inl ⟨rfl, rfl⟩) fun a h=>sg h rfl fun a h=>wpList_nil <| x_then_n ?_
      obtain ⟨hc_4, H⟩ | ⟨hc_4, H⟩ := ii H
      ·refine c_cond_t h rfl (bt hc_4) <| c_seq fun KJ_5 hKJ_5 => wp_region_lit <| s_fieldAddr h rfl U32 rfl ti3 rfl rfl fun a h=>s_load h rfl rfl (hS.load_one (p := 1) rfl U3 rfl rfl) fun a h=>s_cmp (b := decide (x0.Members ≥ 0)) h rfl rfl rfl (.inr (.inr (.inr (.inr (.inr ⟨rfl, rfl⟩))))) fun a h=>mv h rfl fun a h=>?_
       obtain ⟨hc_5, H⟩ | ⟨hc_5, H⟩ := ii H
       ·refine s_on h rfl rfl (dt hc_5) <| s_fieldAddr h rfl U32 rfl ti3 rfl rfl fun a h=>s_on h rfl rfl (dt hc_5) <| s_load h rfl rfl (hS.load_one (p := 1) rfl U3 rfl rfl) fun a h=>s_on h rfl rfl (dt hc_5) <| s_cmp (b := decide (x0.Members ≤ 127)) h rfl rfl rfl (.inr (.inr (.inr (.inl ⟨rfl, rfl⟩)))) fun a h=>pt h rfl (dt hc_5) fun a h=>mv h rfl fun a h=>?_
        obtain ⟨hc_6, H⟩ | ⟨hc_6, H⟩ := ii H
        ·refine s_on h rfl rfl (dt hc_6) <| s_fieldAddr h rfl U32 rfl ti3 rfl rfl fun a h=>s_on h rfl rfl (dt hc_6) <| s_load h rfl rfl (hS.load_one (p := 1) rfl U3 rfl rfl) fun a h=>s_on h rfl rfl (dt hc_6) <| s_cmp (b := decide (x0.Source ≥ 0)) h rfl rfl rfl (.inr (.inr (.inr (.inr (.inr ⟨rfl, rfl⟩))))) fun a h=>pt h rfl (dt hc_6) fun a h=>mv h rfl fun a h=>?_
         obtain ⟨hc_7, H⟩ | ⟨hc_7, H⟩ := ii H
         ·refine s_on h rfl rfl (dt hc_7) <| s_fieldAddr h rfl U32 rfl ti3 rfl rfl fun a h=>s_on h rfl rfl (dt hc_7) <| s_load h rfl rfl (hS.load_one (p := 1) rfl U3 rfl rfl) fun a h=>s_on h rfl rfl (dt hc_7) <| s_cmp (b := decide (x0.Source ≤ 6)) h rfl rfl rfl (.inr (.inr (.inr (.inl ⟨rfl, rfl⟩)))) fun a h=>pt h rfl (dt hc_7) fun a h=>mv h rfl fun a h=>?_
          obtain ⟨hc_8, H⟩ | ⟨hc_8, H⟩ := ii H
          ·refine s_on h rfl rfl (dt hc_8) <| s_fieldAddr h rfl U32 rfl ti3 rfl rfl fun a h=>s_on h rfl rfl (dt hc_8) <| s_load h rfl rfl (hS.load_one (p := 1) rfl U3 rfl rfl) fun a h=>s_on h rfl rfl (dt hc_8) ?_
           have hq_2 : Reps (Kd.int .i64) Mem.no ([x0.Len] : List Int) _ := ((Reps.one (d := (Kd.int .i64)) (x := x0.Len) (show (Kd.int .i64).K _ _ [iV x0.Len] from rfl)).append (Reps.nil (Kd.int .i64) _))
           refine s_buildSlice h rfl U22 ti3 rfl rfl rfl (.cons rfl .nil) rfl rfl rfl hS hq_2 rfl fun w_6 v_2 M_2 hS' ho_2 a h => ?_
           replace hS : Sep w0 w_6 [_, _, M_2] Z := hS'
           refine s_on h rfl rfl (dt hc_8) ?_
           obtain ⟨t_2, et_2, H⟩ := bs H
           refine s_call h rfl Try.call34 rfl (hocketref11_within.calls K ([x0.Len] : List Int) _ 1 t_2 w0 _ _ _ mr (hS.enter [] (by decide)) (ho_2.rd (hS.own_zed [] 1 (by decide)) (Mem.no_le _)) et_2) ?_
           rintro _ w_7 ⟨N_5, rfl, hS'⟩
           intro a h
           obtain ⟨N_6, hS'', le_4, ln_2⟩ := hS.call [] (by decide) rfl (l' := []) (ow := []) rfl hS'
           replace hS : Sep w0 w_7 [N_6, _, _] Z := hS''
           refine pt h rfl (dt hc_8) fun a h=>sg h rfl fun a h=>wpList_nil <| x_then_n (hKJ_5 _ _ ?_)
           refine wp_ret (x_block_r (x_then_r ?_))
           obtain rfl := Option.some.inj H
           exact r1 h 2 rfl rfl ⟨_, rfl, N_6, rfl, (hS.sel [0] (by decide))⟩
          ·refine of h rfl rfl (df hc_8) fun a h=>of h rfl rfl (df hc_8) fun a h=>of h rfl rfl (df hc_8) fun a h=>of h rfl rfl (df hc_8) fun a h=>pf h rfl (df hc_8) fun a h=>sg h rfl fun a h=>wpList_nil <| x_then_n (hKJ_5 _ _ ?_)
           refine wp_ret (x_block_r (x_then_r ?_))
           obtain rfl := Option.some.inj H
           exact r1 h 2 rfl rfl ⟨_, rfl, N_2, rfl, (hS.sel [0] (by decide))⟩
         ·refine of h rfl rfl (df hc_7) fun a h=>of h rfl rfl (df hc_7) fun a h=>of h rfl rfl (df hc_7) fun a h=>pf h rfl (df hc_7) fun a h=>mv h rfl fun a h=>oo h rfl rfl fun a h=>oo h rfl rfl fun a h=>oo h rfl rfl fun a h=>oo h rfl rfl fun a h=>pf h rfl rfl fun a h=>sg h rfl fun a h=>wpList_nil <| x_then_n (hKJ_5 _ _ ?_)
          refine wp_ret (x_block_r (x_then_r ?_))
          obtain rfl := Option.some.inj H
          exact r1 h 2 rfl rfl ⟨_, rfl, N_2, rfl, (hS.sel [0] (by decide))⟩
        ·refine of h rfl rfl (df hc_6) fun a h=>of h rfl rfl (df hc_6) fun a h=>of h rfl rfl (df hc_6) fun a h=>pf h rfl (df hc_6) fun a h=>mv h rfl fun a h=>oo h rfl rfl fun a h=>oo h rfl rfl fun a h=>oo h rfl rfl fun a h=>pf h rfl rfl fun a h=>mv h rfl fun a h=>oo h rfl rfl fun a h=>oo h rfl rfl fun a h=>?_
         refine oo h rfl rfl fun a h=>oo h rfl rfl fun a h=>pf h rfl rfl fun a h=>sg h rfl fun a h=>wpList_nil <| x_then_n (hKJ_5 _ _ ?_)
         refine wp_ret (x_block_r (x_then_r ?_))
         obtain rfl := Option.some.inj H
         exact r1 h 2 rfl rfl ⟨_, rfl, N_2, rfl, (hS.sel [0] (by decide))⟩
       ·refine of h rfl rfl (df hc_5) fun a h=>of h rfl rfl (df hc_5) fun a h=>of h rfl rfl (df hc_5) fun a h=>pf h rfl (df hc_5) fun a h=>mv h rfl fun a h=>oo h rfl rfl fun a h=>oo h rfl rfl fun a h=>oo h rfl rfl fun a h=>pf h rfl rfl fun a h=>mv h rfl fun a h=>oo h rfl rfl fun a h=>oo h rfl rfl fun a h=>?_
        refine oo h rfl rfl fun a h=>pf h rfl rfl fun a h=>mv h rfl fun a h=>oo h rfl rfl fun a h=>oo h rfl rfl fun a h=>oo h rfl rfl fun a h=>oo h rfl rfl fun a h=>pf h rfl rfl fun a h=>sg h rfl fun a h=>wpList_nil <| x_then_n (hKJ_5 _ _ ?_)
        refine wp_ret (x_block_r (x_then_r ?_))
        obtain rfl := Option.some.inj H
        exact r1 h 2 rfl rfl ⟨_, rfl, N_2, rfl, (hS.sel [0] (by decide))⟩
      ·refine c_cond_f h rfl (bf hc_4) <| qr <| s_cmp (b := (x0.Kind == 4)) h rfl rfl rfl (.inl ⟨rfl, rfl⟩) fun a h=>sg h rfl fun a h=>wpList_nil <| x_then_n ?_
       obtain ⟨hc_9, H⟩ | ⟨hc_9, H⟩ := ii H
       ·refine c_cond_t h rfl (bt hc_9) <| qr <| s_fieldAddr h rfl U32 rfl ti3 rfl rfl fun a h=>s_load h rfl rfl (hS.load_one (p := 1) rfl U3 rfl rfl) fun a h=>?_
        have hq_3 : Reps (Kd.int .i64) Mem.no ([x0.At] : List Int) _ := ((Reps.one (d := (Kd.int .i64)) (x := x0.At) (show (Kd.int .i64).K _ _ [iV x0.At] from rfl)).append (Reps.nil (Kd.int .i64) _))
        refine s_buildSlice h rfl U22 ti3 rfl rfl rfl (.cons rfl .nil) rfl rfl rfl hS hq_3 rfl fun w_8 v_3 M_3 hS' ho_3 a h => ?_
        replace hS : Sep w0 w_8 [_, _, M_3] Z := hS'
        obtain ⟨t_3, et_3, H⟩ := bs H
        refine s_call h rfl Try.call34 rfl (hocketref11_within.calls K ([x0.At] : List Int) _ 1 t_3 w0 _ _ _ mr (hS.enter [] (by decide)) (ho_3.rd (hS.own_zed [] 1 (by decide)) (Mem.no_le _)) et_3) ?_
        rintro _ w_9 ⟨N_7, rfl, hS'⟩
        intro a h
        obtain ⟨N_8, hS'', le_5, ln_3⟩ := hS.call [] (by decide) rfl (l' := []) (ow := []) rfl hS'
        replace hS : Sep w0 w_9 [N_8, _, _] Z := hS''
        refine sg h rfl fun a h=>nx <| wp_ret (x_block_r (x_then_r ?_))
        obtain rfl := Option.some.inj H
        exact r1 h 2 rfl rfl ⟨_, rfl, N_8, rfl, (hS.sel [0] (by decide))⟩
       ·refine c_cond_f h rfl (bf hc_9) <| qr <| s_cmp (b := (x0.Kind == 5)) h rfl rfl rfl (.inl ⟨rfl, rfl⟩) fun a h=>sg h rfl fun a h=>wpList_nil <| x_then_n ?_
        obtain ⟨hc_10, H⟩ | ⟨hc_10, H⟩ := ii H
        ·refine c_cond_t h rfl (bt hc_10) <| c_seq fun KJ_6 hKJ_6 => wp_region_lit <| s_fieldAddr h rfl U32 rfl ti3 rfl rfl fun a h=>s_load h rfl rfl (hS.load_one (p := 1) rfl U3 rfl rfl) fun a h=>s_fieldAddr h rfl U32 rfl ti3 rfl rfl fun a h=>s_load h rfl rfl (hS.load_one (p := 1) rfl U3 rfl rfl) fun a h=>?_
         have hq_4 : Reps (Kd.int .i64) Mem.no ([x0.At, x0.Total] : List Int) _ := ((Reps.one (d := (Kd.int .i64)) (x := x0.At) (show (Kd.int .i64).K _ _ [iV x0.At] from rfl)).append ((Reps.one (d := (Kd.int .i64)) (x := x0.Total) (show (Kd.int .i64).K _ _ [iV x0.Total] from rfl)).append (Reps.nil (Kd.int .i64) _)))
         refine s_buildSlice h rfl U22 ti3 rfl rfl rfl (.cons rfl (.cons rfl .nil)) rfl rfl rfl hS hq_4 rfl fun w_10 v_4 M_4 hS' ho_4 a h => ?_
         replace hS : Sep w0 w_10 [_, _, M_4] Z := hS'
         obtain ⟨t_4, et_4, H⟩ := bs H
         refine s_call h rfl Try.call34 rfl (hocketref11_within.calls K ([x0.At, x0.Total] : List Int) _ 2 t_4 w0 _ _ _ mr (hS.enter [] (by decide)) (ho_4.rd (hS.own_zed [] 1 (by decide)) (Mem.no_le _)) et_4) ?_
         rintro _ w_11 ⟨N_9, rfl, hS'⟩
         intro a h
         obtain ⟨N_10, hS'', le_6, ln_4⟩ := hS.call [] (by decide) rfl (l' := []) (ow := []) rfl hS'
         replace hS : Sep w0 w_11 [N_10, _, _] Z := hS''
         refine mv h rfl fun a h=>?_
         obtain ⟨hc_11, H⟩ | ⟨hc_11, H⟩ := ii H
         ·refine s_on h rfl rfl hc_11 <| s_fieldAddr h rfl U32 rfl ti26 rfl rfl fun a h=>s_on h rfl rfl hc_11 <| s_load h rfl rfl (hS.load_one (p := 1) rfl U26 rfl rfl) fun a h=>s_on h rfl rfl hc_11 <| s_len h rfl U26 rfl hp0_0 fun a h=>s_on h rfl rfl hc_11 <| s_cmp (b := decide ((x0.Data.length : Int) ≤ 64)) h rfl rfl rfl (.inr (.inr (.inr (.inl ⟨rfl, rfl⟩)))) fun a h=>pt h rfl hc_11 fun a h=>sg h rfl fun a h=>wpList_nil ?_
          replace h : Fr 119 a [(2, .bool (decide ((x0.Data.length : Int) ≤ 64)))] := h.keep [2]
          refine x_then_n (hKJ_6 _ _ ?_)
          refine wp_ret (x_block_r (x_then_r ?_))
          obtain rfl := Option.some.inj H
          exact r1 h 2 rfl rfl ⟨_, rfl, N_10, rfl, (hS.sel [0] (by decide))⟩
         ·refine of h rfl rfl (ef hc_11) fun a h=>of h rfl rfl (ef hc_11) fun a h=>of h rfl rfl (ef hc_11) fun a h=>of h rfl rfl (ef hc_11) fun a h=>pf h rfl (ef hc_11) fun a h=>sg h rfl fun a h=>wpList_nil ?_
          replace h : Fr 119 a [(2, _)] := h.keep [2]
          refine x_then_n (hKJ_6 _ _ ?_)
          refine wp_ret (x_block_r (x_then_r ?_))
          obtain rfl := Option.some.inj H
          exact r1 h 2 rfl rfl ⟨_, rfl, N_10, rfl, (hS.sel [0] (by decide))⟩
        ·refine c_cond_f h rfl (bf hc_10) <| qr <| s_cmp (b := (x0.Kind == 7)) h rfl rfl rfl (.inl ⟨rfl, rfl⟩) fun a h=>sg h rfl fun a h=>wpList_nil ?_
         replace h : Fr 119 a [(1, _), (2, _), (32, _), (90, .bool (x0.Kind == 7))] := h.keep [1, 2, 32, 90]
         refine x_then_n ?_
         obtain ⟨hc_12, H⟩ | ⟨hc_12, H⟩ := ii H
         ·refine c_cond_t h rfl (bt hc_12) <| c_seq fun KJ_7 hKJ_7 => wp_region_lit <| s_fieldAddr h rfl U32 rfl ti3 rfl rfl fun a h=>s_load h rfl rfl (hS.load_one (p := 1) rfl U3 rfl rfl) fun a h=>s_fieldAddr h rfl U32 rfl ti3 rfl rfl fun a h=>s_load h rfl rfl (hS.load_one (p := 1) rfl U3 rfl rfl) fun a h=>?_
          have hq_5 : Reps (Kd.int .i64) Mem.no ([x0.Hop, x0.Seq] : List Int) _ := ((Reps.one (d := (Kd.int .i64)) (x := x0.Hop) (show (Kd.int .i64).K _ _ [iV x0.Hop] from rfl)).append ((Reps.one (d := (Kd.int .i64)) (x := x0.Seq) (show (Kd.int .i64).K _ _ [iV x0.Seq] from rfl)).append (Reps.nil (Kd.int .i64) _)))
          refine s_buildSlice h rfl U22 ti3 rfl rfl rfl (.cons rfl (.cons rfl .nil)) rfl rfl rfl hS hq_5 rfl fun w_12 v_5 M_5 hS' ho_5 a h => ?_
          replace hS : Sep w0 w_12 [_, _, M_5] Z := hS'
          obtain ⟨t_5, et_5, H⟩ := bs H
          refine s_call h rfl Try.call34 rfl (hocketref11_within.calls K ([x0.Hop, x0.Seq] : List Int) _ 2 t_5 w0 _ _ _ mr (hS.enter [] (by decide)) (ho_5.rd (hS.own_zed [] 1 (by decide)) (Mem.no_le _)) et_5) ?_
          rintro _ w_13 ⟨N_11, rfl, hS'⟩
          intro a h
          obtain ⟨N_12, hS'', le_7, ln_5⟩ := hS.call [] (by decide) rfl (l' := []) (ow := []) rfl hS'
          replace hS : Sep w0 w_13 [N_12, _, _] Z := hS''
          refine mv h rfl fun a h=>?_
          obtain ⟨hc_13, H⟩ | ⟨hc_13, H⟩ := ii H
          ·refine s_on h rfl rfl hc_13 <| s_fieldAddr h rfl U32 rfl ti22 rfl rfl fun a h=>s_on h rfl rfl hc_13 <| s_load h rfl rfl (hS.load_one (p := 1) rfl U22 rfl rfl) fun a h=>s_on h rfl rfl hc_13 ?_
           obtain ⟨t_6, et_6, H⟩ := bs H
           refine s_call h rfl Try.call34 rfl (hocketref11_within.calls K x0.Have _ 7 t_6 w0 _ _ _ mr (hS.enter [] (by decide)) (hp0_1.mono (hA.trans (hS.le_zed []))) et_6) ?_
           rintro _ w_14 ⟨N_13, rfl, hS'⟩
           intro a h
           obtain ⟨N_14, hS'', le_8, ln_6⟩ := hS.call [] (by decide) rfl (l' := []) (ow := []) rfl hS'
           replace hS : Sep w0 w_14 [N_14, _, _] Z := hS''
           refine pt h rfl hc_13 fun a h=>mv h rfl fun a h=>?_
           obtain ⟨hc_14, H⟩ | ⟨hc_14, H⟩ := ii H
           ·refine s_on h rfl rfl hc_14 <| s_fieldAddr h rfl U32 rfl ti22 rfl rfl fun a h=>s_on h rfl rfl hc_14 <| s_load h rfl rfl (hS.load_one (p := 1) rfl U22 rfl rfl) fun a h=>s_on h rfl rfl hc_14 ?_
            obtain ⟨t_7, et_7, H⟩ := bs H
            refine s_call h rfl Try.call34 rfl (hocketref11_within.calls K x0.Need _ 8 t_7 w0 _ _ _ mr (hS.enter [] (by decide)) (hp0_2.mono (hA.trans (hS.le_zed []))) et_7) ?_
            rintro _ w_15 ⟨N_15, rfl, hS'⟩
            intro a h
            obtain ⟨N_16, hS'', le_9, ln_7⟩ := hS.call [] (by decide) rfl (l' := []) (ow := []) rfl hS'
            replace hS : Sep w0 w_15 [N_16, _, _] Z := hS''
            refine pt h rfl hc_14 fun a h=>sg h rfl fun a h=>wpList_nil <| x_then_n (hKJ_7 _ _ ?_)
            refine wp_ret (x_block_r (x_then_r ?_))
            obtain rfl := Option.some.inj H
            exact r1 h 2 rfl rfl ⟨_, rfl, N_16, rfl, (hS.sel [0] (by decide))⟩
           ·refine of h rfl rfl (ef hc_14) fun a h=>of h rfl rfl (ef hc_14) fun a h=>of h rfl rfl (ef hc_14) fun a h=>pf h rfl (ef hc_14) fun a h=>sg h rfl fun a h=>wpList_nil <| x_then_n (hKJ_7 _ _ ?_)
            refine wp_ret (x_block_r (x_then_r ?_))
            obtain rfl := Option.some.inj H
            exact r1 h 2 rfl rfl ⟨_, rfl, N_14, rfl, (hS.sel [0] (by decide))⟩
          ·refine of h rfl rfl (ef hc_13) fun a h=>of h rfl rfl (ef hc_13) fun a h=>of h rfl rfl (ef hc_13) fun a h=>pf h rfl (ef hc_13) fun a h=>mv h rfl fun a h=>oo h rfl rfl fun a h=>oo h rfl rfl fun a h=>oo h rfl rfl fun a h=>pf h rfl rfl fun a h=>sg h rfl fun a h=>wpList_nil <| x_then_n (hKJ_7 _ _ ?_)
           refine wp_ret (x_block_r (x_then_r ?_))
           obtain rfl := Option.some.inj H
           exact r1 h 2 rfl rfl ⟨_, rfl, N_12, rfl, (hS.sel [0] (by decide))⟩
         ·refine c_cond_f h rfl (bf hc_12) <| qr <| s_cmp (b := (x0.Kind == 8)) h rfl rfl rfl (.inl ⟨rfl, rfl⟩) fun a h=>sg h rfl fun a h=>wpList_nil <| x_then_n ?_
          obtain ⟨hc_15, H⟩ | ⟨hc_15, H⟩ := ii H
          ·refine c_cond_t h rfl (bt hc_15) <| c_seq fun KJ_8 hKJ_8 => wp_region_lit <| s_fieldAddr h rfl U32 rfl ti3 rfl rfl fun a h=>s_load h rfl rfl (hS.load_one (p := 1) rfl U3 rfl rfl) fun a h=>?_
           have hq_6 : Reps (Kd.int .i64) Mem.no ([x0.Index] : List Int) _ := ((Reps.one (d := (Kd.int .i64)) (x := x0.Index) (show (Kd.int .i64).K _ _ [iV x0.Index] from rfl)).append (Reps.nil (Kd.int .i64) _))
           refine s_buildSlice h rfl U22 ti3 rfl rfl rfl (.cons rfl .nil) rfl rfl rfl hS hq_6 rfl fun w_16 v_6 M_6 hS' ho_6 a h => ?_
           replace hS : Sep w0 w_16 [_, _, M_6] Z := hS'
           obtain ⟨t_8, et_8, H⟩ := bs H
           refine s_call h rfl Try.call34 rfl (hocketref11_within.calls K ([x0.Index] : List Int) _ 1 t_8 w0 _ _ _ mr (hS.enter [] (by decide)) (ho_6.rd (hS.own_zed [] 1 (by decide)) (Mem.no_le _)) et_8) ?_
           rintro _ w_17 ⟨N_17, rfl, hS'⟩
           intro a h
           obtain ⟨N_18, hS'', le_10, ln_8⟩ := hS.call [] (by decide) rfl (l' := []) (ow := []) rfl hS'
           replace hS : Sep w0 w_17 [N_18, _, _] Z := hS''
           refine mv h rfl fun a h=>?_
           obtain ⟨hc_16, H⟩ | ⟨hc_16, H⟩ := ii H
           ·refine s_on h rfl rfl hc_16 <| s_fieldAddr h rfl U32 rfl ti30 rfl rfl fun a h=>s_on h rfl rfl hc_16 <| s_load h rfl rfl (hS.load_agg (p := 1) (us := (E30 x0.Entry p0_3 p0_4 p0_5)) rfl U30 rfl ti30 rfl rfl) fun a h=>s_on h rfl rfl hc_16 ?_
            obtain ⟨t_9, et_9, H⟩ := bs H
            refine s_call h rfl Try.call35 rfl (hocketref11_entry.calls x0.Entry _ _ _ t_9 w0 _ _ _ mr (hS.enter [] (by decide)) (hp0_3.mono (hA.trans (hS.le_zed []))) (hp0_4.mono (hA.trans (hS.le_zed []))) (hp0_5.mono (hA.trans (hS.le_zed []))) et_9) ?_
            rintro _ w_18 ⟨N_19, rfl, hS'⟩
            intro a h
            obtain ⟨N_20, hS'', le_11, ln_9⟩ := hS.call [] (by decide) rfl (l' := []) (ow := []) rfl hS'
            replace hS : Sep w0 w_18 [N_20, _, _] Z := hS''
            refine pt h rfl hc_16 fun a h=>sg h rfl fun a h=>wpList_nil <| x_then_n (hKJ_8 _ _ ?_)
            refine wp_ret (x_block_r (x_then_r ?_))
            obtain rfl := Option.some.inj H
            exact r1 h 2 rfl rfl ⟨_, rfl, N_20, rfl, (hS.sel [0] (by decide))⟩
           ·refine of h rfl rfl (ef hc_16) fun a h=>of h rfl rfl (ef hc_16) fun a h=>of h rfl rfl (ef hc_16) fun a h=>pf h rfl (ef hc_16) fun a h=>sg h rfl fun a h=>wpList_nil <| x_then_n (hKJ_8 _ _ ?_)
            refine wp_ret (x_block_r (x_then_r ?_))
            obtain rfl := Option.some.inj H
            exact r1 h 2 rfl rfl ⟨_, rfl, N_18, rfl, (hS.sel [0] (by decide))⟩
          ·refine c_cond_f h rfl (bf hc_15) <| wp_skip <| x_block_n <| x_then_n (hKJ_3 _ _ ?_)
           refine qr <| sg h rfl fun a h=>nx <| wp_ret ?_
           obtain rfl := Option.some.inj H
           exact r1 h 2 rfl rfl ⟨_, rfl, N_2, rfl, (hS.sel [0] (by decide))⟩
   clear hKJ_4
   obtain ⟨hc_17, H⟩ | ⟨hc_17, H⟩ := ii H
   ·refine c_cond_t h rfl (bt hc_17) <| wp_skip ?_
    exact x_then_n (hJ_j_2 (x0.Kind == 1) H _ _ ⟨N_1, (h.keep [1, 2, 32, 33]), (hS.sel [0, 1] (by decide)), mr⟩)
   ·refine c_cond_f h rfl (bf hc_17) <| wp_region_lit <| s_cmp (b := (x0.Kind == 6)) h rfl rfl rfl (.inl ⟨rfl, rfl⟩) fun a h=>sg h rfl fun a h=>wpList_nil ?_
    replace h : Fr 119 a [(1, _), (2, _), (32, iV x0.Kind), (33, .bool (x0.Kind == 6))] := h.keep [1, 2, 32, 33]
    exact x_then_n (hJ_j_2 (x0.Kind == 6) H _ _ ⟨N_1, (h.keep [1, 2, 32, 33]), (hS.sel [0, 1] (by decide)), mr⟩)
 clear hKJ_2
 refine wp_region_lit <| s_fieldAddr h rfl U32 rfl ti3 rfl rfl fun a h=>s_load h rfl rfl (hS.load_one (p := 1) rfl U3 rfl rfl) fun a h=>s_cmp (b := decide (x0.From < 0)) h rfl rfl rfl (.inr (.inr (.inl ⟨rfl, rfl⟩))) fun a h=>mv h rfl fun a h=>?_
 obtain ⟨hc_18, H⟩ | ⟨hc_18, H⟩ := ii H
 ·refine of h rfl rfl (dt hc_18) fun a h=>of h rfl rfl (dt hc_18) fun a h=>of h rfl rfl (dt hc_18) fun a h=>pt h rfl (dt hc_18) fun a h=>mv h rfl fun a h=>oo h rfl rfl fun a h=>oo h rfl rfl fun a h=>oo h rfl rfl fun a h=>pt h rfl rfl fun a h=>mv h rfl fun a h=>oo h rfl rfl fun a h=>oo h rfl rfl fun a h=>?_
  refine oo h rfl rfl fun a h=>pt h rfl rfl fun a h=>mv h rfl fun a h=>oo h rfl rfl fun a h=>oo h rfl rfl fun a h=>oo h rfl rfl fun a h=>pt h rfl rfl fun a h=>mv h rfl fun a h=>oo h rfl rfl fun a h=>oo h rfl rfl fun a h=>oo h rfl rfl fun a h=>pt h rfl rfl fun a h=>?_
  refine wpList_nil ?_
  exact x_then_n (hJ_j_1 true H _ _ ⟨Mem.no, (h.keep [1, 2, 30]), (hS.sel [0, 1] (by decide)), mr⟩)
 ·refine s_on h rfl rfl (df hc_18) <| s_fieldAddr h rfl U32 rfl ti3 rfl rfl fun a h=>s_on h rfl rfl (df hc_18) <| s_load h rfl rfl (hS.load_one (p := 1) rfl U3 rfl rfl) fun a h=>s_on h rfl rfl (df hc_18) <| s_cmp (b := decide (x0.From > 6)) h rfl rfl rfl (.inr (.inr (.inr (.inr (.inl ⟨rfl, rfl⟩))))) fun a h=>pf h rfl (df hc_18) fun a h=>mv h rfl fun a h=>?_
  obtain ⟨hc_19, H⟩ | ⟨hc_19, H⟩ := ii H
  ·refine of h rfl rfl (dt hc_19) fun a h=>of h rfl rfl (dt hc_19) fun a h=>of h rfl rfl (dt hc_19) fun a h=>pt h rfl (dt hc_19) fun a h=>mv h rfl fun a h=>oo h rfl rfl fun a h=>oo h rfl rfl fun a h=>oo h rfl rfl fun a h=>pt h rfl rfl fun a h=>mv h rfl fun a h=>oo h rfl rfl fun a h=>oo h rfl rfl fun a h=>?_
   refine oo h rfl rfl fun a h=>pt h rfl rfl fun a h=>mv h rfl fun a h=>oo h rfl rfl fun a h=>oo h rfl rfl fun a h=>oo h rfl rfl fun a h=>pt h rfl rfl fun a h=>wpList_nil ?_
   exact x_then_n (hJ_j_1 true H _ _ ⟨Mem.no, (h.keep [1, 2, 30]), (hS.sel [0, 1] (by decide)), mr⟩)
  ·refine s_on h rfl rfl (df hc_19) <| s_fieldAddr h rfl U32 rfl ti3 rfl rfl fun a h=>s_on h rfl rfl (df hc_19) <| s_load h rfl rfl (hS.load_one (p := 1) rfl U3 rfl rfl) fun a h=>s_on h rfl rfl (df hc_19) <| s_cmp (b := decide (x0.To < 0)) h rfl rfl rfl (.inr (.inr (.inl ⟨rfl, rfl⟩))) fun a h=>pf h rfl (df hc_19) fun a h=>mv h rfl fun a h=>?_
   obtain ⟨hc_20, H⟩ | ⟨hc_20, H⟩ := ii H
   ·refine of h rfl rfl (dt hc_20) fun a h=>of h rfl rfl (dt hc_20) fun a h=>of h rfl rfl (dt hc_20) fun a h=>pt h rfl (dt hc_20) fun a h=>mv h rfl fun a h=>oo h rfl rfl fun a h=>oo h rfl rfl fun a h=>oo h rfl rfl fun a h=>pt h rfl rfl fun a h=>mv h rfl fun a h=>oo h rfl rfl fun a h=>oo h rfl rfl fun a h=>?_
    refine oo h rfl rfl fun a h=>pt h rfl rfl fun a h=>wpList_nil ?_
    exact x_then_n (hJ_j_1 true H _ _ ⟨Mem.no, (h.keep [1, 2, 30]), (hS.sel [0, 1] (by decide)), mr⟩)
   ·refine s_on h rfl rfl (df hc_20) <| s_fieldAddr h rfl U32 rfl ti3 rfl rfl fun a h=>s_on h rfl rfl (df hc_20) <| s_load h rfl rfl (hS.load_one (p := 1) rfl U3 rfl rfl) fun a h=>s_on h rfl rfl (df hc_20) <| s_cmp (b := decide (x0.To > 6)) h rfl rfl rfl (.inr (.inr (.inr (.inr (.inl ⟨rfl, rfl⟩))))) fun a h=>pf h rfl (df hc_20) fun a h=>mv h rfl fun a h=>?_
    obtain ⟨hc_21, H⟩ | ⟨hc_21, H⟩ := ii H
    ·refine of h rfl rfl (dt hc_21) fun a h=>of h rfl rfl (dt hc_21) fun a h=>of h rfl rfl (dt hc_21) fun a h=>pt h rfl (dt hc_21) fun a h=>mv h rfl fun a h=>oo h rfl rfl fun a h=>oo h rfl rfl fun a h=>oo h rfl rfl fun a h=>pt h rfl rfl fun a h=>wpList_nil ?_
     exact x_then_n (hJ_j_1 true H _ _ ⟨Mem.no, (h.keep [1, 2, 30]), (hS.sel [0, 1] (by decide)), mr⟩)
    ·refine s_on h rfl rfl (df hc_21) <| s_fieldAddr h rfl U32 rfl ti3 rfl rfl fun a h=>s_on h rfl rfl (df hc_21) <| s_load h rfl rfl (hS.load_one (p := 1) rfl U3 rfl rfl) fun a h=>s_on h rfl rfl (df hc_21) <| s_cmp (b := decide (x0.View < 0)) h rfl rfl rfl (.inr (.inr (.inl ⟨rfl, rfl⟩))) fun a h=>pf h rfl (df hc_21) fun a h=>mv h rfl fun a h=>?_
     obtain ⟨hc_22, H⟩ | ⟨hc_22, H⟩ := ii H
     ·refine of h rfl rfl (dt hc_22) fun a h=>of h rfl rfl (dt hc_22) fun a h=>of h rfl rfl (dt hc_22) fun a h=>pt h rfl (dt hc_22) fun a h=>wpList_nil ?_
      exact x_then_n (hJ_j_1 true H _ _ ⟨Mem.no, (h.keep [1, 2, 30]), (hS.sel [0, 1] (by decide)), mr⟩)
     ·refine s_on h rfl rfl (df hc_22) <| s_fieldAddr h rfl U32 rfl ti3 rfl rfl fun a h=>s_on h rfl rfl (df hc_22) <| s_load h rfl rfl (hS.load_one (p := 1) rfl U3 rfl rfl) fun a h=>s_on h rfl rfl (df hc_22) <| s_cmp (b := decide (x0.View > 1099511627776)) h rfl rfl rfl (.inr (.inr (.inr (.inr (.inl ⟨rfl, rfl⟩))))) fun a h=>pf h rfl (df hc_22) fun a h=>wpList_nil ?_
      exact x_then_n (hJ_j_1 (decide (x0.View > 1099511627776)) H _ _ ⟨Mem.no, (h.keep [1, 2, 30]), (hS.sel [0, 1] (by decide)), mr⟩)

set_option maxHeartbeats 4000000 in
set_option maxRecDepth 20000 in
theorem hocketref1_Next.calls (K : Nat) (x0 : UInt32) (x1 : UInt8) (r : UInt32) (w0 w : World) (Z A : Mem) (hA : A.le Z) (hS : Sep w0 w [] Z)
    (H : hocketref1_Next.f K x0 x1 = some r) :
    Calls Try.prog 61 [.int .u32 (x0.toNat : Int), .int .u8 (x1.toNat : Int)].toArray w (Ret fun v w' => ∃ (N : Mem), v = .int .u32 (r.toNat : Int) ∧ Sep w0 w' [N] Z) := by
 unfold hocketref1_Next.f at H
 refine f_enter _ Try.func61 rfl Try.ntmps61 rfl fun a h=>?_
 replace h : Fr 24 a [(0, .int .u32 (x0.toNat : Int)), (1, .int .u8 (x1.toNat : Int))] := h
 replace hS := hS.start
 refine qr <| sg h rfl fun a h=>nx <| qr <| mv h rfl fun a h=>mv h rfl fun a h=>s_conv (((toU32 (x1.toNat : Int)).toNat : Int)) h rfl U5 U71 rfl (wrap_u32 _).symm fun a h=>s_bits (i := (x0.toNat : Int)) (j := ((toU32 (x1.toNat : Int)).toNat : Int)) (r := ((x0 ^^^ (toU32 (x1.toNat : Int))).toNat : Int)) h rfl rfl rfl (.inr (.inr (.inl ⟨rfl, (bxor32 _ _).symm⟩))) fun a h=>sg h rfl fun a h=>?_
 refine nx <| c_seq fun KJ_1 hKJ_1 => qr <| sg h rfl fun a h=>wpList_nil <| x_then_n ?_
 have hJ_j_1 : ∀ (x_1 : UInt32), hocketref1_Next.J1 K x_1 = some r → ∀ (a : Act) (w_1 : World), (∃ (N_1 : Mem), Fr 24 a [(0, .int .u32 (x_1.toNat : Int)), (4, .int .u32 ((0 : UInt32).toNat : Int))] ∧ Sep w0 w_1 [N_1] Z ∧ Mem.no.le N_1) → KJ_1 a w_1 := by
  clear H h hS a
  rintro x_1 H a w_1 ⟨N_1, h, hS, le_1⟩
  unfold hocketref1_Next.J1 at H
  refine hKJ_1 _ _ <| qr <| mv h rfl fun a h=>sg h rfl fun a h=>wpList_nil ?_
  replace h : Fr 24 a [(4, .int .u32 (x_1.toNat : Int))] := h.keep [4]
  refine x_then_n <| wp_ret ?_
  obtain rfl := Option.some.inj H
  exact r1 h 4 rfl rfl ⟨_, rfl, N_1, rfl, (hS.sel [0] (by decide))⟩
 clear hKJ_1
 refine c_block <| c_loop (fun k_1 a w_2 => ∃ (x_2 : UInt32) (x_3 : Int) (N_2 : Mem), hocketref1_Next.L1 K (fun v => hocketref1_Next.J1 K v) k_1 (x_2, x_3) = some r ∧ Fr 24 a [(0, .int .u32 (x_2.toNat : Int)), (4, .int .u32 ((0 : UInt32).toNat : Int)), (5, iV x_3)] ∧ Sep w0 w_2 [N_2] Z ∧ Mem.no.le N_2) K ⟨x0 ^^^ (toU32 (x1.toNat : Int)), 0, Mem.no, H, (h.keep [0, 4, 5]), (hS.sel [0] (by decide)), mr⟩ (fun a w h => by obtain ⟨_, _, _, H, _⟩ := h; cases (show (none : Option (UInt32)) = some r from H)) ?_
 clear h hS a H
 rintro k_1 a w_2 KL_1 hKL_1 ⟨x_2, x_3, N_2, H, h, hS, le_2⟩
 replace H : hocketref1_Next.B1 K (fun v => hocketref1_Next.J1 K v) (hocketref1_Next.L1 K (fun v => hocketref1_Next.J1 K v) k_1) x_2 x_3 = some r := H
 unfold hocketref1_Next.B1 at H
 refine c_seq fun KJ_2 hKJ_2 => qr <| mv h rfl fun a h=>s_cmp (b := decide (x_3 < 8)) h rfl rfl rfl (.inr (.inr (.inl ⟨rfl, rfl⟩))) fun a h=>wpList_nil ?_
 replace h : Fr 24 a [(0, _), (4, _), (5, _), (12, .bool (decide (x_3 < 8)))] := h.keep [0, 4, 5, 12]
 refine x_then_n ?_
 obtain ⟨hc_1, H⟩ | ⟨hc_1, H⟩ := ii H
 ·refine c_cond_t h rfl (dt hc_1) <| wp_skip <| x_then_n (hKJ_2 _ _ ?_)
  refine c_seq fun KJ_3 hKJ_3 => c_block <| qr <| mv h rfl fun a h=>s_bits (i := (x_2.toNat : Int)) (j := ((1 : UInt32).toNat : Int)) (r := ((x_2 &&& (1 : UInt32)).toNat : Int)) h rfl rfl rfl (.inl ⟨rfl, (band32 _ _).symm⟩) fun a h=>sg h rfl fun a h=>nx <| qr <| mv h rfl fun a h=>?_
  refine s_shift (r := ((toU32 (shr .u32 (x_2.toNat : Int) 1)).toNat : Int)) h rfl rfl rfl (by decide) (.inr ⟨rfl, (shr32 _ _).symm⟩) fun a h=>sg h rfl fun a h=>nx <| qr <| mv h rfl fun a h=>s_cmp (b := (((x_2 &&& (1 : UInt32)).toNat : Int) == ((1 : UInt32).toNat : Int))) h rfl rfl rfl (.inl ⟨rfl, rfl⟩) fun a h=>wpList_nil <| x_then_n ?_
  obtain ⟨hc_2, H⟩ | ⟨hc_2, H⟩ := ii H
  ·refine c_cond_t h rfl (bt hc_2) <| wp_region_lit <| mv h rfl fun a h=>s_bits (i := ((toU32 (shr .u32 (x_2.toNat : Int) 1)).toNat : Int)) (j := ((3988292384 : UInt32).toNat : Int)) (r := (((toU32 (shr .u32 (x_2.toNat : Int) 1)) ^^^ (3988292384 : UInt32)).toNat : Int)) h rfl rfl rfl (.inr (.inr (.inl ⟨rfl, (bxor32 _ _).symm⟩))) fun a h=>sg h rfl fun a h=>wpList_nil ?_
   replace h : Fr 24 a [(0, .int .u32 (((toU32 (shr .u32 (x_2.toNat : Int) 1)) ^^^ (3988292384 : UInt32)).toNat : Int)), (4, _), (5, _)] := h.keep [0, 4, 5]
   refine x_block_n <| x_then_n (hKJ_3 _ _ ?_)
   refine wp_region_lit <| mv h rfl fun a h=>s_arith (r := w64 (x_3 + 1)) h rfl rfl rfl (.inl ⟨rfl, rfl⟩) fun a h=>sg h rfl fun a h=>wpList_nil <| x_then_n (hKL_1 _ _ ?_)
   exact ⟨(toU32 (shr .u32 (x_2.toNat : Int) 1)) ^^^ (3988292384 : UInt32), w64 (x_3 + 1), N_2, H, (h.keep [0, 4, 5]), (hS.sel [0] (by decide)), le_2⟩
  ·refine c_cond_f h rfl (bf hc_2) <| wp_skip <| x_block_n <| x_then_n (hKJ_3 _ _ ?_)
   refine wp_region_lit <| mv h rfl fun a h=>s_arith (r := w64 (x_3 + 1)) h rfl rfl rfl (.inl ⟨rfl, rfl⟩) fun a h=>sg h rfl fun a h=>wpList_nil ?_
   replace h : Fr 24 a [(0, .int .u32 ((toU32 (shr .u32 (x_2.toNat : Int) 1)).toNat : Int)), (4, _), (5, iV (w64 (x_3 + 1)))] := h.keep [0, 4, 5]
   refine x_then_n (hKL_1 _ _ ?_)
   exact ⟨toU32 (shr .u32 (x_2.toNat : Int) 1), w64 (x_3 + 1), N_2, H, (h.keep [0, 4, 5]), (hS.sel [0] (by decide)), le_2⟩
 ·refine c_cond_f h rfl (df hc_1) <| wp_exit (x_then_x (x_then_x (x_block_t ?_)))
  exact x_then_n (hJ_j_1 x_2 H _ _ ⟨N_2, (h.keep [0, 4]), (hS.sel [0] (by decide)), le_2⟩)

set_option maxHeartbeats 4000000 in
set_option maxRecDepth 20000 in
theorem hocketref1_Sum.calls (K : Nat) (x0 : List UInt8) (p0_0 : Value) (r : UInt32) (w0 w : World) (Z A : Mem) (hA : A.le Z) (hS : Sep w0 w [] Z) (hp0_0 : Rd Kd.u8 A p0_0 x0)
    (H : hocketref1_Sum.f K x0 = some r) :
    Calls Try.prog 46 [p0_0].toArray w (Ret fun v w' => ∃ (N : Mem), v = .int .u32 (r.toNat : Int) ∧ Sep w0 w' [N] Z) := by
 unfold hocketref1_Sum.f at H
 refine f_enter _ Try.func46 rfl Try.ntmps46 rfl fun a h=>?_
 replace h : Fr 19 a [(0, p0_0)] := h
 replace hS := hS.start
 refine qr <| sg h rfl fun a h=>nx <| qr <| sg h rfl fun a h=>nx <| c_seq fun KJ_1 hKJ_1 => wp_seq <| wp_region_lit ?_
 refine sg h rfl fun a h=>wpList_nil <| x_then_n ?_
 have hJ_j_1 : ∀ (x_1 : UInt32), hocketref1_Sum.J1 K x_1 = some r → ∀ (a : Act) (w_1 : World), (∃ (N_1 : Mem), Fr 19 a [(2, .int .u32 ((0 : UInt32).toNat : Int)), (3, .int .u32 (x_1.toNat : Int))] ∧ Sep w0 w_1 [N_1] Z ∧ Mem.no.le N_1) → KJ_1 a w_1 := by
  clear H h hS a
  rintro x_1 H a w_1 ⟨N_1, h, hS, le_1⟩
  unfold hocketref1_Sum.J1 at H
  refine hKJ_1 _ _ <| qr <| mv h rfl fun a h=>s_bits (i := (x_1.toNat : Int)) (j := ((4294967295 : UInt32).toNat : Int)) (r := ((x_1 ^^^ (4294967295 : UInt32)).toNat : Int)) h rfl rfl rfl (.inr (.inr (.inl ⟨rfl, (bxor32 _ _).symm⟩))) fun a h=>sg h rfl fun a h=>wpList_nil ?_
  replace h : Fr 19 a [(2, .int .u32 ((x_1 ^^^ (4294967295 : UInt32)).toNat : Int))] := h.keep [2]
  refine x_then_n <| wp_ret ?_
  obtain rfl := Option.some.inj H
  exact r1 h 2 rfl rfl ⟨_, rfl, N_1, rfl, (hS.sel [0] (by decide))⟩
 clear hKJ_1
 refine c_block <| c_loop (fun k_1 a w_2 => ∃ (x_2 : UInt32) (x_3 : Int) (N_2 : Mem), hocketref1_Sum.L1 K x0 (fun v => hocketref1_Sum.J1 K v) k_1 (x_2, x_3) = some r ∧ Fr 19 a [(0, p0_0), (2, .int .u32 ((0 : UInt32).toNat : Int)), (3, .int .u32 (x_2.toNat : Int)), (4, iV x_3)] ∧ Sep w0 w_2 [N_2] Z ∧ Mem.no.le N_2) K ⟨(4294967295 : UInt32), 0, Mem.no, H, (h.keep [0, 2, 3, 4]), (hS.sel [0] (by decide)), mr⟩ (fun a w h => by obtain ⟨_, _, _, H, _⟩ := h; cases (show (none : Option (UInt32)) = some r from H)) ?_
 clear h hS a H
 rintro k_1 a w_2 KL_1 hKL_1 ⟨x_2, x_3, N_2, H, h, hS, le_2⟩
 replace H : hocketref1_Sum.B1 K x0 (fun v => hocketref1_Sum.J1 K v) (hocketref1_Sum.L1 K x0 (fun v => hocketref1_Sum.J1 K v) k_1) x_2 x_3 = some r := H
 unfold hocketref1_Sum.B1 at H
 refine c_seq fun KJ_2 hKJ_2 => qr <| mv h rfl fun a h=>mv h rfl fun a h=>s_len h rfl U26 rfl hp0_0 fun a h=>s_cmp (b := decide (x_3 < (x0.length : Int))) h rfl rfl rfl (.inr (.inr (.inl ⟨rfl, rfl⟩))) fun a h=>wpList_nil ?_
 replace h : Fr 19 a [(0, _), (2, _), (3, _), (4, _), (8, .bool (decide (x_3 < (x0.length : Int))))] := h.keep [0, 2, 3, 4, 8]
 refine x_then_n ?_
 obtain ⟨hc_1, H⟩ | ⟨hc_1, H⟩ := ii H
 ·refine c_cond_t h rfl (dt hc_1) <| wp_skip <| x_then_n (hKJ_2 _ _ ?_)
  refine wp_seq <| c_block <| wp_region_lit <| mv h rfl fun a h=>mv h rfl fun a h=>mv h rfl fun a h=>?_
  obtain ⟨t_1, et_1, H⟩ := bs H
  refine v_index h rfl U26 ti5 rfl rfl rfl hp0_0 (hA.trans hS.old) et_1 fun ad_1 cs_1 hk_1 hc_2 => ?_
  obtain rfl := (show cs_1 = [.int .u8 (t_1.toNat : Int)] from hk_1)
  intro a h
  refine s_load h rfl rfl (el_one (o := 0) hc_2 U5 rfl rfl) fun a h=>?_
  obtain ⟨t_2, et_2, H⟩ := bs H
  refine s_call h rfl Try.call61 rfl (hocketref1_Next.calls K x_2 t_1 t_2 w0 _ _ _ mr (hS.enter [] (by decide))  et_2) ?_
  rintro _ w_3 ⟨N_3, rfl, hS'⟩
  intro a h
  obtain ⟨N_4, hS'', le_3, ln_1⟩ := hS.call [] (by decide) rfl (l' := []) (ow := []) rfl hS'
  replace hS : Sep w0 w_3 [N_4] Z := hS''
  refine sg h rfl fun a h=>wpList_nil <| x_block_n <| x_then_n <| wp_region_lit <| mv h rfl fun a h=>s_arith (r := w64 (x_3 + 1)) h rfl rfl rfl (.inl ⟨rfl, rfl⟩) fun a h=>sg h rfl fun a h=>wpList_nil <| x_then_n (hKL_1 _ _ ?_)
  exact ⟨t_2, w64 (x_3 + 1), N_4, H, (h.keep [0, 2, 3, 4]), (hS.sel [0] (by decide)), (le_2.trans le_3)⟩
 ·refine c_cond_f h rfl (df hc_1) <| wp_exit (x_then_x (x_then_x (x_block_t ?_)))
  exact x_then_n (hJ_j_1 x_2 H _ _ ⟨N_2, (h.keep [2, 3]), (hS.sel [0] (by decide)), le_2⟩)

set_option maxHeartbeats 4000000 in
set_option maxRecDepth 20000 in
theorem hocketref1_Four.calls (K : Nat) (x0 : List UInt8) (p0_0 : Value) (r : (List UInt8)) (w0 w : World) (Z A : Mem) (hA : A.le Z) (hS : Sep w0 w [] Z) (hp0_0 : Rd Kd.u8 A p0_0 x0)
    (H : hocketref1_Four.f K x0 = some r) :
    Calls Try.prog 36 [p0_0].toArray w (Ret fun v w' => ∃ (u0 : Value) (N : Mem) (M0 : Mem), v = u0 ∧ Sep w0 w' [N, M0] Z ∧ Own Kd.u8 5 M0 Mem.no u0 r) := by
 unfold hocketref1_Four.f at H
 refine f_enter _ Try.func36 rfl Try.ntmps36 rfl fun a h=>?_
 replace h : Fr 20 a [(0, p0_0)] := h
 replace hS := hS.start
 refine qr <| sg h rfl fun a h=>nx <| qr <| mv h rfl fun a h=>?_
 obtain ⟨t_1, et_1, H⟩ := bs H
 refine s_call h rfl Try.call46 rfl (hocketref1_Sum.calls K x0 _ t_1 w0 _ _ _ mr (hS.enter [] (by decide)) (hp0_0.mono (hA.trans (hS.le_zed []))) et_1) ?_
 rintro _ w_1 ⟨N_1, rfl, hS'⟩
 intro a h
 obtain ⟨N_2, hS'', le_1, ln_1⟩ := hS.call [] (by decide) rfl (l' := []) (ow := []) rfl hS'
 replace hS : Sep w0 w_1 [N_2] Z := hS''
 refine sg h rfl fun a h=>nx <| qr <| mv h rfl fun a h=>s_conv (((toU8 (t_1.toNat : Int)).toNat : Int)) h rfl U71 U5 rfl (wrap_u8 _).symm fun a h=>mv h rfl fun a h=>s_shift (r := ((toU32 (shr .u32 (t_1.toNat : Int) 8)).toNat : Int)) h rfl rfl rfl (by decide) (.inr ⟨rfl, (shr32 _ _).symm⟩) fun a h=>s_conv (((toU8 ((toU32 (shr .u32 (t_1.toNat : Int) 8)).toNat : Int)).toNat : Int)) h rfl U71 U5 rfl (wrap_u8 _).symm fun a h=>mv h rfl fun a h=>s_shift (r := ((toU32 (shr .u32 (t_1.toNat : Int) 16)).toNat : Int)) h rfl rfl rfl (by decide) (.inr ⟨rfl, (shr32 _ _).symm⟩) fun a h=>?_
 refine s_conv (((toU8 ((toU32 (shr .u32 (t_1.toNat : Int) 16)).toNat : Int)).toNat : Int)) h rfl U71 U5 rfl (wrap_u8 _).symm fun a h=>mv h rfl fun a h=>s_shift (r := ((toU32 (shr .u32 (t_1.toNat : Int) 24)).toNat : Int)) h rfl rfl rfl (by decide) (.inr ⟨rfl, (shr32 _ _).symm⟩) fun a h=>s_conv (((toU8 ((toU32 (shr .u32 (t_1.toNat : Int) 24)).toNat : Int)).toNat : Int)) h rfl U71 U5 rfl (wrap_u8 _).symm fun a h=>?_
 have hq_1 : Reps Kd.u8 Mem.no ([toU8 (t_1.toNat : Int), toU8 ((toU32 (shr .u32 (t_1.toNat : Int) 8)).toNat : Int), toU8 ((toU32 (shr .u32 (t_1.toNat : Int) 16)).toNat : Int), toU8 ((toU32 (shr .u32 (t_1.toNat : Int) 24)).toNat : Int)] : List UInt8) _ := ((Reps.one (d := Kd.u8) (x := toU8 (t_1.toNat : Int)) (show Kd.u8.K _ _ [.int .u8 ((toU8 (t_1.toNat : Int)).toNat : Int)] from rfl)).append ((Reps.one (d := Kd.u8) (x := toU8 ((toU32 (shr .u32 (t_1.toNat : Int) 8)).toNat : Int)) (show Kd.u8.K _ _ [.int .u8 ((toU8 ((toU32 (shr .u32 (t_1.toNat : Int) 8)).toNat : Int)).toNat : Int)] from rfl)).append ((Reps.one (d := Kd.u8) (x := toU8 ((toU32 (shr .u32 (t_1.toNat : Int) 16)).toNat : Int)) (show Kd.u8.K _ _ [.int .u8 ((toU8 ((toU32 (shr .u32 (t_1.toNat : Int) 16)).toNat : Int)).toNat : Int)] from rfl)).append ((Reps.one (d := Kd.u8) (x := toU8 ((toU32 (shr .u32 (t_1.toNat : Int) 24)).toNat : Int)) (show Kd.u8.K _ _ [.int .u8 ((toU8 ((toU32 (shr .u32 (t_1.toNat : Int) 24)).toNat : Int)).toNat : Int)] from rfl)).append (Reps.nil Kd.u8 _)))))
 refine s_buildSlice h rfl U26 ti5 rfl rfl rfl (.cons rfl (.cons rfl (.cons rfl (.cons rfl .nil)))) rfl rfl rfl hS hq_1 rfl fun w_2 v_1 M_1 hS' ho_1 a h => ?_
 replace hS : Sep w0 w_2 [_, M_1] Z := hS'
 refine mv h rfl fun a h=>?_
 obtain ⟨t_2, et_2, H⟩ := bs H
 refine s_append (J := Mem.no) (I' := Mem.no) (p := 1) 140737488355328 h rfl rfl rfl U26 ti5 rfl rfl rfl rfl hS rfl ho_1 (Src.flat flat_u8 (hp0_0.src (hA.trans hS.old))) mr mr et_2 fun w_3 v_2 M_2 hS' ho_2 a h => ?_
 replace hS : Sep w0 w_3 [_, M_2] Z := hS'
 refine sg h rfl fun a h=>nx <| wp_ret ?_
 obtain rfl := Option.some.inj H
 exact r1 h 2 rfl rfl ⟨_, rfl, v_2, N_2, M_2, rfl, (hS.sel [0, 1] (by decide)), ho_2⟩

set_option maxHeartbeats 4000000 in
set_option maxRecDepth 20000 in
theorem hocketref1_Num.calls (K : Nat) (x0 : List UInt8) (p0_0 : Value) (x1 : Int) (r : (List UInt8)) (w0 w : World) (Z A : Mem) (hA : A.le Z) (hS : Sep w0 w [] Z) (hp0_0 : Rd Kd.u8 A p0_0 x0)
    (H : hocketref1_Num.f K x0 x1 = some r) :
    Calls Try.prog 62 [p0_0, iV x1].toArray w (Ret fun v w' => ∃ (u0 : Value) (N : Mem) (M0 : Mem), v = u0 ∧ Sep w0 w' [N, M0] Z ∧ Own Kd.u8 5 M0 Mem.no u0 r) := by
 unfold hocketref1_Num.f at H
 refine f_enter _ Try.func62 rfl Try.ntmps62 rfl fun a h=>?_
 replace h : Fr 28 a [(0, p0_0), (1, iV x1)] := h
 replace hS := hS.start
 refine qr <| sg h rfl fun a h=>nx <| wp_seq <| wp_region_lit ?_
 have hq_1 : Reps Kd.u8 Mem.no ([] : List UInt8) _ := (Reps.nil Kd.u8 _)
 refine s_buildSlice h rfl U26 ti5 rfl rfl rfl .nil rfl rfl rfl hS hq_1 rfl fun w_1 v_1 M_1 hS' ho_1 a h => ?_
 replace hS : Sep w0 w_1 [_, M_1] Z := hS'
 refine mv h rfl fun a h=>?_
 obtain ⟨t_1, et_1, H⟩ := bs H
 refine s_append (J := Mem.no) (I' := Mem.no) (p := 1) 140737488355328 h rfl rfl rfl U26 ti5 rfl rfl rfl rfl hS rfl ho_1 (Src.flat flat_u8 (hp0_0.src (hA.trans hS.old))) mr mr et_1 fun w_2 v_2 M_2 hS' ho_2 a h => ?_
 replace hS : Sep w0 w_2 [_, M_2] Z := hS'
 refine sg h rfl fun a h=>nx <| qr <| mv h rfl fun a h=>s_max h rfl rfl rfl fun a h=>s_min h rfl rfl rfl fun a h=>sg h rfl fun a h=>nx <| c_seq fun KJ_1 hKJ_1 => ?_
 have hJ_j_1 : ∀ (x_1 : Int), ∀ (x_2 : List UInt8), hocketref1_Num.J1 K x_1 x_2 = some r → ∀ (a : Act) (w_3 : World), (∃ (v_3 : Value) (N_1 : Mem) (M_3 : Mem), Fr 28 a [(1, iV x_1), (4, nS), (5, v_3)] ∧ Sep w0 w_3 [N_1, M_3] Z ∧ Mem.no.le N_1 ∧ Own Kd.u8 5 M_3 Mem.no v_3 x_2) → KJ_1 a w_3 := by
  clear H h hS a
  rintro x_1 x_2 H a w_3 ⟨v_3, N_1, M_3, h, hS, le_1, ho_3⟩
  unfold hocketref1_Num.J1 at H
  refine hKJ_1 _ _ <| qr <| mv h rfl fun a h=>mv h rfl fun a h=>s_conv (((toU8 x_1).toNat : Int)) h rfl U3 U5 rfl (wrap_u8 _).symm fun a h=>?_
  have hq_2 : Reps Kd.u8 Mem.no ([toU8 x_1] : List UInt8) _ := ((Reps.one (d := Kd.u8) (x := toU8 x_1) (show Kd.u8.K _ _ [.int .u8 ((toU8 x_1).toNat : Int)] from rfl)).append (Reps.nil Kd.u8 _))
  refine s_buildSlice h rfl U26 ti5 rfl rfl rfl (.cons rfl .nil) rfl rfl rfl hS hq_2 rfl fun w_4 v_4 M_4 hS' ho_4 a h => ?_
  replace hS : Sep w0 w_4 [_, _, M_4] Z := hS'
  obtain ⟨t_2, et_2, H⟩ := bs H
  refine s_append (J := Mem.no) (I' := Mem.no) (p := 1) 140737488355328 h rfl rfl rfl U26 ti5 rfl rfl rfl rfl hS rfl ho_3 (Src.flat flat_u8 (ho_4.src (hS.own 2))) mr mr et_2 fun w_5 v_5 M_5 hS' ho_5 a h => ?_
  replace hS : Sep w0 w_5 [_, M_5, _] Z := hS'
  refine sg h rfl fun a h=>wpList_nil ?_
  replace h : Fr 28 a [(4, v_5)] := h.keep [4]
  refine x_then_n <| wp_ret ?_
  obtain rfl := Option.some.inj H
  exact r1 h 4 rfl rfl ⟨_, rfl, v_5, N_1, M_5, rfl, (hS.sel [0, 1] (by decide)), ho_5⟩
 clear hKJ_1
 refine c_block <| c_loop (fun k_1 a w_6 => ∃ (x_3 : Int) (x_4 : List UInt8) (v_6 : Value) (N_2 : Mem) (M_6 : Mem), hocketref1_Num.L1 K (fun v => hocketref1_Num.J1 K v.1 v.2) k_1 (x_3, x_4) = some r ∧ Fr 28 a [(1, iV x_3), (4, nS), (5, v_6)] ∧ Sep w0 w_6 [N_2, M_6] Z ∧ Mem.no.le N_2 ∧ Own Kd.u8 5 M_6 Mem.no v_6 x_4) K ⟨mn (mx x1 0) 4611686018427387904, t_1, v_2, Mem.no, M_2, H, (h.keep [1, 4, 5]), (hS.sel [0, 1] (by decide)), mr, ho_2⟩ (fun a w h => by obtain ⟨_, _, _, _, _, H, _⟩ := h; cases (show (none : Option ((List UInt8))) = some r from H)) ?_
 clear h hS a H
 rintro k_1 a w_6 KL_1 hKL_1 ⟨x_3, x_4, v_6, N_2, M_6, H, h, hS, le_2, ho_6⟩
 replace H : hocketref1_Num.B1 K (fun v => hocketref1_Num.J1 K v.1 v.2) (hocketref1_Num.L1 K (fun v => hocketref1_Num.J1 K v.1 v.2) k_1) x_3 x_4 = some r := H
 unfold hocketref1_Num.B1 at H
 refine c_seq fun KJ_2 hKJ_2 => qr <| mv h rfl fun a h=>s_cmp (b := decide (x_3 > 127)) h rfl rfl rfl (.inr (.inr (.inr (.inr (.inl ⟨rfl, rfl⟩))))) fun a h=>wpList_nil ?_
 replace h : Fr 28 a [(1, _), (4, _), (5, _), (13, .bool (decide (x_3 > 127)))] := h.keep [1, 4, 5, 13]
 refine x_then_n ?_
 obtain ⟨hc_1, H⟩ | ⟨hc_1, H⟩ := ii H
 ·refine c_cond_t h rfl (dt hc_1) <| wp_skip <| x_then_n (hKJ_2 _ _ ?_)
  refine c_block <| qr <| mv h rfl fun a h=>mv h rfl fun a h=>s_bits (i := x_3) (j := 127) (r := band .i64 x_3 127) h rfl rfl rfl (.inl ⟨rfl, rfl⟩) fun a h=>s_bits (i := band .i64 x_3 127) (j := 128) (r := bor .i64 (band .i64 x_3 127) 128) h rfl rfl rfl (.inr (.inl ⟨rfl, rfl⟩)) fun a h=>s_conv (((toU8 (bor .i64 (band .i64 x_3 127) 128)).toNat : Int)) h rfl U3 U5 rfl (wrap_u8 _).symm fun a h=>?_
  have hq_3 : Reps Kd.u8 Mem.no ([toU8 (bor .i64 (band .i64 x_3 127) 128)] : List UInt8) _ := ((Reps.one (d := Kd.u8) (x := toU8 (bor .i64 (band .i64 x_3 127) 128)) (show Kd.u8.K _ _ [.int .u8 ((toU8 (bor .i64 (band .i64 x_3 127) 128)).toNat : Int)] from rfl)).append (Reps.nil Kd.u8 _))
  refine s_buildSlice h rfl U26 ti5 rfl rfl rfl (.cons rfl .nil) rfl rfl rfl hS hq_3 rfl fun w_7 v_7 M_7 hS' ho_7 a h => ?_
  replace hS : Sep w0 w_7 [_, _, M_7] Z := hS'
  obtain ⟨t_3, et_3, H⟩ := bs H
  refine s_append (J := Mem.no) (I' := Mem.no) (p := 1) 140737488355328 h rfl rfl rfl U26 ti5 rfl rfl rfl rfl hS rfl ho_6 (Src.flat flat_u8 (ho_7.src (hS.own 2))) mr mr et_3 fun w_8 v_8 M_8 hS' ho_8 a h => ?_
  replace hS : Sep w0 w_8 [_, M_8, _] Z := hS'
  refine sg h rfl fun a h=>nx <| wp_region_lit <| mv h rfl fun a h=>s_shift (r := shr .i64 x_3 7) h rfl rfl rfl (by decide) (.inr ⟨rfl, rfl⟩) fun a h=>sg h rfl fun a h=>wpList_nil <| x_block_n <| x_then_n (hKL_1 _ _ ?_)
  exact ⟨shr .i64 x_3 7, t_3, v_8, N_2, M_8, H, (h.keep [1, 4, 5]), (hS.sel [0, 1] (by decide)), le_2, ho_8⟩
 ·refine c_cond_f h rfl (df hc_1) <| wp_exit (x_then_x (x_then_x (x_block_t ?_)))
  exact x_then_n (hJ_j_1 x_3 x_4 H _ _ ⟨v_6, N_2, M_6, (h.keep [1, 4, 5]), (hS.sel [0, 1] (by decide)), le_2, ho_6⟩)

set_option maxHeartbeats 4000000 in
set_option maxRecDepth 20000 in
theorem hocketref11_nums.calls (K : Nat) (x0 : List UInt8) (p0_0 : Value) (x1 : List Int) (p1_1 : Value) (r : (List UInt8)) (w0 w : World) (Z A : Mem) (hA : A.le Z) (hS : Sep w0 w [] Z) (hp0_0 : Rd Kd.u8 A p0_0 x0) (hp1_1 : Rd (Kd.int .i64) A p1_1 x1)
    (H : hocketref11_nums.f K x0 x1 = some r) :
    Calls Try.prog 47 [p0_0, p1_1].toArray w (Ret fun v w' => ∃ (u0 : Value) (N : Mem), v = u0 ∧ Sep w0 w' [N] Z ∧ Rd Kd.u8 (A.un N) u0 r) := by
 unfold hocketref11_nums.f at H
 refine f_enter _ Try.func47 rfl Try.ntmps47 rfl fun a h=>?_
 replace h : Fr 19 a [(0, p0_0), (1, p1_1)] := h
 replace hS := hS.start
 refine qr <| sg h rfl fun a h=>nx <| c_seq fun KJ_1 hKJ_1 => qr <| sg h rfl fun a h=>wpList_nil <| x_then_n ?_
 have hJ_j_1 : ∀ (x_1 : List UInt8), hocketref11_nums.J1 K x_1 = some r → ∀ (a : Act) (w_1 : World), (∃ (v_1 : Value) (N_1 : Mem), Fr 19 a [(0, v_1), (4, nS)] ∧ Sep w0 w_1 [N_1] Z ∧ Mem.no.le N_1 ∧ Rd Kd.u8 (A.un N_1) v_1 x_1) → KJ_1 a w_1 := by
  clear H h hS a
  rintro x_1 H a w_1 ⟨v_1, N_1, h, hS, le_1, hr_1⟩
  unfold hocketref11_nums.J1 at H
  refine hKJ_1 _ _ <| qr <| mv h rfl fun a h=>sg h rfl fun a h=>nx <| wp_ret ?_
  obtain rfl := Option.some.inj H
  exact r1 h 4 rfl rfl ⟨_, rfl, v_1, N_1, rfl, (hS.sel [0] (by decide)), hr_1⟩
 clear hKJ_1
 refine c_block <| c_loop (fun k_1 a w_2 => ∃ (x_2 : List UInt8) (x_3 : Int) (v_2 : Value) (N_2 : Mem), hocketref11_nums.L1 K x1 (fun v => hocketref11_nums.J1 K v) k_1 (x_2, x_3) = some r ∧ Fr 19 a [(0, v_2), (1, p1_1), (4, nS), (5, iV x_3)] ∧ Sep w0 w_2 [N_2] Z ∧ Mem.no.le N_2 ∧ Rd Kd.u8 (A.un N_2) v_2 x_2) K ⟨x0, 0, p0_0, Mem.no, H, (h.keep [0, 1, 4, 5]), (hS.sel [0] (by decide)), mr, (hp0_0.mono (Mem.le_un _ _))⟩ (fun a w h => by obtain ⟨_, _, _, _, H, _⟩ := h; cases (show (none : Option ((List UInt8))) = some r from H)) ?_
 clear h hS a H
 rintro k_1 a w_2 KL_1 hKL_1 ⟨x_2, x_3, v_2, N_2, H, h, hS, le_2, hr_2⟩
 replace H : hocketref11_nums.B1 K x1 (fun v => hocketref11_nums.J1 K v) (hocketref11_nums.L1 K x1 (fun v => hocketref11_nums.J1 K v) k_1) x_2 x_3 = some r := H
 unfold hocketref11_nums.B1 at H
 refine c_seq fun KJ_2 hKJ_2 => qr <| mv h rfl fun a h=>mv h rfl fun a h=>s_len h rfl U22 rfl hp1_1 fun a h=>s_cmp (b := decide (x_3 < (x1.length : Int))) h rfl rfl rfl (.inr (.inr (.inl ⟨rfl, rfl⟩))) fun a h=>wpList_nil <| x_then_n ?_
 obtain ⟨hc_1, H⟩ | ⟨hc_1, H⟩ := ii H
 ·refine c_cond_t h rfl (dt hc_1) <| wp_skip <| x_then_n (hKJ_2 _ _ ?_)
  refine wp_seq <| c_block <| wp_region_lit <| mv h rfl fun a h=>mv h rfl fun a h=>mv h rfl fun a h=>?_
  obtain ⟨t_1, et_1, H⟩ := bs H
  refine v_index h rfl U22 ti3 rfl rfl rfl hp1_1 (hA.trans hS.old) et_1 fun ad_1 cs_1 hk_1 hc_2 => ?_
  obtain rfl := (show cs_1 = [iV t_1] from hk_1)
  intro a h
  refine s_load h rfl rfl (el_one (o := 0) hc_2 U3 rfl rfl) fun a h=>?_
  obtain ⟨t_2, et_2, H⟩ := bs H
  refine s_call h rfl Try.call62 rfl (hocketref1_Num.calls K x_2 _ t_1 t_2 w0 _ _ _ mr (hS.enter [] (by decide)) (hr_2.mono (Mem.un_le (hA.trans (hS.le_zed [])) (mr.trans (hS.new_zed [])))) et_2) ?_
  rintro v_3 w_3 ⟨_, N_3, M_1, rfl, hS', hr_3⟩
  intro a h
  obtain ⟨N_4, hS'', le_3, ln_1⟩ := hS.call [] (by decide) rfl (l' := []) (ow := [_]) rfl hS'
  replace hS : Sep w0 w_3 [N_4, _] Z := hS''
  refine sg h rfl fun a h=>wpList_nil ?_
  replace h : Fr 19 a [(0, v_3), (1, _), (4, _), (5, _)] := h.keep [0, 1, 4, 5]
  refine x_block_n <| x_then_n <| wp_region_lit <| mv h rfl fun a h=>s_arith (r := w64 (x_3 + 1)) h rfl rfl rfl (.inl ⟨rfl, rfl⟩) fun a h=>sg h rfl fun a h=>wpList_nil <| x_then_n (hKL_1 _ _ ?_)
  obtain ⟨N_5, hS', le_4, lo_1⟩ := hS.freeze 0 rfl
  replace hS : Sep w0 w_3 [N_5, Mem.no] Z := hS'
  exact ⟨t_2, w64 (x_3 + 1), v_3, N_5, H, (h.keep [0, 1, 4, 5]), (hS.sel [0] (by decide)), (le_2.trans (le_3.trans le_4)), ((hr_3.rd lo_1 (Mem.no_le _)).mono (mr.trans (hS.sndA hA)))⟩
 ·refine c_cond_f h rfl (df hc_1) <| wp_exit (x_then_x (x_then_x (x_block_t ?_)))
  exact x_then_n (hJ_j_1 x_2 H _ _ ⟨v_2, N_2, (h.keep [0, 4]), (hS.sel [0] (by decide)), le_2, hr_2⟩)

set_option maxHeartbeats 4000000 in
set_option maxRecDepth 20000 in
theorem hocketref1_Bytes.calls (K : Nat) (x0 : List UInt8) (p0_0 : Value) (x1 : List UInt8) (p1_1 : Value) (r : (List UInt8)) (w0 w : World) (Z A : Mem) (hA : A.le Z) (hS : Sep w0 w [] Z) (hp0_0 : Rd Kd.u8 A p0_0 x0) (hp1_1 : Rd Kd.u8 A p1_1 x1)
    (H : hocketref1_Bytes.f K x0 x1 = some r) :
    Calls Try.prog 48 [p0_0, p1_1].toArray w (Ret fun v w' => ∃ (u0 : Value) (N : Mem) (M0 : Mem), v = u0 ∧ Sep w0 w' [N, M0] Z ∧ Own Kd.u8 5 M0 Mem.no u0 r) := by
 unfold hocketref1_Bytes.f at H
 refine f_enter _ Try.func48 rfl Try.ntmps48 rfl fun a h=>?_
 replace h : Fr 11 a [(0, p0_0), (1, p1_1)] := h
 replace hS := hS.start
 refine qr <| sg h rfl fun a h=>nx <| qr <| mv h rfl fun a h=>mv h rfl fun a h=>s_len h rfl U26 rfl hp1_1 fun a h=>?_
 obtain ⟨t_1, et_1, H⟩ := bs H
 refine s_call h rfl Try.call62 rfl (hocketref1_Num.calls K x0 _ (x1.length : Int) t_1 w0 _ _ _ mr (hS.enter [] (by decide)) (hp0_0.mono (hA.trans (hS.le_zed []))) et_1) ?_
 rintro v_1 w_1 ⟨_, N_1, M_1, rfl, hS', hr_1⟩
 intro a h
 obtain ⟨N_2, hS'', le_1, ln_1⟩ := hS.call [] (by decide) rfl (l' := []) (ow := [_]) rfl hS'
 replace hS : Sep w0 w_1 [N_2, _] Z := hS''
 refine mv h rfl fun a h=>?_
 obtain ⟨t_2, et_2, H⟩ := bs H
 refine s_append (J := Mem.no) (I' := Mem.no) (p := 1) 140737488355328 h rfl rfl rfl U26 ti5 rfl rfl rfl rfl hS rfl hr_1 (Src.flat flat_u8 (hp1_1.src (hA.trans hS.old))) mr mr et_2 fun w_2 v_2 M_2 hS' ho_1 a h => ?_
 replace hS : Sep w0 w_2 [_, M_2] Z := hS'
 refine sg h rfl fun a h=>nx <| wp_ret ?_
 obtain rfl := Option.some.inj H
 exact r1 h 4 rfl rfl ⟨_, rfl, v_2, N_2, M_2, rfl, (hS.sel [0, 1] (by decide)), ho_1⟩

set_option maxHeartbeats 4000000 in
set_option maxRecDepth 20000 in
theorem hocketref4_PutEntry.calls (K : Nat) (x0 : List UInt8) (p0_0 : Value) (x1 : api_Entry) (p1_1 : Value) (p1_2 : Value) (p1_3 : Value) (r : (List UInt8)) (w0 w : World) (Z A : Mem) (hA : A.le Z) (hS : Sep w0 w [] Z) (hp0_0 : Rd Kd.u8 A p0_0 x0) (hp1_1 : Rd Kd.u8 A p1_1 x1.Cmd.Key) (hp1_2 : Rd Kd.u8 A p1_2 x1.Cmd.Val) (hp1_3 : Rd Kd.u8 A p1_3 x1.Cmd.Old)
    (H : hocketref4_PutEntry.f K x0 x1 = some r) :
    Calls Try.prog 49 [p0_0, .agg (E30 x1 p1_1 p1_2 p1_3).toArray].toArray w (Ret fun v w' => ∃ (u0 : Value) (N : Mem) (M0 : Mem), v = u0 ∧ Sep w0 w' [N, M0] Z ∧ Own Kd.u8 5 M0 Mem.no u0 r) := by
 unfold hocketref4_PutEntry.f at H
 refine f_enter _ Try.func49 rfl Try.ntmps49 rfl fun a h=>?_
 replace h : Fr 33 a [(0, p0_0), (1, .agg (E30 x1 p1_1 p1_2 p1_3).toArray)] := h
 replace hS := hS.start
 refine qr <| v_box (vs := (E30 x1 p1_1 p1_2 p1_3)) h rfl rfl rfl hS fun w_1 g_1 hS' a h => ?_
 replace hS : Sep w0 w_1 [_, bx g_1 30 (E30 x1 p1_1 p1_2 p1_3)] Z := hS'
 refine sg h rfl fun a h=>nx <| c_seq fun KJ_1 hKJ_1 => h_begin (S := fun w => Sep w0 w [Mem.no, bx g_1 30 (E30 x1 p1_1 p1_2 p1_3)] Z) 16 (by kernel_rfl) rfl (bA 16 0) (by kernel_rfl) hS fun w_2 hS => ?_
 refine t_take 0 (bA 16 1) rfl rfl rfl rfl h (hS.sub .ii) (v := p0_0) (fun w hS => r_move h rfl) fun a h=>t_take 1 (bA 16 3) rfl rfl rfl rfl h (hS.sub .ii) (v := .pointer (some ⟨g_1, 0, none⟩)) (fun w hS => r_fieldAddr h U30 rfl ti3 rfl rfl rfl) fun a h=>t_take 2 (bA 16 7) rfl rfl rfl rfl h (hS.sub .ii) (v := iV x1.Sess) (fun w hS => r_load h rfl (hS.load_one (p := 1) rfl U3 rfl rfl)) fun a h=>t_take 4 (bA 16 23) rfl rfl rfl rfl h (hS.sub .ii) (v := .pointer (some ⟨g_1, 1, none⟩)) (fun w hS => r_fieldAddr h U30 rfl ti3 rfl rfl rfl) fun a h=>t_take 5 (bA 16 55) rfl rfl rfl rfl h (hS.sub .ii) (v := iV x1.Seq) (fun w hS => r_load h rfl (hS.load_one (p := 1) rfl U3 rfl rfl)) fun a h=>t_take 7 (bA 16 183) rfl rfl rfl rfl h (hS.sub .ii) (v := .pointer (some ⟨g_1, 2, none⟩)) (fun w hS => r_fieldAddr h U30 rfl ti28 rfl rfl rfl) fun a h=>?_
 refine t_take 8 (bA 16 439) rfl rfl rfl rfl h (hS.sub .ii) (v := .pointer (some ⟨g_1, 2, none⟩)) (fun w hS => r_fieldAddr h U28 rfl ti3 rfl rfl rfl) fun a h=>t_take 9 (bA 16 951) rfl rfl rfl rfl h (hS.sub .ii) (v := iV x1.Cmd.Kind) (fun w hS => r_load h rfl (hS.load_one (p := 1) rfl U3 rfl rfl)) fun a h=>t_take 11 (bA 16 2999) rfl rfl rfl rfl h (hS.sub .ii) (v := .pointer (some ⟨g_1, 2, none⟩)) (fun w hS => r_fieldAddr h U30 rfl ti28 rfl rfl rfl) fun a h=>t_take 12 (bA 16 7095) rfl rfl rfl rfl h (hS.sub .ii) (v := .pointer (some ⟨g_1, 3, none⟩)) (fun w hS => r_fieldAddr h U28 rfl ti3 rfl rfl rfl) fun a h=>t_take 13 (bA 16 15287) rfl rfl rfl rfl h (hS.sub .ii) (v := iV x1.Cmd.Who) (fun w hS => r_load h rfl (hS.load_one (p := 1) rfl U3 rfl rfl)) fun a h=>h_event 3 (bA 16 15295) rfl (by kernel_rfl) (by kernel_rfl) ?_
 obtain ⟨t_1, et_1, H⟩ := bs H
 refine s_call h rfl Try.call62 rfl (hocketref1_Num.calls K x0 _ x1.Sess t_1 w0 _ _ _ mr (hS.enter [] (by decide)) (hp0_0.mono (hA.trans (hS.le_zed []))) et_1) ?_
 rintro v_1 w_3 ⟨_, N_1, M_1, rfl, hS', hr_1⟩
 intro a h
 obtain ⟨N_2, hS'', le_1, ln_1⟩ := hS.call [] (by decide) rfl (l' := []) (ow := [_]) rfl hS'
 replace hS : Sep w0 w_3 [N_2, _, _] Z := hS''
 refine wpList_nil <| x_then_n ⟨(hS.sub (.cons le_1 (.rr .nn))), ?_⟩
 refine h_event 6 (bA 16 15359) rfl (by kernel_rfl) (by kernel_rfl) ?_
 obtain ⟨t_2, et_2, H⟩ := bs H
 refine s_call h rfl Try.call62 rfl (hocketref1_Num.calls K t_1 _ x1.Seq t_2 w0 _ _ _ mr (hS.enter [] (by decide)) (hr_1.rd (hS.own_zed [] 1 (by decide)) (Mem.no_le _)) et_2) ?_
 rintro v_2 w_4 ⟨_, N_3, M_2, rfl, hS', hr_2⟩
 intro a h
 obtain ⟨N_4, hS'', le_2, ln_2⟩ := hS.call [] (by decide) rfl (l' := []) (ow := [_]) rfl hS'
 replace hS : Sep w0 w_4 [N_4, _, _, _] Z := hS''
 refine wpList_nil <| x_then_n ⟨(hS.sub (.cons (le_1.trans le_2) (.rr .nn))), ?_⟩
 refine h_event 10 (bA 16 16383) rfl (by kernel_rfl) (by kernel_rfl) ?_
 obtain ⟨t_3, et_3, H⟩ := bs H
 refine s_call h rfl Try.call62 rfl (hocketref1_Num.calls K t_2 _ x1.Cmd.Kind t_3 w0 _ _ _ mr (hS.enter [] (by decide)) (hr_2.rd (hS.own_zed [] 2 (by decide)) (Mem.no_le _)) et_3) ?_
 rintro v_3 w_5 ⟨_, N_5, M_3, rfl, hS', hr_3⟩
 intro a h
 obtain ⟨N_6, hS'', le_3, ln_3⟩ := hS.call [] (by decide) rfl (l' := []) (ow := [_]) rfl hS'
 replace hS : Sep w0 w_5 [N_6, _, _, _, _] Z := hS''
 refine wpList_nil <| x_then_n ⟨(hS.sub (.cons (le_1.trans (le_2.trans le_3)) (.rr .nn))), ?_⟩
 refine h_event 14 (bA 16 32767) rfl (by kernel_rfl) (by kernel_rfl) ?_
 obtain ⟨t_4, et_4, H⟩ := bs H
 refine s_call h rfl Try.call62 rfl (hocketref1_Num.calls K t_3 _ x1.Cmd.Who t_4 w0 _ _ _ mr (hS.enter [] (by decide)) (hr_3.rd (hS.own_zed [] 3 (by decide)) (Mem.no_le _)) et_4) ?_
 rintro v_4 w_6 ⟨_, N_7, M_4, rfl, hS', hr_4⟩
 intro a h
 obtain ⟨N_8, hS'', le_4, ln_4⟩ := hS.call [] (by decide) rfl (l' := []) (ow := [_]) rfl hS'
 replace hS : Sep w0 w_6 [N_8, _, _, _, _, _] Z := hS''
 refine wpList_nil <| x_then_n ⟨(hS.sub (.cons (le_1.trans (le_2.trans (le_3.trans le_4))) (.rr .nn))), ?_⟩
 refine t_take 15 (bA 16 65535) rfl rfl rfl rfl h (hS.sub (.cons (le_1.trans (le_2.trans (le_3.trans le_4))) (.rr .nn))) (v := v_4) (fun w hS => r_assign h rfl) fun a h=>h_done (by kernel_rfl) <| x_then_n (hKJ_1 _ _ ?_)
 refine c_seq fun KJ_2 hKJ_2 => h_begin (S := fun w => Sep w0 w [N_8, bx g_1 30 (E30 x1 p1_1 p1_2 p1_3), M_1, M_2, M_3, M_4] Z) 14 (by kernel_rfl) rfl (bA 14 0) (by kernel_rfl) hS fun w_7 hS => ?_
 refine t_take 0 (bA 14 1) rfl rfl rfl rfl h (hS.sub .ii) (v := v_4) (fun w hS => r_move h rfl) fun a h=>t_take 1 (bA 14 3) rfl rfl rfl rfl h (hS.sub .ii) (v := .pointer (some ⟨g_1, 2, none⟩)) (fun w hS => r_fieldAddr h U30 rfl ti28 rfl rfl rfl) fun a h=>t_take 2 (bA 14 7) rfl rfl rfl rfl h (hS.sub .ii) (v := .pointer (some ⟨g_1, 4, none⟩)) (fun w hS => r_fieldAddr h U28 rfl ti26 rfl rfl rfl) fun a h=>t_take 3 (bA 14 15) rfl rfl rfl rfl h (hS.sub .ii) (v := p1_1) (fun w hS => r_load h rfl (hS.load_one (p := 1) rfl U26 rfl rfl)) fun a h=>t_take 5 (bA 14 47) rfl rfl rfl rfl h (hS.sub .ii) (v := .pointer (some ⟨g_1, 2, none⟩)) (fun w hS => r_fieldAddr h U30 rfl ti28 rfl rfl rfl) fun a h=>t_take 6 (bA 14 111) rfl rfl rfl rfl h (hS.sub .ii) (v := .pointer (some ⟨g_1, 5, none⟩)) (fun w hS => r_fieldAddr h U28 rfl ti26 rfl rfl rfl) fun a h=>?_
 refine t_take 7 (bA 14 239) rfl rfl rfl rfl h (hS.sub .ii) (v := p1_2) (fun w hS => r_load h rfl (hS.load_one (p := 1) rfl U26 rfl rfl)) fun a h=>t_take 9 (bA 14 751) rfl rfl rfl rfl h (hS.sub .ii) (v := .pointer (some ⟨g_1, 2, none⟩)) (fun w hS => r_fieldAddr h U30 rfl ti28 rfl rfl rfl) fun a h=>t_take 10 (bA 14 1775) rfl rfl rfl rfl h (hS.sub .ii) (v := .pointer (some ⟨g_1, 6, none⟩)) (fun w hS => r_fieldAddr h U28 rfl ti26 rfl rfl rfl) fun a h=>t_take 11 (bA 14 3823) rfl rfl rfl rfl h (hS.sub .ii) (v := p1_3) (fun w hS => r_load h rfl (hS.load_one (p := 1) rfl U26 rfl rfl)) fun a h=>h_event 4 (bA 14 3839) rfl (by kernel_rfl) (by kernel_rfl) ?_
 obtain ⟨t_5, et_5, H⟩ := bs H
 refine s_call h rfl Try.call48 rfl (hocketref1_Bytes.calls K t_4 _ x1.Cmd.Key _ t_5 w0 _ _ _ mr (hS.enter [] (by decide)) (hr_4.rd (hS.own_zed [] 4 (by decide)) (Mem.no_le _)) (hp1_1.mono (hA.trans (hS.le_zed []))) et_5) ?_
 rintro v_5 w_8 ⟨_, N_9, M_5, rfl, hS', hr_5⟩
 intro a h
 obtain ⟨N_10, hS'', le_5, ln_5⟩ := hS.call [] (by decide) rfl (l' := []) (ow := [_]) rfl hS'
 replace hS : Sep w0 w_8 [N_10, _, _, _, _, _, _] Z := hS''
 refine wpList_nil <| x_then_n ⟨(hS.sub (.cons le_5 (.rr (.rr (.rr (.rr (.rr .nn))))))), ?_⟩
 refine h_event 8 (bA 14 4095) rfl (by kernel_rfl) (by kernel_rfl) ?_
 obtain ⟨t_6, et_6, H⟩ := bs H
 refine s_call h rfl Try.call48 rfl (hocketref1_Bytes.calls K t_5 _ x1.Cmd.Val _ t_6 w0 _ _ _ mr (hS.enter [] (by decide)) (hr_5.rd (hS.own_zed [] 5 (by decide)) (Mem.no_le _)) (hp1_2.mono (hA.trans (hS.le_zed []))) et_6) ?_
 rintro v_6 w_9 ⟨_, N_11, M_6, rfl, hS', hr_6⟩
 intro a h
 obtain ⟨N_12, hS'', le_6, ln_6⟩ := hS.call [] (by decide) rfl (l' := []) (ow := [_]) rfl hS'
 replace hS : Sep w0 w_9 [N_12, _, _, _, _, _, _, _] Z := hS''
 refine wpList_nil <| x_then_n ⟨(hS.sub (.cons (le_5.trans le_6) (.rr (.rr (.rr (.rr (.rr .nn))))))), ?_⟩
 refine h_event 12 (bA 14 8191) rfl (by kernel_rfl) (by kernel_rfl) ?_
 obtain ⟨t_7, et_7, H⟩ := bs H
 refine s_call h rfl Try.call48 rfl (hocketref1_Bytes.calls K t_6 _ x1.Cmd.Old _ t_7 w0 _ _ _ mr (hS.enter [] (by decide)) (hr_6.rd (hS.own_zed [] 6 (by decide)) (Mem.no_le _)) (hp1_3.mono (hA.trans (hS.le_zed []))) et_7) ?_
 rintro v_7 w_10 ⟨_, N_13, M_7, rfl, hS', hr_7⟩
 intro a h
 obtain ⟨N_14, hS'', le_7, ln_7⟩ := hS.call [] (by decide) rfl (l' := []) (ow := [_]) rfl hS'
 replace hS : Sep w0 w_10 [N_14, _, _, _, _, _, _, _, _] Z := hS''
 refine wpList_nil <| x_then_n ⟨(hS.sub (.cons (le_5.trans (le_6.trans le_7)) (.rr (.rr (.rr (.rr (.rr .nn))))))), ?_⟩
 refine t_take 13 (bA 14 16383) rfl rfl rfl rfl h (hS.sub (.cons (le_5.trans (le_6.trans le_7)) (.rr (.rr (.rr (.rr (.rr .nn))))))) (v := v_7) (fun w hS => r_assign h rfl) fun a h=>h_done (by kernel_rfl) <| x_then_n (hKJ_2 _ _ ?_)
 refine wp_ret ?_
 obtain rfl := Option.some.inj H
 exact r1 h 4 rfl rfl ⟨_, rfl, v_7, N_14, M_7, rfl, (hS.sel [0, 8] (by decide)), hr_7⟩


end Go.Proofs
