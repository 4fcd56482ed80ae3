/- What the calls do: each function once. -/
import Derived.Test.YtabedbggldnkhaaViewTellsc2
namespace Go.Proofs
open Go.Gp
set_option linter.unusedVariables false
set_option maxHeartbeats 4000000 in
set_option maxRecDepth 20000 in
theorem hocketlaw11_Msg.calls (K : Nat) (x0 : Int) (x1 : Int) (r : api_Msg) (w0 w : World) (Z A : Mem) (hA : A.le Z) (hS : Sep w0 w [] Z)
    (H : hocketlaw11_Msg.f K x0 x1 = some r) :
    Calls Try.prog 31 [.int .i64 x0, .int .i64 x1].toArray w (Ret fun v w' => ∃ (u0 : Value) (u1 : Value) (u2 : Value) (u3 : Value) (u4 : Value) (u5 : Value) (N : Mem) (M0 : Mem) (M1 : Mem) (M2 : Mem), v = .agg [.int .i64 r.Kind, .int .i64 r.From, .int .i64 r.To, .int .i64 r.View, .int .i64 r.Inst, .int .i64 r.Len, .bool r.Has, .int .i64 r.Members, .int .i64 r.Source, .int .i64 r.At, .int .i64 r.Total, u0, .int .i64 r.Hop, .int .i64 r.Seq, u1, u2, .int .i64 r.Index, .int .i64 r.Entry.Sess, .int .i64 r.Entry.Seq, .int .i64 r.Entry.Cmd.Kind, .int .i64 r.Entry.Cmd.Who, u3, u4, u5].toArray ∧ Sep w0 w' [N, M0, M1, M2] Z ∧ Own Kd.u8 5 M0 Mem.no u0 r.Data ∧ Own (Kd.int .i64) 3 M1 Mem.no u1 r.Have ∧ Own (Kd.int .i64) 3 M2 Mem.no u2 r.Need ∧ Rd Kd.u8 N u3 r.Entry.Cmd.Key ∧ Rd Kd.u8 N u4 r.Entry.Cmd.Val ∧ Rd Kd.u8 N u5 r.Entry.Cmd.Old) := by
  unfold hocketlaw11_Msg.f at H
  refine f_enter _ Try.func31 rfl Try.ntmps31 rfl fun a hm => ?_
  replace hm : Fr 150 a [(0, .int .i64 x0), (1, .int .i64 x1)] := hm
  replace hS := hS.start
  replace hS : Sep w0 w [Mem.no] Z := hS
  refine wp_seq ?_
  refine wp_region_lit ?_
  refine v_alloc hm rfl ti29 hS ?_
  intro w_1 g_2 hS'
  clear hm a; intro a hm
  replace hS : Sep w0 w_1 [Mem.no, Mem.one g_2 (.cells ([.int .i64 0, .int .i64 0, .int .i64 0, .int .i64 0, .int .i64 0, .int .i64 0, .bool false, .int .i64 0, .int .i64 0, .int .i64 0, .int .i64 0, .slice none 0 0, .int .i64 0, .int .i64 0, .slice none 0 0, .slice none 0 0, .int .i64 0, .int .i64 0, .int .i64 0, .int .i64 0, .int .i64 0, .slice none 0 0, .slice none 0 0, .slice none 0 0] : List Value).toArray 29 (0, 0))] Z := hS'
  clear hS'
  refine wpList_nil ?_
  replace hm : Fr 150 a [(0, .int .i64 x0), (1, .int .i64 x1), (4, .pointer (some ⟨g_2, 0, none⟩))] := hm.keep [0, 1, 4]
  refine x_then_n ?_
  refine wp_seq ?_
  refine wp_region_lit ?_
  refine s_move hm rfl rfl ?_
  clear hm a; intro a hm
  refine s_bits (i := x0) (j := 7) (r := band .i64 x0 7) hm rfl rfl rfl (.inl ⟨rfl, rfl⟩) ?_
  clear hm a; intro a hm
  refine s_arith (r := w64 ((band .i64 x0 7) + 1)) hm rfl rfl rfl (.inl ⟨rfl, rfl⟩) ?_
  clear hm a; intro a hm
  refine s_move hm rfl rfl ?_
  clear hm a; intro a hm
  refine s_shift (r := shr .i64 x0 3) hm rfl rfl rfl (by decide) (.inr ⟨rfl, rfl⟩) ?_
  clear hm a; intro a hm
  refine s_bits (i := shr .i64 x0 3) (j := 7) (r := band .i64 (shr .i64 x0 3) 7) hm rfl rfl rfl (.inl ⟨rfl, rfl⟩) ?_
  clear hm a; intro a hm
  refine s_div (r := Int.tmod (band .i64 (shr .i64 x0 3) 7) 7) hm rfl rfl rfl (by decide) (.inr ⟨rfl, rfl⟩) ?_
  clear hm a; intro a hm
  refine s_move hm rfl rfl ?_
  clear hm a; intro a hm
  refine s_shift (r := shr .i64 x0 6) hm rfl rfl rfl (by decide) (.inr ⟨rfl, rfl⟩) ?_
  clear hm a; intro a hm
  refine s_bits (i := shr .i64 x0 6) (j := 7) (r := band .i64 (shr .i64 x0 6) 7) hm rfl rfl rfl (.inl ⟨rfl, rfl⟩) ?_
  clear hm a; intro a hm
  refine s_div (r := Int.tmod (band .i64 (shr .i64 x0 6) 7) 7) hm rfl rfl rfl (by decide) (.inr ⟨rfl, rfl⟩) ?_
  clear hm a; intro a hm
  refine s_move hm rfl rfl ?_
  clear hm a; intro a hm
  refine s_shift (r := shr .i64 x0 9) hm rfl rfl rfl (by decide) (.inr ⟨rfl, rfl⟩) ?_
  clear hm a; intro a hm
  refine s_bits (i := shr .i64 x0 9) (j := 1023) (r := band .i64 (shr .i64 x0 9) 1023) hm rfl rfl rfl (.inl ⟨rfl, rfl⟩) ?_
  clear hm a; intro a hm
  refine s_build hm rfl ti29 pl29 rfl (.cons rfl (.cons rfl (.cons rfl (.cons rfl .nil)))) (cs := [.int .i64 (w64 ((band .i64 x0 7) + 1)), .int .i64 (Int.tmod (band .i64 (shr .i64 x0 3) 7) 7), .int .i64 (Int.tmod (band .i64 (shr .i64 x0 6) 7) 7), .int .i64 (band .i64 (shr .i64 x0 9) 1023), .int .i64 0, .int .i64 0, .bool false, .int .i64 0, .int .i64 0, .int .i64 0, .int .i64 0, .slice none 0 0, .int .i64 0, .int .i64 0, .slice none 0 0, .slice none 0 0, .int .i64 0, .int .i64 0, .int .i64 0, .int .i64 0, .int .i64 0, .slice none 0 0, .slice none 0 0, .slice none 0 0]) rfl ?_
  clear hm a; intro a hm
  refine v_alloc hm rfl ti29 hS ?_
  intro w_3 g_4 hS'
  clear hm a; intro a hm
  replace hS : Sep w0 w_3 [Mem.no, Mem.one g_2 (.cells ([.int .i64 0, .int .i64 0, .int .i64 0, .int .i64 0, .int .i64 0, .int .i64 0, .bool false, .int .i64 0, .int .i64 0, .int .i64 0, .int .i64 0, .slice none 0 0, .int .i64 0, .int .i64 0, .slice none 0 0, .slice none 0 0, .int .i64 0, .int .i64 0, .int .i64 0, .int .i64 0, .int .i64 0, .slice none 0 0, .slice none 0 0, .slice none 0 0] : List Value).toArray 29 (0, 0)), Mem.one g_4 (.cells ([.int .i64 0, .int .i64 0, .int .i64 0, .int .i64 0, .int .i64 0, .int .i64 0, .bool false, .int .i64 0, .int .i64 0, .int .i64 0, .int .i64 0, .slice none 0 0, .int .i64 0, .int .i64 0, .slice none 0 0, .slice none 0 0, .int .i64 0, .int .i64 0, .int .i64 0, .int .i64 0, .int .i64 0, .slice none 0 0, .slice none 0 0, .slice none 0 0] : List Value).toArray 29 (0, 0))] Z := hS'
  clear hS'
  obtain ⟨w_5, hs', hS'⟩ := hS.store (P := Try.prog) (p := 2) (o := 0) (t := 29) (v := .agg ([.int .i64 (w64 ((band .i64 x0 7) + 1)), .int .i64 (Int.tmod (band .i64 (shr .i64 x0 3) 7) 7), .int .i64 (Int.tmod (band .i64 (shr .i64 x0 6) 7) 7), .int .i64 (band .i64 (shr .i64 x0 9) 1023), .int .i64 0, .int .i64 0, .bool false, .int .i64 0, .int .i64 0, .int .i64 0, .int .i64 0, .slice none 0 0, .int .i64 0, .int .i64 0, .slice none 0 0, .slice none 0 0, .int .i64 0, .int .i64 0, .int .i64 0, .int .i64 0, .int .i64 0, .slice none 0 0, .slice none 0 0, .slice none 0 0] : List Value).toArray) (vs := [.int .i64 (w64 ((band .i64 x0 7) + 1)), .int .i64 (Int.tmod (band .i64 (shr .i64 x0 3) 7) 7), .int .i64 (Int.tmod (band .i64 (shr .i64 x0 6) 7) 7), .int .i64 (band .i64 (shr .i64 x0 9) 1023), .int .i64 0, .int .i64 0, .bool false, .int .i64 0, .int .i64 0, .int .i64 0, .int .i64 0, .slice none 0 0, .int .i64 0, .int .i64 0, .slice none 0 0, .slice none 0 0, .int .i64 0, .int .i64 0, .int .i64 0, .int .i64 0, .int .i64 0, .slice none 0 0, .slice none 0 0, .slice none 0 0]) rfl ti29 rfl rfl rfl (by intro u hu; simp only [List.mem_cons, List.not_mem_nil, or_false] at hu; rcases hu with rfl | rfl | rfl | rfl | rfl | rfl | rfl | rfl | rfl | rfl | rfl | rfl | rfl | rfl | rfl | rfl | rfl | rfl | rfl | rfl | rfl | rfl | rfl | rfl <;> rfl)
  refine s_store hm rfl rfl hs' ?_
  replace hS : Sep w0 w_5 [Mem.no, Mem.one g_2 (.cells ([.int .i64 0, .int .i64 0, .int .i64 0, .int .i64 0, .int .i64 0, .int .i64 0, .bool false, .int .i64 0, .int .i64 0, .int .i64 0, .int .i64 0, .slice none 0 0, .int .i64 0, .int .i64 0, .slice none 0 0, .slice none 0 0, .int .i64 0, .int .i64 0, .int .i64 0, .int .i64 0, .int .i64 0, .slice none 0 0, .slice none 0 0, .slice none 0 0] : List Value).toArray 29 (0, 0)), Mem.one g_4 (.cells ([.int .i64 (w64 ((band .i64 x0 7) + 1)), .int .i64 (Int.tmod (band .i64 (shr .i64 x0 3) 7) 7), .int .i64 (Int.tmod (band .i64 (shr .i64 x0 6) 7) 7), .int .i64 (band .i64 (shr .i64 x0 9) 1023), .int .i64 0, .int .i64 0, .bool false, .int .i64 0, .int .i64 0, .int .i64 0, .int .i64 0, .slice none 0 0, .int .i64 0, .int .i64 0, .slice none 0 0, .slice none 0 0, .int .i64 0, .int .i64 0, .int .i64 0, .int .i64 0, .int .i64 0, .slice none 0 0, .slice none 0 0, .slice none 0 0] : List Value).toArray 29 (0, 0))] Z := hS'
  clear hs' hS'
  refine wpList_nil ?_
  replace hm : Fr 150 a [(0, .int .i64 x0), (1, .int .i64 x1), (4, .pointer (some ⟨g_2, 0, none⟩)), (5, .pointer (some ⟨g_4, 0, none⟩))] := hm.keep [0, 1, 4, 5]
  refine x_then_n ?_
  refine c_seq fun KJ_6 hKJ_6 => ?_
  refine wp_seq ?_
  refine wp_region_lit ?_
  refine s_fieldAddr hm rfl Try.underlying29 rfl ti3 rfl rfl ?_
  clear hm a; intro a hm
  refine s_load hm rfl rfl (hS.load_one (p := 2) rfl Try.underlying3 rfl rfl) ?_
  clear hm a; intro a hm
  refine wpList_nil ?_
  replace hm : Fr 150 a [(0, .int .i64 x0), (1, .int .i64 x1), (4, .pointer (some ⟨g_2, 0, none⟩)), (5, .pointer (some ⟨g_4, 0, none⟩)), (25, .int .i64 (w64 ((band .i64 x0 7) + 1)))] := hm.keep [0, 1, 4, 5, 25]
  refine x_then_n ?_
  refine c_block ?_
  refine wp_seq ?_
  refine wp_region_lit ?_
  refine s_cmp (b := ((w64 ((band .i64 x0 7) + 1)) == 2)) hm rfl rfl rfl (.inl ⟨rfl, rfl⟩) ?_
  clear hm a; intro a hm
  refine s_assign hm rfl rfl ?_
  clear hm a; intro a hm
  refine wpList_nil ?_
  replace hm : Fr 150 a [(0, .int .i64 x0), (1, .int .i64 x1), (4, .pointer (some ⟨g_2, 0, none⟩)), (5, .pointer (some ⟨g_4, 0, none⟩)), (25, .int .i64 (w64 ((band .i64 x0 7) + 1))), (26, .bool ((w64 ((band .i64 x0 7) + 1)) == 2))] := hm.keep [0, 1, 4, 5, 25, 26]
  refine x_then_n ?_
  by_cases hc_7 : (w64 ((band .i64 x0 7) + 1)) = 2
  · rw [if_pos hc_7] at H
    refine c_cond_t hm rfl (beq_iff_eq.2 hc_7) ?_
    refine wp_region_lit ?_
    refine s_move hm rfl rfl ?_
    clear hm a; intro a hm
    refine s_bits (i := x1) (j := 255) (r := band .i64 x1 255) hm rfl rfl rfl (.inl ⟨rfl, rfl⟩) ?_
    clear hm a; intro a hm
    refine s_move hm rfl rfl ?_
    clear hm a; intro a hm
    refine s_shift (r := shr .i64 x1 8) hm rfl rfl rfl (by decide) (.inr ⟨rfl, rfl⟩) ?_
    clear hm a; intro a hm
    refine s_bits (i := shr .i64 x1 8) (j := 63) (r := band .i64 (shr .i64 x1 8) 63) hm rfl rfl rfl (.inl ⟨rfl, rfl⟩) ?_
    clear hm a; intro a hm
    refine s_move hm rfl rfl ?_
    clear hm a; intro a hm
    refine s_shift (r := shr .i64 x1 14) hm rfl rfl rfl (by decide) (.inr ⟨rfl, rfl⟩) ?_
    clear hm a; intro a hm
    refine s_bits (i := shr .i64 x1 14) (j := 1) (r := band .i64 (shr .i64 x1 14) 1) hm rfl rfl rfl (.inl ⟨rfl, rfl⟩) ?_
    clear hm a; intro a hm
    refine s_cmp (b := ((band .i64 (shr .i64 x1 14) 1) == 1)) hm rfl rfl rfl (.inl ⟨rfl, rfl⟩) ?_
    clear hm a; intro a hm
    refine s_fieldAddr hm rfl Try.underlying29 rfl ti3 rfl rfl ?_
    clear hm a; intro a hm
    obtain ⟨w_8, hs', hS'⟩ := hS.store (P := Try.prog) (p := 2) (o := 4) (t := 3) (v := .int .i64 (band .i64 x1 255)) (vs := [.int .i64 (band .i64 x1 255)]) rfl ti3 rfl rfl rfl (by intro u hu; simp only [List.mem_cons, List.not_mem_nil, or_false] at hu; rcases hu with rfl <;> rfl)
    refine s_store hm rfl rfl hs' ?_
    replace hS : Sep w0 w_8 [Mem.no, Mem.one g_2 (.cells ([.int .i64 0, .int .i64 0, .int .i64 0, .int .i64 0, .int .i64 0, .int .i64 0, .bool false, .int .i64 0, .int .i64 0, .int .i64 0, .int .i64 0, .slice none 0 0, .int .i64 0, .int .i64 0, .slice none 0 0, .slice none 0 0, .int .i64 0, .int .i64 0, .int .i64 0, .int .i64 0, .int .i64 0, .slice none 0 0, .slice none 0 0, .slice none 0 0] : List Value).toArray 29 (0, 0)), Mem.one g_4 (.cells ([.int .i64 (w64 ((band .i64 x0 7) + 1)), .int .i64 (Int.tmod (band .i64 (shr .i64 x0 3) 7) 7), .int .i64 (Int.tmod (band .i64 (shr .i64 x0 6) 7) 7), .int .i64 (band .i64 (shr .i64 x0 9) 1023), .int .i64 (band .i64 x1 255), .int .i64 0, .bool false, .int .i64 0, .int .i64 0, .int .i64 0, .int .i64 0, .slice none 0 0, .int .i64 0, .int .i64 0, .slice none 0 0, .slice none 0 0, .int .i64 0, .int .i64 0, .int .i64 0, .int .i64 0, .int .i64 0, .slice none 0 0, .slice none 0 0, .slice none 0 0] : List Value).toArray 29 (0, 0))] Z := hS'
    clear hs' hS'
    refine s_fieldAddr hm rfl Try.underlying29 rfl ti3 rfl rfl ?_
    clear hm a; intro a hm
    obtain ⟨w_9, hs', hS'⟩ := hS.store (P := Try.prog) (p := 2) (o := 5) (t := 3) (v := .int .i64 (band .i64 (shr .i64 x1 8) 63)) (vs := [.int .i64 (band .i64 (shr .i64 x1 8) 63)]) rfl ti3 rfl rfl rfl (by intro u hu; simp only [List.mem_cons, List.not_mem_nil, or_false] at hu; rcases hu with rfl <;> rfl)
    refine s_store hm rfl rfl hs' ?_
    replace hS : Sep w0 w_9 [Mem.no, Mem.one g_2 (.cells ([.int .i64 0, .int .i64 0, .int .i64 0, .int .i64 0, .int .i64 0, .int .i64 0, .bool false, .int .i64 0, .int .i64 0, .int .i64 0, .int .i64 0, .slice none 0 0, .int .i64 0, .int .i64 0, .slice none 0 0, .slice none 0 0, .int .i64 0, .int .i64 0, .int .i64 0, .int .i64 0, .int .i64 0, .slice none 0 0, .slice none 0 0, .slice none 0 0] : List Value).toArray 29 (0, 0)), Mem.one g_4 (.cells ([.int .i64 (w64 ((band .i64 x0 7) + 1)), .int .i64 (Int.tmod (band .i64 (shr .i64 x0 3) 7) 7), .int .i64 (Int.tmod (band .i64 (shr .i64 x0 6) 7) 7), .int .i64 (band .i64 (shr .i64 x0 9) 1023), .int .i64 (band .i64 x1 255), .int .i64 (band .i64 (shr .i64 x1 8) 63), .bool false, .int .i64 0, .int .i64 0, .int .i64 0, .int .i64 0, .slice none 0 0, .int .i64 0, .int .i64 0, .slice none 0 0, .slice none 0 0, .int .i64 0, .int .i64 0, .int .i64 0, .int .i64 0, .int .i64 0, .slice none 0 0, .slice none 0 0, .slice none 0 0] : List Value).toArray 29 (0, 0))] Z := hS'
    clear hs' hS'
    refine s_fieldAddr hm rfl Try.underlying29 rfl ti4 rfl rfl ?_
    clear hm a; intro a hm
    obtain ⟨w_10, hs', hS'⟩ := hS.store (P := Try.prog) (p := 2) (o := 6) (t := 4) (v := .bool ((band .i64 (shr .i64 x1 14) 1) == 1)) (vs := [.bool ((band .i64 (shr .i64 x1 14) 1) == 1)]) rfl ti4 rfl rfl rfl (by intro u hu; simp only [List.mem_cons, List.not_mem_nil, or_false] at hu; rcases hu with rfl <;> rfl)
    refine s_store hm rfl rfl hs' ?_
    replace hS : Sep w0 w_10 [Mem.no, Mem.one g_2 (.cells ([.int .i64 0, .int .i64 0, .int .i64 0, .int .i64 0, .int .i64 0, .int .i64 0, .bool false, .int .i64 0, .int .i64 0, .int .i64 0, .int .i64 0, .slice none 0 0, .int .i64 0, .int .i64 0, .slice none 0 0, .slice none 0 0, .int .i64 0, .int .i64 0, .int .i64 0, .int .i64 0, .int .i64 0, .slice none 0 0, .slice none 0 0, .slice none 0 0] : List Value).toArray 29 (0, 0)), Mem.one g_4 (.cells ([.int .i64 (w64 ((band .i64 x0 7) + 1)), .int .i64 (Int.tmod (band .i64 (shr .i64 x0 3) 7) 7), .int .i64 (Int.tmod (band .i64 (shr .i64 x0 6) 7) 7), .int .i64 (band .i64 (shr .i64 x0 9) 1023), .int .i64 (band .i64 x1 255), .int .i64 (band .i64 (shr .i64 x1 8) 63), .bool ((band .i64 (shr .i64 x1 14) 1) == 1), .int .i64 0, .int .i64 0, .int .i64 0, .int .i64 0, .slice none 0 0, .int .i64 0, .int .i64 0, .slice none 0 0, .slice none 0 0, .int .i64 0, .int .i64 0, .int .i64 0, .int .i64 0, .int .i64 0, .slice none 0 0, .slice none 0 0, .slice none 0 0] : List Value).toArray 29 (0, 0))] Z := hS'
    clear hs' hS'
    refine wpList_nil ?_
    replace hm : Fr 150 a [(4, .pointer (some ⟨g_2, 0, none⟩)), (5, .pointer (some ⟨g_4, 0, none⟩))] := hm.keep [4, 5]
    refine x_block_n ?_
    refine x_then_n (hKJ_6 _ _ ?_)
    refine wp_seq ?_
    refine wp_region_lit ?_
    refine s_load hm rfl rfl (hS.load_agg (p := 2) (us := [.int .i64 (w64 ((band .i64 x0 7) + 1)), .int .i64 (Int.tmod (band .i64 (shr .i64 x0 3) 7) 7), .int .i64 (Int.tmod (band .i64 (shr .i64 x0 6) 7) 7), .int .i64 (band .i64 (shr .i64 x0 9) 1023), .int .i64 (band .i64 x1 255), .int .i64 (band .i64 (shr .i64 x1 8) 63), .bool ((band .i64 (shr .i64 x1 14) 1) == 1), .int .i64 0, .int .i64 0, .int .i64 0, .int .i64 0, .slice none 0 0, .int .i64 0, .int .i64 0, .slice none 0 0, .slice none 0 0, .int .i64 0, .int .i64 0, .int .i64 0, .int .i64 0, .int .i64 0, .slice none 0 0, .slice none 0 0, .slice none 0 0]) rfl Try.underlying29 rfl ti29 rfl rfl) ?_
    clear hm a; intro a hm
    obtain ⟨w_11, hs', hS'⟩ := hS.store (P := Try.prog) (p := 1) (o := 0) (t := 29) (v := .agg ([.int .i64 (w64 ((band .i64 x0 7) + 1)), .int .i64 (Int.tmod (band .i64 (shr .i64 x0 3) 7) 7), .int .i64 (Int.tmod (band .i64 (shr .i64 x0 6) 7) 7), .int .i64 (band .i64 (shr .i64 x0 9) 1023), .int .i64 (band .i64 x1 255), .int .i64 (band .i64 (shr .i64 x1 8) 63), .bool ((band .i64 (shr .i64 x1 14) 1) == 1), .int .i64 0, .int .i64 0, .int .i64 0, .int .i64 0, .slice none 0 0, .int .i64 0, .int .i64 0, .slice none 0 0, .slice none 0 0, .int .i64 0, .int .i64 0, .int .i64 0, .int .i64 0, .int .i64 0, .slice none 0 0, .slice none 0 0, .slice none 0 0] : List Value).toArray) (vs := [.int .i64 (w64 ((band .i64 x0 7) + 1)), .int .i64 (Int.tmod (band .i64 (shr .i64 x0 3) 7) 7), .int .i64 (Int.tmod (band .i64 (shr .i64 x0 6) 7) 7), .int .i64 (band .i64 (shr .i64 x0 9) 1023), .int .i64 (band .i64 x1 255), .int .i64 (band .i64 (shr .i64 x1 8) 63), .bool ((band .i64 (shr .i64 x1 14) 1) == 1), .int .i64 0, .int .i64 0, .int .i64 0, .int .i64 0, .slice none 0 0, .int .i64 0, .int .i64 0, .slice none 0 0, .slice none 0 0, .int .i64 0, .int .i64 0, .int .i64 0, .int .i64 0, .int .i64 0, .slice none 0 0, .slice none 0 0, .slice none 0 0]) rfl ti29 rfl rfl rfl (by intro u hu; simp only [List.mem_cons, List.not_mem_nil, or_false] at hu; rcases hu with rfl | rfl | rfl | rfl | rfl | rfl | rfl | rfl | rfl | rfl | rfl | rfl | rfl | rfl | rfl | rfl | rfl | rfl | rfl | rfl | rfl | rfl | rfl | rfl <;> rfl)
    refine s_store hm rfl rfl hs' ?_
    replace hS : Sep w0 w_11 [Mem.no, Mem.one g_2 (.cells ([.int .i64 (w64 ((band .i64 x0 7) + 1)), .int .i64 (Int.tmod (band .i64 (shr .i64 x0 3) 7) 7), .int .i64 (Int.tmod (band .i64 (shr .i64 x0 6) 7) 7), .int .i64 (band .i64 (shr .i64 x0 9) 1023), .int .i64 (band .i64 x1 255), .int .i64 (band .i64 (shr .i64 x1 8) 63), .bool ((band .i64 (shr .i64 x1 14) 1) == 1), .int .i64 0, .int .i64 0, .int .i64 0, .int .i64 0, .slice none 0 0, .int .i64 0, .int .i64 0, .slice none 0 0, .slice none 0 0, .int .i64 0, .int .i64 0, .int .i64 0, .int .i64 0, .int .i64 0, .slice none 0 0, .slice none 0 0, .slice none 0 0] : List Value).toArray 29 (0, 0)), Mem.one g_4 (.cells ([.int .i64 (w64 ((band .i64 x0 7) + 1)), .int .i64 (Int.tmod (band .i64 (shr .i64 x0 3) 7) 7), .int .i64 (Int.tmod (band .i64 (shr .i64 x0 6) 7) 7), .int .i64 (band .i64 (shr .i64 x0 9) 1023), .int .i64 (band .i64 x1 255), .int .i64 (band .i64 (shr .i64 x1 8) 63), .bool ((band .i64 (shr .i64 x1 14) 1) == 1), .int .i64 0, .int .i64 0, .int .i64 0, .int .i64 0, .slice none 0 0, .int .i64 0, .int .i64 0, .slice none 0 0, .slice none 0 0, .int .i64 0, .int .i64 0, .int .i64 0, .int .i64 0, .int .i64 0, .slice none 0 0, .slice none 0 0, .slice none 0 0] : List Value).toArray 29 (0, 0))] Z := hS'
    clear hs' hS'
    refine wpList_nil ?_
    replace hm : Fr 150 a [(4, .pointer (some ⟨g_2, 0, none⟩))] := hm.keep [4]
    refine x_then_n ?_
    refine wp_ret ?_
    have hS' := hS.room
    replace hS : Sep w0 w_11 [Mem.no, Mem.one g_2 (.cells ([.int .i64 (w64 ((band .i64 x0 7) + 1)), .int .i64 (Int.tmod (band .i64 (shr .i64 x0 3) 7) 7), .int .i64 (Int.tmod (band .i64 (shr .i64 x0 6) 7) 7), .int .i64 (band .i64 (shr .i64 x0 9) 1023), .int .i64 (band .i64 x1 255), .int .i64 (band .i64 (shr .i64 x1 8) 63), .bool ((band .i64 (shr .i64 x1 14) 1) == 1), .int .i64 0, .int .i64 0, .int .i64 0, .int .i64 0, .slice none 0 0, .int .i64 0, .int .i64 0, .slice none 0 0, .slice none 0 0, .int .i64 0, .int .i64 0, .int .i64 0, .int .i64 0, .int .i64 0, .slice none 0 0, .slice none 0 0, .slice none 0 0] : List Value).toArray 29 (0, 0)), Mem.one g_4 (.cells ([.int .i64 (w64 ((band .i64 x0 7) + 1)), .int .i64 (Int.tmod (band .i64 (shr .i64 x0 3) 7) 7), .int .i64 (Int.tmod (band .i64 (shr .i64 x0 6) 7) 7), .int .i64 (band .i64 (shr .i64 x0 9) 1023), .int .i64 (band .i64 x1 255), .int .i64 (band .i64 (shr .i64 x1 8) 63), .bool ((band .i64 (shr .i64 x1 14) 1) == 1), .int .i64 0, .int .i64 0, .int .i64 0, .int .i64 0, .slice none 0 0, .int .i64 0, .int .i64 0, .slice none 0 0, .slice none 0 0, .int .i64 0, .int .i64 0, .int .i64 0, .int .i64 0, .int .i64 0, .slice none 0 0, .slice none 0 0, .slice none 0 0] : List Value).toArray 29 (0, 0)), Mem.no] Z := hS'
    clear hS'
    replace hS : Sep w0 w_11 [Mem.no, Mem.one g_2 (.cells ([.int .i64 (w64 ((band .i64 x0 7) + 1)), .int .i64 (Int.tmod (band .i64 (shr .i64 x0 3) 7) 7), .int .i64 (Int.tmod (band .i64 (shr .i64 x0 6) 7) 7), .int .i64 (band .i64 (shr .i64 x0 9) 1023), .int .i64 (band .i64 x1 255), .int .i64 (band .i64 (shr .i64 x1 8) 63), .bool ((band .i64 (shr .i64 x1 14) 1) == 1), .int .i64 0, .int .i64 0, .int .i64 0, .int .i64 0, .slice none 0 0, .int .i64 0, .int .i64 0, .slice none 0 0, .slice none 0 0, .int .i64 0, .int .i64 0, .int .i64 0, .int .i64 0, .int .i64 0, .slice none 0 0, .slice none 0 0, .slice none 0 0] : List Value).toArray 29 (0, 0)), Mem.one g_4 (.cells ([.int .i64 (w64 ((band .i64 x0 7) + 1)), .int .i64 (Int.tmod (band .i64 (shr .i64 x0 3) 7) 7), .int .i64 (Int.tmod (band .i64 (shr .i64 x0 6) 7) 7), .int .i64 (band .i64 (shr .i64 x0 9) 1023), .int .i64 (band .i64 x1 255), .int .i64 (band .i64 (shr .i64 x1 8) 63), .bool ((band .i64 (shr .i64 x1 14) 1) == 1), .int .i64 0, .int .i64 0, .int .i64 0, .int .i64 0, .slice none 0 0, .int .i64 0, .int .i64 0, .slice none 0 0, .slice none 0 0, .int .i64 0, .int .i64 0, .int .i64 0, .int .i64 0, .int .i64 0, .slice none 0 0, .slice none 0 0, .slice none 0 0] : List Value).toArray 29 (0, 0)), Mem.no] Z := hS
    have hS' := hS.room
    replace hS : Sep w0 w_11 [Mem.no, Mem.one g_2 (.cells ([.int .i64 (w64 ((band .i64 x0 7) + 1)), .int .i64 (Int.tmod (band .i64 (shr .i64 x0 3) 7) 7), .int .i64 (Int.tmod (band .i64 (shr .i64 x0 6) 7) 7), .int .i64 (band .i64 (shr .i64 x0 9) 1023), .int .i64 (band .i64 x1 255), .int .i64 (band .i64 (shr .i64 x1 8) 63), .bool ((band .i64 (shr .i64 x1 14) 1) == 1), .int .i64 0, .int .i64 0, .int .i64 0, .int .i64 0, .slice none 0 0, .int .i64 0, .int .i64 0, .slice none 0 0, .slice none 0 0, .int .i64 0, .int .i64 0, .int .i64 0, .int .i64 0, .int .i64 0, .slice none 0 0, .slice none 0 0, .slice none 0 0] : List Value).toArray 29 (0, 0)), Mem.one g_4 (.cells ([.int .i64 (w64 ((band .i64 x0 7) + 1)), .int .i64 (Int.tmod (band .i64 (shr .i64 x0 3) 7) 7), .int .i64 (Int.tmod (band .i64 (shr .i64 x0 6) 7) 7), .int .i64 (band .i64 (shr .i64 x0 9) 1023), .int .i64 (band .i64 x1 255), .int .i64 (band .i64 (shr .i64 x1 8) 63), .bool ((band .i64 (shr .i64 x1 14) 1) == 1), .int .i64 0, .int .i64 0, .int .i64 0, .int .i64 0, .slice none 0 0, .int .i64 0, .int .i64 0, .slice none 0 0, .slice none 0 0, .int .i64 0, .int .i64 0, .int .i64 0, .int .i64 0, .int .i64 0, .slice none 0 0, .slice none 0 0, .slice none 0 0] : List Value).toArray 29 (0, 0)), Mem.no, Mem.no] Z := hS'
    clear hS'
    replace hS : Sep w0 w_11 [Mem.no, Mem.one g_2 (.cells ([.int .i64 (w64 ((band .i64 x0 7) + 1)), .int .i64 (Int.tmod (band .i64 (shr .i64 x0 3) 7) 7), .int .i64 (Int.tmod (band .i64 (shr .i64 x0 6) 7) 7), .int .i64 (band .i64 (shr .i64 x0 9) 1023), .int .i64 (band .i64 x1 255), .int .i64 (band .i64 (shr .i64 x1 8) 63), .bool ((band .i64 (shr .i64 x1 14) 1) == 1), .int .i64 0, .int .i64 0, .int .i64 0, .int .i64 0, .slice none 0 0, .int .i64 0, .int .i64 0, .slice none 0 0, .slice none 0 0, .int .i64 0, .int .i64 0, .int .i64 0, .int .i64 0, .int .i64 0, .slice none 0 0, .slice none 0 0, .slice none 0 0] : List Value).toArray 29 (0, 0)), Mem.one g_4 (.cells ([.int .i64 (w64 ((band .i64 x0 7) + 1)), .int .i64 (Int.tmod (band .i64 (shr .i64 x0 3) 7) 7), .int .i64 (Int.tmod (band .i64 (shr .i64 x0 6) 7) 7), .int .i64 (band .i64 (shr .i64 x0 9) 1023), .int .i64 (band .i64 x1 255), .int .i64 (band .i64 (shr .i64 x1 8) 63), .bool ((band .i64 (shr .i64 x1 14) 1) == 1), .int .i64 0, .int .i64 0, .int .i64 0, .int .i64 0, .slice none 0 0, .int .i64 0, .int .i64 0, .slice none 0 0, .slice none 0 0, .int .i64 0, .int .i64 0, .int .i64 0, .int .i64 0, .int .i64 0, .slice none 0 0, .slice none 0 0, .slice none 0 0] : List Value).toArray 29 (0, 0)), Mem.no, Mem.no] Z := hS
    have hS' := hS.room
    replace hS : Sep w0 w_11 [Mem.no, Mem.one g_2 (.cells ([.int .i64 (w64 ((band .i64 x0 7) + 1)), .int .i64 (Int.tmod (band .i64 (shr .i64 x0 3) 7) 7), .int .i64 (Int.tmod (band .i64 (shr .i64 x0 6) 7) 7), .int .i64 (band .i64 (shr .i64 x0 9) 1023), .int .i64 (band .i64 x1 255), .int .i64 (band .i64 (shr .i64 x1 8) 63), .bool ((band .i64 (shr .i64 x1 14) 1) == 1), .int .i64 0, .int .i64 0, .int .i64 0, .int .i64 0, .slice none 0 0, .int .i64 0, .int .i64 0, .slice none 0 0, .slice none 0 0, .int .i64 0, .int .i64 0, .int .i64 0, .int .i64 0, .int .i64 0, .slice none 0 0, .slice none 0 0, .slice none 0 0] : List Value).toArray 29 (0, 0)), Mem.one g_4 (.cells ([.int .i64 (w64 ((band .i64 x0 7) + 1)), .int .i64 (Int.tmod (band .i64 (shr .i64 x0 3) 7) 7), .int .i64 (Int.tmod (band .i64 (shr .i64 x0 6) 7) 7), .int .i64 (band .i64 (shr .i64 x0 9) 1023), .int .i64 (band .i64 x1 255), .int .i64 (band .i64 (shr .i64 x1 8) 63), .bool ((band .i64 (shr .i64 x1 14) 1) == 1), .int .i64 0, .int .i64 0, .int .i64 0, .int .i64 0, .slice none 0 0, .int .i64 0, .int .i64 0, .slice none 0 0, .slice none 0 0, .int .i64 0, .int .i64 0, .int .i64 0, .int .i64 0, .int .i64 0, .slice none 0 0, .slice none 0 0, .slice none 0 0] : List Value).toArray 29 (0, 0)), Mem.no, Mem.no, Mem.no] Z := hS'
    clear hS'
    replace hS : Sep w0 w_11 [Mem.no, Mem.one g_2 (.cells ([.int .i64 (w64 ((band .i64 x0 7) + 1)), .int .i64 (Int.tmod (band .i64 (shr .i64 x0 3) 7) 7), .int .i64 (Int.tmod (band .i64 (shr .i64 x0 6) 7) 7), .int .i64 (band .i64 (shr .i64 x0 9) 1023), .int .i64 (band .i64 x1 255), .int .i64 (band .i64 (shr .i64 x1 8) 63), .bool ((band .i64 (shr .i64 x1 14) 1) == 1), .int .i64 0, .int .i64 0, .int .i64 0, .int .i64 0, .slice none 0 0, .int .i64 0, .int .i64 0, .slice none 0 0, .slice none 0 0, .int .i64 0, .int .i64 0, .int .i64 0, .int .i64 0, .int .i64 0, .slice none 0 0, .slice none 0 0, .slice none 0 0] : List Value).toArray 29 (0, 0)), Mem.one g_4 (.cells ([.int .i64 (w64 ((band .i64 x0 7) + 1)), .int .i64 (Int.tmod (band .i64 (shr .i64 x0 3) 7) 7), .int .i64 (Int.tmod (band .i64 (shr .i64 x0 6) 7) 7), .int .i64 (band .i64 (shr .i64 x0 9) 1023), .int .i64 (band .i64 x1 255), .int .i64 (band .i64 (shr .i64 x1 8) 63), .bool ((band .i64 (shr .i64 x1 14) 1) == 1), .int .i64 0, .int .i64 0, .int .i64 0, .int .i64 0, .slice none 0 0, .int .i64 0, .int .i64 0, .slice none 0 0, .slice none 0 0, .int .i64 0, .int .i64 0, .int .i64 0, .int .i64 0, .int .i64 0, .slice none 0 0, .slice none 0 0, .slice none 0 0] : List Value).toArray 29 (0, 0)), Mem.no, Mem.no, Mem.no] Z := hS
    obtain rfl := Option.some.inj H
    exact f_ret hm (rs := [.cell 4 29]) rfl (.cell rfl (hS.load_agg (p := 1) (us := [.int .i64 (w64 ((band .i64 x0 7) + 1)), .int .i64 (Int.tmod (band .i64 (shr .i64 x0 3) 7) 7), .int .i64 (Int.tmod (band .i64 (shr .i64 x0 6) 7) 7), .int .i64 (band .i64 (shr .i64 x0 9) 1023), .int .i64 (band .i64 x1 255), .int .i64 (band .i64 (shr .i64 x1 8) 63), .bool ((band .i64 (shr .i64 x1 14) 1) == 1), .int .i64 0, .int .i64 0, .int .i64 0, .int .i64 0, .slice none 0 0, .int .i64 0, .int .i64 0, .slice none 0 0, .slice none 0 0, .int .i64 0, .int .i64 0, .int .i64 0, .int .i64 0, .int .i64 0, .slice none 0 0, .slice none 0 0, .slice none 0 0]) rfl Try.underlying29 rfl ti29 rfl rfl) .nil) ⟨_, rfl, .slice none 0 0, .slice none 0 0, .slice none 0 0, .slice none 0 0, .slice none 0 0, .slice none 0 0, Mem.no, Mem.no, Mem.no, Mem.no, rfl, (Sep.sel hS [0, 3, 4, 5] (by decide)), (Own.nil Kd.u8 5 Mem.no), (Own.nil (Kd.int .i64) 3 Mem.no), (Own.nil (Kd.int .i64) 3 Mem.no), (Rd.nil _ _), (Rd.nil _ _), (Rd.nil _ _)⟩
  · rw [if_neg hc_7] at H
    refine c_cond_f hm rfl (beq_eq_false_iff_ne.2 hc_7) ?_
    refine wp_seq ?_
    refine wp_region_lit ?_
    refine s_cmp (b := ((w64 ((band .i64 x0 7) + 1)) == 3)) hm rfl rfl rfl (.inl ⟨rfl, rfl⟩) ?_
    clear hm a; intro a hm
    refine s_assign hm rfl rfl ?_
    clear hm a; intro a hm
    refine wpList_nil ?_
    replace hm : Fr 150 a [(0, .int .i64 x0), (1, .int .i64 x1), (4, .pointer (some ⟨g_2, 0, none⟩)), (5, .pointer (some ⟨g_4, 0, none⟩)), (25, .int .i64 (w64 ((band .i64 x0 7) + 1))), (40, .bool ((w64 ((band .i64 x0 7) + 1)) == 3))] := hm.keep [0, 1, 4, 5, 25, 40]
    refine x_then_n ?_
    by_cases hc_15 : (w64 ((band .i64 x0 7) + 1)) = 3
    · rw [if_pos hc_15] at H
      refine c_cond_t hm rfl (beq_iff_eq.2 hc_15) ?_
      refine wp_region_lit ?_
      refine s_move hm rfl rfl ?_
      clear hm a; intro a hm
      refine s_bits (i := x1) (j := 127) (r := band .i64 x1 127) hm rfl rfl rfl (.inl ⟨rfl, rfl⟩) ?_
      clear hm a; intro a hm
      refine s_move hm rfl rfl ?_
      clear hm a; intro a hm
      refine s_shift (r := shr .i64 x1 7) hm rfl rfl rfl (by decide) (.inr ⟨rfl, rfl⟩) ?_
      clear hm a; intro a hm
      refine s_bits (i := shr .i64 x1 7) (j := 7) (r := band .i64 (shr .i64 x1 7) 7) hm rfl rfl rfl (.inl ⟨rfl, rfl⟩) ?_
      clear hm a; intro a hm
      refine s_div (r := Int.tmod (band .i64 (shr .i64 x1 7) 7) 7) hm rfl rfl rfl (by decide) (.inr ⟨rfl, rfl⟩) ?_
      clear hm a; intro a hm
      refine s_move hm rfl rfl ?_
      clear hm a; intro a hm
      refine s_shift (r := shr .i64 x1 10) hm rfl rfl rfl (by decide) (.inr ⟨rfl, rfl⟩) ?_
      clear hm a; intro a hm
      refine s_bits (i := shr .i64 x1 10) (j := 63) (r := band .i64 (shr .i64 x1 10) 63) hm rfl rfl rfl (.inl ⟨rfl, rfl⟩) ?_
      clear hm a; intro a hm
      refine s_fieldAddr hm rfl Try.underlying29 rfl ti3 rfl rfl ?_
      clear hm a; intro a hm
      obtain ⟨w_16, hs', hS'⟩ := hS.store (P := Try.prog) (p := 2) (o := 7) (t := 3) (v := .int .i64 (band .i64 x1 127)) (vs := [.int .i64 (band .i64 x1 127)]) rfl ti3 rfl rfl rfl (by intro u hu; simp only [List.mem_cons, List.not_mem_nil, or_false] at hu; rcases hu with rfl <;> rfl)
      refine s_store hm rfl rfl hs' ?_
      replace hS : Sep w0 w_16 [Mem.no, Mem.one g_2 (.cells ([.int .i64 0, .int .i64 0, .int .i64 0, .int .i64 0, .int .i64 0, .int .i64 0, .bool false, .int .i64 0, .int .i64 0, .int .i64 0, .int .i64 0, .slice none 0 0, .int .i64 0, .int .i64 0, .slice none 0 0, .slice none 0 0, .int .i64 0, .int .i64 0, .int .i64 0, .int .i64 0, .int .i64 0, .slice none 0 0, .slice none 0 0, .slice none 0 0] : List Value).toArray 29 (0, 0)), Mem.one g_4 (.cells ([.int .i64 (w64 ((band .i64 x0 7) + 1)), .int .i64 (Int.tmod (band .i64 (shr .i64 x0 3) 7) 7), .int .i64 (Int.tmod (band .i64 (shr .i64 x0 6) 7) 7), .int .i64 (band .i64 (shr .i64 x0 9) 1023), .int .i64 0, .int .i64 0, .bool false, .int .i64 (band .i64 x1 127), .int .i64 0, .int .i64 0, .int .i64 0, .slice none 0 0, .int .i64 0, .int .i64 0, .slice none 0 0, .slice none 0 0, .int .i64 0, .int .i64 0, .int .i64 0, .int .i64 0, .int .i64 0, .slice none 0 0, .slice none 0 0, .slice none 0 0] : List Value).toArray 29 (0, 0))] Z := hS'
      clear hs' hS'
      refine s_fieldAddr hm rfl Try.underlying29 rfl ti3 rfl rfl ?_
      clear hm a; intro a hm
      obtain ⟨w_17, hs', hS'⟩ := hS.store (P := Try.prog) (p := 2) (o := 8) (t := 3) (v := .int .i64 (Int.tmod (band .i64 (shr .i64 x1 7) 7) 7)) (vs := [.int .i64 (Int.tmod (band .i64 (shr .i64 x1 7) 7) 7)]) rfl ti3 rfl rfl rfl (by intro u hu; simp only [List.mem_cons, List.not_mem_nil, or_false] at hu; rcases hu with rfl <;> rfl)
      refine s_store hm rfl rfl hs' ?_
      replace hS : Sep w0 w_17 [Mem.no, Mem.one g_2 (.cells ([.int .i64 0, .int .i64 0, .int .i64 0, .int .i64 0, .int .i64 0, .int .i64 0, .bool false, .int .i64 0, .int .i64 0, .int .i64 0, .int .i64 0, .slice none 0 0, .int .i64 0, .int .i64 0, .slice none 0 0, .slice none 0 0, .int .i64 0, .int .i64 0, .int .i64 0, .int .i64 0, .int .i64 0, .slice none 0 0, .slice none 0 0, .slice none 0 0] : List Value).toArray 29 (0, 0)), Mem.one g_4 (.cells ([.int .i64 (w64 ((band .i64 x0 7) + 1)), .int .i64 (Int.tmod (band .i64 (shr .i64 x0 3) 7) 7), .int .i64 (Int.tmod (band .i64 (shr .i64 x0 6) 7) 7), .int .i64 (band .i64 (shr .i64 x0 9) 1023), .int .i64 0, .int .i64 0, .bool false, .int .i64 (band .i64 x1 127), .int .i64 (Int.tmod (band .i64 (shr .i64 x1 7) 7) 7), .int .i64 0, .int .i64 0, .slice none 0 0, .int .i64 0, .int .i64 0, .slice none 0 0, .slice none 0 0, .int .i64 0, .int .i64 0, .int .i64 0, .int .i64 0, .int .i64 0, .slice none 0 0, .slice none 0 0, .slice none 0 0] : List Value).toArray 29 (0, 0))] Z := hS'
      clear hs' hS'
      refine s_fieldAddr hm rfl Try.underlying29 rfl ti3 rfl rfl ?_
      clear hm a; intro a hm
      obtain ⟨w_18, hs', hS'⟩ := hS.store (P := Try.prog) (p := 2) (o := 5) (t := 3) (v := .int .i64 (band .i64 (shr .i64 x1 10) 63)) (vs := [.int .i64 (band .i64 (shr .i64 x1 10) 63)]) rfl ti3 rfl rfl rfl (by intro u hu; simp only [List.mem_cons, List.not_mem_nil, or_false] at hu; rcases hu with rfl <;> rfl)
      refine s_store hm rfl rfl hs' ?_
      replace hS : Sep w0 w_18 [Mem.no, Mem.one g_2 (.cells ([.int .i64 0, .int .i64 0, .int .i64 0, .int .i64 0, .int .i64 0, .int .i64 0, .bool false, .int .i64 0, .int .i64 0, .int .i64 0, .int .i64 0, .slice none 0 0, .int .i64 0, .int .i64 0, .slice none 0 0, .slice none 0 0, .int .i64 0, .int .i64 0, .int .i64 0, .int .i64 0, .int .i64 0, .slice none 0 0, .slice none 0 0, .slice none 0 0] : List Value).toArray 29 (0, 0)), Mem.one g_4 (.cells ([.int .i64 (w64 ((band .i64 x0 7) + 1)), .int .i64 (Int.tmod (band .i64 (shr .i64 x0 3) 7) 7), .int .i64 (Int.tmod (band .i64 (shr .i64 x0 6) 7) 7), .int .i64 (band .i64 (shr .i64 x0 9) 1023), .int .i64 0, .int .i64 (band .i64 (shr .i64 x1 10) 63), .bool false, .int .i64 (band .i64 x1 127), .int .i64 (Int.tmod (band .i64 (shr .i64 x1 7) 7) 7), .int .i64 0, .int .i64 0, .slice none 0 0, .int .i64 0, .int .i64 0, .slice none 0 0, .slice none 0 0, .int .i64 0, .int .i64 0, .int .i64 0, .int .i64 0, .int .i64 0, .slice none 0 0, .slice none 0 0, .slice none 0 0] : List Value).toArray 29 (0, 0))] Z := hS'
      clear hs' hS'
      refine wpList_nil ?_
      replace hm : Fr 150 a [(4, .pointer (some ⟨g_2, 0, none⟩)), (5, .pointer (some ⟨g_4, 0, none⟩))] := hm.keep [4, 5]
      refine x_block_n ?_
      refine x_then_n (hKJ_6 _ _ ?_)
      refine wp_seq ?_
      refine wp_region_lit ?_
      refine s_load hm rfl rfl (hS.load_agg (p := 2) (us := [.int .i64 (w64 ((band .i64 x0 7) + 1)), .int .i64 (Int.tmod (band .i64 (shr .i64 x0 3) 7) 7), .int .i64 (Int.tmod (band .i64 (shr .i64 x0 6) 7) 7), .int .i64 (band .i64 (shr .i64 x0 9) 1023), .int .i64 0, .int .i64 (band .i64 (shr .i64 x1 10) 63), .bool false, .int .i64 (band .i64 x1 127), .int .i64 (Int.tmod (band .i64 (shr .i64 x1 7) 7) 7), .int .i64 0, .int .i64 0, .slice none 0 0, .int .i64 0, .int .i64 0, .slice none 0 0, .slice none 0 0, .int .i64 0, .int .i64 0, .int .i64 0, .int .i64 0, .int .i64 0, .slice none 0 0, .slice none 0 0, .slice none 0 0]) rfl Try.underlying29 rfl ti29 rfl rfl) ?_
      clear hm a; intro a hm
      obtain ⟨w_19, hs', hS'⟩ := hS.store (P := Try.prog) (p := 1) (o := 0) (t := 29) (v := .agg ([.int .i64 (w64 ((band .i64 x0 7) + 1)), .int .i64 (Int.tmod (band .i64 (shr .i64 x0 3) 7) 7), .int .i64 (Int.tmod (band .i64 (shr .i64 x0 6) 7) 7), .int .i64 (band .i64 (shr .i64 x0 9) 1023), .int .i64 0, .int .i64 (band .i64 (shr .i64 x1 10) 63), .bool false, .int .i64 (band .i64 x1 127), .int .i64 (Int.tmod (band .i64 (shr .i64 x1 7) 7) 7), .int .i64 0, .int .i64 0, .slice none 0 0, .int .i64 0, .int .i64 0, .slice none 0 0, .slice none 0 0, .int .i64 0, .int .i64 0, .int .i64 0, .int .i64 0, .int .i64 0, .slice none 0 0, .slice none 0 0, .slice none 0 0] : List Value).toArray) (vs := [.int .i64 (w64 ((band .i64 x0 7) + 1)), .int .i64 (Int.tmod (band .i64 (shr .i64 x0 3) 7) 7), .int .i64 (Int.tmod (band .i64 (shr .i64 x0 6) 7) 7), .int .i64 (band .i64 (shr .i64 x0 9) 1023), .int .i64 0, .int .i64 (band .i64 (shr .i64 x1 10) 63), .bool false, .int .i64 (band .i64 x1 127), .int .i64 (Int.tmod (band .i64 (shr .i64 x1 7) 7) 7), .int .i64 0, .int .i64 0, .slice none 0 0, .int .i64 0, .int .i64 0, .slice none 0 0, .slice none 0 0, .int .i64 0, .int .i64 0, .int .i64 0, .int .i64 0, .int .i64 0, .slice none 0 0, .slice none 0 0, .slice none 0 0]) rfl ti29 rfl rfl rfl (by intro u hu; simp only [List.mem_cons, List.not_mem_nil, or_false] at hu; rcases hu with rfl | rfl | rfl | rfl | rfl | rfl | rfl | rfl | rfl | rfl | rfl | rfl | rfl | rfl | rfl | rfl | rfl | rfl | rfl | rfl | rfl | rfl | rfl | rfl <;> rfl)
      refine s_store hm rfl rfl hs' ?_
      replace hS : Sep w0 w_19 [Mem.no, Mem.one g_2 (.cells ([.int .i64 (w64 ((band .i64 x0 7) + 1)), .int .i64 (Int.tmod (band .i64 (shr .i64 x0 3) 7) 7), .int .i64 (Int.tmod (band .i64 (shr .i64 x0 6) 7) 7), .int .i64 (band .i64 (shr .i64 x0 9) 1023), .int .i64 0, .int .i64 (band .i64 (shr .i64 x1 10) 63), .bool false, .int .i64 (band .i64 x1 127), .int .i64 (Int.tmod (band .i64 (shr .i64 x1 7) 7) 7), .int .i64 0, .int .i64 0, .slice none 0 0, .int .i64 0, .int .i64 0, .slice none 0 0, .slice none 0 0, .int .i64 0, .int .i64 0, .int .i64 0, .int .i64 0, .int .i64 0, .slice none 0 0, .slice none 0 0, .slice none 0 0] : List Value).toArray 29 (0, 0)), Mem.one g_4 (.cells ([.int .i64 (w64 ((band .i64 x0 7) + 1)), .int .i64 (Int.tmod (band .i64 (shr .i64 x0 3) 7) 7), .int .i64 (Int.tmod (band .i64 (shr .i64 x0 6) 7) 7), .int .i64 (band .i64 (shr .i64 x0 9) 1023), .int .i64 0, .int .i64 (band .i64 (shr .i64 x1 10) 63), .bool false, .int .i64 (band .i64 x1 127), .int .i64 (Int.tmod (band .i64 (shr .i64 x1 7) 7) 7), .int .i64 0, .int .i64 0, .slice none 0 0, .int .i64 0, .int .i64 0, .slice none 0 0, .slice none 0 0, .int .i64 0, .int .i64 0, .int .i64 0, .int .i64 0, .int .i64 0, .slice none 0 0, .slice none 0 0, .slice none 0 0] : List Value).toArray 29 (0, 0))] Z := hS'
      clear hs' hS'
      refine wpList_nil ?_
      replace hm : Fr 150 a [(4, .pointer (some ⟨g_2, 0, none⟩))] := hm.keep [4]
      refine x_then_n ?_
      refine wp_ret ?_
      have hS' := hS.room
      replace hS : Sep w0 w_19 [Mem.no, Mem.one g_2 (.cells ([.int .i64 (w64 ((band .i64 x0 7) + 1)), .int .i64 (Int.tmod (band .i64 (shr .i64 x0 3) 7) 7), .int .i64 (Int.tmod (band .i64 (shr .i64 x0 6) 7) 7), .int .i64 (band .i64 (shr .i64 x0 9) 1023), .int .i64 0, .int .i64 (band .i64 (shr .i64 x1 10) 63), .bool false, .int .i64 (band .i64 x1 127), .int .i64 (Int.tmod (band .i64 (shr .i64 x1 7) 7) 7), .int .i64 0, .int .i64 0, .slice none 0 0, .int .i64 0, .int .i64 0, .slice none 0 0, .slice none 0 0, .int .i64 0, .int .i64 0, .int .i64 0, .int .i64 0, .int .i64 0, .slice none 0 0, .slice none 0 0, .slice none 0 0] : List Value).toArray 29 (0, 0)), Mem.one g_4 (.cells ([.int .i64 (w64 ((band .i64 x0 7) + 1)), .int .i64 (Int.tmod (band .i64 (shr .i64 x0 3) 7) 7), .int .i64 (Int.tmod (band .i64 (shr .i64 x0 6) 7) 7), .int .i64 (band .i64 (shr .i64 x0 9) 1023), .int .i64 0, .int .i64 (band .i64 (shr .i64 x1 10) 63), .bool false, .int .i64 (band .i64 x1 127), .int .i64 (Int.tmod (band .i64 (shr .i64 x1 7) 7) 7), .int .i64 0, .int .i64 0, .slice none 0 0, .int .i64 0, .int .i64 0, .slice none 0 0, .slice none 0 0, .int .i64 0, .int .i64 0, .int .i64 0, .int .i64 0, .int .i64 0, .slice none 0 0, .slice none 0 0, .slice none 0 0] : List Value).toArray 29 (0, 0)), Mem.no] Z := hS'
      clear hS'
      replace hS : Sep w0 w_19 [Mem.no, Mem.one g_2 (.cells ([.int .i64 (w64 ((band .i64 x0 7) + 1)), .int .i64 (Int.tmod (band .i64 (shr .i64 x0 3) 7) 7), .int .i64 (Int.tmod (band .i64 (shr .i64 x0 6) 7) 7), .int .i64 (band .i64 (shr .i64 x0 9) 1023), .int .i64 0, .int .i64 (band .i64 (shr .i64 x1 10) 63), .bool false, .int .i64 (band .i64 x1 127), .int .i64 (Int.tmod (band .i64 (shr .i64 x1 7) 7) 7), .int .i64 0, .int .i64 0, .slice none 0 0, .int .i64 0, .int .i64 0, .slice none 0 0, .slice none 0 0, .int .i64 0, .int .i64 0, .int .i64 0, .int .i64 0, .int .i64 0, .slice none 0 0, .slice none 0 0, .slice none 0 0] : List Value).toArray 29 (0, 0)), Mem.one g_4 (.cells ([.int .i64 (w64 ((band .i64 x0 7) + 1)), .int .i64 (Int.tmod (band .i64 (shr .i64 x0 3) 7) 7), .int .i64 (Int.tmod (band .i64 (shr .i64 x0 6) 7) 7), .int .i64 (band .i64 (shr .i64 x0 9) 1023), .int .i64 0, .int .i64 (band .i64 (shr .i64 x1 10) 63), .bool false, .int .i64 (band .i64 x1 127), .int .i64 (Int.tmod (band .i64 (shr .i64 x1 7) 7) 7), .int .i64 0, .int .i64 0, .slice none 0 0, .int .i64 0, .int .i64 0, .slice none 0 0, .slice none 0 0, .int .i64 0, .int .i64 0, .int .i64 0, .int .i64 0, .int .i64 0, .slice none 0 0, .slice none 0 0, .slice none 0 0] : List Value).toArray 29 (0, 0)), Mem.no] Z := hS
      have hS' := hS.room
      replace hS : Sep w0 w_19 [Mem.no, Mem.one g_2 (.cells ([.int .i64 (w64 ((band .i64 x0 7) + 1)), .int .i64 (Int.tmod (band .i64 (shr .i64 x0 3) 7) 7), .int .i64 (Int.tmod (band .i64 (shr .i64 x0 6) 7) 7), .int .i64 (band .i64 (shr .i64 x0 9) 1023), .int .i64 0, .int .i64 (band .i64 (shr .i64 x1 10) 63), .bool false, .int .i64 (band .i64 x1 127), .int .i64 (Int.tmod (band .i64 (shr .i64 x1 7) 7) 7), .int .i64 0, .int .i64 0, .slice none 0 0, .int .i64 0, .int .i64 0, .slice none 0 0, .slice none 0 0, .int .i64 0, .int .i64 0, .int .i64 0, .int .i64 0, .int .i64 0, .slice none 0 0, .slice none 0 0, .slice none 0 0] : List Value).toArray 29 (0, 0)), Mem.one g_4 (.cells ([.int .i64 (w64 ((band .i64 x0 7) + 1)), .int .i64 (Int.tmod (band .i64 (shr .i64 x0 3) 7) 7), .int .i64 (Int.tmod (band .i64 (shr .i64 x0 6) 7) 7), .int .i64 (band .i64 (shr .i64 x0 9) 1023), .int .i64 0, .int .i64 (band .i64 (shr .i64 x1 10) 63), .bool false, .int .i64 (band .i64 x1 127), .int .i64 (Int.tmod (band .i64 (shr .i64 x1 7) 7) 7), .int .i64 0, .int .i64 0, .slice none 0 0, .int .i64 0, .int .i64 0, .slice none 0 0, .slice none 0 0, .int .i64 0, .int .i64 0, .int .i64 0, .int .i64 0, .int .i64 0, .slice none 0 0, .slice none 0 0, .slice none 0 0] : List Value).toArray 29 (0, 0)), Mem.no, Mem.no] Z := hS'
      clear hS'
      replace hS : Sep w0 w_19 [Mem.no, Mem.one g_2 (.cells ([.int .i64 (w64 ((band .i64 x0 7) + 1)), .int .i64 (Int.tmod (band .i64 (shr .i64 x0 3) 7) 7), .int .i64 (Int.tmod (band .i64 (shr .i64 x0 6) 7) 7), .int .i64 (band .i64 (shr .i64 x0 9) 1023), .int .i64 0, .int .i64 (band .i64 (shr .i64 x1 10) 63), .bool false, .int .i64 (band .i64 x1 127), .int .i64 (Int.tmod (band .i64 (shr .i64 x1 7) 7) 7), .int .i64 0, .int .i64 0, .slice none 0 0, .int .i64 0, .int .i64 0, .slice none 0 0, .slice none 0 0, .int .i64 0, .int .i64 0, .int .i64 0, .int .i64 0, .int .i64 0, .slice none 0 0, .slice none 0 0, .slice none 0 0] : List Value).toArray 29 (0, 0)), Mem.one g_4 (.cells ([.int .i64 (w64 ((band .i64 x0 7) + 1)), .int .i64 (Int.tmod (band .i64 (shr .i64 x0 3) 7) 7), .int .i64 (Int.tmod (band .i64 (shr .i64 x0 6) 7) 7), .int .i64 (band .i64 (shr .i64 x0 9) 1023), .int .i64 0, .int .i64 (band .i64 (shr .i64 x1 10) 63), .bool false, .int .i64 (band .i64 x1 127), .int .i64 (Int.tmod (band .i64 (shr .i64 x1 7) 7) 7), .int .i64 0, .int .i64 0, .slice none 0 0, .int .i64 0, .int .i64 0, .slice none 0 0, .slice none 0 0, .int .i64 0, .int .i64 0, .int .i64 0, .int .i64 0, .int .i64 0, .slice none 0 0, .slice none 0 0, .slice none 0 0] : List Value).toArray 29 (0, 0)), Mem.no, Mem.no] Z := hS
      have hS' := hS.room
      replace hS : Sep w0 w_19 [Mem.no, Mem.one g_2 (.cells ([.int .i64 (w64 ((band .i64 x0 7) + 1)), .int .i64 (Int.tmod (band .i64 (shr .i64 x0 3) 7) 7), .int .i64 (Int.tmod (band .i64 (shr .i64 x0 6) 7) 7), .int .i64 (band .i64 (shr .i64 x0 9) 1023), .int .i64 0, .int .i64 (band .i64 (shr .i64 x1 10) 63), .bool false, .int .i64 (band .i64 x1 127), .int .i64 (Int.tmod (band .i64 (shr .i64 x1 7) 7) 7), .int .i64 0, .int .i64 0, .slice none 0 0, .int .i64 0, .int .i64 0, .slice none 0 0, .slice none 0 0, .int .i64 0, .int .i64 0, .int .i64 0, .int .i64 0, .int .i64 0, .slice none 0 0, .slice none 0 0, .slice none 0 0] : List Value).toArray 29 (0, 0)), Mem.one g_4 (.cells ([.int .i64 (w64 ((band .i64 x0 7) + 1)), .int .i64 (Int.tmod (band .i64 (shr .i64 x0 3) 7) 7), .int .i64 (Int.tmod (band .i64 (shr .i64 x0 6) 7) 7), .int .i64 (band .i64 (shr .i64 x0 9) 1023), .int .i64 0, .int .i64 (band .i64 (shr .i64 x1 10) 63), .bool false, .int .i64 (band .i64 x1 127), .int .i64 (Int.tmod (band .i64 (shr .i64 x1 7) 7) 7), .int .i64 0, .int .i64 0, .slice none 0 0, .int .i64 0, .int .i64 0, .slice none 0 0, .slice none 0 0, .int .i64 0, .int .i64 0, .int .i64 0, .int .i64 0, .int .i64 0, .slice none 0 0, .slice none 0 0, .slice none 0 0] : List Value).toArray 29 (0, 0)), Mem.no, Mem.no, Mem.no] Z := hS'
      clear hS'
      replace hS : Sep w0 w_19 [Mem.no, Mem.one g_2 (.cells ([.int .i64 (w64 ((band .i64 x0 7) + 1)), .int .i64 (Int.tmod (band .i64 (shr .i64 x0 3) 7) 7), .int .i64 (Int.tmod (band .i64 (shr .i64 x0 6) 7) 7), .int .i64 (band .i64 (shr .i64 x0 9) 1023), .int .i64 0, .int .i64 (band .i64 (shr .i64 x1 10) 63), .bool false, .int .i64 (band .i64 x1 127), .int .i64 (Int.tmod (band .i64 (shr .i64 x1 7) 7) 7), .int .i64 0, .int .i64 0, .slice none 0 0, .int .i64 0, .int .i64 0, .slice none 0 0, .slice none 0 0, .int .i64 0, .int .i64 0, .int .i64 0, .int .i64 0, .int .i64 0, .slice none 0 0, .slice none 0 0, .slice none 0 0] : List Value).toArray 29 (0, 0)), Mem.one g_4 (.cells ([.int .i64 (w64 ((band .i64 x0 7) + 1)), .int .i64 (Int.tmod (band .i64 (shr .i64 x0 3) 7) 7), .int .i64 (Int.tmod (band .i64 (shr .i64 x0 6) 7) 7), .int .i64 (band .i64 (shr .i64 x0 9) 1023), .int .i64 0, .int .i64 (band .i64 (shr .i64 x1 10) 63), .bool false, .int .i64 (band .i64 x1 127), .int .i64 (Int.tmod (band .i64 (shr .i64 x1 7) 7) 7), .int .i64 0, .int .i64 0, .slice none 0 0, .int .i64 0, .int .i64 0, .slice none 0 0, .slice none 0 0, .int .i64 0, .int .i64 0, .int .i64 0, .int .i64 0, .int .i64 0, .slice none 0 0, .slice none 0 0, .slice none 0 0] : List Value).toArray 29 (0, 0)), Mem.no, Mem.no, Mem.no] Z := hS
      obtain rfl := Option.some.inj H
      exact f_ret hm (rs := [.cell 4 29]) rfl (.cell rfl (hS.load_agg (p := 1) (us := [.int .i64 (w64 ((band .i64 x0 7) + 1)), .int .i64 (Int.tmod (band .i64 (shr .i64 x0 3) 7) 7), .int .i64 (Int.tmod (band .i64 (shr .i64 x0 6) 7) 7), .int .i64 (band .i64 (shr .i64 x0 9) 1023), .int .i64 0, .int .i64 (band .i64 (shr .i64 x1 10) 63), .bool false, .int .i64 (band .i64 x1 127), .int .i64 (Int.tmod (band .i64 (shr .i64 x1 7) 7) 7), .int .i64 0, .int .i64 0, .slice none 0 0, .int .i64 0, .int .i64 0, .slice none 0 0, .slice none 0 0, .int .i64 0, .int .i64 0, .int .i64 0, .int .i64 0, .int .i64 0, .slice none 0 0, .slice none 0 0, .slice none 0 0]) rfl Try.underlying29 rfl ti29 rfl rfl) .nil) ⟨_, rfl, .slice none 0 0, .slice none 0 0, .slice none 0 0, .slice none 0 0, .slice none 0 0, .slice none 0 0, Mem.no, Mem.no, Mem.no, Mem.no, rfl, (Sep.sel hS [0, 3, 4, 5] (by decide)), (Own.nil Kd.u8 5 Mem.no), (Own.nil (Kd.int .i64) 3 Mem.no), (Own.nil (Kd.int .i64) 3 Mem.no), (Rd.nil _ _), (Rd.nil _ _), (Rd.nil _ _)⟩
    · rw [if_neg hc_15] at H
      refine c_cond_f hm rfl (beq_eq_false_iff_ne.2 hc_15) ?_
      refine wp_seq ?_
      refine wp_region_lit ?_
      refine s_cmp (b := ((w64 ((band .i64 x0 7) + 1)) == 4)) hm rfl rfl rfl (.inl ⟨rfl, rfl⟩) ?_
      clear hm a; intro a hm
      refine s_assign hm rfl rfl ?_
      clear hm a; intro a hm
      refine wpList_nil ?_
      replace hm : Fr 150 a [(0, .int .i64 x0), (1, .int .i64 x1), (4, .pointer (some ⟨g_2, 0, none⟩)), (5, .pointer (some ⟨g_4, 0, none⟩)), (25, .int .i64 (w64 ((band .i64 x0 7) + 1))), (54, .bool ((w64 ((band .i64 x0 7) + 1)) == 4))] := hm.keep [0, 1, 4, 5, 25, 54]
      refine x_then_n ?_
      by_cases hc_23 : (w64 ((band .i64 x0 7) + 1)) = 4
      · rw [if_pos hc_23] at H
        refine c_cond_t hm rfl (beq_iff_eq.2 hc_23) ?_
        refine wp_region_lit ?_
        refine s_move hm rfl rfl ?_
        clear hm a; intro a hm
        refine s_bits (i := x1) (j := 4095) (r := band .i64 x1 4095) hm rfl rfl rfl (.inl ⟨rfl, rfl⟩) ?_
        clear hm a; intro a hm
        refine s_fieldAddr hm rfl Try.underlying29 rfl ti3 rfl rfl ?_
        clear hm a; intro a hm
        obtain ⟨w_24, hs', hS'⟩ := hS.store (P := Try.prog) (p := 2) (o := 9) (t := 3) (v := .int .i64 (band .i64 x1 4095)) (vs := [.int .i64 (band .i64 x1 4095)]) rfl ti3 rfl rfl rfl (by intro u hu; simp only [List.mem_cons, List.not_mem_nil, or_false] at hu; rcases hu with rfl <;> rfl)
        refine s_store hm rfl rfl hs' ?_
        replace hS : Sep w0 w_24 [Mem.no, Mem.one g_2 (.cells ([.int .i64 0, .int .i64 0, .int .i64 0, .int .i64 0, .int .i64 0, .int .i64 0, .bool false, .int .i64 0, .int .i64 0, .int .i64 0, .int .i64 0, .slice none 0 0, .int .i64 0, .int .i64 0, .slice none 0 0, .slice none 0 0, .int .i64 0, .int .i64 0, .int .i64 0, .int .i64 0, .int .i64 0, .slice none 0 0, .slice none 0 0, .slice none 0 0] : List Value).toArray 29 (0, 0)), Mem.one g_4 (.cells ([.int .i64 (w64 ((band .i64 x0 7) + 1)), .int .i64 (Int.tmod (band .i64 (shr .i64 x0 3) 7) 7), .int .i64 (Int.tmod (band .i64 (shr .i64 x0 6) 7) 7), .int .i64 (band .i64 (shr .i64 x0 9) 1023), .int .i64 0, .int .i64 0, .bool false, .int .i64 0, .int .i64 0, .int .i64 (band .i64 x1 4095), .int .i64 0, .slice none 0 0, .int .i64 0, .int .i64 0, .slice none 0 0, .slice none 0 0, .int .i64 0, .int .i64 0, .int .i64 0, .int .i64 0, .int .i64 0, .slice none 0 0, .slice none 0 0, .slice none 0 0] : List Value).toArray 29 (0, 0))] Z := hS'
        clear hs' hS'
        refine wpList_nil ?_
        replace hm : Fr 150 a [(4, .pointer (some ⟨g_2, 0, none⟩)), (5, .pointer (some ⟨g_4, 0, none⟩))] := hm.keep [4, 5]
        refine x_block_n ?_
        refine x_then_n (hKJ_6 _ _ ?_)
        refine wp_seq ?_
        refine wp_region_lit ?_
        refine s_load hm rfl rfl (hS.load_agg (p := 2) (us := [.int .i64 (w64 ((band .i64 x0 7) + 1)), .int .i64 (Int.tmod (band .i64 (shr .i64 x0 3) 7) 7), .int .i64 (Int.tmod (band .i64 (shr .i64 x0 6) 7) 7), .int .i64 (band .i64 (shr .i64 x0 9) 1023), .int .i64 0, .int .i64 0, .bool false, .int .i64 0, .int .i64 0, .int .i64 (band .i64 x1 4095), .int .i64 0, .slice none 0 0, .int .i64 0, .int .i64 0, .slice none 0 0, .slice none 0 0, .int .i64 0, .int .i64 0, .int .i64 0, .int .i64 0, .int .i64 0, .slice none 0 0, .slice none 0 0, .slice none 0 0]) rfl Try.underlying29 rfl ti29 rfl rfl) ?_
        clear hm a; intro a hm
        obtain ⟨w_25, hs', hS'⟩ := hS.store (P := Try.prog) (p := 1) (o := 0) (t := 29) (v := .agg ([.int .i64 (w64 ((band .i64 x0 7) + 1)), .int .i64 (Int.tmod (band .i64 (shr .i64 x0 3) 7) 7), .int .i64 (Int.tmod (band .i64 (shr .i64 x0 6) 7) 7), .int .i64 (band .i64 (shr .i64 x0 9) 1023), .int .i64 0, .int .i64 0, .bool false, .int .i64 0, .int .i64 0, .int .i64 (band .i64 x1 4095), .int .i64 0, .slice none 0 0, .int .i64 0, .int .i64 0, .slice none 0 0, .slice none 0 0, .int .i64 0, .int .i64 0, .int .i64 0, .int .i64 0, .int .i64 0, .slice none 0 0, .slice none 0 0, .slice none 0 0] : List Value).toArray) (vs := [.int .i64 (w64 ((band .i64 x0 7) + 1)), .int .i64 (Int.tmod (band .i64 (shr .i64 x0 3) 7) 7), .int .i64 (Int.tmod (band .i64 (shr .i64 x0 6) 7) 7), .int .i64 (band .i64 (shr .i64 x0 9) 1023), .int .i64 0, .int .i64 0, .bool false, .int .i64 0, .int .i64 0, .int .i64 (band .i64 x1 4095), .int .i64 0, .slice none 0 0, .int .i64 0, .int .i64 0, .slice none 0 0, .slice none 0 0, .int .i64 0, .int .i64 0, .int .i64 0, .int .i64 0, .int .i64 0, .slice none 0 0, .slice none 0 0, .slice none 0 0]) rfl ti29 rfl rfl rfl (by intro u hu; simp only [List.mem_cons, List.not_mem_nil, or_false] at hu; rcases hu with rfl | rfl | rfl | rfl | rfl | rfl | rfl | rfl | rfl | rfl | rfl | rfl | rfl | rfl | rfl | rfl | rfl | rfl | rfl | rfl | rfl | rfl | rfl | rfl <;> rfl)
        refine s_store hm rfl rfl hs' ?_
        replace hS : Sep w0 w_25 [Mem.no, Mem.one g_2 (.cells ([.int .i64 (w64 ((band .i64 x0 7) + 1)), .int .i64 (Int.tmod (band .i64 (shr .i64 x0 3) 7) 7), .int .i64 (Int.tmod (band .i64 (shr .i64 x0 6) 7) 7), .int .i64 (band .i64 (shr .i64 x0 9) 1023), .int .i64 0, .int .i64 0, .bool false, .int .i64 0, .int .i64 0, .int .i64 (band .i64 x1 4095), .int .i64 0, .slice none 0 0, .int .i64 0, .int .i64 0, .slice none 0 0, .slice none 0 0, .int .i64 0, .int .i64 0, .int .i64 0, .int .i64 0, .int .i64 0, .slice none 0 0, .slice none 0 0, .slice none 0 0] : List Value).toArray 29 (0, 0)), Mem.one g_4 (.cells ([.int .i64 (w64 ((band .i64 x0 7) + 1)), .int .i64 (Int.tmod (band .i64 (shr .i64 x0 3) 7) 7), .int .i64 (Int.tmod (band .i64 (shr .i64 x0 6) 7) 7), .int .i64 (band .i64 (shr .i64 x0 9) 1023), .int .i64 0, .int .i64 0, .bool false, .int .i64 0, .int .i64 0, .int .i64 (band .i64 x1 4095), .int .i64 0, .slice none 0 0, .int .i64 0, .int .i64 0, .slice none 0 0, .slice none 0 0, .int .i64 0, .int .i64 0, .int .i64 0, .int .i64 0, .int .i64 0, .slice none 0 0, .slice none 0 0, .slice none 0 0] : List Value).toArray 29 (0, 0))] Z := hS'
        clear hs' hS'
        refine wpList_nil ?_
        replace hm : Fr 150 a [(4, .pointer (some ⟨g_2, 0, none⟩))] := hm.keep [4]
        refine x_then_n ?_
        refine wp_ret ?_
        have hS' := hS.room
        replace hS : Sep w0 w_25 [Mem.no, Mem.one g_2 (.cells ([.int .i64 (w64 ((band .i64 x0 7) + 1)), .int .i64 (Int.tmod (band .i64 (shr .i64 x0 3) 7) 7), .int .i64 (Int.tmod (band .i64 (shr .i64 x0 6) 7) 7), .int .i64 (band .i64 (shr .i64 x0 9) 1023), .int .i64 0, .int .i64 0, .bool false, .int .i64 0, .int .i64 0, .int .i64 (band .i64 x1 4095), .int .i64 0, .slice none 0 0, .int .i64 0, .int .i64 0, .slice none 0 0, .slice none 0 0, .int .i64 0, .int .i64 0, .int .i64 0, .int .i64 0, .int .i64 0, .slice none 0 0, .slice none 0 0, .slice none 0 0] : List Value).toArray 29 (0, 0)), Mem.one g_4 (.cells ([.int .i64 (w64 ((band .i64 x0 7) + 1)), .int .i64 (Int.tmod (band .i64 (shr .i64 x0 3) 7) 7), .int .i64 (Int.tmod (band .i64 (shr .i64 x0 6) 7) 7), .int .i64 (band .i64 (shr .i64 x0 9) 1023), .int .i64 0, .int .i64 0, .bool false, .int .i64 0, .int .i64 0, .int .i64 (band .i64 x1 4095), .int .i64 0, .slice none 0 0, .int .i64 0, .int .i64 0, .slice none 0 0, .slice none 0 0, .int .i64 0, .int .i64 0, .int .i64 0, .int .i64 0, .int .i64 0, .slice none 0 0, .slice none 0 0, .slice none 0 0] : List Value).toArray 29 (0, 0)), Mem.no] Z := hS'
        clear hS'
        replace hS : Sep w0 w_25 [Mem.no, Mem.one g_2 (.cells ([.int .i64 (w64 ((band .i64 x0 7) + 1)), .int .i64 (Int.tmod (band .i64 (shr .i64 x0 3) 7) 7), .int .i64 (Int.tmod (band .i64 (shr .i64 x0 6) 7) 7), .int .i64 (band .i64 (shr .i64 x0 9) 1023), .int .i64 0, .int .i64 0, .bool false, .int .i64 0, .int .i64 0, .int .i64 (band .i64 x1 4095), .int .i64 0, .slice none 0 0, .int .i64 0, .int .i64 0, .slice none 0 0, .slice none 0 0, .int .i64 0, .int .i64 0, .int .i64 0, .int .i64 0, .int .i64 0, .slice none 0 0, .slice none 0 0, .slice none 0 0] : List Value).toArray 29 (0, 0)), Mem.one g_4 (.cells ([.int .i64 (w64 ((band .i64 x0 7) + 1)), .int .i64 (Int.tmod (band .i64 (shr .i64 x0 3) 7) 7), .int .i64 (Int.tmod (band .i64 (shr .i64 x0 6) 7) 7), .int .i64 (band .i64 (shr .i64 x0 9) 1023), .int .i64 0, .int .i64 0, .bool false, .int .i64 0, .int .i64 0, .int .i64 (band .i64 x1 4095), .int .i64 0, .slice none 0 0, .int .i64 0, .int .i64 0, .slice none 0 0, .slice none 0 0, .int .i64 0, .int .i64 0, .int .i64 0, .int .i64 0, .int .i64 0, .slice none 0 0, .slice none 0 0, .slice none 0 0] : List Value).toArray 29 (0, 0)), Mem.no] Z := hS
        have hS' := hS.room
        replace hS : Sep w0 w_25 [Mem.no, Mem.one g_2 (.cells ([.int .i64 (w64 ((band .i64 x0 7) + 1)), .int .i64 (Int.tmod (band .i64 (shr .i64 x0 3) 7) 7), .int .i64 (Int.tmod (band .i64 (shr .i64 x0 6) 7) 7), .int .i64 (band .i64 (shr .i64 x0 9) 1023), .int .i64 0, .int .i64 0, .bool false, .int .i64 0, .int .i64 0, .int .i64 (band .i64 x1 4095), .int .i64 0, .slice none 0 0, .int .i64 0, .int .i64 0, .slice none 0 0, .slice none 0 0, .int .i64 0, .int .i64 0, .int .i64 0, .int .i64 0, .int .i64 0, .slice none 0 0, .slice none 0 0, .slice none 0 0] : List Value).toArray 29 (0, 0)), Mem.one g_4 (.cells ([.int .i64 (w64 ((band .i64 x0 7) + 1)), .int .i64 (Int.tmod (band .i64 (shr .i64 x0 3) 7) 7), .int .i64 (Int.tmod (band .i64 (shr .i64 x0 6) 7) 7), .int .i64 (band .i64 (shr .i64 x0 9) 1023), .int .i64 0, .int .i64 0, .bool false, .int .i64 0, .int .i64 0, .int .i64 (band .i64 x1 4095), .int .i64 0, .slice none 0 0, .int .i64 0, .int .i64 0, .slice none 0 0, .slice none 0 0, .int .i64 0, .int .i64 0, .int .i64 0, .int .i64 0, .int .i64 0, .slice none 0 0, .slice none 0 0, .slice none 0 0] : List Value).toArray 29 (0, 0)), Mem.no, Mem.no] Z := hS'
        clear hS'
        replace hS : Sep w0 w_25 [Mem.no, Mem.one g_2 (.cells ([.int .i64 (w64 ((band .i64 x0 7) + 1)), .int .i64 (Int.tmod (band .i64 (shr .i64 x0 3) 7) 7), .int .i64 (Int.tmod (band .i64 (shr .i64 x0 6) 7) 7), .int .i64 (band .i64 (shr .i64 x0 9) 1023), .int .i64 0, .int .i64 0, .bool false, .int .i64 0, .int .i64 0, .int .i64 (band .i64 x1 4095), .int .i64 0, .slice none 0 0, .int .i64 0, .int .i64 0, .slice none 0 0, .slice none 0 0, .int .i64 0, .int .i64 0, .int .i64 0, .int .i64 0, .int .i64 0, .slice none 0 0, .slice none 0 0, .slice none 0 0] : List Value).toArray 29 (0, 0)), Mem.one g_4 (.cells ([.int .i64 (w64 ((band .i64 x0 7) + 1)), .int .i64 (Int.tmod (band .i64 (shr .i64 x0 3) 7) 7), .int .i64 (Int.tmod (band .i64 (shr .i64 x0 6) 7) 7), .int .i64 (band .i64 (shr .i64 x0 9) 1023), .int .i64 0, .int .i64 0, .bool false, .int .i64 0, .int .i64 0, .int .i64 (band .i64 x1 4095), .int .i64 0, .slice none 0 0, .int .i64 0, .int .i64 0, .slice none 0 0, .slice none 0 0, .int .i64 0, .int .i64 0, .int .i64 0, .int .i64 0, .int .i64 0, .slice none 0 0, .slice none 0 0, .slice none 0 0] : List Value).toArray 29 (0, 0)), Mem.no, Mem.no] Z := hS
        have hS' := hS.room
        replace hS : Sep w0 w_25 [Mem.no, Mem.one g_2 (.cells ([.int .i64 (w64 ((band .i64 x0 7) + 1)), .int .i64 (Int.tmod (band .i64 (shr .i64 x0 3) 7) 7), .int .i64 (Int.tmod (band .i64 (shr .i64 x0 6) 7) 7), .int .i64 (band .i64 (shr .i64 x0 9) 1023), .int .i64 0, .int .i64 0, .bool false, .int .i64 0, .int .i64 0, .int .i64 (band .i64 x1 4095), .int .i64 0, .slice none 0 0, .int .i64 0, .int .i64 0, .slice none 0 0, .slice none 0 0, .int .i64 0, .int .i64 0, .int .i64 0, .int .i64 0, .int .i64 0, .slice none 0 0, .slice none 0 0, .slice none 0 0] : List Value).toArray 29 (0, 0)), Mem.one g_4 (.cells ([.int .i64 (w64 ((band .i64 x0 7) + 1)), .int .i64 (Int.tmod (band .i64 (shr .i64 x0 3) 7) 7), .int .i64 (Int.tmod (band .i64 (shr .i64 x0 6) 7) 7), .int .i64 (band .i64 (shr .i64 x0 9) 1023), .int .i64 0, .int .i64 0, .bool false, .int .i64 0, .int .i64 0, .int .i64 (band .i64 x1 4095), .int .i64 0, .slice none 0 0, .int .i64 0, .int .i64 0, .slice none 0 0, .slice none 0 0, .int .i64 0, .int .i64 0, .int .i64 0, .int .i64 0, .int .i64 0, .slice none 0 0, .slice none 0 0, .slice none 0 0] : List Value).toArray 29 (0, 0)), Mem.no, Mem.no, Mem.no] Z := hS'
        clear hS'
        replace hS : Sep w0 w_25 [Mem.no, Mem.one g_2 (.cells ([.int .i64 (w64 ((band .i64 x0 7) + 1)), .int .i64 (Int.tmod (band .i64 (shr .i64 x0 3) 7) 7), .int .i64 (Int.tmod (band .i64 (shr .i64 x0 6) 7) 7), .int .i64 (band .i64 (shr .i64 x0 9) 1023), .int .i64 0, .int .i64 0, .bool false, .int .i64 0, .int .i64 0, .int .i64 (band .i64 x1 4095), .int .i64 0, .slice none 0 0, .int .i64 0, .int .i64 0, .slice none 0 0, .slice none 0 0, .int .i64 0, .int .i64 0, .int .i64 0, .int .i64 0, .int .i64 0, .slice none 0 0, .slice none 0 0, .slice none 0 0] : List Value).toArray 29 (0, 0)), Mem.one g_4 (.cells ([.int .i64 (w64 ((band .i64 x0 7) + 1)), .int .i64 (Int.tmod (band .i64 (shr .i64 x0 3) 7) 7), .int .i64 (Int.tmod (band .i64 (shr .i64 x0 6) 7) 7), .int .i64 (band .i64 (shr .i64 x0 9) 1023), .int .i64 0, .int .i64 0, .bool false, .int .i64 0, .int .i64 0, .int .i64 (band .i64 x1 4095), .int .i64 0, .slice none 0 0, .int .i64 0, .int .i64 0, .slice none 0 0, .slice none 0 0, .int .i64 0, .int .i64 0, .int .i64 0, .int .i64 0, .int .i64 0, .slice none 0 0, .slice none 0 0, .slice none 0 0] : List Value).toArray 29 (0, 0)), Mem.no, Mem.no, Mem.no] Z := hS
        obtain rfl := Option.some.inj H
        exact f_ret hm (rs := [.cell 4 29]) rfl (.cell rfl (hS.load_agg (p := 1) (us := [.int .i64 (w64 ((band .i64 x0 7) + 1)), .int .i64 (Int.tmod (band .i64 (shr .i64 x0 3) 7) 7), .int .i64 (Int.tmod (band .i64 (shr .i64 x0 6) 7) 7), .int .i64 (band .i64 (shr .i64 x0 9) 1023), .int .i64 0, .int .i64 0, .bool false, .int .i64 0, .int .i64 0, .int .i64 (band .i64 x1 4095), .int .i64 0, .slice none 0 0, .int .i64 0, .int .i64 0, .slice none 0 0, .slice none 0 0, .int .i64 0, .int .i64 0, .int .i64 0, .int .i64 0, .int .i64 0, .slice none 0 0, .slice none 0 0, .slice none 0 0]) rfl Try.underlying29 rfl ti29 rfl rfl) .nil) ⟨_, rfl, .slice none 0 0, .slice none 0 0, .slice none 0 0, .slice none 0 0, .slice none 0 0, .slice none 0 0, Mem.no, Mem.no, Mem.no, Mem.no, rfl, (Sep.sel hS [0, 3, 4, 5] (by decide)), (Own.nil Kd.u8 5 Mem.no), (Own.nil (Kd.int .i64) 3 Mem.no), (Own.nil (Kd.int .i64) 3 Mem.no), (Rd.nil _ _), (Rd.nil _ _), (Rd.nil _ _)⟩
      · rw [if_neg hc_23] at H
        refine c_cond_f hm rfl (beq_eq_false_iff_ne.2 hc_23) ?_
        refine wp_seq ?_
        refine wp_region_lit ?_
        refine s_cmp (b := ((w64 ((band .i64 x0 7) + 1)) == 5)) hm rfl rfl rfl (.inl ⟨rfl, rfl⟩) ?_
        clear hm a; intro a hm
        refine s_assign hm rfl rfl ?_
        clear hm a; intro a hm
        refine wpList_nil ?_
        replace hm : Fr 150 a [(0, .int .i64 x0), (1, .int .i64 x1), (4, .pointer (some ⟨g_2, 0, none⟩)), (5, .pointer (some ⟨g_4, 0, none⟩)), (25, .int .i64 (w64 ((band .i64 x0 7) + 1))), (59, .bool ((w64 ((band .i64 x0 7) + 1)) == 5))] := hm.keep [0, 1, 4, 5, 25, 59]
        refine x_then_n ?_
        by_cases hc_29 : (w64 ((band .i64 x0 7) + 1)) = 5
        · rw [if_pos hc_29] at H
          refine c_cond_t hm rfl (beq_iff_eq.2 hc_29) ?_
          refine wp_seq ?_
          refine wp_region_lit ?_
          refine s_move hm rfl rfl ?_
          clear hm a; intro a hm
          refine s_bits (i := x1) (j := 4095) (r := band .i64 x1 4095) hm rfl rfl rfl (.inl ⟨rfl, rfl⟩) ?_
          clear hm a; intro a hm
          refine s_move hm rfl rfl ?_
          clear hm a; intro a hm
          refine s_shift (r := shr .i64 x1 12) hm rfl rfl rfl (by decide) (.inr ⟨rfl, rfl⟩) ?_
          clear hm a; intro a hm
          refine s_bits (i := shr .i64 x1 12) (j := 4095) (r := band .i64 (shr .i64 x1 12) 4095) hm rfl rfl rfl (.inl ⟨rfl, rfl⟩) ?_
          clear hm a; intro a hm
          refine s_fieldAddr hm rfl Try.underlying29 rfl ti3 rfl rfl ?_
          clear hm a; intro a hm
          obtain ⟨w_30, hs', hS'⟩ := hS.store (P := Try.prog) (p := 2) (o := 9) (t := 3) (v := .int .i64 (band .i64 x1 4095)) (vs := [.int .i64 (band .i64 x1 4095)]) rfl ti3 rfl rfl rfl (by intro u hu; simp only [List.mem_cons, List.not_mem_nil, or_false] at hu; rcases hu with rfl <;> rfl)
          refine s_store hm rfl rfl hs' ?_
          replace hS : Sep w0 w_30 [Mem.no, Mem.one g_2 (.cells ([.int .i64 0, .int .i64 0, .int .i64 0, .int .i64 0, .int .i64 0, .int .i64 0, .bool false, .int .i64 0, .int .i64 0, .int .i64 0, .int .i64 0, .slice none 0 0, .int .i64 0, .int .i64 0, .slice none 0 0, .slice none 0 0, .int .i64 0, .int .i64 0, .int .i64 0, .int .i64 0, .int .i64 0, .slice none 0 0, .slice none 0 0, .slice none 0 0] : List Value).toArray 29 (0, 0)), Mem.one g_4 (.cells ([.int .i64 (w64 ((band .i64 x0 7) + 1)), .int .i64 (Int.tmod (band .i64 (shr .i64 x0 3) 7) 7), .int .i64 (Int.tmod (band .i64 (shr .i64 x0 6) 7) 7), .int .i64 (band .i64 (shr .i64 x0 9) 1023), .int .i64 0, .int .i64 0, .bool false, .int .i64 0, .int .i64 0, .int .i64 (band .i64 x1 4095), .int .i64 0, .slice none 0 0, .int .i64 0, .int .i64 0, .slice none 0 0, .slice none 0 0, .int .i64 0, .int .i64 0, .int .i64 0, .int .i64 0, .int .i64 0, .slice none 0 0, .slice none 0 0, .slice none 0 0] : List Value).toArray 29 (0, 0))] Z := hS'
          clear hs' hS'
          refine s_fieldAddr hm rfl Try.underlying29 rfl ti3 rfl rfl ?_
          clear hm a; intro a hm
          obtain ⟨w_31, hs', hS'⟩ := hS.store (P := Try.prog) (p := 2) (o := 10) (t := 3) (v := .int .i64 (band .i64 (shr .i64 x1 12) 4095)) (vs := [.int .i64 (band .i64 (shr .i64 x1 12) 4095)]) rfl ti3 rfl rfl rfl (by intro u hu; simp only [List.mem_cons, List.not_mem_nil, or_false] at hu; rcases hu with rfl <;> rfl)
          refine s_store hm rfl rfl hs' ?_
          replace hS : Sep w0 w_31 [Mem.no, Mem.one g_2 (.cells ([.int .i64 0, .int .i64 0, .int .i64 0, .int .i64 0, .int .i64 0, .int .i64 0, .bool false, .int .i64 0, .int .i64 0, .int .i64 0, .int .i64 0, .slice none 0 0, .int .i64 0, .int .i64 0, .slice none 0 0, .slice none 0 0, .int .i64 0, .int .i64 0, .int .i64 0, .int .i64 0, .int .i64 0, .slice none 0 0, .slice none 0 0, .slice none 0 0] : List Value).toArray 29 (0, 0)), Mem.one g_4 (.cells ([.int .i64 (w64 ((band .i64 x0 7) + 1)), .int .i64 (Int.tmod (band .i64 (shr .i64 x0 3) 7) 7), .int .i64 (Int.tmod (band .i64 (shr .i64 x0 6) 7) 7), .int .i64 (band .i64 (shr .i64 x0 9) 1023), .int .i64 0, .int .i64 0, .bool false, .int .i64 0, .int .i64 0, .int .i64 (band .i64 x1 4095), .int .i64 (band .i64 (shr .i64 x1 12) 4095), .slice none 0 0, .int .i64 0, .int .i64 0, .slice none 0 0, .slice none 0 0, .int .i64 0, .int .i64 0, .int .i64 0, .int .i64 0, .int .i64 0, .slice none 0 0, .slice none 0 0, .slice none 0 0] : List Value).toArray 29 (0, 0))] Z := hS'
          clear hs' hS'
          refine wpList_nil ?_
          replace hm : Fr 150 a [(1, .int .i64 x1), (4, .pointer (some ⟨g_2, 0, none⟩)), (5, .pointer (some ⟨g_4, 0, none⟩))] := hm.keep [1, 4, 5]
          refine x_then_n ?_
          refine wp_seq ?_
          refine wp_region_lit ?_
          refine s_assign hm rfl rfl ?_
          clear hm a; intro a hm
          refine wpList_nil ?_
          replace hm : Fr 150 a [(1, .int .i64 x1), (4, .pointer (some ⟨g_2, 0, none⟩)), (5, .pointer (some ⟨g_4, 0, none⟩)), (6, .int .i64 0)] := hm.keep [1, 4, 5, 6]
          refine x_then_n ?_
          refine c_last fun KJ_32 hKJ_32 => ?_
          have hJ_j_40 : ∀ (x_34 : List UInt8), hocketlaw11_Msg.J1 K x0 x1 x_34 = some r → ∀ (a : Act) (w_39 : World), (∃ (v_37 : Value) (N_33 : Mem) (M_35 : Mem), Fr 150 a [(4, .pointer (some ⟨g_2, 0, none⟩)), (5, .pointer (some ⟨g_4, 0, none⟩))] ∧ Sep w0 w_39 [N_33, Mem.one g_2 (.cells ([.int .i64 0, .int .i64 0, .int .i64 0, .int .i64 0, .int .i64 0, .int .i64 0, .bool false, .int .i64 0, .int .i64 0, .int .i64 0, .int .i64 0, .slice none 0 0, .int .i64 0, .int .i64 0, .slice none 0 0, .slice none 0 0, .int .i64 0, .int .i64 0, .int .i64 0, .int .i64 0, .int .i64 0, .slice none 0 0, .slice none 0 0, .slice none 0 0] : List Value).toArray 29 (0, 0)), Mem.one g_4 (.cells ([.int .i64 (w64 ((band .i64 x0 7) + 1)), .int .i64 (Int.tmod (band .i64 (shr .i64 x0 3) 7) 7), .int .i64 (Int.tmod (band .i64 (shr .i64 x0 6) 7) 7), .int .i64 (band .i64 (shr .i64 x0 9) 1023), .int .i64 0, .int .i64 0, .bool false, .int .i64 0, .int .i64 0, .int .i64 (band .i64 x1 4095), .int .i64 (band .i64 (shr .i64 x1 12) 4095), v_37, .int .i64 0, .int .i64 0, .slice none 0 0, .slice none 0 0, .int .i64 0, .int .i64 0, .int .i64 0, .int .i64 0, .int .i64 0, .slice none 0 0, .slice none 0 0, .slice none 0 0] : List Value).toArray 29 (0, 0)), M_35] Z ∧ Mem.no.le N_33 ∧ Own Kd.u8 5 M_35 Mem.no v_37 x_34) → KJ_32 a w_39 := by
            clear H hm hS a
            rintro x_34 H a w_39 ⟨v_37, N_33, M_35, hm, hS, le_33, ho_38⟩
            unfold hocketlaw11_Msg.J1 at H
            refine hKJ_32 _ _ ?_
            refine x_block_n ?_
            refine x_then_n (hKJ_6 _ _ ?_)
            refine wp_seq ?_
            refine wp_region_lit ?_
            refine s_load hm rfl rfl (hS.load_agg (p := 2) (us := [.int .i64 (w64 ((band .i64 x0 7) + 1)), .int .i64 (Int.tmod (band .i64 (shr .i64 x0 3) 7) 7), .int .i64 (Int.tmod (band .i64 (shr .i64 x0 6) 7) 7), .int .i64 (band .i64 (shr .i64 x0 9) 1023), .int .i64 0, .int .i64 0, .bool false, .int .i64 0, .int .i64 0, .int .i64 (band .i64 x1 4095), .int .i64 (band .i64 (shr .i64 x1 12) 4095), v_37, .int .i64 0, .int .i64 0, .slice none 0 0, .slice none 0 0, .int .i64 0, .int .i64 0, .int .i64 0, .int .i64 0, .int .i64 0, .slice none 0 0, .slice none 0 0, .slice none 0 0]) rfl Try.underlying29 rfl ti29 rfl rfl) ?_
            clear hm a; intro a hm
            obtain ⟨w_41, hs', hS'⟩ := hS.store (P := Try.prog) (p := 1) (o := 0) (t := 29) (v := .agg ([.int .i64 (w64 ((band .i64 x0 7) + 1)), .int .i64 (Int.tmod (band .i64 (shr .i64 x0 3) 7) 7), .int .i64 (Int.tmod (band .i64 (shr .i64 x0 6) 7) 7), .int .i64 (band .i64 (shr .i64 x0 9) 1023), .int .i64 0, .int .i64 0, .bool false, .int .i64 0, .int .i64 0, .int .i64 (band .i64 x1 4095), .int .i64 (band .i64 (shr .i64 x1 12) 4095), v_37, .int .i64 0, .int .i64 0, .slice none 0 0, .slice none 0 0, .int .i64 0, .int .i64 0, .int .i64 0, .int .i64 0, .int .i64 0, .slice none 0 0, .slice none 0 0, .slice none 0 0] : List Value).toArray) (vs := [.int .i64 (w64 ((band .i64 x0 7) + 1)), .int .i64 (Int.tmod (band .i64 (shr .i64 x0 3) 7) 7), .int .i64 (Int.tmod (band .i64 (shr .i64 x0 6) 7) 7), .int .i64 (band .i64 (shr .i64 x0 9) 1023), .int .i64 0, .int .i64 0, .bool false, .int .i64 0, .int .i64 0, .int .i64 (band .i64 x1 4095), .int .i64 (band .i64 (shr .i64 x1 12) 4095), v_37, .int .i64 0, .int .i64 0, .slice none 0 0, .slice none 0 0, .int .i64 0, .int .i64 0, .int .i64 0, .int .i64 0, .int .i64 0, .slice none 0 0, .slice none 0 0, .slice none 0 0]) rfl ti29 rfl rfl rfl (by intro u hu; simp only [List.mem_cons, List.not_mem_nil, or_false] at hu; rcases hu with rfl | rfl | rfl | rfl | rfl | rfl | rfl | rfl | rfl | rfl | rfl | rfl | rfl | rfl | rfl | rfl | rfl | rfl | rfl | rfl | rfl | rfl | rfl | rfl <;> first | rfl | exact ho_38.one)
            refine s_store hm rfl rfl hs' ?_
            replace hS : Sep w0 w_41 [N_33, Mem.one g_2 (.cells ([.int .i64 (w64 ((band .i64 x0 7) + 1)), .int .i64 (Int.tmod (band .i64 (shr .i64 x0 3) 7) 7), .int .i64 (Int.tmod (band .i64 (shr .i64 x0 6) 7) 7), .int .i64 (band .i64 (shr .i64 x0 9) 1023), .int .i64 0, .int .i64 0, .bool false, .int .i64 0, .int .i64 0, .int .i64 (band .i64 x1 4095), .int .i64 (band .i64 (shr .i64 x1 12) 4095), v_37, .int .i64 0, .int .i64 0, .slice none 0 0, .slice none 0 0, .int .i64 0, .int .i64 0, .int .i64 0, .int .i64 0, .int .i64 0, .slice none 0 0, .slice none 0 0, .slice none 0 0] : List Value).toArray 29 (0, 0)), Mem.one g_4 (.cells ([.int .i64 (w64 ((band .i64 x0 7) + 1)), .int .i64 (Int.tmod (band .i64 (shr .i64 x0 3) 7) 7), .int .i64 (Int.tmod (band .i64 (shr .i64 x0 6) 7) 7), .int .i64 (band .i64 (shr .i64 x0 9) 1023), .int .i64 0, .int .i64 0, .bool false, .int .i64 0, .int .i64 0, .int .i64 (band .i64 x1 4095), .int .i64 (band .i64 (shr .i64 x1 12) 4095), v_37, .int .i64 0, .int .i64 0, .slice none 0 0, .slice none 0 0, .int .i64 0, .int .i64 0, .int .i64 0, .int .i64 0, .int .i64 0, .slice none 0 0, .slice none 0 0, .slice none 0 0] : List Value).toArray 29 (0, 0)), M_35] Z := hS'
            clear hs' hS'
            refine wpList_nil ?_
            replace hm : Fr 150 a [(4, .pointer (some ⟨g_2, 0, none⟩))] := hm.keep [4]
            refine x_then_n ?_
            refine wp_ret ?_
            have hS' := hS.room
            replace hS : Sep w0 w_41 [N_33, Mem.one g_2 (.cells ([.int .i64 (w64 ((band .i64 x0 7) + 1)), .int .i64 (Int.tmod (band .i64 (shr .i64 x0 3) 7) 7), .int .i64 (Int.tmod (band .i64 (shr .i64 x0 6) 7) 7), .int .i64 (band .i64 (shr .i64 x0 9) 1023), .int .i64 0, .int .i64 0, .bool false, .int .i64 0, .int .i64 0, .int .i64 (band .i64 x1 4095), .int .i64 (band .i64 (shr .i64 x1 12) 4095), v_37, .int .i64 0, .int .i64 0, .slice none 0 0, .slice none 0 0, .int .i64 0, .int .i64 0, .int .i64 0, .int .i64 0, .int .i64 0, .slice none 0 0, .slice none 0 0, .slice none 0 0] : List Value).toArray 29 (0, 0)), Mem.one g_4 (.cells ([.int .i64 (w64 ((band .i64 x0 7) + 1)), .int .i64 (Int.tmod (band .i64 (shr .i64 x0 3) 7) 7), .int .i64 (Int.tmod (band .i64 (shr .i64 x0 6) 7) 7), .int .i64 (band .i64 (shr .i64 x0 9) 1023), .int .i64 0, .int .i64 0, .bool false, .int .i64 0, .int .i64 0, .int .i64 (band .i64 x1 4095), .int .i64 (band .i64 (shr .i64 x1 12) 4095), v_37, .int .i64 0, .int .i64 0, .slice none 0 0, .slice none 0 0, .int .i64 0, .int .i64 0, .int .i64 0, .int .i64 0, .int .i64 0, .slice none 0 0, .slice none 0 0, .slice none 0 0] : List Value).toArray 29 (0, 0)), M_35, Mem.no] Z := hS'
            clear hS'
            replace hS : Sep w0 w_41 [N_33, Mem.one g_2 (.cells ([.int .i64 (w64 ((band .i64 x0 7) + 1)), .int .i64 (Int.tmod (band .i64 (shr .i64 x0 3) 7) 7), .int .i64 (Int.tmod (band .i64 (shr .i64 x0 6) 7) 7), .int .i64 (band .i64 (shr .i64 x0 9) 1023), .int .i64 0, .int .i64 0, .bool false, .int .i64 0, .int .i64 0, .int .i64 (band .i64 x1 4095), .int .i64 (band .i64 (shr .i64 x1 12) 4095), v_37, .int .i64 0, .int .i64 0, .slice none 0 0, .slice none 0 0, .int .i64 0, .int .i64 0, .int .i64 0, .int .i64 0, .int .i64 0, .slice none 0 0, .slice none 0 0, .slice none 0 0] : List Value).toArray 29 (0, 0)), Mem.one g_4 (.cells ([.int .i64 (w64 ((band .i64 x0 7) + 1)), .int .i64 (Int.tmod (band .i64 (shr .i64 x0 3) 7) 7), .int .i64 (Int.tmod (band .i64 (shr .i64 x0 6) 7) 7), .int .i64 (band .i64 (shr .i64 x0 9) 1023), .int .i64 0, .int .i64 0, .bool false, .int .i64 0, .int .i64 0, .int .i64 (band .i64 x1 4095), .int .i64 (band .i64 (shr .i64 x1 12) 4095), v_37, .int .i64 0, .int .i64 0, .slice none 0 0, .slice none 0 0, .int .i64 0, .int .i64 0, .int .i64 0, .int .i64 0, .int .i64 0, .slice none 0 0, .slice none 0 0, .slice none 0 0] : List Value).toArray 29 (0, 0)), M_35, Mem.no] Z := hS
            have hS' := hS.room
            replace hS : Sep w0 w_41 [N_33, Mem.one g_2 (.cells ([.int .i64 (w64 ((band .i64 x0 7) + 1)), .int .i64 (Int.tmod (band .i64 (shr .i64 x0 3) 7) 7), .int .i64 (Int.tmod (band .i64 (shr .i64 x0 6) 7) 7), .int .i64 (band .i64 (shr .i64 x0 9) 1023), .int .i64 0, .int .i64 0, .bool false, .int .i64 0, .int .i64 0, .int .i64 (band .i64 x1 4095), .int .i64 (band .i64 (shr .i64 x1 12) 4095), v_37, .int .i64 0, .int .i64 0, .slice none 0 0, .slice none 0 0, .int .i64 0, .int .i64 0, .int .i64 0, .int .i64 0, .int .i64 0, .slice none 0 0, .slice none 0 0, .slice none 0 0] : List Value).toArray 29 (0, 0)), Mem.one g_4 (.cells ([.int .i64 (w64 ((band .i64 x0 7) + 1)), .int .i64 (Int.tmod (band .i64 (shr .i64 x0 3) 7) 7), .int .i64 (Int.tmod (band .i64 (shr .i64 x0 6) 7) 7), .int .i64 (band .i64 (shr .i64 x0 9) 1023), .int .i64 0, .int .i64 0, .bool false, .int .i64 0, .int .i64 0, .int .i64 (band .i64 x1 4095), .int .i64 (band .i64 (shr .i64 x1 12) 4095), v_37, .int .i64 0, .int .i64 0, .slice none 0 0, .slice none 0 0, .int .i64 0, .int .i64 0, .int .i64 0, .int .i64 0, .int .i64 0, .slice none 0 0, .slice none 0 0, .slice none 0 0] : List Value).toArray 29 (0, 0)), M_35, Mem.no, Mem.no] Z := hS'
            clear hS'
            replace hS : Sep w0 w_41 [N_33, Mem.one g_2 (.cells ([.int .i64 (w64 ((band .i64 x0 7) + 1)), .int .i64 (Int.tmod (band .i64 (shr .i64 x0 3) 7) 7), .int .i64 (Int.tmod (band .i64 (shr .i64 x0 6) 7) 7), .int .i64 (band .i64 (shr .i64 x0 9) 1023), .int .i64 0, .int .i64 0, .bool false, .int .i64 0, .int .i64 0, .int .i64 (band .i64 x1 4095), .int .i64 (band .i64 (shr .i64 x1 12) 4095), v_37, .int .i64 0, .int .i64 0, .slice none 0 0, .slice none 0 0, .int .i64 0, .int .i64 0, .int .i64 0, .int .i64 0, .int .i64 0, .slice none 0 0, .slice none 0 0, .slice none 0 0] : List Value).toArray 29 (0, 0)), Mem.one g_4 (.cells ([.int .i64 (w64 ((band .i64 x0 7) + 1)), .int .i64 (Int.tmod (band .i64 (shr .i64 x0 3) 7) 7), .int .i64 (Int.tmod (band .i64 (shr .i64 x0 6) 7) 7), .int .i64 (band .i64 (shr .i64 x0 9) 1023), .int .i64 0, .int .i64 0, .bool false, .int .i64 0, .int .i64 0, .int .i64 (band .i64 x1 4095), .int .i64 (band .i64 (shr .i64 x1 12) 4095), v_37, .int .i64 0, .int .i64 0, .slice none 0 0, .slice none 0 0, .int .i64 0, .int .i64 0, .int .i64 0, .int .i64 0, .int .i64 0, .slice none 0 0, .slice none 0 0, .slice none 0 0] : List Value).toArray 29 (0, 0)), M_35, Mem.no, Mem.no] Z := hS
            obtain rfl := Option.some.inj H
            exact f_ret hm (rs := [.cell 4 29]) rfl (.cell rfl (hS.load_agg (p := 1) (us := [.int .i64 (w64 ((band .i64 x0 7) + 1)), .int .i64 (Int.tmod (band .i64 (shr .i64 x0 3) 7) 7), .int .i64 (Int.tmod (band .i64 (shr .i64 x0 6) 7) 7), .int .i64 (band .i64 (shr .i64 x0 9) 1023), .int .i64 0, .int .i64 0, .bool false, .int .i64 0, .int .i64 0, .int .i64 (band .i64 x1 4095), .int .i64 (band .i64 (shr .i64 x1 12) 4095), v_37, .int .i64 0, .int .i64 0, .slice none 0 0, .slice none 0 0, .int .i64 0, .int .i64 0, .int .i64 0, .int .i64 0, .int .i64 0, .slice none 0 0, .slice none 0 0, .slice none 0 0]) rfl Try.underlying29 rfl ti29 rfl rfl) .nil) ⟨_, rfl, v_37, .slice none 0 0, .slice none 0 0, .slice none 0 0, .slice none 0 0, .slice none 0 0, N_33, M_35, Mem.no, Mem.no, rfl, (Sep.sel hS [0, 3, 4, 5] (by decide)), ho_38, (Own.nil (Kd.int .i64) 3 Mem.no), (Own.nil (Kd.int .i64) 3 Mem.no), (Rd.nil _ _), (Rd.nil _ _), (Rd.nil _ _)⟩
          clear hKJ_32
          have hS' := hS.room
          replace hS : Sep w0 w_31 [Mem.no, Mem.one g_2 (.cells ([.int .i64 0, .int .i64 0, .int .i64 0, .int .i64 0, .int .i64 0, .int .i64 0, .bool false, .int .i64 0, .int .i64 0, .int .i64 0, .int .i64 0, .slice none 0 0, .int .i64 0, .int .i64 0, .slice none 0 0, .slice none 0 0, .int .i64 0, .int .i64 0, .int .i64 0, .int .i64 0, .int .i64 0, .slice none 0 0, .slice none 0 0, .slice none 0 0] : List Value).toArray 29 (0, 0)), Mem.one g_4 (.cells ([.int .i64 (w64 ((band .i64 x0 7) + 1)), .int .i64 (Int.tmod (band .i64 (shr .i64 x0 3) 7) 7), .int .i64 (Int.tmod (band .i64 (shr .i64 x0 6) 7) 7), .int .i64 (band .i64 (shr .i64 x0 9) 1023), .int .i64 0, .int .i64 0, .bool false, .int .i64 0, .int .i64 0, .int .i64 (band .i64 x1 4095), .int .i64 (band .i64 (shr .i64 x1 12) 4095), .slice none 0 0, .int .i64 0, .int .i64 0, .slice none 0 0, .slice none 0 0, .int .i64 0, .int .i64 0, .int .i64 0, .int .i64 0, .int .i64 0, .slice none 0 0, .slice none 0 0, .slice none 0 0] : List Value).toArray 29 (0, 0)), Mem.no] Z := hS'
          clear hS'
          replace hS : Sep w0 w_31 [Mem.no, Mem.one g_2 (.cells ([.int .i64 0, .int .i64 0, .int .i64 0, .int .i64 0, .int .i64 0, .int .i64 0, .bool false, .int .i64 0, .int .i64 0, .int .i64 0, .int .i64 0, .slice none 0 0, .int .i64 0, .int .i64 0, .slice none 0 0, .slice none 0 0, .int .i64 0, .int .i64 0, .int .i64 0, .int .i64 0, .int .i64 0, .slice none 0 0, .slice none 0 0, .slice none 0 0] : List Value).toArray 29 (0, 0)), Mem.one g_4 (.cells ([.int .i64 (w64 ((band .i64 x0 7) + 1)), .int .i64 (Int.tmod (band .i64 (shr .i64 x0 3) 7) 7), .int .i64 (Int.tmod (band .i64 (shr .i64 x0 6) 7) 7), .int .i64 (band .i64 (shr .i64 x0 9) 1023), .int .i64 0, .int .i64 0, .bool false, .int .i64 0, .int .i64 0, .int .i64 (band .i64 x1 4095), .int .i64 (band .i64 (shr .i64 x1 12) 4095), .slice none 0 0, .int .i64 0, .int .i64 0, .slice none 0 0, .slice none 0 0, .int .i64 0, .int .i64 0, .int .i64 0, .int .i64 0, .int .i64 0, .slice none 0 0, .slice none 0 0, .slice none 0 0] : List Value).toArray 29 (0, 0)), Mem.no] Z := hS
          replace hm : Fr 150 a [(1, .int .i64 x1), (4, .pointer (some ⟨g_2, 0, none⟩)), (5, .pointer (some ⟨g_4, 0, none⟩)), (6, .int .i64 0)] := hm.keep [1, 4, 5, 6]
          refine c_block ?_
          refine c_loop (fun k_51 a w_51 => ∃ (x_45 : Int) (x_46 : List UInt8) (v_49 : Value) (N_44 : Mem) (M_47 : Mem), hocketlaw11_Msg.L1 K x1 (fun v => hocketlaw11_Msg.J1 K x0 x1 v) k_51 (x_45, x_46) = some r ∧ Fr 150 a [(1, .int .i64 x1), (4, .pointer (some ⟨g_2, 0, none⟩)), (5, .pointer (some ⟨g_4, 0, none⟩)), (6, .int .i64 x_45)] ∧ Sep w0 w_51 [N_44, Mem.one g_2 (.cells ([.int .i64 0, .int .i64 0, .int .i64 0, .int .i64 0, .int .i64 0, .int .i64 0, .bool false, .int .i64 0, .int .i64 0, .int .i64 0, .int .i64 0, .slice none 0 0, .int .i64 0, .int .i64 0, .slice none 0 0, .slice none 0 0, .int .i64 0, .int .i64 0, .int .i64 0, .int .i64 0, .int .i64 0, .slice none 0 0, .slice none 0 0, .slice none 0 0] : List Value).toArray 29 (0, 0)), Mem.one g_4 (.cells ([.int .i64 (w64 ((band .i64 x0 7) + 1)), .int .i64 (Int.tmod (band .i64 (shr .i64 x0 3) 7) 7), .int .i64 (Int.tmod (band .i64 (shr .i64 x0 6) 7) 7), .int .i64 (band .i64 (shr .i64 x0 9) 1023), .int .i64 0, .int .i64 0, .bool false, .int .i64 0, .int .i64 0, .int .i64 (band .i64 x1 4095), .int .i64 (band .i64 (shr .i64 x1 12) 4095), v_49, .int .i64 0, .int .i64 0, .slice none 0 0, .slice none 0 0, .int .i64 0, .int .i64 0, .int .i64 0, .int .i64 0, .int .i64 0, .slice none 0 0, .slice none 0 0, .slice none 0 0] : List Value).toArray 29 (0, 0)), M_47] Z ∧ Mem.no.le N_44 ∧ Own Kd.u8 5 M_47 Mem.no v_49 x_46) K ⟨0, ([] : List UInt8), .slice none 0 0, Mem.no, Mem.no, H, hm, (Sep.sel hS [0, 1, 2, 3] (by decide)), (Mem.le.refl _), (Own.nil Kd.u8 5 Mem.no)⟩ (fun a w h => by obtain ⟨_, _, _, _, _, H, _⟩ := h; cases (show (none : Option (api_Msg)) = some r from H)) ?_
          clear hm hS a H
          rintro k_51 a w_51 KL_51 hKL_51 ⟨x_45, x_46, v_49, N_44, M_47, H, hm, hS, le_44, ho_50⟩
          replace H : hocketlaw11_Msg.B1 K x1 (fun v => hocketlaw11_Msg.J1 K x0 x1 v) (hocketlaw11_Msg.L1 K x1 (fun v => hocketlaw11_Msg.J1 K x0 x1 v) k_51) x_45 x_46 = some r := H
          unfold hocketlaw11_Msg.B1 at H
          refine c_seq fun KJ_54 hKJ_54 => ?_
          refine wp_seq ?_
          refine wp_region_lit ?_
          refine s_move hm rfl rfl ?_
          clear hm a; intro a hm
          refine s_move hm rfl rfl ?_
          clear hm a; intro a hm
          refine s_shift (r := shr .i64 x1 24) hm rfl rfl rfl (by decide) (.inr ⟨rfl, rfl⟩) ?_
          clear hm a; intro a hm
          refine s_bits (i := shr .i64 x1 24) (j := 63) (r := band .i64 (shr .i64 x1 24) 63) hm rfl rfl rfl (.inl ⟨rfl, rfl⟩) ?_
          clear hm a; intro a hm
          refine s_cmp (b := decide (x_45 < (band .i64 (shr .i64 x1 24) 63))) hm rfl rfl rfl (.inr (.inr (.inl ⟨rfl, rfl⟩))) ?_
          clear hm a; intro a hm
          refine wpList_nil ?_
          replace hm : Fr 150 a [(1, .int .i64 x1), (4, .pointer (some ⟨g_2, 0, none⟩)), (5, .pointer (some ⟨g_4, 0, none⟩)), (6, .int .i64 x_45), (72, .bool (decide (x_45 < (band .i64 (shr .i64 x1 24) 63))))] := hm.keep [1, 4, 5, 6, 72]
          refine x_then_n ?_
          by_cases hc_55 : x_45 < (band .i64 (shr .i64 x1 24) 63)
          · rw [if_pos hc_55] at H
            refine c_cond_t hm rfl (decide_eq_true hc_55) ?_
            refine wp_skip ?_
            refine x_then_n (hKJ_54 _ _ ?_)
            refine wp_seq ?_
            refine c_block ?_
            refine wp_region_lit ?_
            refine s_fieldAddr hm rfl Try.underlying29 rfl ti22 rfl rfl ?_
            clear hm a; intro a hm
            refine s_load hm rfl rfl (hS.load_one (p := 2) rfl Try.underlying22 rfl rfl) ?_
            clear hm a; intro a hm
            refine s_move hm rfl rfl ?_
            clear hm a; intro a hm
            refine s_move hm rfl rfl ?_
            clear hm a; intro a hm
            refine s_bits (i := x_45) (j := 15) (r := band .i64 x_45 15) hm rfl rfl rfl (.inl ⟨rfl, rfl⟩) ?_
            clear hm a; intro a hm
            refine s_conv (wu64 (band .i64 x_45 15)) hm rfl Try.underlying3 Try.underlying38 rfl rfl ?_
            clear hm a; intro a hm
            refine s_shift (r := shr .i64 x1 (wu64 (band .i64 x_45 15))) hm rfl rfl rfl (wu64_nn _) (.inr ⟨rfl, rfl⟩) ?_
            clear hm a; intro a hm
            refine s_conv (((toU8 (shr .i64 x1 (wu64 (band .i64 x_45 15)))).toNat : Int)) hm rfl Try.underlying3 Try.underlying5 rfl (wrap_u8 _).symm ?_
            clear hm a; intro a hm
            have hq_60 : Reps Kd.u8 Mem.no ([toU8 (shr .i64 x1 (wu64 (band .i64 x_45 15)))] : List UInt8) _ := ((Reps.one (d := Kd.u8) (x := toU8 (shr .i64 x1 (wu64 (band .i64 x_45 15)))) (show Kd.u8.K _ _ [.int .u8 ((toU8 (shr .i64 x1 (wu64 (band .i64 x_45 15)))).toNat : Int)] from rfl)).append (Reps.nil Kd.u8 _))
            refine s_buildSlice hm rfl Try.underlying22 ti5 rfl rfl rfl (.cons rfl .nil) rfl rfl rfl hS hq_60 rfl ?_
            intro w_56 v_57 M_58 hS' ho_59
            clear hm a; intro a hm
            replace hS : Sep w0 w_56 [N_44, Mem.one g_2 (.cells ([.int .i64 0, .int .i64 0, .int .i64 0, .int .i64 0, .int .i64 0, .int .i64 0, .bool false, .int .i64 0, .int .i64 0, .int .i64 0, .int .i64 0, .slice none 0 0, .int .i64 0, .int .i64 0, .slice none 0 0, .slice none 0 0, .int .i64 0, .int .i64 0, .int .i64 0, .int .i64 0, .int .i64 0, .slice none 0 0, .slice none 0 0, .slice none 0 0] : List Value).toArray 29 (0, 0)), Mem.one g_4 (.cells ([.int .i64 (w64 ((band .i64 x0 7) + 1)), .int .i64 (Int.tmod (band .i64 (shr .i64 x0 3) 7) 7), .int .i64 (Int.tmod (band .i64 (shr .i64 x0 6) 7) 7), .int .i64 (band .i64 (shr .i64 x0 9) 1023), .int .i64 0, .int .i64 0, .bool false, .int .i64 0, .int .i64 0, .int .i64 (band .i64 x1 4095), .int .i64 (band .i64 (shr .i64 x1 12) 4095), v_49, .int .i64 0, .int .i64 0, .slice none 0 0, .slice none 0 0, .int .i64 0, .int .i64 0, .int .i64 0, .int .i64 0, .int .i64 0, .slice none 0 0, .slice none 0 0, .slice none 0 0] : List Value).toArray 29 (0, 0)), M_47, M_58] Z := hS'
            clear hS' hq_60
            obtain ⟨t_62, et_62, H⟩ := Option.bind_eq_some_iff.1 H
            refine s_append (J := Mem.no) (I' := Mem.no) (p := 3) 140737488355328 hm rfl rfl rfl Try.underlying22 ti5 rfl rfl rfl rfl hS rfl ho_50 (Src.flat flat_u8 (ho_59.src (hS.own 4))) (Mem.le.refl _) (Mem.le.refl _) et_62 ?_
            intro w_63 v_64 M_65 hS' ho_66
            clear hm a; intro a hm
            replace hS : Sep w0 w_63 [N_44, Mem.one g_2 (.cells ([.int .i64 0, .int .i64 0, .int .i64 0, .int .i64 0, .int .i64 0, .int .i64 0, .bool false, .int .i64 0, .int .i64 0, .int .i64 0, .int .i64 0, .slice none 0 0, .int .i64 0, .int .i64 0, .slice none 0 0, .slice none 0 0, .int .i64 0, .int .i64 0, .int .i64 0, .int .i64 0, .int .i64 0, .slice none 0 0, .slice none 0 0, .slice none 0 0] : List Value).toArray 29 (0, 0)), Mem.one g_4 (.cells ([.int .i64 (w64 ((band .i64 x0 7) + 1)), .int .i64 (Int.tmod (band .i64 (shr .i64 x0 3) 7) 7), .int .i64 (Int.tmod (band .i64 (shr .i64 x0 6) 7) 7), .int .i64 (band .i64 (shr .i64 x0 9) 1023), .int .i64 0, .int .i64 0, .bool false, .int .i64 0, .int .i64 0, .int .i64 (band .i64 x1 4095), .int .i64 (band .i64 (shr .i64 x1 12) 4095), v_49, .int .i64 0, .int .i64 0, .slice none 0 0, .slice none 0 0, .int .i64 0, .int .i64 0, .int .i64 0, .int .i64 0, .int .i64 0, .slice none 0 0, .slice none 0 0, .slice none 0 0] : List Value).toArray 29 (0, 0)), M_65, M_58] Z := hS'
            clear hS'
            refine s_fieldAddr hm rfl Try.underlying29 rfl ti22 rfl rfl ?_
            clear hm a; intro a hm
            obtain ⟨w_68, hs', hS'⟩ := hS.store (P := Try.prog) (p := 2) (o := 11) (t := 22) (v := v_64) (vs := [v_64]) rfl ti22 ho_66.cellsA rfl rfl (by intro u hu; simp only [List.mem_cons, List.not_mem_nil, or_false] at hu; rcases hu with rfl <;> first | rfl | exact ho_66.one)
            refine s_store hm rfl rfl hs' ?_
            replace hS : Sep w0 w_68 [N_44, Mem.one g_2 (.cells ([.int .i64 0, .int .i64 0, .int .i64 0, .int .i64 0, .int .i64 0, .int .i64 0, .bool false, .int .i64 0, .int .i64 0, .int .i64 0, .int .i64 0, .slice none 0 0, .int .i64 0, .int .i64 0, .slice none 0 0, .slice none 0 0, .int .i64 0, .int .i64 0, .int .i64 0, .int .i64 0, .int .i64 0, .slice none 0 0, .slice none 0 0, .slice none 0 0] : List Value).toArray 29 (0, 0)), Mem.one g_4 (.cells ([.int .i64 (w64 ((band .i64 x0 7) + 1)), .int .i64 (Int.tmod (band .i64 (shr .i64 x0 3) 7) 7), .int .i64 (Int.tmod (band .i64 (shr .i64 x0 6) 7) 7), .int .i64 (band .i64 (shr .i64 x0 9) 1023), .int .i64 0, .int .i64 0, .bool false, .int .i64 0, .int .i64 0, .int .i64 (band .i64 x1 4095), .int .i64 (band .i64 (shr .i64 x1 12) 4095), v_64, .int .i64 0, .int .i64 0, .slice none 0 0, .slice none 0 0, .int .i64 0, .int .i64 0, .int .i64 0, .int .i64 0, .int .i64 0, .slice none 0 0, .slice none 0 0, .slice none 0 0] : List Value).toArray 29 (0, 0)), M_65, M_58] Z := hS'
            clear hs' hS'
            refine wpList_nil ?_
            replace hm : Fr 150 a [(1, .int .i64 x1), (4, .pointer (some ⟨g_2, 0, none⟩)), (5, .pointer (some ⟨g_4, 0, none⟩)), (6, .int .i64 x_45)] := hm.keep [1, 4, 5, 6]
            refine x_block_n ?_
            refine x_then_n ?_
            refine wp_region_lit ?_
            refine s_move hm rfl rfl ?_
            clear hm a; intro a hm
            refine s_arith (r := w64 (x_45 + 1)) hm rfl rfl rfl (.inl ⟨rfl, rfl⟩) ?_
            clear hm a; intro a hm
            refine s_assign hm rfl rfl ?_
            clear hm a; intro a hm
            refine wpList_nil ?_
            replace hm : Fr 150 a [(1, .int .i64 x1), (4, .pointer (some ⟨g_2, 0, none⟩)), (5, .pointer (some ⟨g_4, 0, none⟩)), (6, .int .i64 (w64 (x_45 + 1)))] := hm.keep [1, 4, 5, 6]
            refine x_then_n (hKL_51 _ _ ?_)
            replace hS : Sep w0 w_68 [N_44, Mem.one g_2 (.cells ([.int .i64 0, .int .i64 0, .int .i64 0, .int .i64 0, .int .i64 0, .int .i64 0, .bool false, .int .i64 0, .int .i64 0, .int .i64 0, .int .i64 0, .slice none 0 0, .int .i64 0, .int .i64 0, .slice none 0 0, .slice none 0 0, .int .i64 0, .int .i64 0, .int .i64 0, .int .i64 0, .int .i64 0, .slice none 0 0, .slice none 0 0, .slice none 0 0] : List Value).toArray 29 (0, 0)), Mem.one g_4 (.cells ([.int .i64 (w64 ((band .i64 x0 7) + 1)), .int .i64 (Int.tmod (band .i64 (shr .i64 x0 3) 7) 7), .int .i64 (Int.tmod (band .i64 (shr .i64 x0 6) 7) 7), .int .i64 (band .i64 (shr .i64 x0 9) 1023), .int .i64 0, .int .i64 0, .bool false, .int .i64 0, .int .i64 0, .int .i64 (band .i64 x1 4095), .int .i64 (band .i64 (shr .i64 x1 12) 4095), v_64, .int .i64 0, .int .i64 0, .slice none 0 0, .slice none 0 0, .int .i64 0, .int .i64 0, .int .i64 0, .int .i64 0, .int .i64 0, .slice none 0 0, .slice none 0 0, .slice none 0 0] : List Value).toArray 29 (0, 0)), M_65, M_58] Z := hS
            replace hm : Fr 150 a [(1, .int .i64 x1), (4, .pointer (some ⟨g_2, 0, none⟩)), (5, .pointer (some ⟨g_4, 0, none⟩)), (6, .int .i64 (w64 (x_45 + 1)))] := hm.keep [1, 4, 5, 6]
            exact ⟨w64 (x_45 + 1), t_62, v_64, N_44, M_65, H, hm, (Sep.sel hS [0, 1, 2, 3] (by decide)), le_44, ho_66⟩
          · rw [if_neg hc_55] at H
            refine c_cond_f hm rfl (decide_eq_false hc_55) ?_
            refine wp_exit (x_then_x (x_then_x (x_block_t ?_)))
            replace hS : Sep w0 w_51 [N_44, Mem.one g_2 (.cells ([.int .i64 0, .int .i64 0, .int .i64 0, .int .i64 0, .int .i64 0, .int .i64 0, .bool false, .int .i64 0, .int .i64 0, .int .i64 0, .int .i64 0, .slice none 0 0, .int .i64 0, .int .i64 0, .slice none 0 0, .slice none 0 0, .int .i64 0, .int .i64 0, .int .i64 0, .int .i64 0, .int .i64 0, .slice none 0 0, .slice none 0 0, .slice none 0 0] : List Value).toArray 29 (0, 0)), Mem.one g_4 (.cells ([.int .i64 (w64 ((band .i64 x0 7) + 1)), .int .i64 (Int.tmod (band .i64 (shr .i64 x0 3) 7) 7), .int .i64 (Int.tmod (band .i64 (shr .i64 x0 6) 7) 7), .int .i64 (band .i64 (shr .i64 x0 9) 1023), .int .i64 0, .int .i64 0, .bool false, .int .i64 0, .int .i64 0, .int .i64 (band .i64 x1 4095), .int .i64 (band .i64 (shr .i64 x1 12) 4095), v_49, .int .i64 0, .int .i64 0, .slice none 0 0, .slice none 0 0, .int .i64 0, .int .i64 0, .int .i64 0, .int .i64 0, .int .i64 0, .slice none 0 0, .slice none 0 0, .slice none 0 0] : List Value).toArray 29 (0, 0)), M_47] Z := hS
            replace hm : Fr 150 a [(4, .pointer (some ⟨g_2, 0, none⟩)), (5, .pointer (some ⟨g_4, 0, none⟩))] := hm.keep [4, 5]
            exact x_then_n (hJ_j_40 x_46 H _ _ ⟨v_49, N_44, M_47, hm, (Sep.sel hS [0, 1, 2, 3] (by decide)), le_44, ho_50⟩)
        · rw [if_neg hc_29] at H
          refine c_cond_f hm rfl (beq_eq_false_iff_ne.2 hc_29) ?_
          refine wp_seq ?_
          refine wp_region_lit ?_
          refine s_cmp (b := ((w64 ((band .i64 x0 7) + 1)) == 7)) hm rfl rfl rfl (.inl ⟨rfl, rfl⟩) ?_
          clear hm a; intro a hm
          refine s_assign hm rfl rfl ?_
          clear hm a; intro a hm
          refine wpList_nil ?_
          replace hm : Fr 150 a [(0, .int .i64 x0), (1, .int .i64 x1), (4, .pointer (some ⟨g_2, 0, none⟩)), (5, .pointer (some ⟨g_4, 0, none⟩)), (25, .int .i64 (w64 ((band .i64 x0 7) + 1))), (86, .bool ((w64 ((band .i64 x0 7) + 1)) == 7))] := hm.keep [0, 1, 4, 5, 25, 86]
          refine x_then_n ?_
          by_cases hc_69 : (w64 ((band .i64 x0 7) + 1)) = 7
          · rw [if_pos hc_69] at H
            refine c_cond_t hm rfl (beq_iff_eq.2 hc_69) ?_
            refine wp_seq ?_
            refine wp_region_lit ?_
            refine s_move hm rfl rfl ?_
            clear hm a; intro a hm
            refine s_bits (i := x1) (j := 1023) (r := band .i64 x1 1023) hm rfl rfl rfl (.inl ⟨rfl, rfl⟩) ?_
            clear hm a; intro a hm
            refine s_move hm rfl rfl ?_
            clear hm a; intro a hm
            refine s_shift (r := shr .i64 x1 10) hm rfl rfl rfl (by decide) (.inr ⟨rfl, rfl⟩) ?_
            clear hm a; intro a hm
            refine s_bits (i := shr .i64 x1 10) (j := 255) (r := band .i64 (shr .i64 x1 10) 255) hm rfl rfl rfl (.inl ⟨rfl, rfl⟩) ?_
            clear hm a; intro a hm
            refine s_fieldAddr hm rfl Try.underlying29 rfl ti3 rfl rfl ?_
            clear hm a; intro a hm
            obtain ⟨w_70, hs', hS'⟩ := hS.store (P := Try.prog) (p := 2) (o := 12) (t := 3) (v := .int .i64 (band .i64 x1 1023)) (vs := [.int .i64 (band .i64 x1 1023)]) rfl ti3 rfl rfl rfl (by intro u hu; simp only [List.mem_cons, List.not_mem_nil, or_false] at hu; rcases hu with rfl <;> rfl)
            refine s_store hm rfl rfl hs' ?_
            replace hS : Sep w0 w_70 [Mem.no, Mem.one g_2 (.cells ([.int .i64 0, .int .i64 0, .int .i64 0, .int .i64 0, .int .i64 0, .int .i64 0, .bool false, .int .i64 0, .int .i64 0, .int .i64 0, .int .i64 0, .slice none 0 0, .int .i64 0, .int .i64 0, .slice none 0 0, .slice none 0 0, .int .i64 0, .int .i64 0, .int .i64 0, .int .i64 0, .int .i64 0, .slice none 0 0, .slice none 0 0, .slice none 0 0] : List Value).toArray 29 (0, 0)), Mem.one g_4 (.cells ([.int .i64 (w64 ((band .i64 x0 7) + 1)), .int .i64 (Int.tmod (band .i64 (shr .i64 x0 3) 7) 7), .int .i64 (Int.tmod (band .i64 (shr .i64 x0 6) 7) 7), .int .i64 (band .i64 (shr .i64 x0 9) 1023), .int .i64 0, .int .i64 0, .bool false, .int .i64 0, .int .i64 0, .int .i64 0, .int .i64 0, .slice none 0 0, .int .i64 (band .i64 x1 1023), .int .i64 0, .slice none 0 0, .slice none 0 0, .int .i64 0, .int .i64 0, .int .i64 0, .int .i64 0, .int .i64 0, .slice none 0 0, .slice none 0 0, .slice none 0 0] : List Value).toArray 29 (0, 0))] Z := hS'
            clear hs' hS'
            refine s_fieldAddr hm rfl Try.underlying29 rfl ti3 rfl rfl ?_
            clear hm a; intro a hm
            obtain ⟨w_71, hs', hS'⟩ := hS.store (P := Try.prog) (p := 2) (o := 13) (t := 3) (v := .int .i64 (band .i64 (shr .i64 x1 10) 255)) (vs := [.int .i64 (band .i64 (shr .i64 x1 10) 255)]) rfl ti3 rfl rfl rfl (by intro u hu; simp only [List.mem_cons, List.not_mem_nil, or_false] at hu; rcases hu with rfl <;> rfl)
            refine s_store hm rfl rfl hs' ?_
            replace hS : Sep w0 w_71 [Mem.no, Mem.one g_2 (.cells ([.int .i64 0, .int .i64 0, .int .i64 0, .int .i64 0, .int .i64 0, .int .i64 0, .bool false, .int .i64 0, .int .i64 0, .int .i64 0, .int .i64 0, .slice none 0 0, .int .i64 0, .int .i64 0, .slice none 0 0, .slice none 0 0, .int .i64 0, .int .i64 0, .int .i64 0, .int .i64 0, .int .i64 0, .slice none 0 0, .slice none 0 0, .slice none 0 0] : List Value).toArray 29 (0, 0)), Mem.one g_4 (.cells ([.int .i64 (w64 ((band .i64 x0 7) + 1)), .int .i64 (Int.tmod (band .i64 (shr .i64 x0 3) 7) 7), .int .i64 (Int.tmod (band .i64 (shr .i64 x0 6) 7) 7), .int .i64 (band .i64 (shr .i64 x0 9) 1023), .int .i64 0, .int .i64 0, .bool false, .int .i64 0, .int .i64 0, .int .i64 0, .int .i64 0, .slice none 0 0, .int .i64 (band .i64 x1 1023), .int .i64 (band .i64 (shr .i64 x1 10) 255), .slice none 0 0, .slice none 0 0, .int .i64 0, .int .i64 0, .int .i64 0, .int .i64 0, .int .i64 0, .slice none 0 0, .slice none 0 0, .slice none 0 0] : List Value).toArray 29 (0, 0))] Z := hS'
            clear hs' hS'
            refine wpList_nil ?_
            replace hm : Fr 150 a [(1, .int .i64 x1), (4, .pointer (some ⟨g_2, 0, none⟩)), (5, .pointer (some ⟨g_4, 0, none⟩))] := hm.keep [1, 4, 5]
            refine x_then_n ?_
            refine c_seq fun KJ_72 hKJ_72 => ?_
            refine wp_seq ?_
            refine wp_region_lit ?_
            refine s_assign hm rfl rfl ?_
            clear hm a; intro a hm
            refine wpList_nil ?_
            replace hm : Fr 150 a [(1, .int .i64 x1), (4, .pointer (some ⟨g_2, 0, none⟩)), (5, .pointer (some ⟨g_4, 0, none⟩)), (7, .int .i64 0)] := hm.keep [1, 4, 5, 7]
            refine x_then_n ?_
            have hJ_j_80 : ∀ (x_74 : List Int), hocketlaw11_Msg.J2 K x1 x0 x_74 = some r → ∀ (a : Act) (w_79 : World), (∃ (v_77 : Value) (N_73 : Mem) (M_75 : Mem), Fr 150 a [(1, .int .i64 x1), (4, .pointer (some ⟨g_2, 0, none⟩)), (5, .pointer (some ⟨g_4, 0, none⟩))] ∧ Sep w0 w_79 [N_73, Mem.one g_2 (.cells ([.int .i64 0, .int .i64 0, .int .i64 0, .int .i64 0, .int .i64 0, .int .i64 0, .bool false, .int .i64 0, .int .i64 0, .int .i64 0, .int .i64 0, .slice none 0 0, .int .i64 0, .int .i64 0, .slice none 0 0, .slice none 0 0, .int .i64 0, .int .i64 0, .int .i64 0, .int .i64 0, .int .i64 0, .slice none 0 0, .slice none 0 0, .slice none 0 0] : List Value).toArray 29 (0, 0)), Mem.one g_4 (.cells ([.int .i64 (w64 ((band .i64 x0 7) + 1)), .int .i64 (Int.tmod (band .i64 (shr .i64 x0 3) 7) 7), .int .i64 (Int.tmod (band .i64 (shr .i64 x0 6) 7) 7), .int .i64 (band .i64 (shr .i64 x0 9) 1023), .int .i64 0, .int .i64 0, .bool false, .int .i64 0, .int .i64 0, .int .i64 0, .int .i64 0, .slice none 0 0, .int .i64 (band .i64 x1 1023), .int .i64 (band .i64 (shr .i64 x1 10) 255), v_77, .slice none 0 0, .int .i64 0, .int .i64 0, .int .i64 0, .int .i64 0, .int .i64 0, .slice none 0 0, .slice none 0 0, .slice none 0 0] : List Value).toArray 29 (0, 0)), M_75] Z ∧ Mem.no.le N_73 ∧ Own (Kd.int .i64) 3 M_75 Mem.no v_77 x_74) → KJ_72 a w_79 := by
              clear H hm hS a
              rintro x_74 H a w_79 ⟨v_77, N_73, M_75, hm, hS, le_73, ho_78⟩
              unfold hocketlaw11_Msg.J2 at H
              refine hKJ_72 _ _ ?_
              refine wp_seq ?_
              refine wp_region_lit ?_
              refine s_assign hm rfl rfl ?_
              clear hm a; intro a hm
              refine wpList_nil ?_
              replace hm : Fr 150 a [(1, .int .i64 x1), (4, .pointer (some ⟨g_2, 0, none⟩)), (5, .pointer (some ⟨g_4, 0, none⟩)), (8, .int .i64 0)] := hm.keep [1, 4, 5, 8]
              refine x_then_n ?_
              refine c_last fun KJ_81 hKJ_81 => ?_
              have hJ_j_89 : ∀ (x_83 : List Int), hocketlaw11_Msg.J3 K x0 x1 x_74 x_83 = some r → ∀ (a : Act) (w_88 : World), (∃ (v_86 : Value) (N_82 : Mem) (M_84 : Mem), Fr 150 a [(4, .pointer (some ⟨g_2, 0, none⟩)), (5, .pointer (some ⟨g_4, 0, none⟩))] ∧ Sep w0 w_88 [N_82, Mem.one g_2 (.cells ([.int .i64 0, .int .i64 0, .int .i64 0, .int .i64 0, .int .i64 0, .int .i64 0, .bool false, .int .i64 0, .int .i64 0, .int .i64 0, .int .i64 0, .slice none 0 0, .int .i64 0, .int .i64 0, .slice none 0 0, .slice none 0 0, .int .i64 0, .int .i64 0, .int .i64 0, .int .i64 0, .int .i64 0, .slice none 0 0, .slice none 0 0, .slice none 0 0] : List Value).toArray 29 (0, 0)), Mem.one g_4 (.cells ([.int .i64 (w64 ((band .i64 x0 7) + 1)), .int .i64 (Int.tmod (band .i64 (shr .i64 x0 3) 7) 7), .int .i64 (Int.tmod (band .i64 (shr .i64 x0 6) 7) 7), .int .i64 (band .i64 (shr .i64 x0 9) 1023), .int .i64 0, .int .i64 0, .bool false, .int .i64 0, .int .i64 0, .int .i64 0, .int .i64 0, .slice none 0 0, .int .i64 (band .i64 x1 1023), .int .i64 (band .i64 (shr .i64 x1 10) 255), v_77, v_86, .int .i64 0, .int .i64 0, .int .i64 0, .int .i64 0, .int .i64 0, .slice none 0 0, .slice none 0 0, .slice none 0 0] : List Value).toArray 29 (0, 0)), M_75, M_84] Z ∧ N_73.le N_82 ∧ Own (Kd.int .i64) 3 M_84 Mem.no v_86 x_83) → KJ_81 a w_88 := by
                clear H hm hS a
                rintro x_83 H a w_88 ⟨v_86, N_82, M_84, hm, hS, le_82, ho_87⟩
                unfold hocketlaw11_Msg.J3 at H
                refine hKJ_81 _ _ ?_
                refine x_block_n ?_
                refine x_then_n (hKJ_6 _ _ ?_)
                refine wp_seq ?_
                refine wp_region_lit ?_
                refine s_load hm rfl rfl (hS.load_agg (p := 2) (us := [.int .i64 (w64 ((band .i64 x0 7) + 1)), .int .i64 (Int.tmod (band .i64 (shr .i64 x0 3) 7) 7), .int .i64 (Int.tmod (band .i64 (shr .i64 x0 6) 7) 7), .int .i64 (band .i64 (shr .i64 x0 9) 1023), .int .i64 0, .int .i64 0, .bool false, .int .i64 0, .int .i64 0, .int .i64 0, .int .i64 0, .slice none 0 0, .int .i64 (band .i64 x1 1023), .int .i64 (band .i64 (shr .i64 x1 10) 255), v_77, v_86, .int .i64 0, .int .i64 0, .int .i64 0, .int .i64 0, .int .i64 0, .slice none 0 0, .slice none 0 0, .slice none 0 0]) rfl Try.underlying29 rfl ti29 rfl rfl) ?_
                clear hm a; intro a hm
                obtain ⟨w_90, hs', hS'⟩ := hS.store (P := Try.prog) (p := 1) (o := 0) (t := 29) (v := .agg ([.int .i64 (w64 ((band .i64 x0 7) + 1)), .int .i64 (Int.tmod (band .i64 (shr .i64 x0 3) 7) 7), .int .i64 (Int.tmod (band .i64 (shr .i64 x0 6) 7) 7), .int .i64 (band .i64 (shr .i64 x0 9) 1023), .int .i64 0, .int .i64 0, .bool false, .int .i64 0, .int .i64 0, .int .i64 0, .int .i64 0, .slice none 0 0, .int .i64 (band .i64 x1 1023), .int .i64 (band .i64 (shr .i64 x1 10) 255), v_77, v_86, .int .i64 0, .int .i64 0, .int .i64 0, .int .i64 0, .int .i64 0, .slice none 0 0, .slice none 0 0, .slice none 0 0] : List Value).toArray) (vs := [.int .i64 (w64 ((band .i64 x0 7) + 1)), .int .i64 (Int.tmod (band .i64 (shr .i64 x0 3) 7) 7), .int .i64 (Int.tmod (band .i64 (shr .i64 x0 6) 7) 7), .int .i64 (band .i64 (shr .i64 x0 9) 1023), .int .i64 0, .int .i64 0, .bool false, .int .i64 0, .int .i64 0, .int .i64 0, .int .i64 0, .slice none 0 0, .int .i64 (band .i64 x1 1023), .int .i64 (band .i64 (shr .i64 x1 10) 255), v_77, v_86, .int .i64 0, .int .i64 0, .int .i64 0, .int .i64 0, .int .i64 0, .slice none 0 0, .slice none 0 0, .slice none 0 0]) rfl ti29 rfl rfl rfl (by intro u hu; simp only [List.mem_cons, List.not_mem_nil, or_false] at hu; rcases hu with rfl | rfl | rfl | rfl | rfl | rfl | rfl | rfl | rfl | rfl | rfl | rfl | rfl | rfl | rfl | rfl | rfl | rfl | rfl | rfl | rfl | rfl | rfl | rfl <;> first | rfl | exact ho_78.one | exact ho_87.one)
                refine s_store hm rfl rfl hs' ?_
                replace hS : Sep w0 w_90 [N_82, Mem.one g_2 (.cells ([.int .i64 (w64 ((band .i64 x0 7) + 1)), .int .i64 (Int.tmod (band .i64 (shr .i64 x0 3) 7) 7), .int .i64 (Int.tmod (band .i64 (shr .i64 x0 6) 7) 7), .int .i64 (band .i64 (shr .i64 x0 9) 1023), .int .i64 0, .int .i64 0, .bool false, .int .i64 0, .int .i64 0, .int .i64 0, .int .i64 0, .slice none 0 0, .int .i64 (band .i64 x1 1023), .int .i64 (band .i64 (shr .i64 x1 10) 255), v_77, v_86, .int .i64 0, .int .i64 0, .int .i64 0, .int .i64 0, .int .i64 0, .slice none 0 0, .slice none 0 0, .slice none 0 0] : List Value).toArray 29 (0, 0)), Mem.one g_4 (.cells ([.int .i64 (w64 ((band .i64 x0 7) + 1)), .int .i64 (Int.tmod (band .i64 (shr .i64 x0 3) 7) 7), .int .i64 (Int.tmod (band .i64 (shr .i64 x0 6) 7) 7), .int .i64 (band .i64 (shr .i64 x0 9) 1023), .int .i64 0, .int .i64 0, .bool false, .int .i64 0, .int .i64 0, .int .i64 0, .int .i64 0, .slice none 0 0, .int .i64 (band .i64 x1 1023), .int .i64 (band .i64 (shr .i64 x1 10) 255), v_77, v_86, .int .i64 0, .int .i64 0, .int .i64 0, .int .i64 0, .int .i64 0, .slice none 0 0, .slice none 0 0, .slice none 0 0] : List Value).toArray 29 (0, 0)), M_75, M_84] Z := hS'
                clear hs' hS'
                refine wpList_nil ?_
                replace hm : Fr 150 a [(4, .pointer (some ⟨g_2, 0, none⟩))] := hm.keep [4]
                refine x_then_n ?_
                refine wp_ret ?_
                have hS' := hS.room
                replace hS : Sep w0 w_90 [N_82, Mem.one g_2 (.cells ([.int .i64 (w64 ((band .i64 x0 7) + 1)), .int .i64 (Int.tmod (band .i64 (shr .i64 x0 3) 7) 7), .int .i64 (Int.tmod (band .i64 (shr .i64 x0 6) 7) 7), .int .i64 (band .i64 (shr .i64 x0 9) 1023), .int .i64 0, .int .i64 0, .bool false, .int .i64 0, .int .i64 0, .int .i64 0, .int .i64 0, .slice none 0 0, .int .i64 (band .i64 x1 1023), .int .i64 (band .i64 (shr .i64 x1 10) 255), v_77, v_86, .int .i64 0, .int .i64 0, .int .i64 0, .int .i64 0, .int .i64 0, .slice none 0 0, .slice none 0 0, .slice none 0 0] : List Value).toArray 29 (0, 0)), Mem.one g_4 (.cells ([.int .i64 (w64 ((band .i64 x0 7) + 1)), .int .i64 (Int.tmod (band .i64 (shr .i64 x0 3) 7) 7), .int .i64 (Int.tmod (band .i64 (shr .i64 x0 6) 7) 7), .int .i64 (band .i64 (shr .i64 x0 9) 1023), .int .i64 0, .int .i64 0, .bool false, .int .i64 0, .int .i64 0, .int .i64 0, .int .i64 0, .slice none 0 0, .int .i64 (band .i64 x1 1023), .int .i64 (band .i64 (shr .i64 x1 10) 255), v_77, v_86, .int .i64 0, .int .i64 0, .int .i64 0, .int .i64 0, .int .i64 0, .slice none 0 0, .slice none 0 0, .slice none 0 0] : List Value).toArray 29 (0, 0)), M_75, M_84, Mem.no] Z := hS'
                clear hS'
                replace hS : Sep w0 w_90 [N_82, Mem.one g_2 (.cells ([.int .i64 (w64 ((band .i64 x0 7) + 1)), .int .i64 (Int.tmod (band .i64 (shr .i64 x0 3) 7) 7), .int .i64 (Int.tmod (band .i64 (shr .i64 x0 6) 7) 7), .int .i64 (band .i64 (shr .i64 x0 9) 1023), .int .i64 0, .int .i64 0, .bool false, .int .i64 0, .int .i64 0, .int .i64 0, .int .i64 0, .slice none 0 0, .int .i64 (band .i64 x1 1023), .int .i64 (band .i64 (shr .i64 x1 10) 255), v_77, v_86, .int .i64 0, .int .i64 0, .int .i64 0, .int .i64 0, .int .i64 0, .slice none 0 0, .slice none 0 0, .slice none 0 0] : List Value).toArray 29 (0, 0)), Mem.one g_4 (.cells ([.int .i64 (w64 ((band .i64 x0 7) + 1)), .int .i64 (Int.tmod (band .i64 (shr .i64 x0 3) 7) 7), .int .i64 (Int.tmod (band .i64 (shr .i64 x0 6) 7) 7), .int .i64 (band .i64 (shr .i64 x0 9) 1023), .int .i64 0, .int .i64 0, .bool false, .int .i64 0, .int .i64 0, .int .i64 0, .int .i64 0, .slice none 0 0, .int .i64 (band .i64 x1 1023), .int .i64 (band .i64 (shr .i64 x1 10) 255), v_77, v_86, .int .i64 0, .int .i64 0, .int .i64 0, .int .i64 0, .int .i64 0, .slice none 0 0, .slice none 0 0, .slice none 0 0] : List Value).toArray 29 (0, 0)), M_75, M_84, Mem.no] Z := hS
                obtain rfl := Option.some.inj H
                exact f_ret hm (rs := [.cell 4 29]) rfl (.cell rfl (hS.load_agg (p := 1) (us := [.int .i64 (w64 ((band .i64 x0 7) + 1)), .int .i64 (Int.tmod (band .i64 (shr .i64 x0 3) 7) 7), .int .i64 (Int.tmod (band .i64 (shr .i64 x0 6) 7) 7), .int .i64 (band .i64 (shr .i64 x0 9) 1023), .int .i64 0, .int .i64 0, .bool false, .int .i64 0, .int .i64 0, .int .i64 0, .int .i64 0, .slice none 0 0, .int .i64 (band .i64 x1 1023), .int .i64 (band .i64 (shr .i64 x1 10) 255), v_77, v_86, .int .i64 0, .int .i64 0, .int .i64 0, .int .i64 0, .int .i64 0, .slice none 0 0, .slice none 0 0, .slice none 0 0]) rfl Try.underlying29 rfl ti29 rfl rfl) .nil) ⟨_, rfl, .slice none 0 0, v_77, v_86, .slice none 0 0, .slice none 0 0, .slice none 0 0, N_82, Mem.no, M_75, M_84, rfl, (Sep.sel hS [0, 5, 3, 4] (by decide)), (Own.nil Kd.u8 5 Mem.no), ho_78, ho_87, (Rd.nil _ _), (Rd.nil _ _), (Rd.nil _ _)⟩
              clear hKJ_81
              have hS' := hS.room
              replace hS : Sep w0 w_79 [N_73, Mem.one g_2 (.cells ([.int .i64 0, .int .i64 0, .int .i64 0, .int .i64 0, .int .i64 0, .int .i64 0, .bool false, .int .i64 0, .int .i64 0, .int .i64 0, .int .i64 0, .slice none 0 0, .int .i64 0, .int .i64 0, .slice none 0 0, .slice none 0 0, .int .i64 0, .int .i64 0, .int .i64 0, .int .i64 0, .int .i64 0, .slice none 0 0, .slice none 0 0, .slice none 0 0] : List Value).toArray 29 (0, 0)), Mem.one g_4 (.cells ([.int .i64 (w64 ((band .i64 x0 7) + 1)), .int .i64 (Int.tmod (band .i64 (shr .i64 x0 3) 7) 7), .int .i64 (Int.tmod (band .i64 (shr .i64 x0 6) 7) 7), .int .i64 (band .i64 (shr .i64 x0 9) 1023), .int .i64 0, .int .i64 0, .bool false, .int .i64 0, .int .i64 0, .int .i64 0, .int .i64 0, .slice none 0 0, .int .i64 (band .i64 x1 1023), .int .i64 (band .i64 (shr .i64 x1 10) 255), v_77, .slice none 0 0, .int .i64 0, .int .i64 0, .int .i64 0, .int .i64 0, .int .i64 0, .slice none 0 0, .slice none 0 0, .slice none 0 0] : List Value).toArray 29 (0, 0)), M_75, Mem.no] Z := hS'
              clear hS'
              replace hS : Sep w0 w_79 [N_73, Mem.one g_2 (.cells ([.int .i64 0, .int .i64 0, .int .i64 0, .int .i64 0, .int .i64 0, .int .i64 0, .bool false, .int .i64 0, .int .i64 0, .int .i64 0, .int .i64 0, .slice none 0 0, .int .i64 0, .int .i64 0, .slice none 0 0, .slice none 0 0, .int .i64 0, .int .i64 0, .int .i64 0, .int .i64 0, .int .i64 0, .slice none 0 0, .slice none 0 0, .slice none 0 0] : List Value).toArray 29 (0, 0)), Mem.one g_4 (.cells ([.int .i64 (w64 ((band .i64 x0 7) + 1)), .int .i64 (Int.tmod (band .i64 (shr .i64 x0 3) 7) 7), .int .i64 (Int.tmod (band .i64 (shr .i64 x0 6) 7) 7), .int .i64 (band .i64 (shr .i64 x0 9) 1023), .int .i64 0, .int .i64 0, .bool false, .int .i64 0, .int .i64 0, .int .i64 0, .int .i64 0, .slice none 0 0, .int .i64 (band .i64 x1 1023), .int .i64 (band .i64 (shr .i64 x1 10) 255), v_77, .slice none 0 0, .int .i64 0, .int .i64 0, .int .i64 0, .int .i64 0, .int .i64 0, .slice none 0 0, .slice none 0 0, .slice none 0 0] : List Value).toArray 29 (0, 0)), M_75, Mem.no] Z := hS
              replace hm : Fr 150 a [(1, .int .i64 x1), (4, .pointer (some ⟨g_2, 0, none⟩)), (5, .pointer (some ⟨g_4, 0, none⟩)), (8, .int .i64 0)] := hm.keep [1, 4, 5, 8]
              refine c_block ?_
              refine c_loop (fun k_99 a w_99 => ∃ (x_93 : Int) (x_94 : List Int) (v_97 : Value) (N_92 : Mem) (M_95 : Mem), hocketlaw11_Msg.L2 K x1 (fun v => hocketlaw11_Msg.J3 K x0 x1 x_74 v) k_99 (x_93, x_94) = some r ∧ Fr 150 a [(1, .int .i64 x1), (4, .pointer (some ⟨g_2, 0, none⟩)), (5, .pointer (some ⟨g_4, 0, none⟩)), (8, .int .i64 x_93)] ∧ Sep w0 w_99 [N_92, Mem.one g_2 (.cells ([.int .i64 0, .int .i64 0, .int .i64 0, .int .i64 0, .int .i64 0, .int .i64 0, .bool false, .int .i64 0, .int .i64 0, .int .i64 0, .int .i64 0, .slice none 0 0, .int .i64 0, .int .i64 0, .slice none 0 0, .slice none 0 0, .int .i64 0, .int .i64 0, .int .i64 0, .int .i64 0, .int .i64 0, .slice none 0 0, .slice none 0 0, .slice none 0 0] : List Value).toArray 29 (0, 0)), Mem.one g_4 (.cells ([.int .i64 (w64 ((band .i64 x0 7) + 1)), .int .i64 (Int.tmod (band .i64 (shr .i64 x0 3) 7) 7), .int .i64 (Int.tmod (band .i64 (shr .i64 x0 6) 7) 7), .int .i64 (band .i64 (shr .i64 x0 9) 1023), .int .i64 0, .int .i64 0, .bool false, .int .i64 0, .int .i64 0, .int .i64 0, .int .i64 0, .slice none 0 0, .int .i64 (band .i64 x1 1023), .int .i64 (band .i64 (shr .i64 x1 10) 255), v_77, v_97, .int .i64 0, .int .i64 0, .int .i64 0, .int .i64 0, .int .i64 0, .slice none 0 0, .slice none 0 0, .slice none 0 0] : List Value).toArray 29 (0, 0)), M_75, M_95] Z ∧ N_73.le N_92 ∧ Own (Kd.int .i64) 3 M_95 Mem.no v_97 x_94) K ⟨0, ([] : List Int), .slice none 0 0, N_73, Mem.no, H, hm, (Sep.sel hS [0, 1, 2, 3, 4] (by decide)), (Mem.le.refl _), (Own.nil (Kd.int .i64) 3 Mem.no)⟩ (fun a w h => by obtain ⟨_, _, _, _, _, H, _⟩ := h; cases (show (none : Option (api_Msg)) = some r from H)) ?_
              clear hm hS a H
              rintro k_99 a w_99 KL_99 hKL_99 ⟨x_93, x_94, v_97, N_92, M_95, H, hm, hS, le_92, ho_98⟩
              replace H : hocketlaw11_Msg.B2 K x1 (fun v => hocketlaw11_Msg.J3 K x0 x1 x_74 v) (hocketlaw11_Msg.L2 K x1 (fun v => hocketlaw11_Msg.J3 K x0 x1 x_74 v) k_99) x_93 x_94 = some r := H
              unfold hocketlaw11_Msg.B2 at H
              refine c_seq fun KJ_102 hKJ_102 => ?_
              refine wp_seq ?_
              refine wp_region_lit ?_
              refine s_move hm rfl rfl ?_
              clear hm a; intro a hm
              refine s_move hm rfl rfl ?_
              clear hm a; intro a hm
              refine s_shift (r := shr .i64 x1 21) hm rfl rfl rfl (by decide) (.inr ⟨rfl, rfl⟩) ?_
              clear hm a; intro a hm
              refine s_bits (i := shr .i64 x1 21) (j := 7) (r := band .i64 (shr .i64 x1 21) 7) hm rfl rfl rfl (.inl ⟨rfl, rfl⟩) ?_
              clear hm a; intro a hm
              refine s_cmp (b := decide (x_93 < (band .i64 (shr .i64 x1 21) 7))) hm rfl rfl rfl (.inr (.inr (.inl ⟨rfl, rfl⟩))) ?_
              clear hm a; intro a hm
              refine wpList_nil ?_
              replace hm : Fr 150 a [(1, .int .i64 x1), (4, .pointer (some ⟨g_2, 0, none⟩)), (5, .pointer (some ⟨g_4, 0, none⟩)), (8, .int .i64 x_93), (116, .bool (decide (x_93 < (band .i64 (shr .i64 x1 21) 7))))] := hm.keep [1, 4, 5, 8, 116]
              refine x_then_n ?_
              by_cases hc_103 : x_93 < (band .i64 (shr .i64 x1 21) 7)
              · rw [if_pos hc_103] at H
                refine c_cond_t hm rfl (decide_eq_true hc_103) ?_
                refine wp_skip ?_
                refine x_then_n (hKJ_102 _ _ ?_)
                refine wp_seq ?_
                refine c_block ?_
                refine wp_region_lit ?_
                refine s_fieldAddr hm rfl Try.underlying29 rfl ti23 rfl rfl ?_
                clear hm a; intro a hm
                refine s_load hm rfl rfl (hS.load_one (p := 2) rfl Try.underlying23 rfl rfl) ?_
                clear hm a; intro a hm
                refine s_move hm rfl rfl ?_
                clear hm a; intro a hm
                refine s_move hm rfl rfl ?_
                clear hm a; intro a hm
                refine s_arith (r := w64 (x_93 + 3)) hm rfl rfl rfl (.inl ⟨rfl, rfl⟩) ?_
                clear hm a; intro a hm
                refine s_conv (wu64 (w64 (x_93 + 3))) hm rfl Try.underlying3 Try.underlying38 rfl rfl ?_
                clear hm a; intro a hm
                refine s_shift (r := shr .i64 x1 (wu64 (w64 (x_93 + 3)))) hm rfl rfl rfl (wu64_nn _) (.inr ⟨rfl, rfl⟩) ?_
                clear hm a; intro a hm
                refine s_bits (i := shr .i64 x1 (wu64 (w64 (x_93 + 3)))) (j := 63) (r := band .i64 (shr .i64 x1 (wu64 (w64 (x_93 + 3)))) 63) hm rfl rfl rfl (.inl ⟨rfl, rfl⟩) ?_
                clear hm a; intro a hm
                have hq_108 : Reps (Kd.int .i64) Mem.no ([band .i64 (shr .i64 x1 (wu64 (w64 (x_93 + 3)))) 63] : List Int) _ := ((Reps.one (d := (Kd.int .i64)) (x := band .i64 (shr .i64 x1 (wu64 (w64 (x_93 + 3)))) 63) (show (Kd.int .i64).K _ _ [.int .i64 (band .i64 (shr .i64 x1 (wu64 (w64 (x_93 + 3)))) 63)] from rfl)).append (Reps.nil (Kd.int .i64) _))
                refine s_buildSlice hm rfl Try.underlying23 ti3 rfl rfl rfl (.cons rfl .nil) rfl rfl rfl hS hq_108 rfl ?_
                intro w_104 v_105 M_106 hS' ho_107
                clear hm a; intro a hm
                replace hS : Sep w0 w_104 [N_92, Mem.one g_2 (.cells ([.int .i64 0, .int .i64 0, .int .i64 0, .int .i64 0, .int .i64 0, .int .i64 0, .bool false, .int .i64 0, .int .i64 0, .int .i64 0, .int .i64 0, .slice none 0 0, .int .i64 0, .int .i64 0, .slice none 0 0, .slice none 0 0, .int .i64 0, .int .i64 0, .int .i64 0, .int .i64 0, .int .i64 0, .slice none 0 0, .slice none 0 0, .slice none 0 0] : List Value).toArray 29 (0, 0)), Mem.one g_4 (.cells ([.int .i64 (w64 ((band .i64 x0 7) + 1)), .int .i64 (Int.tmod (band .i64 (shr .i64 x0 3) 7) 7), .int .i64 (Int.tmod (band .i64 (shr .i64 x0 6) 7) 7), .int .i64 (band .i64 (shr .i64 x0 9) 1023), .int .i64 0, .int .i64 0, .bool false, .int .i64 0, .int .i64 0, .int .i64 0, .int .i64 0, .slice none 0 0, .int .i64 (band .i64 x1 1023), .int .i64 (band .i64 (shr .i64 x1 10) 255), v_77, v_97, .int .i64 0, .int .i64 0, .int .i64 0, .int .i64 0, .int .i64 0, .slice none 0 0, .slice none 0 0, .slice none 0 0] : List Value).toArray 29 (0, 0)), M_75, M_95, M_106] Z := hS'
                clear hS' hq_108
                obtain ⟨t_110, et_110, H⟩ := Option.bind_eq_some_iff.1 H
                refine s_append (J := Mem.no) (I' := Mem.no) (p := 4) 17592186044416 hm rfl rfl rfl Try.underlying23 ti3 rfl rfl rfl rfl hS rfl ho_98 (Src.flat (flat_int .i64) (ho_107.src (hS.own 5))) (Mem.le.refl _) (Mem.le.refl _) et_110 ?_
                intro w_111 v_112 M_113 hS' ho_114
                clear hm a; intro a hm
                replace hS : Sep w0 w_111 [N_92, Mem.one g_2 (.cells ([.int .i64 0, .int .i64 0, .int .i64 0, .int .i64 0, .int .i64 0, .int .i64 0, .bool false, .int .i64 0, .int .i64 0, .int .i64 0, .int .i64 0, .slice none 0 0, .int .i64 0, .int .i64 0, .slice none 0 0, .slice none 0 0, .int .i64 0, .int .i64 0, .int .i64 0, .int .i64 0, .int .i64 0, .slice none 0 0, .slice none 0 0, .slice none 0 0] : List Value).toArray 29 (0, 0)), Mem.one g_4 (.cells ([.int .i64 (w64 ((band .i64 x0 7) + 1)), .int .i64 (Int.tmod (band .i64 (shr .i64 x0 3) 7) 7), .int .i64 (Int.tmod (band .i64 (shr .i64 x0 6) 7) 7), .int .i64 (band .i64 (shr .i64 x0 9) 1023), .int .i64 0, .int .i64 0, .bool false, .int .i64 0, .int .i64 0, .int .i64 0, .int .i64 0, .slice none 0 0, .int .i64 (band .i64 x1 1023), .int .i64 (band .i64 (shr .i64 x1 10) 255), v_77, v_97, .int .i64 0, .int .i64 0, .int .i64 0, .int .i64 0, .int .i64 0, .slice none 0 0, .slice none 0 0, .slice none 0 0] : List Value).toArray 29 (0, 0)), M_75, M_113, M_106] Z := hS'
                clear hS'
                refine s_fieldAddr hm rfl Try.underlying29 rfl ti23 rfl rfl ?_
                clear hm a; intro a hm
                obtain ⟨w_116, hs', hS'⟩ := hS.store (P := Try.prog) (p := 2) (o := 15) (t := 23) (v := v_112) (vs := [v_112]) rfl ti23 ho_114.cellsA rfl rfl (by intro u hu; simp only [List.mem_cons, List.not_mem_nil, or_false] at hu; rcases hu with rfl <;> first | rfl | exact ho_114.one)
                refine s_store hm rfl rfl hs' ?_
                replace hS : Sep w0 w_116 [N_92, Mem.one g_2 (.cells ([.int .i64 0, .int .i64 0, .int .i64 0, .int .i64 0, .int .i64 0, .int .i64 0, .bool false, .int .i64 0, .int .i64 0, .int .i64 0, .int .i64 0, .slice none 0 0, .int .i64 0, .int .i64 0, .slice none 0 0, .slice none 0 0, .int .i64 0, .int .i64 0, .int .i64 0, .int .i64 0, .int .i64 0, .slice none 0 0, .slice none 0 0, .slice none 0 0] : List Value).toArray 29 (0, 0)), Mem.one g_4 (.cells ([.int .i64 (w64 ((band .i64 x0 7) + 1)), .int .i64 (Int.tmod (band .i64 (shr .i64 x0 3) 7) 7), .int .i64 (Int.tmod (band .i64 (shr .i64 x0 6) 7) 7), .int .i64 (band .i64 (shr .i64 x0 9) 1023), .int .i64 0, .int .i64 0, .bool false, .int .i64 0, .int .i64 0, .int .i64 0, .int .i64 0, .slice none 0 0, .int .i64 (band .i64 x1 1023), .int .i64 (band .i64 (shr .i64 x1 10) 255), v_77, v_112, .int .i64 0, .int .i64 0, .int .i64 0, .int .i64 0, .int .i64 0, .slice none 0 0, .slice none 0 0, .slice none 0 0] : List Value).toArray 29 (0, 0)), M_75, M_113, M_106] Z := hS'
                clear hs' hS'
                refine wpList_nil ?_
                replace hm : Fr 150 a [(1, .int .i64 x1), (4, .pointer (some ⟨g_2, 0, none⟩)), (5, .pointer (some ⟨g_4, 0, none⟩)), (8, .int .i64 x_93)] := hm.keep [1, 4, 5, 8]
                refine x_block_n ?_
                refine x_then_n ?_
                refine wp_region_lit ?_
                refine s_move hm rfl rfl ?_
                clear hm a; intro a hm
                refine s_arith (r := w64 (x_93 + 1)) hm rfl rfl rfl (.inl ⟨rfl, rfl⟩) ?_
                clear hm a; intro a hm
                refine s_assign hm rfl rfl ?_
                clear hm a; intro a hm
                refine wpList_nil ?_
                replace hm : Fr 150 a [(1, .int .i64 x1), (4, .pointer (some ⟨g_2, 0, none⟩)), (5, .pointer (some ⟨g_4, 0, none⟩)), (8, .int .i64 (w64 (x_93 + 1)))] := hm.keep [1, 4, 5, 8]
                refine x_then_n (hKL_99 _ _ ?_)
                replace hS : Sep w0 w_116 [N_92, Mem.one g_2 (.cells ([.int .i64 0, .int .i64 0, .int .i64 0, .int .i64 0, .int .i64 0, .int .i64 0, .bool false, .int .i64 0, .int .i64 0, .int .i64 0, .int .i64 0, .slice none 0 0, .int .i64 0, .int .i64 0, .slice none 0 0, .slice none 0 0, .int .i64 0, .int .i64 0, .int .i64 0, .int .i64 0, .int .i64 0, .slice none 0 0, .slice none 0 0, .slice none 0 0] : List Value).toArray 29 (0, 0)), Mem.one g_4 (.cells ([.int .i64 (w64 ((band .i64 x0 7) + 1)), .int .i64 (Int.tmod (band .i64 (shr .i64 x0 3) 7) 7), .int .i64 (Int.tmod (band .i64 (shr .i64 x0 6) 7) 7), .int .i64 (band .i64 (shr .i64 x0 9) 1023), .int .i64 0, .int .i64 0, .bool false, .int .i64 0, .int .i64 0, .int .i64 0, .int .i64 0, .slice none 0 0, .int .i64 (band .i64 x1 1023), .int .i64 (band .i64 (shr .i64 x1 10) 255), v_77, v_112, .int .i64 0, .int .i64 0, .int .i64 0, .int .i64 0, .int .i64 0, .slice none 0 0, .slice none 0 0, .slice none 0 0] : List Value).toArray 29 (0, 0)), M_75, M_113, M_106] Z := hS
                replace hm : Fr 150 a [(1, .int .i64 x1), (4, .pointer (some ⟨g_2, 0, none⟩)), (5, .pointer (some ⟨g_4, 0, none⟩)), (8, .int .i64 (w64 (x_93 + 1)))] := hm.keep [1, 4, 5, 8]
                exact ⟨w64 (x_93 + 1), t_110, v_112, N_92, M_113, H, hm, (Sep.sel hS [0, 1, 2, 3, 4] (by decide)), le_92, ho_114⟩
              · rw [if_neg hc_103] at H
                refine c_cond_f hm rfl (decide_eq_false hc_103) ?_
                refine wp_exit (x_then_x (x_then_x (x_block_t ?_)))
                replace hS : Sep w0 w_99 [N_92, Mem.one g_2 (.cells ([.int .i64 0, .int .i64 0, .int .i64 0, .int .i64 0, .int .i64 0, .int .i64 0, .bool false, .int .i64 0, .int .i64 0, .int .i64 0, .int .i64 0, .slice none 0 0, .int .i64 0, .int .i64 0, .slice none 0 0, .slice none 0 0, .int .i64 0, .int .i64 0, .int .i64 0, .int .i64 0, .int .i64 0, .slice none 0 0, .slice none 0 0, .slice none 0 0] : List Value).toArray 29 (0, 0)), Mem.one g_4 (.cells ([.int .i64 (w64 ((band .i64 x0 7) + 1)), .int .i64 (Int.tmod (band .i64 (shr .i64 x0 3) 7) 7), .int .i64 (Int.tmod (band .i64 (shr .i64 x0 6) 7) 7), .int .i64 (band .i64 (shr .i64 x0 9) 1023), .int .i64 0, .int .i64 0, .bool false, .int .i64 0, .int .i64 0, .int .i64 0, .int .i64 0, .slice none 0 0, .int .i64 (band .i64 x1 1023), .int .i64 (band .i64 (shr .i64 x1 10) 255), v_77, v_97, .int .i64 0, .int .i64 0, .int .i64 0, .int .i64 0, .int .i64 0, .slice none 0 0, .slice none 0 0, .slice none 0 0] : List Value).toArray 29 (0, 0)), M_75, M_95] Z := hS
                replace hm : Fr 150 a [(4, .pointer (some ⟨g_2, 0, none⟩)), (5, .pointer (some ⟨g_4, 0, none⟩))] := hm.keep [4, 5]
                exact x_then_n (hJ_j_89 x_94 H _ _ ⟨v_97, N_92, M_95, hm, (Sep.sel hS [0, 1, 2, 3, 4] (by decide)), le_92, ho_98⟩)
            clear hKJ_72
            have hS' := hS.room
            replace hS : Sep w0 w_71 [Mem.no, Mem.one g_2 (.cells ([.int .i64 0, .int .i64 0, .int .i64 0, .int .i64 0, .int .i64 0, .int .i64 0, .bool false, .int .i64 0, .int .i64 0, .int .i64 0, .int .i64 0, .slice none 0 0, .int .i64 0, .int .i64 0, .slice none 0 0, .slice none 0 0, .int .i64 0, .int .i64 0, .int .i64 0, .int .i64 0, .int .i64 0, .slice none 0 0, .slice none 0 0, .slice none 0 0] : List Value).toArray 29 (0, 0)), Mem.one g_4 (.cells ([.int .i64 (w64 ((band .i64 x0 7) + 1)), .int .i64 (Int.tmod (band .i64 (shr .i64 x0 3) 7) 7), .int .i64 (Int.tmod (band .i64 (shr .i64 x0 6) 7) 7), .int .i64 (band .i64 (shr .i64 x0 9) 1023), .int .i64 0, .int .i64 0, .bool false, .int .i64 0, .int .i64 0, .int .i64 0, .int .i64 0, .slice none 0 0, .int .i64 (band .i64 x1 1023), .int .i64 (band .i64 (shr .i64 x1 10) 255), .slice none 0 0, .slice none 0 0, .int .i64 0, .int .i64 0, .int .i64 0, .int .i64 0, .int .i64 0, .slice none 0 0, .slice none 0 0, .slice none 0 0] : List Value).toArray 29 (0, 0)), Mem.no] Z := hS'
            clear hS'
            replace hS : Sep w0 w_71 [Mem.no, Mem.one g_2 (.cells ([.int .i64 0, .int .i64 0, .int .i64 0, .int .i64 0, .int .i64 0, .int .i64 0, .bool false, .int .i64 0, .int .i64 0, .int .i64 0, .int .i64 0, .slice none 0 0, .int .i64 0, .int .i64 0, .slice none 0 0, .slice none 0 0, .int .i64 0, .int .i64 0, .int .i64 0, .int .i64 0, .int .i64 0, .slice none 0 0, .slice none 0 0, .slice none 0 0] : List Value).toArray 29 (0, 0)), Mem.one g_4 (.cells ([.int .i64 (w64 ((band .i64 x0 7) + 1)), .int .i64 (Int.tmod (band .i64 (shr .i64 x0 3) 7) 7), .int .i64 (Int.tmod (band .i64 (shr .i64 x0 6) 7) 7), .int .i64 (band .i64 (shr .i64 x0 9) 1023), .int .i64 0, .int .i64 0, .bool false, .int .i64 0, .int .i64 0, .int .i64 0, .int .i64 0, .slice none 0 0, .int .i64 (band .i64 x1 1023), .int .i64 (band .i64 (shr .i64 x1 10) 255), .slice none 0 0, .slice none 0 0, .int .i64 0, .int .i64 0, .int .i64 0, .int .i64 0, .int .i64 0, .slice none 0 0, .slice none 0 0, .slice none 0 0] : List Value).toArray 29 (0, 0)), Mem.no] Z := hS
            replace hm : Fr 150 a [(1, .int .i64 x1), (4, .pointer (some ⟨g_2, 0, none⟩)), (5, .pointer (some ⟨g_4, 0, none⟩)), (7, .int .i64 0)] := hm.keep [1, 4, 5, 7]
            refine c_block ?_
            refine c_loop (fun k_124 a w_124 => ∃ (x_118 : Int) (x_119 : List Int) (v_122 : Value) (N_117 : Mem) (M_120 : Mem), hocketlaw11_Msg.L3 K x1 (fun v => hocketlaw11_Msg.J2 K x1 x0 v) k_124 (x_118, x_119) = some r ∧ Fr 150 a [(1, .int .i64 x1), (4, .pointer (some ⟨g_2, 0, none⟩)), (5, .pointer (some ⟨g_4, 0, none⟩)), (7, .int .i64 x_118)] ∧ Sep w0 w_124 [N_117, Mem.one g_2 (.cells ([.int .i64 0, .int .i64 0, .int .i64 0, .int .i64 0, .int .i64 0, .int .i64 0, .bool false, .int .i64 0, .int .i64 0, .int .i64 0, .int .i64 0, .slice none 0 0, .int .i64 0, .int .i64 0, .slice none 0 0, .slice none 0 0, .int .i64 0, .int .i64 0, .int .i64 0, .int .i64 0, .int .i64 0, .slice none 0 0, .slice none 0 0, .slice none 0 0] : List Value).toArray 29 (0, 0)), Mem.one g_4 (.cells ([.int .i64 (w64 ((band .i64 x0 7) + 1)), .int .i64 (Int.tmod (band .i64 (shr .i64 x0 3) 7) 7), .int .i64 (Int.tmod (band .i64 (shr .i64 x0 6) 7) 7), .int .i64 (band .i64 (shr .i64 x0 9) 1023), .int .i64 0, .int .i64 0, .bool false, .int .i64 0, .int .i64 0, .int .i64 0, .int .i64 0, .slice none 0 0, .int .i64 (band .i64 x1 1023), .int .i64 (band .i64 (shr .i64 x1 10) 255), v_122, .slice none 0 0, .int .i64 0, .int .i64 0, .int .i64 0, .int .i64 0, .int .i64 0, .slice none 0 0, .slice none 0 0, .slice none 0 0] : List Value).toArray 29 (0, 0)), M_120] Z ∧ Mem.no.le N_117 ∧ Own (Kd.int .i64) 3 M_120 Mem.no v_122 x_119) K ⟨0, ([] : List Int), .slice none 0 0, Mem.no, Mem.no, H, hm, (Sep.sel hS [0, 1, 2, 3] (by decide)), (Mem.le.refl _), (Own.nil (Kd.int .i64) 3 Mem.no)⟩ (fun a w h => by obtain ⟨_, _, _, _, _, H, _⟩ := h; cases (show (none : Option (api_Msg)) = some r from H)) ?_
            clear hm hS a H
            rintro k_124 a w_124 KL_124 hKL_124 ⟨x_118, x_119, v_122, N_117, M_120, H, hm, hS, le_117, ho_123⟩
            replace H : hocketlaw11_Msg.B3 K x1 (fun v => hocketlaw11_Msg.J2 K x1 x0 v) (hocketlaw11_Msg.L3 K x1 (fun v => hocketlaw11_Msg.J2 K x1 x0 v) k_124) x_118 x_119 = some r := H
            unfold hocketlaw11_Msg.B3 at H
            refine c_seq fun KJ_127 hKJ_127 => ?_
            refine wp_seq ?_
            refine wp_region_lit ?_
            refine s_move hm rfl rfl ?_
            clear hm a; intro a hm
            refine s_move hm rfl rfl ?_
            clear hm a; intro a hm
            refine s_shift (r := shr .i64 x1 18) hm rfl rfl rfl (by decide) (.inr ⟨rfl, rfl⟩) ?_
            clear hm a; intro a hm
            refine s_bits (i := shr .i64 x1 18) (j := 7) (r := band .i64 (shr .i64 x1 18) 7) hm rfl rfl rfl (.inl ⟨rfl, rfl⟩) ?_
            clear hm a; intro a hm
            refine s_cmp (b := decide (x_118 < (band .i64 (shr .i64 x1 18) 7))) hm rfl rfl rfl (.inr (.inr (.inl ⟨rfl, rfl⟩))) ?_
            clear hm a; intro a hm
            refine wpList_nil ?_
            replace hm : Fr 150 a [(1, .int .i64 x1), (4, .pointer (some ⟨g_2, 0, none⟩)), (5, .pointer (some ⟨g_4, 0, none⟩)), (7, .int .i64 x_118), (99, .bool (decide (x_118 < (band .i64 (shr .i64 x1 18) 7))))] := hm.keep [1, 4, 5, 7, 99]
            refine x_then_n ?_
            by_cases hc_128 : x_118 < (band .i64 (shr .i64 x1 18) 7)
            · rw [if_pos hc_128] at H
              refine c_cond_t hm rfl (decide_eq_true hc_128) ?_
              refine wp_skip ?_
              refine x_then_n (hKJ_127 _ _ ?_)
              refine wp_seq ?_
              refine c_block ?_
              refine wp_region_lit ?_
              refine s_fieldAddr hm rfl Try.underlying29 rfl ti23 rfl rfl ?_
              clear hm a; intro a hm
              refine s_load hm rfl rfl (hS.load_one (p := 2) rfl Try.underlying23 rfl rfl) ?_
              clear hm a; intro a hm
              refine s_move hm rfl rfl ?_
              clear hm a; intro a hm
              refine s_move hm rfl rfl ?_
              clear hm a; intro a hm
              refine s_conv (wu64 x_118) hm rfl Try.underlying3 Try.underlying38 rfl rfl ?_
              clear hm a; intro a hm
              refine s_shift (r := shr .i64 x1 (wu64 x_118)) hm rfl rfl rfl (wu64_nn _) (.inr ⟨rfl, rfl⟩) ?_
              clear hm a; intro a hm
              refine s_bits (i := shr .i64 x1 (wu64 x_118)) (j := 63) (r := band .i64 (shr .i64 x1 (wu64 x_118)) 63) hm rfl rfl rfl (.inl ⟨rfl, rfl⟩) ?_
              clear hm a; intro a hm
              have hq_133 : Reps (Kd.int .i64) Mem.no ([band .i64 (shr .i64 x1 (wu64 x_118)) 63] : List Int) _ := ((Reps.one (d := (Kd.int .i64)) (x := band .i64 (shr .i64 x1 (wu64 x_118)) 63) (show (Kd.int .i64).K _ _ [.int .i64 (band .i64 (shr .i64 x1 (wu64 x_118)) 63)] from rfl)).append (Reps.nil (Kd.int .i64) _))
              refine s_buildSlice hm rfl Try.underlying23 ti3 rfl rfl rfl (.cons rfl .nil) rfl rfl rfl hS hq_133 rfl ?_
              intro w_129 v_130 M_131 hS' ho_132
              clear hm a; intro a hm
              replace hS : Sep w0 w_129 [N_117, Mem.one g_2 (.cells ([.int .i64 0, .int .i64 0, .int .i64 0, .int .i64 0, .int .i64 0, .int .i64 0, .bool false, .int .i64 0, .int .i64 0, .int .i64 0, .int .i64 0, .slice none 0 0, .int .i64 0, .int .i64 0, .slice none 0 0, .slice none 0 0, .int .i64 0, .int .i64 0, .int .i64 0, .int .i64 0, .int .i64 0, .slice none 0 0, .slice none 0 0, .slice none 0 0] : List Value).toArray 29 (0, 0)), Mem.one g_4 (.cells ([.int .i64 (w64 ((band .i64 x0 7) + 1)), .int .i64 (Int.tmod (band .i64 (shr .i64 x0 3) 7) 7), .int .i64 (Int.tmod (band .i64 (shr .i64 x0 6) 7) 7), .int .i64 (band .i64 (shr .i64 x0 9) 1023), .int .i64 0, .int .i64 0, .bool false, .int .i64 0, .int .i64 0, .int .i64 0, .int .i64 0, .slice none 0 0, .int .i64 (band .i64 x1 1023), .int .i64 (band .i64 (shr .i64 x1 10) 255), v_122, .slice none 0 0, .int .i64 0, .int .i64 0, .int .i64 0, .int .i64 0, .int .i64 0, .slice none 0 0, .slice none 0 0, .slice none 0 0] : List Value).toArray 29 (0, 0)), M_120, M_131] Z := hS'
              clear hS' hq_133
              obtain ⟨t_135, et_135, H⟩ := Option.bind_eq_some_iff.1 H
              refine s_append (J := Mem.no) (I' := Mem.no) (p := 3) 17592186044416 hm rfl rfl rfl Try.underlying23 ti3 rfl rfl rfl rfl hS rfl ho_123 (Src.flat (flat_int .i64) (ho_132.src (hS.own 4))) (Mem.le.refl _) (Mem.le.refl _) et_135 ?_
              intro w_136 v_137 M_138 hS' ho_139
              clear hm a; intro a hm
              replace hS : Sep w0 w_136 [N_117, Mem.one g_2 (.cells ([.int .i64 0, .int .i64 0, .int .i64 0, .int .i64 0, .int .i64 0, .int .i64 0, .bool false, .int .i64 0, .int .i64 0, .int .i64 0, .int .i64 0, .slice none 0 0, .int .i64 0, .int .i64 0, .slice none 0 0, .slice none 0 0, .int .i64 0, .int .i64 0, .int .i64 0, .int .i64 0, .int .i64 0, .slice none 0 0, .slice none 0 0, .slice none 0 0] : List Value).toArray 29 (0, 0)), Mem.one g_4 (.cells ([.int .i64 (w64 ((band .i64 x0 7) + 1)), .int .i64 (Int.tmod (band .i64 (shr .i64 x0 3) 7) 7), .int .i64 (Int.tmod (band .i64 (shr .i64 x0 6) 7) 7), .int .i64 (band .i64 (shr .i64 x0 9) 1023), .int .i64 0, .int .i64 0, .bool false, .int .i64 0, .int .i64 0, .int .i64 0, .int .i64 0, .slice none 0 0, .int .i64 (band .i64 x1 1023), .int .i64 (band .i64 (shr .i64 x1 10) 255), v_122, .slice none 0 0, .int .i64 0, .int .i64 0, .int .i64 0, .int .i64 0, .int .i64 0, .slice none 0 0, .slice none 0 0, .slice none 0 0] : List Value).toArray 29 (0, 0)), M_138, M_131] Z := hS'
              clear hS'
              refine s_fieldAddr hm rfl Try.underlying29 rfl ti23 rfl rfl ?_
              clear hm a; intro a hm
              obtain ⟨w_141, hs', hS'⟩ := hS.store (P := Try.prog) (p := 2) (o := 14) (t := 23) (v := v_137) (vs := [v_137]) rfl ti23 ho_139.cellsA rfl rfl (by intro u hu; simp only [List.mem_cons, List.not_mem_nil, or_false] at hu; rcases hu with rfl <;> first | rfl | exact ho_139.one)
              refine s_store hm rfl rfl hs' ?_
              replace hS : Sep w0 w_141 [N_117, Mem.one g_2 (.cells ([.int .i64 0, .int .i64 0, .int .i64 0, .int .i64 0, .int .i64 0, .int .i64 0, .bool false, .int .i64 0, .int .i64 0, .int .i64 0, .int .i64 0, .slice none 0 0, .int .i64 0, .int .i64 0, .slice none 0 0, .slice none 0 0, .int .i64 0, .int .i64 0, .int .i64 0, .int .i64 0, .int .i64 0, .slice none 0 0, .slice none 0 0, .slice none 0 0] : List Value).toArray 29 (0, 0)), Mem.one g_4 (.cells ([.int .i64 (w64 ((band .i64 x0 7) + 1)), .int .i64 (Int.tmod (band .i64 (shr .i64 x0 3) 7) 7), .int .i64 (Int.tmod (band .i64 (shr .i64 x0 6) 7) 7), .int .i64 (band .i64 (shr .i64 x0 9) 1023), .int .i64 0, .int .i64 0, .bool false, .int .i64 0, .int .i64 0, .int .i64 0, .int .i64 0, .slice none 0 0, .int .i64 (band .i64 x1 1023), .int .i64 (band .i64 (shr .i64 x1 10) 255), v_137, .slice none 0 0, .int .i64 0, .int .i64 0, .int .i64 0, .int .i64 0, .int .i64 0, .slice none 0 0, .slice none 0 0, .slice none 0 0] : List Value).toArray 29 (0, 0)), M_138, M_131] Z := hS'
              clear hs' hS'
              refine wpList_nil ?_
              replace hm : Fr 150 a [(1, .int .i64 x1), (4, .pointer (some ⟨g_2, 0, none⟩)), (5, .pointer (some ⟨g_4, 0, none⟩)), (7, .int .i64 x_118)] := hm.keep [1, 4, 5, 7]
              refine x_block_n ?_
              refine x_then_n ?_
              refine wp_region_lit ?_
              refine s_move hm rfl rfl ?_
              clear hm a; intro a hm
              refine s_arith (r := w64 (x_118 + 1)) hm rfl rfl rfl (.inl ⟨rfl, rfl⟩) ?_
              clear hm a; intro a hm
              refine s_assign hm rfl rfl ?_
              clear hm a; intro a hm
              refine wpList_nil ?_
              replace hm : Fr 150 a [(1, .int .i64 x1), (4, .pointer (some ⟨g_2, 0, none⟩)), (5, .pointer (some ⟨g_4, 0, none⟩)), (7, .int .i64 (w64 (x_118 + 1)))] := hm.keep [1, 4, 5, 7]
              refine x_then_n (hKL_124 _ _ ?_)
              replace hS : Sep w0 w_141 [N_117, Mem.one g_2 (.cells ([.int .i64 0, .int .i64 0, .int .i64 0, .int .i64 0, .int .i64 0, .int .i64 0, .bool false, .int .i64 0, .int .i64 0, .int .i64 0, .int .i64 0, .slice none 0 0, .int .i64 0, .int .i64 0, .slice none 0 0, .slice none 0 0, .int .i64 0, .int .i64 0, .int .i64 0, .int .i64 0, .int .i64 0, .slice none 0 0, .slice none 0 0, .slice none 0 0] : List Value).toArray 29 (0, 0)), Mem.one g_4 (.cells ([.int .i64 (w64 ((band .i64 x0 7) + 1)), .int .i64 (Int.tmod (band .i64 (shr .i64 x0 3) 7) 7), .int .i64 (Int.tmod (band .i64 (shr .i64 x0 6) 7) 7), .int .i64 (band .i64 (shr .i64 x0 9) 1023), .int .i64 0, .int .i64 0, .bool false, .int .i64 0, .int .i64 0, .int .i64 0, .int .i64 0, .slice none 0 0, .int .i64 (band .i64 x1 1023), .int .i64 (band .i64 (shr .i64 x1 10) 255), v_137, .slice none 0 0, .int .i64 0, .int .i64 0, .int .i64 0, .int .i64 0, .int .i64 0, .slice none 0 0, .slice none 0 0, .slice none 0 0] : List Value).toArray 29 (0, 0)), M_138, M_131] Z := hS
              replace hm : Fr 150 a [(1, .int .i64 x1), (4, .pointer (some ⟨g_2, 0, none⟩)), (5, .pointer (some ⟨g_4, 0, none⟩)), (7, .int .i64 (w64 (x_118 + 1)))] := hm.keep [1, 4, 5, 7]
              exact ⟨w64 (x_118 + 1), t_135, v_137, N_117, M_138, H, hm, (Sep.sel hS [0, 1, 2, 3] (by decide)), le_117, ho_139⟩
            · rw [if_neg hc_128] at H
              refine c_cond_f hm rfl (decide_eq_false hc_128) ?_
              refine wp_exit (x_then_x (x_then_x (x_block_t ?_)))
              replace hS : Sep w0 w_124 [N_117, Mem.one g_2 (.cells ([.int .i64 0, .int .i64 0, .int .i64 0, .int .i64 0, .int .i64 0, .int .i64 0, .bool false, .int .i64 0, .int .i64 0, .int .i64 0, .int .i64 0, .slice none 0 0, .int .i64 0, .int .i64 0, .slice none 0 0, .slice none 0 0, .int .i64 0, .int .i64 0, .int .i64 0, .int .i64 0, .int .i64 0, .slice none 0 0, .slice none 0 0, .slice none 0 0] : List Value).toArray 29 (0, 0)), Mem.one g_4 (.cells ([.int .i64 (w64 ((band .i64 x0 7) + 1)), .int .i64 (Int.tmod (band .i64 (shr .i64 x0 3) 7) 7), .int .i64 (Int.tmod (band .i64 (shr .i64 x0 6) 7) 7), .int .i64 (band .i64 (shr .i64 x0 9) 1023), .int .i64 0, .int .i64 0, .bool false, .int .i64 0, .int .i64 0, .int .i64 0, .int .i64 0, .slice none 0 0, .int .i64 (band .i64 x1 1023), .int .i64 (band .i64 (shr .i64 x1 10) 255), v_122, .slice none 0 0, .int .i64 0, .int .i64 0, .int .i64 0, .int .i64 0, .int .i64 0, .slice none 0 0, .slice none 0 0, .slice none 0 0] : List Value).toArray 29 (0, 0)), M_120] Z := hS
              replace hm : Fr 150 a [(1, .int .i64 x1), (4, .pointer (some ⟨g_2, 0, none⟩)), (5, .pointer (some ⟨g_4, 0, none⟩))] := hm.keep [1, 4, 5]
              exact x_then_n (hJ_j_80 x_119 H _ _ ⟨v_122, N_117, M_120, hm, (Sep.sel hS [0, 1, 2, 3] (by decide)), le_117, ho_123⟩)
          · rw [if_neg hc_69] at H
            refine c_cond_f hm rfl (beq_eq_false_iff_ne.2 hc_69) ?_
            refine wp_seq ?_
            refine wp_region_lit ?_
            refine s_cmp (b := ((w64 ((band .i64 x0 7) + 1)) == 8)) hm rfl rfl rfl (.inl ⟨rfl, rfl⟩) ?_
            clear hm a; intro a hm
            refine s_assign hm rfl rfl ?_
            clear hm a; intro a hm
            refine wpList_nil ?_
            replace hm : Fr 150 a [(0, .int .i64 x0), (1, .int .i64 x1), (4, .pointer (some ⟨g_2, 0, none⟩)), (5, .pointer (some ⟨g_4, 0, none⟩)), (130, .bool ((w64 ((band .i64 x0 7) + 1)) == 8))] := hm.keep [0, 1, 4, 5, 130]
            refine x_then_n ?_
            by_cases hc_142 : (w64 ((band .i64 x0 7) + 1)) = 8
            · rw [if_pos hc_142] at H
              refine c_cond_t hm rfl (beq_iff_eq.2 hc_142) ?_
              refine wp_seq ?_
              refine wp_region_lit ?_
              refine s_move hm rfl rfl ?_
              clear hm a; intro a hm
              refine s_bits (i := x1) (j := 1023) (r := band .i64 x1 1023) hm rfl rfl rfl (.inl ⟨rfl, rfl⟩) ?_
              clear hm a; intro a hm
              refine s_move hm rfl rfl ?_
              clear hm a; intro a hm
              refine s_move hm rfl rfl ?_
              clear hm a; intro a hm
              refine s_shift (r := shr .i64 x1 10) hm rfl rfl rfl (by decide) (.inr ⟨rfl, rfl⟩) ?_
              clear hm a; intro a hm
              refine s_bits (i := shr .i64 x1 10) (j := 63) (r := band .i64 (shr .i64 x1 10) 63) hm rfl rfl rfl (.inl ⟨rfl, rfl⟩) ?_
              clear hm a; intro a hm
              obtain ⟨t_143, et_143, H⟩ := Option.bind_eq_some_iff.1 H
              refine s_call hm rfl Try.call61 rfl (hocketlaw10_Entry.calls x0 (band .i64 (shr .i64 x1 10) 63) t_143 w0 _ _ _ (Mem.le.refl _) (hS.enter [] (by decide))  et_143) ?_
              rintro _ w_144 ⟨v_147, v_149, v_151, N_145, rfl, hS', hr_148, hr_150, hr_152⟩
              clear hm a; intro a hm
              obtain ⟨N_146, hS'', le_146, ln_146⟩ := hS.call [] (by decide) rfl (l' := []) (ow := []) rfl hS'
              replace hS : Sep w0 w_144 [N_146, Mem.one g_2 (.cells ([.int .i64 0, .int .i64 0, .int .i64 0, .int .i64 0, .int .i64 0, .int .i64 0, .bool false, .int .i64 0, .int .i64 0, .int .i64 0, .int .i64 0, .slice none 0 0, .int .i64 0, .int .i64 0, .slice none 0 0, .slice none 0 0, .int .i64 0, .int .i64 0, .int .i64 0, .int .i64 0, .int .i64 0, .slice none 0 0, .slice none 0 0, .slice none 0 0] : List Value).toArray 29 (0, 0)), Mem.one g_4 (.cells ([.int .i64 (w64 ((band .i64 x0 7) + 1)), .int .i64 (Int.tmod (band .i64 (shr .i64 x0 3) 7) 7), .int .i64 (Int.tmod (band .i64 (shr .i64 x0 6) 7) 7), .int .i64 (band .i64 (shr .i64 x0 9) 1023), .int .i64 0, .int .i64 0, .bool false, .int .i64 0, .int .i64 0, .int .i64 0, .int .i64 0, .slice none 0 0, .int .i64 0, .int .i64 0, .slice none 0 0, .slice none 0 0, .int .i64 0, .int .i64 0, .int .i64 0, .int .i64 0, .int .i64 0, .slice none 0 0, .slice none 0 0, .slice none 0 0] : List Value).toArray 29 (0, 0))] Z := hS''
              clear hS' hS''
              refine s_fieldAddr hm rfl Try.underlying29 rfl ti3 rfl rfl ?_
              clear hm a; intro a hm
              obtain ⟨w_153, hs', hS'⟩ := hS.store (P := Try.prog) (p := 2) (o := 16) (t := 3) (v := .int .i64 (band .i64 x1 1023)) (vs := [.int .i64 (band .i64 x1 1023)]) rfl ti3 rfl rfl rfl (by intro u hu; simp only [List.mem_cons, List.not_mem_nil, or_false] at hu; rcases hu with rfl <;> rfl)
              refine s_store hm rfl rfl hs' ?_
              replace hS : Sep w0 w_153 [N_146, Mem.one g_2 (.cells ([.int .i64 0, .int .i64 0, .int .i64 0, .int .i64 0, .int .i64 0, .int .i64 0, .bool false, .int .i64 0, .int .i64 0, .int .i64 0, .int .i64 0, .slice none 0 0, .int .i64 0, .int .i64 0, .slice none 0 0, .slice none 0 0, .int .i64 0, .int .i64 0, .int .i64 0, .int .i64 0, .int .i64 0, .slice none 0 0, .slice none 0 0, .slice none 0 0] : List Value).toArray 29 (0, 0)), Mem.one g_4 (.cells ([.int .i64 (w64 ((band .i64 x0 7) + 1)), .int .i64 (Int.tmod (band .i64 (shr .i64 x0 3) 7) 7), .int .i64 (Int.tmod (band .i64 (shr .i64 x0 6) 7) 7), .int .i64 (band .i64 (shr .i64 x0 9) 1023), .int .i64 0, .int .i64 0, .bool false, .int .i64 0, .int .i64 0, .int .i64 0, .int .i64 0, .slice none 0 0, .int .i64 0, .int .i64 0, .slice none 0 0, .slice none 0 0, .int .i64 (band .i64 x1 1023), .int .i64 0, .int .i64 0, .int .i64 0, .int .i64 0, .slice none 0 0, .slice none 0 0, .slice none 0 0] : List Value).toArray 29 (0, 0))] Z := hS'
              clear hs' hS'
              refine s_fieldAddr hm rfl Try.underlying29 rfl ti27 rfl rfl ?_
              clear hm a; intro a hm
              obtain ⟨w_154, hs', hS'⟩ := hS.store (P := Try.prog) (p := 2) (o := 17) (t := 27) (v := .agg ([.int .i64 t_143.Sess, .int .i64 t_143.Seq, .int .i64 t_143.Cmd.Kind, .int .i64 t_143.Cmd.Who, v_147, v_149, v_151] : List Value).toArray) (vs := [.int .i64 t_143.Sess, .int .i64 t_143.Seq, .int .i64 t_143.Cmd.Kind, .int .i64 t_143.Cmd.Who, v_147, v_149, v_151]) rfl ti27 rfl rfl rfl (by intro u hu; simp only [List.mem_cons, List.not_mem_nil, or_false] at hu; rcases hu with rfl | rfl | rfl | rfl | rfl | rfl | rfl <;> first | rfl | exact (hr_148.mono ln_146).one | exact (hr_150.mono ln_146).one | exact (hr_152.mono ln_146).one)
              refine s_store hm rfl rfl hs' ?_
              replace hS : Sep w0 w_154 [N_146, Mem.one g_2 (.cells ([.int .i64 0, .int .i64 0, .int .i64 0, .int .i64 0, .int .i64 0, .int .i64 0, .bool false, .int .i64 0, .int .i64 0, .int .i64 0, .int .i64 0, .slice none 0 0, .int .i64 0, .int .i64 0, .slice none 0 0, .slice none 0 0, .int .i64 0, .int .i64 0, .int .i64 0, .int .i64 0, .int .i64 0, .slice none 0 0, .slice none 0 0, .slice none 0 0] : List Value).toArray 29 (0, 0)), Mem.one g_4 (.cells ([.int .i64 (w64 ((band .i64 x0 7) + 1)), .int .i64 (Int.tmod (band .i64 (shr .i64 x0 3) 7) 7), .int .i64 (Int.tmod (band .i64 (shr .i64 x0 6) 7) 7), .int .i64 (band .i64 (shr .i64 x0 9) 1023), .int .i64 0, .int .i64 0, .bool false, .int .i64 0, .int .i64 0, .int .i64 0, .int .i64 0, .slice none 0 0, .int .i64 0, .int .i64 0, .slice none 0 0, .slice none 0 0, .int .i64 (band .i64 x1 1023), .int .i64 t_143.Sess, .int .i64 t_143.Seq, .int .i64 t_143.Cmd.Kind, .int .i64 t_143.Cmd.Who, v_147, v_149, v_151] : List Value).toArray 29 (0, 0))] Z := hS'
              clear hs' hS'
              refine wpList_nil ?_
              replace hm : Fr 150 a [(4, .pointer (some ⟨g_2, 0, none⟩)), (5, .pointer (some ⟨g_4, 0, none⟩))] := hm.keep [4, 5]
              refine x_then_n ?_
              refine wp_region_lit ?_
              refine s_fieldAddr hm rfl Try.underlying29 rfl ti27 rfl rfl ?_
              clear hm a; intro a hm
              refine s_fieldAddr hm rfl Try.underlying27 rfl ti25 rfl rfl ?_
              clear hm a; intro a hm
              refine s_fieldAddr hm rfl Try.underlying25 rfl ti3 rfl rfl ?_
              clear hm a; intro a hm
              refine s_load hm rfl rfl (hS.load_one (p := 2) rfl Try.underlying3 rfl rfl) ?_
              clear hm a; intro a hm
              refine s_max hm rfl rfl rfl ?_
              clear hm a; intro a hm
              refine s_fieldAddr hm rfl Try.underlying29 rfl ti27 rfl rfl ?_
              clear hm a; intro a hm
              refine s_fieldAddr hm rfl Try.underlying27 rfl ti25 rfl rfl ?_
              clear hm a; intro a hm
              refine s_fieldAddr hm rfl Try.underlying25 rfl ti3 rfl rfl ?_
              clear hm a; intro a hm
              obtain ⟨w_155, hs', hS'⟩ := hS.store (P := Try.prog) (p := 2) (o := 20) (t := 3) (v := .int .i64 (mx t_143.Cmd.Who 0)) (vs := [.int .i64 (mx t_143.Cmd.Who 0)]) rfl ti3 rfl rfl rfl (by intro u hu; simp only [List.mem_cons, List.not_mem_nil, or_false] at hu; rcases hu with rfl <;> rfl)
              refine s_store hm rfl rfl hs' ?_
              replace hS : Sep w0 w_155 [N_146, Mem.one g_2 (.cells ([.int .i64 0, .int .i64 0, .int .i64 0, .int .i64 0, .int .i64 0, .int .i64 0, .bool false, .int .i64 0, .int .i64 0, .int .i64 0, .int .i64 0, .slice none 0 0, .int .i64 0, .int .i64 0, .slice none 0 0, .slice none 0 0, .int .i64 0, .int .i64 0, .int .i64 0, .int .i64 0, .int .i64 0, .slice none 0 0, .slice none 0 0, .slice none 0 0] : List Value).toArray 29 (0, 0)), Mem.one g_4 (.cells ([.int .i64 (w64 ((band .i64 x0 7) + 1)), .int .i64 (Int.tmod (band .i64 (shr .i64 x0 3) 7) 7), .int .i64 (Int.tmod (band .i64 (shr .i64 x0 6) 7) 7), .int .i64 (band .i64 (shr .i64 x0 9) 1023), .int .i64 0, .int .i64 0, .bool false, .int .i64 0, .int .i64 0, .int .i64 0, .int .i64 0, .slice none 0 0, .int .i64 0, .int .i64 0, .slice none 0 0, .slice none 0 0, .int .i64 (band .i64 x1 1023), .int .i64 t_143.Sess, .int .i64 t_143.Seq, .int .i64 t_143.Cmd.Kind, .int .i64 (mx t_143.Cmd.Who 0), v_147, v_149, v_151] : List Value).toArray 29 (0, 0))] Z := hS'
              clear hs' hS'
              refine wpList_nil ?_
              replace hm : Fr 150 a [(4, .pointer (some ⟨g_2, 0, none⟩)), (5, .pointer (some ⟨g_4, 0, none⟩))] := hm.keep [4, 5]
              refine x_block_n ?_
              refine x_then_n (hKJ_6 _ _ ?_)
              refine wp_seq ?_
              refine wp_region_lit ?_
              refine s_load hm rfl rfl (hS.load_agg (p := 2) (us := [.int .i64 (w64 ((band .i64 x0 7) + 1)), .int .i64 (Int.tmod (band .i64 (shr .i64 x0 3) 7) 7), .int .i64 (Int.tmod (band .i64 (shr .i64 x0 6) 7) 7), .int .i64 (band .i64 (shr .i64 x0 9) 1023), .int .i64 0, .int .i64 0, .bool false, .int .i64 0, .int .i64 0, .int .i64 0, .int .i64 0, .slice none 0 0, .int .i64 0, .int .i64 0, .slice none 0 0, .slice none 0 0, .int .i64 (band .i64 x1 1023), .int .i64 t_143.Sess, .int .i64 t_143.Seq, .int .i64 t_143.Cmd.Kind, .int .i64 (mx t_143.Cmd.Who 0), v_147, v_149, v_151]) rfl Try.underlying29 rfl ti29 rfl rfl) ?_
              clear hm a; intro a hm
              obtain ⟨w_156, hs', hS'⟩ := hS.store (P := Try.prog) (p := 1) (o := 0) (t := 29) (v := .agg ([.int .i64 (w64 ((band .i64 x0 7) + 1)), .int .i64 (Int.tmod (band .i64 (shr .i64 x0 3) 7) 7), .int .i64 (Int.tmod (band .i64 (shr .i64 x0 6) 7) 7), .int .i64 (band .i64 (shr .i64 x0 9) 1023), .int .i64 0, .int .i64 0, .bool false, .int .i64 0, .int .i64 0, .int .i64 0, .int .i64 0, .slice none 0 0, .int .i64 0, .int .i64 0, .slice none 0 0, .slice none 0 0, .int .i64 (band .i64 x1 1023), .int .i64 t_143.Sess, .int .i64 t_143.Seq, .int .i64 t_143.Cmd.Kind, .int .i64 (mx t_143.Cmd.Who 0), v_147, v_149, v_151] : List Value).toArray) (vs := [.int .i64 (w64 ((band .i64 x0 7) + 1)), .int .i64 (Int.tmod (band .i64 (shr .i64 x0 3) 7) 7), .int .i64 (Int.tmod (band .i64 (shr .i64 x0 6) 7) 7), .int .i64 (band .i64 (shr .i64 x0 9) 1023), .int .i64 0, .int .i64 0, .bool false, .int .i64 0, .int .i64 0, .int .i64 0, .int .i64 0, .slice none 0 0, .int .i64 0, .int .i64 0, .slice none 0 0, .slice none 0 0, .int .i64 (band .i64 x1 1023), .int .i64 t_143.Sess, .int .i64 t_143.Seq, .int .i64 t_143.Cmd.Kind, .int .i64 (mx t_143.Cmd.Who 0), v_147, v_149, v_151]) rfl ti29 rfl rfl rfl (by intro u hu; simp only [List.mem_cons, List.not_mem_nil, or_false] at hu; rcases hu with rfl | rfl | rfl | rfl | rfl | rfl | rfl | rfl | rfl | rfl | rfl | rfl | rfl | rfl | rfl | rfl | rfl | rfl | rfl | rfl | rfl | rfl | rfl | rfl <;> first | rfl | exact (hr_148.mono ln_146).one | exact (hr_150.mono ln_146).one | exact (hr_152.mono ln_146).one)
              refine s_store hm rfl rfl hs' ?_
              replace hS : Sep w0 w_156 [N_146, Mem.one g_2 (.cells ([.int .i64 (w64 ((band .i64 x0 7) + 1)), .int .i64 (Int.tmod (band .i64 (shr .i64 x0 3) 7) 7), .int .i64 (Int.tmod (band .i64 (shr .i64 x0 6) 7) 7), .int .i64 (band .i64 (shr .i64 x0 9) 1023), .int .i64 0, .int .i64 0, .bool false, .int .i64 0, .int .i64 0, .int .i64 0, .int .i64 0, .slice none 0 0, .int .i64 0, .int .i64 0, .slice none 0 0, .slice none 0 0, .int .i64 (band .i64 x1 1023), .int .i64 t_143.Sess, .int .i64 t_143.Seq, .int .i64 t_143.Cmd.Kind, .int .i64 (mx t_143.Cmd.Who 0), v_147, v_149, v_151] : List Value).toArray 29 (0, 0)), Mem.one g_4 (.cells ([.int .i64 (w64 ((band .i64 x0 7) + 1)), .int .i64 (Int.tmod (band .i64 (shr .i64 x0 3) 7) 7), .int .i64 (Int.tmod (band .i64 (shr .i64 x0 6) 7) 7), .int .i64 (band .i64 (shr .i64 x0 9) 1023), .int .i64 0, .int .i64 0, .bool false, .int .i64 0, .int .i64 0, .int .i64 0, .int .i64 0, .slice none 0 0, .int .i64 0, .int .i64 0, .slice none 0 0, .slice none 0 0, .int .i64 (band .i64 x1 1023), .int .i64 t_143.Sess, .int .i64 t_143.Seq, .int .i64 t_143.Cmd.Kind, .int .i64 (mx t_143.Cmd.Who 0), v_147, v_149, v_151] : List Value).toArray 29 (0, 0))] Z := hS'
              clear hs' hS'
              refine wpList_nil ?_
              replace hm : Fr 150 a [(4, .pointer (some ⟨g_2, 0, none⟩))] := hm.keep [4]
              refine x_then_n ?_
              refine wp_ret ?_
              have hS' := hS.room
              replace hS : Sep w0 w_156 [N_146, Mem.one g_2 (.cells ([.int .i64 (w64 ((band .i64 x0 7) + 1)), .int .i64 (Int.tmod (band .i64 (shr .i64 x0 3) 7) 7), .int .i64 (Int.tmod (band .i64 (shr .i64 x0 6) 7) 7), .int .i64 (band .i64 (shr .i64 x0 9) 1023), .int .i64 0, .int .i64 0, .bool false, .int .i64 0, .int .i64 0, .int .i64 0, .int .i64 0, .slice none 0 0, .int .i64 0, .int .i64 0, .slice none 0 0, .slice none 0 0, .int .i64 (band .i64 x1 1023), .int .i64 t_143.Sess, .int .i64 t_143.Seq, .int .i64 t_143.Cmd.Kind, .int .i64 (mx t_143.Cmd.Who 0), v_147, v_149, v_151] : List Value).toArray 29 (0, 0)), Mem.one g_4 (.cells ([.int .i64 (w64 ((band .i64 x0 7) + 1)), .int .i64 (Int.tmod (band .i64 (shr .i64 x0 3) 7) 7), .int .i64 (Int.tmod (band .i64 (shr .i64 x0 6) 7) 7), .int .i64 (band .i64 (shr .i64 x0 9) 1023), .int .i64 0, .int .i64 0, .bool false, .int .i64 0, .int .i64 0, .int .i64 0, .int .i64 0, .slice none 0 0, .int .i64 0, .int .i64 0, .slice none 0 0, .slice none 0 0, .int .i64 (band .i64 x1 1023), .int .i64 t_143.Sess, .int .i64 t_143.Seq, .int .i64 t_143.Cmd.Kind, .int .i64 (mx t_143.Cmd.Who 0), v_147, v_149, v_151] : List Value).toArray 29 (0, 0)), Mem.no] Z := hS'
              clear hS'
              replace hS : Sep w0 w_156 [N_146, Mem.one g_2 (.cells ([.int .i64 (w64 ((band .i64 x0 7) + 1)), .int .i64 (Int.tmod (band .i64 (shr .i64 x0 3) 7) 7), .int .i64 (Int.tmod (band .i64 (shr .i64 x0 6) 7) 7), .int .i64 (band .i64 (shr .i64 x0 9) 1023), .int .i64 0, .int .i64 0, .bool false, .int .i64 0, .int .i64 0, .int .i64 0, .int .i64 0, .slice none 0 0, .int .i64 0, .int .i64 0, .slice none 0 0, .slice none 0 0, .int .i64 (band .i64 x1 1023), .int .i64 t_143.Sess, .int .i64 t_143.Seq, .int .i64 t_143.Cmd.Kind, .int .i64 (mx t_143.Cmd.Who 0), v_147, v_149, v_151] : List Value).toArray 29 (0, 0)), Mem.one g_4 (.cells ([.int .i64 (w64 ((band .i64 x0 7) + 1)), .int .i64 (Int.tmod (band .i64 (shr .i64 x0 3) 7) 7), .int .i64 (Int.tmod (band .i64 (shr .i64 x0 6) 7) 7), .int .i64 (band .i64 (shr .i64 x0 9) 1023), .int .i64 0, .int .i64 0, .bool false, .int .i64 0, .int .i64 0, .int .i64 0, .int .i64 0, .slice none 0 0, .int .i64 0, .int .i64 0, .slice none 0 0, .slice none 0 0, .int .i64 (band .i64 x1 1023), .int .i64 t_143.Sess, .int .i64 t_143.Seq, .int .i64 t_143.Cmd.Kind, .int .i64 (mx t_143.Cmd.Who 0), v_147, v_149, v_151] : List Value).toArray 29 (0, 0)), Mem.no] Z := hS
              have hS' := hS.room
              replace hS : Sep w0 w_156 [N_146, Mem.one g_2 (.cells ([.int .i64 (w64 ((band .i64 x0 7) + 1)), .int .i64 (Int.tmod (band .i64 (shr .i64 x0 3) 7) 7), .int .i64 (Int.tmod (band .i64 (shr .i64 x0 6) 7) 7), .int .i64 (band .i64 (shr .i64 x0 9) 1023), .int .i64 0, .int .i64 0, .bool false, .int .i64 0, .int .i64 0, .int .i64 0, .int .i64 0, .slice none 0 0, .int .i64 0, .int .i64 0, .slice none 0 0, .slice none 0 0, .int .i64 (band .i64 x1 1023), .int .i64 t_143.Sess, .int .i64 t_143.Seq, .int .i64 t_143.Cmd.Kind, .int .i64 (mx t_143.Cmd.Who 0), v_147, v_149, v_151] : List Value).toArray 29 (0, 0)), Mem.one g_4 (.cells ([.int .i64 (w64 ((band .i64 x0 7) + 1)), .int .i64 (Int.tmod (band .i64 (shr .i64 x0 3) 7) 7), .int .i64 (Int.tmod (band .i64 (shr .i64 x0 6) 7) 7), .int .i64 (band .i64 (shr .i64 x0 9) 1023), .int .i64 0, .int .i64 0, .bool false, .int .i64 0, .int .i64 0, .int .i64 0, .int .i64 0, .slice none 0 0, .int .i64 0, .int .i64 0, .slice none 0 0, .slice none 0 0, .int .i64 (band .i64 x1 1023), .int .i64 t_143.Sess, .int .i64 t_143.Seq, .int .i64 t_143.Cmd.Kind, .int .i64 (mx t_143.Cmd.Who 0), v_147, v_149, v_151] : List Value).toArray 29 (0, 0)), Mem.no, Mem.no] Z := hS'
              clear hS'
              replace hS : Sep w0 w_156 [N_146, Mem.one g_2 (.cells ([.int .i64 (w64 ((band .i64 x0 7) + 1)), .int .i64 (Int.tmod (band .i64 (shr .i64 x0 3) 7) 7), .int .i64 (Int.tmod (band .i64 (shr .i64 x0 6) 7) 7), .int .i64 (band .i64 (shr .i64 x0 9) 1023), .int .i64 0, .int .i64 0, .bool false, .int .i64 0, .int .i64 0, .int .i64 0, .int .i64 0, .slice none 0 0, .int .i64 0, .int .i64 0, .slice none 0 0, .slice none 0 0, .int .i64 (band .i64 x1 1023), .int .i64 t_143.Sess, .int .i64 t_143.Seq, .int .i64 t_143.Cmd.Kind, .int .i64 (mx t_143.Cmd.Who 0), v_147, v_149, v_151] : List Value).toArray 29 (0, 0)), Mem.one g_4 (.cells ([.int .i64 (w64 ((band .i64 x0 7) + 1)), .int .i64 (Int.tmod (band .i64 (shr .i64 x0 3) 7) 7), .int .i64 (Int.tmod (band .i64 (shr .i64 x0 6) 7) 7), .int .i64 (band .i64 (shr .i64 x0 9) 1023), .int .i64 0, .int .i64 0, .bool false, .int .i64 0, .int .i64 0, .int .i64 0, .int .i64 0, .slice none 0 0, .int .i64 0, .int .i64 0, .slice none 0 0, .slice none 0 0, .int .i64 (band .i64 x1 1023), .int .i64 t_143.Sess, .int .i64 t_143.Seq, .int .i64 t_143.Cmd.Kind, .int .i64 (mx t_143.Cmd.Who 0), v_147, v_149, v_151] : List Value).toArray 29 (0, 0)), Mem.no, Mem.no] Z := hS
              have hS' := hS.room
              replace hS : Sep w0 w_156 [N_146, Mem.one g_2 (.cells ([.int .i64 (w64 ((band .i64 x0 7) + 1)), .int .i64 (Int.tmod (band .i64 (shr .i64 x0 3) 7) 7), .int .i64 (Int.tmod (band .i64 (shr .i64 x0 6) 7) 7), .int .i64 (band .i64 (shr .i64 x0 9) 1023), .int .i64 0, .int .i64 0, .bool false, .int .i64 0, .int .i64 0, .int .i64 0, .int .i64 0, .slice none 0 0, .int .i64 0, .int .i64 0, .slice none 0 0, .slice none 0 0, .int .i64 (band .i64 x1 1023), .int .i64 t_143.Sess, .int .i64 t_143.Seq, .int .i64 t_143.Cmd.Kind, .int .i64 (mx t_143.Cmd.Who 0), v_147, v_149, v_151] : List Value).toArray 29 (0, 0)), Mem.one g_4 (.cells ([.int .i64 (w64 ((band .i64 x0 7) + 1)), .int .i64 (Int.tmod (band .i64 (shr .i64 x0 3) 7) 7), .int .i64 (Int.tmod (band .i64 (shr .i64 x0 6) 7) 7), .int .i64 (band .i64 (shr .i64 x0 9) 1023), .int .i64 0, .int .i64 0, .bool false, .int .i64 0, .int .i64 0, .int .i64 0, .int .i64 0, .slice none 0 0, .int .i64 0, .int .i64 0, .slice none 0 0, .slice none 0 0, .int .i64 (band .i64 x1 1023), .int .i64 t_143.Sess, .int .i64 t_143.Seq, .int .i64 t_143.Cmd.Kind, .int .i64 (mx t_143.Cmd.Who 0), v_147, v_149, v_151] : List Value).toArray 29 (0, 0)), Mem.no, Mem.no, Mem.no] Z := hS'
              clear hS'
              replace hS : Sep w0 w_156 [N_146, Mem.one g_2 (.cells ([.int .i64 (w64 ((band .i64 x0 7) + 1)), .int .i64 (Int.tmod (band .i64 (shr .i64 x0 3) 7) 7), .int .i64 (Int.tmod (band .i64 (shr .i64 x0 6) 7) 7), .int .i64 (band .i64 (shr .i64 x0 9) 1023), .int .i64 0, .int .i64 0, .bool false, .int .i64 0, .int .i64 0, .int .i64 0, .int .i64 0, .slice none 0 0, .int .i64 0, .int .i64 0, .slice none 0 0, .slice none 0 0, .int .i64 (band .i64 x1 1023), .int .i64 t_143.Sess, .int .i64 t_143.Seq, .int .i64 t_143.Cmd.Kind, .int .i64 (mx t_143.Cmd.Who 0), v_147, v_149, v_151] : List Value).toArray 29 (0, 0)), Mem.one g_4 (.cells ([.int .i64 (w64 ((band .i64 x0 7) + 1)), .int .i64 (Int.tmod (band .i64 (shr .i64 x0 3) 7) 7), .int .i64 (Int.tmod (band .i64 (shr .i64 x0 6) 7) 7), .int .i64 (band .i64 (shr .i64 x0 9) 1023), .int .i64 0, .int .i64 0, .bool false, .int .i64 0, .int .i64 0, .int .i64 0, .int .i64 0, .slice none 0 0, .int .i64 0, .int .i64 0, .slice none 0 0, .slice none 0 0, .int .i64 (band .i64 x1 1023), .int .i64 t_143.Sess, .int .i64 t_143.Seq, .int .i64 t_143.Cmd.Kind, .int .i64 (mx t_143.Cmd.Who 0), v_147, v_149, v_151] : List Value).toArray 29 (0, 0)), Mem.no, Mem.no, Mem.no] Z := hS
              obtain rfl := Option.some.inj H
              exact f_ret hm (rs := [.cell 4 29]) rfl (.cell rfl (hS.load_agg (p := 1) (us := [.int .i64 (w64 ((band .i64 x0 7) + 1)), .int .i64 (Int.tmod (band .i64 (shr .i64 x0 3) 7) 7), .int .i64 (Int.tmod (band .i64 (shr .i64 x0 6) 7) 7), .int .i64 (band .i64 (shr .i64 x0 9) 1023), .int .i64 0, .int .i64 0, .bool false, .int .i64 0, .int .i64 0, .int .i64 0, .int .i64 0, .slice none 0 0, .int .i64 0, .int .i64 0, .slice none 0 0, .slice none 0 0, .int .i64 (band .i64 x1 1023), .int .i64 t_143.Sess, .int .i64 t_143.Seq, .int .i64 t_143.Cmd.Kind, .int .i64 (mx t_143.Cmd.Who 0), v_147, v_149, v_151]) rfl Try.underlying29 rfl ti29 rfl rfl) .nil) ⟨_, rfl, .slice none 0 0, .slice none 0 0, .slice none 0 0, v_147, v_149, v_151, N_146, Mem.no, Mem.no, Mem.no, rfl, (Sep.sel hS [0, 3, 4, 5] (by decide)), (Own.nil Kd.u8 5 Mem.no), (Own.nil (Kd.int .i64) 3 Mem.no), (Own.nil (Kd.int .i64) 3 Mem.no), (hr_148.mono ln_146), (hr_150.mono ln_146), (hr_152.mono ln_146)⟩
            · rw [if_neg hc_142] at H
              refine c_cond_f hm rfl (beq_eq_false_iff_ne.2 hc_142) ?_
              refine wp_skip ?_
              refine x_block_n ?_
              refine x_then_n (hKJ_6 _ _ ?_)
              refine wp_seq ?_
              refine wp_region_lit ?_
              refine s_load hm rfl rfl (hS.load_agg (p := 2) (us := [.int .i64 (w64 ((band .i64 x0 7) + 1)), .int .i64 (Int.tmod (band .i64 (shr .i64 x0 3) 7) 7), .int .i64 (Int.tmod (band .i64 (shr .i64 x0 6) 7) 7), .int .i64 (band .i64 (shr .i64 x0 9) 1023), .int .i64 0, .int .i64 0, .bool false, .int .i64 0, .int .i64 0, .int .i64 0, .int .i64 0, .slice none 0 0, .int .i64 0, .int .i64 0, .slice none 0 0, .slice none 0 0, .int .i64 0, .int .i64 0, .int .i64 0, .int .i64 0, .int .i64 0, .slice none 0 0, .slice none 0 0, .slice none 0 0]) rfl Try.underlying29 rfl ti29 rfl rfl) ?_
              clear hm a; intro a hm
              obtain ⟨w_160, hs', hS'⟩ := hS.store (P := Try.prog) (p := 1) (o := 0) (t := 29) (v := .agg ([.int .i64 (w64 ((band .i64 x0 7) + 1)), .int .i64 (Int.tmod (band .i64 (shr .i64 x0 3) 7) 7), .int .i64 (Int.tmod (band .i64 (shr .i64 x0 6) 7) 7), .int .i64 (band .i64 (shr .i64 x0 9) 1023), .int .i64 0, .int .i64 0, .bool false, .int .i64 0, .int .i64 0, .int .i64 0, .int .i64 0, .slice none 0 0, .int .i64 0, .int .i64 0, .slice none 0 0, .slice none 0 0, .int .i64 0, .int .i64 0, .int .i64 0, .int .i64 0, .int .i64 0, .slice none 0 0, .slice none 0 0, .slice none 0 0] : List Value).toArray) (vs := [.int .i64 (w64 ((band .i64 x0 7) + 1)), .int .i64 (Int.tmod (band .i64 (shr .i64 x0 3) 7) 7), .int .i64 (Int.tmod (band .i64 (shr .i64 x0 6) 7) 7), .int .i64 (band .i64 (shr .i64 x0 9) 1023), .int .i64 0, .int .i64 0, .bool false, .int .i64 0, .int .i64 0, .int .i64 0, .int .i64 0, .slice none 0 0, .int .i64 0, .int .i64 0, .slice none 0 0, .slice none 0 0, .int .i64 0, .int .i64 0, .int .i64 0, .int .i64 0, .int .i64 0, .slice none 0 0, .slice none 0 0, .slice none 0 0]) rfl ti29 rfl rfl rfl (by intro u hu; simp only [List.mem_cons, List.not_mem_nil, or_false] at hu; rcases hu with rfl | rfl | rfl | rfl | rfl | rfl | rfl | rfl | rfl | rfl | rfl | rfl | rfl | rfl | rfl | rfl | rfl | rfl | rfl | rfl | rfl | rfl | rfl | rfl <;> rfl)
              refine s_store hm rfl rfl hs' ?_
              replace hS : Sep w0 w_160 [Mem.no, Mem.one g_2 (.cells ([.int .i64 (w64 ((band .i64 x0 7) + 1)), .int .i64 (Int.tmod (band .i64 (shr .i64 x0 3) 7) 7), .int .i64 (Int.tmod (band .i64 (shr .i64 x0 6) 7) 7), .int .i64 (band .i64 (shr .i64 x0 9) 1023), .int .i64 0, .int .i64 0, .bool false, .int .i64 0, .int .i64 0, .int .i64 0, .int .i64 0, .slice none 0 0, .int .i64 0, .int .i64 0, .slice none 0 0, .slice none 0 0, .int .i64 0, .int .i64 0, .int .i64 0, .int .i64 0, .int .i64 0, .slice none 0 0, .slice none 0 0, .slice none 0 0] : List Value).toArray 29 (0, 0)), Mem.one g_4 (.cells ([.int .i64 (w64 ((band .i64 x0 7) + 1)), .int .i64 (Int.tmod (band .i64 (shr .i64 x0 3) 7) 7), .int .i64 (Int.tmod (band .i64 (shr .i64 x0 6) 7) 7), .int .i64 (band .i64 (shr .i64 x0 9) 1023), .int .i64 0, .int .i64 0, .bool false, .int .i64 0, .int .i64 0, .int .i64 0, .int .i64 0, .slice none 0 0, .int .i64 0, .int .i64 0, .slice none 0 0, .slice none 0 0, .int .i64 0, .int .i64 0, .int .i64 0, .int .i64 0, .int .i64 0, .slice none 0 0, .slice none 0 0, .slice none 0 0] : List Value).toArray 29 (0, 0))] Z := hS'
              clear hs' hS'
              refine wpList_nil ?_
              replace hm : Fr 150 a [(4, .pointer (some ⟨g_2, 0, none⟩))] := hm.keep [4]
              refine x_then_n ?_
              refine wp_ret ?_
              have hS' := hS.room
              replace hS : Sep w0 w_160 [Mem.no, Mem.one g_2 (.cells ([.int .i64 (w64 ((band .i64 x0 7) + 1)), .int .i64 (Int.tmod (band .i64 (shr .i64 x0 3) 7) 7), .int .i64 (Int.tmod (band .i64 (shr .i64 x0 6) 7) 7), .int .i64 (band .i64 (shr .i64 x0 9) 1023), .int .i64 0, .int .i64 0, .bool false, .int .i64 0, .int .i64 0, .int .i64 0, .int .i64 0, .slice none 0 0, .int .i64 0, .int .i64 0, .slice none 0 0, .slice none 0 0, .int .i64 0, .int .i64 0, .int .i64 0, .int .i64 0, .int .i64 0, .slice none 0 0, .slice none 0 0, .slice none 0 0] : List Value).toArray 29 (0, 0)), Mem.one g_4 (.cells ([.int .i64 (w64 ((band .i64 x0 7) + 1)), .int .i64 (Int.tmod (band .i64 (shr .i64 x0 3) 7) 7), .int .i64 (Int.tmod (band .i64 (shr .i64 x0 6) 7) 7), .int .i64 (band .i64 (shr .i64 x0 9) 1023), .int .i64 0, .int .i64 0, .bool false, .int .i64 0, .int .i64 0, .int .i64 0, .int .i64 0, .slice none 0 0, .int .i64 0, .int .i64 0, .slice none 0 0, .slice none 0 0, .int .i64 0, .int .i64 0, .int .i64 0, .int .i64 0, .int .i64 0, .slice none 0 0, .slice none 0 0, .slice none 0 0] : List Value).toArray 29 (0, 0)), Mem.no] Z := hS'
              clear hS'
              replace hS : Sep w0 w_160 [Mem.no, Mem.one g_2 (.cells ([.int .i64 (w64 ((band .i64 x0 7) + 1)), .int .i64 (Int.tmod (band .i64 (shr .i64 x0 3) 7) 7), .int .i64 (Int.tmod (band .i64 (shr .i64 x0 6) 7) 7), .int .i64 (band .i64 (shr .i64 x0 9) 1023), .int .i64 0, .int .i64 0, .bool false, .int .i64 0, .int .i64 0, .int .i64 0, .int .i64 0, .slice none 0 0, .int .i64 0, .int .i64 0, .slice none 0 0, .slice none 0 0, .int .i64 0, .int .i64 0, .int .i64 0, .int .i64 0, .int .i64 0, .slice none 0 0, .slice none 0 0, .slice none 0 0] : List Value).toArray 29 (0, 0)), Mem.one g_4 (.cells ([.int .i64 (w64 ((band .i64 x0 7) + 1)), .int .i64 (Int.tmod (band .i64 (shr .i64 x0 3) 7) 7), .int .i64 (Int.tmod (band .i64 (shr .i64 x0 6) 7) 7), .int .i64 (band .i64 (shr .i64 x0 9) 1023), .int .i64 0, .int .i64 0, .bool false, .int .i64 0, .int .i64 0, .int .i64 0, .int .i64 0, .slice none 0 0, .int .i64 0, .int .i64 0, .slice none 0 0, .slice none 0 0, .int .i64 0, .int .i64 0, .int .i64 0, .int .i64 0, .int .i64 0, .slice none 0 0, .slice none 0 0, .slice none 0 0] : List Value).toArray 29 (0, 0)), Mem.no] Z := hS
              have hS' := hS.room
              replace hS : Sep w0 w_160 [Mem.no, Mem.one g_2 (.cells ([.int .i64 (w64 ((band .i64 x0 7) + 1)), .int .i64 (Int.tmod (band .i64 (shr .i64 x0 3) 7) 7), .int .i64 (Int.tmod (band .i64 (shr .i64 x0 6) 7) 7), .int .i64 (band .i64 (shr .i64 x0 9) 1023), .int .i64 0, .int .i64 0, .bool false, .int .i64 0, .int .i64 0, .int .i64 0, .int .i64 0, .slice none 0 0, .int .i64 0, .int .i64 0, .slice none 0 0, .slice none 0 0, .int .i64 0, .int .i64 0, .int .i64 0, .int .i64 0, .int .i64 0, .slice none 0 0, .slice none 0 0, .slice none 0 0] : List Value).toArray 29 (0, 0)), Mem.one g_4 (.cells ([.int .i64 (w64 ((band .i64 x0 7) + 1)), .int .i64 (Int.tmod (band .i64 (shr .i64 x0 3) 7) 7), .int .i64 (Int.tmod (band .i64 (shr .i64 x0 6) 7) 7), .int .i64 (band .i64 (shr .i64 x0 9) 1023), .int .i64 0, .int .i64 0, .bool false, .int .i64 0, .int .i64 0, .int .i64 0, .int .i64 0, .slice none 0 0, .int .i64 0, .int .i64 0, .slice none 0 0, .slice none 0 0, .int .i64 0, .int .i64 0, .int .i64 0, .int .i64 0, .int .i64 0, .slice none 0 0, .slice none 0 0, .slice none 0 0] : List Value).toArray 29 (0, 0)), Mem.no, Mem.no] Z := hS'
              clear hS'
              replace hS : Sep w0 w_160 [Mem.no, Mem.one g_2 (.cells ([.int .i64 (w64 ((band .i64 x0 7) + 1)), .int .i64 (Int.tmod (band .i64 (shr .i64 x0 3) 7) 7), .int .i64 (Int.tmod (band .i64 (shr .i64 x0 6) 7) 7), .int .i64 (band .i64 (shr .i64 x0 9) 1023), .int .i64 0, .int .i64 0, .bool false, .int .i64 0, .int .i64 0, .int .i64 0, .int .i64 0, .slice none 0 0, .int .i64 0, .int .i64 0, .slice none 0 0, .slice none 0 0, .int .i64 0, .int .i64 0, .int .i64 0, .int .i64 0, .int .i64 0, .slice none 0 0, .slice none 0 0, .slice none 0 0] : List Value).toArray 29 (0, 0)), Mem.one g_4 (.cells ([.int .i64 (w64 ((band .i64 x0 7) + 1)), .int .i64 (Int.tmod (band .i64 (shr .i64 x0 3) 7) 7), .int .i64 (Int.tmod (band .i64 (shr .i64 x0 6) 7) 7), .int .i64 (band .i64 (shr .i64 x0 9) 1023), .int .i64 0, .int .i64 0, .bool false, .int .i64 0, .int .i64 0, .int .i64 0, .int .i64 0, .slice none 0 0, .int .i64 0, .int .i64 0, .slice none 0 0, .slice none 0 0, .int .i64 0, .int .i64 0, .int .i64 0, .int .i64 0, .int .i64 0, .slice none 0 0, .slice none 0 0, .slice none 0 0] : List Value).toArray 29 (0, 0)), Mem.no, Mem.no] Z := hS
              have hS' := hS.room
              replace hS : Sep w0 w_160 [Mem.no, Mem.one g_2 (.cells ([.int .i64 (w64 ((band .i64 x0 7) + 1)), .int .i64 (Int.tmod (band .i64 (shr .i64 x0 3) 7) 7), .int .i64 (Int.tmod (band .i64 (shr .i64 x0 6) 7) 7), .int .i64 (band .i64 (shr .i64 x0 9) 1023), .int .i64 0, .int .i64 0, .bool false, .int .i64 0, .int .i64 0, .int .i64 0, .int .i64 0, .slice none 0 0, .int .i64 0, .int .i64 0, .slice none 0 0, .slice none 0 0, .int .i64 0, .int .i64 0, .int .i64 0, .int .i64 0, .int .i64 0, .slice none 0 0, .slice none 0 0, .slice none 0 0] : List Value).toArray 29 (0, 0)), Mem.one g_4 (.cells ([.int .i64 (w64 ((band .i64 x0 7) + 1)), .int .i64 (Int.tmod (band .i64 (shr .i64 x0 3) 7) 7), .int .i64 (Int.tmod (band .i64 (shr .i64 x0 6) 7) 7), .int .i64 (band .i64 (shr .i64 x0 9) 1023), .int .i64 0, .int .i64 0, .bool false, .int .i64 0, .int .i64 0, .int .i64 0, .int .i64 0, .slice none 0 0, .int .i64 0, .int .i64 0, .slice none 0 0, .slice none 0 0, .int .i64 0, .int .i64 0, .int .i64 0, .int .i64 0, .int .i64 0, .slice none 0 0, .slice none 0 0, .slice none 0 0] : List Value).toArray 29 (0, 0)), Mem.no, Mem.no, Mem.no] Z := hS'
              clear hS'
              replace hS : Sep w0 w_160 [Mem.no, Mem.one g_2 (.cells ([.int .i64 (w64 ((band .i64 x0 7) + 1)), .int .i64 (Int.tmod (band .i64 (shr .i64 x0 3) 7) 7), .int .i64 (Int.tmod (band .i64 (shr .i64 x0 6) 7) 7), .int .i64 (band .i64 (shr .i64 x0 9) 1023), .int .i64 0, .int .i64 0, .bool false, .int .i64 0, .int .i64 0, .int .i64 0, .int .i64 0, .slice none 0 0, .int .i64 0, .int .i64 0, .slice none 0 0, .slice none 0 0, .int .i64 0, .int .i64 0, .int .i64 0, .int .i64 0, .int .i64 0, .slice none 0 0, .slice none 0 0, .slice none 0 0] : List Value).toArray 29 (0, 0)), Mem.one g_4 (.cells ([.int .i64 (w64 ((band .i64 x0 7) + 1)), .int .i64 (Int.tmod (band .i64 (shr .i64 x0 3) 7) 7), .int .i64 (Int.tmod (band .i64 (shr .i64 x0 6) 7) 7), .int .i64 (band .i64 (shr .i64 x0 9) 1023), .int .i64 0, .int .i64 0, .bool false, .int .i64 0, .int .i64 0, .int .i64 0, .int .i64 0, .slice none 0 0, .int .i64 0, .int .i64 0, .slice none 0 0, .slice none 0 0, .int .i64 0, .int .i64 0, .int .i64 0, .int .i64 0, .int .i64 0, .slice none 0 0, .slice none 0 0, .slice none 0 0] : List Value).toArray 29 (0, 0)), Mem.no, Mem.no, Mem.no] Z := hS
              obtain rfl := Option.some.inj H
              exact f_ret hm (rs := [.cell 4 29]) rfl (.cell rfl (hS.load_agg (p := 1) (us := [.int .i64 (w64 ((band .i64 x0 7) + 1)), .int .i64 (Int.tmod (band .i64 (shr .i64 x0 3) 7) 7), .int .i64 (Int.tmod (band .i64 (shr .i64 x0 6) 7) 7), .int .i64 (band .i64 (shr .i64 x0 9) 1023), .int .i64 0, .int .i64 0, .bool false, .int .i64 0, .int .i64 0, .int .i64 0, .int .i64 0, .slice none 0 0, .int .i64 0, .int .i64 0, .slice none 0 0, .slice none 0 0, .int .i64 0, .int .i64 0, .int .i64 0, .int .i64 0, .int .i64 0, .slice none 0 0, .slice none 0 0, .slice none 0 0]) rfl Try.underlying29 rfl ti29 rfl rfl) .nil) ⟨_, rfl, .slice none 0 0, .slice none 0 0, .slice none 0 0, .slice none 0 0, .slice none 0 0, .slice none 0 0, Mem.no, Mem.no, Mem.no, Mem.no, rfl, (Sep.sel hS [0, 3, 4, 5] (by decide)), (Own.nil Kd.u8 5 Mem.no), (Own.nil (Kd.int .i64) 3 Mem.no), (Own.nil (Kd.int .i64) 3 Mem.no), (Rd.nil _ _), (Rd.nil _ _), (Rd.nil _ _)⟩


end Go.Proofs
