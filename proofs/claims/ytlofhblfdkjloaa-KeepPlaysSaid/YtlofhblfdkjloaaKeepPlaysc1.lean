/- What the calls do: each function once. -/
import Derived.Test.YtlofhblfdkjloaaKeepPlaysc0
namespace Go.Proofs
open Go.Gp
set_option linter.unusedVariables false
set_option maxHeartbeats 4000000 in
set_option maxRecDepth 20000 in
theorem hocketref1_Next.calls (K : Nat) (x0 : UInt32) (x1 : UInt8) (r : UInt32) (w0 w : World) (Z A : Mem) (hA : A.le Z) (hS : Sep w0 w [] Z)
    (H : hocketref1_Next.f K x0 x1 = some r) :
    Calls Try.prog 48 [.int .u32 (x0.toNat : Int), .int .u8 (x1.toNat : Int)].toArray w (Ret fun v w' => ∃ (N : Mem), v = .int .u32 (r.toNat : Int) ∧ Sep w0 w' [N] Z) := by
  unfold hocketref1_Next.f at H
  refine f_enter _ Try.func48 rfl Try.ntmps48 rfl fun a hm => ?_
  replace hm : Fr 24 a [(0, .int .u32 (x0.toNat : Int)), (1, .int .u8 (x1.toNat : Int))] := hm
  replace hS := hS.start
  replace hS : Sep w0 w [Mem.no] Z := hS
  refine wp_seq ?_
  refine wp_region_lit ?_
  refine s_assign hm rfl rfl ?_
  clear hm a; intro a hm
  refine wpList_nil ?_
  replace hm : Fr 24 a [(0, .int .u32 (x0.toNat : Int)), (1, .int .u8 (x1.toNat : Int)), (4, .int .u32 ((0 : UInt32).toNat : Int))] := hm.keep [0, 1, 4]
  refine x_then_n ?_
  refine wp_seq ?_
  refine wp_region_lit ?_
  refine s_move hm rfl rfl ?_
  clear hm a; intro a hm
  refine s_move hm rfl rfl ?_
  clear hm a; intro a hm
  refine s_conv (((toU32 (x1.toNat : Int)).toNat : Int)) hm rfl Try.underlying5 Try.underlying52 rfl (wrap_u32 _).symm ?_
  clear hm a; intro a hm
  refine s_bits (i := (x0.toNat : Int)) (j := ((toU32 (x1.toNat : Int)).toNat : Int)) (r := ((x0 ^^^ (toU32 (x1.toNat : Int))).toNat : Int)) hm rfl rfl rfl (.inr (.inr (.inl ⟨rfl, (bxor32 _ _).symm⟩))) ?_
  clear hm a; intro a hm
  refine s_assign hm rfl rfl ?_
  clear hm a; intro a hm
  refine wpList_nil ?_
  replace hm : Fr 24 a [(0, .int .u32 ((x0 ^^^ (toU32 (x1.toNat : Int))).toNat : Int)), (4, .int .u32 ((0 : UInt32).toNat : Int))] := hm.keep [0, 4]
  refine x_then_n ?_
  refine c_seq fun KJ_1 hKJ_1 => ?_
  refine wp_seq ?_
  refine wp_region_lit ?_
  refine s_assign hm rfl rfl ?_
  clear hm a; intro a hm
  refine wpList_nil ?_
  replace hm : Fr 24 a [(0, .int .u32 ((x0 ^^^ (toU32 (x1.toNat : Int))).toNat : Int)), (4, .int .u32 ((0 : UInt32).toNat : Int)), (5, .int .i64 0)] := hm.keep [0, 4, 5]
  refine x_then_n ?_
  have hJ_j_5 : ∀ (x_3 : UInt32), hocketref1_Next.J1 K x_3 = some r → ∀ (a : Act) (w_4 : World), (∃ (N_2 : Mem), Fr 24 a [(0, .int .u32 (x_3.toNat : Int)), (4, .int .u32 ((0 : UInt32).toNat : Int))] ∧ Sep w0 w_4 [N_2] Z ∧ Mem.no.le N_2) → KJ_1 a w_4 := by
    clear H hm hS a
    rintro x_3 H a w_4 ⟨N_2, hm, hS, le_2⟩
    unfold hocketref1_Next.J1 at H
    refine hKJ_1 _ _ ?_
    refine wp_seq ?_
    refine wp_region_lit ?_
    refine s_move hm rfl rfl ?_
    clear hm a; intro a hm
    refine s_assign hm rfl rfl ?_
    clear hm a; intro a hm
    refine wpList_nil ?_
    replace hm : Fr 24 a [(4, .int .u32 (x_3.toNat : Int))] := hm.keep [4]
    refine x_then_n ?_
    refine wp_ret ?_
    obtain rfl := Option.some.inj H
    exact f_ret hm (rs := [.tmp 4]) rfl (.tmp rfl .nil) ⟨_, rfl, N_2, rfl, (Sep.sel hS [0] (by decide))⟩
  clear hKJ_1
  replace hS : Sep w0 w [Mem.no] Z := hS
  replace hm : Fr 24 a [(0, .int .u32 ((x0 ^^^ (toU32 (x1.toNat : Int))).toNat : Int)), (4, .int .u32 ((0 : UInt32).toNat : Int)), (5, .int .i64 0)] := hm.keep [0, 4, 5]
  refine c_block ?_
  refine c_loop (fun k_9 a w_9 => ∃ (x_7 : UInt32) (x_8 : Int) (N_6 : Mem), hocketref1_Next.L1 K (fun v => hocketref1_Next.J1 K v) k_9 (x_7, x_8) = some r ∧ Fr 24 a [(0, .int .u32 (x_7.toNat : Int)), (4, .int .u32 ((0 : UInt32).toNat : Int)), (5, .int .i64 x_8)] ∧ Sep w0 w_9 [N_6] Z ∧ Mem.no.le N_6) K ⟨x0 ^^^ (toU32 (x1.toNat : Int)), 0, Mem.no, H, hm, (Sep.sel hS [0] (by decide)), (Mem.le.refl _)⟩ (fun a w h => by obtain ⟨_, _, _, H, _⟩ := h; cases (show (none : Option (UInt32)) = some r from H)) ?_
  clear hm hS a H
  rintro k_9 a w_9 KL_9 hKL_9 ⟨x_7, x_8, N_6, H, hm, hS, le_6⟩
  replace H : hocketref1_Next.B1 K (fun v => hocketref1_Next.J1 K v) (hocketref1_Next.L1 K (fun v => hocketref1_Next.J1 K v) k_9) x_7 x_8 = some r := H
  unfold hocketref1_Next.B1 at H
  refine c_seq fun KJ_11 hKJ_11 => ?_
  refine wp_seq ?_
  refine wp_region_lit ?_
  refine s_move hm rfl rfl ?_
  clear hm a; intro a hm
  refine s_cmp (b := decide (x_8 < 8)) hm rfl rfl rfl (.inr (.inr (.inl ⟨rfl, rfl⟩))) ?_
  clear hm a; intro a hm
  refine wpList_nil ?_
  replace hm : Fr 24 a [(0, .int .u32 (x_7.toNat : Int)), (4, .int .u32 ((0 : UInt32).toNat : Int)), (5, .int .i64 x_8), (12, .bool (decide (x_8 < 8)))] := hm.keep [0, 4, 5, 12]
  refine x_then_n ?_
  by_cases hc_12 : x_8 < 8
  · rw [if_pos hc_12] at H
    refine c_cond_t hm rfl (decide_eq_true hc_12) ?_
    refine wp_skip ?_
    refine x_then_n (hKJ_11 _ _ ?_)
    refine c_seq fun KJ_13 hKJ_13 => ?_
    refine c_block ?_
    refine wp_seq ?_
    refine wp_region_lit ?_
    refine s_move hm rfl rfl ?_
    clear hm a; intro a hm
    refine s_bits (i := (x_7.toNat : Int)) (j := ((1 : UInt32).toNat : Int)) (r := ((x_7 &&& (1 : UInt32)).toNat : Int)) hm rfl rfl rfl (.inl ⟨rfl, (band32 _ _).symm⟩) ?_
    clear hm a; intro a hm
    refine s_assign hm rfl rfl ?_
    clear hm a; intro a hm
    refine wpList_nil ?_
    replace hm : Fr 24 a [(0, .int .u32 (x_7.toNat : Int)), (4, .int .u32 ((0 : UInt32).toNat : Int)), (5, .int .i64 x_8), (6, .int .u32 ((x_7 &&& (1 : UInt32)).toNat : Int))] := hm.keep [0, 4, 5, 6]
    refine x_then_n ?_
    refine wp_seq ?_
    refine wp_region_lit ?_
    refine s_move hm rfl rfl ?_
    clear hm a; intro a hm
    refine s_shift (r := ((toU32 (shr .u32 (x_7.toNat : Int) 1)).toNat : Int)) hm rfl rfl rfl (by decide) (.inr ⟨rfl, (shr32 _ _).symm⟩) ?_
    clear hm a; intro a hm
    refine s_assign hm rfl rfl ?_
    clear hm a; intro a hm
    refine wpList_nil ?_
    replace hm : Fr 24 a [(0, .int .u32 ((toU32 (shr .u32 (x_7.toNat : Int) 1)).toNat : Int)), (4, .int .u32 ((0 : UInt32).toNat : Int)), (5, .int .i64 x_8), (6, .int .u32 ((x_7 &&& (1 : UInt32)).toNat : Int))] := hm.keep [0, 4, 5, 6]
    refine x_then_n ?_
    refine wp_seq ?_
    refine wp_region_lit ?_
    refine s_move hm rfl rfl ?_
    clear hm a; intro a hm
    refine s_cmp (b := (((x_7 &&& (1 : UInt32)).toNat : Int) == ((1 : UInt32).toNat : Int))) hm rfl rfl rfl (.inl ⟨rfl, rfl⟩) ?_
    clear hm a; intro a hm
    refine wpList_nil ?_
    replace hm : Fr 24 a [(0, .int .u32 ((toU32 (shr .u32 (x_7.toNat : Int) 1)).toNat : Int)), (4, .int .u32 ((0 : UInt32).toNat : Int)), (5, .int .i64 x_8), (20, .bool (((x_7 &&& (1 : UInt32)).toNat : Int) == ((1 : UInt32).toNat : Int)))] := hm.keep [0, 4, 5, 20]
    refine x_then_n ?_
    by_cases hc_14 : ((x_7 &&& (1 : UInt32)).toNat : Int) = ((1 : UInt32).toNat : Int)
    · rw [if_pos hc_14] at H
      refine c_cond_t hm rfl (beq_iff_eq.2 hc_14) ?_
      refine wp_region_lit ?_
      refine s_move hm rfl rfl ?_
      clear hm a; intro a hm
      refine s_bits (i := ((toU32 (shr .u32 (x_7.toNat : Int) 1)).toNat : Int)) (j := ((3988292384 : UInt32).toNat : Int)) (r := (((toU32 (shr .u32 (x_7.toNat : Int) 1)) ^^^ (3988292384 : UInt32)).toNat : Int)) hm rfl rfl rfl (.inr (.inr (.inl ⟨rfl, (bxor32 _ _).symm⟩))) ?_
      clear hm a; intro a hm
      refine s_assign hm rfl rfl ?_
      clear hm a; intro a hm
      refine wpList_nil ?_
      replace hm : Fr 24 a [(0, .int .u32 (((toU32 (shr .u32 (x_7.toNat : Int) 1)) ^^^ (3988292384 : UInt32)).toNat : Int)), (4, .int .u32 ((0 : UInt32).toNat : Int)), (5, .int .i64 x_8)] := hm.keep [0, 4, 5]
      refine x_block_n ?_
      refine x_then_n (hKJ_13 _ _ ?_)
      refine wp_region_lit ?_
      refine s_move hm rfl rfl ?_
      clear hm a; intro a hm
      refine s_arith (r := w64 (x_8 + 1)) hm rfl rfl rfl (.inl ⟨rfl, rfl⟩) ?_
      clear hm a; intro a hm
      refine s_assign hm rfl rfl ?_
      clear hm a; intro a hm
      refine wpList_nil ?_
      replace hm : Fr 24 a [(0, .int .u32 (((toU32 (shr .u32 (x_7.toNat : Int) 1)) ^^^ (3988292384 : UInt32)).toNat : Int)), (4, .int .u32 ((0 : UInt32).toNat : Int)), (5, .int .i64 (w64 (x_8 + 1)))] := hm.keep [0, 4, 5]
      refine x_then_n (hKL_9 _ _ ?_)
      replace hS : Sep w0 w_9 [N_6] Z := hS
      replace hm : Fr 24 a [(0, .int .u32 (((toU32 (shr .u32 (x_7.toNat : Int) 1)) ^^^ (3988292384 : UInt32)).toNat : Int)), (4, .int .u32 ((0 : UInt32).toNat : Int)), (5, .int .i64 (w64 (x_8 + 1)))] := hm.keep [0, 4, 5]
      exact ⟨(toU32 (shr .u32 (x_7.toNat : Int) 1)) ^^^ (3988292384 : UInt32), w64 (x_8 + 1), N_6, H, hm, (Sep.sel hS [0] (by decide)), le_6⟩
    · rw [if_neg hc_14] at H
      refine c_cond_f hm rfl (beq_eq_false_iff_ne.2 hc_14) ?_
      refine wp_skip ?_
      refine x_block_n ?_
      refine x_then_n (hKJ_13 _ _ ?_)
      refine wp_region_lit ?_
      refine s_move hm rfl rfl ?_
      clear hm a; intro a hm
      refine s_arith (r := w64 (x_8 + 1)) hm rfl rfl rfl (.inl ⟨rfl, rfl⟩) ?_
      clear hm a; intro a hm
      refine s_assign hm rfl rfl ?_
      clear hm a; intro a hm
      refine wpList_nil ?_
      replace hm : Fr 24 a [(0, .int .u32 ((toU32 (shr .u32 (x_7.toNat : Int) 1)).toNat : Int)), (4, .int .u32 ((0 : UInt32).toNat : Int)), (5, .int .i64 (w64 (x_8 + 1)))] := hm.keep [0, 4, 5]
      refine x_then_n (hKL_9 _ _ ?_)
      replace hS : Sep w0 w_9 [N_6] Z := hS
      replace hm : Fr 24 a [(0, .int .u32 ((toU32 (shr .u32 (x_7.toNat : Int) 1)).toNat : Int)), (4, .int .u32 ((0 : UInt32).toNat : Int)), (5, .int .i64 (w64 (x_8 + 1)))] := hm.keep [0, 4, 5]
      exact ⟨toU32 (shr .u32 (x_7.toNat : Int) 1), w64 (x_8 + 1), N_6, H, hm, (Sep.sel hS [0] (by decide)), le_6⟩
  · rw [if_neg hc_12] at H
    refine c_cond_f hm rfl (decide_eq_false hc_12) ?_
    refine wp_exit (x_then_x (x_then_x (x_block_t ?_)))
    replace hS : Sep w0 w_9 [N_6] Z := hS
    replace hm : Fr 24 a [(0, .int .u32 (x_7.toNat : Int)), (4, .int .u32 ((0 : UInt32).toNat : Int))] := hm.keep [0, 4]
    exact x_then_n (hJ_j_5 x_7 H _ _ ⟨N_6, hm, (Sep.sel hS [0] (by decide)), le_6⟩)

set_option maxHeartbeats 4000000 in
set_option maxRecDepth 20000 in
theorem hocketref1_Sum.calls (K : Nat) (x0 : List UInt8) (p0_0 : Value) (r : UInt32) (w0 w : World) (Z A : Mem) (hA : A.le Z) (hS : Sep w0 w [] Z) (hp0_0 : Rd Kd.u8 A p0_0 x0)
    (H : hocketref1_Sum.f K x0 = some r) :
    Calls Try.prog 43 [p0_0].toArray w (Ret fun v w' => ∃ (N : Mem), v = .int .u32 (r.toNat : Int) ∧ Sep w0 w' [N] Z) := by
  unfold hocketref1_Sum.f at H
  refine f_enter _ Try.func43 rfl Try.ntmps43 rfl fun a hm => ?_
  replace hm : Fr 19 a [(0, p0_0)] := hm
  replace hS := hS.start
  replace hS : Sep w0 w [Mem.no] Z := hS
  refine wp_seq ?_
  refine wp_region_lit ?_
  refine s_assign hm rfl rfl ?_
  clear hm a; intro a hm
  refine wpList_nil ?_
  replace hm : Fr 19 a [(0, p0_0), (2, .int .u32 ((0 : UInt32).toNat : Int))] := hm.keep [0, 2]
  refine x_then_n ?_
  refine wp_seq ?_
  refine wp_region_lit ?_
  refine s_assign hm rfl rfl ?_
  clear hm a; intro a hm
  refine wpList_nil ?_
  replace hm : Fr 19 a [(0, p0_0), (2, .int .u32 ((0 : UInt32).toNat : Int)), (3, .int .u32 ((4294967295 : UInt32).toNat : Int))] := hm.keep [0, 2, 3]
  refine x_then_n ?_
  refine c_seq fun KJ_1 hKJ_1 => ?_
  refine wp_seq ?_
  refine wp_region_lit ?_
  refine s_assign hm rfl rfl ?_
  clear hm a; intro a hm
  refine wpList_nil ?_
  replace hm : Fr 19 a [(0, p0_0), (2, .int .u32 ((0 : UInt32).toNat : Int)), (3, .int .u32 ((4294967295 : UInt32).toNat : Int)), (4, .int .i64 0)] := hm.keep [0, 2, 3, 4]
  refine x_then_n ?_
  have hJ_j_5 : ∀ (x_3 : UInt32), hocketref1_Sum.J1 K x_3 = some r → ∀ (a : Act) (w_4 : World), (∃ (N_2 : Mem), Fr 19 a [(2, .int .u32 ((0 : UInt32).toNat : Int)), (3, .int .u32 (x_3.toNat : Int))] ∧ Sep w0 w_4 [N_2] Z ∧ Mem.no.le N_2) → KJ_1 a w_4 := by
    clear H hm hS a
    rintro x_3 H a w_4 ⟨N_2, hm, hS, le_2⟩
    unfold hocketref1_Sum.J1 at H
    refine hKJ_1 _ _ ?_
    refine wp_seq ?_
    refine wp_region_lit ?_
    refine s_move hm rfl rfl ?_
    clear hm a; intro a hm
    refine s_bits (i := (x_3.toNat : Int)) (j := ((4294967295 : UInt32).toNat : Int)) (r := ((x_3 ^^^ (4294967295 : UInt32)).toNat : Int)) hm rfl rfl rfl (.inr (.inr (.inl ⟨rfl, (bxor32 _ _).symm⟩))) ?_
    clear hm a; intro a hm
    refine s_assign hm rfl rfl ?_
    clear hm a; intro a hm
    refine wpList_nil ?_
    replace hm : Fr 19 a [(2, .int .u32 ((x_3 ^^^ (4294967295 : UInt32)).toNat : Int))] := hm.keep [2]
    refine x_then_n ?_
    refine wp_ret ?_
    obtain rfl := Option.some.inj H
    exact f_ret hm (rs := [.tmp 2]) rfl (.tmp rfl .nil) ⟨_, rfl, N_2, rfl, (Sep.sel hS [0] (by decide))⟩
  clear hKJ_1
  replace hS : Sep w0 w [Mem.no] Z := hS
  replace hm : Fr 19 a [(0, p0_0), (2, .int .u32 ((0 : UInt32).toNat : Int)), (3, .int .u32 ((4294967295 : UInt32).toNat : Int)), (4, .int .i64 0)] := hm.keep [0, 2, 3, 4]
  refine c_block ?_
  refine c_loop (fun k_9 a w_9 => ∃ (x_7 : UInt32) (x_8 : Int) (N_6 : Mem), hocketref1_Sum.L1 K x0 (fun v => hocketref1_Sum.J1 K v) k_9 (x_7, x_8) = some r ∧ Fr 19 a [(0, p0_0), (2, .int .u32 ((0 : UInt32).toNat : Int)), (3, .int .u32 (x_7.toNat : Int)), (4, .int .i64 x_8)] ∧ Sep w0 w_9 [N_6] Z ∧ Mem.no.le N_6) K ⟨(4294967295 : UInt32), 0, Mem.no, H, hm, (Sep.sel hS [0] (by decide)), (Mem.le.refl _)⟩ (fun a w h => by obtain ⟨_, _, _, H, _⟩ := h; cases (show (none : Option (UInt32)) = some r from H)) ?_
  clear hm hS a H
  rintro k_9 a w_9 KL_9 hKL_9 ⟨x_7, x_8, N_6, H, hm, hS, le_6⟩
  replace H : hocketref1_Sum.B1 K x0 (fun v => hocketref1_Sum.J1 K v) (hocketref1_Sum.L1 K x0 (fun v => hocketref1_Sum.J1 K v) k_9) x_7 x_8 = some r := H
  unfold hocketref1_Sum.B1 at H
  refine c_seq fun KJ_11 hKJ_11 => ?_
  refine wp_seq ?_
  refine wp_region_lit ?_
  refine s_move hm rfl rfl ?_
  clear hm a; intro a hm
  refine s_move hm rfl rfl ?_
  clear hm a; intro a hm
  refine s_len hm rfl Try.underlying23 rfl hp0_0 ?_
  clear hm a; intro a hm
  refine s_cmp (b := decide (x_8 < (x0.length : Int))) hm rfl rfl rfl (.inr (.inr (.inl ⟨rfl, rfl⟩))) ?_
  clear hm a; intro a hm
  refine wpList_nil ?_
  replace hm : Fr 19 a [(0, p0_0), (2, .int .u32 ((0 : UInt32).toNat : Int)), (3, .int .u32 (x_7.toNat : Int)), (4, .int .i64 x_8), (8, .bool (decide (x_8 < (x0.length : Int))))] := hm.keep [0, 2, 3, 4, 8]
  refine x_then_n ?_
  by_cases hc_12 : x_8 < (x0.length : Int)
  · rw [if_pos hc_12] at H
    refine c_cond_t hm rfl (decide_eq_true hc_12) ?_
    refine wp_skip ?_
    refine x_then_n (hKJ_11 _ _ ?_)
    refine wp_seq ?_
    refine c_block ?_
    refine wp_region_lit ?_
    refine s_move hm rfl rfl ?_
    clear hm a; intro a hm
    refine s_move hm rfl rfl ?_
    clear hm a; intro a hm
    refine s_move hm rfl rfl ?_
    clear hm a; intro a hm
    obtain ⟨t_13, et_13, H⟩ := Option.bind_eq_some_iff.1 H
    refine v_index hm rfl Try.underlying23 ti5 rfl rfl rfl hp0_0 (hA.trans hS.old) et_13 ?_
    intro ad_14 cs_15 hk_16 hc_17
    obtain rfl := (show cs_15 = [.int .u8 (t_13.toNat : Int)] from hk_16)
    clear hm a; intro a hm
    refine s_load hm rfl rfl (el_one (o := 0) hc_17 Try.underlying5 rfl rfl) ?_
    clear hm a; intro a hm
    obtain ⟨t_18, et_18, H⟩ := Option.bind_eq_some_iff.1 H
    refine s_call hm rfl Try.call48 rfl (hocketref1_Next.calls K x_7 t_13 t_18 w0 _ _ _ (Mem.le.refl _) (hS.enter [] (by decide))  et_18) ?_
    rintro _ w_19 ⟨N_20, rfl, hS'⟩
    clear hm a; intro a hm
    obtain ⟨N_21, hS'', le_21, ln_21⟩ := hS.call [] (by decide) rfl (l' := []) (ow := []) rfl hS'
    replace hS : Sep w0 w_19 [N_21] Z := hS''
    clear hS' hS''
    refine s_assign hm rfl rfl ?_
    clear hm a; intro a hm
    refine wpList_nil ?_
    replace hm : Fr 19 a [(0, p0_0), (2, .int .u32 ((0 : UInt32).toNat : Int)), (3, .int .u32 (t_18.toNat : Int)), (4, .int .i64 x_8)] := hm.keep [0, 2, 3, 4]
    refine x_block_n ?_
    refine x_then_n ?_
    refine wp_region_lit ?_
    refine s_move hm rfl rfl ?_
    clear hm a; intro a hm
    refine s_arith (r := w64 (x_8 + 1)) hm rfl rfl rfl (.inl ⟨rfl, rfl⟩) ?_
    clear hm a; intro a hm
    refine s_assign hm rfl rfl ?_
    clear hm a; intro a hm
    refine wpList_nil ?_
    replace hm : Fr 19 a [(0, p0_0), (2, .int .u32 ((0 : UInt32).toNat : Int)), (3, .int .u32 (t_18.toNat : Int)), (4, .int .i64 (w64 (x_8 + 1)))] := hm.keep [0, 2, 3, 4]
    refine x_then_n (hKL_9 _ _ ?_)
    replace hS : Sep w0 w_19 [N_21] Z := hS
    replace hm : Fr 19 a [(0, p0_0), (2, .int .u32 ((0 : UInt32).toNat : Int)), (3, .int .u32 (t_18.toNat : Int)), (4, .int .i64 (w64 (x_8 + 1)))] := hm.keep [0, 2, 3, 4]
    exact ⟨t_18, w64 (x_8 + 1), N_21, H, hm, (Sep.sel hS [0] (by decide)), (le_6.trans le_21)⟩
  · rw [if_neg hc_12] at H
    refine c_cond_f hm rfl (decide_eq_false hc_12) ?_
    refine wp_exit (x_then_x (x_then_x (x_block_t ?_)))
    replace hS : Sep w0 w_9 [N_6] Z := hS
    replace hm : Fr 19 a [(2, .int .u32 ((0 : UInt32).toNat : Int)), (3, .int .u32 (x_7.toNat : Int))] := hm.keep [2, 3]
    exact x_then_n (hJ_j_5 x_7 H _ _ ⟨N_6, hm, (Sep.sel hS [0] (by decide)), le_6⟩)

set_option maxHeartbeats 4000000 in
set_option maxRecDepth 20000 in
theorem hocketref1_Unfour.calls (K : Nat) (x0 : List UInt8) (p0_0 : Value) (r : (List UInt8) × Bool) (w0 w : World) (Z A : Mem) (hA : A.le Z) (hS : Sep w0 w [] Z) (hp0_0 : Rd Kd.u8 A p0_0 x0)
    (H : hocketref1_Unfour.f K x0 = some r) :
    Calls Try.prog 40 [p0_0].toArray w (Ret fun v w' => ∃ (u0 : Value) (N : Mem) (M0 : Mem), v = .tuple [u0, .bool r.2].toArray ∧ Sep w0 w' [N, M0] Z ∧ Own Kd.u8 5 M0 Mem.no u0 r.1) := by
  unfold hocketref1_Unfour.f at H
  refine f_enter _ Try.func40 rfl Try.ntmps40 rfl fun a hm => ?_
  replace hm : Fr 48 a [(0, p0_0)] := hm
  replace hS := hS.start
  replace hS : Sep w0 w [Mem.no] Z := hS
  refine wp_seq ?_
  refine wp_region_lit ?_
  refine s_assign hm rfl rfl ?_
  clear hm a; intro a hm
  refine s_assign hm rfl rfl ?_
  clear hm a; intro a hm
  refine wpList_nil ?_
  replace hm : Fr 48 a [(0, p0_0), (2, .slice none 0 0), (3, .bool false)] := hm.keep [0, 2, 3]
  refine x_then_n ?_
  refine c_seq fun KJ_1 hKJ_1 => ?_
  refine wp_seq ?_
  refine wp_region_lit ?_
  refine s_move hm rfl rfl ?_
  clear hm a; intro a hm
  refine s_len hm rfl Try.underlying23 rfl hp0_0 ?_
  clear hm a; intro a hm
  refine s_cmp (b := decide ((x0.length : Int) < 4)) hm rfl rfl rfl (.inr (.inr (.inl ⟨rfl, rfl⟩))) ?_
  clear hm a; intro a hm
  refine wpList_nil ?_
  replace hm : Fr 48 a [(0, p0_0), (2, .slice none 0 0), (3, .bool false), (7, .bool (decide ((x0.length : Int) < 4)))] := hm.keep [0, 2, 3, 7]
  refine x_then_n ?_
  by_cases hc_2 : (x0.length : Int) < 4
  · rw [if_pos hc_2] at H
    refine c_cond_t hm rfl (decide_eq_true hc_2) ?_
    refine wp_seq ?_
    refine wp_region_lit ?_
    refine s_assign hm rfl rfl ?_
    clear hm a; intro a hm
    refine s_assign hm rfl rfl ?_
    clear hm a; intro a hm
    refine wpList_nil ?_
    replace hm : Fr 48 a [(0, p0_0), (2, .slice none 0 0), (3, .bool false)] := hm.keep [0, 2, 3]
    refine x_then_n ?_
    refine wp_ret (x_then_r ?_)
    have hS' := hS.room
    replace hS : Sep w0 w [Mem.no, Mem.no] Z := hS'
    clear hS'
    obtain rfl := Option.some.inj H
    exact f_ret hm (rs := [.tmp 2, .tmp 3]) rfl (.tmp rfl (.tmp rfl .nil)) ⟨_, rfl, .slice none 0 0, Mem.no, Mem.no, rfl, (Sep.sel hS [0, 1] (by decide)), (Own.nil Kd.u8 5 Mem.no)⟩
  · rw [if_neg hc_2] at H
    refine c_cond_f hm rfl (decide_eq_false hc_2) ?_
    refine wp_skip ?_
    refine x_then_n (hKJ_1 _ _ ?_)
    refine wp_seq ?_
    refine wp_region_lit ?_
    refine s_move hm rfl rfl ?_
    clear hm a; intro a hm
    obtain ⟨t_4, et_4, H⟩ := Option.bind_eq_some_iff.1 H
    refine s_slice hm rfl Try.underlying23 ti5 rfl rfl hp0_0 rfl rfl et_4 ?_
    intro v_5 hr_6
    clear hm a; intro a hm
    obtain ⟨t_7, et_7, H⟩ := Option.bind_eq_some_iff.1 H
    refine s_call hm rfl Try.call43 rfl (hocketref1_Sum.calls K t_4 _ t_7 w0 _ _ _ (Mem.le.refl _) (hS.enter [] (by decide)) (hr_6.mono (hA.trans (hS.le_zed []))) et_7) ?_
    rintro _ w_8 ⟨N_9, rfl, hS'⟩
    clear hm a; intro a hm
    obtain ⟨N_10, hS'', le_10, ln_10⟩ := hS.call [] (by decide) rfl (l' := []) (ow := []) rfl hS'
    replace hS : Sep w0 w_8 [N_10] Z := hS''
    clear hS' hS''
    refine s_assign hm rfl rfl ?_
    clear hm a; intro a hm
    refine wpList_nil ?_
    replace hm : Fr 48 a [(0, p0_0), (2, .slice none 0 0), (3, .bool false), (4, .int .u32 (t_7.toNat : Int))] := hm.keep [0, 2, 3, 4]
    refine x_then_n ?_
    refine c_seq fun KJ_11 hKJ_11 => ?_
    refine c_seq fun KJ_12 hKJ_12 => ?_
    have hJ_j_16 : ∀ (x_14 : Bool), hocketref1_Unfour.J1 K x0 x_14 = some r → ∀ (a : Act) (w_15 : World), (∃ (N_13 : Mem), Fr 48 a [(0, p0_0), (2, .slice none 0 0), (3, .bool false), (43, .bool x_14)] ∧ Sep w0 w_15 [N_13] Z ∧ N_10.le N_13) → KJ_12 a w_15 := by
      clear H hm hS a
      rintro x_14 H a w_15 ⟨N_13, hm, hS, le_13⟩
      unfold hocketref1_Unfour.J1 at H
      refine hKJ_12 _ _ ?_
      by_cases hc_17 : x_14 = true
      · rw [if_pos hc_17] at H
        refine c_cond_t hm rfl hc_17 ?_
        refine wp_seq ?_
        refine wp_region_lit ?_
        refine s_assign hm rfl rfl ?_
        clear hm a; intro a hm
        refine s_assign hm rfl rfl ?_
        clear hm a; intro a hm
        refine wpList_nil ?_
        replace hm : Fr 48 a [(0, p0_0), (2, .slice none 0 0), (3, .bool false)] := hm.keep [0, 2, 3]
        refine x_then_n ?_
        refine wp_ret (x_then_r ?_)
        have hS' := hS.room
        replace hS : Sep w0 w_15 [N_13, Mem.no] Z := hS'
        clear hS'
        obtain rfl := Option.some.inj H
        exact f_ret hm (rs := [.tmp 2, .tmp 3]) rfl (.tmp rfl (.tmp rfl .nil)) ⟨_, rfl, .slice none 0 0, N_13, Mem.no, rfl, (Sep.sel hS [0, 1] (by decide)), (Own.nil Kd.u8 5 Mem.no)⟩
      · rw [if_neg hc_17] at H
        refine c_cond_f hm rfl (Bool.eq_false_iff.2 hc_17) ?_
        refine wp_skip ?_
        refine x_then_n (hKJ_11 _ _ ?_)
        refine wp_seq ?_
        refine wp_region_lit ?_
        have hq_23 : Reps Kd.u8 Mem.no ([] : List UInt8) _ := (Reps.nil Kd.u8 _)
        refine s_buildSlice hm rfl Try.underlying23 ti5 rfl rfl rfl .nil rfl rfl rfl hS hq_23 rfl ?_
        intro w_19 v_20 M_21 hS' ho_22
        clear hm a; intro a hm
        replace hS : Sep w0 w_19 [N_13, M_21] Z := hS'
        clear hS' hq_23
        refine s_move hm rfl rfl ?_
        clear hm a; intro a hm
        obtain ⟨t_25, et_25, H⟩ := Option.bind_eq_some_iff.1 H
        refine s_slice hm rfl Try.underlying23 ti5 rfl rfl hp0_0 rfl rfl et_25 ?_
        intro v_26 hr_27
        clear hm a; intro a hm
        obtain ⟨t_28, et_28, H⟩ := Option.bind_eq_some_iff.1 H
        refine s_append (J := Mem.no) (I' := Mem.no) (p := 1) 140737488355328 hm rfl rfl rfl Try.underlying23 ti5 rfl rfl rfl rfl hS rfl ho_22 (Src.flat flat_u8 (hr_27.src (hA.trans hS.old))) (Mem.le.refl _) (Mem.le.refl _) et_28 ?_
        intro w_29 v_30 M_31 hS' ho_32
        clear hm a; intro a hm
        replace hS : Sep w0 w_29 [N_13, M_31] Z := hS'
        clear hS'
        refine s_assign hm rfl rfl ?_
        clear hm a; intro a hm
        refine s_assign hm rfl rfl ?_
        clear hm a; intro a hm
        refine wpList_nil ?_
        replace hm : Fr 48 a [(2, v_30), (3, .bool true)] := hm.keep [2, 3]
        refine x_then_n ?_
        refine wp_ret ?_
        obtain rfl := Option.some.inj H
        exact f_ret hm (rs := [.tmp 2, .tmp 3]) rfl (.tmp rfl (.tmp rfl .nil)) ⟨_, rfl, v_30, N_13, M_31, rfl, (Sep.sel hS [0, 1] (by decide)), ho_32⟩
    clear hKJ_12
    refine wp_region_lit ?_
    refine s_move hm rfl rfl ?_
    clear hm a; intro a hm
    obtain ⟨t_34, et_34, H⟩ := Option.bind_eq_some_iff.1 H
    refine v_index hm rfl Try.underlying23 ti5 rfl rfl rfl hp0_0 (hA.trans hS.old) et_34 ?_
    intro ad_35 cs_36 hk_37 hc_38
    obtain rfl := (show cs_36 = [.int .u8 (t_34.toNat : Int)] from hk_37)
    clear hm a; intro a hm
    refine s_load hm rfl rfl (el_one (o := 0) hc_38 Try.underlying5 rfl rfl) ?_
    clear hm a; intro a hm
    refine s_move hm rfl rfl ?_
    clear hm a; intro a hm
    refine s_conv (((toU8 (t_7.toNat : Int)).toNat : Int)) hm rfl Try.underlying52 Try.underlying5 rfl (wrap_u8 _).symm ?_
    clear hm a; intro a hm
    refine s_cmp (b := ((t_34.toNat : Int) != ((toU8 (t_7.toNat : Int)).toNat : Int))) hm rfl rfl rfl (.inr (.inl ⟨rfl, rfl⟩)) ?_
    clear hm a; intro a hm
    refine s_move hm rfl rfl ?_
    clear hm a; intro a hm
    by_cases hc_39 : (t_34.toNat : Int) = ((toU8 (t_7.toNat : Int)).toNat : Int)
    · rw [if_pos hc_39] at H
      refine s_on hm rfl rfl (bne_eq_false_iff_eq.2 hc_39) ?_
      refine s_move hm rfl rfl ?_
      clear hm a; intro a hm
      refine s_on hm rfl rfl (bne_eq_false_iff_eq.2 hc_39) ?_
      obtain ⟨t_40, et_40, H⟩ := Option.bind_eq_some_iff.1 H
      refine v_index hm rfl Try.underlying23 ti5 rfl rfl rfl hp0_0 (hA.trans hS.old) et_40 ?_
      intro ad_41 cs_42 hk_43 hc_44
      obtain rfl := (show cs_42 = [.int .u8 (t_40.toNat : Int)] from hk_43)
      clear hm a; intro a hm
      refine s_on hm rfl rfl (bne_eq_false_iff_eq.2 hc_39) ?_
      refine s_load hm rfl rfl (el_one (o := 0) hc_44 Try.underlying5 rfl rfl) ?_
      clear hm a; intro a hm
      refine s_on hm rfl rfl (bne_eq_false_iff_eq.2 hc_39) ?_
      refine s_move hm rfl rfl ?_
      clear hm a; intro a hm
      refine s_on hm rfl rfl (bne_eq_false_iff_eq.2 hc_39) ?_
      refine s_shift (r := ((toU32 (shr .u32 (t_7.toNat : Int) 8)).toNat : Int)) hm rfl rfl rfl (by decide) (.inr ⟨rfl, (shr32 _ _).symm⟩) ?_
      clear hm a; intro a hm
      refine s_on hm rfl rfl (bne_eq_false_iff_eq.2 hc_39) ?_
      refine s_conv (((toU8 ((toU32 (shr .u32 (t_7.toNat : Int) 8)).toNat : Int)).toNat : Int)) hm rfl Try.underlying52 Try.underlying5 rfl (wrap_u8 _).symm ?_
      clear hm a; intro a hm
      refine s_on hm rfl rfl (bne_eq_false_iff_eq.2 hc_39) ?_
      refine s_cmp (b := ((t_40.toNat : Int) != ((toU8 ((toU32 (shr .u32 (t_7.toNat : Int) 8)).toNat : Int)).toNat : Int))) hm rfl rfl rfl (.inr (.inl ⟨rfl, rfl⟩)) ?_
      clear hm a; intro a hm
      refine s_pick_f hm rfl rfl (bne_eq_false_iff_eq.2 hc_39) rfl ?_
      clear hm a; intro a hm
      refine s_move hm rfl rfl ?_
      clear hm a; intro a hm
      by_cases hc_45 : (t_40.toNat : Int) = ((toU8 ((toU32 (shr .u32 (t_7.toNat : Int) 8)).toNat : Int)).toNat : Int)
      · rw [if_pos hc_45] at H
        refine s_on hm rfl rfl (bne_eq_false_iff_eq.2 hc_45) ?_
        refine s_move hm rfl rfl ?_
        clear hm a; intro a hm
        refine s_on hm rfl rfl (bne_eq_false_iff_eq.2 hc_45) ?_
        obtain ⟨t_46, et_46, H⟩ := Option.bind_eq_some_iff.1 H
        refine v_index hm rfl Try.underlying23 ti5 rfl rfl rfl hp0_0 (hA.trans hS.old) et_46 ?_
        intro ad_47 cs_48 hk_49 hc_50
        obtain rfl := (show cs_48 = [.int .u8 (t_46.toNat : Int)] from hk_49)
        clear hm a; intro a hm
        refine s_on hm rfl rfl (bne_eq_false_iff_eq.2 hc_45) ?_
        refine s_load hm rfl rfl (el_one (o := 0) hc_50 Try.underlying5 rfl rfl) ?_
        clear hm a; intro a hm
        refine s_on hm rfl rfl (bne_eq_false_iff_eq.2 hc_45) ?_
        refine s_move hm rfl rfl ?_
        clear hm a; intro a hm
        refine s_on hm rfl rfl (bne_eq_false_iff_eq.2 hc_45) ?_
        refine s_shift (r := ((toU32 (shr .u32 (t_7.toNat : Int) 16)).toNat : Int)) hm rfl rfl rfl (by decide) (.inr ⟨rfl, (shr32 _ _).symm⟩) ?_
        clear hm a; intro a hm
        refine s_on hm rfl rfl (bne_eq_false_iff_eq.2 hc_45) ?_
        refine s_conv (((toU8 ((toU32 (shr .u32 (t_7.toNat : Int) 16)).toNat : Int)).toNat : Int)) hm rfl Try.underlying52 Try.underlying5 rfl (wrap_u8 _).symm ?_
        clear hm a; intro a hm
        refine s_on hm rfl rfl (bne_eq_false_iff_eq.2 hc_45) ?_
        refine s_cmp (b := ((t_46.toNat : Int) != ((toU8 ((toU32 (shr .u32 (t_7.toNat : Int) 16)).toNat : Int)).toNat : Int))) hm rfl rfl rfl (.inr (.inl ⟨rfl, rfl⟩)) ?_
        clear hm a; intro a hm
        refine s_pick_f hm rfl rfl (bne_eq_false_iff_eq.2 hc_45) rfl ?_
        clear hm a; intro a hm
        refine s_move hm rfl rfl ?_
        clear hm a; intro a hm
        by_cases hc_51 : (t_46.toNat : Int) = ((toU8 ((toU32 (shr .u32 (t_7.toNat : Int) 16)).toNat : Int)).toNat : Int)
        · rw [if_pos hc_51] at H
          refine s_on hm rfl rfl (bne_eq_false_iff_eq.2 hc_51) ?_
          refine s_move hm rfl rfl ?_
          clear hm a; intro a hm
          refine s_on hm rfl rfl (bne_eq_false_iff_eq.2 hc_51) ?_
          obtain ⟨t_52, et_52, H⟩ := Option.bind_eq_some_iff.1 H
          refine v_index hm rfl Try.underlying23 ti5 rfl rfl rfl hp0_0 (hA.trans hS.old) et_52 ?_
          intro ad_53 cs_54 hk_55 hc_56
          obtain rfl := (show cs_54 = [.int .u8 (t_52.toNat : Int)] from hk_55)
          clear hm a; intro a hm
          refine s_on hm rfl rfl (bne_eq_false_iff_eq.2 hc_51) ?_
          refine s_load hm rfl rfl (el_one (o := 0) hc_56 Try.underlying5 rfl rfl) ?_
          clear hm a; intro a hm
          refine s_on hm rfl rfl (bne_eq_false_iff_eq.2 hc_51) ?_
          refine s_move hm rfl rfl ?_
          clear hm a; intro a hm
          refine s_on hm rfl rfl (bne_eq_false_iff_eq.2 hc_51) ?_
          refine s_shift (r := ((toU32 (shr .u32 (t_7.toNat : Int) 24)).toNat : Int)) hm rfl rfl rfl (by decide) (.inr ⟨rfl, (shr32 _ _).symm⟩) ?_
          clear hm a; intro a hm
          refine s_on hm rfl rfl (bne_eq_false_iff_eq.2 hc_51) ?_
          refine s_conv (((toU8 ((toU32 (shr .u32 (t_7.toNat : Int) 24)).toNat : Int)).toNat : Int)) hm rfl Try.underlying52 Try.underlying5 rfl (wrap_u8 _).symm ?_
          clear hm a; intro a hm
          refine s_on hm rfl rfl (bne_eq_false_iff_eq.2 hc_51) ?_
          refine s_cmp (b := ((t_52.toNat : Int) != ((toU8 ((toU32 (shr .u32 (t_7.toNat : Int) 24)).toNat : Int)).toNat : Int))) hm rfl rfl rfl (.inr (.inl ⟨rfl, rfl⟩)) ?_
          clear hm a; intro a hm
          refine s_pick_f hm rfl rfl (bne_eq_false_iff_eq.2 hc_51) rfl ?_
          clear hm a; intro a hm
          refine wpList_nil ?_
          replace hm : Fr 48 a [(0, p0_0), (2, .slice none 0 0), (3, .bool false), (43, .bool ((t_52.toNat : Int) != ((toU8 ((toU32 (shr .u32 (t_7.toNat : Int) 24)).toNat : Int)).toNat : Int)))] := hm.keep [0, 2, 3, 43]
          replace hS : Sep w0 w_8 [N_10] Z := hS
          replace hm : Fr 48 a [(0, p0_0), (2, .slice none 0 0), (3, .bool false), (43, .bool ((t_52.toNat : Int) != ((toU8 ((toU32 (shr .u32 (t_7.toNat : Int) 24)).toNat : Int)).toNat : Int)))] := hm.keep [0, 2, 3, 43]
          exact x_then_n (hJ_j_16 ((t_52.toNat : Int) != ((toU8 ((toU32 (shr .u32 (t_7.toNat : Int) 24)).toNat : Int)).toNat : Int)) H _ _ ⟨N_10, hm, (Sep.sel hS [0] (by decide)), (Mem.le.refl _)⟩)
        · rw [if_neg hc_51] at H
          refine s_off hm rfl rfl rfl (bne_iff_ne.2 hc_51) ?_
          clear hm a; intro a hm
          refine s_off hm rfl rfl rfl (bne_iff_ne.2 hc_51) ?_
          clear hm a; intro a hm
          refine s_off hm rfl rfl rfl (bne_iff_ne.2 hc_51) ?_
          clear hm a; intro a hm
          refine s_off hm rfl rfl rfl (bne_iff_ne.2 hc_51) ?_
          clear hm a; intro a hm
          refine s_off hm rfl rfl rfl (bne_iff_ne.2 hc_51) ?_
          clear hm a; intro a hm
          refine s_off hm rfl rfl rfl (bne_iff_ne.2 hc_51) ?_
          clear hm a; intro a hm
          refine s_off hm rfl rfl rfl (bne_iff_ne.2 hc_51) ?_
          clear hm a; intro a hm
          refine s_pick_t hm rfl rfl (bne_iff_ne.2 hc_51) rfl ?_
          clear hm a; intro a hm
          refine wpList_nil ?_
          replace hm : Fr 48 a [(0, p0_0), (2, .slice none 0 0), (3, .bool false), (43, .bool true)] := hm.keep [0, 2, 3, 43]
          replace hS : Sep w0 w_8 [N_10] Z := hS
          replace hm : Fr 48 a [(0, p0_0), (2, .slice none 0 0), (3, .bool false), (43, .bool true)] := hm.keep [0, 2, 3, 43]
          exact x_then_n (hJ_j_16 true H _ _ ⟨N_10, hm, (Sep.sel hS [0] (by decide)), (Mem.le.refl _)⟩)
      · rw [if_neg hc_45] at H
        refine s_off hm rfl rfl rfl (bne_iff_ne.2 hc_45) ?_
        clear hm a; intro a hm
        refine s_off hm rfl rfl rfl (bne_iff_ne.2 hc_45) ?_
        clear hm a; intro a hm
        refine s_off hm rfl rfl rfl (bne_iff_ne.2 hc_45) ?_
        clear hm a; intro a hm
        refine s_off hm rfl rfl rfl (bne_iff_ne.2 hc_45) ?_
        clear hm a; intro a hm
        refine s_off hm rfl rfl rfl (bne_iff_ne.2 hc_45) ?_
        clear hm a; intro a hm
        refine s_off hm rfl rfl rfl (bne_iff_ne.2 hc_45) ?_
        clear hm a; intro a hm
        refine s_off hm rfl rfl rfl (bne_iff_ne.2 hc_45) ?_
        clear hm a; intro a hm
        refine s_pick_t hm rfl rfl (bne_iff_ne.2 hc_45) rfl ?_
        clear hm a; intro a hm
        refine s_move hm rfl rfl ?_
        clear hm a; intro a hm
        refine s_off hm rfl rfl rfl rfl ?_
        clear hm a; intro a hm
        refine s_off hm rfl rfl rfl rfl ?_
        clear hm a; intro a hm
        refine s_off hm rfl rfl rfl rfl ?_
        clear hm a; intro a hm
        refine s_off hm rfl rfl rfl rfl ?_
        clear hm a; intro a hm
        refine s_off hm rfl rfl rfl rfl ?_
        clear hm a; intro a hm
        refine s_off hm rfl rfl rfl rfl ?_
        clear hm a; intro a hm
        refine s_off hm rfl rfl rfl rfl ?_
        clear hm a; intro a hm
        refine s_pick_t hm rfl rfl rfl rfl ?_
        clear hm a; intro a hm
        refine wpList_nil ?_
        replace hm : Fr 48 a [(0, p0_0), (2, .slice none 0 0), (3, .bool false), (43, .bool true)] := hm.keep [0, 2, 3, 43]
        replace hS : Sep w0 w_8 [N_10] Z := hS
        replace hm : Fr 48 a [(0, p0_0), (2, .slice none 0 0), (3, .bool false), (43, .bool true)] := hm.keep [0, 2, 3, 43]
        exact x_then_n (hJ_j_16 true H _ _ ⟨N_10, hm, (Sep.sel hS [0] (by decide)), (Mem.le.refl _)⟩)
    · rw [if_neg hc_39] at H
      refine s_off hm rfl rfl rfl (bne_iff_ne.2 hc_39) ?_
      clear hm a; intro a hm
      refine s_off hm rfl rfl rfl (bne_iff_ne.2 hc_39) ?_
      clear hm a; intro a hm
      refine s_off hm rfl rfl rfl (bne_iff_ne.2 hc_39) ?_
      clear hm a; intro a hm
      refine s_off hm rfl rfl rfl (bne_iff_ne.2 hc_39) ?_
      clear hm a; intro a hm
      refine s_off hm rfl rfl rfl (bne_iff_ne.2 hc_39) ?_
      clear hm a; intro a hm
      refine s_off hm rfl rfl rfl (bne_iff_ne.2 hc_39) ?_
      clear hm a; intro a hm
      refine s_off hm rfl rfl rfl (bne_iff_ne.2 hc_39) ?_
      clear hm a; intro a hm
      refine s_pick_t hm rfl rfl (bne_iff_ne.2 hc_39) rfl ?_
      clear hm a; intro a hm
      refine s_move hm rfl rfl ?_
      clear hm a; intro a hm
      refine s_off hm rfl rfl rfl rfl ?_
      clear hm a; intro a hm
      refine s_off hm rfl rfl rfl rfl ?_
      clear hm a; intro a hm
      refine s_off hm rfl rfl rfl rfl ?_
      clear hm a; intro a hm
      refine s_off hm rfl rfl rfl rfl ?_
      clear hm a; intro a hm
      refine s_off hm rfl rfl rfl rfl ?_
      clear hm a; intro a hm
      refine s_off hm rfl rfl rfl rfl ?_
      clear hm a; intro a hm
      refine s_off hm rfl rfl rfl rfl ?_
      clear hm a; intro a hm
      refine s_pick_t hm rfl rfl rfl rfl ?_
      clear hm a; intro a hm
      refine s_move hm rfl rfl ?_
      clear hm a; intro a hm
      refine s_off hm rfl rfl rfl rfl ?_
      clear hm a; intro a hm
      refine s_off hm rfl rfl rfl rfl ?_
      clear hm a; intro a hm
      refine s_off hm rfl rfl rfl rfl ?_
      clear hm a; intro a hm
      refine s_off hm rfl rfl rfl rfl ?_
      clear hm a; intro a hm
      refine s_off hm rfl rfl rfl rfl ?_
      clear hm a; intro a hm
      refine s_off hm rfl rfl rfl rfl ?_
      clear hm a; intro a hm
      refine s_off hm rfl rfl rfl rfl ?_
      clear hm a; intro a hm
      refine s_pick_t hm rfl rfl rfl rfl ?_
      clear hm a; intro a hm
      refine wpList_nil ?_
      replace hm : Fr 48 a [(0, p0_0), (2, .slice none 0 0), (3, .bool false), (43, .bool true)] := hm.keep [0, 2, 3, 43]
      replace hS : Sep w0 w_8 [N_10] Z := hS
      replace hm : Fr 48 a [(0, p0_0), (2, .slice none 0 0), (3, .bool false), (43, .bool true)] := hm.keep [0, 2, 3, 43]
      exact x_then_n (hJ_j_16 true H _ _ ⟨N_10, hm, (Sep.sel hS [0] (by decide)), (Mem.le.refl _)⟩)

set_option maxHeartbeats 4000000 in
set_option maxRecDepth 20000 in
theorem hocketref1_Reader_Num.calls (K : Nat) (g0 : Nat) (x0_B : List UInt8) (p0_0 : Value) (x0_Bad : Bool) (x1 : Int) (r : Int × (List UInt8) × Bool) (w0 w : World) (Z A : Mem) (hA : A.le Z) (hS : Sep w0 w [Mem.one g0 (.cells ([p0_0, .bool x0_Bad] : List Value).toArray 67 (0, 0))] Z) (hp0_0 : Rd Kd.u8 A p0_0 x0_B)
    (H : hocketref1_Reader_Num.f K x0_B x0_Bad x1 = some r) :
    Calls Try.prog 41 [.pointer (some ⟨g0, 0, none⟩), .int .i64 x1].toArray w (Ret fun v w' => ∃ (u0 : Value) (N : Mem), v = .int .i64 r.1 ∧ Sep w0 w' [N, Mem.one g0 (.cells ([u0, .bool r.2.2] : List Value).toArray 67 (0, 0))] Z ∧ Rd Kd.u8 (A.un N) u0 r.2.1) := by
  unfold hocketref1_Reader_Num.f at H
  refine f_enter _ Try.func41 rfl Try.ntmps41 rfl fun a hm => ?_
  replace hm : Fr 75 a [(0, .pointer (some ⟨g0, 0, none⟩)), (1, .int .i64 x1)] := hm
  replace hS := hS.start
  replace hS : Sep w0 w [Mem.no, Mem.one g0 (.cells ([p0_0, .bool x0_Bad] : List Value).toArray 67 (0, 0))] Z := hS
  refine wp_seq ?_
  refine wp_region_lit ?_
  refine s_assign hm rfl rfl ?_
  clear hm a; intro a hm
  refine wpList_nil ?_
  replace hm : Fr 75 a [(0, .pointer (some ⟨g0, 0, none⟩)), (1, .int .i64 x1), (4, .int .i64 0)] := hm.keep [0, 1, 4]
  refine x_then_n ?_
  refine wp_seq ?_
  refine wp_region_lit ?_
  refine s_assign hm rfl rfl ?_
  clear hm a; intro a hm
  refine s_assign hm rfl rfl ?_
  clear hm a; intro a hm
  refine wpList_nil ?_
  replace hm : Fr 75 a [(0, .pointer (some ⟨g0, 0, none⟩)), (1, .int .i64 x1), (4, .int .i64 0), (5, .int .u64 0), (6, .int .i64 0)] := hm.keep [0, 1, 4, 5, 6]
  refine x_then_n ?_
  refine c_seq fun KJ_1 hKJ_1 => ?_
  have hJ_j_5 : ∀ (x_3 : Bool), hocketref1_Reader_Num.J1 K x0_B x_3 = some r → ∀ (a : Act) (w_4 : World), (∃ (N_2 : Mem), Fr 75 a [(4, .int .i64 0)] ∧ Sep w0 w_4 [N_2, Mem.one g0 (.cells ([p0_0, .bool x_3] : List Value).toArray 67 (0, 0))] Z ∧ Mem.no.le N_2) → KJ_1 a w_4 := by
    clear H hm hS a
    rintro x_3 H a w_4 ⟨N_2, hm, hS, le_2⟩
    unfold hocketref1_Reader_Num.J1 at H
    refine hKJ_1 _ _ ?_
    refine wp_seq ?_
    refine wp_region_lit ?_
    refine s_assign hm rfl rfl ?_
    clear hm a; intro a hm
    refine wpList_nil ?_
    replace hm : Fr 75 a [(4, .int .i64 0)] := hm.keep [4]
    refine x_then_n ?_
    refine wp_ret ?_
    obtain rfl := Option.some.inj H
    exact f_ret hm (rs := [.tmp 4]) rfl (.tmp rfl .nil) ⟨_, rfl, p0_0, N_2, rfl, (Sep.sel hS [0, 1] (by decide)), (hp0_0.mono (Mem.le_un _ _))⟩
  clear hKJ_1
  replace hS : Sep w0 w [Mem.no, Mem.one g0 (.cells ([p0_0, .bool x0_Bad] : List Value).toArray 67 (0, 0))] Z := hS
  replace hm : Fr 75 a [(0, .pointer (some ⟨g0, 0, none⟩)), (1, .int .i64 x1), (4, .int .i64 0), (5, .int .u64 0), (6, .int .i64 0)] := hm.keep [0, 1, 4, 5, 6]
  refine c_block ?_
  refine c_loop (fun k_9 a w_9 => ∃ (x_7 : Int) (x_8 : Int) (N_6 : Mem), hocketref1_Reader_Num.L1 K x0_Bad x0_B x1 (fun v => hocketref1_Reader_Num.J1 K x0_B v) k_9 (x_7, x_8) = some r ∧ Fr 75 a [(0, .pointer (some ⟨g0, 0, none⟩)), (1, .int .i64 x1), (4, .int .i64 0), (5, .int .u64 x_7), (6, .int .i64 x_8)] ∧ Sep w0 w_9 [N_6, Mem.one g0 (.cells ([p0_0, .bool x0_Bad] : List Value).toArray 67 (0, 0))] Z ∧ Mem.no.le N_6) K ⟨0, 0, Mem.no, H, hm, (Sep.sel hS [0, 1] (by decide)), (Mem.le.refl _)⟩ (fun a w h => by obtain ⟨_, _, _, H, _⟩ := h; cases (show (none : Option (Int × (List UInt8) × Bool)) = some r from H)) ?_
  clear hm hS a H
  rintro k_9 a w_9 KL_9 hKL_9 ⟨x_7, x_8, N_6, H, hm, hS, le_6⟩
  replace H : hocketref1_Reader_Num.B1 K x0_Bad x0_B x1 (fun v => hocketref1_Reader_Num.J1 K x0_B v) (hocketref1_Reader_Num.L1 K x0_Bad x0_B x1 (fun v => hocketref1_Reader_Num.J1 K x0_B v) k_9) x_7 x_8 = some r := H
  unfold hocketref1_Reader_Num.B1 at H
  refine c_seq fun KJ_11 hKJ_11 => ?_
  refine wp_seq ?_
  refine wp_region_lit ?_
  refine s_move hm rfl rfl ?_
  clear hm a; intro a hm
  refine s_nilCheck hm rfl rfl ?_
  clear hm a; intro a hm
  refine s_fieldAddr hm rfl Try.underlying67 rfl ti4 rfl rfl ?_
  clear hm a; intro a hm
  refine s_load hm rfl rfl (hS.load_one (p := 1) rfl Try.underlying4 rfl rfl) ?_
  clear hm a; intro a hm
  refine s_not hm rfl rfl ?_
  clear hm a; intro a hm
  refine wpList_nil ?_
  replace hm : Fr 75 a [(0, .pointer (some ⟨g0, 0, none⟩)), (1, .int .i64 x1), (4, .int .i64 0), (5, .int .u64 x_7), (6, .int .i64 x_8), (12, .bool (!x0_Bad))] := hm.keep [0, 1, 4, 5, 6, 12]
  refine x_then_n ?_
  by_cases hc_12 : x0_Bad = true
  · rw [if_pos hc_12] at H
    refine c_cond_f hm rfl (nf hc_12) ?_
    refine wp_exit (x_then_x (x_then_x (x_block_t ?_)))
    replace hS : Sep w0 w_9 [N_6, Mem.one g0 (.cells ([p0_0, .bool x0_Bad] : List Value).toArray 67 (0, 0))] Z := hS
    replace hm : Fr 75 a [(4, .int .i64 0)] := hm.keep [4]
    exact x_then_n (hJ_j_5 x0_Bad H _ _ ⟨N_6, hm, (Sep.sel hS [0, 1] (by decide)), le_6⟩)
  · rw [if_neg hc_12] at H
    refine c_cond_t hm rfl (nt (Bool.eq_false_iff.2 hc_12)) ?_
    refine wp_skip ?_
    refine x_then_n (hKJ_11 _ _ ?_)
    refine c_block ?_
    refine c_seq fun KJ_13 hKJ_13 => ?_
    refine c_seq fun KJ_14 hKJ_14 => ?_
    have hJ_j_18 : ∀ (x_16 : Bool), hocketref1_Reader_Num.J2 K (fun v => hocketref1_Reader_Num.J1 K x0_B v) x0_B x_8 x_7 x0_Bad x1 (hocketref1_Reader_Num.L1 K x0_Bad x0_B x1 (fun v => hocketref1_Reader_Num.J1 K x0_B v) k_9) x_16 = some r → ∀ (a : Act) (w_17 : World), (∃ (N_15 : Mem), Fr 75 a [(0, .pointer (some ⟨g0, 0, none⟩)), (1, .int .i64 x1), (4, .int .i64 0), (5, .int .u64 x_7), (6, .int .i64 x_8), (23, .bool x_16)] ∧ Sep w0 w_17 [N_15, Mem.one g0 (.cells ([p0_0, .bool x0_Bad] : List Value).toArray 67 (0, 0))] Z ∧ N_6.le N_15) → KJ_14 a w_17 := by
      clear H hm hS a
      rintro x_16 H a w_17 ⟨N_15, hm, hS, le_15⟩
      unfold hocketref1_Reader_Num.J2 at H
      refine hKJ_14 _ _ ?_
      by_cases hc_19 : x_16 = true
      · rw [if_pos hc_19] at H
        refine c_cond_t hm rfl hc_19 ?_
        refine wp_seq ?_
        refine wp_region_lit ?_
        refine s_move hm rfl rfl ?_
        clear hm a; intro a hm
        refine s_nilCheck hm rfl rfl ?_
        clear hm a; intro a hm
        refine s_fieldAddr hm rfl Try.underlying67 rfl ti4 rfl rfl ?_
        clear hm a; intro a hm
        obtain ⟨w_20, hs', hS'⟩ := hS.store (P := Try.prog) (p := 1) (o := 1) (t := 4) (v := .bool true) (vs := [.bool true]) rfl ti4 rfl rfl rfl (by intro u hu; simp only [List.mem_cons, List.not_mem_nil, or_false] at hu; rcases hu with rfl <;> rfl)
        refine s_store hm rfl rfl hs' ?_
        replace hS : Sep w0 w_20 [N_15, Mem.one g0 (.cells ([p0_0, .bool true] : List Value).toArray 67 (0, 0))] Z := hS'
        clear hs' hS'
        refine wpList_nil ?_
        replace hm : Fr 75 a [(0, .pointer (some ⟨g0, 0, none⟩)), (1, .int .i64 x1), (4, .int .i64 0), (5, .int .u64 x_7), (6, .int .i64 x_8)] := hm.keep [0, 1, 4, 5, 6]
        refine x_then_n ?_
        refine wp_exit (x_then_x (x_block_x rfl (x_then_x (x_block_t ?_))))
        replace hS : Sep w0 w_20 [N_15, Mem.one g0 (.cells ([p0_0, .bool true] : List Value).toArray 67 (0, 0))] Z := hS
        replace hm : Fr 75 a [(4, .int .i64 0)] := hm.keep [4]
        exact x_then_n (hJ_j_5 true H _ _ ⟨N_15, hm, (Sep.sel hS [0, 1] (by decide)), (le_6.trans le_15)⟩)
      · rw [if_neg hc_19] at H
        refine c_cond_f hm rfl (Bool.eq_false_iff.2 hc_19) ?_
        refine wp_skip ?_
        refine x_then_n (hKJ_13 _ _ ?_)
        refine wp_seq ?_
        refine wp_region_lit ?_
        refine s_move hm rfl rfl ?_
        clear hm a; intro a hm
        refine s_nilCheck hm rfl rfl ?_
        clear hm a; intro a hm
        refine s_fieldAddr hm rfl Try.underlying67 rfl ti23 rfl rfl ?_
        clear hm a; intro a hm
        refine s_load hm rfl rfl (hS.load_one (p := 1) rfl Try.underlying23 rfl rfl) ?_
        clear hm a; intro a hm
        refine s_move hm rfl rfl ?_
        clear hm a; intro a hm
        obtain ⟨t_21, et_21, H⟩ := Option.bind_eq_some_iff.1 H
        refine v_index hm rfl Try.underlying23 ti5 rfl rfl rfl hp0_0 (hA.trans hS.old) et_21 ?_
        intro ad_22 cs_23 hk_24 hc_25
        obtain rfl := (show cs_23 = [.int .u8 (t_21.toNat : Int)] from hk_24)
        clear hm a; intro a hm
        refine s_load hm rfl rfl (el_one (o := 0) hc_25 Try.underlying5 rfl rfl) ?_
        clear hm a; intro a hm
        refine s_assign hm rfl rfl ?_
        clear hm a; intro a hm
        refine wpList_nil ?_
        replace hm : Fr 75 a [(0, .pointer (some ⟨g0, 0, none⟩)), (1, .int .i64 x1), (4, .int .i64 0), (5, .int .u64 x_7), (6, .int .i64 x_8), (7, .int .u8 (t_21.toNat : Int))] := hm.keep [0, 1, 4, 5, 6, 7]
        refine x_then_n ?_
        refine wp_seq ?_
        refine wp_region_lit ?_
        refine s_move hm rfl rfl ?_
        clear hm a; intro a hm
        refine s_move hm rfl rfl ?_
        clear hm a; intro a hm
        refine s_bits (i := (t_21.toNat : Int)) (j := ((127 : UInt8).toNat : Int)) (r := ((t_21 &&& (127 : UInt8)).toNat : Int)) hm rfl rfl rfl (.inl ⟨rfl, (band8 _ _).symm⟩) ?_
        clear hm a; intro a hm
        refine s_conv (wu64 ((t_21 &&& (127 : UInt8)).toNat : Int)) hm rfl Try.underlying5 Try.underlying70 rfl rfl ?_
        clear hm a; intro a hm
        refine s_move hm rfl rfl ?_
        clear hm a; intro a hm
        refine s_arith (r := w64 (7 * x_8)) hm rfl rfl rfl (.inr (.inr ⟨rfl, rfl⟩)) ?_
        clear hm a; intro a hm
        refine s_conv (wu64 (w64 (7 * x_8))) hm rfl Try.underlying3 Try.underlying26 rfl rfl ?_
        clear hm a; intro a hm
        refine s_shift (r := shl .u64 (wu64 ((t_21 &&& (127 : UInt8)).toNat : Int)) (wu64 (w64 (7 * x_8)))) hm rfl rfl rfl (wu64_nn _) (.inl ⟨rfl, rfl⟩) ?_
        clear hm a; intro a hm
        refine s_bits (i := x_7) (j := shl .u64 (wu64 ((t_21 &&& (127 : UInt8)).toNat : Int)) (wu64 (w64 (7 * x_8)))) (r := bor .u64 x_7 (shl .u64 (wu64 ((t_21 &&& (127 : UInt8)).toNat : Int)) (wu64 (w64 (7 * x_8))))) hm rfl rfl rfl (.inr (.inl ⟨rfl, rfl⟩)) ?_
        clear hm a; intro a hm
        refine s_assign hm rfl rfl ?_
        clear hm a; intro a hm
        refine wpList_nil ?_
        replace hm : Fr 75 a [(0, .pointer (some ⟨g0, 0, none⟩)), (1, .int .i64 x1), (4, .int .i64 0), (5, .int .u64 (bor .u64 x_7 (shl .u64 (wu64 ((t_21 &&& (127 : UInt8)).toNat : Int)) (wu64 (w64 (7 * x_8)))))), (6, .int .i64 x_8), (7, .int .u8 (t_21.toNat : Int))] := hm.keep [0, 1, 4, 5, 6, 7]
        refine x_then_n ?_
        refine wp_seq ?_
        refine wp_region_lit ?_
        refine s_move hm rfl rfl ?_
        clear hm a; intro a hm
        refine s_arith (r := w64 (x_8 + 1)) hm rfl rfl rfl (.inl ⟨rfl, rfl⟩) ?_
        clear hm a; intro a hm
        refine s_assign hm rfl rfl ?_
        clear hm a; intro a hm
        refine wpList_nil ?_
        replace hm : Fr 75 a [(0, .pointer (some ⟨g0, 0, none⟩)), (1, .int .i64 x1), (4, .int .i64 0), (5, .int .u64 (bor .u64 x_7 (shl .u64 (wu64 ((t_21 &&& (127 : UInt8)).toNat : Int)) (wu64 (w64 (7 * x_8)))))), (6, .int .i64 (w64 (x_8 + 1))), (7, .int .u8 (t_21.toNat : Int))] := hm.keep [0, 1, 4, 5, 6, 7]
        refine x_then_n ?_
        refine wp_seq ?_
        refine wp_region_lit ?_
        refine s_move hm rfl rfl ?_
        clear hm a; intro a hm
        refine s_cmp (b := decide ((t_21.toNat : Int) < ((128 : UInt8).toNat : Int))) hm rfl rfl rfl (.inr (.inr (.inl ⟨rfl, rfl⟩))) ?_
        clear hm a; intro a hm
        refine wpList_nil ?_
        replace hm : Fr 75 a [(0, .pointer (some ⟨g0, 0, none⟩)), (1, .int .i64 x1), (4, .int .i64 0), (5, .int .u64 (bor .u64 x_7 (shl .u64 (wu64 ((t_21 &&& (127 : UInt8)).toNat : Int)) (wu64 (w64 (7 * x_8)))))), (6, .int .i64 (w64 (x_8 + 1))), (7, .int .u8 (t_21.toNat : Int)), (46, .bool (decide ((t_21.toNat : Int) < ((128 : UInt8).toNat : Int))))] := hm.keep [0, 1, 4, 5, 6, 7, 46]
        refine x_then_n ?_
        by_cases hc_26 : (t_21.toNat : Int) < ((128 : UInt8).toNat : Int)
        · rw [if_pos hc_26] at H
          refine c_cond_t hm rfl (decide_eq_true hc_26) ?_
          refine c_seq fun KJ_27 hKJ_27 => ?_
          refine c_seq fun KJ_28 hKJ_28 => ?_
          have hJ_j_32 : ∀ (x_30 : Bool), hocketref1_Reader_Num.J3 K (fun v => hocketref1_Reader_Num.J1 K x0_B v) x0_B x_8 x_7 t_21 x0_Bad x_30 = some r → ∀ (a : Act) (w_31 : World), (∃ (N_29 : Mem), Fr 75 a [(0, .pointer (some ⟨g0, 0, none⟩)), (1, .int .i64 x1), (4, .int .i64 0), (5, .int .u64 (bor .u64 x_7 (shl .u64 (wu64 ((t_21 &&& (127 : UInt8)).toNat : Int)) (wu64 (w64 (7 * x_8)))))), (6, .int .i64 (w64 (x_8 + 1))), (60, .bool x_30)] ∧ Sep w0 w_31 [N_29, Mem.one g0 (.cells ([p0_0, .bool x0_Bad] : List Value).toArray 67 (0, 0))] Z ∧ N_15.le N_29) → KJ_28 a w_31 := by
            clear H hm hS a
            rintro x_30 H a w_31 ⟨N_29, hm, hS, le_29⟩
            unfold hocketref1_Reader_Num.J3 at H
            refine hKJ_28 _ _ ?_
            by_cases hc_33 : x_30 = true
            · rw [if_pos hc_33] at H
              refine c_cond_t hm rfl hc_33 ?_
              refine wp_seq ?_
              refine wp_region_lit ?_
              refine s_move hm rfl rfl ?_
              clear hm a; intro a hm
              refine s_nilCheck hm rfl rfl ?_
              clear hm a; intro a hm
              refine s_fieldAddr hm rfl Try.underlying67 rfl ti4 rfl rfl ?_
              clear hm a; intro a hm
              obtain ⟨w_34, hs', hS'⟩ := hS.store (P := Try.prog) (p := 1) (o := 1) (t := 4) (v := .bool true) (vs := [.bool true]) rfl ti4 rfl rfl rfl (by intro u hu; simp only [List.mem_cons, List.not_mem_nil, or_false] at hu; rcases hu with rfl <;> rfl)
              refine s_store hm rfl rfl hs' ?_
              replace hS : Sep w0 w_34 [N_29, Mem.one g0 (.cells ([p0_0, .bool true] : List Value).toArray 67 (0, 0))] Z := hS'
              clear hs' hS'
              refine wpList_nil ?_
              replace hm : Fr 75 a [(0, .pointer (some ⟨g0, 0, none⟩)), (1, .int .i64 x1), (4, .int .i64 0), (5, .int .u64 (bor .u64 x_7 (shl .u64 (wu64 ((t_21 &&& (127 : UInt8)).toNat : Int)) (wu64 (w64 (7 * x_8)))))), (6, .int .i64 (w64 (x_8 + 1)))] := hm.keep [0, 1, 4, 5, 6]
              refine x_then_n ?_
              refine wp_exit (x_then_x (x_block_x rfl (x_then_x (x_block_t ?_))))
              replace hS : Sep w0 w_34 [N_29, Mem.one g0 (.cells ([p0_0, .bool true] : List Value).toArray 67 (0, 0))] Z := hS
              replace hm : Fr 75 a [(4, .int .i64 0)] := hm.keep [4]
              exact x_then_n (hJ_j_5 true H _ _ ⟨N_29, hm, (Sep.sel hS [0, 1] (by decide)), (le_6.trans (le_15.trans le_29))⟩)
            · rw [if_neg hc_33] at H
              refine c_cond_f hm rfl (Bool.eq_false_iff.2 hc_33) ?_
              refine wp_skip ?_
              refine x_then_n (hKJ_27 _ _ ?_)
              refine wp_seq ?_
              refine wp_region_lit ?_
              refine s_move hm rfl rfl ?_
              clear hm a; intro a hm
              refine s_move hm rfl rfl ?_
              clear hm a; intro a hm
              refine s_nilCheck hm rfl rfl ?_
              clear hm a; intro a hm
              refine s_fieldAddr hm rfl Try.underlying67 rfl ti23 rfl rfl ?_
              clear hm a; intro a hm
              refine s_load hm rfl rfl (hS.load_one (p := 1) rfl Try.underlying23 rfl rfl) ?_
              clear hm a; intro a hm
              refine s_move hm rfl rfl ?_
              clear hm a; intro a hm
              obtain ⟨t_35, et_35, H⟩ := Option.bind_eq_some_iff.1 H
              refine s_slice hm rfl Try.underlying23 ti5 rfl rfl hp0_0 rfl rfl et_35 ?_
              intro v_36 hr_37
              clear hm a; intro a hm
              refine s_nilCheck hm rfl rfl ?_
              clear hm a; intro a hm
              refine s_fieldAddr hm rfl Try.underlying67 rfl ti23 rfl rfl ?_
              clear hm a; intro a hm
              obtain ⟨w_38, hs', hS'⟩ := hS.store (P := Try.prog) (p := 1) (o := 0) (t := 23) (v := v_36) (vs := [v_36]) rfl ti23 hr_37.cellsA rfl rfl (by intro u hu; simp only [List.mem_cons, List.not_mem_nil, or_false] at hu; rcases hu with rfl <;> first | rfl | exact hr_37.one)
              refine s_store hm rfl rfl hs' ?_
              replace hS : Sep w0 w_38 [N_29, Mem.one g0 (.cells ([v_36, .bool x0_Bad] : List Value).toArray 67 (0, 0))] Z := hS'
              clear hs' hS'
              refine wpList_nil ?_
              replace hm : Fr 75 a [(0, .pointer (some ⟨g0, 0, none⟩)), (1, .int .i64 x1), (4, .int .i64 0), (5, .int .u64 (bor .u64 x_7 (shl .u64 (wu64 ((t_21 &&& (127 : UInt8)).toNat : Int)) (wu64 (w64 (7 * x_8)))))), (6, .int .i64 (w64 (x_8 + 1)))] := hm.keep [0, 1, 4, 5, 6]
              refine x_then_n ?_
              refine wp_seq ?_
              refine wp_region_lit ?_
              refine s_move hm rfl rfl ?_
              clear hm a; intro a hm
              refine s_conv (w64 (bor .u64 x_7 (shl .u64 (wu64 ((t_21 &&& (127 : UInt8)).toNat : Int)) (wu64 (w64 (7 * x_8)))))) hm rfl Try.underlying70 Try.underlying3 rfl rfl ?_
              clear hm a; intro a hm
              refine s_assign hm rfl rfl ?_
              clear hm a; intro a hm
              refine wpList_nil ?_
              replace hm : Fr 75 a [(0, .pointer (some ⟨g0, 0, none⟩)), (1, .int .i64 x1), (4, .int .i64 (w64 (bor .u64 x_7 (shl .u64 (wu64 ((t_21 &&& (127 : UInt8)).toNat : Int)) (wu64 (w64 (7 * x_8))))))), (5, .int .u64 (bor .u64 x_7 (shl .u64 (wu64 ((t_21 &&& (127 : UInt8)).toNat : Int)) (wu64 (w64 (7 * x_8)))))), (6, .int .i64 (w64 (x_8 + 1)))] := hm.keep [0, 1, 4, 5, 6]
              refine x_then_n ?_
              refine wp_ret (x_block_r (x_then_r (x_block_r (x_then_r ?_))))
              obtain rfl := Option.some.inj H
              exact f_ret hm (rs := [.tmp 4]) rfl (.tmp rfl .nil) ⟨_, rfl, v_36, N_29, rfl, (Sep.sel hS [0, 1] (by decide)), (hr_37.mono (Mem.le_un _ _))⟩
          clear hKJ_28
          refine wp_region_lit ?_
          refine s_move hm rfl rfl ?_
          clear hm a; intro a hm
          refine s_cmp (b := ((t_21.toNat : Int) == ((0 : UInt8).toNat : Int))) hm rfl rfl rfl (.inl ⟨rfl, rfl⟩) ?_
          clear hm a; intro a hm
          refine s_move hm rfl rfl ?_
          clear hm a; intro a hm
          by_cases hc_39 : (t_21.toNat : Int) = ((0 : UInt8).toNat : Int)
          · rw [if_pos hc_39] at H
            refine s_on hm rfl rfl (beq_iff_eq.2 hc_39) ?_
            refine s_move hm rfl rfl ?_
            clear hm a; intro a hm
            refine s_on hm rfl rfl (beq_iff_eq.2 hc_39) ?_
            refine s_cmp (b := decide ((w64 (x_8 + 1)) > 1)) hm rfl rfl rfl (.inr (.inr (.inr (.inr (.inl ⟨rfl, rfl⟩))))) ?_
            clear hm a; intro a hm
            refine s_pick_t hm rfl rfl (beq_iff_eq.2 hc_39) rfl ?_
            clear hm a; intro a hm
            refine s_move hm rfl rfl ?_
            clear hm a; intro a hm
            by_cases hc_40 : (w64 (x_8 + 1)) > 1
            · rw [if_pos hc_40] at H
              refine s_off hm rfl rfl rfl (decide_eq_true hc_40) ?_
              clear hm a; intro a hm
              refine s_off hm rfl rfl rfl (decide_eq_true hc_40) ?_
              clear hm a; intro a hm
              refine s_off hm rfl rfl rfl (decide_eq_true hc_40) ?_
              clear hm a; intro a hm
              refine s_off hm rfl rfl rfl (decide_eq_true hc_40) ?_
              clear hm a; intro a hm
              refine s_off hm rfl rfl rfl (decide_eq_true hc_40) ?_
              clear hm a; intro a hm
              refine s_off hm rfl rfl rfl (decide_eq_true hc_40) ?_
              clear hm a; intro a hm
              refine s_pick_t hm rfl rfl (decide_eq_true hc_40) rfl ?_
              clear hm a; intro a hm
              refine wpList_nil ?_
              replace hm : Fr 75 a [(0, .pointer (some ⟨g0, 0, none⟩)), (1, .int .i64 x1), (4, .int .i64 0), (5, .int .u64 (bor .u64 x_7 (shl .u64 (wu64 ((t_21 &&& (127 : UInt8)).toNat : Int)) (wu64 (w64 (7 * x_8)))))), (6, .int .i64 (w64 (x_8 + 1))), (60, .bool true)] := hm.keep [0, 1, 4, 5, 6, 60]
              replace hS : Sep w0 w_17 [N_15, Mem.one g0 (.cells ([p0_0, .bool x0_Bad] : List Value).toArray 67 (0, 0))] Z := hS
              replace hm : Fr 75 a [(0, .pointer (some ⟨g0, 0, none⟩)), (1, .int .i64 x1), (4, .int .i64 0), (5, .int .u64 (bor .u64 x_7 (shl .u64 (wu64 ((t_21 &&& (127 : UInt8)).toNat : Int)) (wu64 (w64 (7 * x_8)))))), (6, .int .i64 (w64 (x_8 + 1))), (60, .bool true)] := hm.keep [0, 1, 4, 5, 6, 60]
              exact x_then_n (hJ_j_32 true H _ _ ⟨N_15, hm, (Sep.sel hS [0, 1] (by decide)), (Mem.le.refl _)⟩)
            · rw [if_neg hc_40] at H
              refine s_on hm rfl rfl (decide_eq_false hc_40) ?_
              refine s_move hm rfl rfl ?_
              clear hm a; intro a hm
              refine s_on hm rfl rfl (decide_eq_false hc_40) ?_
              refine s_move hm rfl rfl ?_
              clear hm a; intro a hm
              refine s_on hm rfl rfl (decide_eq_false hc_40) ?_
              refine s_max hm rfl rfl rfl ?_
              clear hm a; intro a hm
              refine s_on hm rfl rfl (decide_eq_false hc_40) ?_
              refine s_min hm rfl rfl rfl ?_
              clear hm a; intro a hm
              refine s_on hm rfl rfl (decide_eq_false hc_40) ?_
              refine s_conv (wu64 (mn (mx x1 0) 4611686018427387904)) hm rfl Try.underlying3 Try.underlying70 rfl rfl ?_
              clear hm a; intro a hm
              refine s_on hm rfl rfl (decide_eq_false hc_40) ?_
              refine s_cmp (b := decide ((bor .u64 x_7 (shl .u64 (wu64 ((t_21 &&& (127 : UInt8)).toNat : Int)) (wu64 (w64 (7 * x_8))))) > (wu64 (mn (mx x1 0) 4611686018427387904)))) hm rfl rfl rfl (.inr (.inr (.inr (.inr (.inl ⟨rfl, rfl⟩))))) ?_
              clear hm a; intro a hm
              refine s_pick_f hm rfl rfl (decide_eq_false hc_40) rfl ?_
              clear hm a; intro a hm
              refine wpList_nil ?_
              replace hm : Fr 75 a [(0, .pointer (some ⟨g0, 0, none⟩)), (1, .int .i64 x1), (4, .int .i64 0), (5, .int .u64 (bor .u64 x_7 (shl .u64 (wu64 ((t_21 &&& (127 : UInt8)).toNat : Int)) (wu64 (w64 (7 * x_8)))))), (6, .int .i64 (w64 (x_8 + 1))), (60, .bool (decide ((bor .u64 x_7 (shl .u64 (wu64 ((t_21 &&& (127 : UInt8)).toNat : Int)) (wu64 (w64 (7 * x_8))))) > (wu64 (mn (mx x1 0) 4611686018427387904)))))] := hm.keep [0, 1, 4, 5, 6, 60]
              replace hS : Sep w0 w_17 [N_15, Mem.one g0 (.cells ([p0_0, .bool x0_Bad] : List Value).toArray 67 (0, 0))] Z := hS
              replace hm : Fr 75 a [(0, .pointer (some ⟨g0, 0, none⟩)), (1, .int .i64 x1), (4, .int .i64 0), (5, .int .u64 (bor .u64 x_7 (shl .u64 (wu64 ((t_21 &&& (127 : UInt8)).toNat : Int)) (wu64 (w64 (7 * x_8)))))), (6, .int .i64 (w64 (x_8 + 1))), (60, .bool (decide ((bor .u64 x_7 (shl .u64 (wu64 ((t_21 &&& (127 : UInt8)).toNat : Int)) (wu64 (w64 (7 * x_8))))) > (wu64 (mn (mx x1 0) 4611686018427387904)))))] := hm.keep [0, 1, 4, 5, 6, 60]
              exact x_then_n (hJ_j_32 (decide ((bor .u64 x_7 (shl .u64 (wu64 ((t_21 &&& (127 : UInt8)).toNat : Int)) (wu64 (w64 (7 * x_8))))) > (wu64 (mn (mx x1 0) 4611686018427387904)))) H _ _ ⟨N_15, hm, (Sep.sel hS [0, 1] (by decide)), (Mem.le.refl _)⟩)
          · rw [if_neg hc_39] at H
            refine s_off hm rfl rfl rfl (beq_eq_false_iff_ne.2 hc_39) ?_
            clear hm a; intro a hm
            refine s_off hm rfl rfl rfl (beq_eq_false_iff_ne.2 hc_39) ?_
            clear hm a; intro a hm
            refine s_pick_f hm rfl rfl (beq_eq_false_iff_ne.2 hc_39) rfl ?_
            clear hm a; intro a hm
            refine s_move hm rfl rfl ?_
            clear hm a; intro a hm
            refine s_on hm rfl rfl rfl ?_
            refine s_move hm rfl rfl ?_
            clear hm a; intro a hm
            refine s_on hm rfl rfl rfl ?_
            refine s_move hm rfl rfl ?_
            clear hm a; intro a hm
            refine s_on hm rfl rfl rfl ?_
            refine s_max hm rfl rfl rfl ?_
            clear hm a; intro a hm
            refine s_on hm rfl rfl rfl ?_
            refine s_min hm rfl rfl rfl ?_
            clear hm a; intro a hm
            refine s_on hm rfl rfl rfl ?_
            refine s_conv (wu64 (mn (mx x1 0) 4611686018427387904)) hm rfl Try.underlying3 Try.underlying70 rfl rfl ?_
            clear hm a; intro a hm
            refine s_on hm rfl rfl rfl ?_
            refine s_cmp (b := decide ((bor .u64 x_7 (shl .u64 (wu64 ((t_21 &&& (127 : UInt8)).toNat : Int)) (wu64 (w64 (7 * x_8))))) > (wu64 (mn (mx x1 0) 4611686018427387904)))) hm rfl rfl rfl (.inr (.inr (.inr (.inr (.inl ⟨rfl, rfl⟩))))) ?_
            clear hm a; intro a hm
            refine s_pick_f hm rfl rfl rfl rfl ?_
            clear hm a; intro a hm
            refine wpList_nil ?_
            replace hm : Fr 75 a [(0, .pointer (some ⟨g0, 0, none⟩)), (1, .int .i64 x1), (4, .int .i64 0), (5, .int .u64 (bor .u64 x_7 (shl .u64 (wu64 ((t_21 &&& (127 : UInt8)).toNat : Int)) (wu64 (w64 (7 * x_8)))))), (6, .int .i64 (w64 (x_8 + 1))), (60, .bool (decide ((bor .u64 x_7 (shl .u64 (wu64 ((t_21 &&& (127 : UInt8)).toNat : Int)) (wu64 (w64 (7 * x_8))))) > (wu64 (mn (mx x1 0) 4611686018427387904)))))] := hm.keep [0, 1, 4, 5, 6, 60]
            replace hS : Sep w0 w_17 [N_15, Mem.one g0 (.cells ([p0_0, .bool x0_Bad] : List Value).toArray 67 (0, 0))] Z := hS
            replace hm : Fr 75 a [(0, .pointer (some ⟨g0, 0, none⟩)), (1, .int .i64 x1), (4, .int .i64 0), (5, .int .u64 (bor .u64 x_7 (shl .u64 (wu64 ((t_21 &&& (127 : UInt8)).toNat : Int)) (wu64 (w64 (7 * x_8)))))), (6, .int .i64 (w64 (x_8 + 1))), (60, .bool (decide ((bor .u64 x_7 (shl .u64 (wu64 ((t_21 &&& (127 : UInt8)).toNat : Int)) (wu64 (w64 (7 * x_8))))) > (wu64 (mn (mx x1 0) 4611686018427387904)))))] := hm.keep [0, 1, 4, 5, 6, 60]
            exact x_then_n (hJ_j_32 (decide ((bor .u64 x_7 (shl .u64 (wu64 ((t_21 &&& (127 : UInt8)).toNat : Int)) (wu64 (w64 (7 * x_8))))) > (wu64 (mn (mx x1 0) 4611686018427387904)))) H _ _ ⟨N_15, hm, (Sep.sel hS [0, 1] (by decide)), (Mem.le.refl _)⟩)
        · rw [if_neg hc_26] at H
          refine c_cond_f hm rfl (decide_eq_false hc_26) ?_
          refine wp_skip ?_
          refine x_block_n ?_
          refine x_then_n (hKL_9 _ _ ?_)
          replace hS : Sep w0 w_17 [N_15, Mem.one g0 (.cells ([p0_0, .bool x0_Bad] : List Value).toArray 67 (0, 0))] Z := hS
          replace hm : Fr 75 a [(0, .pointer (some ⟨g0, 0, none⟩)), (1, .int .i64 x1), (4, .int .i64 0), (5, .int .u64 (bor .u64 x_7 (shl .u64 (wu64 ((t_21 &&& (127 : UInt8)).toNat : Int)) (wu64 (w64 (7 * x_8)))))), (6, .int .i64 (w64 (x_8 + 1)))] := hm.keep [0, 1, 4, 5, 6]
          exact ⟨bor .u64 x_7 (shl .u64 (wu64 ((t_21 &&& (127 : UInt8)).toNat : Int)) (wu64 (w64 (7 * x_8)))), w64 (x_8 + 1), N_15, H, hm, (Sep.sel hS [0, 1] (by decide)), (le_6.trans le_15)⟩
    clear hKJ_14
    refine wp_region_lit ?_
    refine s_move hm rfl rfl ?_
    clear hm a; intro a hm
    refine s_move hm rfl rfl ?_
    clear hm a; intro a hm
    refine s_nilCheck hm rfl rfl ?_
    clear hm a; intro a hm
    refine s_fieldAddr hm rfl Try.underlying67 rfl ti23 rfl rfl ?_
    clear hm a; intro a hm
    refine s_load hm rfl rfl (hS.load_one (p := 1) rfl Try.underlying23 rfl rfl) ?_
    clear hm a; intro a hm
    refine s_len hm rfl Try.underlying23 rfl hp0_0 ?_
    clear hm a; intro a hm
    refine s_cmp (b := decide (x_8 ≥ (x0_B.length : Int))) hm rfl rfl rfl (.inr (.inr (.inr (.inr (.inr ⟨rfl, rfl⟩))))) ?_
    clear hm a; intro a hm
    refine s_move hm rfl rfl ?_
    clear hm a; intro a hm
    by_cases hc_41 : x_8 ≥ (x0_B.length : Int)
    · rw [if_pos hc_41] at H
      refine s_off hm rfl rfl rfl (decide_eq_true hc_41) ?_
      clear hm a; intro a hm
      refine s_off hm rfl rfl rfl (decide_eq_true hc_41) ?_
      clear hm a; intro a hm
      refine s_pick_t hm rfl rfl (decide_eq_true hc_41) rfl ?_
      clear hm a; intro a hm
      refine wpList_nil ?_
      replace hm : Fr 75 a [(0, .pointer (some ⟨g0, 0, none⟩)), (1, .int .i64 x1), (4, .int .i64 0), (5, .int .u64 x_7), (6, .int .i64 x_8), (23, .bool true)] := hm.keep [0, 1, 4, 5, 6, 23]
      replace hS : Sep w0 w_9 [N_6, Mem.one g0 (.cells ([p0_0, .bool x0_Bad] : List Value).toArray 67 (0, 0))] Z := hS
      replace hm : Fr 75 a [(0, .pointer (some ⟨g0, 0, none⟩)), (1, .int .i64 x1), (4, .int .i64 0), (5, .int .u64 x_7), (6, .int .i64 x_8), (23, .bool true)] := hm.keep [0, 1, 4, 5, 6, 23]
      exact x_then_n (hJ_j_18 true H _ _ ⟨N_6, hm, (Sep.sel hS [0, 1] (by decide)), (Mem.le.refl _)⟩)
    · rw [if_neg hc_41] at H
      refine s_on hm rfl rfl (decide_eq_false hc_41) ?_
      refine s_move hm rfl rfl ?_
      clear hm a; intro a hm
      refine s_on hm rfl rfl (decide_eq_false hc_41) ?_
      refine s_cmp (b := decide (x_8 > 8)) hm rfl rfl rfl (.inr (.inr (.inr (.inr (.inl ⟨rfl, rfl⟩))))) ?_
      clear hm a; intro a hm
      refine s_pick_f hm rfl rfl (decide_eq_false hc_41) rfl ?_
      clear hm a; intro a hm
      refine wpList_nil ?_
      replace hm : Fr 75 a [(0, .pointer (some ⟨g0, 0, none⟩)), (1, .int .i64 x1), (4, .int .i64 0), (5, .int .u64 x_7), (6, .int .i64 x_8), (23, .bool (decide (x_8 > 8)))] := hm.keep [0, 1, 4, 5, 6, 23]
      replace hS : Sep w0 w_9 [N_6, Mem.one g0 (.cells ([p0_0, .bool x0_Bad] : List Value).toArray 67 (0, 0))] Z := hS
      replace hm : Fr 75 a [(0, .pointer (some ⟨g0, 0, none⟩)), (1, .int .i64 x1), (4, .int .i64 0), (5, .int .u64 x_7), (6, .int .i64 x_8), (23, .bool (decide (x_8 > 8)))] := hm.keep [0, 1, 4, 5, 6, 23]
      exact x_then_n (hJ_j_18 (decide (x_8 > 8)) H _ _ ⟨N_6, hm, (Sep.sel hS [0, 1] (by decide)), (Mem.le.refl _)⟩)

set_option maxHeartbeats 4000000 in
set_option maxRecDepth 20000 in
theorem hocketref1_Reader_End.calls (g0 : Nat) (x0_B : List UInt8) (p0_0 : Value) (x0_Bad : Bool) (r : Bool × (List UInt8) × Bool) (w0 w : World) (Z A : Mem) (hA : A.le Z) (hS : Sep w0 w [Mem.one g0 (.cells ([p0_0, .bool x0_Bad] : List Value).toArray 67 (0, 0))] Z) (hp0_0 : Rd Kd.u8 A p0_0 x0_B)
    (H : hocketref1_Reader_End.f x0_B x0_Bad = some r) :
    Calls Try.prog 42 [.pointer (some ⟨g0, 0, none⟩)].toArray w (Ret fun v w' => ∃ (u0 : Value) (N : Mem), v = .bool r.1 ∧ Sep w0 w' [N, Mem.one g0 (.cells ([u0, .bool r.2.2] : List Value).toArray 67 (0, 0))] Z ∧ Rd Kd.u8 (A.un N) u0 r.2.1) := by
  unfold hocketref1_Reader_End.f at H
  refine f_enter _ Try.func42 rfl Try.ntmps42 rfl fun a hm => ?_
  replace hm : Fr 16 a [(0, .pointer (some ⟨g0, 0, none⟩))] := hm
  replace hS := hS.start
  replace hS : Sep w0 w [Mem.no, Mem.one g0 (.cells ([p0_0, .bool x0_Bad] : List Value).toArray 67 (0, 0))] Z := hS
  refine wp_seq ?_
  refine wp_region_lit ?_
  refine s_assign hm rfl rfl ?_
  clear hm a; intro a hm
  refine wpList_nil ?_
  replace hm : Fr 16 a [(0, .pointer (some ⟨g0, 0, none⟩)), (2, .bool false)] := hm.keep [0, 2]
  refine x_then_n ?_
  refine c_seq fun KJ_1 hKJ_1 => ?_
  refine wp_region_lit ?_
  refine s_move hm rfl rfl ?_
  clear hm a; intro a hm
  refine s_nilCheck hm rfl rfl ?_
  clear hm a; intro a hm
  refine s_fieldAddr hm rfl Try.underlying67 rfl ti4 rfl rfl ?_
  clear hm a; intro a hm
  refine s_load hm rfl rfl (hS.load_one (p := 1) rfl Try.underlying4 rfl rfl) ?_
  clear hm a; intro a hm
  refine s_not hm rfl rfl ?_
  clear hm a; intro a hm
  refine s_move hm rfl rfl ?_
  clear hm a; intro a hm
  by_cases hc_2 : x0_Bad = true
  · rw [if_pos hc_2] at H
    refine s_off hm rfl rfl rfl (nf hc_2) ?_
    clear hm a; intro a hm
    refine s_off hm rfl rfl rfl (nf hc_2) ?_
    clear hm a; intro a hm
    refine s_off hm rfl rfl rfl (nf hc_2) ?_
    clear hm a; intro a hm
    refine s_off hm rfl rfl rfl (nf hc_2) ?_
    clear hm a; intro a hm
    refine s_off hm rfl rfl rfl (nf hc_2) ?_
    clear hm a; intro a hm
    refine s_off hm rfl rfl rfl (nf hc_2) ?_
    clear hm a; intro a hm
    refine s_pick_f hm rfl rfl (nf hc_2) rfl ?_
    clear hm a; intro a hm
    refine s_assign hm rfl rfl ?_
    clear hm a; intro a hm
    refine wpList_nil ?_
    replace hm : Fr 16 a [(2, .bool false)] := hm.keep [2]
    refine x_then_n (hKJ_1 _ _ ?_)
    refine wp_ret ?_
    obtain rfl := Option.some.inj H
    exact f_ret hm (rs := [.tmp 2]) rfl (.tmp rfl .nil) ⟨_, rfl, p0_0, Mem.no, rfl, (Sep.sel hS [0, 1] (by decide)), (hp0_0.mono (Mem.le_un _ _))⟩
  · rw [if_neg hc_2] at H
    refine s_on hm rfl rfl (nt (Bool.eq_false_iff.2 hc_2)) ?_
    refine s_move hm rfl rfl ?_
    clear hm a; intro a hm
    refine s_on hm rfl rfl (nt (Bool.eq_false_iff.2 hc_2)) ?_
    refine s_nilCheck hm rfl rfl ?_
    clear hm a; intro a hm
    refine s_on hm rfl rfl (nt (Bool.eq_false_iff.2 hc_2)) ?_
    refine s_fieldAddr hm rfl Try.underlying67 rfl ti23 rfl rfl ?_
    clear hm a; intro a hm
    refine s_on hm rfl rfl (nt (Bool.eq_false_iff.2 hc_2)) ?_
    refine s_load hm rfl rfl (hS.load_one (p := 1) rfl Try.underlying23 rfl rfl) ?_
    clear hm a; intro a hm
    refine s_on hm rfl rfl (nt (Bool.eq_false_iff.2 hc_2)) ?_
    refine s_len hm rfl Try.underlying23 rfl hp0_0 ?_
    clear hm a; intro a hm
    refine s_on hm rfl rfl (nt (Bool.eq_false_iff.2 hc_2)) ?_
    refine s_cmp (b := ((x0_B.length : Int) == 0)) hm rfl rfl rfl (.inl ⟨rfl, rfl⟩) ?_
    clear hm a; intro a hm
    refine s_pick_t hm rfl rfl (nt (Bool.eq_false_iff.2 hc_2)) rfl ?_
    clear hm a; intro a hm
    refine s_assign hm rfl rfl ?_
    clear hm a; intro a hm
    refine wpList_nil ?_
    replace hm : Fr 16 a [(2, .bool ((x0_B.length : Int) == 0))] := hm.keep [2]
    refine x_then_n (hKJ_1 _ _ ?_)
    refine wp_ret ?_
    obtain rfl := Option.some.inj H
    exact f_ret hm (rs := [.tmp 2]) rfl (.tmp rfl .nil) ⟨_, rfl, p0_0, Mem.no, rfl, (Sep.sel hS [0, 1] (by decide)), (hp0_0.mono (Mem.le_un _ _))⟩

set_option maxHeartbeats 4000000 in
set_option maxRecDepth 20000 in
theorem hocketref11_slot.calls (K : Nat) (x0 : List UInt8) (p0_0 : Value) (r : Int × api_Record) (w0 w : World) (Z A : Mem) (hA : A.le Z) (hS : Sep w0 w [] Z) (hp0_0 : Rd Kd.u8 A p0_0 x0)
    (H : hocketref11_slot.f K x0 = some r) :
    Calls Try.prog 31 [p0_0].toArray w (Ret fun v w' => ∃ (N : Mem), v = .tuple [.int .i64 r.1, .agg [.int .i64 r.2.Inc, .int .i64 r.2.Prom, .int .i64 r.2.Inst].toArray].toArray ∧ Sep w0 w' [N] Z) := by
  unfold hocketref11_slot.f at H
  refine f_enter _ Try.func31 rfl Try.ntmps31 rfl fun a hm => ?_
  replace hm : Fr 35 a [(0, p0_0)] := hm
  replace hS := hS.start
  replace hS : Sep w0 w [Mem.no] Z := hS
  refine wp_seq ?_
  refine wp_region_lit ?_
  refine s_assign hm rfl rfl ?_
  clear hm a; intro a hm
  refine v_alloc hm rfl ti28 hS ?_
  intro w_1 g_2 hS'
  clear hm a; intro a hm
  replace hS : Sep w0 w_1 [Mem.no, Mem.one g_2 (.cells ([.int .i64 0, .int .i64 0, .int .i64 0] : List Value).toArray 28 (0, 0))] Z := hS'
  clear hS'
  refine wpList_nil ?_
  replace hm : Fr 35 a [(0, p0_0), (2, .int .i64 0), (3, .pointer (some ⟨g_2, 0, none⟩))] := hm.keep [0, 2, 3]
  refine x_then_n ?_
  refine wp_seq ?_
  refine wp_region_lit ?_
  refine s_move hm rfl rfl ?_
  clear hm a; intro a hm
  obtain ⟨t_3, et_3, H⟩ := Option.bind_eq_some_iff.1 H
  refine s_call hm rfl Try.call40 rfl (hocketref1_Unfour.calls K x0 _ t_3 w0 _ _ _ (Mem.le.refl _) (hS.enter [] (by decide)) (hp0_0.mono (hA.trans (hS.le_zed []))) et_3) ?_
  rintro _ w_4 ⟨v_7, N_5, M_9, rfl, hS', hr_8⟩
  clear hm a; intro a hm
  obtain ⟨N_6, hS'', le_6, ln_6⟩ := hS.call [] (by decide) rfl (l' := []) (ow := [M_9]) rfl hS'
  replace hS : Sep w0 w_4 [N_6, Mem.one g_2 (.cells ([.int .i64 0, .int .i64 0, .int .i64 0] : List Value).toArray 28 (0, 0)), M_9] Z := hS''
  clear hS' hS''
  refine s_move hm rfl rfl ?_
  clear hm a; intro a hm
  refine s_extract hm rfl rfl rfl ?_
  clear hm a; intro a hm
  refine s_extract hm rfl rfl rfl ?_
  clear hm a; intro a hm
  refine s_assign hm rfl rfl ?_
  clear hm a; intro a hm
  refine s_assign hm rfl rfl ?_
  clear hm a; intro a hm
  refine wpList_nil ?_
  replace hm : Fr 35 a [(2, .int .i64 0), (3, .pointer (some ⟨g_2, 0, none⟩)), (4, v_7), (5, .bool t_3.2)] := hm.keep [2, 3, 4, 5]
  refine x_then_n ?_
  refine c_seq fun KJ_11 hKJ_11 => ?_
  refine wp_seq ?_
  refine wp_region_lit ?_
  refine s_move hm rfl rfl ?_
  clear hm a; intro a hm
  refine s_not hm rfl rfl ?_
  clear hm a; intro a hm
  refine wpList_nil ?_
  replace hm : Fr 35 a [(2, .int .i64 0), (3, .pointer (some ⟨g_2, 0, none⟩)), (4, v_7), (15, .bool (!t_3.2))] := hm.keep [2, 3, 4, 15]
  refine x_then_n ?_
  by_cases hc_12 : t_3.2 = true
  · rw [if_pos hc_12] at H
    refine c_cond_f hm rfl (nf hc_12) ?_
    refine wp_skip ?_
    refine x_then_n (hKJ_11 _ _ ?_)
    refine wp_seq ?_
    refine wp_region_lit ?_
    refine s_move hm rfl rfl ?_
    clear hm a; intro a hm
    refine s_build hm rfl ti67 pl67 rfl (.cons hr_8.cells .nil) (cs := [v_7, .bool false]) rfl ?_
    clear hm a; intro a hm
    refine v_box (vs := [v_7, .bool false]) hm rfl rfl rfl hS ?_
    intro w_13 g_14 hS'
    clear hm a; intro a hm
    replace hS : Sep w0 w_13 [N_6, Mem.one g_2 (.cells ([.int .i64 0, .int .i64 0, .int .i64 0] : List Value).toArray 28 (0, 0)), M_9, Mem.one g_14 (.cells ([v_7, .bool false] : List Value).toArray 67 (0, 0))] Z := hS'
    clear hS'
    refine s_assign hm rfl rfl ?_
    clear hm a; intro a hm
    refine wpList_nil ?_
    replace hm : Fr 35 a [(2, .int .i64 0), (3, .pointer (some ⟨g_2, 0, none⟩)), (6, .pointer (some ⟨g_14, 0, none⟩))] := hm.keep [2, 3, 6]
    refine x_then_n ?_
    refine wp_seq ?_
    refine wp_region_lit ?_
    refine s_move hm rfl rfl ?_
    clear hm a; intro a hm
    obtain ⟨N_15, hS', le_15, lo_15⟩ := hS.freeze 1 rfl
    replace hS : Sep w0 w_13 [N_15, Mem.one g_2 (.cells ([.int .i64 0, .int .i64 0, .int .i64 0] : List Value).toArray 28 (0, 0)), Mem.no, Mem.one g_14 (.cells ([v_7, .bool false] : List Value).toArray 67 (0, 0))] Z := hS'
    clear hS'
    obtain ⟨t_16, et_16, H⟩ := Option.bind_eq_some_iff.1 H
    refine s_call hm rfl Try.call41 rfl (hocketref1_Reader_Num.calls K _ t_3.1 _ false 1099511627776 t_16 w0 _ _ N_15 (hS.new_zed [2]) (hS.enter [2] (by decide)) (hr_8.rd lo_15 (Mem.no_le _)) et_16) ?_
    rintro _ w_17 ⟨v_20, N_18, rfl, hS', hr_21⟩
    clear hm a; intro a hm
    obtain ⟨N_19, hS'', le_19, ln_19⟩ := hS.call [2] (by decide) rfl (l' := [Mem.one g_14 (.cells ([v_20, .bool t_16.2.2] : List Value).toArray 67 (0, 0))]) (ow := []) rfl hS'
    replace hS : Sep w0 w_17 [N_19, Mem.one g_2 (.cells ([.int .i64 0, .int .i64 0, .int .i64 0] : List Value).toArray 28 (0, 0)), Mem.no, Mem.one g_14 (.cells ([v_20, .bool t_16.2.2] : List Value).toArray 67 (0, 0))] Z := hS''
    clear hS' hS''
    refine s_assign hm rfl rfl ?_
    clear hm a; intro a hm
    refine wpList_nil ?_
    replace hm : Fr 35 a [(2, .int .i64 0), (3, .pointer (some ⟨g_2, 0, none⟩)), (6, .pointer (some ⟨g_14, 0, none⟩)), (7, .int .i64 t_16.1)] := hm.keep [2, 3, 6, 7]
    refine x_then_n ?_
    refine wp_seq ?_
    refine wp_region_lit ?_
    refine s_move hm rfl rfl ?_
    clear hm a; intro a hm
    obtain ⟨t_22, et_22, H⟩ := Option.bind_eq_some_iff.1 H
    refine s_call hm rfl Try.call41 rfl (hocketref1_Reader_Num.calls K _ t_16.2.1 _ t_16.2.2 1099511627776 t_22 w0 _ _ N_19 (hS.new_zed [2]) (hS.enter [2] (by decide)) (hr_21.mono (Mem.un_le le_19 ln_19)) et_22) ?_
    rintro _ w_23 ⟨v_26, N_24, rfl, hS', hr_27⟩
    clear hm a; intro a hm
    obtain ⟨N_25, hS'', le_25, ln_25⟩ := hS.call [2] (by decide) rfl (l' := [Mem.one g_14 (.cells ([v_26, .bool t_22.2.2] : List Value).toArray 67 (0, 0))]) (ow := []) rfl hS'
    replace hS : Sep w0 w_23 [N_25, Mem.one g_2 (.cells ([.int .i64 0, .int .i64 0, .int .i64 0] : List Value).toArray 28 (0, 0)), Mem.no, Mem.one g_14 (.cells ([v_26, .bool t_22.2.2] : List Value).toArray 67 (0, 0))] Z := hS''
    clear hS' hS''
    refine s_move hm rfl rfl ?_
    clear hm a; intro a hm
    obtain ⟨t_28, et_28, H⟩ := Option.bind_eq_some_iff.1 H
    refine s_call hm rfl Try.call41 rfl (hocketref1_Reader_Num.calls K _ t_22.2.1 _ t_22.2.2 1099511627776 t_28 w0 _ _ N_25 (hS.new_zed [2]) (hS.enter [2] (by decide)) (hr_27.mono (Mem.un_le le_25 ln_25)) et_28) ?_
    rintro _ w_29 ⟨v_32, N_30, rfl, hS', hr_33⟩
    clear hm a; intro a hm
    obtain ⟨N_31, hS'', le_31, ln_31⟩ := hS.call [2] (by decide) rfl (l' := [Mem.one g_14 (.cells ([v_32, .bool t_28.2.2] : List Value).toArray 67 (0, 0))]) (ow := []) rfl hS'
    replace hS : Sep w0 w_29 [N_31, Mem.one g_2 (.cells ([.int .i64 0, .int .i64 0, .int .i64 0] : List Value).toArray 28 (0, 0)), Mem.no, Mem.one g_14 (.cells ([v_32, .bool t_28.2.2] : List Value).toArray 67 (0, 0))] Z := hS''
    clear hS' hS''
    refine s_move hm rfl rfl ?_
    clear hm a; intro a hm
    obtain ⟨t_34, et_34, H⟩ := Option.bind_eq_some_iff.1 H
    refine s_call hm rfl Try.call41 rfl (hocketref1_Reader_Num.calls K _ t_28.2.1 _ t_28.2.2 1099511627776 t_34 w0 _ _ N_31 (hS.new_zed [2]) (hS.enter [2] (by decide)) (hr_33.mono (Mem.un_le le_31 ln_31)) et_34) ?_
    rintro _ w_35 ⟨v_38, N_36, rfl, hS', hr_39⟩
    clear hm a; intro a hm
    obtain ⟨N_37, hS'', le_37, ln_37⟩ := hS.call [2] (by decide) rfl (l' := [Mem.one g_14 (.cells ([v_38, .bool t_34.2.2] : List Value).toArray 67 (0, 0))]) (ow := []) rfl hS'
    replace hS : Sep w0 w_35 [N_37, Mem.one g_2 (.cells ([.int .i64 0, .int .i64 0, .int .i64 0] : List Value).toArray 28 (0, 0)), Mem.no, Mem.one g_14 (.cells ([v_38, .bool t_34.2.2] : List Value).toArray 67 (0, 0))] Z := hS''
    clear hS' hS''
    refine s_build hm rfl ti28 pl28 rfl (.cons rfl (.cons rfl (.cons rfl .nil))) (cs := [.int .i64 t_22.1, .int .i64 t_28.1, .int .i64 t_34.1]) rfl ?_
    clear hm a; intro a hm
    refine v_alloc hm rfl ti28 hS ?_
    intro w_40 g_41 hS'
    clear hm a; intro a hm
    replace hS : Sep w0 w_40 [N_37, Mem.one g_2 (.cells ([.int .i64 0, .int .i64 0, .int .i64 0] : List Value).toArray 28 (0, 0)), Mem.no, Mem.one g_14 (.cells ([v_38, .bool t_34.2.2] : List Value).toArray 67 (0, 0)), Mem.one g_41 (.cells ([.int .i64 0, .int .i64 0, .int .i64 0] : List Value).toArray 28 (0, 0))] Z := hS'
    clear hS'
    obtain ⟨w_42, hs', hS'⟩ := hS.store (P := Try.prog) (p := 4) (o := 0) (t := 28) (v := .agg [.int .i64 t_22.1, .int .i64 t_28.1, .int .i64 t_34.1].toArray) (vs := [.int .i64 t_22.1, .int .i64 t_28.1, .int .i64 t_34.1]) rfl ti28 rfl rfl rfl (by intro u hu; simp only [List.mem_cons, List.not_mem_nil, or_false] at hu; rcases hu with rfl | rfl | rfl <;> rfl)
    refine s_store hm rfl rfl hs' ?_
    replace hS : Sep w0 w_42 [N_37, Mem.one g_2 (.cells ([.int .i64 0, .int .i64 0, .int .i64 0] : List Value).toArray 28 (0, 0)), Mem.no, Mem.one g_14 (.cells ([v_38, .bool t_34.2.2] : List Value).toArray 67 (0, 0)), Mem.one g_41 (.cells ([.int .i64 t_22.1, .int .i64 t_28.1, .int .i64 t_34.1] : List Value).toArray 28 (0, 0))] Z := hS'
    clear hs' hS'
    refine wpList_nil ?_
    replace hm : Fr 35 a [(2, .int .i64 0), (3, .pointer (some ⟨g_2, 0, none⟩)), (6, .pointer (some ⟨g_14, 0, none⟩)), (7, .int .i64 t_16.1), (8, .pointer (some ⟨g_41, 0, none⟩))] := hm.keep [2, 3, 6, 7, 8]
    refine x_then_n ?_
    refine c_seq fun KJ_43 hKJ_43 => ?_
    refine wp_seq ?_
    refine wp_region_lit ?_
    refine s_move hm rfl rfl ?_
    clear hm a; intro a hm
    obtain ⟨t_44, et_44, H⟩ := Option.bind_eq_some_iff.1 H
    refine s_call hm rfl Try.call42 rfl (hocketref1_Reader_End.calls _ t_34.2.1 _ t_34.2.2 t_44 w0 _ _ N_37 (hS.new_zed [2]) (hS.enter [2] (by decide)) (hr_39.mono (Mem.un_le le_37 ln_37)) et_44) ?_
    rintro _ w_45 ⟨v_48, N_46, rfl, hS', hr_49⟩
    clear hm a; intro a hm
    obtain ⟨N_47, hS'', le_47, ln_47⟩ := hS.call [2] (by decide) rfl (l' := [Mem.one g_14 (.cells ([v_48, .bool t_44.2.2] : List Value).toArray 67 (0, 0))]) (ow := []) rfl hS'
    replace hS : Sep w0 w_45 [N_47, Mem.one g_2 (.cells ([.int .i64 0, .int .i64 0, .int .i64 0] : List Value).toArray 28 (0, 0)), Mem.no, Mem.one g_14 (.cells ([v_48, .bool t_44.2.2] : List Value).toArray 67 (0, 0)), Mem.one g_41 (.cells ([.int .i64 t_22.1, .int .i64 t_28.1, .int .i64 t_34.1] : List Value).toArray 28 (0, 0))] Z := hS''
    clear hS' hS''
    refine s_not hm rfl rfl ?_
    clear hm a; intro a hm
    refine wpList_nil ?_
    replace hm : Fr 35 a [(2, .int .i64 0), (3, .pointer (some ⟨g_2, 0, none⟩)), (7, .int .i64 t_16.1), (8, .pointer (some ⟨g_41, 0, none⟩)), (31, .bool (!t_44.1))] := hm.keep [2, 3, 7, 8, 31]
    refine x_then_n ?_
    by_cases hc_50 : t_44.1 = true
    · rw [if_pos hc_50] at H
      refine c_cond_f hm rfl (nf hc_50) ?_
      refine wp_skip ?_
      refine x_then_n (hKJ_43 _ _ ?_)
      refine c_seq fun KJ_51 hKJ_51 => ?_
      refine h_begin (S := fun w => Sep w0 w [N_47, Mem.no, Mem.no, Mem.one g_14 (.cells ([v_48, .bool t_44.2.2] : List Value).toArray 67 (0, 0)), Mem.one g_41 (.cells ([.int .i64 t_22.1, .int .i64 t_28.1, .int .i64 t_34.1] : List Value).toArray 28 (0, 0))] Z) 4 (by kernel_rfl) rfl [false, false, false, false].toArray rfl hS fun w_52 hS => ?_
      replace hS : Sep w0 w_52 [N_47, Mem.one g_2 (.cells ([.int .i64 0, .int .i64 0, .int .i64 0] : List Value).toArray 28 (0, 0)), Mem.no, Mem.one g_14 (.cells ([v_48, .bool t_44.2.2] : List Value).toArray 67 (0, 0)), Mem.one g_41 (.cells ([.int .i64 t_22.1, .int .i64 t_28.1, .int .i64 t_34.1] : List Value).toArray 28 (0, 0))] Z := hS
      refine h_take 0 [true, false, false, false].toArray rfl (by kernel_rfl) (by kernel_rfl) (by kernel_rfl) (fun _ _ _ _ h => h) rfl rfl rfl rfl hm (hS.sub (.cons (Mem.le.refl _) (.cons (Mem.no_le _) (.cons (Mem.no_le _) (.cons (Mem.le.refl _) (.cons (Mem.le.refl _) (Sub.nil _))))))) (v := .int .i64 t_16.1) (fun w hS => r_move hm rfl) ?_
      clear hm a; intro a hm
      refine h_take 1 [true, true, false, false].toArray rfl (by kernel_rfl) (by kernel_rfl) (by kernel_rfl) (fun _ _ _ _ h => h) rfl rfl rfl rfl hm (hS.sub (.cons (Mem.le.refl _) (.cons (Mem.no_le _) (.cons (Mem.no_le _) (.cons (Mem.le.refl _) (.cons (Mem.le.refl _) (Sub.nil _))))))) (v := .agg [.int .i64 t_22.1, .int .i64 t_28.1, .int .i64 t_34.1].toArray) (fun w hS => r_load hm rfl (hS.load_agg (p := 4) (us := [.int .i64 t_22.1, .int .i64 t_28.1, .int .i64 t_34.1]) rfl Try.underlying28 rfl ti28 rfl rfl)) ?_
      clear hm a; intro a hm
      refine h_take 2 [true, true, true, false].toArray rfl (by kernel_rfl) (by kernel_rfl) (by kernel_rfl) (fun _ _ _ _ h => h) rfl rfl rfl rfl hm (hS.sub (.cons (Mem.le.refl _) (.cons (Mem.no_le _) (.cons (Mem.no_le _) (.cons (Mem.le.refl _) (.cons (Mem.le.refl _) (Sub.nil _))))))) (v := .int .i64 t_16.1) (fun w hS => r_assign hm rfl) ?_
      clear hm a; intro a hm
      refine h_event 3 [true, true, true, true].toArray rfl (by kernel_rfl) rfl ?_
      obtain ⟨w_53, hs', hS'⟩ := hS.store (P := Try.prog) (p := 1) (o := 0) (t := 28) (v := .agg [.int .i64 t_22.1, .int .i64 t_28.1, .int .i64 t_34.1].toArray) (vs := [.int .i64 t_22.1, .int .i64 t_28.1, .int .i64 t_34.1]) rfl ti28 rfl rfl rfl (by intro u hu; simp only [List.mem_cons, List.not_mem_nil, or_false] at hu; rcases hu with rfl | rfl | rfl <;> rfl)
      refine s_store hm rfl rfl hs' ?_
      replace hS : Sep w0 w_53 [N_47, Mem.one g_2 (.cells ([.int .i64 t_22.1, .int .i64 t_28.1, .int .i64 t_34.1] : List Value).toArray 28 (0, 0)), Mem.no, Mem.one g_14 (.cells ([v_48, .bool t_44.2.2] : List Value).toArray 67 (0, 0)), Mem.one g_41 (.cells ([.int .i64 t_22.1, .int .i64 t_28.1, .int .i64 t_34.1] : List Value).toArray 28 (0, 0))] Z := hS'
      clear hs' hS'
      refine wpList_nil ?_
      refine x_then_n ⟨(hS.sub (.cons (Mem.le.refl _) (.cons (Mem.no_le _) (.cons (Mem.no_le _) (.cons (Mem.le.refl _) (.cons (Mem.le.refl _) (Sub.nil _))))))), ?_⟩
      refine h_done (by kernel_rfl) ?_
      replace hm : Fr 35 a [(2, .int .i64 t_16.1), (3, .pointer (some ⟨g_2, 0, none⟩))] := hm.keep [2, 3]
      refine x_then_n (hKJ_51 _ _ ?_)
      refine wp_ret ?_
      obtain rfl := Option.some.inj H
      exact f_ret hm (rs := [.tmp 2, .cell 3 28]) rfl (.tmp rfl (.cell rfl (hS.load_agg (p := 1) (us := [.int .i64 t_22.1, .int .i64 t_28.1, .int .i64 t_34.1]) rfl Try.underlying28 rfl ti28 rfl rfl) .nil)) ⟨_, rfl, N_47, rfl, (Sep.sel hS [0] (by decide))⟩
    · rw [if_neg hc_50] at H
      refine c_cond_t hm rfl (nt (Bool.eq_false_iff.2 hc_50)) ?_
      refine wp_seq ?_
      refine wp_region_lit ?_
      refine s_build hm rfl ti28 pl28 rfl .nil (cs := [.int .i64 0, .int .i64 0, .int .i64 0]) rfl ?_
      clear hm a; intro a hm
      refine s_assign hm rfl rfl ?_
      clear hm a; intro a hm
      obtain ⟨w_54, hs', hS'⟩ := hS.store (P := Try.prog) (p := 1) (o := 0) (t := 28) (v := .agg [.int .i64 0, .int .i64 0, .int .i64 0].toArray) (vs := [.int .i64 0, .int .i64 0, .int .i64 0]) rfl ti28 rfl rfl rfl (by intro u hu; simp only [List.mem_cons, List.not_mem_nil, or_false] at hu; rcases hu with rfl | rfl | rfl <;> rfl)
      refine s_store hm rfl rfl hs' ?_
      replace hS : Sep w0 w_54 [N_47, Mem.one g_2 (.cells ([.int .i64 0, .int .i64 0, .int .i64 0] : List Value).toArray 28 (0, 0)), Mem.no, Mem.one g_14 (.cells ([v_48, .bool t_44.2.2] : List Value).toArray 67 (0, 0)), Mem.one g_41 (.cells ([.int .i64 t_22.1, .int .i64 t_28.1, .int .i64 t_34.1] : List Value).toArray 28 (0, 0))] Z := hS'
      clear hs' hS'
      refine wpList_nil ?_
      replace hm : Fr 35 a [(2, .int .i64 (-1)), (3, .pointer (some ⟨g_2, 0, none⟩)), (7, .int .i64 t_16.1), (8, .pointer (some ⟨g_41, 0, none⟩))] := hm.keep [2, 3, 7, 8]
      refine x_then_n ?_
      refine wp_ret (x_then_r ?_)
      obtain rfl := Option.some.inj H
      exact f_ret hm (rs := [.tmp 2, .cell 3 28]) rfl (.tmp rfl (.cell rfl (hS.load_agg (p := 1) (us := [.int .i64 0, .int .i64 0, .int .i64 0]) rfl Try.underlying28 rfl ti28 rfl rfl) .nil)) ⟨_, rfl, N_47, rfl, (Sep.sel hS [0] (by decide))⟩
  · rw [if_neg hc_12] at H
    refine c_cond_t hm rfl (nt (Bool.eq_false_iff.2 hc_12)) ?_
    refine wp_seq ?_
    refine wp_region_lit ?_
    refine s_build hm rfl ti28 pl28 rfl .nil (cs := [.int .i64 0, .int .i64 0, .int .i64 0]) rfl ?_
    clear hm a; intro a hm
    refine s_assign hm rfl rfl ?_
    clear hm a; intro a hm
    obtain ⟨w_55, hs', hS'⟩ := hS.store (P := Try.prog) (p := 1) (o := 0) (t := 28) (v := .agg [.int .i64 0, .int .i64 0, .int .i64 0].toArray) (vs := [.int .i64 0, .int .i64 0, .int .i64 0]) rfl ti28 rfl rfl rfl (by intro u hu; simp only [List.mem_cons, List.not_mem_nil, or_false] at hu; rcases hu with rfl | rfl | rfl <;> rfl)
    refine s_store hm rfl rfl hs' ?_
    replace hS : Sep w0 w_55 [N_6, Mem.one g_2 (.cells ([.int .i64 0, .int .i64 0, .int .i64 0] : List Value).toArray 28 (0, 0)), M_9] Z := hS'
    clear hs' hS'
    refine wpList_nil ?_
    replace hm : Fr 35 a [(2, .int .i64 (-1)), (3, .pointer (some ⟨g_2, 0, none⟩)), (4, v_7)] := hm.keep [2, 3, 4]
    refine x_then_n ?_
    refine wp_ret (x_then_r ?_)
    obtain rfl := Option.some.inj H
    exact f_ret hm (rs := [.tmp 2, .cell 3 28]) rfl (.tmp rfl (.cell rfl (hS.load_agg (p := 1) (us := [.int .i64 0, .int .i64 0, .int .i64 0]) rfl Try.underlying28 rfl ti28 rfl rfl) .nil)) ⟨_, rfl, N_6, rfl, (Sep.sel hS [0] (by decide))⟩

set_option maxHeartbeats 4000000 in
set_option maxRecDepth 20000 in
theorem hocketref11_ReadDisk.calls (K : Nat) (x0 : api_Disk) (p0_0 : Value) (p0_1 : Value) (r : api_Record × Bool) (w0 w : World) (Z A : Mem) (hA : A.le Z) (hS : Sep w0 w [] Z) (hp0_0 : Rd Kd.u8 A p0_0 x0.A) (hp0_1 : Rd Kd.u8 A p0_1 x0.B)
    (H : hocketref11_ReadDisk.f K x0 = some r) :
    Calls Try.prog 15 [.agg [p0_0, p0_1].toArray].toArray w (Ret fun v w' => ∃ (N : Mem), v = .tuple [.agg [.int .i64 r.1.Inc, .int .i64 r.1.Prom, .int .i64 r.1.Inst].toArray, .bool r.2].toArray ∧ Sep w0 w' [N] Z) := by
  unfold hocketref11_ReadDisk.f at H
  refine f_enter _ Try.func15 rfl Try.ntmps15 rfl fun a hm => ?_
  replace hm : Fr 34 a [(0, .agg [p0_0, p0_1].toArray)] := hm
  replace hS := hS.start
  replace hS : Sep w0 w [Mem.no] Z := hS
  refine wp_seq ?_
  refine wp_region_lit ?_
  refine v_box (vs := [p0_0, p0_1]) hm rfl rfl rfl hS ?_
  intro w_1 g_2 hS'
  clear hm a; intro a hm
  replace hS : Sep w0 w_1 [Mem.no, Mem.one g_2 (.cells ([p0_0, p0_1] : List Value).toArray 25 (0, 0))] Z := hS'
  clear hS'
  refine v_alloc hm rfl ti28 hS ?_
  intro w_3 g_4 hS'
  clear hm a; intro a hm
  replace hS : Sep w0 w_3 [Mem.no, Mem.one g_2 (.cells ([p0_0, p0_1] : List Value).toArray 25 (0, 0)), Mem.one g_4 (.cells ([.int .i64 0, .int .i64 0, .int .i64 0] : List Value).toArray 28 (0, 0))] Z := hS'
  clear hS'
  refine s_assign hm rfl rfl ?_
  clear hm a; intro a hm
  refine wpList_nil ?_
  replace hm : Fr 34 a [(1, .pointer (some ⟨g_2, 0, none⟩)), (2, .pointer (some ⟨g_4, 0, none⟩)), (3, .bool false)] := hm.keep [1, 2, 3]
  refine x_then_n ?_
  refine wp_seq ?_
  refine wp_region_lit ?_
  refine s_fieldAddr hm rfl Try.underlying25 rfl ti23 rfl rfl ?_
  clear hm a; intro a hm
  refine s_load hm rfl rfl (hS.load_one (p := 1) rfl Try.underlying23 rfl rfl) ?_
  clear hm a; intro a hm
  obtain ⟨t_5, et_5, H⟩ := Option.bind_eq_some_iff.1 H
  refine s_call hm rfl Try.call31 rfl (hocketref11_slot.calls K x0.A _ t_5 w0 _ _ _ (Mem.le.refl _) (hS.enter [] (by decide)) (hp0_0.mono (hA.trans (hS.le_zed []))) et_5) ?_
  rintro _ w_6 ⟨N_7, rfl, hS'⟩
  clear hm a; intro a hm
  obtain ⟨N_8, hS'', le_8, ln_8⟩ := hS.call [] (by decide) rfl (l' := []) (ow := []) rfl hS'
  replace hS : Sep w0 w_6 [N_8, Mem.one g_2 (.cells ([p0_0, p0_1] : List Value).toArray 25 (0, 0)), Mem.one g_4 (.cells ([.int .i64 0, .int .i64 0, .int .i64 0] : List Value).toArray 28 (0, 0))] Z := hS''
  clear hS' hS''
  refine s_move hm rfl rfl ?_
  clear hm a; intro a hm
  refine s_extract hm rfl rfl rfl ?_
  clear hm a; intro a hm
  refine s_extract hm rfl rfl rfl ?_
  clear hm a; intro a hm
  refine v_alloc hm rfl ti28 hS ?_
  intro w_9 g_10 hS'
  clear hm a; intro a hm
  replace hS : Sep w0 w_9 [N_8, Mem.one g_2 (.cells ([p0_0, p0_1] : List Value).toArray 25 (0, 0)), Mem.one g_4 (.cells ([.int .i64 0, .int .i64 0, .int .i64 0] : List Value).toArray 28 (0, 0)), Mem.one g_10 (.cells ([.int .i64 0, .int .i64 0, .int .i64 0] : List Value).toArray 28 (0, 0))] Z := hS'
  clear hS'
  refine s_assign hm rfl rfl ?_
  clear hm a; intro a hm
  obtain ⟨w_11, hs', hS'⟩ := hS.store (P := Try.prog) (p := 3) (o := 0) (t := 28) (v := .agg [.int .i64 t_5.2.Inc, .int .i64 t_5.2.Prom, .int .i64 t_5.2.Inst].toArray) (vs := [.int .i64 t_5.2.Inc, .int .i64 t_5.2.Prom, .int .i64 t_5.2.Inst]) rfl ti28 rfl rfl rfl (by intro u hu; simp only [List.mem_cons, List.not_mem_nil, or_false] at hu; rcases hu with rfl | rfl | rfl <;> rfl)
  refine s_store hm rfl rfl hs' ?_
  replace hS : Sep w0 w_11 [N_8, Mem.one g_2 (.cells ([p0_0, p0_1] : List Value).toArray 25 (0, 0)), Mem.one g_4 (.cells ([.int .i64 0, .int .i64 0, .int .i64 0] : List Value).toArray 28 (0, 0)), Mem.one g_10 (.cells ([.int .i64 t_5.2.Inc, .int .i64 t_5.2.Prom, .int .i64 t_5.2.Inst] : List Value).toArray 28 (0, 0))] Z := hS'
  clear hs' hS'
  refine wpList_nil ?_
  replace hm : Fr 34 a [(1, .pointer (some ⟨g_2, 0, none⟩)), (2, .pointer (some ⟨g_4, 0, none⟩)), (3, .bool false), (4, .int .i64 t_5.1), (5, .pointer (some ⟨g_10, 0, none⟩))] := hm.keep [1, 2, 3, 4, 5]
  refine x_then_n ?_
  refine wp_seq ?_
  refine wp_region_lit ?_
  refine s_fieldAddr hm rfl Try.underlying25 rfl ti23 rfl rfl ?_
  clear hm a; intro a hm
  refine s_load hm rfl rfl (hS.load_one (p := 1) rfl Try.underlying23 rfl rfl) ?_
  clear hm a; intro a hm
  obtain ⟨t_12, et_12, H⟩ := Option.bind_eq_some_iff.1 H
  refine s_call hm rfl Try.call31 rfl (hocketref11_slot.calls K x0.B _ t_12 w0 _ _ _ (Mem.le.refl _) (hS.enter [] (by decide)) (hp0_1.mono (hA.trans (hS.le_zed []))) et_12) ?_
  rintro _ w_13 ⟨N_14, rfl, hS'⟩
  clear hm a; intro a hm
  obtain ⟨N_15, hS'', le_15, ln_15⟩ := hS.call [] (by decide) rfl (l' := []) (ow := []) rfl hS'
  replace hS : Sep w0 w_13 [N_15, Mem.one g_2 (.cells ([p0_0, p0_1] : List Value).toArray 25 (0, 0)), Mem.one g_4 (.cells ([.int .i64 0, .int .i64 0, .int .i64 0] : List Value).toArray 28 (0, 0)), Mem.one g_10 (.cells ([.int .i64 t_5.2.Inc, .int .i64 t_5.2.Prom, .int .i64 t_5.2.Inst] : List Value).toArray 28 (0, 0))] Z := hS''
  clear hS' hS''
  refine s_move hm rfl rfl ?_
  clear hm a; intro a hm
  refine s_extract hm rfl rfl rfl ?_
  clear hm a; intro a hm
  refine s_extract hm rfl rfl rfl ?_
  clear hm a; intro a hm
  refine v_alloc hm rfl ti28 hS ?_
  intro w_16 g_17 hS'
  clear hm a; intro a hm
  replace hS : Sep w0 w_16 [N_15, Mem.one g_2 (.cells ([p0_0, p0_1] : List Value).toArray 25 (0, 0)), Mem.one g_4 (.cells ([.int .i64 0, .int .i64 0, .int .i64 0] : List Value).toArray 28 (0, 0)), Mem.one g_10 (.cells ([.int .i64 t_5.2.Inc, .int .i64 t_5.2.Prom, .int .i64 t_5.2.Inst] : List Value).toArray 28 (0, 0)), Mem.one g_17 (.cells ([.int .i64 0, .int .i64 0, .int .i64 0] : List Value).toArray 28 (0, 0))] Z := hS'
  clear hS'
  refine s_assign hm rfl rfl ?_
  clear hm a; intro a hm
  obtain ⟨w_18, hs', hS'⟩ := hS.store (P := Try.prog) (p := 4) (o := 0) (t := 28) (v := .agg [.int .i64 t_12.2.Inc, .int .i64 t_12.2.Prom, .int .i64 t_12.2.Inst].toArray) (vs := [.int .i64 t_12.2.Inc, .int .i64 t_12.2.Prom, .int .i64 t_12.2.Inst]) rfl ti28 rfl rfl rfl (by intro u hu; simp only [List.mem_cons, List.not_mem_nil, or_false] at hu; rcases hu with rfl | rfl | rfl <;> rfl)
  refine s_store hm rfl rfl hs' ?_
  replace hS : Sep w0 w_18 [N_15, Mem.one g_2 (.cells ([p0_0, p0_1] : List Value).toArray 25 (0, 0)), Mem.one g_4 (.cells ([.int .i64 0, .int .i64 0, .int .i64 0] : List Value).toArray 28 (0, 0)), Mem.one g_10 (.cells ([.int .i64 t_5.2.Inc, .int .i64 t_5.2.Prom, .int .i64 t_5.2.Inst] : List Value).toArray 28 (0, 0)), Mem.one g_17 (.cells ([.int .i64 t_12.2.Inc, .int .i64 t_12.2.Prom, .int .i64 t_12.2.Inst] : List Value).toArray 28 (0, 0))] Z := hS'
  clear hs' hS'
  refine wpList_nil ?_
  replace hm : Fr 34 a [(2, .pointer (some ⟨g_4, 0, none⟩)), (3, .bool false), (4, .int .i64 t_5.1), (5, .pointer (some ⟨g_10, 0, none⟩)), (6, .int .i64 t_12.1), (7, .pointer (some ⟨g_17, 0, none⟩))] := hm.keep [2, 3, 4, 5, 6, 7]
  refine x_then_n ?_
  refine c_seq fun KJ_19 hKJ_19 => ?_
  refine c_block ?_
  refine c_seq fun KJ_20 hKJ_20 => ?_
  have hJ_j_24 : ∀ (x_22 : Bool), hocketref11_ReadDisk.J1 K t_5 t_12 x_22 = some r → ∀ (a : Act) (w_23 : World), (∃ (N_21 : Mem), Fr 34 a [(2, .pointer (some ⟨g_4, 0, none⟩)), (3, .bool false), (4, .int .i64 t_5.1), (5, .pointer (some ⟨g_10, 0, none⟩)), (6, .int .i64 t_12.1), (7, .pointer (some ⟨g_17, 0, none⟩)), (20, .bool x_22)] ∧ Sep w0 w_23 [N_21, Mem.no, Mem.one g_4 (.cells ([.int .i64 0, .int .i64 0, .int .i64 0] : List Value).toArray 28 (0, 0)), Mem.one g_10 (.cells ([.int .i64 t_5.2.Inc, .int .i64 t_5.2.Prom, .int .i64 t_5.2.Inst] : List Value).toArray 28 (0, 0)), Mem.one g_17 (.cells ([.int .i64 t_12.2.Inc, .int .i64 t_12.2.Prom, .int .i64 t_12.2.Inst] : List Value).toArray 28 (0, 0))] Z ∧ N_15.le N_21) → KJ_20 a w_23 := by
    clear H hm hS a
    rintro x_22 H a w_23 ⟨N_21, hm, hS, le_21⟩
    unfold hocketref11_ReadDisk.J1 at H
    refine hKJ_20 _ _ ?_
    by_cases hc_25 : x_22 = true
    · rw [if_pos hc_25] at H
      refine c_cond_t hm rfl hc_25 ?_
      refine wp_seq ?_
      refine wp_region_lit ?_
      refine s_build hm rfl ti28 pl28 rfl .nil (cs := [.int .i64 0, .int .i64 0, .int .i64 0]) rfl ?_
      clear hm a; intro a hm
      obtain ⟨w_26, hs', hS'⟩ := hS.store (P := Try.prog) (p := 2) (o := 0) (t := 28) (v := .agg [.int .i64 0, .int .i64 0, .int .i64 0].toArray) (vs := [.int .i64 0, .int .i64 0, .int .i64 0]) rfl ti28 rfl rfl rfl (by intro u hu; simp only [List.mem_cons, List.not_mem_nil, or_false] at hu; rcases hu with rfl | rfl | rfl <;> rfl)
      refine s_store hm rfl rfl hs' ?_
      replace hS : Sep w0 w_26 [N_21, Mem.no, Mem.one g_4 (.cells ([.int .i64 0, .int .i64 0, .int .i64 0] : List Value).toArray 28 (0, 0)), Mem.one g_10 (.cells ([.int .i64 t_5.2.Inc, .int .i64 t_5.2.Prom, .int .i64 t_5.2.Inst] : List Value).toArray 28 (0, 0)), Mem.one g_17 (.cells ([.int .i64 t_12.2.Inc, .int .i64 t_12.2.Prom, .int .i64 t_12.2.Inst] : List Value).toArray 28 (0, 0))] Z := hS'
      clear hs' hS'
      refine s_assign hm rfl rfl ?_
      clear hm a; intro a hm
      refine wpList_nil ?_
      replace hm : Fr 34 a [(2, .pointer (some ⟨g_4, 0, none⟩)), (3, .bool false), (7, .pointer (some ⟨g_17, 0, none⟩))] := hm.keep [2, 3, 7]
      refine x_then_n ?_
      refine wp_ret (x_block_r (x_then_r ?_))
      obtain rfl := Option.some.inj H
      exact f_ret hm (rs := [.cell 2 28, .tmp 3]) rfl (.cell rfl (hS.load_agg (p := 2) (us := [.int .i64 0, .int .i64 0, .int .i64 0]) rfl Try.underlying28 rfl ti28 rfl rfl) (.tmp rfl .nil)) ⟨_, rfl, N_21, rfl, (Sep.sel hS [0] (by decide))⟩
    · rw [if_neg hc_25] at H
      refine c_cond_f hm rfl (Bool.eq_false_iff.2 hc_25) ?_
      refine wp_seq ?_
      refine wp_region_lit ?_
      refine s_move hm rfl rfl ?_
      clear hm a; intro a hm
      refine s_move hm rfl rfl ?_
      clear hm a; intro a hm
      refine s_cmp (b := decide (t_5.1 ≥ t_12.1)) hm rfl rfl rfl (.inr (.inr (.inr (.inr (.inr ⟨rfl, rfl⟩))))) ?_
      clear hm a; intro a hm
      refine s_assign hm rfl rfl ?_
      clear hm a; intro a hm
      refine wpList_nil ?_
      replace hm : Fr 34 a [(2, .pointer (some ⟨g_4, 0, none⟩)), (3, .bool false), (5, .pointer (some ⟨g_10, 0, none⟩)), (7, .pointer (some ⟨g_17, 0, none⟩)), (28, .bool (decide (t_5.1 ≥ t_12.1)))] := hm.keep [2, 3, 5, 7, 28]
      refine x_then_n ?_
      by_cases hc_27 : t_5.1 ≥ t_12.1
      · rw [if_pos hc_27] at H
        refine c_cond_t hm rfl (decide_eq_true hc_27) ?_
        refine wp_seq ?_
        refine wp_region_lit ?_
        refine s_load hm rfl rfl (hS.load_agg (p := 3) (us := [.int .i64 t_5.2.Inc, .int .i64 t_5.2.Prom, .int .i64 t_5.2.Inst]) rfl Try.underlying28 rfl ti28 rfl rfl) ?_
        clear hm a; intro a hm
        obtain ⟨w_28, hs', hS'⟩ := hS.store (P := Try.prog) (p := 2) (o := 0) (t := 28) (v := .agg [.int .i64 t_5.2.Inc, .int .i64 t_5.2.Prom, .int .i64 t_5.2.Inst].toArray) (vs := [.int .i64 t_5.2.Inc, .int .i64 t_5.2.Prom, .int .i64 t_5.2.Inst]) rfl ti28 rfl rfl rfl (by intro u hu; simp only [List.mem_cons, List.not_mem_nil, or_false] at hu; rcases hu with rfl | rfl | rfl <;> rfl)
        refine s_store hm rfl rfl hs' ?_
        replace hS : Sep w0 w_28 [N_21, Mem.no, Mem.one g_4 (.cells ([.int .i64 t_5.2.Inc, .int .i64 t_5.2.Prom, .int .i64 t_5.2.Inst] : List Value).toArray 28 (0, 0)), Mem.one g_10 (.cells ([.int .i64 t_5.2.Inc, .int .i64 t_5.2.Prom, .int .i64 t_5.2.Inst] : List Value).toArray 28 (0, 0)), Mem.one g_17 (.cells ([.int .i64 t_12.2.Inc, .int .i64 t_12.2.Prom, .int .i64 t_12.2.Inst] : List Value).toArray 28 (0, 0))] Z := hS'
        clear hs' hS'
        refine s_assign hm rfl rfl ?_
        clear hm a; intro a hm
        refine wpList_nil ?_
        replace hm : Fr 34 a [(2, .pointer (some ⟨g_4, 0, none⟩)), (3, .bool true), (7, .pointer (some ⟨g_17, 0, none⟩))] := hm.keep [2, 3, 7]
        refine x_then_n ?_
        refine wp_ret (x_block_r (x_then_r ?_))
        obtain rfl := Option.some.inj H
        exact f_ret hm (rs := [.cell 2 28, .tmp 3]) rfl (.cell rfl (hS.load_agg (p := 2) (us := [.int .i64 t_5.2.Inc, .int .i64 t_5.2.Prom, .int .i64 t_5.2.Inst]) rfl Try.underlying28 rfl ti28 rfl rfl) (.tmp rfl .nil)) ⟨_, rfl, N_21, rfl, (Sep.sel hS [0] (by decide))⟩
      · rw [if_neg hc_27] at H
        refine c_cond_f hm rfl (decide_eq_false hc_27) ?_
        refine wp_skip ?_
        refine x_block_n ?_
        refine x_then_n (hKJ_19 _ _ ?_)
        refine wp_seq ?_
        refine wp_region_lit ?_
        refine s_load hm rfl rfl (hS.load_agg (p := 4) (us := [.int .i64 t_12.2.Inc, .int .i64 t_12.2.Prom, .int .i64 t_12.2.Inst]) rfl Try.underlying28 rfl ti28 rfl rfl) ?_
        clear hm a; intro a hm
        obtain ⟨w_29, hs', hS'⟩ := hS.store (P := Try.prog) (p := 2) (o := 0) (t := 28) (v := .agg [.int .i64 t_12.2.Inc, .int .i64 t_12.2.Prom, .int .i64 t_12.2.Inst].toArray) (vs := [.int .i64 t_12.2.Inc, .int .i64 t_12.2.Prom, .int .i64 t_12.2.Inst]) rfl ti28 rfl rfl rfl (by intro u hu; simp only [List.mem_cons, List.not_mem_nil, or_false] at hu; rcases hu with rfl | rfl | rfl <;> rfl)
        refine s_store hm rfl rfl hs' ?_
        replace hS : Sep w0 w_29 [N_21, Mem.no, Mem.one g_4 (.cells ([.int .i64 t_12.2.Inc, .int .i64 t_12.2.Prom, .int .i64 t_12.2.Inst] : List Value).toArray 28 (0, 0)), Mem.one g_10 (.cells ([.int .i64 t_5.2.Inc, .int .i64 t_5.2.Prom, .int .i64 t_5.2.Inst] : List Value).toArray 28 (0, 0)), Mem.one g_17 (.cells ([.int .i64 t_12.2.Inc, .int .i64 t_12.2.Prom, .int .i64 t_12.2.Inst] : List Value).toArray 28 (0, 0))] Z := hS'
        clear hs' hS'
        refine s_assign hm rfl rfl ?_
        clear hm a; intro a hm
        refine wpList_nil ?_
        replace hm : Fr 34 a [(2, .pointer (some ⟨g_4, 0, none⟩)), (3, .bool true)] := hm.keep [2, 3]
        refine x_then_n ?_
        refine wp_ret ?_
        obtain rfl := Option.some.inj H
        exact f_ret hm (rs := [.cell 2 28, .tmp 3]) rfl (.cell rfl (hS.load_agg (p := 2) (us := [.int .i64 t_12.2.Inc, .int .i64 t_12.2.Prom, .int .i64 t_12.2.Inst]) rfl Try.underlying28 rfl ti28 rfl rfl) (.tmp rfl .nil)) ⟨_, rfl, N_21, rfl, (Sep.sel hS [0] (by decide))⟩
  clear hKJ_20
  refine wp_region_lit ?_
  refine s_move hm rfl rfl ?_
  clear hm a; intro a hm
  refine s_cmp (b := decide (t_5.1 < 0)) hm rfl rfl rfl (.inr (.inr (.inl ⟨rfl, rfl⟩))) ?_
  clear hm a; intro a hm
  refine s_move hm rfl rfl ?_
  clear hm a; intro a hm
  by_cases hc_30 : t_5.1 < 0
  · rw [if_pos hc_30] at H
    refine s_on hm rfl rfl (decide_eq_true hc_30) ?_
    refine s_move hm rfl rfl ?_
    clear hm a; intro a hm
    refine s_on hm rfl rfl (decide_eq_true hc_30) ?_
    refine s_cmp (b := decide (t_12.1 < 0)) hm rfl rfl rfl (.inr (.inr (.inl ⟨rfl, rfl⟩))) ?_
    clear hm a; intro a hm
    refine s_pick_t hm rfl rfl (decide_eq_true hc_30) rfl ?_
    clear hm a; intro a hm
    refine s_assign hm rfl rfl ?_
    clear hm a; intro a hm
    refine wpList_nil ?_
    replace hm : Fr 34 a [(2, .pointer (some ⟨g_4, 0, none⟩)), (3, .bool false), (4, .int .i64 t_5.1), (5, .pointer (some ⟨g_10, 0, none⟩)), (6, .int .i64 t_12.1), (7, .pointer (some ⟨g_17, 0, none⟩)), (20, .bool (decide (t_12.1 < 0)))] := hm.keep [2, 3, 4, 5, 6, 7, 20]
    replace hS : Sep w0 w_18 [N_15, Mem.one g_2 (.cells ([p0_0, p0_1] : List Value).toArray 25 (0, 0)), Mem.one g_4 (.cells ([.int .i64 0, .int .i64 0, .int .i64 0] : List Value).toArray 28 (0, 0)), Mem.one g_10 (.cells ([.int .i64 t_5.2.Inc, .int .i64 t_5.2.Prom, .int .i64 t_5.2.Inst] : List Value).toArray 28 (0, 0)), Mem.one g_17 (.cells ([.int .i64 t_12.2.Inc, .int .i64 t_12.2.Prom, .int .i64 t_12.2.Inst] : List Value).toArray 28 (0, 0))] Z := hS
    replace hm : Fr 34 a [(2, .pointer (some ⟨g_4, 0, none⟩)), (3, .bool false), (4, .int .i64 t_5.1), (5, .pointer (some ⟨g_10, 0, none⟩)), (6, .int .i64 t_12.1), (7, .pointer (some ⟨g_17, 0, none⟩)), (20, .bool (decide (t_12.1 < 0)))] := hm.keep [2, 3, 4, 5, 6, 7, 20]
    exact x_then_n (hJ_j_24 (decide (t_12.1 < 0)) H _ _ ⟨N_15, hm, (Sep.sel hS [0, 1000, 2, 3, 4] (by decide)), (Mem.le.refl _)⟩)
  · rw [if_neg hc_30] at H
    refine s_off hm rfl rfl rfl (decide_eq_false hc_30) ?_
    clear hm a; intro a hm
    refine s_off hm rfl rfl rfl (decide_eq_false hc_30) ?_
    clear hm a; intro a hm
    refine s_pick_f hm rfl rfl (decide_eq_false hc_30) rfl ?_
    clear hm a; intro a hm
    refine s_assign hm rfl rfl ?_
    clear hm a; intro a hm
    refine wpList_nil ?_
    replace hm : Fr 34 a [(2, .pointer (some ⟨g_4, 0, none⟩)), (3, .bool false), (4, .int .i64 t_5.1), (5, .pointer (some ⟨g_10, 0, none⟩)), (6, .int .i64 t_12.1), (7, .pointer (some ⟨g_17, 0, none⟩)), (20, .bool false)] := hm.keep [2, 3, 4, 5, 6, 7, 20]
    replace hS : Sep w0 w_18 [N_15, Mem.one g_2 (.cells ([p0_0, p0_1] : List Value).toArray 25 (0, 0)), Mem.one g_4 (.cells ([.int .i64 0, .int .i64 0, .int .i64 0] : List Value).toArray 28 (0, 0)), Mem.one g_10 (.cells ([.int .i64 t_5.2.Inc, .int .i64 t_5.2.Prom, .int .i64 t_5.2.Inst] : List Value).toArray 28 (0, 0)), Mem.one g_17 (.cells ([.int .i64 t_12.2.Inc, .int .i64 t_12.2.Prom, .int .i64 t_12.2.Inst] : List Value).toArray 28 (0, 0))] Z := hS
    replace hm : Fr 34 a [(2, .pointer (some ⟨g_4, 0, none⟩)), (3, .bool false), (4, .int .i64 t_5.1), (5, .pointer (some ⟨g_10, 0, none⟩)), (6, .int .i64 t_12.1), (7, .pointer (some ⟨g_17, 0, none⟩)), (20, .bool false)] := hm.keep [2, 3, 4, 5, 6, 7, 20]
    exact x_then_n (hJ_j_24 false H _ _ ⟨N_15, hm, (Sep.sel hS [0, 1000, 2, 3, 4] (by decide)), (Mem.le.refl _)⟩)

set_option maxHeartbeats 4000000 in
set_option maxRecDepth 20000 in
theorem hocketref1_Four.calls (K : Nat) (x0 : List UInt8) (p0_0 : Value) (r : (List UInt8)) (w0 w : World) (Z A : Mem) (hA : A.le Z) (hS : Sep w0 w [] Z) (hp0_0 : Rd Kd.u8 A p0_0 x0)
    (H : hocketref1_Four.f K x0 = some r) :
    Calls Try.prog 32 [p0_0].toArray w (Ret fun v w' => ∃ (u0 : Value) (N : Mem) (M0 : Mem), v = u0 ∧ Sep w0 w' [N, M0] Z ∧ Own Kd.u8 5 M0 Mem.no u0 r) := by
  unfold hocketref1_Four.f at H
  refine f_enter _ Try.func32 rfl Try.ntmps32 rfl fun a hm => ?_
  replace hm : Fr 20 a [(0, p0_0)] := hm
  replace hS := hS.start
  replace hS : Sep w0 w [Mem.no] Z := hS
  refine wp_seq ?_
  refine wp_region_lit ?_
  refine s_assign hm rfl rfl ?_
  clear hm a; intro a hm
  refine wpList_nil ?_
  replace hm : Fr 20 a [(0, p0_0), (2, .slice none 0 0)] := hm.keep [0, 2]
  refine x_then_n ?_
  refine wp_seq ?_
  refine wp_region_lit ?_
  refine s_move hm rfl rfl ?_
  clear hm a; intro a hm
  obtain ⟨t_1, et_1, H⟩ := Option.bind_eq_some_iff.1 H
  refine s_call hm rfl Try.call43 rfl (hocketref1_Sum.calls K x0 _ t_1 w0 _ _ _ (Mem.le.refl _) (hS.enter [] (by decide)) (hp0_0.mono (hA.trans (hS.le_zed []))) et_1) ?_
  rintro _ w_2 ⟨N_3, rfl, hS'⟩
  clear hm a; intro a hm
  obtain ⟨N_4, hS'', le_4, ln_4⟩ := hS.call [] (by decide) rfl (l' := []) (ow := []) rfl hS'
  replace hS : Sep w0 w_2 [N_4] Z := hS''
  clear hS' hS''
  refine s_assign hm rfl rfl ?_
  clear hm a; intro a hm
  refine wpList_nil ?_
  replace hm : Fr 20 a [(0, p0_0), (2, .slice none 0 0), (3, .int .u32 (t_1.toNat : Int))] := hm.keep [0, 2, 3]
  refine x_then_n ?_
  refine wp_seq ?_
  refine wp_region_lit ?_
  refine s_move hm rfl rfl ?_
  clear hm a; intro a hm
  refine s_conv (((toU8 (t_1.toNat : Int)).toNat : Int)) hm rfl Try.underlying52 Try.underlying5 rfl (wrap_u8 _).symm ?_
  clear hm a; intro a hm
  refine s_move hm rfl rfl ?_
  clear hm a; intro a hm
  refine s_shift (r := ((toU32 (shr .u32 (t_1.toNat : Int) 8)).toNat : Int)) hm rfl rfl rfl (by decide) (.inr ⟨rfl, (shr32 _ _).symm⟩) ?_
  clear hm a; intro a hm
  refine s_conv (((toU8 ((toU32 (shr .u32 (t_1.toNat : Int) 8)).toNat : Int)).toNat : Int)) hm rfl Try.underlying52 Try.underlying5 rfl (wrap_u8 _).symm ?_
  clear hm a; intro a hm
  refine s_move hm rfl rfl ?_
  clear hm a; intro a hm
  refine s_shift (r := ((toU32 (shr .u32 (t_1.toNat : Int) 16)).toNat : Int)) hm rfl rfl rfl (by decide) (.inr ⟨rfl, (shr32 _ _).symm⟩) ?_
  clear hm a; intro a hm
  refine s_conv (((toU8 ((toU32 (shr .u32 (t_1.toNat : Int) 16)).toNat : Int)).toNat : Int)) hm rfl Try.underlying52 Try.underlying5 rfl (wrap_u8 _).symm ?_
  clear hm a; intro a hm
  refine s_move hm rfl rfl ?_
  clear hm a; intro a hm
  refine s_shift (r := ((toU32 (shr .u32 (t_1.toNat : Int) 24)).toNat : Int)) hm rfl rfl rfl (by decide) (.inr ⟨rfl, (shr32 _ _).symm⟩) ?_
  clear hm a; intro a hm
  refine s_conv (((toU8 ((toU32 (shr .u32 (t_1.toNat : Int) 24)).toNat : Int)).toNat : Int)) hm rfl Try.underlying52 Try.underlying5 rfl (wrap_u8 _).symm ?_
  clear hm a; intro a hm
  have hq_9 : Reps Kd.u8 Mem.no ([toU8 (t_1.toNat : Int), toU8 ((toU32 (shr .u32 (t_1.toNat : Int) 8)).toNat : Int), toU8 ((toU32 (shr .u32 (t_1.toNat : Int) 16)).toNat : Int), toU8 ((toU32 (shr .u32 (t_1.toNat : Int) 24)).toNat : Int)] : List UInt8) _ := ((Reps.one (d := Kd.u8) (x := toU8 (t_1.toNat : Int)) (show Kd.u8.K _ _ [.int .u8 ((toU8 (t_1.toNat : Int)).toNat : Int)] from rfl)).append ((Reps.one (d := Kd.u8) (x := toU8 ((toU32 (shr .u32 (t_1.toNat : Int) 8)).toNat : Int)) (show Kd.u8.K _ _ [.int .u8 ((toU8 ((toU32 (shr .u32 (t_1.toNat : Int) 8)).toNat : Int)).toNat : Int)] from rfl)).append ((Reps.one (d := Kd.u8) (x := toU8 ((toU32 (shr .u32 (t_1.toNat : Int) 16)).toNat : Int)) (show Kd.u8.K _ _ [.int .u8 ((toU8 ((toU32 (shr .u32 (t_1.toNat : Int) 16)).toNat : Int)).toNat : Int)] from rfl)).append ((Reps.one (d := Kd.u8) (x := toU8 ((toU32 (shr .u32 (t_1.toNat : Int) 24)).toNat : Int)) (show Kd.u8.K _ _ [.int .u8 ((toU8 ((toU32 (shr .u32 (t_1.toNat : Int) 24)).toNat : Int)).toNat : Int)] from rfl)).append (Reps.nil Kd.u8 _)))))
  refine s_buildSlice hm rfl Try.underlying23 ti5 rfl rfl rfl (.cons rfl (.cons rfl (.cons rfl (.cons rfl .nil)))) rfl rfl rfl hS hq_9 rfl ?_
  intro w_5 v_6 M_7 hS' ho_8
  clear hm a; intro a hm
  replace hS : Sep w0 w_5 [N_4, M_7] Z := hS'
  clear hS' hq_9
  refine s_move hm rfl rfl ?_
  clear hm a; intro a hm
  obtain ⟨t_11, et_11, H⟩ := Option.bind_eq_some_iff.1 H
  refine s_append (J := Mem.no) (I' := Mem.no) (p := 1) 140737488355328 hm rfl rfl rfl Try.underlying23 ti5 rfl rfl rfl rfl hS rfl ho_8 (Src.flat flat_u8 (hp0_0.src (hA.trans hS.old))) (Mem.le.refl _) (Mem.le.refl _) et_11 ?_
  intro w_12 v_13 M_14 hS' ho_15
  clear hm a; intro a hm
  replace hS : Sep w0 w_12 [N_4, M_14] Z := hS'
  clear hS'
  refine s_assign hm rfl rfl ?_
  clear hm a; intro a hm
  refine wpList_nil ?_
  replace hm : Fr 20 a [(2, v_13)] := hm.keep [2]
  refine x_then_n ?_
  refine wp_ret ?_
  obtain rfl := Option.some.inj H
  exact f_ret hm (rs := [.tmp 2]) rfl (.tmp rfl .nil) ⟨_, rfl, v_13, N_4, M_14, rfl, (Sep.sel hS [0, 1] (by decide)), ho_15⟩

set_option maxHeartbeats 4000000 in
set_option maxRecDepth 20000 in
theorem hocketref1_Num.calls (K : Nat) (x0 : List UInt8) (p0_0 : Value) (x1 : Int) (r : (List UInt8)) (w0 w : World) (Z A : Mem) (hA : A.le Z) (hS : Sep w0 w [] Z) (hp0_0 : Rd Kd.u8 A p0_0 x0)
    (H : hocketref1_Num.f K x0 x1 = some r) :
    Calls Try.prog 44 [p0_0, .int .i64 x1].toArray w (Ret fun v w' => ∃ (u0 : Value) (N : Mem) (M0 : Mem), v = u0 ∧ Sep w0 w' [N, M0] Z ∧ Own Kd.u8 5 M0 Mem.no u0 r) := by
  unfold hocketref1_Num.f at H
  refine f_enter _ Try.func44 rfl Try.ntmps44 rfl fun a hm => ?_
  replace hm : Fr 28 a [(0, p0_0), (1, .int .i64 x1)] := hm
  replace hS := hS.start
  replace hS : Sep w0 w [Mem.no] Z := hS
  refine wp_seq ?_
  refine wp_region_lit ?_
  refine s_assign hm rfl rfl ?_
  clear hm a; intro a hm
  refine wpList_nil ?_
  replace hm : Fr 28 a [(0, p0_0), (1, .int .i64 x1), (4, .slice none 0 0)] := hm.keep [0, 1, 4]
  refine x_then_n ?_
  refine wp_seq ?_
  refine wp_region_lit ?_
  have hq_5 : Reps Kd.u8 Mem.no ([] : List UInt8) _ := (Reps.nil Kd.u8 _)
  refine s_buildSlice hm rfl Try.underlying23 ti5 rfl rfl rfl .nil rfl rfl rfl hS hq_5 rfl ?_
  intro w_1 v_2 M_3 hS' ho_4
  clear hm a; intro a hm
  replace hS : Sep w0 w_1 [Mem.no, M_3] Z := hS'
  clear hS' hq_5
  refine s_move hm rfl rfl ?_
  clear hm a; intro a hm
  obtain ⟨t_7, et_7, H⟩ := Option.bind_eq_some_iff.1 H
  refine s_append (J := Mem.no) (I' := Mem.no) (p := 1) 140737488355328 hm rfl rfl rfl Try.underlying23 ti5 rfl rfl rfl rfl hS rfl ho_4 (Src.flat flat_u8 (hp0_0.src (hA.trans hS.old))) (Mem.le.refl _) (Mem.le.refl _) et_7 ?_
  intro w_8 v_9 M_10 hS' ho_11
  clear hm a; intro a hm
  replace hS : Sep w0 w_8 [Mem.no, M_10] Z := hS'
  clear hS'
  refine s_assign hm rfl rfl ?_
  clear hm a; intro a hm
  refine wpList_nil ?_
  replace hm : Fr 28 a [(1, .int .i64 x1), (4, .slice none 0 0), (5, v_9)] := hm.keep [1, 4, 5]
  refine x_then_n ?_
  refine wp_seq ?_
  refine wp_region_lit ?_
  refine s_move hm rfl rfl ?_
  clear hm a; intro a hm
  refine s_max hm rfl rfl rfl ?_
  clear hm a; intro a hm
  refine s_min hm rfl rfl rfl ?_
  clear hm a; intro a hm
  refine s_assign hm rfl rfl ?_
  clear hm a; intro a hm
  refine wpList_nil ?_
  replace hm : Fr 28 a [(1, .int .i64 (mn (mx x1 0) 4611686018427387904)), (4, .slice none 0 0), (5, v_9)] := hm.keep [1, 4, 5]
  refine x_then_n ?_
  refine c_seq fun KJ_13 hKJ_13 => ?_
  have hJ_j_22 : ∀ (x_15 : Int), ∀ (x_16 : List UInt8), hocketref1_Num.J1 K x_15 x_16 = some r → ∀ (a : Act) (w_21 : World), (∃ (v_19 : Value) (N_14 : Mem) (M_17 : Mem), Fr 28 a [(1, .int .i64 x_15), (4, .slice none 0 0), (5, v_19)] ∧ Sep w0 w_21 [N_14, M_17] Z ∧ Mem.no.le N_14 ∧ Own Kd.u8 5 M_17 Mem.no v_19 x_16) → KJ_13 a w_21 := by
    clear H hm hS a
    rintro x_15 x_16 H a w_21 ⟨v_19, N_14, M_17, hm, hS, le_14, ho_20⟩
    unfold hocketref1_Num.J1 at H
    refine hKJ_13 _ _ ?_
    refine wp_seq ?_
    refine wp_region_lit ?_
    refine s_move hm rfl rfl ?_
    clear hm a; intro a hm
    refine s_move hm rfl rfl ?_
    clear hm a; intro a hm
    refine s_conv (((toU8 x_15).toNat : Int)) hm rfl Try.underlying3 Try.underlying5 rfl (wrap_u8 _).symm ?_
    clear hm a; intro a hm
    have hq_27 : Reps Kd.u8 Mem.no ([toU8 x_15] : List UInt8) _ := ((Reps.one (d := Kd.u8) (x := toU8 x_15) (show Kd.u8.K _ _ [.int .u8 ((toU8 x_15).toNat : Int)] from rfl)).append (Reps.nil Kd.u8 _))
    refine s_buildSlice hm rfl Try.underlying23 ti5 rfl rfl rfl (.cons rfl .nil) rfl rfl rfl hS hq_27 rfl ?_
    intro w_23 v_24 M_25 hS' ho_26
    clear hm a; intro a hm
    replace hS : Sep w0 w_23 [N_14, M_17, M_25] Z := hS'
    clear hS' hq_27
    obtain ⟨t_29, et_29, H⟩ := Option.bind_eq_some_iff.1 H
    refine s_append (J := Mem.no) (I' := Mem.no) (p := 1) 140737488355328 hm rfl rfl rfl Try.underlying23 ti5 rfl rfl rfl rfl hS rfl ho_20 (Src.flat flat_u8 (ho_26.src (hS.own 2))) (Mem.le.refl _) (Mem.le.refl _) et_29 ?_
    intro w_30 v_31 M_32 hS' ho_33
    clear hm a; intro a hm
    replace hS : Sep w0 w_30 [N_14, M_32, M_25] Z := hS'
    clear hS'
    refine s_assign hm rfl rfl ?_
    clear hm a; intro a hm
    refine wpList_nil ?_
    replace hm : Fr 28 a [(4, v_31)] := hm.keep [4]
    refine x_then_n ?_
    refine wp_ret ?_
    obtain rfl := Option.some.inj H
    exact f_ret hm (rs := [.tmp 4]) rfl (.tmp rfl .nil) ⟨_, rfl, v_31, N_14, M_32, rfl, (Sep.sel hS [0, 1] (by decide)), ho_33⟩
  clear hKJ_13
  replace hS : Sep w0 w_8 [Mem.no, M_10] Z := hS
  replace hm : Fr 28 a [(1, .int .i64 (mn (mx x1 0) 4611686018427387904)), (4, .slice none 0 0), (5, v_9)] := hm.keep [1, 4, 5]
  refine c_block ?_
  refine c_loop (fun k_42 a w_42 => ∃ (x_36 : Int) (x_37 : List UInt8) (v_40 : Value) (N_35 : Mem) (M_38 : Mem), hocketref1_Num.L1 K (fun v => hocketref1_Num.J1 K v.1 v.2) k_42 (x_36, x_37) = some r ∧ Fr 28 a [(1, .int .i64 x_36), (4, .slice none 0 0), (5, v_40)] ∧ Sep w0 w_42 [N_35, M_38] Z ∧ Mem.no.le N_35 ∧ Own Kd.u8 5 M_38 Mem.no v_40 x_37) K ⟨mn (mx x1 0) 4611686018427387904, t_7, v_9, Mem.no, M_10, H, hm, (Sep.sel hS [0, 1] (by decide)), (Mem.le.refl _), ho_11⟩ (fun a w h => by obtain ⟨_, _, _, _, _, H, _⟩ := h; cases (show (none : Option ((List UInt8))) = some r from H)) ?_
  clear hm hS a H
  rintro k_42 a w_42 KL_42 hKL_42 ⟨x_36, x_37, v_40, N_35, M_38, H, hm, hS, le_35, ho_41⟩
  replace H : hocketref1_Num.B1 K (fun v => hocketref1_Num.J1 K v.1 v.2) (hocketref1_Num.L1 K (fun v => hocketref1_Num.J1 K v.1 v.2) k_42) x_36 x_37 = some r := H
  unfold hocketref1_Num.B1 at H
  refine c_seq fun KJ_44 hKJ_44 => ?_
  refine wp_seq ?_
  refine wp_region_lit ?_
  refine s_move hm rfl rfl ?_
  clear hm a; intro a hm
  refine s_cmp (b := decide (x_36 > 127)) hm rfl rfl rfl (.inr (.inr (.inr (.inr (.inl ⟨rfl, rfl⟩))))) ?_
  clear hm a; intro a hm
  refine wpList_nil ?_
  replace hm : Fr 28 a [(1, .int .i64 x_36), (4, .slice none 0 0), (5, v_40), (13, .bool (decide (x_36 > 127)))] := hm.keep [1, 4, 5, 13]
  refine x_then_n ?_
  by_cases hc_45 : x_36 > 127
  · rw [if_pos hc_45] at H
    refine c_cond_t hm rfl (decide_eq_true hc_45) ?_
    refine wp_skip ?_
    refine x_then_n (hKJ_44 _ _ ?_)
    refine c_block ?_
    refine wp_seq ?_
    refine wp_region_lit ?_
    refine s_move hm rfl rfl ?_
    clear hm a; intro a hm
    refine s_move hm rfl rfl ?_
    clear hm a; intro a hm
    refine s_bits (i := x_36) (j := 127) (r := band .i64 x_36 127) hm rfl rfl rfl (.inl ⟨rfl, rfl⟩) ?_
    clear hm a; intro a hm
    refine s_bits (i := band .i64 x_36 127) (j := 128) (r := bor .i64 (band .i64 x_36 127) 128) hm rfl rfl rfl (.inr (.inl ⟨rfl, rfl⟩)) ?_
    clear hm a; intro a hm
    refine s_conv (((toU8 (bor .i64 (band .i64 x_36 127) 128)).toNat : Int)) hm rfl Try.underlying3 Try.underlying5 rfl (wrap_u8 _).symm ?_
    clear hm a; intro a hm
    have hq_50 : Reps Kd.u8 Mem.no ([toU8 (bor .i64 (band .i64 x_36 127) 128)] : List UInt8) _ := ((Reps.one (d := Kd.u8) (x := toU8 (bor .i64 (band .i64 x_36 127) 128)) (show Kd.u8.K _ _ [.int .u8 ((toU8 (bor .i64 (band .i64 x_36 127) 128)).toNat : Int)] from rfl)).append (Reps.nil Kd.u8 _))
    refine s_buildSlice hm rfl Try.underlying23 ti5 rfl rfl rfl (.cons rfl .nil) rfl rfl rfl hS hq_50 rfl ?_
    intro w_46 v_47 M_48 hS' ho_49
    clear hm a; intro a hm
    replace hS : Sep w0 w_46 [N_35, M_38, M_48] Z := hS'
    clear hS' hq_50
    obtain ⟨t_52, et_52, H⟩ := Option.bind_eq_some_iff.1 H
    refine s_append (J := Mem.no) (I' := Mem.no) (p := 1) 140737488355328 hm rfl rfl rfl Try.underlying23 ti5 rfl rfl rfl rfl hS rfl ho_41 (Src.flat flat_u8 (ho_49.src (hS.own 2))) (Mem.le.refl _) (Mem.le.refl _) et_52 ?_
    intro w_53 v_54 M_55 hS' ho_56
    clear hm a; intro a hm
    replace hS : Sep w0 w_53 [N_35, M_55, M_48] Z := hS'
    clear hS'
    refine s_assign hm rfl rfl ?_
    clear hm a; intro a hm
    refine wpList_nil ?_
    replace hm : Fr 28 a [(1, .int .i64 x_36), (4, .slice none 0 0), (5, v_54)] := hm.keep [1, 4, 5]
    refine x_then_n ?_
    refine wp_region_lit ?_
    refine s_move hm rfl rfl ?_
    clear hm a; intro a hm
    refine s_shift (r := shr .i64 x_36 7) hm rfl rfl rfl (by decide) (.inr ⟨rfl, rfl⟩) ?_
    clear hm a; intro a hm
    refine s_assign hm rfl rfl ?_
    clear hm a; intro a hm
    refine wpList_nil ?_
    replace hm : Fr 28 a [(1, .int .i64 (shr .i64 x_36 7)), (4, .slice none 0 0), (5, v_54)] := hm.keep [1, 4, 5]
    refine x_block_n ?_
    refine x_then_n (hKL_42 _ _ ?_)
    replace hS : Sep w0 w_53 [N_35, M_55, M_48] Z := hS
    replace hm : Fr 28 a [(1, .int .i64 (shr .i64 x_36 7)), (4, .slice none 0 0), (5, v_54)] := hm.keep [1, 4, 5]
    exact ⟨shr .i64 x_36 7, t_52, v_54, N_35, M_55, H, hm, (Sep.sel hS [0, 1] (by decide)), le_35, ho_56⟩
  · rw [if_neg hc_45] at H
    refine c_cond_f hm rfl (decide_eq_false hc_45) ?_
    refine wp_exit (x_then_x (x_then_x (x_block_t ?_)))
    replace hS : Sep w0 w_42 [N_35, M_38] Z := hS
    replace hm : Fr 28 a [(1, .int .i64 x_36), (4, .slice none 0 0), (5, v_40)] := hm.keep [1, 4, 5]
    exact x_then_n (hJ_j_22 x_36 x_37 H _ _ ⟨v_40, N_35, M_38, hm, (Sep.sel hS [0, 1] (by decide)), le_35, ho_41⟩)

set_option maxHeartbeats 4000000 in
set_option maxRecDepth 20000 in
theorem hocketref11_nums.calls (K : Nat) (x0 : List UInt8) (p0_0 : Value) (x1 : List Int) (p1_1 : Value) (r : (List UInt8)) (w0 w : World) (Z A : Mem) (hA : A.le Z) (hS : Sep w0 w [] Z) (hp0_0 : Rd Kd.u8 A p0_0 x0) (hp1_1 : Rd (Kd.int .i64) A p1_1 x1)
    (H : hocketref11_nums.f K x0 x1 = some r) :
    Calls Try.prog 33 [p0_0, p1_1].toArray w (Ret fun v w' => ∃ (u0 : Value) (N : Mem), v = u0 ∧ Sep w0 w' [N] Z ∧ Rd Kd.u8 (A.un N) u0 r) := by
  unfold hocketref11_nums.f at H
  refine f_enter _ Try.func33 rfl Try.ntmps33 rfl fun a hm => ?_
  replace hm : Fr 19 a [(0, p0_0), (1, p1_1)] := hm
  replace hS := hS.start
  replace hS : Sep w0 w [Mem.no] Z := hS
  refine wp_seq ?_
  refine wp_region_lit ?_
  refine s_assign hm rfl rfl ?_
  clear hm a; intro a hm
  refine wpList_nil ?_
  replace hm : Fr 19 a [(0, p0_0), (1, p1_1), (4, .slice none 0 0)] := hm.keep [0, 1, 4]
  refine x_then_n ?_
  refine c_seq fun KJ_1 hKJ_1 => ?_
  refine wp_seq ?_
  refine wp_region_lit ?_
  refine s_assign hm rfl rfl ?_
  clear hm a; intro a hm
  refine wpList_nil ?_
  replace hm : Fr 19 a [(0, p0_0), (1, p1_1), (4, .slice none 0 0), (5, .int .i64 0)] := hm.keep [0, 1, 4, 5]
  refine x_then_n ?_
  have hJ_j_7 : ∀ (x_3 : List UInt8), hocketref11_nums.J1 K x_3 = some r → ∀ (a : Act) (w_6 : World), (∃ (v_4 : Value) (N_2 : Mem), Fr 19 a [(0, v_4), (4, .slice none 0 0)] ∧ Sep w0 w_6 [N_2] Z ∧ Mem.no.le N_2 ∧ Rd Kd.u8 (A.un N_2) v_4 x_3) → KJ_1 a w_6 := by
    clear H hm hS a
    rintro x_3 H a w_6 ⟨v_4, N_2, hm, hS, le_2, hr_5⟩
    unfold hocketref11_nums.J1 at H
    refine hKJ_1 _ _ ?_
    refine wp_seq ?_
    refine wp_region_lit ?_
    refine s_move hm rfl rfl ?_
    clear hm a; intro a hm
    refine s_assign hm rfl rfl ?_
    clear hm a; intro a hm
    refine wpList_nil ?_
    replace hm : Fr 19 a [(4, v_4)] := hm.keep [4]
    refine x_then_n ?_
    refine wp_ret ?_
    obtain rfl := Option.some.inj H
    exact f_ret hm (rs := [.tmp 4]) rfl (.tmp rfl .nil) ⟨_, rfl, v_4, N_2, rfl, (Sep.sel hS [0] (by decide)), hr_5⟩
  clear hKJ_1
  replace hS : Sep w0 w [Mem.no] Z := hS
  replace hm : Fr 19 a [(0, p0_0), (1, p1_1), (4, .slice none 0 0), (5, .int .i64 0)] := hm.keep [0, 1, 4, 5]
  refine c_block ?_
  refine c_loop (fun k_13 a w_13 => ∃ (x_9 : List UInt8) (x_12 : Int) (v_10 : Value) (N_8 : Mem), hocketref11_nums.L1 K x1 (fun v => hocketref11_nums.J1 K v) k_13 (x_9, x_12) = some r ∧ Fr 19 a [(0, v_10), (1, p1_1), (4, .slice none 0 0), (5, .int .i64 x_12)] ∧ Sep w0 w_13 [N_8] Z ∧ Mem.no.le N_8 ∧ Rd Kd.u8 (A.un N_8) v_10 x_9) K ⟨x0, 0, p0_0, Mem.no, H, hm, (Sep.sel hS [0] (by decide)), (Mem.le.refl _), (hp0_0.mono (Mem.le_un _ _))⟩ (fun a w h => by obtain ⟨_, _, _, _, H, _⟩ := h; cases (show (none : Option ((List UInt8))) = some r from H)) ?_
  clear hm hS a H
  rintro k_13 a w_13 KL_13 hKL_13 ⟨x_9, x_12, v_10, N_8, H, hm, hS, le_8, hr_11⟩
  replace H : hocketref11_nums.B1 K x1 (fun v => hocketref11_nums.J1 K v) (hocketref11_nums.L1 K x1 (fun v => hocketref11_nums.J1 K v) k_13) x_9 x_12 = some r := H
  unfold hocketref11_nums.B1 at H
  refine c_seq fun KJ_15 hKJ_15 => ?_
  refine wp_seq ?_
  refine wp_region_lit ?_
  refine s_move hm rfl rfl ?_
  clear hm a; intro a hm
  refine s_move hm rfl rfl ?_
  clear hm a; intro a hm
  refine s_len hm rfl Try.underlying22 rfl hp1_1 ?_
  clear hm a; intro a hm
  refine s_cmp (b := decide (x_12 < (x1.length : Int))) hm rfl rfl rfl (.inr (.inr (.inl ⟨rfl, rfl⟩))) ?_
  clear hm a; intro a hm
  refine wpList_nil ?_
  replace hm : Fr 19 a [(0, v_10), (1, p1_1), (4, .slice none 0 0), (5, .int .i64 x_12), (9, .bool (decide (x_12 < (x1.length : Int))))] := hm.keep [0, 1, 4, 5, 9]
  refine x_then_n ?_
  by_cases hc_16 : x_12 < (x1.length : Int)
  · rw [if_pos hc_16] at H
    refine c_cond_t hm rfl (decide_eq_true hc_16) ?_
    refine wp_skip ?_
    refine x_then_n (hKJ_15 _ _ ?_)
    refine wp_seq ?_
    refine c_block ?_
    refine wp_region_lit ?_
    refine s_move hm rfl rfl ?_
    clear hm a; intro a hm
    refine s_move hm rfl rfl ?_
    clear hm a; intro a hm
    refine s_move hm rfl rfl ?_
    clear hm a; intro a hm
    obtain ⟨t_17, et_17, H⟩ := Option.bind_eq_some_iff.1 H
    refine v_index hm rfl Try.underlying22 ti3 rfl rfl rfl hp1_1 (hA.trans hS.old) et_17 ?_
    intro ad_18 cs_19 hk_20 hc_21
    obtain rfl := (show cs_19 = [.int .i64 t_17] from hk_20)
    clear hm a; intro a hm
    refine s_load hm rfl rfl (el_one (o := 0) hc_21 Try.underlying3 rfl rfl) ?_
    clear hm a; intro a hm
    obtain ⟨t_22, et_22, H⟩ := Option.bind_eq_some_iff.1 H
    refine s_call hm rfl Try.call44 rfl (hocketref1_Num.calls K x_9 _ t_17 t_22 w0 _ _ _ (Mem.le.refl _) (hS.enter [] (by decide)) (hr_11.mono (Mem.un_le (hA.trans (hS.le_zed [])) ((Mem.le.refl _).trans (hS.new_zed [])))) et_22) ?_
    rintro v_26 w_23 ⟨_, N_24, M_28, rfl, hS', hr_27⟩
    clear hm a; intro a hm
    obtain ⟨N_25, hS'', le_25, ln_25⟩ := hS.call [] (by decide) rfl (l' := []) (ow := [M_28]) rfl hS'
    replace hS : Sep w0 w_23 [N_25, M_28] Z := hS''
    clear hS' hS''
    refine s_assign hm rfl rfl ?_
    clear hm a; intro a hm
    refine wpList_nil ?_
    replace hm : Fr 19 a [(0, v_26), (1, p1_1), (4, .slice none 0 0), (5, .int .i64 x_12)] := hm.keep [0, 1, 4, 5]
    refine x_block_n ?_
    refine x_then_n ?_
    refine wp_region_lit ?_
    refine s_move hm rfl rfl ?_
    clear hm a; intro a hm
    refine s_arith (r := w64 (x_12 + 1)) hm rfl rfl rfl (.inl ⟨rfl, rfl⟩) ?_
    clear hm a; intro a hm
    refine s_assign hm rfl rfl ?_
    clear hm a; intro a hm
    refine wpList_nil ?_
    replace hm : Fr 19 a [(0, v_26), (1, p1_1), (4, .slice none 0 0), (5, .int .i64 (w64 (x_12 + 1)))] := hm.keep [0, 1, 4, 5]
    refine x_then_n (hKL_13 _ _ ?_)
    obtain ⟨N_30, hS', le_30, lo_30⟩ := hS.freeze 0 rfl
    replace hS : Sep w0 w_23 [N_30, Mem.no] Z := hS'
    clear hS'
    replace hS : Sep w0 w_23 [N_30, Mem.no] Z := hS
    replace hm : Fr 19 a [(0, v_26), (1, p1_1), (4, .slice none 0 0), (5, .int .i64 (w64 (x_12 + 1)))] := hm.keep [0, 1, 4, 5]
    exact ⟨t_22, w64 (x_12 + 1), v_26, N_30, H, hm, (Sep.sel hS [0] (by decide)), (le_8.trans (le_25.trans le_30)), ((hr_27.rd lo_30 (Mem.no_le _)).mono ((Mem.le.refl _).trans (hS.sndA hA)))⟩
  · rw [if_neg hc_16] at H
    refine c_cond_f hm rfl (decide_eq_false hc_16) ?_
    refine wp_exit (x_then_x (x_then_x (x_block_t ?_)))
    replace hS : Sep w0 w_13 [N_8] Z := hS
    replace hm : Fr 19 a [(0, v_10), (4, .slice none 0 0)] := hm.keep [0, 4]
    exact x_then_n (hJ_j_7 x_9 H _ _ ⟨v_10, N_8, hm, (Sep.sel hS [0] (by decide)), le_8, hr_11⟩)

set_option maxHeartbeats 4000000 in
set_option maxRecDepth 20000 in
theorem hocketref11_held.calls (x0 : Int) (r : Int) (w0 w : World) (Z A : Mem) (hA : A.le Z) (hS : Sep w0 w [] Z)
    (H : hocketref11_held.f x0 = some r) :
    Calls Try.prog 34 [.int .i64 x0].toArray w (Ret fun v w' => ∃ (N : Mem), v = .int .i64 r ∧ Sep w0 w' [N] Z) := by
  unfold hocketref11_held.f at H
  refine f_enter _ Try.func34 rfl Try.ntmps34 rfl fun a hm => ?_
  replace hm : Fr 6 a [(0, .int .i64 x0)] := hm
  replace hS := hS.start
  replace hS : Sep w0 w [Mem.no] Z := hS
  refine wp_seq ?_
  refine wp_region_lit ?_
  refine s_assign hm rfl rfl ?_
  clear hm a; intro a hm
  refine wpList_nil ?_
  replace hm : Fr 6 a [(0, .int .i64 x0), (2, .int .i64 0)] := hm.keep [0, 2]
  refine x_then_n ?_
  refine wp_seq ?_
  refine wp_region_lit ?_
  refine s_move hm rfl rfl ?_
  clear hm a; intro a hm
  refine s_max hm rfl rfl rfl ?_
  clear hm a; intro a hm
  refine s_min hm rfl rfl rfl ?_
  clear hm a; intro a hm
  refine s_assign hm rfl rfl ?_
  clear hm a; intro a hm
  refine wpList_nil ?_
  replace hm : Fr 6 a [(2, .int .i64 (mn (mx x0 0) 1099511627776))] := hm.keep [2]
  refine x_then_n ?_
  refine wp_ret ?_
  obtain rfl := Option.some.inj H
  exact f_ret hm (rs := [.tmp 2]) rfl (.tmp rfl .nil) ⟨_, rfl, Mem.no, rfl, (Sep.sel hS [0] (by decide))⟩

set_option maxHeartbeats 4000000 in
set_option maxRecDepth 20000 in
theorem hocketref11_Slot.calls (K : Nat) (x0 : Int) (x1 : api_Record) (r : (List UInt8)) (w0 w : World) (Z A : Mem) (hA : A.le Z) (hS : Sep w0 w [] Z)
    (H : hocketref11_Slot.f K x0 x1 = some r) :
    Calls Try.prog 16 [.int .i64 x0, .agg [.int .i64 x1.Inc, .int .i64 x1.Prom, .int .i64 x1.Inst].toArray].toArray w (Ret fun v w' => ∃ (u0 : Value) (N : Mem) (M0 : Mem), v = u0 ∧ Sep w0 w' [N, M0] Z ∧ Own Kd.u8 5 M0 Mem.no u0 r) := by
  unfold hocketref11_Slot.f at H
  refine f_enter _ Try.func16 rfl Try.ntmps16 rfl fun a hm => ?_
  replace hm : Fr 19 a [(0, .int .i64 x0), (1, .agg [.int .i64 x1.Inc, .int .i64 x1.Prom, .int .i64 x1.Inst].toArray)] := hm
  replace hS := hS.start
  replace hS : Sep w0 w [Mem.no] Z := hS
  refine wp_seq ?_
  refine wp_region_lit ?_
  refine v_box (vs := [.int .i64 x1.Inc, .int .i64 x1.Prom, .int .i64 x1.Inst]) hm rfl rfl rfl hS ?_
  intro w_1 g_2 hS'
  clear hm a; intro a hm
  replace hS : Sep w0 w_1 [Mem.no, Mem.one g_2 (.cells ([.int .i64 x1.Inc, .int .i64 x1.Prom, .int .i64 x1.Inst] : List Value).toArray 28 (0, 0))] Z := hS'
  clear hS'
  refine s_assign hm rfl rfl ?_
  clear hm a; intro a hm
  refine wpList_nil ?_
  replace hm : Fr 19 a [(0, .int .i64 x0), (3, .pointer (some ⟨g_2, 0, none⟩)), (4, .slice none 0 0)] := hm.keep [0, 3, 4]
  refine x_then_n ?_
  refine c_seq fun KJ_3 hKJ_3 => ?_
  refine h_begin (S := fun w => Sep w0 w [Mem.no, Mem.one g_2 (.cells ([.int .i64 x1.Inc, .int .i64 x1.Prom, .int .i64 x1.Inst] : List Value).toArray 28 (0, 0))] Z) 15 (by kernel_rfl) rfl [false, false, false, false, false, false, false, false, false, false, false, false, false, false, false].toArray rfl hS fun w_4 hS => ?_
  replace hS : Sep w0 w_4 [Mem.no, Mem.one g_2 (.cells ([.int .i64 x1.Inc, .int .i64 x1.Prom, .int .i64 x1.Inst] : List Value).toArray 28 (0, 0))] Z := hS
  refine h_take 0 [true, false, false, false, false, false, false, false, false, false, false, false, false, false, false].toArray rfl (by kernel_rfl) (by kernel_rfl) (by kernel_rfl) (fun _ _ _ _ h => h) rfl rfl rfl rfl hm (hS.sub (.cons (Mem.le.refl _) (.cons (Mem.le.refl _) (Sub.nil _)))) (v := .int .i64 x0) (fun w hS => r_move hm rfl) ?_
  clear hm a; intro a hm
  refine h_take 2 [true, false, true, false, false, false, false, false, false, false, false, false, false, false, false].toArray rfl (by kernel_rfl) (by kernel_rfl) (by kernel_rfl) (fun _ _ _ _ h => h) rfl rfl rfl rfl hm (hS.sub (.cons (Mem.le.refl _) (.cons (Mem.le.refl _) (Sub.nil _)))) (v := .pointer (some ⟨g_2, 0, none⟩)) (fun w hS => r_fieldAddr hm Try.underlying28 rfl ti3 rfl rfl rfl) ?_
  clear hm a; intro a hm
  refine h_take 3 [true, false, true, true, false, false, false, false, false, false, false, false, false, false, false].toArray rfl (by kernel_rfl) (by kernel_rfl) (by kernel_rfl) (fun _ _ _ _ h => h) rfl rfl rfl rfl hm (hS.sub (.cons (Mem.le.refl _) (.cons (Mem.le.refl _) (Sub.nil _)))) (v := .int .i64 x1.Inc) (fun w hS => r_load hm rfl (hS.load_one (p := 1) rfl Try.underlying3 rfl rfl)) ?_
  clear hm a; intro a hm
  refine h_take 5 [true, false, true, true, false, true, false, false, false, false, false, false, false, false, false].toArray rfl (by kernel_rfl) (by kernel_rfl) (by kernel_rfl) (fun _ _ _ _ h => h) rfl rfl rfl rfl hm (hS.sub (.cons (Mem.le.refl _) (.cons (Mem.le.refl _) (Sub.nil _)))) (v := .pointer (some ⟨g_2, 1, none⟩)) (fun w hS => r_fieldAddr hm Try.underlying28 rfl ti3 rfl rfl rfl) ?_
  clear hm a; intro a hm
  refine h_take 6 [true, false, true, true, false, true, true, false, false, false, false, false, false, false, false].toArray rfl (by kernel_rfl) (by kernel_rfl) (by kernel_rfl) (fun _ _ _ _ h => h) rfl rfl rfl rfl hm (hS.sub (.cons (Mem.le.refl _) (.cons (Mem.le.refl _) (Sub.nil _)))) (v := .int .i64 x1.Prom) (fun w hS => r_load hm rfl (hS.load_one (p := 1) rfl Try.underlying3 rfl rfl)) ?_
  clear hm a; intro a hm
  refine h_take 8 [true, false, true, true, false, true, true, false, true, false, false, false, false, false, false].toArray rfl (by kernel_rfl) (by kernel_rfl) (by kernel_rfl) (fun _ _ _ _ h => h) rfl rfl rfl rfl hm (hS.sub (.cons (Mem.le.refl _) (.cons (Mem.le.refl _) (Sub.nil _)))) (v := .pointer (some ⟨g_2, 2, none⟩)) (fun w hS => r_fieldAddr hm Try.underlying28 rfl ti3 rfl rfl rfl) ?_
  clear hm a; intro a hm
  refine h_take 9 [true, false, true, true, false, true, true, false, true, true, false, false, false, false, false].toArray rfl (by kernel_rfl) (by kernel_rfl) (by kernel_rfl) (fun _ _ _ _ h => h) rfl rfl rfl rfl hm (hS.sub (.cons (Mem.le.refl _) (.cons (Mem.le.refl _) (Sub.nil _)))) (v := .int .i64 x1.Inst) (fun w hS => r_load hm rfl (hS.load_one (p := 1) rfl Try.underlying3 rfl rfl)) ?_
  clear hm a; intro a hm
  refine h_event 1 [true, true, true, true, false, true, true, false, true, true, false, false, false, false, false].toArray rfl (by kernel_rfl) rfl ?_
  obtain ⟨t_5, et_5, H⟩ := Option.bind_eq_some_iff.1 H
  refine s_call hm rfl Try.call34 rfl (hocketref11_held.calls x0 t_5 w0 _ _ _ (Mem.le.refl _) (hS.enter [] (by decide))  et_5) ?_
  rintro _ w_6 ⟨N_7, rfl, hS'⟩
  clear hm a; intro a hm
  obtain ⟨N_8, hS'', le_8, ln_8⟩ := hS.call [] (by decide) rfl (l' := []) (ow := []) rfl hS'
  replace hS : Sep w0 w_6 [N_8, Mem.one g_2 (.cells ([.int .i64 x1.Inc, .int .i64 x1.Prom, .int .i64 x1.Inst] : List Value).toArray 28 (0, 0))] Z := hS''
  clear hS' hS''
  refine wpList_nil ?_
  refine x_then_n ⟨(hS.sub (.cons le_8 (.cons (Mem.le.refl _) (Sub.nil _)))), ?_⟩
  refine h_event 4 [true, true, true, true, true, true, true, false, true, true, false, false, false, false, false].toArray rfl (by kernel_rfl) rfl ?_
  obtain ⟨t_9, et_9, H⟩ := Option.bind_eq_some_iff.1 H
  refine s_call hm rfl Try.call34 rfl (hocketref11_held.calls x1.Inc t_9 w0 _ _ _ (Mem.le.refl _) (hS.enter [] (by decide))  et_9) ?_
  rintro _ w_10 ⟨N_11, rfl, hS'⟩
  clear hm a; intro a hm
  obtain ⟨N_12, hS'', le_12, ln_12⟩ := hS.call [] (by decide) rfl (l' := []) (ow := []) rfl hS'
  replace hS : Sep w0 w_10 [N_12, Mem.one g_2 (.cells ([.int .i64 x1.Inc, .int .i64 x1.Prom, .int .i64 x1.Inst] : List Value).toArray 28 (0, 0))] Z := hS''
  clear hS' hS''
  refine wpList_nil ?_
  refine x_then_n ⟨(hS.sub (.cons (le_8.trans le_12) (.cons (Mem.le.refl _) (Sub.nil _)))), ?_⟩
  refine h_event 7 [true, true, true, true, true, true, true, true, true, true, false, false, false, false, false].toArray rfl (by kernel_rfl) rfl ?_
  obtain ⟨t_13, et_13, H⟩ := Option.bind_eq_some_iff.1 H
  refine s_call hm rfl Try.call34 rfl (hocketref11_held.calls x1.Prom t_13 w0 _ _ _ (Mem.le.refl _) (hS.enter [] (by decide))  et_13) ?_
  rintro _ w_14 ⟨N_15, rfl, hS'⟩
  clear hm a; intro a hm
  obtain ⟨N_16, hS'', le_16, ln_16⟩ := hS.call [] (by decide) rfl (l' := []) (ow := []) rfl hS'
  replace hS : Sep w0 w_14 [N_16, Mem.one g_2 (.cells ([.int .i64 x1.Inc, .int .i64 x1.Prom, .int .i64 x1.Inst] : List Value).toArray 28 (0, 0))] Z := hS''
  clear hS' hS''
  refine wpList_nil ?_
  refine x_then_n ⟨(hS.sub (.cons (le_8.trans (le_12.trans le_16)) (.cons (Mem.le.refl _) (Sub.nil _)))), ?_⟩
  refine h_event 10 [true, true, true, true, true, true, true, true, true, true, true, false, false, false, false].toArray rfl (by kernel_rfl) rfl ?_
  obtain ⟨t_17, et_17, H⟩ := Option.bind_eq_some_iff.1 H
  refine s_call hm rfl Try.call34 rfl (hocketref11_held.calls x1.Inst t_17 w0 _ _ _ (Mem.le.refl _) (hS.enter [] (by decide))  et_17) ?_
  rintro _ w_18 ⟨N_19, rfl, hS'⟩
  clear hm a; intro a hm
  obtain ⟨N_20, hS'', le_20, ln_20⟩ := hS.call [] (by decide) rfl (l' := []) (ow := []) rfl hS'
  replace hS : Sep w0 w_18 [N_20, Mem.one g_2 (.cells ([.int .i64 x1.Inc, .int .i64 x1.Prom, .int .i64 x1.Inst] : List Value).toArray 28 (0, 0))] Z := hS''
  clear hS' hS''
  refine wpList_nil ?_
  refine x_then_n ⟨(hS.sub (.cons (le_8.trans (le_12.trans (le_16.trans le_20))) (.cons (Mem.le.refl _) (Sub.nil _)))), ?_⟩
  refine h_event 11 [true, true, true, true, true, true, true, true, true, true, true, true, false, false, false].toArray rfl (by kernel_rfl) rfl ?_
  have hq_25 : Reps (Kd.int .i64) Mem.no ([t_5, t_9, t_13, t_17] : List Int) _ := ((Reps.one (d := (Kd.int .i64)) (x := t_5) (show (Kd.int .i64).K _ _ [.int .i64 t_5] from rfl)).append ((Reps.one (d := (Kd.int .i64)) (x := t_9) (show (Kd.int .i64).K _ _ [.int .i64 t_9] from rfl)).append ((Reps.one (d := (Kd.int .i64)) (x := t_13) (show (Kd.int .i64).K _ _ [.int .i64 t_13] from rfl)).append ((Reps.one (d := (Kd.int .i64)) (x := t_17) (show (Kd.int .i64).K _ _ [.int .i64 t_17] from rfl)).append (Reps.nil (Kd.int .i64) _)))))
  refine s_buildSlice hm rfl Try.underlying22 ti3 rfl rfl rfl (.cons rfl (.cons rfl (.cons rfl (.cons rfl .nil)))) rfl rfl rfl hS hq_25 rfl ?_
  intro w_21 v_22 M_23 hS' ho_24
  clear hm a; intro a hm
  replace hS : Sep w0 w_21 [N_20, Mem.one g_2 (.cells ([.int .i64 x1.Inc, .int .i64 x1.Prom, .int .i64 x1.Inst] : List Value).toArray 28 (0, 0)), M_23] Z := hS'
  clear hS' hq_25
  refine wpList_nil ?_
  refine x_then_n ⟨(hS.sub (.cons (le_8.trans (le_12.trans (le_16.trans le_20))) (.cons (Mem.le.refl _) (Sub.nil _)))), ?_⟩
  refine h_event 12 [true, true, true, true, true, true, true, true, true, true, true, true, true, false, false].toArray rfl (by kernel_rfl) rfl ?_
  obtain ⟨N_27, hS', le_27, lo_27⟩ := hS.freeze 1 rfl
  replace hS : Sep w0 w_21 [N_27, Mem.one g_2 (.cells ([.int .i64 x1.Inc, .int .i64 x1.Prom, .int .i64 x1.Inst] : List Value).toArray 28 (0, 0)), Mem.no] Z := hS'
  clear hS'
  obtain ⟨t_28, et_28, H⟩ := Option.bind_eq_some_iff.1 H
  refine s_call hm rfl Try.call33 rfl (hocketref11_nums.calls K ([] : List UInt8) _ ([t_5, t_9, t_13, t_17] : List Int) _ t_28 w0 _ _ N_27 (hS.new_zed []) (hS.enter [] (by decide)) (Rd.nil _ _) (ho_24.rd lo_27 (Mem.no_le _)) et_28) ?_
  rintro v_32 w_29 ⟨_, N_30, rfl, hS', hr_33⟩
  clear hm a; intro a hm
  obtain ⟨N_31, hS'', le_31, ln_31⟩ := hS.call [] (by decide) rfl (l' := []) (ow := []) rfl hS'
  replace hS : Sep w0 w_29 [N_31, Mem.one g_2 (.cells ([.int .i64 x1.Inc, .int .i64 x1.Prom, .int .i64 x1.Inst] : List Value).toArray 28 (0, 0)), Mem.no] Z := hS''
  clear hS' hS''
  refine wpList_nil ?_
  refine x_then_n ⟨(hS.sub (.cons (le_8.trans (le_12.trans (le_16.trans (le_20.trans (le_27.trans le_31))))) (.cons (Mem.le.refl _) (Sub.nil _)))), ?_⟩
  refine h_event 13 [true, true, true, true, true, true, true, true, true, true, true, true, true, true, false].toArray rfl (by kernel_rfl) rfl ?_
  obtain ⟨t_34, et_34, H⟩ := Option.bind_eq_some_iff.1 H
  refine s_call hm rfl Try.call32 rfl (hocketref1_Four.calls K t_28 _ t_34 w0 _ _ _ (Mem.le.refl _) (hS.enter [] (by decide)) ((hr_33.mono (Mem.un_le le_31 ln_31)).mono ((Mem.le.refl _).trans (hS.new_zed []))) et_34) ?_
  rintro v_38 w_35 ⟨_, N_36, M_40, rfl, hS', hr_39⟩
  clear hm a; intro a hm
  obtain ⟨N_37, hS'', le_37, ln_37⟩ := hS.call [] (by decide) rfl (l' := []) (ow := [M_40]) rfl hS'
  replace hS : Sep w0 w_35 [N_37, Mem.one g_2 (.cells ([.int .i64 x1.Inc, .int .i64 x1.Prom, .int .i64 x1.Inst] : List Value).toArray 28 (0, 0)), Mem.no, M_40] Z := hS''
  clear hS' hS''
  refine wpList_nil ?_
  refine x_then_n ⟨(hS.sub (.cons (le_8.trans (le_12.trans (le_16.trans (le_20.trans (le_27.trans (le_31.trans le_37)))))) (.cons (Mem.le.refl _) (Sub.nil _)))), ?_⟩
  refine h_take 14 [true, true, true, true, true, true, true, true, true, true, true, true, true, true, true].toArray rfl (by kernel_rfl) (by kernel_rfl) (by kernel_rfl) (fun _ _ _ _ h => h) rfl rfl rfl rfl hm (hS.sub (.cons (le_8.trans (le_12.trans (le_16.trans (le_20.trans (le_27.trans (le_31.trans le_37)))))) (.cons (Mem.le.refl _) (Sub.nil _)))) (v := v_38) (fun w hS => r_assign hm rfl) ?_
  clear hm a; intro a hm
  refine h_done (by kernel_rfl) ?_
  replace hm : Fr 19 a [(4, v_38)] := hm.keep [4]
  refine x_then_n (hKJ_3 _ _ ?_)
  refine wp_ret ?_
  obtain rfl := Option.some.inj H
  exact f_ret hm (rs := [.tmp 4]) rfl (.tmp rfl .nil) ⟨_, rfl, v_38, N_37, M_40, rfl, (Sep.sel hS [0, 3] (by decide)), hr_39⟩


end Go.Proofs
