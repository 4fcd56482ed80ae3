/- What the calls do: each function once. -/
import Derived.Test.YtabedbggldnkhaaGathReadyc0
namespace Go.Proofs
open Go.Gp
set_option linter.unusedVariables false
set_option maxHeartbeats 4000000 in
set_option maxRecDepth 20000 in
theorem hocketref11_Members.calls (K : Nat) (x0 : Int) (r : (List Int)) (w0 w : World) (Z A : Mem) (hA : A.le Z) (hS : Sep w0 w [] Z)
    (H : hocketref11_Members.f K x0 = some r) :
    Calls Try.prog 26 [.int .i64 x0].toArray w (Ret fun v w' => ∃ (u0 : Value) (N : Mem) (M0 : Mem), v = u0 ∧ Sep w0 w' [N, M0] Z ∧ Own (Kd.int .i64) 3 M0 Mem.no u0 r) := by
  unfold hocketref11_Members.f at H
  refine f_enter _ Try.func26 rfl Try.ntmps26 rfl fun a hm => ?_
  replace hm : Fr 20 a [(0, .int .i64 x0)] := hm
  replace hS := hS.start
  replace hS : Sep w0 w [Mem.no] Z := hS
  refine wp_seq ?_
  refine wp_region_lit ?_
  refine s_assign hm rfl rfl ?_
  clear hm a; intro a hm
  refine wpList_nil ?_
  replace hm : Fr 20 a [(0, .int .i64 x0), (2, .slice none 0 0)] := hm.keep [0, 2]
  refine x_then_n ?_
  refine wp_seq ?_
  refine wp_region_lit ?_
  refine s_assign hm rfl rfl ?_
  clear hm a; intro a hm
  refine wpList_nil ?_
  replace hm : Fr 20 a [(0, .int .i64 x0), (2, .slice none 0 0), (3, .slice none 0 0)] := hm.keep [0, 2, 3]
  refine x_then_n ?_
  refine c_seq fun KJ_1 hKJ_1 => ?_
  refine wp_seq ?_
  refine wp_region_lit ?_
  refine s_assign hm rfl rfl ?_
  clear hm a; intro a hm
  refine wpList_nil ?_
  replace hm : Fr 20 a [(0, .int .i64 x0), (2, .slice none 0 0), (3, .slice none 0 0), (4, .int .i64 0)] := hm.keep [0, 2, 3, 4]
  refine x_then_n ?_
  have hJ_j_9 : ∀ (x_3 : List Int), hocketref11_Members.J1 K x_3 = some r → ∀ (a : Act) (w_8 : World), (∃ (v_6 : Value) (N_2 : Mem) (M_4 : Mem), Fr 20 a [(2, .slice none 0 0), (3, v_6)] ∧ Sep w0 w_8 [N_2, M_4] Z ∧ Mem.no.le N_2 ∧ Own (Kd.int .i64) 3 M_4 Mem.no v_6 x_3) → KJ_1 a w_8 := by
    clear H hm hS a
    rintro x_3 H a w_8 ⟨v_6, N_2, M_4, hm, hS, le_2, ho_7⟩
    unfold hocketref11_Members.J1 at H
    refine hKJ_1 _ _ ?_
    refine wp_seq ?_
    refine wp_region_lit ?_
    refine s_move hm rfl rfl ?_
    clear hm a; intro a hm
    refine s_assign hm rfl rfl ?_
    clear hm a; intro a hm
    refine wpList_nil ?_
    replace hm : Fr 20 a [(2, v_6)] := hm.keep [2]
    refine x_then_n ?_
    refine wp_ret ?_
    obtain rfl := Option.some.inj H
    exact f_ret hm (rs := [.tmp 2]) rfl (.tmp rfl .nil) ⟨_, rfl, v_6, N_2, M_4, rfl, (Sep.sel hS [0, 1] (by decide)), ho_7⟩
  clear hKJ_1
  have hS' := hS.room
  replace hS : Sep w0 w [Mem.no, Mem.no] Z := hS'
  clear hS'
  replace hS : Sep w0 w [Mem.no, Mem.no] Z := hS
  replace hm : Fr 20 a [(0, .int .i64 x0), (2, .slice none 0 0), (3, .slice none 0 0), (4, .int .i64 0)] := hm.keep [0, 2, 3, 4]
  refine c_block ?_
  refine c_loop (fun k_17 a w_17 => ∃ (x_11 : List Int) (x_16 : Int) (v_14 : Value) (N_10 : Mem) (M_12 : Mem), hocketref11_Members.L1 K x0 (fun v => hocketref11_Members.J1 K v) k_17 (x_11, x_16) = some r ∧ Fr 20 a [(0, .int .i64 x0), (2, .slice none 0 0), (3, v_14), (4, .int .i64 x_16)] ∧ Sep w0 w_17 [N_10, M_12] Z ∧ Mem.no.le N_10 ∧ Own (Kd.int .i64) 3 M_12 Mem.no v_14 x_11) K ⟨([] : List Int), 0, .slice none 0 0, Mem.no, Mem.no, H, hm, (Sep.sel hS [0, 1] (by decide)), (Mem.le.refl _), (Own.nil (Kd.int .i64) 3 Mem.no)⟩ (fun a w h => by obtain ⟨_, _, _, _, _, H, _⟩ := h; cases (show (none : Option ((List Int))) = some r from H)) ?_
  clear hm hS a H
  rintro k_17 a w_17 KL_17 hKL_17 ⟨x_11, x_16, v_14, N_10, M_12, H, hm, hS, le_10, ho_15⟩
  replace H : hocketref11_Members.B1 K x0 (fun v => hocketref11_Members.J1 K v) (hocketref11_Members.L1 K x0 (fun v => hocketref11_Members.J1 K v) k_17) x_11 x_16 = some r := H
  unfold hocketref11_Members.B1 at H
  refine c_seq fun KJ_20 hKJ_20 => ?_
  refine wp_seq ?_
  refine wp_region_lit ?_
  refine s_move hm rfl rfl ?_
  clear hm a; intro a hm
  refine s_cmp (b := decide (x_16 < 7)) hm rfl rfl rfl (.inr (.inr (.inl ⟨rfl, rfl⟩))) ?_
  clear hm a; intro a hm
  refine wpList_nil ?_
  replace hm : Fr 20 a [(0, .int .i64 x0), (2, .slice none 0 0), (3, v_14), (4, .int .i64 x_16), (6, .bool (decide (x_16 < 7)))] := hm.keep [0, 2, 3, 4, 6]
  refine x_then_n ?_
  by_cases hc_21 : x_16 < 7
  · rw [if_pos hc_21] at H
    refine c_cond_t hm rfl (decide_eq_true hc_21) ?_
    refine wp_skip ?_
    refine x_then_n (hKJ_20 _ _ ?_)
    refine c_seq fun KJ_22 hKJ_22 => ?_
    refine c_block ?_
    refine wp_seq ?_
    refine wp_region_lit ?_
    refine s_move hm rfl rfl ?_
    clear hm a; intro a hm
    refine s_move hm rfl rfl ?_
    clear hm a; intro a hm
    refine s_conv (wu64 x_16) hm rfl Try.underlying3 Try.underlying38 rfl rfl ?_
    clear hm a; intro a hm
    refine s_shift (r := shr .i64 x0 (wu64 x_16)) hm rfl rfl rfl (wu64_nn _) (.inr ⟨rfl, rfl⟩) ?_
    clear hm a; intro a hm
    refine s_bits (i := shr .i64 x0 (wu64 x_16)) (j := 1) (r := band .i64 (shr .i64 x0 (wu64 x_16)) 1) hm rfl rfl rfl (.inl ⟨rfl, rfl⟩) ?_
    clear hm a; intro a hm
    refine s_cmp (b := ((band .i64 (shr .i64 x0 (wu64 x_16)) 1) == 1)) hm rfl rfl rfl (.inl ⟨rfl, rfl⟩) ?_
    clear hm a; intro a hm
    refine wpList_nil ?_
    replace hm : Fr 20 a [(0, .int .i64 x0), (2, .slice none 0 0), (3, v_14), (4, .int .i64 x_16), (14, .bool ((band .i64 (shr .i64 x0 (wu64 x_16)) 1) == 1))] := hm.keep [0, 2, 3, 4, 14]
    refine x_then_n ?_
    by_cases hc_23 : (band .i64 (shr .i64 x0 (wu64 x_16)) 1) = 1
    · rw [if_pos hc_23] at H
      refine c_cond_t hm rfl (beq_iff_eq.2 hc_23) ?_
      refine wp_region_lit ?_
      refine s_move hm rfl rfl ?_
      clear hm a; intro a hm
      refine s_move hm rfl rfl ?_
      clear hm a; intro a hm
      have hq_28 : Reps (Kd.int .i64) Mem.no ([x_16] : List Int) _ := ((Reps.one (d := (Kd.int .i64)) (x := x_16) (show (Kd.int .i64).K _ _ [.int .i64 x_16] from rfl)).append (Reps.nil (Kd.int .i64) _))
      refine s_buildSlice hm rfl Try.underlying23 ti3 rfl rfl rfl (.cons rfl .nil) rfl rfl rfl hS hq_28 rfl ?_
      intro w_24 v_25 M_26 hS' ho_27
      clear hm a; intro a hm
      replace hS : Sep w0 w_24 [N_10, M_12, M_26] Z := hS'
      clear hS' hq_28
      obtain ⟨t_30, et_30, H⟩ := Option.bind_eq_some_iff.1 H
      refine s_append (J := Mem.no) (I' := Mem.no) (p := 1) 17592186044416 hm rfl rfl rfl Try.underlying23 ti3 rfl rfl rfl rfl hS rfl ho_15 (Src.flat (flat_int .i64) (ho_27.src (hS.own 2))) (Mem.le.refl _) (Mem.le.refl _) et_30 ?_
      intro w_31 v_32 M_33 hS' ho_34
      clear hm a; intro a hm
      replace hS : Sep w0 w_31 [N_10, M_33, M_26] Z := hS'
      clear hS'
      refine s_assign hm rfl rfl ?_
      clear hm a; intro a hm
      refine wpList_nil ?_
      replace hm : Fr 20 a [(0, .int .i64 x0), (2, .slice none 0 0), (3, v_32), (4, .int .i64 x_16)] := hm.keep [0, 2, 3, 4]
      refine x_block_n ?_
      refine x_then_n (hKJ_22 _ _ ?_)
      refine wp_region_lit ?_
      refine s_move hm rfl rfl ?_
      clear hm a; intro a hm
      refine s_arith (r := w64 (x_16 + 1)) hm rfl rfl rfl (.inl ⟨rfl, rfl⟩) ?_
      clear hm a; intro a hm
      refine s_assign hm rfl rfl ?_
      clear hm a; intro a hm
      refine wpList_nil ?_
      replace hm : Fr 20 a [(0, .int .i64 x0), (2, .slice none 0 0), (3, v_32), (4, .int .i64 (w64 (x_16 + 1)))] := hm.keep [0, 2, 3, 4]
      refine x_then_n (hKL_17 _ _ ?_)
      replace hS : Sep w0 w_31 [N_10, M_33, M_26] Z := hS
      replace hm : Fr 20 a [(0, .int .i64 x0), (2, .slice none 0 0), (3, v_32), (4, .int .i64 (w64 (x_16 + 1)))] := hm.keep [0, 2, 3, 4]
      exact ⟨t_30, w64 (x_16 + 1), v_32, N_10, M_33, H, hm, (Sep.sel hS [0, 1] (by decide)), le_10, ho_34⟩
    · rw [if_neg hc_23] at H
      refine c_cond_f hm rfl (beq_eq_false_iff_ne.2 hc_23) ?_
      refine wp_skip ?_
      refine x_block_n ?_
      refine x_then_n (hKJ_22 _ _ ?_)
      refine wp_region_lit ?_
      refine s_move hm rfl rfl ?_
      clear hm a; intro a hm
      refine s_arith (r := w64 (x_16 + 1)) hm rfl rfl rfl (.inl ⟨rfl, rfl⟩) ?_
      clear hm a; intro a hm
      refine s_assign hm rfl rfl ?_
      clear hm a; intro a hm
      refine wpList_nil ?_
      replace hm : Fr 20 a [(0, .int .i64 x0), (2, .slice none 0 0), (3, v_14), (4, .int .i64 (w64 (x_16 + 1)))] := hm.keep [0, 2, 3, 4]
      refine x_then_n (hKL_17 _ _ ?_)
      replace hS : Sep w0 w_17 [N_10, M_12] Z := hS
      replace hm : Fr 20 a [(0, .int .i64 x0), (2, .slice none 0 0), (3, v_14), (4, .int .i64 (w64 (x_16 + 1)))] := hm.keep [0, 2, 3, 4]
      exact ⟨x_11, w64 (x_16 + 1), v_14, N_10, M_12, H, hm, (Sep.sel hS [0, 1] (by decide)), le_10, ho_15⟩
  · rw [if_neg hc_21] at H
    refine c_cond_f hm rfl (decide_eq_false hc_21) ?_
    refine wp_exit (x_then_x (x_then_x (x_block_t ?_)))
    replace hS : Sep w0 w_17 [N_10, M_12] Z := hS
    replace hm : Fr 20 a [(2, .slice none 0 0), (3, v_14)] := hm.keep [2, 3]
    exact x_then_n (hJ_j_9 x_11 H _ _ ⟨v_14, N_10, M_12, hm, (Sep.sel hS [0, 1] (by decide)), le_10, ho_15⟩)

set_option maxHeartbeats 4000000 in
set_option maxRecDepth 20000 in
theorem slices_Index_sint_int.calls (K : Nat) (x0 : List Int) (p0_0 : Value) (x1 : Int) (r : Int) (w0 w : World) (Z A : Mem) (hA : A.le Z) (hS : Sep w0 w [] Z) (hp0_0 : Rd (Kd.int .i64) A p0_0 x0)
    (H : slices_Index_sint_int.f K x0 x1 = some r) :
    Calls Try.prog 73 [p0_0, .int .i64 x1].toArray w (Ret fun v w' => ∃ (N : Mem), v = .int .i64 r ∧ Sep w0 w' [N] Z) := by
  unfold slices_Index_sint_int.f at H
  refine f_enter _ Try.func73 rfl Try.ntmps73 rfl fun a hm => ?_
  replace hm : Fr 19 a [(0, p0_0), (1, .int .i64 x1)] := hm
  replace hS := hS.start
  replace hS : Sep w0 w [Mem.no] Z := hS
  refine wp_seq ?_
  refine wp_region_lit ?_
  refine s_assign hm rfl rfl ?_
  clear hm a; intro a hm
  refine wpList_nil ?_
  replace hm : Fr 19 a [(0, p0_0), (1, .int .i64 x1), (4, .int .i64 0)] := hm.keep [0, 1, 4]
  refine x_then_n ?_
  refine c_seq fun KJ_1 hKJ_1 => ?_
  refine wp_seq ?_
  refine wp_region_lit ?_
  refine s_move hm rfl rfl ?_
  clear hm a; intro a hm
  refine s_len hm rfl Try.underlying23 rfl hp0_0 ?_
  clear hm a; intro a hm
  refine s_move hm rfl rfl ?_
  clear hm a; intro a hm
  refine wpList_nil ?_
  replace hm : Fr 19 a [(0, p0_0), (1, .int .i64 x1), (4, .int .i64 0), (7, .int .i64 (x0.length : Int)), (8, .int .i64 0)] := hm.keep [0, 1, 4, 7, 8]
  refine x_then_n ?_
  have hJ_j_4 : slices_Index_sint_int.J1 K = some r → ∀ (a : Act) (w_3 : World), (∃ (N_2 : Mem), Fr 19 a [(4, .int .i64 0)] ∧ Sep w0 w_3 [N_2] Z ∧ Mem.no.le N_2) → KJ_1 a w_3 := by
    clear H hm hS a
    rintro H a w_3 ⟨N_2, hm, hS, le_2⟩
    unfold slices_Index_sint_int.J1 at H
    refine hKJ_1 _ _ ?_
    refine wp_seq ?_
    refine wp_region_lit ?_
    refine s_assign hm rfl rfl ?_
    clear hm a; intro a hm
    refine wpList_nil ?_
    replace hm : Fr 19 a [(4, .int .i64 (-1))] := hm.keep [4]
    refine x_then_n ?_
    refine wp_ret ?_
    obtain rfl := Option.some.inj H
    exact f_ret hm (rs := [.tmp 4]) rfl (.tmp rfl .nil) ⟨_, rfl, N_2, rfl, (Sep.sel hS [0] (by decide))⟩
  clear hKJ_1
  replace hS : Sep w0 w [Mem.no] Z := hS
  replace hm : Fr 19 a [(0, p0_0), (1, .int .i64 x1), (4, .int .i64 0), (7, .int .i64 (x0.length : Int)), (8, .int .i64 0)] := hm.keep [0, 1, 4, 7, 8]
  refine c_block ?_
  refine c_loop (fun k_7 a w_7 => ∃ (x_6 : Int) (N_5 : Mem), slices_Index_sint_int.L1 K x0 x1 (fun v => slices_Index_sint_int.J1 K) k_7 x_6 = some r ∧ Fr 19 a [(0, p0_0), (1, .int .i64 x1), (4, .int .i64 0), (7, .int .i64 (x0.length : Int)), (8, .int .i64 x_6)] ∧ Sep w0 w_7 [N_5] Z ∧ Mem.no.le N_5) K ⟨0, Mem.no, H, hm, (Sep.sel hS [0] (by decide)), (Mem.le.refl _)⟩ (fun a w h => by obtain ⟨_, _, H, _⟩ := h; cases (show (none : Option (Int)) = some r from H)) ?_
  clear hm hS a H
  rintro k_7 a w_7 KL_7 hKL_7 ⟨x_6, N_5, H, hm, hS, le_5⟩
  replace H : slices_Index_sint_int.B1 K x0 x1 (fun v => slices_Index_sint_int.J1 K) (slices_Index_sint_int.L1 K x0 x1 (fun v => slices_Index_sint_int.J1 K) k_7) x_6 = some r := H
  unfold slices_Index_sint_int.B1 at H
  refine wp_seq ?_
  refine wp_region_lit ?_
  refine s_cmp (b := decide (x_6 < (x0.length : Int))) hm rfl rfl rfl (.inr (.inr (.inl ⟨rfl, rfl⟩))) ?_
  clear hm a; intro a hm
  refine wpList_nil ?_
  replace hm : Fr 19 a [(0, p0_0), (1, .int .i64 x1), (4, .int .i64 0), (7, .int .i64 (x0.length : Int)), (8, .int .i64 x_6), (9, .bool (decide (x_6 < (x0.length : Int))))] := hm.keep [0, 1, 4, 7, 8, 9]
  refine x_then_n ?_
  refine c_seq fun KJ_9 hKJ_9 => ?_
  by_cases hc_10 : x_6 < (x0.length : Int)
  · rw [if_pos hc_10] at H
    refine c_cond_t hm rfl (decide_eq_true hc_10) ?_
    refine wp_skip ?_
    refine x_then_n (hKJ_9 _ _ ?_)
    refine c_seq fun KJ_11 hKJ_11 => ?_
    refine c_block ?_
    refine wp_seq ?_
    refine wp_region_lit ?_
    refine s_move hm rfl rfl ?_
    clear hm a; intro a hm
    refine s_assign hm rfl rfl ?_
    clear hm a; intro a hm
    refine wpList_nil ?_
    replace hm : Fr 19 a [(0, p0_0), (1, .int .i64 x1), (4, .int .i64 0), (5, .int .i64 x_6), (7, .int .i64 (x0.length : Int)), (8, .int .i64 x_6)] := hm.keep [0, 1, 4, 5, 7, 8]
    refine x_then_n ?_
    refine wp_seq ?_
    refine wp_region_lit ?_
    refine s_move hm rfl rfl ?_
    clear hm a; intro a hm
    refine s_move hm rfl rfl ?_
    clear hm a; intro a hm
    refine s_move hm rfl rfl ?_
    clear hm a; intro a hm
    obtain ⟨t_12, et_12, H⟩ := Option.bind_eq_some_iff.1 H
    refine v_index hm rfl Try.underlying23 ti3 rfl rfl rfl hp0_0 (hA.trans hS.old) et_12 ?_
    intro ad_13 cs_14 hk_15 hc_16
    obtain rfl := (show cs_14 = [.int .i64 t_12] from hk_15)
    clear hm a; intro a hm
    refine s_load hm rfl rfl (el_one (o := 0) hc_16 Try.underlying3 rfl rfl) ?_
    clear hm a; intro a hm
    refine s_cmp (b := (x1 == t_12)) hm rfl rfl rfl (.inl ⟨rfl, rfl⟩) ?_
    clear hm a; intro a hm
    refine wpList_nil ?_
    replace hm : Fr 19 a [(0, p0_0), (1, .int .i64 x1), (4, .int .i64 0), (5, .int .i64 x_6), (7, .int .i64 (x0.length : Int)), (8, .int .i64 x_6), (16, .bool (x1 == t_12))] := hm.keep [0, 1, 4, 5, 7, 8, 16]
    refine x_then_n ?_
    by_cases hc_17 : x1 = t_12
    · rw [if_pos hc_17] at H
      refine c_cond_t hm rfl (beq_iff_eq.2 hc_17) ?_
      refine wp_seq ?_
      refine wp_region_lit ?_
      refine s_move hm rfl rfl ?_
      clear hm a; intro a hm
      refine s_assign hm rfl rfl ?_
      clear hm a; intro a hm
      refine wpList_nil ?_
      replace hm : Fr 19 a [(0, p0_0), (1, .int .i64 x1), (4, .int .i64 x_6), (7, .int .i64 (x0.length : Int)), (8, .int .i64 x_6)] := hm.keep [0, 1, 4, 7, 8]
      refine x_then_n ?_
      refine wp_ret (x_block_r (x_then_r (x_then_r (x_block_r (x_then_r ?_)))))
      obtain rfl := Option.some.inj H
      exact f_ret hm (rs := [.tmp 4]) rfl (.tmp rfl .nil) ⟨_, rfl, N_5, rfl, (Sep.sel hS [0] (by decide))⟩
    · rw [if_neg hc_17] at H
      refine c_cond_f hm rfl (beq_eq_false_iff_ne.2 hc_17) ?_
      refine wp_skip ?_
      refine x_block_n ?_
      refine x_then_n (hKJ_11 _ _ ?_)
      refine wp_region_lit ?_
      refine s_arith (r := w64 (x_6 + 1)) hm rfl rfl rfl (.inl ⟨rfl, rfl⟩) ?_
      clear hm a; intro a hm
      refine s_move hm rfl rfl ?_
      clear hm a; intro a hm
      refine wpList_nil ?_
      replace hm : Fr 19 a [(0, p0_0), (1, .int .i64 x1), (4, .int .i64 0), (7, .int .i64 (x0.length : Int)), (8, .int .i64 (w64 (x_6 + 1)))] := hm.keep [0, 1, 4, 7, 8]
      refine x_then_n (hKL_7 _ _ ?_)
      replace hS : Sep w0 w_7 [N_5] Z := hS
      replace hm : Fr 19 a [(0, p0_0), (1, .int .i64 x1), (4, .int .i64 0), (7, .int .i64 (x0.length : Int)), (8, .int .i64 (w64 (x_6 + 1)))] := hm.keep [0, 1, 4, 7, 8]
      exact ⟨w64 (x_6 + 1), N_5, H, hm, (Sep.sel hS [0] (by decide)), le_5⟩
  · rw [if_neg hc_10] at H
    refine c_cond_f hm rfl (decide_eq_false hc_10) ?_
    refine wp_exit (x_then_x (x_then_x (x_block_t ?_)))
    replace hS : Sep w0 w_7 [N_5] Z := hS
    replace hm : Fr 19 a [(4, .int .i64 0)] := hm.keep [4]
    exact x_then_n (hJ_j_4  H _ _ ⟨N_5, hm, (Sep.sel hS [0] (by decide)), le_5⟩)

set_option maxHeartbeats 4000000 in
set_option maxRecDepth 20000 in
theorem slices_Contains_sint_int.calls (K : Nat) (x0 : List Int) (p0_0 : Value) (x1 : Int) (r : Bool) (w0 w : World) (Z A : Mem) (hA : A.le Z) (hS : Sep w0 w [] Z) (hp0_0 : Rd (Kd.int .i64) A p0_0 x0)
    (H : slices_Contains_sint_int.f K x0 x1 = some r) :
    Calls Try.prog 63 [p0_0, .int .i64 x1].toArray w (Ret fun v w' => ∃ (N : Mem), v = .bool r ∧ Sep w0 w' [N] Z) := by
  unfold slices_Contains_sint_int.f at H
  refine f_enter _ Try.func63 rfl Try.ntmps63 rfl fun a hm => ?_
  replace hm : Fr 9 a [(0, p0_0), (1, .int .i64 x1)] := hm
  replace hS := hS.start
  replace hS : Sep w0 w [Mem.no] Z := hS
  refine wp_seq ?_
  refine wp_region_lit ?_
  refine s_assign hm rfl rfl ?_
  clear hm a; intro a hm
  refine wpList_nil ?_
  replace hm : Fr 9 a [(0, p0_0), (1, .int .i64 x1), (4, .bool false)] := hm.keep [0, 1, 4]
  refine x_then_n ?_
  refine wp_seq ?_
  refine wp_region_lit ?_
  refine s_move hm rfl rfl ?_
  clear hm a; intro a hm
  refine s_move hm rfl rfl ?_
  clear hm a; intro a hm
  obtain ⟨t_1, et_1, H⟩ := Option.bind_eq_some_iff.1 H
  refine s_call hm rfl Try.call73 rfl (slices_Index_sint_int.calls K x0 _ x1 t_1 w0 _ _ _ (Mem.le.refl _) (hS.enter [] (by decide)) (hp0_0.mono (hA.trans (hS.le_zed []))) et_1) ?_
  rintro _ w_2 ⟨N_3, rfl, hS'⟩
  clear hm a; intro a hm
  obtain ⟨N_4, hS'', le_4, ln_4⟩ := hS.call [] (by decide) rfl (l' := []) (ow := []) rfl hS'
  replace hS : Sep w0 w_2 [N_4] Z := hS''
  clear hS' hS''
  refine s_cmp (b := decide (t_1 ≥ 0)) hm rfl rfl rfl (.inr (.inr (.inr (.inr (.inr ⟨rfl, rfl⟩))))) ?_
  clear hm a; intro a hm
  refine s_assign hm rfl rfl ?_
  clear hm a; intro a hm
  refine wpList_nil ?_
  replace hm : Fr 9 a [(4, .bool (decide (t_1 ≥ 0)))] := hm.keep [4]
  refine x_then_n ?_
  refine wp_ret ?_
  obtain rfl := Option.some.inj H
  exact f_ret hm (rs := [.tmp 4]) rfl (.tmp rfl .nil) ⟨_, rfl, N_4, rfl, (Sep.sel hS [0] (by decide))⟩

set_option maxHeartbeats 4000000 in
set_option maxRecDepth 20000 in
theorem gath_New.calls (x0 : Int) (x1 : Int) (x2 : Int) (x3 : api_Msg) (p3_0 : Value) (p3_1 : Value) (p3_2 : Value) (p3_3 : Value) (p3_4 : Value) (p3_5 : Value) (r : Int × Int × Int × (List api_Msg) × Int × Int × Int × Int × Int × Int × Int × Int × Bool × Int × Int × Int × Int × (List UInt8) × Int × Int × (List Int) × (List Int) × Int × Int × Int × Int × Int × (List UInt8) × (List UInt8) × (List UInt8) × Bool) (w0 w : World) (Z A : Mem) (hA : A.le Z) (hS : Sep w0 w [] Z) (hp3_0 : Rd Kd.u8 A p3_0 x3.Data) (hp3_1 : Rd (Kd.int .i64) A p3_1 x3.Have) (hp3_2 : Rd (Kd.int .i64) A p3_2 x3.Need) (hp3_3 : Rd Kd.u8 A p3_3 x3.Entry.Cmd.Key) (hp3_4 : Rd Kd.u8 A p3_4 x3.Entry.Cmd.Val) (hp3_5 : Rd Kd.u8 A p3_5 x3.Entry.Cmd.Old)
    (H : gath_New.f x0 x1 x2 x3 = some r) :
    Calls Try.prog 41 [.int .i64 x0, .int .i64 x1, .int .i64 x2, .agg ([.int .i64 x3.Kind, .int .i64 x3.From, .int .i64 x3.To, .int .i64 x3.View, .int .i64 x3.Inst, .int .i64 x3.Len, .bool x3.Has, .int .i64 x3.Members, .int .i64 x3.Source, .int .i64 x3.At, .int .i64 x3.Total, p3_0, .int .i64 x3.Hop, .int .i64 x3.Seq, p3_1, p3_2, .int .i64 x3.Index, .int .i64 x3.Entry.Sess, .int .i64 x3.Entry.Seq, .int .i64 x3.Entry.Cmd.Kind, .int .i64 x3.Entry.Cmd.Who, p3_3, p3_4, p3_5] : List Value).toArray].toArray w (Ret fun v w' => ∃ (u0 : Nat) (u1 : Value) (u2 : Value) (u3 : Value) (u4 : Value) (u5 : Value) (u6 : Value) (u7 : Value) (N : Mem) (M0 : Mem), v = .pointer (some ⟨u0, 0, none⟩) ∧ Sep w0 w' [N, Mem.one u0 (.cells ([.int .i64 r.1, .int .i64 r.2.1, .int .i64 r.2.2.1, u1, .int .i64 r.2.2.2.2.1, .int .i64 r.2.2.2.2.2.1, .int .i64 r.2.2.2.2.2.2.1, .int .i64 r.2.2.2.2.2.2.2.1, .int .i64 r.2.2.2.2.2.2.2.2.1, .int .i64 r.2.2.2.2.2.2.2.2.2.1, .int .i64 r.2.2.2.2.2.2.2.2.2.2.1, .int .i64 r.2.2.2.2.2.2.2.2.2.2.2.1, .bool r.2.2.2.2.2.2.2.2.2.2.2.2.1, .int .i64 r.2.2.2.2.2.2.2.2.2.2.2.2.2.1, .int .i64 r.2.2.2.2.2.2.2.2.2.2.2.2.2.2.1, .int .i64 r.2.2.2.2.2.2.2.2.2.2.2.2.2.2.2.1, .int .i64 r.2.2.2.2.2.2.2.2.2.2.2.2.2.2.2.2.1, u2, .int .i64 r.2.2.2.2.2.2.2.2.2.2.2.2.2.2.2.2.2.2.1, .int .i64 r.2.2.2.2.2.2.2.2.2.2.2.2.2.2.2.2.2.2.2.1, u3, u4, .int .i64 r.2.2.2.2.2.2.2.2.2.2.2.2.2.2.2.2.2.2.2.2.2.2.1, .int .i64 r.2.2.2.2.2.2.2.2.2.2.2.2.2.2.2.2.2.2.2.2.2.2.2.1, .int .i64 r.2.2.2.2.2.2.2.2.2.2.2.2.2.2.2.2.2.2.2.2.2.2.2.2.1, .int .i64 r.2.2.2.2.2.2.2.2.2.2.2.2.2.2.2.2.2.2.2.2.2.2.2.2.2.1, .int .i64 r.2.2.2.2.2.2.2.2.2.2.2.2.2.2.2.2.2.2.2.2.2.2.2.2.2.2.1, u5, u6, u7, .bool r.2.2.2.2.2.2.2.2.2.2.2.2.2.2.2.2.2.2.2.2.2.2.2.2.2.2.2.2.2.2] : List Value).toArray 80 (0, 0)), M0] Z ∧ Own k_api_Msg 29 M0 (A.un N) u1 r.2.2.2.1 ∧ Rd Kd.u8 N u2 r.2.2.2.2.2.2.2.2.2.2.2.2.2.2.2.2.2.1 ∧ Rd (Kd.int .i64) N u3 r.2.2.2.2.2.2.2.2.2.2.2.2.2.2.2.2.2.2.2.2.1 ∧ Rd (Kd.int .i64) N u4 r.2.2.2.2.2.2.2.2.2.2.2.2.2.2.2.2.2.2.2.2.2.1 ∧ Rd Kd.u8 N u5 r.2.2.2.2.2.2.2.2.2.2.2.2.2.2.2.2.2.2.2.2.2.2.2.2.2.2.2.1 ∧ Rd Kd.u8 N u6 r.2.2.2.2.2.2.2.2.2.2.2.2.2.2.2.2.2.2.2.2.2.2.2.2.2.2.2.2.1 ∧ Rd Kd.u8 N u7 r.2.2.2.2.2.2.2.2.2.2.2.2.2.2.2.2.2.2.2.2.2.2.2.2.2.2.2.2.2.1) := by
  unfold gath_New.f at H
  refine f_enter _ Try.func41 rfl Try.ntmps41 rfl fun a hm => ?_
  replace hm : Fr 29 a [(0, .int .i64 x0), (1, .int .i64 x1), (2, .int .i64 x2), (3, .agg ([.int .i64 x3.Kind, .int .i64 x3.From, .int .i64 x3.To, .int .i64 x3.View, .int .i64 x3.Inst, .int .i64 x3.Len, .bool x3.Has, .int .i64 x3.Members, .int .i64 x3.Source, .int .i64 x3.At, .int .i64 x3.Total, p3_0, .int .i64 x3.Hop, .int .i64 x3.Seq, p3_1, p3_2, .int .i64 x3.Index, .int .i64 x3.Entry.Sess, .int .i64 x3.Entry.Seq, .int .i64 x3.Entry.Cmd.Kind, .int .i64 x3.Entry.Cmd.Who, p3_3, p3_4, p3_5] : List Value).toArray)] := hm
  replace hS := hS.start
  replace hS : Sep w0 w [Mem.no] Z := hS
  refine wp_seq ?_
  refine wp_region_lit ?_
  refine v_box (vs := [.int .i64 x3.Kind, .int .i64 x3.From, .int .i64 x3.To, .int .i64 x3.View, .int .i64 x3.Inst, .int .i64 x3.Len, .bool x3.Has, .int .i64 x3.Members, .int .i64 x3.Source, .int .i64 x3.At, .int .i64 x3.Total, p3_0, .int .i64 x3.Hop, .int .i64 x3.Seq, p3_1, p3_2, .int .i64 x3.Index, .int .i64 x3.Entry.Sess, .int .i64 x3.Entry.Seq, .int .i64 x3.Entry.Cmd.Kind, .int .i64 x3.Entry.Cmd.Who, p3_3, p3_4, p3_5]) hm rfl rfl rfl hS ?_
  intro w_1 g_2 hS'
  clear hm a; intro a hm
  replace hS : Sep w0 w_1 [Mem.no, Mem.one g_2 (.cells ([.int .i64 x3.Kind, .int .i64 x3.From, .int .i64 x3.To, .int .i64 x3.View, .int .i64 x3.Inst, .int .i64 x3.Len, .bool x3.Has, .int .i64 x3.Members, .int .i64 x3.Source, .int .i64 x3.At, .int .i64 x3.Total, p3_0, .int .i64 x3.Hop, .int .i64 x3.Seq, p3_1, p3_2, .int .i64 x3.Index, .int .i64 x3.Entry.Sess, .int .i64 x3.Entry.Seq, .int .i64 x3.Entry.Cmd.Kind, .int .i64 x3.Entry.Cmd.Who, p3_3, p3_4, p3_5] : List Value).toArray 29 (0, 0))] Z := hS'
  clear hS'
  refine s_assign hm rfl rfl ?_
  clear hm a; intro a hm
  refine wpList_nil ?_
  replace hm : Fr 29 a [(0, .int .i64 x0), (1, .int .i64 x1), (2, .int .i64 x2), (7, .pointer (some ⟨g_2, 0, none⟩)), (8, .pointer none)] := hm.keep [0, 1, 2, 7, 8]
  refine x_then_n ?_
  refine wp_seq ?_
  refine wp_region_lit ?_
  refine s_move hm rfl rfl ?_
  clear hm a; intro a hm
  refine s_max hm rfl rfl rfl ?_
  clear hm a; intro a hm
  refine s_min hm rfl rfl rfl ?_
  clear hm a; intro a hm
  refine s_assign hm rfl rfl ?_
  clear hm a; intro a hm
  refine wpList_nil ?_
  replace hm : Fr 29 a [(0, .int .i64 (mn (mx x0 1) 7)), (1, .int .i64 x1), (2, .int .i64 x2), (7, .pointer (some ⟨g_2, 0, none⟩)), (8, .pointer none)] := hm.keep [0, 1, 2, 7, 8]
  refine x_then_n ?_
  refine wp_seq ?_
  refine wp_region_lit ?_
  refine s_move hm rfl rfl ?_
  clear hm a; intro a hm
  refine s_max hm rfl rfl rfl ?_
  clear hm a; intro a hm
  refine s_move hm rfl rfl ?_
  clear hm a; intro a hm
  refine s_arith (r := w64 ((mn (mx x0 1) 7) - 1)) hm rfl rfl rfl (.inr (.inl ⟨rfl, rfl⟩)) ?_
  clear hm a; intro a hm
  refine s_min hm rfl rfl rfl ?_
  clear hm a; intro a hm
  refine s_assign hm rfl rfl ?_
  clear hm a; intro a hm
  refine wpList_nil ?_
  replace hm : Fr 29 a [(0, .int .i64 (mn (mx x0 1) 7)), (1, .int .i64 (mn (mx x1 0) (w64 ((mn (mx x0 1) 7) - 1)))), (2, .int .i64 x2), (7, .pointer (some ⟨g_2, 0, none⟩)), (8, .pointer none)] := hm.keep [0, 1, 2, 7, 8]
  refine x_then_n ?_
  refine wp_seq ?_
  refine wp_region_lit ?_
  refine s_move hm rfl rfl ?_
  clear hm a; intro a hm
  refine s_fieldAddr hm rfl Try.underlying29 rfl ti3 rfl rfl ?_
  clear hm a; intro a hm
  obtain ⟨w_3, hs', hS'⟩ := hS.store (P := Try.prog) (p := 1) (o := 0) (t := 3) (v := .int .i64 2) (vs := [.int .i64 2]) rfl ti3 rfl rfl rfl (by intro u hu; simp only [List.mem_cons, List.not_mem_nil, or_false] at hu; rcases hu with rfl <;> rfl)
  refine s_store hm rfl rfl hs' ?_
  replace hS : Sep w0 w_3 [Mem.no, Mem.one g_2 (.cells ([.int .i64 2, .int .i64 x3.From, .int .i64 x3.To, .int .i64 x3.View, .int .i64 x3.Inst, .int .i64 x3.Len, .bool x3.Has, .int .i64 x3.Members, .int .i64 x3.Source, .int .i64 x3.At, .int .i64 x3.Total, p3_0, .int .i64 x3.Hop, .int .i64 x3.Seq, p3_1, p3_2, .int .i64 x3.Index, .int .i64 x3.Entry.Sess, .int .i64 x3.Entry.Seq, .int .i64 x3.Entry.Cmd.Kind, .int .i64 x3.Entry.Cmd.Who, p3_3, p3_4, p3_5] : List Value).toArray 29 (0, 0))] Z := hS'
  clear hs' hS'
  refine s_fieldAddr hm rfl Try.underlying29 rfl ti3 rfl rfl ?_
  clear hm a; intro a hm
  obtain ⟨w_4, hs', hS'⟩ := hS.store (P := Try.prog) (p := 1) (o := 1) (t := 3) (v := .int .i64 (mn (mx x1 0) (w64 ((mn (mx x0 1) 7) - 1)))) (vs := [.int .i64 (mn (mx x1 0) (w64 ((mn (mx x0 1) 7) - 1)))]) rfl ti3 rfl rfl rfl (by intro u hu; simp only [List.mem_cons, List.not_mem_nil, or_false] at hu; rcases hu with rfl <;> rfl)
  refine s_store hm rfl rfl hs' ?_
  replace hS : Sep w0 w_4 [Mem.no, Mem.one g_2 (.cells ([.int .i64 2, .int .i64 (mn (mx x1 0) (w64 ((mn (mx x0 1) 7) - 1))), .int .i64 x3.To, .int .i64 x3.View, .int .i64 x3.Inst, .int .i64 x3.Len, .bool x3.Has, .int .i64 x3.Members, .int .i64 x3.Source, .int .i64 x3.At, .int .i64 x3.Total, p3_0, .int .i64 x3.Hop, .int .i64 x3.Seq, p3_1, p3_2, .int .i64 x3.Index, .int .i64 x3.Entry.Sess, .int .i64 x3.Entry.Seq, .int .i64 x3.Entry.Cmd.Kind, .int .i64 x3.Entry.Cmd.Who, p3_3, p3_4, p3_5] : List Value).toArray 29 (0, 0))] Z := hS'
  clear hs' hS'
  refine wpList_nil ?_
  replace hm : Fr 29 a [(0, .int .i64 (mn (mx x0 1) 7)), (1, .int .i64 (mn (mx x1 0) (w64 ((mn (mx x0 1) 7) - 1)))), (2, .int .i64 x2), (7, .pointer (some ⟨g_2, 0, none⟩)), (8, .pointer none)] := hm.keep [0, 1, 2, 7, 8]
  refine x_then_n ?_
  refine c_seq fun KJ_5 hKJ_5 => ?_
  refine h_begin (S := fun w => Sep w0 w [Mem.no, Mem.one g_2 (.cells ([.int .i64 2, .int .i64 (mn (mx x1 0) (w64 ((mn (mx x0 1) 7) - 1))), .int .i64 x3.To, .int .i64 x3.View, .int .i64 x3.Inst, .int .i64 x3.Len, .bool x3.Has, .int .i64 x3.Members, .int .i64 x3.Source, .int .i64 x3.At, .int .i64 x3.Total, p3_0, .int .i64 x3.Hop, .int .i64 x3.Seq, p3_1, p3_2, .int .i64 x3.Index, .int .i64 x3.Entry.Sess, .int .i64 x3.Entry.Seq, .int .i64 x3.Entry.Cmd.Kind, .int .i64 x3.Entry.Cmd.Who, p3_3, p3_4, p3_5] : List Value).toArray 29 (0, 0))] Z) 10 (by kernel_rfl) rfl [false, false, false, false, false, false, false, false, false, false].toArray rfl hS fun w_6 hS => ?_
  replace hS : Sep w0 w_6 [Mem.no, Mem.one g_2 (.cells ([.int .i64 2, .int .i64 (mn (mx x1 0) (w64 ((mn (mx x0 1) 7) - 1))), .int .i64 x3.To, .int .i64 x3.View, .int .i64 x3.Inst, .int .i64 x3.Len, .bool x3.Has, .int .i64 x3.Members, .int .i64 x3.Source, .int .i64 x3.At, .int .i64 x3.Total, p3_0, .int .i64 x3.Hop, .int .i64 x3.Seq, p3_1, p3_2, .int .i64 x3.Index, .int .i64 x3.Entry.Sess, .int .i64 x3.Entry.Seq, .int .i64 x3.Entry.Cmd.Kind, .int .i64 x3.Entry.Cmd.Who, p3_3, p3_4, p3_5] : List Value).toArray 29 (0, 0))] Z := hS
  refine h_take 0 [true, false, false, false, false, false, false, false, false, false].toArray rfl (by kernel_rfl) (by kernel_rfl) (by kernel_rfl) (fun _ _ _ _ h => h) rfl rfl rfl rfl hm (hS.sub (.cons (Mem.le.refl _) (.cons (Mem.le.refl _) (Sub.nil _)))) (v := .int .i64 (mn (mx x0 1) 7)) (fun w hS => r_move hm rfl) ?_
  clear hm a; intro a hm
  refine h_take 1 [true, true, false, false, false, false, false, false, false, false].toArray rfl (by kernel_rfl) (by kernel_rfl) (by kernel_rfl) (fun _ _ _ _ h => h) rfl rfl rfl rfl hm (hS.sub (.cons (Mem.le.refl _) (.cons (Mem.le.refl _) (Sub.nil _)))) (v := .int .i64 (mn (mx x1 0) (w64 ((mn (mx x0 1) 7) - 1)))) (fun w hS => r_move hm rfl) ?_
  clear hm a; intro a hm
  refine h_take 2 [true, true, true, false, false, false, false, false, false, false].toArray rfl (by kernel_rfl) (by kernel_rfl) (by kernel_rfl) (fun _ _ _ _ h => h) rfl rfl rfl rfl hm (hS.sub (.cons (Mem.le.refl _) (.cons (Mem.le.refl _) (Sub.nil _)))) (v := .int .i64 x2) (fun w hS => r_move hm rfl) ?_
  clear hm a; intro a hm
  refine h_take 3 [true, true, true, true, false, false, false, false, false, false].toArray rfl (by kernel_rfl) (by kernel_rfl) (by kernel_rfl) (fun _ _ _ _ h => h) rfl rfl rfl rfl hm (hS.sub (.cons (Mem.le.refl _) (.cons (Mem.le.refl _) (Sub.nil _)))) (v := .agg ([.int .i64 2, .int .i64 (mn (mx x1 0) (w64 ((mn (mx x0 1) 7) - 1))), .int .i64 x3.To, .int .i64 x3.View, .int .i64 x3.Inst, .int .i64 x3.Len, .bool x3.Has, .int .i64 x3.Members, .int .i64 x3.Source, .int .i64 x3.At, .int .i64 x3.Total, p3_0, .int .i64 x3.Hop, .int .i64 x3.Seq, p3_1, p3_2, .int .i64 x3.Index, .int .i64 x3.Entry.Sess, .int .i64 x3.Entry.Seq, .int .i64 x3.Entry.Cmd.Kind, .int .i64 x3.Entry.Cmd.Who, p3_3, p3_4, p3_5] : List Value).toArray) (fun w hS => r_load hm rfl (hS.load_agg (p := 1) (us := [.int .i64 2, .int .i64 (mn (mx x1 0) (w64 ((mn (mx x0 1) 7) - 1))), .int .i64 x3.To, .int .i64 x3.View, .int .i64 x3.Inst, .int .i64 x3.Len, .bool x3.Has, .int .i64 x3.Members, .int .i64 x3.Source, .int .i64 x3.At, .int .i64 x3.Total, p3_0, .int .i64 x3.Hop, .int .i64 x3.Seq, p3_1, p3_2, .int .i64 x3.Index, .int .i64 x3.Entry.Sess, .int .i64 x3.Entry.Seq, .int .i64 x3.Entry.Cmd.Kind, .int .i64 x3.Entry.Cmd.Who, p3_3, p3_4, p3_5]) rfl Try.underlying29 rfl ti29 rfl rfl)) ?_
  clear hm a; intro a hm
  refine h_take 5 [true, true, true, true, false, true, false, false, false, false].toArray rfl (by kernel_rfl) (by kernel_rfl) (by kernel_rfl) (fun _ _ _ _ h => h) rfl rfl rfl rfl hm (hS.sub (.cons (Mem.le.refl _) (.cons (Mem.le.refl _) (Sub.nil _)))) (v := .int .i64 (mn (mx x1 0) (w64 ((mn (mx x0 1) 7) - 1)))) (fun w hS => r_move hm rfl) ?_
  clear hm a; intro a hm
  obtain ⟨u_7, eu_7, H⟩ := Option.bind_eq_some_iff.1 H
  refine h_take 6 [true, true, true, true, false, true, true, false, false, false].toArray rfl (by kernel_rfl) (by kernel_rfl) (by kernel_rfl) (fun _ _ _ _ h => h) rfl rfl rfl rfl hm (hS.sub (.cons (Mem.le.refl _) (.cons (Mem.le.refl _) (Sub.nil _)))) (v := .int .i64 (shl .i64 1 (mn (mx x1 0) (w64 ((mn (mx x0 1) 7) - 1))))) (fun w hS => r_shift (r := shl .i64 1 (mn (mx x1 0) (w64 ((mn (mx x0 1) 7) - 1)))) hm rfl rfl (must_some eu_7) (.inl ⟨rfl, rfl⟩)) ?_
  clear hm a; intro a hm
  refine h_event 4 [true, true, true, true, true, true, true, false, false, false].toArray rfl (by kernel_rfl) rfl ?_
  have hq_12 : Reps k_api_Msg (A.un Mem.no) ([(⟨2, mn (mx x1 0) (w64 ((mn (mx x0 1) 7) - 1)), x3.To, x3.View, x3.Inst, x3.Len, x3.Has, x3.Members, x3.Source, x3.At, x3.Total, x3.Data, x3.Hop, x3.Seq, x3.Have, x3.Need, x3.Index, x3.Entry⟩ : api_Msg)] : List api_Msg) _ := ((Reps.one (d := k_api_Msg) (x := (⟨2, mn (mx x1 0) (w64 ((mn (mx x0 1) 7) - 1)), x3.To, x3.View, x3.Inst, x3.Len, x3.Has, x3.Members, x3.Source, x3.At, x3.Total, x3.Data, x3.Hop, x3.Seq, x3.Have, x3.Need, x3.Index, x3.Entry⟩ : api_Msg)) (k_api_Msg.mk' (hp3_0.mono (Mem.le_un _ _)) (hp3_1.mono (Mem.le_un _ _)) (hp3_2.mono (Mem.le_un _ _)) (hp3_3.mono (Mem.le_un _ _)) (hp3_4.mono (Mem.le_un _ _)) (hp3_5.mono (Mem.le_un _ _)))).append (Reps.nil k_api_Msg _))
  refine s_buildSlice hm rfl Try.underlying31 ti29 rfl rfl rfl (.cons rfl .nil) rfl rfl rfl hS hq_12 rfl ?_
  intro w_8 v_9 M_10 hS' ho_11
  clear hm a; intro a hm
  replace hS : Sep w0 w_8 [Mem.no, Mem.one g_2 (.cells ([.int .i64 2, .int .i64 (mn (mx x1 0) (w64 ((mn (mx x0 1) 7) - 1))), .int .i64 x3.To, .int .i64 x3.View, .int .i64 x3.Inst, .int .i64 x3.Len, .bool x3.Has, .int .i64 x3.Members, .int .i64 x3.Source, .int .i64 x3.At, .int .i64 x3.Total, p3_0, .int .i64 x3.Hop, .int .i64 x3.Seq, p3_1, p3_2, .int .i64 x3.Index, .int .i64 x3.Entry.Sess, .int .i64 x3.Entry.Seq, .int .i64 x3.Entry.Cmd.Kind, .int .i64 x3.Entry.Cmd.Who, p3_3, p3_4, p3_5] : List Value).toArray 29 (0, 0)), M_10] Z := hS'
  clear hS' hq_12
  refine wpList_nil ?_
  refine x_then_n ⟨(hS.sub (.cons (Mem.le.refl _) (.cons (Mem.le.refl _) (Sub.nil _)))), ?_⟩
  refine h_take 7 [true, true, true, true, true, true, true, true, false, false].toArray rfl (by kernel_rfl) (by kernel_rfl) (by kernel_rfl) (fun _ _ _ _ h => h) rfl rfl rfl rfl hm (hS.sub (.cons (Mem.le.refl _) (.cons (Mem.le.refl _) (Sub.nil _)))) (v := .agg ([.int .i64 (mn (mx x0 1) 7), .int .i64 (mn (mx x1 0) (w64 ((mn (mx x0 1) 7) - 1))), .int .i64 x2, v_9, .int .i64 (shl .i64 1 (mn (mx x1 0) (w64 ((mn (mx x0 1) 7) - 1)))), .int .i64 0, .int .i64 0, .int .i64 0, .int .i64 0, .int .i64 0, .int .i64 0, .int .i64 0, .bool false, .int .i64 0, .int .i64 0, .int .i64 0, .int .i64 0, .slice none 0 0, .int .i64 0, .int .i64 0, .slice none 0 0, .slice none 0 0, .int .i64 0, .int .i64 0, .int .i64 0, .int .i64 0, .int .i64 0, .slice none 0 0, .slice none 0 0, .slice none 0 0, .bool false] : List Value).toArray) (fun w hS => r_build hm ti80 pl80 rfl (.cons rfl (.cons rfl (.cons rfl (.cons ho_11.cells (.cons rfl .nil))))) (cs := [.int .i64 (mn (mx x0 1) 7), .int .i64 (mn (mx x1 0) (w64 ((mn (mx x0 1) 7) - 1))), .int .i64 x2, v_9, .int .i64 (shl .i64 1 (mn (mx x1 0) (w64 ((mn (mx x0 1) 7) - 1)))), .int .i64 0, .int .i64 0, .int .i64 0, .int .i64 0, .int .i64 0, .int .i64 0, .int .i64 0, .bool false, .int .i64 0, .int .i64 0, .int .i64 0, .int .i64 0, .slice none 0 0, .int .i64 0, .int .i64 0, .slice none 0 0, .slice none 0 0, .int .i64 0, .int .i64 0, .int .i64 0, .int .i64 0, .int .i64 0, .slice none 0 0, .slice none 0 0, .slice none 0 0, .bool false]) rfl) ?_
  clear hm a; intro a hm
  refine h_event 8 [true, true, true, true, true, true, true, true, true, false].toArray rfl (by kernel_rfl) rfl ?_
  refine v_box (vs := [.int .i64 (mn (mx x0 1) 7), .int .i64 (mn (mx x1 0) (w64 ((mn (mx x0 1) 7) - 1))), .int .i64 x2, v_9, .int .i64 (shl .i64 1 (mn (mx x1 0) (w64 ((mn (mx x0 1) 7) - 1)))), .int .i64 0, .int .i64 0, .int .i64 0, .int .i64 0, .int .i64 0, .int .i64 0, .int .i64 0, .bool false, .int .i64 0, .int .i64 0, .int .i64 0, .int .i64 0, .slice none 0 0, .int .i64 0, .int .i64 0, .slice none 0 0, .slice none 0 0, .int .i64 0, .int .i64 0, .int .i64 0, .int .i64 0, .int .i64 0, .slice none 0 0, .slice none 0 0, .slice none 0 0, .bool false]) hm rfl rfl rfl hS ?_
  intro w_14 g_15 hS'
  clear hm a; intro a hm
  replace hS : Sep w0 w_14 [Mem.no, Mem.one g_2 (.cells ([.int .i64 2, .int .i64 (mn (mx x1 0) (w64 ((mn (mx x0 1) 7) - 1))), .int .i64 x3.To, .int .i64 x3.View, .int .i64 x3.Inst, .int .i64 x3.Len, .bool x3.Has, .int .i64 x3.Members, .int .i64 x3.Source, .int .i64 x3.At, .int .i64 x3.Total, p3_0, .int .i64 x3.Hop, .int .i64 x3.Seq, p3_1, p3_2, .int .i64 x3.Index, .int .i64 x3.Entry.Sess, .int .i64 x3.Entry.Seq, .int .i64 x3.Entry.Cmd.Kind, .int .i64 x3.Entry.Cmd.Who, p3_3, p3_4, p3_5] : List Value).toArray 29 (0, 0)), M_10, Mem.one g_15 (.cells ([.int .i64 (mn (mx x0 1) 7), .int .i64 (mn (mx x1 0) (w64 ((mn (mx x0 1) 7) - 1))), .int .i64 x2, v_9, .int .i64 (shl .i64 1 (mn (mx x1 0) (w64 ((mn (mx x0 1) 7) - 1)))), .int .i64 0, .int .i64 0, .int .i64 0, .int .i64 0, .int .i64 0, .int .i64 0, .int .i64 0, .bool false, .int .i64 0, .int .i64 0, .int .i64 0, .int .i64 0, .slice none 0 0, .int .i64 0, .int .i64 0, .slice none 0 0, .slice none 0 0, .int .i64 0, .int .i64 0, .int .i64 0, .int .i64 0, .int .i64 0, .slice none 0 0, .slice none 0 0, .slice none 0 0, .bool false] : List Value).toArray 80 (0, 0))] Z := hS'
  clear hS'
  refine wpList_nil ?_
  refine x_then_n ⟨(hS.sub (.cons (Mem.le.refl _) (.cons (Mem.le.refl _) (Sub.nil _)))), ?_⟩
  refine h_take 9 [true, true, true, true, true, true, true, true, true, true].toArray rfl (by kernel_rfl) (by kernel_rfl) (by kernel_rfl) (fun _ _ _ _ h => h) rfl rfl rfl rfl hm (hS.sub (.cons (Mem.le.refl _) (.cons (Mem.le.refl _) (Sub.nil _)))) (v := .pointer (some ⟨g_15, 0, none⟩)) (fun w hS => r_assign hm rfl) ?_
  clear hm a; intro a hm
  refine h_done (by kernel_rfl) ?_
  replace hm : Fr 29 a [(8, .pointer (some ⟨g_15, 0, none⟩))] := hm.keep [8]
  refine x_then_n (hKJ_5 _ _ ?_)
  refine wp_ret ?_
  obtain rfl := Option.some.inj H
  exact f_ret hm (rs := [.tmp 8]) rfl (.tmp rfl .nil) ⟨_, rfl, g_15, v_9, .slice none 0 0, .slice none 0 0, .slice none 0 0, .slice none 0 0, .slice none 0 0, .slice none 0 0, Mem.no, M_10, rfl, (Sep.sel hS [0, 3, 2] (by decide)), (ho_11.mono (Mem.un_left (Mem.le.refl _))), (Rd.nil _ _), (Rd.nil _ _), (Rd.nil _ _), (Rd.nil _ _), (Rd.nil _ _), (Rd.nil _ _)⟩

set_option maxHeartbeats 4000000 in
set_option maxRecDepth 20000 in
theorem gath_Gather_Take.calls (g0 : Nat) (x0_n : Int) (x0_id : Int) (x0_v : Int) (x0_l : List api_Msg) (p0_0 : Value) (M0_0 : Mem) (x0_come : Int) (x0_ready : Int) (x0_commit_Kind : Int) (x0_commit_From : Int) (x0_commit_To : Int) (x0_commit_View : Int) (x0_commit_Inst : Int) (x0_commit_Len : Int) (x0_commit_Has : Bool) (x0_commit_Members : Int) (x0_commit_Source : Int) (x0_commit_At : Int) (x0_commit_Total : Int) (x0_commit_Data : List UInt8) (p0_1 : Value) (x0_commit_Hop : Int) (x0_commit_Seq : Int) (x0_commit_Have : List Int) (p0_2 : Value) (x0_commit_Need : List Int) (p0_3 : Value) (x0_commit_Index : Int) (x0_commit_Entry_Sess : Int) (x0_commit_Entry_Seq : Int) (x0_commit_Entry_Cmd_Kind : Int) (x0_commit_Entry_Cmd_Who : Int) (x0_commit_Entry_Cmd_Key : List UInt8) (p0_4 : Value) (x0_commit_Entry_Cmd_Val : List UInt8) (p0_5 : Value) (x0_commit_Entry_Cmd_Old : List UInt8) (p0_6 : Value) (x0_is : Bool) (x1 : api_Msg) (p1_7 : Value) (p1_8 : Value) (p1_9 : Value) (p1_10 : Value) (p1_11 : Value) (p1_12 : Value) (r : Bool × Int × Int × Int × (List api_Msg) × Int × Int × Int × Int × Int × Int × Int × Int × Bool × Int × Int × Int × Int × (List UInt8) × Int × Int × (List Int) × (List Int) × Int × Int × Int × Int × Int × (List UInt8) × (List UInt8) × (List UInt8) × Bool) (w0 w : World) (Z A : Mem) (hA : A.le Z) (hS : Sep w0 w [Mem.one g0 (.cells ([.int .i64 x0_n, .int .i64 x0_id, .int .i64 x0_v, p0_0, .int .i64 x0_come, .int .i64 x0_ready, .int .i64 x0_commit_Kind, .int .i64 x0_commit_From, .int .i64 x0_commit_To, .int .i64 x0_commit_View, .int .i64 x0_commit_Inst, .int .i64 x0_commit_Len, .bool x0_commit_Has, .int .i64 x0_commit_Members, .int .i64 x0_commit_Source, .int .i64 x0_commit_At, .int .i64 x0_commit_Total, p0_1, .int .i64 x0_commit_Hop, .int .i64 x0_commit_Seq, p0_2, p0_3, .int .i64 x0_commit_Index, .int .i64 x0_commit_Entry_Sess, .int .i64 x0_commit_Entry_Seq, .int .i64 x0_commit_Entry_Cmd_Kind, .int .i64 x0_commit_Entry_Cmd_Who, p0_4, p0_5, p0_6, .bool x0_is] : List Value).toArray 80 (0, 0)), M0_0] Z) (hp0_0 : Own k_api_Msg 29 M0_0 A p0_0 x0_l) (hp0_1 : Rd Kd.u8 A p0_1 x0_commit_Data) (hp0_2 : Rd (Kd.int .i64) A p0_2 x0_commit_Have) (hp0_3 : Rd (Kd.int .i64) A p0_3 x0_commit_Need) (hp0_4 : Rd Kd.u8 A p0_4 x0_commit_Entry_Cmd_Key) (hp0_5 : Rd Kd.u8 A p0_5 x0_commit_Entry_Cmd_Val) (hp0_6 : Rd Kd.u8 A p0_6 x0_commit_Entry_Cmd_Old) (hp1_7 : Rd Kd.u8 A p1_7 x1.Data) (hp1_8 : Rd (Kd.int .i64) A p1_8 x1.Have) (hp1_9 : Rd (Kd.int .i64) A p1_9 x1.Need) (hp1_10 : Rd Kd.u8 A p1_10 x1.Entry.Cmd.Key) (hp1_11 : Rd Kd.u8 A p1_11 x1.Entry.Cmd.Val) (hp1_12 : Rd Kd.u8 A p1_12 x1.Entry.Cmd.Old)
    (H : gath_Gather_Take.f x0_n x0_id x0_v x0_l x0_come x0_ready x0_commit_Kind x0_commit_From x0_commit_To x0_commit_View x0_commit_Inst x0_commit_Len x0_commit_Has x0_commit_Members x0_commit_Source x0_commit_At x0_commit_Total x0_commit_Data x0_commit_Hop x0_commit_Seq x0_commit_Have x0_commit_Need x0_commit_Index x0_commit_Entry_Sess x0_commit_Entry_Seq x0_commit_Entry_Cmd_Kind x0_commit_Entry_Cmd_Who x0_commit_Entry_Cmd_Key x0_commit_Entry_Cmd_Val x0_commit_Entry_Cmd_Old x0_is x1 = some r) :
    Calls Try.prog 42 [.pointer (some ⟨g0, 0, none⟩), .agg ([.int .i64 x1.Kind, .int .i64 x1.From, .int .i64 x1.To, .int .i64 x1.View, .int .i64 x1.Inst, .int .i64 x1.Len, .bool x1.Has, .int .i64 x1.Members, .int .i64 x1.Source, .int .i64 x1.At, .int .i64 x1.Total, p1_7, .int .i64 x1.Hop, .int .i64 x1.Seq, p1_8, p1_9, .int .i64 x1.Index, .int .i64 x1.Entry.Sess, .int .i64 x1.Entry.Seq, .int .i64 x1.Entry.Cmd.Kind, .int .i64 x1.Entry.Cmd.Who, p1_10, p1_11, p1_12] : List Value).toArray].toArray w (Ret fun v w' => ∃ (u0 : Value) (u1 : Value) (u2 : Value) (u3 : Value) (u4 : Value) (u5 : Value) (u6 : Value) (N : Mem) (M100 : Mem), v = .bool r.1 ∧ Sep w0 w' [N, Mem.one g0 (.cells ([.int .i64 r.2.1, .int .i64 r.2.2.1, .int .i64 r.2.2.2.1, u0, .int .i64 r.2.2.2.2.2.1, .int .i64 r.2.2.2.2.2.2.1, .int .i64 r.2.2.2.2.2.2.2.1, .int .i64 r.2.2.2.2.2.2.2.2.1, .int .i64 r.2.2.2.2.2.2.2.2.2.1, .int .i64 r.2.2.2.2.2.2.2.2.2.2.1, .int .i64 r.2.2.2.2.2.2.2.2.2.2.2.1, .int .i64 r.2.2.2.2.2.2.2.2.2.2.2.2.1, .bool r.2.2.2.2.2.2.2.2.2.2.2.2.2.1, .int .i64 r.2.2.2.2.2.2.2.2.2.2.2.2.2.2.1, .int .i64 r.2.2.2.2.2.2.2.2.2.2.2.2.2.2.2.1, .int .i64 r.2.2.2.2.2.2.2.2.2.2.2.2.2.2.2.2.1, .int .i64 r.2.2.2.2.2.2.2.2.2.2.2.2.2.2.2.2.2.1, u1, .int .i64 r.2.2.2.2.2.2.2.2.2.2.2.2.2.2.2.2.2.2.2.1, .int .i64 r.2.2.2.2.2.2.2.2.2.2.2.2.2.2.2.2.2.2.2.2.1, u2, u3, .int .i64 r.2.2.2.2.2.2.2.2.2.2.2.2.2.2.2.2.2.2.2.2.2.2.2.1, .int .i64 r.2.2.2.2.2.2.2.2.2.2.2.2.2.2.2.2.2.2.2.2.2.2.2.2.1, .int .i64 r.2.2.2.2.2.2.2.2.2.2.2.2.2.2.2.2.2.2.2.2.2.2.2.2.2.1, .int .i64 r.2.2.2.2.2.2.2.2.2.2.2.2.2.2.2.2.2.2.2.2.2.2.2.2.2.2.1, .int .i64 r.2.2.2.2.2.2.2.2.2.2.2.2.2.2.2.2.2.2.2.2.2.2.2.2.2.2.2.1, u4, u5, u6, .bool r.2.2.2.2.2.2.2.2.2.2.2.2.2.2.2.2.2.2.2.2.2.2.2.2.2.2.2.2.2.2.2] : List Value).toArray 80 (0, 0)), M100] Z ∧ Own k_api_Msg 29 M100 (A.un N) u0 r.2.2.2.2.1 ∧ Rd Kd.u8 (A.un N) u1 r.2.2.2.2.2.2.2.2.2.2.2.2.2.2.2.2.2.2.1 ∧ Rd (Kd.int .i64) (A.un N) u2 r.2.2.2.2.2.2.2.2.2.2.2.2.2.2.2.2.2.2.2.2.2.1 ∧ Rd (Kd.int .i64) (A.un N) u3 r.2.2.2.2.2.2.2.2.2.2.2.2.2.2.2.2.2.2.2.2.2.2.1 ∧ Rd Kd.u8 (A.un N) u4 r.2.2.2.2.2.2.2.2.2.2.2.2.2.2.2.2.2.2.2.2.2.2.2.2.2.2.2.2.1 ∧ Rd Kd.u8 (A.un N) u5 r.2.2.2.2.2.2.2.2.2.2.2.2.2.2.2.2.2.2.2.2.2.2.2.2.2.2.2.2.2.1 ∧ Rd Kd.u8 (A.un N) u6 r.2.2.2.2.2.2.2.2.2.2.2.2.2.2.2.2.2.2.2.2.2.2.2.2.2.2.2.2.2.2.1) := by
  unfold gath_Gather_Take.f at H
  refine f_enter _ Try.func42 rfl Try.ntmps42 rfl fun a hm => ?_
  replace hm : Fr 68 a [(0, .pointer (some ⟨g0, 0, none⟩)), (1, .agg ([.int .i64 x1.Kind, .int .i64 x1.From, .int .i64 x1.To, .int .i64 x1.View, .int .i64 x1.Inst, .int .i64 x1.Len, .bool x1.Has, .int .i64 x1.Members, .int .i64 x1.Source, .int .i64 x1.At, .int .i64 x1.Total, p1_7, .int .i64 x1.Hop, .int .i64 x1.Seq, p1_8, p1_9, .int .i64 x1.Index, .int .i64 x1.Entry.Sess, .int .i64 x1.Entry.Seq, .int .i64 x1.Entry.Cmd.Kind, .int .i64 x1.Entry.Cmd.Who, p1_10, p1_11, p1_12] : List Value).toArray)] := hm
  replace hS := hS.start
  replace hS : Sep w0 w [Mem.no, Mem.one g0 (.cells ([.int .i64 x0_n, .int .i64 x0_id, .int .i64 x0_v, p0_0, .int .i64 x0_come, .int .i64 x0_ready, .int .i64 x0_commit_Kind, .int .i64 x0_commit_From, .int .i64 x0_commit_To, .int .i64 x0_commit_View, .int .i64 x0_commit_Inst, .int .i64 x0_commit_Len, .bool x0_commit_Has, .int .i64 x0_commit_Members, .int .i64 x0_commit_Source, .int .i64 x0_commit_At, .int .i64 x0_commit_Total, p0_1, .int .i64 x0_commit_Hop, .int .i64 x0_commit_Seq, p0_2, p0_3, .int .i64 x0_commit_Index, .int .i64 x0_commit_Entry_Sess, .int .i64 x0_commit_Entry_Seq, .int .i64 x0_commit_Entry_Cmd_Kind, .int .i64 x0_commit_Entry_Cmd_Who, p0_4, p0_5, p0_6, .bool x0_is] : List Value).toArray 80 (0, 0)), M0_0] Z := hS
  refine wp_seq ?_
  refine wp_region_lit ?_
  refine v_box (vs := [.int .i64 x1.Kind, .int .i64 x1.From, .int .i64 x1.To, .int .i64 x1.View, .int .i64 x1.Inst, .int .i64 x1.Len, .bool x1.Has, .int .i64 x1.Members, .int .i64 x1.Source, .int .i64 x1.At, .int .i64 x1.Total, p1_7, .int .i64 x1.Hop, .int .i64 x1.Seq, p1_8, p1_9, .int .i64 x1.Index, .int .i64 x1.Entry.Sess, .int .i64 x1.Entry.Seq, .int .i64 x1.Entry.Cmd.Kind, .int .i64 x1.Entry.Cmd.Who, p1_10, p1_11, p1_12]) hm rfl rfl rfl hS ?_
  intro w_1 g_2 hS'
  clear hm a; intro a hm
  replace hS : Sep w0 w_1 [Mem.no, Mem.one g0 (.cells ([.int .i64 x0_n, .int .i64 x0_id, .int .i64 x0_v, p0_0, .int .i64 x0_come, .int .i64 x0_ready, .int .i64 x0_commit_Kind, .int .i64 x0_commit_From, .int .i64 x0_commit_To, .int .i64 x0_commit_View, .int .i64 x0_commit_Inst, .int .i64 x0_commit_Len, .bool x0_commit_Has, .int .i64 x0_commit_Members, .int .i64 x0_commit_Source, .int .i64 x0_commit_At, .int .i64 x0_commit_Total, p0_1, .int .i64 x0_commit_Hop, .int .i64 x0_commit_Seq, p0_2, p0_3, .int .i64 x0_commit_Index, .int .i64 x0_commit_Entry_Sess, .int .i64 x0_commit_Entry_Seq, .int .i64 x0_commit_Entry_Cmd_Kind, .int .i64 x0_commit_Entry_Cmd_Who, p0_4, p0_5, p0_6, .bool x0_is] : List Value).toArray 80 (0, 0)), M0_0, Mem.one g_2 (.cells ([.int .i64 x1.Kind, .int .i64 x1.From, .int .i64 x1.To, .int .i64 x1.View, .int .i64 x1.Inst, .int .i64 x1.Len, .bool x1.Has, .int .i64 x1.Members, .int .i64 x1.Source, .int .i64 x1.At, .int .i64 x1.Total, p1_7, .int .i64 x1.Hop, .int .i64 x1.Seq, p1_8, p1_9, .int .i64 x1.Index, .int .i64 x1.Entry.Sess, .int .i64 x1.Entry.Seq, .int .i64 x1.Entry.Cmd.Kind, .int .i64 x1.Entry.Cmd.Who, p1_10, p1_11, p1_12] : List Value).toArray 29 (0, 0))] Z := hS'
  clear hS'
  refine s_assign hm rfl rfl ?_
  clear hm a; intro a hm
  refine wpList_nil ?_
  replace hm : Fr 68 a [(0, .pointer (some ⟨g0, 0, none⟩)), (3, .pointer (some ⟨g_2, 0, none⟩)), (4, .bool false)] := hm.keep [0, 3, 4]
  refine x_then_n ?_
  refine c_seq fun KJ_3 hKJ_3 => ?_
  refine c_seq fun KJ_4 hKJ_4 => ?_
  have hJ_j_8 : ∀ (x_6 : Bool), gath_Gather_Take.J1 x0_n x0_id x0_v x0_l x0_come x0_ready x0_commit_Kind x0_commit_From x0_commit_To x0_commit_View x0_commit_Inst x0_commit_Len x0_commit_Has x0_commit_Members x0_commit_Source x0_commit_At x0_commit_Total x0_commit_Data x0_commit_Hop x0_commit_Seq x0_commit_Have x0_commit_Need x0_commit_Index x0_commit_Entry_Sess x0_commit_Entry_Seq x0_commit_Entry_Cmd_Kind x0_commit_Entry_Cmd_Who x0_commit_Entry_Cmd_Key x0_commit_Entry_Cmd_Val x0_commit_Entry_Cmd_Old x0_is x1 x_6 = some r → ∀ (a : Act) (w_7 : World), (∃ (N_5 : Mem), Fr 68 a [(0, .pointer (some ⟨g0, 0, none⟩)), (3, .pointer (some ⟨g_2, 0, none⟩)), (4, .bool false), (47, .bool x_6)] ∧ Sep w0 w_7 [N_5, Mem.one g0 (.cells ([.int .i64 x0_n, .int .i64 x0_id, .int .i64 x0_v, p0_0, .int .i64 x0_come, .int .i64 x0_ready, .int .i64 x0_commit_Kind, .int .i64 x0_commit_From, .int .i64 x0_commit_To, .int .i64 x0_commit_View, .int .i64 x0_commit_Inst, .int .i64 x0_commit_Len, .bool x0_commit_Has, .int .i64 x0_commit_Members, .int .i64 x0_commit_Source, .int .i64 x0_commit_At, .int .i64 x0_commit_Total, p0_1, .int .i64 x0_commit_Hop, .int .i64 x0_commit_Seq, p0_2, p0_3, .int .i64 x0_commit_Index, .int .i64 x0_commit_Entry_Sess, .int .i64 x0_commit_Entry_Seq, .int .i64 x0_commit_Entry_Cmd_Kind, .int .i64 x0_commit_Entry_Cmd_Who, p0_4, p0_5, p0_6, .bool x0_is] : List Value).toArray 80 (0, 0)), M0_0, Mem.one g_2 (.cells ([.int .i64 x1.Kind, .int .i64 x1.From, .int .i64 x1.To, .int .i64 x1.View, .int .i64 x1.Inst, .int .i64 x1.Len, .bool x1.Has, .int .i64 x1.Members, .int .i64 x1.Source, .int .i64 x1.At, .int .i64 x1.Total, p1_7, .int .i64 x1.Hop, .int .i64 x1.Seq, p1_8, p1_9, .int .i64 x1.Index, .int .i64 x1.Entry.Sess, .int .i64 x1.Entry.Seq, .int .i64 x1.Entry.Cmd.Kind, .int .i64 x1.Entry.Cmd.Who, p1_10, p1_11, p1_12] : List Value).toArray 29 (0, 0))] Z ∧ Mem.no.le N_5) → KJ_4 a w_7 := by
    clear H hm hS a
    rintro x_6 H a w_7 ⟨N_5, hm, hS, le_5⟩
    unfold gath_Gather_Take.J1 at H
    refine hKJ_4 _ _ ?_
    by_cases hc_9 : x_6 = true
    · rw [if_pos hc_9] at H
      refine c_cond_t hm rfl hc_9 ?_
      refine wp_seq ?_
      refine wp_region_lit ?_
      refine s_assign hm rfl rfl ?_
      clear hm a; intro a hm
      refine wpList_nil ?_
      replace hm : Fr 68 a [(0, .pointer (some ⟨g0, 0, none⟩)), (3, .pointer (some ⟨g_2, 0, none⟩)), (4, .bool false)] := hm.keep [0, 3, 4]
      refine x_then_n ?_
      refine wp_ret (x_then_r ?_)
      obtain rfl := Option.some.inj H
      exact f_ret hm (rs := [.tmp 4]) rfl (.tmp rfl .nil) ⟨_, rfl, p0_0, p0_1, p0_2, p0_3, p0_4, p0_5, p0_6, N_5, M0_0, rfl, (Sep.sel hS [0, 1, 2] (by decide)), (hp0_0.mono (Mem.le_un _ _)), (hp0_1.mono (Mem.le_un _ _)), (hp0_2.mono (Mem.le_un _ _)), (hp0_3.mono (Mem.le_un _ _)), (hp0_4.mono (Mem.le_un _ _)), (hp0_5.mono (Mem.le_un _ _)), (hp0_6.mono (Mem.le_un _ _))⟩
    · rw [if_neg hc_9] at H
      refine c_cond_f hm rfl (Bool.eq_false_iff.2 hc_9) ?_
      refine wp_skip ?_
      refine x_then_n (hKJ_3 _ _ ?_)
      refine c_seq fun KJ_10 hKJ_10 => ?_
      refine h_begin (S := fun w => Sep w0 w [N_5, Mem.no, M0_0, Mem.one g_2 (.cells ([.int .i64 x1.Kind, .int .i64 x1.From, .int .i64 x1.To, .int .i64 x1.View, .int .i64 x1.Inst, .int .i64 x1.Len, .bool x1.Has, .int .i64 x1.Members, .int .i64 x1.Source, .int .i64 x1.At, .int .i64 x1.Total, p1_7, .int .i64 x1.Hop, .int .i64 x1.Seq, p1_8, p1_9, .int .i64 x1.Index, .int .i64 x1.Entry.Sess, .int .i64 x1.Entry.Seq, .int .i64 x1.Entry.Cmd.Kind, .int .i64 x1.Entry.Cmd.Who, p1_10, p1_11, p1_12] : List Value).toArray 29 (0, 0))] Z) 11 (by kernel_rfl) rfl [false, false, false, false, false, false, false, false, false, false, false].toArray rfl hS fun w_11 hS => ?_
      replace hS : Sep w0 w_11 [N_5, Mem.one g0 (.cells ([.int .i64 x0_n, .int .i64 x0_id, .int .i64 x0_v, p0_0, .int .i64 x0_come, .int .i64 x0_ready, .int .i64 x0_commit_Kind, .int .i64 x0_commit_From, .int .i64 x0_commit_To, .int .i64 x0_commit_View, .int .i64 x0_commit_Inst, .int .i64 x0_commit_Len, .bool x0_commit_Has, .int .i64 x0_commit_Members, .int .i64 x0_commit_Source, .int .i64 x0_commit_At, .int .i64 x0_commit_Total, p0_1, .int .i64 x0_commit_Hop, .int .i64 x0_commit_Seq, p0_2, p0_3, .int .i64 x0_commit_Index, .int .i64 x0_commit_Entry_Sess, .int .i64 x0_commit_Entry_Seq, .int .i64 x0_commit_Entry_Cmd_Kind, .int .i64 x0_commit_Entry_Cmd_Who, p0_4, p0_5, p0_6, .bool x0_is] : List Value).toArray 80 (0, 0)), M0_0, Mem.one g_2 (.cells ([.int .i64 x1.Kind, .int .i64 x1.From, .int .i64 x1.To, .int .i64 x1.View, .int .i64 x1.Inst, .int .i64 x1.Len, .bool x1.Has, .int .i64 x1.Members, .int .i64 x1.Source, .int .i64 x1.At, .int .i64 x1.Total, p1_7, .int .i64 x1.Hop, .int .i64 x1.Seq, p1_8, p1_9, .int .i64 x1.Index, .int .i64 x1.Entry.Sess, .int .i64 x1.Entry.Seq, .int .i64 x1.Entry.Cmd.Kind, .int .i64 x1.Entry.Cmd.Who, p1_10, p1_11, p1_12] : List Value).toArray 29 (0, 0))] Z := hS
      refine h_take 0 [true, false, false, false, false, false, false, false, false, false, false].toArray rfl (by kernel_rfl) (by kernel_rfl) (by kernel_rfl) (fun _ _ _ _ h => h) rfl rfl rfl rfl hm (hS.sub (.cons (Mem.le.refl _) (.cons (Mem.no_le _) (.cons (Mem.le.refl _) (.cons (Mem.le.refl _) (Sub.nil _)))))) (v := .pointer (some ⟨g0, 0, none⟩)) (fun w hS => r_move hm rfl) ?_
      clear hm a; intro a hm
      refine h_take 1 [true, true, false, false, false, false, false, false, false, false, false].toArray rfl (by kernel_rfl) (by kernel_rfl) (by kernel_rfl) (fun _ _ _ _ h => h) rfl rfl rfl rfl hm (hS.sub (.cons (Mem.le.refl _) (.cons (Mem.no_le _) (.cons (Mem.le.refl _) (.cons (Mem.le.refl _) (Sub.nil _)))))) (v := .pointer (some ⟨g0, 0, none⟩)) (fun w hS => r_nilCheck hm rfl) ?_
      clear hm a; intro a hm
      refine h_take 2 [true, true, true, false, false, false, false, false, false, false, false].toArray rfl (by kernel_rfl) (by kernel_rfl) (by kernel_rfl) (fun _ _ _ _ h => h) rfl rfl rfl rfl hm (hS.sub (.cons (Mem.le.refl _) (.cons (Mem.no_le _) (.cons (Mem.le.refl _) (.cons (Mem.le.refl _) (Sub.nil _)))))) (v := .pointer (some ⟨g0, 4, none⟩)) (fun w hS => r_fieldAddr hm Try.underlying80 rfl ti3 rfl rfl rfl) ?_
      clear hm a; intro a hm
      refine h_take 4 [true, true, true, false, true, false, false, false, false, false, false].toArray rfl (by kernel_rfl) (by kernel_rfl) (by kernel_rfl) (fun _ _ _ _ h => h) rfl rfl rfl rfl hm (hS.sub (.cons (Mem.le.refl _) (.cons (Mem.no_le _) (.cons (Mem.le.refl _) (.cons (Mem.le.refl _) (Sub.nil _)))))) (v := .pointer (some ⟨g_2, 1, none⟩)) (fun w hS => r_fieldAddr hm Try.underlying29 rfl ti3 rfl rfl rfl) ?_
      clear hm a; intro a hm
      refine h_take 5 [true, true, true, false, true, true, false, false, false, false, false].toArray rfl (by kernel_rfl) (by kernel_rfl) (by kernel_rfl) (fun _ _ _ _ h => h) rfl rfl rfl rfl hm (hS.sub (.cons (Mem.le.refl _) (.cons (Mem.no_le _) (.cons (Mem.le.refl _) (.cons (Mem.le.refl _) (Sub.nil _)))))) (v := .int .i64 x1.From) (fun w hS => r_load hm rfl (hS.load_one (p := 3) rfl Try.underlying3 rfl rfl)) ?_
      clear hm a; intro a hm
      obtain ⟨u_12, eu_12, H⟩ := Option.bind_eq_some_iff.1 H
      refine h_take 6 [true, true, true, false, true, true, true, false, false, false, false].toArray rfl (by kernel_rfl) (by kernel_rfl) (by kernel_rfl) (fun _ _ _ _ h => h) rfl rfl rfl rfl hm (hS.sub (.cons (Mem.le.refl _) (.cons (Mem.no_le _) (.cons (Mem.le.refl _) (.cons (Mem.le.refl _) (Sub.nil _)))))) (v := .int .i64 (shl .i64 1 x1.From)) (fun w hS => r_shift (r := shl .i64 1 x1.From) hm rfl rfl (must_some eu_12) (.inl ⟨rfl, rfl⟩)) ?_
      clear hm a; intro a hm
      refine h_event 3 [true, true, true, true, true, true, true, false, false, false, false].toArray rfl (by kernel_rfl) rfl ?_
      refine s_load hm rfl rfl (hS.load_one (p := 1) rfl Try.underlying3 rfl rfl) ?_
      clear hm a; intro a hm
      refine wpList_nil ?_
      refine x_then_n ⟨(hS.sub (.cons (Mem.le.refl _) (.cons (Mem.no_le _) (.cons (Mem.le.refl _) (.cons (Mem.le.refl _) (Sub.nil _)))))), ?_⟩
      refine h_take 7 [true, true, true, true, true, true, true, true, false, false, false].toArray rfl (by kernel_rfl) (by kernel_rfl) (by kernel_rfl) (fun _ _ _ _ h => h) rfl rfl rfl rfl hm (hS.sub (.cons (Mem.le.refl _) (.cons (Mem.no_le _) (.cons (Mem.le.refl _) (.cons (Mem.le.refl _) (Sub.nil _)))))) (v := .int .i64 (bor .i64 x0_come (shl .i64 1 x1.From))) (fun w hS => r_bits (i := x0_come) (j := shl .i64 1 x1.From) (r := bor .i64 x0_come (shl .i64 1 x1.From)) hm rfl rfl (.inr (.inl ⟨rfl, rfl⟩))) ?_
      clear hm a; intro a hm
      refine h_take 8 [true, true, true, true, true, true, true, true, true, false, false].toArray rfl (by kernel_rfl) (by kernel_rfl) (by kernel_rfl) (fun _ _ _ _ h => h) rfl rfl rfl rfl hm (hS.sub (.cons (Mem.le.refl _) (.cons (Mem.no_le _) (.cons (Mem.le.refl _) (.cons (Mem.le.refl _) (Sub.nil _)))))) (v := .pointer (some ⟨g0, 0, none⟩)) (fun w hS => r_nilCheck hm rfl) ?_
      clear hm a; intro a hm
      refine h_take 9 [true, true, true, true, true, true, true, true, true, true, false].toArray rfl (by kernel_rfl) (by kernel_rfl) (by kernel_rfl) (fun _ _ _ _ h => h) rfl rfl rfl rfl hm (hS.sub (.cons (Mem.le.refl _) (.cons (Mem.no_le _) (.cons (Mem.le.refl _) (.cons (Mem.le.refl _) (Sub.nil _)))))) (v := .pointer (some ⟨g0, 4, none⟩)) (fun w hS => r_fieldAddr hm Try.underlying80 rfl ti3 rfl rfl rfl) ?_
      clear hm a; intro a hm
      refine h_event 10 [true, true, true, true, true, true, true, true, true, true, true].toArray rfl (by kernel_rfl) rfl ?_
      obtain ⟨w_13, hs', hS'⟩ := hS.store (P := Try.prog) (p := 1) (o := 4) (t := 3) (v := .int .i64 (bor .i64 x0_come (shl .i64 1 x1.From))) (vs := [.int .i64 (bor .i64 x0_come (shl .i64 1 x1.From))]) rfl ti3 rfl rfl rfl (by intro u hu; simp only [List.mem_cons, List.not_mem_nil, or_false] at hu; rcases hu with rfl <;> rfl)
      refine s_store hm rfl rfl hs' ?_
      replace hS : Sep w0 w_13 [N_5, Mem.one g0 (.cells ([.int .i64 x0_n, .int .i64 x0_id, .int .i64 x0_v, p0_0, .int .i64 (bor .i64 x0_come (shl .i64 1 x1.From)), .int .i64 x0_ready, .int .i64 x0_commit_Kind, .int .i64 x0_commit_From, .int .i64 x0_commit_To, .int .i64 x0_commit_View, .int .i64 x0_commit_Inst, .int .i64 x0_commit_Len, .bool x0_commit_Has, .int .i64 x0_commit_Members, .int .i64 x0_commit_Source, .int .i64 x0_commit_At, .int .i64 x0_commit_Total, p0_1, .int .i64 x0_commit_Hop, .int .i64 x0_commit_Seq, p0_2, p0_3, .int .i64 x0_commit_Index, .int .i64 x0_commit_Entry_Sess, .int .i64 x0_commit_Entry_Seq, .int .i64 x0_commit_Entry_Cmd_Kind, .int .i64 x0_commit_Entry_Cmd_Who, p0_4, p0_5, p0_6, .bool x0_is] : List Value).toArray 80 (0, 0)), M0_0, Mem.one g_2 (.cells ([.int .i64 x1.Kind, .int .i64 x1.From, .int .i64 x1.To, .int .i64 x1.View, .int .i64 x1.Inst, .int .i64 x1.Len, .bool x1.Has, .int .i64 x1.Members, .int .i64 x1.Source, .int .i64 x1.At, .int .i64 x1.Total, p1_7, .int .i64 x1.Hop, .int .i64 x1.Seq, p1_8, p1_9, .int .i64 x1.Index, .int .i64 x1.Entry.Sess, .int .i64 x1.Entry.Seq, .int .i64 x1.Entry.Cmd.Kind, .int .i64 x1.Entry.Cmd.Who, p1_10, p1_11, p1_12] : List Value).toArray 29 (0, 0))] Z := hS'
      clear hs' hS'
      refine wpList_nil ?_
      refine x_then_n ⟨(hS.sub (.cons (Mem.le.refl _) (.cons (Mem.no_le _) (.cons (Mem.le.refl _) (.cons (Mem.le.refl _) (Sub.nil _)))))), ?_⟩
      refine h_done (by kernel_rfl) ?_
      replace hm : Fr 68 a [(0, .pointer (some ⟨g0, 0, none⟩)), (3, .pointer (some ⟨g_2, 0, none⟩)), (4, .bool false)] := hm.keep [0, 3, 4]
      refine x_then_n (hKJ_10 _ _ ?_)
      refine c_seq fun KJ_14 hKJ_14 => ?_
      refine h_begin (S := fun w => Sep w0 w [N_5, Mem.no, Mem.no, Mem.one g_2 (.cells ([.int .i64 x1.Kind, .int .i64 x1.From, .int .i64 x1.To, .int .i64 x1.View, .int .i64 x1.Inst, .int .i64 x1.Len, .bool x1.Has, .int .i64 x1.Members, .int .i64 x1.Source, .int .i64 x1.At, .int .i64 x1.Total, p1_7, .int .i64 x1.Hop, .int .i64 x1.Seq, p1_8, p1_9, .int .i64 x1.Index, .int .i64 x1.Entry.Sess, .int .i64 x1.Entry.Seq, .int .i64 x1.Entry.Cmd.Kind, .int .i64 x1.Entry.Cmd.Who, p1_10, p1_11, p1_12] : List Value).toArray 29 (0, 0))] Z) 11 (by kernel_rfl) rfl [false, false, false, false, false, false, false, false, false, false, false].toArray rfl hS fun w_15 hS => ?_
      replace hS : Sep w0 w_15 [N_5, Mem.one g0 (.cells ([.int .i64 x0_n, .int .i64 x0_id, .int .i64 x0_v, p0_0, .int .i64 (bor .i64 x0_come (shl .i64 1 x1.From)), .int .i64 x0_ready, .int .i64 x0_commit_Kind, .int .i64 x0_commit_From, .int .i64 x0_commit_To, .int .i64 x0_commit_View, .int .i64 x0_commit_Inst, .int .i64 x0_commit_Len, .bool x0_commit_Has, .int .i64 x0_commit_Members, .int .i64 x0_commit_Source, .int .i64 x0_commit_At, .int .i64 x0_commit_Total, p0_1, .int .i64 x0_commit_Hop, .int .i64 x0_commit_Seq, p0_2, p0_3, .int .i64 x0_commit_Index, .int .i64 x0_commit_Entry_Sess, .int .i64 x0_commit_Entry_Seq, .int .i64 x0_commit_Entry_Cmd_Kind, .int .i64 x0_commit_Entry_Cmd_Who, p0_4, p0_5, p0_6, .bool x0_is] : List Value).toArray 80 (0, 0)), M0_0, Mem.one g_2 (.cells ([.int .i64 x1.Kind, .int .i64 x1.From, .int .i64 x1.To, .int .i64 x1.View, .int .i64 x1.Inst, .int .i64 x1.Len, .bool x1.Has, .int .i64 x1.Members, .int .i64 x1.Source, .int .i64 x1.At, .int .i64 x1.Total, p1_7, .int .i64 x1.Hop, .int .i64 x1.Seq, p1_8, p1_9, .int .i64 x1.Index, .int .i64 x1.Entry.Sess, .int .i64 x1.Entry.Seq, .int .i64 x1.Entry.Cmd.Kind, .int .i64 x1.Entry.Cmd.Who, p1_10, p1_11, p1_12] : List Value).toArray 29 (0, 0))] Z := hS
      refine h_take 0 [true, false, false, false, false, false, false, false, false, false, false].toArray rfl (by kernel_rfl) (by kernel_rfl) (by kernel_rfl) (fun _ _ _ _ h => h) rfl rfl rfl rfl hm (hS.sub (.cons (Mem.le.refl _) (.cons (Mem.no_le _) (.cons (Mem.no_le _) (.cons (Mem.le.refl _) (Sub.nil _)))))) (v := .pointer (some ⟨g0, 0, none⟩)) (fun w hS => r_move hm rfl) ?_
      clear hm a; intro a hm
      refine h_take 1 [true, true, false, false, false, false, false, false, false, false, false].toArray rfl (by kernel_rfl) (by kernel_rfl) (by kernel_rfl) (fun _ _ _ _ h => h) rfl rfl rfl rfl hm (hS.sub (.cons (Mem.le.refl _) (.cons (Mem.no_le _) (.cons (Mem.no_le _) (.cons (Mem.le.refl _) (Sub.nil _)))))) (v := .pointer (some ⟨g0, 0, none⟩)) (fun w hS => r_move hm rfl) ?_
      clear hm a; intro a hm
      refine h_take 2 [true, true, true, false, false, false, false, false, false, false, false].toArray rfl (by kernel_rfl) (by kernel_rfl) (by kernel_rfl) (fun _ _ _ _ h => h) rfl rfl rfl rfl hm (hS.sub (.cons (Mem.le.refl _) (.cons (Mem.no_le _) (.cons (Mem.no_le _) (.cons (Mem.le.refl _) (Sub.nil _)))))) (v := .pointer (some ⟨g0, 0, none⟩)) (fun w hS => r_nilCheck hm rfl) ?_
      clear hm a; intro a hm
      refine h_take 3 [true, true, true, true, false, false, false, false, false, false, false].toArray rfl (by kernel_rfl) (by kernel_rfl) (by kernel_rfl) (fun _ _ _ _ h => h) rfl rfl rfl rfl hm (hS.sub (.cons (Mem.le.refl _) (.cons (Mem.no_le _) (.cons (Mem.no_le _) (.cons (Mem.le.refl _) (Sub.nil _)))))) (v := .pointer (some ⟨g0, 3, none⟩)) (fun w hS => r_fieldAddr hm Try.underlying80 rfl ti31 rfl rfl rfl) ?_
      clear hm a; intro a hm
      refine h_take 5 [true, true, true, true, false, true, false, false, false, false, false].toArray rfl (by kernel_rfl) (by kernel_rfl) (by kernel_rfl) (fun _ _ _ _ h => h) rfl rfl rfl rfl hm (hS.sub (.cons (Mem.le.refl _) (.cons (Mem.no_le _) (.cons (Mem.no_le _) (.cons (Mem.le.refl _) (Sub.nil _)))))) (v := .agg ([.int .i64 x1.Kind, .int .i64 x1.From, .int .i64 x1.To, .int .i64 x1.View, .int .i64 x1.Inst, .int .i64 x1.Len, .bool x1.Has, .int .i64 x1.Members, .int .i64 x1.Source, .int .i64 x1.At, .int .i64 x1.Total, p1_7, .int .i64 x1.Hop, .int .i64 x1.Seq, p1_8, p1_9, .int .i64 x1.Index, .int .i64 x1.Entry.Sess, .int .i64 x1.Entry.Seq, .int .i64 x1.Entry.Cmd.Kind, .int .i64 x1.Entry.Cmd.Who, p1_10, p1_11, p1_12] : List Value).toArray) (fun w hS => r_load hm rfl (hS.load_agg (p := 3) (us := [.int .i64 x1.Kind, .int .i64 x1.From, .int .i64 x1.To, .int .i64 x1.View, .int .i64 x1.Inst, .int .i64 x1.Len, .bool x1.Has, .int .i64 x1.Members, .int .i64 x1.Source, .int .i64 x1.At, .int .i64 x1.Total, p1_7, .int .i64 x1.Hop, .int .i64 x1.Seq, p1_8, p1_9, .int .i64 x1.Index, .int .i64 x1.Entry.Sess, .int .i64 x1.Entry.Seq, .int .i64 x1.Entry.Cmd.Kind, .int .i64 x1.Entry.Cmd.Who, p1_10, p1_11, p1_12]) rfl Try.underlying29 rfl ti29 rfl rfl)) ?_
      clear hm a; intro a hm
      obtain ⟨t_22, et_22, H⟩ := Option.bind_eq_some_iff.1 H
      refine h_events [4, 6] (by kernel_rfl) (by simp) ?_
      intro i hi; simp only [List.mem_cons, List.not_mem_nil, or_false] at hi; rcases hi with rfl | rfl
      · refine ⟨_, [true, true, true, true, true, true, false, false, false, false, false].toArray, rfl, rfl, ?_⟩
        refine s_load hm rfl rfl (hS.load_one (p := 1) rfl Try.underlying31 rfl rfl) ?_
        clear hm a; intro a hm
        refine wpList_nil ?_
        refine x_then_n ⟨(hS.sub (.cons (Mem.le.refl _) (.cons (Mem.no_le _) (.cons (Mem.no_le _) (.cons (Mem.le.refl _) (Sub.nil _)))))), ?_⟩
        refine h_event 6 [true, true, true, true, true, true, true, false, false, false, false].toArray rfl (by kernel_rfl) rfl ?_
        have hq_20 : Reps k_api_Msg (A.un N_5) ([x1] : List api_Msg) _ := ((Reps.one (d := k_api_Msg) (x := x1) (k_api_Msg.mk' (hp1_7.mono (Mem.le_un _ _)) (hp1_8.mono (Mem.le_un _ _)) (hp1_9.mono (Mem.le_un _ _)) (hp1_10.mono (Mem.le_un _ _)) (hp1_11.mono (Mem.le_un _ _)) (hp1_12.mono (Mem.le_un _ _)))).append (Reps.nil k_api_Msg _))
        refine s_buildSlice hm rfl Try.underlying31 ti29 rfl rfl rfl (.cons rfl .nil) rfl rfl rfl hS hq_20 rfl ?_
        intro w_16 v_17 M_18 hS' ho_19
        clear hm a; intro a hm
        replace hS : Sep w0 w_16 [N_5, Mem.one g0 (.cells ([.int .i64 x0_n, .int .i64 x0_id, .int .i64 x0_v, p0_0, .int .i64 (bor .i64 x0_come (shl .i64 1 x1.From)), .int .i64 x0_ready, .int .i64 x0_commit_Kind, .int .i64 x0_commit_From, .int .i64 x0_commit_To, .int .i64 x0_commit_View, .int .i64 x0_commit_Inst, .int .i64 x0_commit_Len, .bool x0_commit_Has, .int .i64 x0_commit_Members, .int .i64 x0_commit_Source, .int .i64 x0_commit_At, .int .i64 x0_commit_Total, p0_1, .int .i64 x0_commit_Hop, .int .i64 x0_commit_Seq, p0_2, p0_3, .int .i64 x0_commit_Index, .int .i64 x0_commit_Entry_Sess, .int .i64 x0_commit_Entry_Seq, .int .i64 x0_commit_Entry_Cmd_Kind, .int .i64 x0_commit_Entry_Cmd_Who, p0_4, p0_5, p0_6, .bool x0_is] : List Value).toArray 80 (0, 0)), M0_0, Mem.one g_2 (.cells ([.int .i64 x1.Kind, .int .i64 x1.From, .int .i64 x1.To, .int .i64 x1.View, .int .i64 x1.Inst, .int .i64 x1.Len, .bool x1.Has, .int .i64 x1.Members, .int .i64 x1.Source, .int .i64 x1.At, .int .i64 x1.Total, p1_7, .int .i64 x1.Hop, .int .i64 x1.Seq, p1_8, p1_9, .int .i64 x1.Index, .int .i64 x1.Entry.Sess, .int .i64 x1.Entry.Seq, .int .i64 x1.Entry.Cmd.Kind, .int .i64 x1.Entry.Cmd.Who, p1_10, p1_11, p1_12] : List Value).toArray 29 (0, 0)), M_18] Z := hS'
        clear hS' hq_20
        refine wpList_nil ?_
        refine x_then_n ⟨(hS.sub (.cons (Mem.le.refl _) (.cons (Mem.no_le _) (.cons (Mem.no_le _) (.cons (Mem.le.refl _) (Sub.nil _)))))), ?_⟩
        refine h_event 7 [true, true, true, true, true, true, true, true, false, false, false].toArray rfl (by kernel_rfl) rfl ?_
        refine s_append (J := (A.un N_5)) (I' := (A.un N_5)) (p := 2) 488671834567 hm rfl rfl rfl Try.underlying31 ti29 rfl rfl rfl rfl hS rfl hp0_0 (ho_19.src (hS.own 4)) (Mem.le_un _ _) (Mem.un_left (Mem.le.refl _)) et_22 ?_
        intro w_23 v_24 M_25 hS' ho_26
        clear hm a; intro a hm
        replace hS : Sep w0 w_23 [N_5, Mem.one g0 (.cells ([.int .i64 x0_n, .int .i64 x0_id, .int .i64 x0_v, p0_0, .int .i64 (bor .i64 x0_come (shl .i64 1 x1.From)), .int .i64 x0_ready, .int .i64 x0_commit_Kind, .int .i64 x0_commit_From, .int .i64 x0_commit_To, .int .i64 x0_commit_View, .int .i64 x0_commit_Inst, .int .i64 x0_commit_Len, .bool x0_commit_Has, .int .i64 x0_commit_Members, .int .i64 x0_commit_Source, .int .i64 x0_commit_At, .int .i64 x0_commit_Total, p0_1, .int .i64 x0_commit_Hop, .int .i64 x0_commit_Seq, p0_2, p0_3, .int .i64 x0_commit_Index, .int .i64 x0_commit_Entry_Sess, .int .i64 x0_commit_Entry_Seq, .int .i64 x0_commit_Entry_Cmd_Kind, .int .i64 x0_commit_Entry_Cmd_Who, p0_4, p0_5, p0_6, .bool x0_is] : List Value).toArray 80 (0, 0)), M_25, Mem.one g_2 (.cells ([.int .i64 x1.Kind, .int .i64 x1.From, .int .i64 x1.To, .int .i64 x1.View, .int .i64 x1.Inst, .int .i64 x1.Len, .bool x1.Has, .int .i64 x1.Members, .int .i64 x1.Source, .int .i64 x1.At, .int .i64 x1.Total, p1_7, .int .i64 x1.Hop, .int .i64 x1.Seq, p1_8, p1_9, .int .i64 x1.Index, .int .i64 x1.Entry.Sess, .int .i64 x1.Entry.Seq, .int .i64 x1.Entry.Cmd.Kind, .int .i64 x1.Entry.Cmd.Who, p1_10, p1_11, p1_12] : List Value).toArray 29 (0, 0)), M_18] Z := hS'
        clear hS'
        refine wpList_nil ?_
        refine x_then_n ⟨(hS.sub (.cons (Mem.le.refl _) (.cons (Mem.no_le _) (.cons (Mem.no_le _) (.cons (Mem.le.refl _) (Sub.nil _)))))), ?_⟩
        refine h_take 8 [true, true, true, true, true, true, true, true, true, false, false].toArray rfl (by kernel_rfl) (by kernel_rfl) (by kernel_rfl) (fun _ _ _ _ h => h) rfl rfl rfl rfl hm (hS.sub (.cons (Mem.le.refl _) (.cons (Mem.no_le _) (.cons (Mem.no_le _) (.cons (Mem.le.refl _) (Sub.nil _)))))) (v := .pointer (some ⟨g0, 0, none⟩)) (fun w hS => r_nilCheck hm rfl) ?_
        clear hm a; intro a hm
        refine h_take 9 [true, true, true, true, true, true, true, true, true, true, false].toArray rfl (by kernel_rfl) (by kernel_rfl) (by kernel_rfl) (fun _ _ _ _ h => h) rfl rfl rfl rfl hm (hS.sub (.cons (Mem.le.refl _) (.cons (Mem.no_le _) (.cons (Mem.no_le _) (.cons (Mem.le.refl _) (Sub.nil _)))))) (v := .pointer (some ⟨g0, 3, none⟩)) (fun w hS => r_fieldAddr hm Try.underlying80 rfl ti31 rfl rfl rfl) ?_
        clear hm a; intro a hm
        refine h_event 10 [true, true, true, true, true, true, true, true, true, true, true].toArray rfl (by kernel_rfl) rfl ?_
        obtain ⟨w_28, hs', hS'⟩ := hS.store (P := Try.prog) (p := 1) (o := 3) (t := 31) (v := v_24) (vs := [v_24]) rfl ti31 ho_26.cellsA rfl rfl (by intro u hu; simp only [List.mem_cons, List.not_mem_nil, or_false] at hu; rcases hu with rfl <;> first | rfl | exact ho_26.one)
        refine s_store hm rfl rfl hs' ?_
        replace hS : Sep w0 w_28 [N_5, Mem.one g0 (.cells ([.int .i64 x0_n, .int .i64 x0_id, .int .i64 x0_v, v_24, .int .i64 (bor .i64 x0_come (shl .i64 1 x1.From)), .int .i64 x0_ready, .int .i64 x0_commit_Kind, .int .i64 x0_commit_From, .int .i64 x0_commit_To, .int .i64 x0_commit_View, .int .i64 x0_commit_Inst, .int .i64 x0_commit_Len, .bool x0_commit_Has, .int .i64 x0_commit_Members, .int .i64 x0_commit_Source, .int .i64 x0_commit_At, .int .i64 x0_commit_Total, p0_1, .int .i64 x0_commit_Hop, .int .i64 x0_commit_Seq, p0_2, p0_3, .int .i64 x0_commit_Index, .int .i64 x0_commit_Entry_Sess, .int .i64 x0_commit_Entry_Seq, .int .i64 x0_commit_Entry_Cmd_Kind, .int .i64 x0_commit_Entry_Cmd_Who, p0_4, p0_5, p0_6, .bool x0_is] : List Value).toArray 80 (0, 0)), M_25, Mem.one g_2 (.cells ([.int .i64 x1.Kind, .int .i64 x1.From, .int .i64 x1.To, .int .i64 x1.View, .int .i64 x1.Inst, .int .i64 x1.Len, .bool x1.Has, .int .i64 x1.Members, .int .i64 x1.Source, .int .i64 x1.At, .int .i64 x1.Total, p1_7, .int .i64 x1.Hop, .int .i64 x1.Seq, p1_8, p1_9, .int .i64 x1.Index, .int .i64 x1.Entry.Sess, .int .i64 x1.Entry.Seq, .int .i64 x1.Entry.Cmd.Kind, .int .i64 x1.Entry.Cmd.Who, p1_10, p1_11, p1_12] : List Value).toArray 29 (0, 0)), M_18] Z := hS'
        clear hs' hS'
        refine wpList_nil ?_
        refine x_then_n ⟨(hS.sub (.cons (Mem.le.refl _) (.cons (Mem.no_le _) (.cons (Mem.no_le _) (.cons (Mem.le.refl _) (Sub.nil _)))))), ?_⟩
        refine h_done (by kernel_rfl) ?_
        replace hm : Fr 68 a [(4, .bool false)] := hm.keep [4]
        refine x_then_n (hKJ_14 _ _ ?_)
        refine wp_seq ?_
        refine wp_region_lit ?_
        refine s_assign hm rfl rfl ?_
        clear hm a; intro a hm
        refine wpList_nil ?_
        replace hm : Fr 68 a [(4, .bool true)] := hm.keep [4]
        refine x_then_n ?_
        refine wp_ret ?_
        obtain rfl := Option.some.inj H
        exact f_ret hm (rs := [.tmp 4]) rfl (.tmp rfl .nil) ⟨_, rfl, v_24, p0_1, p0_2, p0_3, p0_4, p0_5, p0_6, N_5, M_25, rfl, (Sep.sel hS [0, 1, 2] (by decide)), (ho_26.mono (Mem.un_left (Mem.le.refl _))), (hp0_1.mono (Mem.le_un _ _)), (hp0_2.mono (Mem.le_un _ _)), (hp0_3.mono (Mem.le_un _ _)), (hp0_4.mono (Mem.le_un _ _)), (hp0_5.mono (Mem.le_un _ _)), (hp0_6.mono (Mem.le_un _ _))⟩
      · refine ⟨_, [true, true, true, true, false, true, true, false, false, false, false].toArray, rfl, rfl, ?_⟩
        have hq_33 : Reps k_api_Msg (A.un N_5) ([x1] : List api_Msg) _ := ((Reps.one (d := k_api_Msg) (x := x1) (k_api_Msg.mk' (hp1_7.mono (Mem.le_un _ _)) (hp1_8.mono (Mem.le_un _ _)) (hp1_9.mono (Mem.le_un _ _)) (hp1_10.mono (Mem.le_un _ _)) (hp1_11.mono (Mem.le_un _ _)) (hp1_12.mono (Mem.le_un _ _)))).append (Reps.nil k_api_Msg _))
        refine s_buildSlice hm rfl Try.underlying31 ti29 rfl rfl rfl (.cons rfl .nil) rfl rfl rfl hS hq_33 rfl ?_
        intro w_29 v_30 M_31 hS' ho_32
        clear hm a; intro a hm
        replace hS : Sep w0 w_29 [N_5, Mem.one g0 (.cells ([.int .i64 x0_n, .int .i64 x0_id, .int .i64 x0_v, p0_0, .int .i64 (bor .i64 x0_come (shl .i64 1 x1.From)), .int .i64 x0_ready, .int .i64 x0_commit_Kind, .int .i64 x0_commit_From, .int .i64 x0_commit_To, .int .i64 x0_commit_View, .int .i64 x0_commit_Inst, .int .i64 x0_commit_Len, .bool x0_commit_Has, .int .i64 x0_commit_Members, .int .i64 x0_commit_Source, .int .i64 x0_commit_At, .int .i64 x0_commit_Total, p0_1, .int .i64 x0_commit_Hop, .int .i64 x0_commit_Seq, p0_2, p0_3, .int .i64 x0_commit_Index, .int .i64 x0_commit_Entry_Sess, .int .i64 x0_commit_Entry_Seq, .int .i64 x0_commit_Entry_Cmd_Kind, .int .i64 x0_commit_Entry_Cmd_Who, p0_4, p0_5, p0_6, .bool x0_is] : List Value).toArray 80 (0, 0)), M0_0, Mem.one g_2 (.cells ([.int .i64 x1.Kind, .int .i64 x1.From, .int .i64 x1.To, .int .i64 x1.View, .int .i64 x1.Inst, .int .i64 x1.Len, .bool x1.Has, .int .i64 x1.Members, .int .i64 x1.Source, .int .i64 x1.At, .int .i64 x1.Total, p1_7, .int .i64 x1.Hop, .int .i64 x1.Seq, p1_8, p1_9, .int .i64 x1.Index, .int .i64 x1.Entry.Sess, .int .i64 x1.Entry.Seq, .int .i64 x1.Entry.Cmd.Kind, .int .i64 x1.Entry.Cmd.Who, p1_10, p1_11, p1_12] : List Value).toArray 29 (0, 0)), M_31] Z := hS'
        clear hS' hq_33
        refine wpList_nil ?_
        refine x_then_n ⟨(hS.sub (.cons (Mem.le.refl _) (.cons (Mem.no_le _) (.cons (Mem.no_le _) (.cons (Mem.le.refl _) (Sub.nil _)))))), ?_⟩
        refine h_event 4 [true, true, true, true, true, true, true, false, false, false, false].toArray rfl (by kernel_rfl) rfl ?_
        refine s_load hm rfl rfl (hS.load_one (p := 1) rfl Try.underlying31 rfl rfl) ?_
        clear hm a; intro a hm
        refine wpList_nil ?_
        refine x_then_n ⟨(hS.sub (.cons (Mem.le.refl _) (.cons (Mem.no_le _) (.cons (Mem.no_le _) (.cons (Mem.le.refl _) (Sub.nil _)))))), ?_⟩
        refine h_event 7 [true, true, true, true, true, true, true, true, false, false, false].toArray rfl (by kernel_rfl) rfl ?_
        refine s_append (J := (A.un N_5)) (I' := (A.un N_5)) (p := 2) 488671834567 hm rfl rfl rfl Try.underlying31 ti29 rfl rfl rfl rfl hS rfl hp0_0 (ho_32.src (hS.own 4)) (Mem.le_un _ _) (Mem.un_left (Mem.le.refl _)) et_22 ?_
        intro w_36 v_37 M_38 hS' ho_39
        clear hm a; intro a hm
        replace hS : Sep w0 w_36 [N_5, Mem.one g0 (.cells ([.int .i64 x0_n, .int .i64 x0_id, .int .i64 x0_v, p0_0, .int .i64 (bor .i64 x0_come (shl .i64 1 x1.From)), .int .i64 x0_ready, .int .i64 x0_commit_Kind, .int .i64 x0_commit_From, .int .i64 x0_commit_To, .int .i64 x0_commit_View, .int .i64 x0_commit_Inst, .int .i64 x0_commit_Len, .bool x0_commit_Has, .int .i64 x0_commit_Members, .int .i64 x0_commit_Source, .int .i64 x0_commit_At, .int .i64 x0_commit_Total, p0_1, .int .i64 x0_commit_Hop, .int .i64 x0_commit_Seq, p0_2, p0_3, .int .i64 x0_commit_Index, .int .i64 x0_commit_Entry_Sess, .int .i64 x0_commit_Entry_Seq, .int .i64 x0_commit_Entry_Cmd_Kind, .int .i64 x0_commit_Entry_Cmd_Who, p0_4, p0_5, p0_6, .bool x0_is] : List Value).toArray 80 (0, 0)), M_38, Mem.one g_2 (.cells ([.int .i64 x1.Kind, .int .i64 x1.From, .int .i64 x1.To, .int .i64 x1.View, .int .i64 x1.Inst, .int .i64 x1.Len, .bool x1.Has, .int .i64 x1.Members, .int .i64 x1.Source, .int .i64 x1.At, .int .i64 x1.Total, p1_7, .int .i64 x1.Hop, .int .i64 x1.Seq, p1_8, p1_9, .int .i64 x1.Index, .int .i64 x1.Entry.Sess, .int .i64 x1.Entry.Seq, .int .i64 x1.Entry.Cmd.Kind, .int .i64 x1.Entry.Cmd.Who, p1_10, p1_11, p1_12] : List Value).toArray 29 (0, 0)), M_31] Z := hS'
        clear hS'
        refine wpList_nil ?_
        refine x_then_n ⟨(hS.sub (.cons (Mem.le.refl _) (.cons (Mem.no_le _) (.cons (Mem.no_le _) (.cons (Mem.le.refl _) (Sub.nil _)))))), ?_⟩
        refine h_take 8 [true, true, true, true, true, true, true, true, true, false, false].toArray rfl (by kernel_rfl) (by kernel_rfl) (by kernel_rfl) (fun _ _ _ _ h => h) rfl rfl rfl rfl hm (hS.sub (.cons (Mem.le.refl _) (.cons (Mem.no_le _) (.cons (Mem.no_le _) (.cons (Mem.le.refl _) (Sub.nil _)))))) (v := .pointer (some ⟨g0, 0, none⟩)) (fun w hS => r_nilCheck hm rfl) ?_
        clear hm a; intro a hm
        refine h_take 9 [true, true, true, true, true, true, true, true, true, true, false].toArray rfl (by kernel_rfl) (by kernel_rfl) (by kernel_rfl) (fun _ _ _ _ h => h) rfl rfl rfl rfl hm (hS.sub (.cons (Mem.le.refl _) (.cons (Mem.no_le _) (.cons (Mem.no_le _) (.cons (Mem.le.refl _) (Sub.nil _)))))) (v := .pointer (some ⟨g0, 3, none⟩)) (fun w hS => r_fieldAddr hm Try.underlying80 rfl ti31 rfl rfl rfl) ?_
        clear hm a; intro a hm
        refine h_event 10 [true, true, true, true, true, true, true, true, true, true, true].toArray rfl (by kernel_rfl) rfl ?_
        obtain ⟨w_41, hs', hS'⟩ := hS.store (P := Try.prog) (p := 1) (o := 3) (t := 31) (v := v_37) (vs := [v_37]) rfl ti31 ho_39.cellsA rfl rfl (by intro u hu; simp only [List.mem_cons, List.not_mem_nil, or_false] at hu; rcases hu with rfl <;> first | rfl | exact ho_39.one)
        refine s_store hm rfl rfl hs' ?_
        replace hS : Sep w0 w_41 [N_5, Mem.one g0 (.cells ([.int .i64 x0_n, .int .i64 x0_id, .int .i64 x0_v, v_37, .int .i64 (bor .i64 x0_come (shl .i64 1 x1.From)), .int .i64 x0_ready, .int .i64 x0_commit_Kind, .int .i64 x0_commit_From, .int .i64 x0_commit_To, .int .i64 x0_commit_View, .int .i64 x0_commit_Inst, .int .i64 x0_commit_Len, .bool x0_commit_Has, .int .i64 x0_commit_Members, .int .i64 x0_commit_Source, .int .i64 x0_commit_At, .int .i64 x0_commit_Total, p0_1, .int .i64 x0_commit_Hop, .int .i64 x0_commit_Seq, p0_2, p0_3, .int .i64 x0_commit_Index, .int .i64 x0_commit_Entry_Sess, .int .i64 x0_commit_Entry_Seq, .int .i64 x0_commit_Entry_Cmd_Kind, .int .i64 x0_commit_Entry_Cmd_Who, p0_4, p0_5, p0_6, .bool x0_is] : List Value).toArray 80 (0, 0)), M_38, Mem.one g_2 (.cells ([.int .i64 x1.Kind, .int .i64 x1.From, .int .i64 x1.To, .int .i64 x1.View, .int .i64 x1.Inst, .int .i64 x1.Len, .bool x1.Has, .int .i64 x1.Members, .int .i64 x1.Source, .int .i64 x1.At, .int .i64 x1.Total, p1_7, .int .i64 x1.Hop, .int .i64 x1.Seq, p1_8, p1_9, .int .i64 x1.Index, .int .i64 x1.Entry.Sess, .int .i64 x1.Entry.Seq, .int .i64 x1.Entry.Cmd.Kind, .int .i64 x1.Entry.Cmd.Who, p1_10, p1_11, p1_12] : List Value).toArray 29 (0, 0)), M_31] Z := hS'
        clear hs' hS'
        refine wpList_nil ?_
        refine x_then_n ⟨(hS.sub (.cons (Mem.le.refl _) (.cons (Mem.no_le _) (.cons (Mem.no_le _) (.cons (Mem.le.refl _) (Sub.nil _)))))), ?_⟩
        refine h_done (by kernel_rfl) ?_
        replace hm : Fr 68 a [(4, .bool false)] := hm.keep [4]
        refine x_then_n (hKJ_14 _ _ ?_)
        refine wp_seq ?_
        refine wp_region_lit ?_
        refine s_assign hm rfl rfl ?_
        clear hm a; intro a hm
        refine wpList_nil ?_
        replace hm : Fr 68 a [(4, .bool true)] := hm.keep [4]
        refine x_then_n ?_
        refine wp_ret ?_
        obtain rfl := Option.some.inj H
        exact f_ret hm (rs := [.tmp 4]) rfl (.tmp rfl .nil) ⟨_, rfl, v_37, p0_1, p0_2, p0_3, p0_4, p0_5, p0_6, N_5, M_38, rfl, (Sep.sel hS [0, 1, 2] (by decide)), (ho_39.mono (Mem.un_left (Mem.le.refl _))), (hp0_1.mono (Mem.le_un _ _)), (hp0_2.mono (Mem.le_un _ _)), (hp0_3.mono (Mem.le_un _ _)), (hp0_4.mono (Mem.le_un _ _)), (hp0_5.mono (Mem.le_un _ _)), (hp0_6.mono (Mem.le_un _ _))⟩
  clear hKJ_4
  refine h_begin (S := fun w => Sep w0 w [Mem.no, Mem.one g0 (.cells ([.int .i64 x0_n, .int .i64 x0_id, .int .i64 x0_v, p0_0, .int .i64 x0_come, .int .i64 x0_ready, .int .i64 x0_commit_Kind, .int .i64 x0_commit_From, .int .i64 x0_commit_To, .int .i64 x0_commit_View, .int .i64 x0_commit_Inst, .int .i64 x0_commit_Len, .bool x0_commit_Has, .int .i64 x0_commit_Members, .int .i64 x0_commit_Source, .int .i64 x0_commit_At, .int .i64 x0_commit_Total, p0_1, .int .i64 x0_commit_Hop, .int .i64 x0_commit_Seq, p0_2, p0_3, .int .i64 x0_commit_Index, .int .i64 x0_commit_Entry_Sess, .int .i64 x0_commit_Entry_Seq, .int .i64 x0_commit_Entry_Cmd_Kind, .int .i64 x0_commit_Entry_Cmd_Who, p0_4, p0_5, p0_6, .bool x0_is] : List Value).toArray 80 (0, 0)), M0_0, Mem.one g_2 (.cells ([.int .i64 x1.Kind, .int .i64 x1.From, .int .i64 x1.To, .int .i64 x1.View, .int .i64 x1.Inst, .int .i64 x1.Len, .bool x1.Has, .int .i64 x1.Members, .int .i64 x1.Source, .int .i64 x1.At, .int .i64 x1.Total, p1_7, .int .i64 x1.Hop, .int .i64 x1.Seq, p1_8, p1_9, .int .i64 x1.Index, .int .i64 x1.Entry.Sess, .int .i64 x1.Entry.Seq, .int .i64 x1.Entry.Cmd.Kind, .int .i64 x1.Entry.Cmd.Who, p1_10, p1_11, p1_12] : List Value).toArray 29 (0, 0))] Z) 43 (by kernel_rfl) rfl [false, false, false, false, false, false, false, false, false, false, false, false, false, false, false, false, false, false, false, false, false, false, false, false, false, false, false, false, false, false, false, false, false, false, false, false, false, false, false, false, false, false, false].toArray rfl hS fun w_42 hS => ?_
  replace hS : Sep w0 w_42 [Mem.no, Mem.one g0 (.cells ([.int .i64 x0_n, .int .i64 x0_id, .int .i64 x0_v, p0_0, .int .i64 x0_come, .int .i64 x0_ready, .int .i64 x0_commit_Kind, .int .i64 x0_commit_From, .int .i64 x0_commit_To, .int .i64 x0_commit_View, .int .i64 x0_commit_Inst, .int .i64 x0_commit_Len, .bool x0_commit_Has, .int .i64 x0_commit_Members, .int .i64 x0_commit_Source, .int .i64 x0_commit_At, .int .i64 x0_commit_Total, p0_1, .int .i64 x0_commit_Hop, .int .i64 x0_commit_Seq, p0_2, p0_3, .int .i64 x0_commit_Index, .int .i64 x0_commit_Entry_Sess, .int .i64 x0_commit_Entry_Seq, .int .i64 x0_commit_Entry_Cmd_Kind, .int .i64 x0_commit_Entry_Cmd_Who, p0_4, p0_5, p0_6, .bool x0_is] : List Value).toArray 80 (0, 0)), M0_0, Mem.one g_2 (.cells ([.int .i64 x1.Kind, .int .i64 x1.From, .int .i64 x1.To, .int .i64 x1.View, .int .i64 x1.Inst, .int .i64 x1.Len, .bool x1.Has, .int .i64 x1.Members, .int .i64 x1.Source, .int .i64 x1.At, .int .i64 x1.Total, p1_7, .int .i64 x1.Hop, .int .i64 x1.Seq, p1_8, p1_9, .int .i64 x1.Index, .int .i64 x1.Entry.Sess, .int .i64 x1.Entry.Seq, .int .i64 x1.Entry.Cmd.Kind, .int .i64 x1.Entry.Cmd.Who, p1_10, p1_11, p1_12] : List Value).toArray 29 (0, 0))] Z := hS
  refine h_take 0 [true, false, false, false, false, false, false, false, false, false, false, false, false, false, false, false, false, false, false, false, false, false, false, false, false, false, false, false, false, false, false, false, false, false, false, false, false, false, false, false, false, false, false].toArray rfl (by kernel_rfl) (by kernel_rfl) (by kernel_rfl) (fun _ _ _ _ h => h) rfl rfl rfl rfl hm (hS.sub (.cons (Mem.le.refl _) (.cons (Mem.le.refl _) (.cons (Mem.le.refl _) (.cons (Mem.le.refl _) (Sub.nil _)))))) (v := .pointer (some ⟨g0, 0, none⟩)) (fun w hS => r_move hm rfl) ?_
  clear hm a; intro a hm
  refine h_take 1 [true, true, false, false, false, false, false, false, false, false, false, false, false, false, false, false, false, false, false, false, false, false, false, false, false, false, false, false, false, false, false, false, false, false, false, false, false, false, false, false, false, false, false].toArray rfl (by kernel_rfl) (by kernel_rfl) (by kernel_rfl) (fun _ _ _ _ h => h) rfl rfl rfl rfl hm (hS.sub (.cons (Mem.le.refl _) (.cons (Mem.le.refl _) (.cons (Mem.le.refl _) (.cons (Mem.le.refl _) (Sub.nil _)))))) (v := .pointer (some ⟨g0, 0, none⟩)) (fun w hS => r_nilCheck hm rfl) ?_
  clear hm a; intro a hm
  refine h_take 2 [true, true, true, false, false, false, false, false, false, false, false, false, false, false, false, false, false, false, false, false, false, false, false, false, false, false, false, false, false, false, false, false, false, false, false, false, false, false, false, false, false, false, false].toArray rfl (by kernel_rfl) (by kernel_rfl) (by kernel_rfl) (fun _ _ _ _ h => h) rfl rfl rfl rfl hm (hS.sub (.cons (Mem.le.refl _) (.cons (Mem.le.refl _) (.cons (Mem.le.refl _) (.cons (Mem.le.refl _) (Sub.nil _)))))) (v := .pointer (some ⟨g0, 30, none⟩)) (fun w hS => r_fieldAddr hm Try.underlying80 rfl ti4 rfl rfl rfl) ?_
  clear hm a; intro a hm
  refine h_take 3 [true, true, true, true, false, false, false, false, false, false, false, false, false, false, false, false, false, false, false, false, false, false, false, false, false, false, false, false, false, false, false, false, false, false, false, false, false, false, false, false, false, false, false].toArray rfl (by kernel_rfl) (by kernel_rfl) (by kernel_rfl) (fun _ _ _ _ h => h) rfl rfl rfl rfl hm (hS.sub (.cons (Mem.le.refl _) (.cons (Mem.le.refl _) (.cons (Mem.le.refl _) (.cons (Mem.le.refl _) (Sub.nil _)))))) (v := .bool x0_is) (fun w hS => r_load hm rfl (hS.load_one (p := 1) rfl Try.underlying4 rfl rfl)) ?_
  clear hm a; intro a hm
  refine h_take 4 [true, true, true, true, true, false, false, false, false, false, false, false, false, false, false, false, false, false, false, false, false, false, false, false, false, false, false, false, false, false, false, false, false, false, false, false, false, false, false, false, false, false, false].toArray rfl (by kernel_rfl) (by kernel_rfl) (by kernel_rfl) (fun _ _ _ _ h => h) rfl rfl rfl rfl hm (hS.sub (.cons (Mem.le.refl _) (.cons (Mem.le.refl _) (.cons (Mem.le.refl _) (.cons (Mem.le.refl _) (Sub.nil _)))))) (v := .bool x0_is) (fun w hS => r_move hm rfl) ?_
  clear hm a; intro a hm
  by_cases hc_43 : x0_is = true
  · rw [if_pos hc_43] at H
    refine h_take_off 5 [true, true, true, true, true, true, false, false, false, false, false, false, false, false, false, false, false, false, false, false, false, false, false, false, false, false, false, false, false, false, false, false, false, false, false, false, false, false, false, false, false, false, false].toArray rfl (by kernel_rfl) (by kernel_rfl) (by kernel_rfl) (fun _ _ _ _ h => h) rfl rfl rfl rfl (.inl (congrArg Value.bool hc_43)) rfl rfl hm (hS.sub (.cons (Mem.le.refl _) (.cons (Mem.le.refl _) (.cons (Mem.le.refl _) (.cons (Mem.le.refl _) (Sub.nil _)))))) ?_
    clear hm a; intro a hm
    refine h_take_off 6 [true, true, true, true, true, true, true, false, false, false, false, false, false, false, false, false, false, false, false, false, false, false, false, false, false, false, false, false, false, false, false, false, false, false, false, false, false, false, false, false, false, false, false].toArray rfl (by kernel_rfl) (by kernel_rfl) (by kernel_rfl) (fun _ _ _ _ h => h) rfl rfl rfl rfl (.inl (congrArg Value.bool hc_43)) rfl rfl hm (hS.sub (.cons (Mem.le.refl _) (.cons (Mem.le.refl _) (.cons (Mem.le.refl _) (.cons (Mem.le.refl _) (Sub.nil _)))))) ?_
    clear hm a; intro a hm
    refine h_take_off 7 [true, true, true, true, true, true, true, true, false, false, false, false, false, false, false, false, false, false, false, false, false, false, false, false, false, false, false, false, false, false, false, false, false, false, false, false, false, false, false, false, false, false, false].toArray rfl (by kernel_rfl) (by kernel_rfl) (by kernel_rfl) (fun _ _ _ _ h => h) rfl rfl rfl rfl (.inl (congrArg Value.bool hc_43)) rfl rfl hm (hS.sub (.cons (Mem.le.refl _) (.cons (Mem.le.refl _) (.cons (Mem.le.refl _) (.cons (Mem.le.refl _) (Sub.nil _)))))) ?_
    clear hm a; intro a hm
    refine h_take 8 [true, true, true, true, true, true, true, true, true, false, false, false, false, false, false, false, false, false, false, false, false, false, false, false, false, false, false, false, false, false, false, false, false, false, false, false, false, false, false, false, false, false, false].toArray rfl (by kernel_rfl) (by kernel_rfl) (by kernel_rfl) (fun _ _ _ _ h => h) rfl rfl rfl rfl hm (hS.sub (.cons (Mem.le.refl _) (.cons (Mem.le.refl _) (.cons (Mem.le.refl _) (.cons (Mem.le.refl _) (Sub.nil _)))))) (v := .bool true) (fun w hS => r_pick_t hm rfl hc_43 rfl) ?_
    clear hm a; intro a hm
    refine h_take 9 [true, true, true, true, true, true, true, true, true, true, false, false, false, false, false, false, false, false, false, false, false, false, false, false, false, false, false, false, false, false, false, false, false, false, false, false, false, false, false, false, false, false, false].toArray rfl (by kernel_rfl) (by kernel_rfl) (by kernel_rfl) (fun _ _ _ _ h => h) rfl rfl rfl rfl hm (hS.sub (.cons (Mem.le.refl _) (.cons (Mem.le.refl _) (.cons (Mem.le.refl _) (.cons (Mem.le.refl _) (Sub.nil _)))))) (v := .bool true) (fun w hS => r_move hm rfl) ?_
    clear hm a; intro a hm
    refine h_take_off 10 [true, true, true, true, true, true, true, true, true, true, true, false, false, false, false, false, false, false, false, false, false, false, false, false, false, false, false, false, false, false, false, false, false, false, false, false, false, false, false, false, false, false, false].toArray rfl (by kernel_rfl) (by kernel_rfl) (by kernel_rfl) (fun _ _ _ _ h => h) rfl rfl rfl rfl (.inl (congrArg Value.bool rfl)) rfl rfl hm (hS.sub (.cons (Mem.le.refl _) (.cons (Mem.le.refl _) (.cons (Mem.le.refl _) (.cons (Mem.le.refl _) (Sub.nil _)))))) ?_
    clear hm a; intro a hm
    refine h_take_off 11 [true, true, true, true, true, true, true, true, true, true, true, true, false, false, false, false, false, false, false, false, false, false, false, false, false, false, false, false, false, false, false, false, false, false, false, false, false, false, false, false, false, false, false].toArray rfl (by kernel_rfl) (by kernel_rfl) (by kernel_rfl) (fun _ _ _ _ h => h) rfl rfl rfl rfl (.inl (congrArg Value.bool rfl)) rfl rfl hm (hS.sub (.cons (Mem.le.refl _) (.cons (Mem.le.refl _) (.cons (Mem.le.refl _) (.cons (Mem.le.refl _) (Sub.nil _)))))) ?_
    clear hm a; intro a hm
    refine h_take_off 12 [true, true, true, true, true, true, true, true, true, true, true, true, true, false, false, false, false, false, false, false, false, false, false, false, false, false, false, false, false, false, false, false, false, false, false, false, false, false, false, false, false, false, false].toArray rfl (by kernel_rfl) (by kernel_rfl) (by kernel_rfl) (fun _ _ _ _ h => h) rfl rfl rfl rfl (.inl (congrArg Value.bool rfl)) rfl rfl hm (hS.sub (.cons (Mem.le.refl _) (.cons (Mem.le.refl _) (.cons (Mem.le.refl _) (.cons (Mem.le.refl _) (Sub.nil _)))))) ?_
    clear hm a; intro a hm
    refine h_take_off 13 [true, true, true, true, true, true, true, true, true, true, true, true, true, true, false, false, false, false, false, false, false, false, false, false, false, false, false, false, false, false, false, false, false, false, false, false, false, false, false, false, false, false, false].toArray rfl (by kernel_rfl) (by kernel_rfl) (by kernel_rfl) (fun _ _ _ _ h => h) rfl rfl rfl rfl (.inl (congrArg Value.bool rfl)) rfl rfl hm (hS.sub (.cons (Mem.le.refl _) (.cons (Mem.le.refl _) (.cons (Mem.le.refl _) (.cons (Mem.le.refl _) (Sub.nil _)))))) ?_
    clear hm a; intro a hm
    refine h_take_off 14 [true, true, true, true, true, true, true, true, true, true, true, true, true, true, true, false, false, false, false, false, false, false, false, false, false, false, false, false, false, false, false, false, false, false, false, false, false, false, false, false, false, false, false].toArray rfl (by kernel_rfl) (by kernel_rfl) (by kernel_rfl) (fun _ _ _ _ h => h) rfl rfl rfl rfl (.inl (congrArg Value.bool rfl)) rfl rfl hm (hS.sub (.cons (Mem.le.refl _) (.cons (Mem.le.refl _) (.cons (Mem.le.refl _) (.cons (Mem.le.refl _) (Sub.nil _)))))) ?_
    clear hm a; intro a hm
    refine h_take_off 15 [true, true, true, true, true, true, true, true, true, true, true, true, true, true, true, true, false, false, false, false, false, false, false, false, false, false, false, false, false, false, false, false, false, false, false, false, false, false, false, false, false, false, false].toArray rfl (by kernel_rfl) (by kernel_rfl) (by kernel_rfl) (fun _ _ _ _ h => h) rfl rfl rfl rfl (.inl (congrArg Value.bool rfl)) rfl rfl hm (hS.sub (.cons (Mem.le.refl _) (.cons (Mem.le.refl _) (.cons (Mem.le.refl _) (.cons (Mem.le.refl _) (Sub.nil _)))))) ?_
    clear hm a; intro a hm
    refine h_take_off 16 [true, true, true, true, true, true, true, true, true, true, true, true, true, true, true, true, true, false, false, false, false, false, false, false, false, false, false, false, false, false, false, false, false, false, false, false, false, false, false, false, false, false, false].toArray rfl (by kernel_rfl) (by kernel_rfl) (by kernel_rfl) (fun _ _ _ _ h => h) rfl rfl rfl rfl (.inl (congrArg Value.bool rfl)) rfl rfl hm (hS.sub (.cons (Mem.le.refl _) (.cons (Mem.le.refl _) (.cons (Mem.le.refl _) (.cons (Mem.le.refl _) (Sub.nil _)))))) ?_
    clear hm a; intro a hm
    refine h_take 17 [true, true, true, true, true, true, true, true, true, true, true, true, true, true, true, true, true, true, false, false, false, false, false, false, false, false, false, false, false, false, false, false, false, false, false, false, false, false, false, false, false, false, false].toArray rfl (by kernel_rfl) (by kernel_rfl) (by kernel_rfl) (fun _ _ _ _ h => h) rfl rfl rfl rfl hm (hS.sub (.cons (Mem.le.refl _) (.cons (Mem.le.refl _) (.cons (Mem.le.refl _) (.cons (Mem.le.refl _) (Sub.nil _)))))) (v := .bool true) (fun w hS => r_pick_t hm rfl rfl rfl) ?_
    clear hm a; intro a hm
    refine h_take 18 [true, true, true, true, true, true, true, true, true, true, true, true, true, true, true, true, true, true, true, false, false, false, false, false, false, false, false, false, false, false, false, false, false, false, false, false, false, false, false, false, false, false, false].toArray rfl (by kernel_rfl) (by kernel_rfl) (by kernel_rfl) (fun _ _ _ _ h => h) rfl rfl rfl rfl hm (hS.sub (.cons (Mem.le.refl _) (.cons (Mem.le.refl _) (.cons (Mem.le.refl _) (.cons (Mem.le.refl _) (Sub.nil _)))))) (v := .bool true) (fun w hS => r_move hm rfl) ?_
    clear hm a; intro a hm
    refine h_take_off 19 [true, true, true, true, true, true, true, true, true, true, true, true, true, true, true, true, true, true, true, true, false, false, false, false, false, false, false, false, false, false, false, false, false, false, false, false, false, false, false, false, false, false, false].toArray rfl (by kernel_rfl) (by kernel_rfl) (by kernel_rfl) (fun _ _ _ _ h => h) rfl rfl rfl rfl (.inl (congrArg Value.bool rfl)) rfl rfl hm (hS.sub (.cons (Mem.le.refl _) (.cons (Mem.le.refl _) (.cons (Mem.le.refl _) (.cons (Mem.le.refl _) (Sub.nil _)))))) ?_
    clear hm a; intro a hm
    refine h_take_off 20 [true, true, true, true, true, true, true, true, true, true, true, true, true, true, true, true, true, true, true, true, true, false, false, false, false, false, false, false, false, false, false, false, false, false, false, false, false, false, false, false, false, false, false].toArray rfl (by kernel_rfl) (by kernel_rfl) (by kernel_rfl) (fun _ _ _ _ h => h) rfl rfl rfl rfl (.inl (congrArg Value.bool rfl)) rfl rfl hm (hS.sub (.cons (Mem.le.refl _) (.cons (Mem.le.refl _) (.cons (Mem.le.refl _) (.cons (Mem.le.refl _) (Sub.nil _)))))) ?_
    clear hm a; intro a hm
    refine h_take_off 21 [true, true, true, true, true, true, true, true, true, true, true, true, true, true, true, true, true, true, true, true, true, true, false, false, false, false, false, false, false, false, false, false, false, false, false, false, false, false, false, false, false, false, false].toArray rfl (by kernel_rfl) (by kernel_rfl) (by kernel_rfl) (fun _ _ _ _ h => h) rfl rfl rfl rfl (.inl (congrArg Value.bool rfl)) rfl rfl hm (hS.sub (.cons (Mem.le.refl _) (.cons (Mem.le.refl _) (.cons (Mem.le.refl _) (.cons (Mem.le.refl _) (Sub.nil _)))))) ?_
    clear hm a; intro a hm
    refine h_take 22 [true, true, true, true, true, true, true, true, true, true, true, true, true, true, true, true, true, true, true, true, true, true, true, false, false, false, false, false, false, false, false, false, false, false, false, false, false, false, false, false, false, false, false].toArray rfl (by kernel_rfl) (by kernel_rfl) (by kernel_rfl) (fun _ _ _ _ h => h) rfl rfl rfl rfl hm (hS.sub (.cons (Mem.le.refl _) (.cons (Mem.le.refl _) (.cons (Mem.le.refl _) (.cons (Mem.le.refl _) (Sub.nil _)))))) (v := .bool true) (fun w hS => r_pick_t hm rfl rfl rfl) ?_
    clear hm a; intro a hm
    refine h_take 23 [true, true, true, true, true, true, true, true, true, true, true, true, true, true, true, true, true, true, true, true, true, true, true, true, false, false, false, false, false, false, false, false, false, false, false, false, false, false, false, false, false, false, false].toArray rfl (by kernel_rfl) (by kernel_rfl) (by kernel_rfl) (fun _ _ _ _ h => h) rfl rfl rfl rfl hm (hS.sub (.cons (Mem.le.refl _) (.cons (Mem.le.refl _) (.cons (Mem.le.refl _) (.cons (Mem.le.refl _) (Sub.nil _)))))) (v := .bool true) (fun w hS => r_move hm rfl) ?_
    clear hm a; intro a hm
    refine h_take_off 24 [true, true, true, true, true, true, true, true, true, true, true, true, true, true, true, true, true, true, true, true, true, true, true, true, true, false, false, false, false, false, false, false, false, false, false, false, false, false, false, false, false, false, false].toArray rfl (by kernel_rfl) (by kernel_rfl) (by kernel_rfl) (fun _ _ _ _ h => h) rfl rfl rfl rfl (.inl (congrArg Value.bool rfl)) rfl rfl hm (hS.sub (.cons (Mem.le.refl _) (.cons (Mem.le.refl _) (.cons (Mem.le.refl _) (.cons (Mem.le.refl _) (Sub.nil _)))))) ?_
    clear hm a; intro a hm
    refine h_take_off 25 [true, true, true, true, true, true, true, true, true, true, true, true, true, true, true, true, true, true, true, true, true, true, true, true, true, true, false, false, false, false, false, false, false, false, false, false, false, false, false, false, false, false, false].toArray rfl (by kernel_rfl) (by kernel_rfl) (by kernel_rfl) (fun _ _ _ _ h => h) rfl rfl rfl rfl (.inl (congrArg Value.bool rfl)) rfl rfl hm (hS.sub (.cons (Mem.le.refl _) (.cons (Mem.le.refl _) (.cons (Mem.le.refl _) (.cons (Mem.le.refl _) (Sub.nil _)))))) ?_
    clear hm a; intro a hm
    refine h_take_off 26 [true, true, true, true, true, true, true, true, true, true, true, true, true, true, true, true, true, true, true, true, true, true, true, true, true, true, true, false, false, false, false, false, false, false, false, false, false, false, false, false, false, false, false].toArray rfl (by kernel_rfl) (by kernel_rfl) (by kernel_rfl) (fun _ _ _ _ h => h) rfl rfl rfl rfl (.inl (congrArg Value.bool rfl)) rfl rfl hm (hS.sub (.cons (Mem.le.refl _) (.cons (Mem.le.refl _) (.cons (Mem.le.refl _) (.cons (Mem.le.refl _) (Sub.nil _)))))) ?_
    clear hm a; intro a hm
    refine h_take_off 27 [true, true, true, true, true, true, true, true, true, true, true, true, true, true, true, true, true, true, true, true, true, true, true, true, true, true, true, true, false, false, false, false, false, false, false, false, false, false, false, false, false, false, false].toArray rfl (by kernel_rfl) (by kernel_rfl) (by kernel_rfl) (fun _ _ _ _ h => h) rfl rfl rfl rfl (.inl (congrArg Value.bool rfl)) rfl rfl hm (hS.sub (.cons (Mem.le.refl _) (.cons (Mem.le.refl _) (.cons (Mem.le.refl _) (.cons (Mem.le.refl _) (Sub.nil _)))))) ?_
    clear hm a; intro a hm
    refine h_take_off 28 [true, true, true, true, true, true, true, true, true, true, true, true, true, true, true, true, true, true, true, true, true, true, true, true, true, true, true, true, true, false, false, false, false, false, false, false, false, false, false, false, false, false, false].toArray rfl (by kernel_rfl) (by kernel_rfl) (by kernel_rfl) (fun _ _ _ _ h => h) rfl rfl rfl rfl (.inl (congrArg Value.bool rfl)) rfl rfl hm (hS.sub (.cons (Mem.le.refl _) (.cons (Mem.le.refl _) (.cons (Mem.le.refl _) (.cons (Mem.le.refl _) (Sub.nil _)))))) ?_
    clear hm a; intro a hm
    refine h_take_off 29 [true, true, true, true, true, true, true, true, true, true, true, true, true, true, true, true, true, true, true, true, true, true, true, true, true, true, true, true, true, true, false, false, false, false, false, false, false, false, false, false, false, false, false].toArray rfl (by kernel_rfl) (by kernel_rfl) (by kernel_rfl) (fun _ _ _ _ h => h) rfl rfl rfl rfl (.inl (congrArg Value.bool rfl)) rfl rfl hm (hS.sub (.cons (Mem.le.refl _) (.cons (Mem.le.refl _) (.cons (Mem.le.refl _) (.cons (Mem.le.refl _) (Sub.nil _)))))) ?_
    clear hm a; intro a hm
    refine h_take_off 30 [true, true, true, true, true, true, true, true, true, true, true, true, true, true, true, true, true, true, true, true, true, true, true, true, true, true, true, true, true, true, true, false, false, false, false, false, false, false, false, false, false, false, false].toArray rfl (by kernel_rfl) (by kernel_rfl) (by kernel_rfl) (fun _ _ _ _ h => h) rfl rfl rfl rfl (.inl (congrArg Value.bool rfl)) rfl rfl hm (hS.sub (.cons (Mem.le.refl _) (.cons (Mem.le.refl _) (.cons (Mem.le.refl _) (.cons (Mem.le.refl _) (Sub.nil _)))))) ?_
    clear hm a; intro a hm
    refine h_take 31 [true, true, true, true, true, true, true, true, true, true, true, true, true, true, true, true, true, true, true, true, true, true, true, true, true, true, true, true, true, true, true, true, false, false, false, false, false, false, false, false, false, false, false].toArray rfl (by kernel_rfl) (by kernel_rfl) (by kernel_rfl) (fun _ _ _ _ h => h) rfl rfl rfl rfl hm (hS.sub (.cons (Mem.le.refl _) (.cons (Mem.le.refl _) (.cons (Mem.le.refl _) (.cons (Mem.le.refl _) (Sub.nil _)))))) (v := .bool true) (fun w hS => r_pick_t hm rfl rfl rfl) ?_
    clear hm a; intro a hm
    refine h_take 32 [true, true, true, true, true, true, true, true, true, true, true, true, true, true, true, true, true, true, true, true, true, true, true, true, true, true, true, true, true, true, true, true, true, false, false, false, false, false, false, false, false, false, false].toArray rfl (by kernel_rfl) (by kernel_rfl) (by kernel_rfl) (fun _ _ _ _ h => h) rfl rfl rfl rfl hm (hS.sub (.cons (Mem.le.refl _) (.cons (Mem.le.refl _) (.cons (Mem.le.refl _) (.cons (Mem.le.refl _) (Sub.nil _)))))) (v := .bool true) (fun w hS => r_move hm rfl) ?_
    clear hm a; intro a hm
    refine h_take_off 33 [true, true, true, true, true, true, true, true, true, true, true, true, true, true, true, true, true, true, true, true, true, true, true, true, true, true, true, true, true, true, true, true, true, true, false, false, false, false, false, false, false, false, false].toArray rfl (by kernel_rfl) (by kernel_rfl) (by kernel_rfl) (fun _ _ _ _ h => h) rfl rfl rfl rfl (.inl (congrArg Value.bool rfl)) rfl rfl hm (hS.sub (.cons (Mem.le.refl _) (.cons (Mem.le.refl _) (.cons (Mem.le.refl _) (.cons (Mem.le.refl _) (Sub.nil _)))))) ?_
    clear hm a; intro a hm
    refine h_take_off 34 [true, true, true, true, true, true, true, true, true, true, true, true, true, true, true, true, true, true, true, true, true, true, true, true, true, true, true, true, true, true, true, true, true, true, true, false, false, false, false, false, false, false, false].toArray rfl (by kernel_rfl) (by kernel_rfl) (by kernel_rfl) (fun _ _ _ _ h => h) rfl rfl rfl rfl (.inl (congrArg Value.bool rfl)) rfl rfl hm (hS.sub (.cons (Mem.le.refl _) (.cons (Mem.le.refl _) (.cons (Mem.le.refl _) (.cons (Mem.le.refl _) (Sub.nil _)))))) ?_
    clear hm a; intro a hm
    refine h_take_off 35 [true, true, true, true, true, true, true, true, true, true, true, true, true, true, true, true, true, true, true, true, true, true, true, true, true, true, true, true, true, true, true, true, true, true, true, true, false, false, false, false, false, false, false].toArray rfl (by kernel_rfl) (by kernel_rfl) (by kernel_rfl) (fun _ _ _ _ h => h) rfl rfl rfl rfl (.inl (congrArg Value.bool rfl)) rfl rfl hm (hS.sub (.cons (Mem.le.refl _) (.cons (Mem.le.refl _) (.cons (Mem.le.refl _) (.cons (Mem.le.refl _) (Sub.nil _)))))) ?_
    clear hm a; intro a hm
    refine h_take_off 36 [true, true, true, true, true, true, true, true, true, true, true, true, true, true, true, true, true, true, true, true, true, true, true, true, true, true, true, true, true, true, true, true, true, true, true, true, true, false, false, false, false, false, false].toArray rfl (by kernel_rfl) (by kernel_rfl) (by kernel_rfl) (fun _ _ _ _ h => h) rfl rfl rfl rfl (.inl (congrArg Value.bool rfl)) rfl rfl hm (hS.sub (.cons (Mem.le.refl _) (.cons (Mem.le.refl _) (.cons (Mem.le.refl _) (.cons (Mem.le.refl _) (Sub.nil _)))))) ?_
    clear hm a; intro a hm
    refine h_take_off 37 [true, true, true, true, true, true, true, true, true, true, true, true, true, true, true, true, true, true, true, true, true, true, true, true, true, true, true, true, true, true, true, true, true, true, true, true, true, true, false, false, false, false, false].toArray rfl (by kernel_rfl) (by kernel_rfl) (by kernel_rfl) (fun _ _ _ _ h => h) rfl rfl rfl rfl (.inl (congrArg Value.bool rfl)) rfl rfl hm (hS.sub (.cons (Mem.le.refl _) (.cons (Mem.le.refl _) (.cons (Mem.le.refl _) (.cons (Mem.le.refl _) (Sub.nil _)))))) ?_
    clear hm a; intro a hm
    refine h_take_off 38 [true, true, true, true, true, true, true, true, true, true, true, true, true, true, true, true, true, true, true, true, true, true, true, true, true, true, true, true, true, true, true, true, true, true, true, true, true, true, true, false, false, false, false].toArray rfl (by kernel_rfl) (by kernel_rfl) (by kernel_rfl) (fun _ _ _ _ h => h) rfl rfl rfl rfl (.inl (congrArg Value.bool rfl)) rfl rfl hm (hS.sub (.cons (Mem.le.refl _) (.cons (Mem.le.refl _) (.cons (Mem.le.refl _) (.cons (Mem.le.refl _) (Sub.nil _)))))) ?_
    clear hm a; intro a hm
    refine h_take_off 39 [true, true, true, true, true, true, true, true, true, true, true, true, true, true, true, true, true, true, true, true, true, true, true, true, true, true, true, true, true, true, true, true, true, true, true, true, true, true, true, true, false, false, false].toArray rfl (by kernel_rfl) (by kernel_rfl) (by kernel_rfl) (fun _ _ _ _ h => h) rfl rfl rfl rfl (.inl (congrArg Value.bool rfl)) rfl rfl hm (hS.sub (.cons (Mem.le.refl _) (.cons (Mem.le.refl _) (.cons (Mem.le.refl _) (.cons (Mem.le.refl _) (Sub.nil _)))))) ?_
    clear hm a; intro a hm
    refine h_take_off 40 [true, true, true, true, true, true, true, true, true, true, true, true, true, true, true, true, true, true, true, true, true, true, true, true, true, true, true, true, true, true, true, true, true, true, true, true, true, true, true, true, true, false, false].toArray rfl (by kernel_rfl) (by kernel_rfl) (by kernel_rfl) (fun _ _ _ _ h => h) rfl rfl rfl rfl (.inl (congrArg Value.bool rfl)) rfl rfl hm (hS.sub (.cons (Mem.le.refl _) (.cons (Mem.le.refl _) (.cons (Mem.le.refl _) (.cons (Mem.le.refl _) (Sub.nil _)))))) ?_
    clear hm a; intro a hm
    refine h_take_off 41 [true, true, true, true, true, true, true, true, true, true, true, true, true, true, true, true, true, true, true, true, true, true, true, true, true, true, true, true, true, true, true, true, true, true, true, true, true, true, true, true, true, true, false].toArray rfl (by kernel_rfl) (by kernel_rfl) (by kernel_rfl) (fun _ _ _ _ h => h) rfl rfl rfl rfl (.inl (congrArg Value.bool rfl)) rfl rfl hm (hS.sub (.cons (Mem.le.refl _) (.cons (Mem.le.refl _) (.cons (Mem.le.refl _) (.cons (Mem.le.refl _) (Sub.nil _)))))) ?_
    clear hm a; intro a hm
    refine h_take 42 [true, true, true, true, true, true, true, true, true, true, true, true, true, true, true, true, true, true, true, true, true, true, true, true, true, true, true, true, true, true, true, true, true, true, true, true, true, true, true, true, true, true, true].toArray rfl (by kernel_rfl) (by kernel_rfl) (by kernel_rfl) (fun _ _ _ _ h => h) rfl rfl rfl rfl hm (hS.sub (.cons (Mem.le.refl _) (.cons (Mem.le.refl _) (.cons (Mem.le.refl _) (.cons (Mem.le.refl _) (Sub.nil _)))))) (v := .bool true) (fun w hS => r_pick_t hm rfl rfl rfl) ?_
    clear hm a; intro a hm
    refine h_done (by kernel_rfl) ?_
    replace hm : Fr 68 a [(0, .pointer (some ⟨g0, 0, none⟩)), (3, .pointer (some ⟨g_2, 0, none⟩)), (4, .bool false), (47, .bool true)] := hm.keep [0, 3, 4, 47]
    replace hS : Sep w0 w_42 [Mem.no, Mem.one g0 (.cells ([.int .i64 x0_n, .int .i64 x0_id, .int .i64 x0_v, p0_0, .int .i64 x0_come, .int .i64 x0_ready, .int .i64 x0_commit_Kind, .int .i64 x0_commit_From, .int .i64 x0_commit_To, .int .i64 x0_commit_View, .int .i64 x0_commit_Inst, .int .i64 x0_commit_Len, .bool x0_commit_Has, .int .i64 x0_commit_Members, .int .i64 x0_commit_Source, .int .i64 x0_commit_At, .int .i64 x0_commit_Total, p0_1, .int .i64 x0_commit_Hop, .int .i64 x0_commit_Seq, p0_2, p0_3, .int .i64 x0_commit_Index, .int .i64 x0_commit_Entry_Sess, .int .i64 x0_commit_Entry_Seq, .int .i64 x0_commit_Entry_Cmd_Kind, .int .i64 x0_commit_Entry_Cmd_Who, p0_4, p0_5, p0_6, .bool x0_is] : List Value).toArray 80 (0, 0)), M0_0, Mem.one g_2 (.cells ([.int .i64 x1.Kind, .int .i64 x1.From, .int .i64 x1.To, .int .i64 x1.View, .int .i64 x1.Inst, .int .i64 x1.Len, .bool x1.Has, .int .i64 x1.Members, .int .i64 x1.Source, .int .i64 x1.At, .int .i64 x1.Total, p1_7, .int .i64 x1.Hop, .int .i64 x1.Seq, p1_8, p1_9, .int .i64 x1.Index, .int .i64 x1.Entry.Sess, .int .i64 x1.Entry.Seq, .int .i64 x1.Entry.Cmd.Kind, .int .i64 x1.Entry.Cmd.Who, p1_10, p1_11, p1_12] : List Value).toArray 29 (0, 0))] Z := hS
    replace hm : Fr 68 a [(0, .pointer (some ⟨g0, 0, none⟩)), (3, .pointer (some ⟨g_2, 0, none⟩)), (4, .bool false), (47, .bool true)] := hm.keep [0, 3, 4, 47]
    exact x_then_n (hJ_j_8 true H _ _ ⟨Mem.no, hm, (Sep.sel hS [0, 1, 2, 3] (by decide)), (Mem.le.refl _)⟩)
  · rw [if_neg hc_43] at H
    refine h_take_on 5 [true, true, true, true, true, true, false, false, false, false, false, false, false, false, false, false, false, false, false, false, false, false, false, false, false, false, false, false, false, false, false, false, false, false, false, false, false, false, false, false, false, false, false].toArray rfl (by kernel_rfl) (by kernel_rfl) (by kernel_rfl) (fun _ _ _ _ h => h) rfl rfl rfl rfl (Bool.eq_false_iff.2 hc_43) rfl rfl hm (hS.sub (.cons (Mem.le.refl _) (.cons (Mem.le.refl _) (.cons (Mem.le.refl _) (.cons (Mem.le.refl _) (Sub.nil _)))))) (v := .pointer (some ⟨g_2, 0, none⟩)) (fun w hS => r_fieldAddr hm Try.underlying29 rfl ti3 rfl rfl rfl) ?_
    clear hm a; intro a hm
    refine h_take_on 6 [true, true, true, true, true, true, true, false, false, false, false, false, false, false, false, false, false, false, false, false, false, false, false, false, false, false, false, false, false, false, false, false, false, false, false, false, false, false, false, false, false, false, false].toArray rfl (by kernel_rfl) (by kernel_rfl) (by kernel_rfl) (fun _ _ _ _ h => h) rfl rfl rfl rfl (Bool.eq_false_iff.2 hc_43) rfl rfl hm (hS.sub (.cons (Mem.le.refl _) (.cons (Mem.le.refl _) (.cons (Mem.le.refl _) (.cons (Mem.le.refl _) (Sub.nil _)))))) (v := .int .i64 x1.Kind) (fun w hS => r_load hm rfl (hS.load_one (p := 3) rfl Try.underlying3 rfl rfl)) ?_
    clear hm a; intro a hm
    refine h_take_on 7 [true, true, true, true, true, true, true, true, false, false, false, false, false, false, false, false, false, false, false, false, false, false, false, false, false, false, false, false, false, false, false, false, false, false, false, false, false, false, false, false, false, false, false].toArray rfl (by kernel_rfl) (by kernel_rfl) (by kernel_rfl) (fun _ _ _ _ h => h) rfl rfl rfl rfl (Bool.eq_false_iff.2 hc_43) rfl rfl hm (hS.sub (.cons (Mem.le.refl _) (.cons (Mem.le.refl _) (.cons (Mem.le.refl _) (.cons (Mem.le.refl _) (Sub.nil _)))))) (v := .bool (x1.Kind != 2)) (fun w hS => r_cmp (b := (x1.Kind != 2)) hm rfl rfl (.inr (.inl ⟨rfl, rfl⟩))) ?_
    clear hm a; intro a hm
    refine h_take 8 [true, true, true, true, true, true, true, true, true, false, false, false, false, false, false, false, false, false, false, false, false, false, false, false, false, false, false, false, false, false, false, false, false, false, false, false, false, false, false, false, false, false, false].toArray rfl (by kernel_rfl) (by kernel_rfl) (by kernel_rfl) (fun _ _ _ _ h => h) rfl rfl rfl rfl hm (hS.sub (.cons (Mem.le.refl _) (.cons (Mem.le.refl _) (.cons (Mem.le.refl _) (.cons (Mem.le.refl _) (Sub.nil _)))))) (v := .bool (x1.Kind != 2)) (fun w hS => r_pick_f hm rfl (Bool.eq_false_iff.2 hc_43) rfl) ?_
    clear hm a; intro a hm
    refine h_take 9 [true, true, true, true, true, true, true, true, true, true, false, false, false, false, false, false, false, false, false, false, false, false, false, false, false, false, false, false, false, false, false, false, false, false, false, false, false, false, false, false, false, false, false].toArray rfl (by kernel_rfl) (by kernel_rfl) (by kernel_rfl) (fun _ _ _ _ h => h) rfl rfl rfl rfl hm (hS.sub (.cons (Mem.le.refl _) (.cons (Mem.le.refl _) (.cons (Mem.le.refl _) (.cons (Mem.le.refl _) (Sub.nil _)))))) (v := .bool (x1.Kind != 2)) (fun w hS => r_move hm rfl) ?_
    clear hm a; intro a hm
    by_cases hc_44 : x1.Kind = 2
    · rw [if_pos hc_44] at H
      refine h_take_on 10 [true, true, true, true, true, true, true, true, true, true, true, false, false, false, false, false, false, false, false, false, false, false, false, false, false, false, false, false, false, false, false, false, false, false, false, false, false, false, false, false, false, false, false].toArray rfl (by kernel_rfl) (by kernel_rfl) (by kernel_rfl) (fun _ _ _ _ h => h) rfl rfl rfl rfl (bne_eq_false_iff_eq.2 hc_44) rfl rfl hm (hS.sub (.cons (Mem.le.refl _) (.cons (Mem.le.refl _) (.cons (Mem.le.refl _) (.cons (Mem.le.refl _) (Sub.nil _)))))) (v := .pointer (some ⟨g_2, 3, none⟩)) (fun w hS => r_fieldAddr hm Try.underlying29 rfl ti3 rfl rfl rfl) ?_
      clear hm a; intro a hm
      refine h_take_on 11 [true, true, true, true, true, true, true, true, true, true, true, true, false, false, false, false, false, false, false, false, false, false, false, false, false, false, false, false, false, false, false, false, false, false, false, false, false, false, false, false, false, false, false].toArray rfl (by kernel_rfl) (by kernel_rfl) (by kernel_rfl) (fun _ _ _ _ h => h) rfl rfl rfl rfl (bne_eq_false_iff_eq.2 hc_44) rfl rfl hm (hS.sub (.cons (Mem.le.refl _) (.cons (Mem.le.refl _) (.cons (Mem.le.refl _) (.cons (Mem.le.refl _) (Sub.nil _)))))) (v := .int .i64 x1.View) (fun w hS => r_load hm rfl (hS.load_one (p := 3) rfl Try.underlying3 rfl rfl)) ?_
      clear hm a; intro a hm
      refine h_take_on 12 [true, true, true, true, true, true, true, true, true, true, true, true, true, false, false, false, false, false, false, false, false, false, false, false, false, false, false, false, false, false, false, false, false, false, false, false, false, false, false, false, false, false, false].toArray rfl (by kernel_rfl) (by kernel_rfl) (by kernel_rfl) (fun _ _ _ _ h => h) rfl rfl rfl rfl (bne_eq_false_iff_eq.2 hc_44) rfl rfl hm (hS.sub (.cons (Mem.le.refl _) (.cons (Mem.le.refl _) (.cons (Mem.le.refl _) (.cons (Mem.le.refl _) (Sub.nil _)))))) (v := .pointer (some ⟨g0, 0, none⟩)) (fun w hS => r_move hm rfl) ?_
      clear hm a; intro a hm
      refine h_take_on 13 [true, true, true, true, true, true, true, true, true, true, true, true, true, true, false, false, false, false, false, false, false, false, false, false, false, false, false, false, false, false, false, false, false, false, false, false, false, false, false, false, false, false, false].toArray rfl (by kernel_rfl) (by kernel_rfl) (by kernel_rfl) (fun _ _ _ _ h => h) rfl rfl rfl rfl (bne_eq_false_iff_eq.2 hc_44) rfl rfl hm (hS.sub (.cons (Mem.le.refl _) (.cons (Mem.le.refl _) (.cons (Mem.le.refl _) (.cons (Mem.le.refl _) (Sub.nil _)))))) (v := .pointer (some ⟨g0, 0, none⟩)) (fun w hS => r_nilCheck hm rfl) ?_
      clear hm a; intro a hm
      refine h_take_on 14 [true, true, true, true, true, true, true, true, true, true, true, true, true, true, true, false, false, false, false, false, false, false, false, false, false, false, false, false, false, false, false, false, false, false, false, false, false, false, false, false, false, false, false].toArray rfl (by kernel_rfl) (by kernel_rfl) (by kernel_rfl) (fun _ _ _ _ h => h) rfl rfl rfl rfl (bne_eq_false_iff_eq.2 hc_44) rfl rfl hm (hS.sub (.cons (Mem.le.refl _) (.cons (Mem.le.refl _) (.cons (Mem.le.refl _) (.cons (Mem.le.refl _) (Sub.nil _)))))) (v := .pointer (some ⟨g0, 2, none⟩)) (fun w hS => r_fieldAddr hm Try.underlying80 rfl ti3 rfl rfl rfl) ?_
      clear hm a; intro a hm
      refine h_take_on 15 [true, true, true, true, true, true, true, true, true, true, true, true, true, true, true, true, false, false, false, false, false, false, false, false, false, false, false, false, false, false, false, false, false, false, false, false, false, false, false, false, false, false, false].toArray rfl (by kernel_rfl) (by kernel_rfl) (by kernel_rfl) (fun _ _ _ _ h => h) rfl rfl rfl rfl (bne_eq_false_iff_eq.2 hc_44) rfl rfl hm (hS.sub (.cons (Mem.le.refl _) (.cons (Mem.le.refl _) (.cons (Mem.le.refl _) (.cons (Mem.le.refl _) (Sub.nil _)))))) (v := .int .i64 x0_v) (fun w hS => r_load hm rfl (hS.load_one (p := 1) rfl Try.underlying3 rfl rfl)) ?_
      clear hm a; intro a hm
      refine h_take_on 16 [true, true, true, true, true, true, true, true, true, true, true, true, true, true, true, true, true, false, false, false, false, false, false, false, false, false, false, false, false, false, false, false, false, false, false, false, false, false, false, false, false, false, false].toArray rfl (by kernel_rfl) (by kernel_rfl) (by kernel_rfl) (fun _ _ _ _ h => h) rfl rfl rfl rfl (bne_eq_false_iff_eq.2 hc_44) rfl rfl hm (hS.sub (.cons (Mem.le.refl _) (.cons (Mem.le.refl _) (.cons (Mem.le.refl _) (.cons (Mem.le.refl _) (Sub.nil _)))))) (v := .bool (x1.View != x0_v)) (fun w hS => r_cmp (b := (x1.View != x0_v)) hm rfl rfl (.inr (.inl ⟨rfl, rfl⟩))) ?_
      clear hm a; intro a hm
      refine h_take 17 [true, true, true, true, true, true, true, true, true, true, true, true, true, true, true, true, true, true, false, false, false, false, false, false, false, false, false, false, false, false, false, false, false, false, false, false, false, false, false, false, false, false, false].toArray rfl (by kernel_rfl) (by kernel_rfl) (by kernel_rfl) (fun _ _ _ _ h => h) rfl rfl rfl rfl hm (hS.sub (.cons (Mem.le.refl _) (.cons (Mem.le.refl _) (.cons (Mem.le.refl _) (.cons (Mem.le.refl _) (Sub.nil _)))))) (v := .bool (x1.View != x0_v)) (fun w hS => r_pick_f hm rfl (bne_eq_false_iff_eq.2 hc_44) rfl) ?_
      clear hm a; intro a hm
      refine h_take 18 [true, true, true, true, true, true, true, true, true, true, true, true, true, true, true, true, true, true, true, false, false, false, false, false, false, false, false, false, false, false, false, false, false, false, false, false, false, false, false, false, false, false, false].toArray rfl (by kernel_rfl) (by kernel_rfl) (by kernel_rfl) (fun _ _ _ _ h => h) rfl rfl rfl rfl hm (hS.sub (.cons (Mem.le.refl _) (.cons (Mem.le.refl _) (.cons (Mem.le.refl _) (.cons (Mem.le.refl _) (Sub.nil _)))))) (v := .bool (x1.View != x0_v)) (fun w hS => r_move hm rfl) ?_
      clear hm a; intro a hm
      by_cases hc_45 : x1.View = x0_v
      · rw [if_pos hc_45] at H
        refine h_take_on 19 [true, true, true, true, true, true, true, true, true, true, true, true, true, true, true, true, true, true, true, true, false, false, false, false, false, false, false, false, false, false, false, false, false, false, false, false, false, false, false, false, false, false, false].toArray rfl (by kernel_rfl) (by kernel_rfl) (by kernel_rfl) (fun _ _ _ _ h => h) rfl rfl rfl rfl (bne_eq_false_iff_eq.2 hc_45) rfl rfl hm (hS.sub (.cons (Mem.le.refl _) (.cons (Mem.le.refl _) (.cons (Mem.le.refl _) (.cons (Mem.le.refl _) (Sub.nil _)))))) (v := .pointer (some ⟨g_2, 1, none⟩)) (fun w hS => r_fieldAddr hm Try.underlying29 rfl ti3 rfl rfl rfl) ?_
        clear hm a; intro a hm
        refine h_take_on 20 [true, true, true, true, true, true, true, true, true, true, true, true, true, true, true, true, true, true, true, true, true, false, false, false, false, false, false, false, false, false, false, false, false, false, false, false, false, false, false, false, false, false, false].toArray rfl (by kernel_rfl) (by kernel_rfl) (by kernel_rfl) (fun _ _ _ _ h => h) rfl rfl rfl rfl (bne_eq_false_iff_eq.2 hc_45) rfl rfl hm (hS.sub (.cons (Mem.le.refl _) (.cons (Mem.le.refl _) (.cons (Mem.le.refl _) (.cons (Mem.le.refl _) (Sub.nil _)))))) (v := .int .i64 x1.From) (fun w hS => r_load hm rfl (hS.load_one (p := 3) rfl Try.underlying3 rfl rfl)) ?_
        clear hm a; intro a hm
        refine h_take_on 21 [true, true, true, true, true, true, true, true, true, true, true, true, true, true, true, true, true, true, true, true, true, true, false, false, false, false, false, false, false, false, false, false, false, false, false, false, false, false, false, false, false, false, false].toArray rfl (by kernel_rfl) (by kernel_rfl) (by kernel_rfl) (fun _ _ _ _ h => h) rfl rfl rfl rfl (bne_eq_false_iff_eq.2 hc_45) rfl rfl hm (hS.sub (.cons (Mem.le.refl _) (.cons (Mem.le.refl _) (.cons (Mem.le.refl _) (.cons (Mem.le.refl _) (Sub.nil _)))))) (v := .bool (decide (x1.From < 0))) (fun w hS => r_cmp (b := decide (x1.From < 0)) hm rfl rfl (.inr (.inr (.inl ⟨rfl, rfl⟩)))) ?_
        clear hm a; intro a hm
        refine h_take 22 [true, true, true, true, true, true, true, true, true, true, true, true, true, true, true, true, true, true, true, true, true, true, true, false, false, false, false, false, false, false, false, false, false, false, false, false, false, false, false, false, false, false, false].toArray rfl (by kernel_rfl) (by kernel_rfl) (by kernel_rfl) (fun _ _ _ _ h => h) rfl rfl rfl rfl hm (hS.sub (.cons (Mem.le.refl _) (.cons (Mem.le.refl _) (.cons (Mem.le.refl _) (.cons (Mem.le.refl _) (Sub.nil _)))))) (v := .bool (decide (x1.From < 0))) (fun w hS => r_pick_f hm rfl (bne_eq_false_iff_eq.2 hc_45) rfl) ?_
        clear hm a; intro a hm
        refine h_take 23 [true, true, true, true, true, true, true, true, true, true, true, true, true, true, true, true, true, true, true, true, true, true, true, true, false, false, false, false, false, false, false, false, false, false, false, false, false, false, false, false, false, false, false].toArray rfl (by kernel_rfl) (by kernel_rfl) (by kernel_rfl) (fun _ _ _ _ h => h) rfl rfl rfl rfl hm (hS.sub (.cons (Mem.le.refl _) (.cons (Mem.le.refl _) (.cons (Mem.le.refl _) (.cons (Mem.le.refl _) (Sub.nil _)))))) (v := .bool (decide (x1.From < 0))) (fun w hS => r_move hm rfl) ?_
        clear hm a; intro a hm
        by_cases hc_46 : x1.From < 0
        · rw [if_pos hc_46] at H
          refine h_take_off 24 [true, true, true, true, true, true, true, true, true, true, true, true, true, true, true, true, true, true, true, true, true, true, true, true, true, false, false, false, false, false, false, false, false, false, false, false, false, false, false, false, false, false, false].toArray rfl (by kernel_rfl) (by kernel_rfl) (by kernel_rfl) (fun _ _ _ _ h => h) rfl rfl rfl rfl (.inl (congrArg Value.bool (decide_eq_true hc_46))) rfl rfl hm (hS.sub (.cons (Mem.le.refl _) (.cons (Mem.le.refl _) (.cons (Mem.le.refl _) (.cons (Mem.le.refl _) (Sub.nil _)))))) ?_
          clear hm a; intro a hm
          refine h_take_off 25 [true, true, true, true, true, true, true, true, true, true, true, true, true, true, true, true, true, true, true, true, true, true, true, true, true, true, false, false, false, false, false, false, false, false, false, false, false, false, false, false, false, false, false].toArray rfl (by kernel_rfl) (by kernel_rfl) (by kernel_rfl) (fun _ _ _ _ h => h) rfl rfl rfl rfl (.inl (congrArg Value.bool (decide_eq_true hc_46))) rfl rfl hm (hS.sub (.cons (Mem.le.refl _) (.cons (Mem.le.refl _) (.cons (Mem.le.refl _) (.cons (Mem.le.refl _) (Sub.nil _)))))) ?_
          clear hm a; intro a hm
          refine h_take_off 26 [true, true, true, true, true, true, true, true, true, true, true, true, true, true, true, true, true, true, true, true, true, true, true, true, true, true, true, false, false, false, false, false, false, false, false, false, false, false, false, false, false, false, false].toArray rfl (by kernel_rfl) (by kernel_rfl) (by kernel_rfl) (fun _ _ _ _ h => h) rfl rfl rfl rfl (.inl (congrArg Value.bool (decide_eq_true hc_46))) rfl rfl hm (hS.sub (.cons (Mem.le.refl _) (.cons (Mem.le.refl _) (.cons (Mem.le.refl _) (.cons (Mem.le.refl _) (Sub.nil _)))))) ?_
          clear hm a; intro a hm
          refine h_take_off 27 [true, true, true, true, true, true, true, true, true, true, true, true, true, true, true, true, true, true, true, true, true, true, true, true, true, true, true, true, false, false, false, false, false, false, false, false, false, false, false, false, false, false, false].toArray rfl (by kernel_rfl) (by kernel_rfl) (by kernel_rfl) (fun _ _ _ _ h => h) rfl rfl rfl rfl (.inl (congrArg Value.bool (decide_eq_true hc_46))) rfl rfl hm (hS.sub (.cons (Mem.le.refl _) (.cons (Mem.le.refl _) (.cons (Mem.le.refl _) (.cons (Mem.le.refl _) (Sub.nil _)))))) ?_
          clear hm a; intro a hm
          refine h_take_off 28 [true, true, true, true, true, true, true, true, true, true, true, true, true, true, true, true, true, true, true, true, true, true, true, true, true, true, true, true, true, false, false, false, false, false, false, false, false, false, false, false, false, false, false].toArray rfl (by kernel_rfl) (by kernel_rfl) (by kernel_rfl) (fun _ _ _ _ h => h) rfl rfl rfl rfl (.inl (congrArg Value.bool (decide_eq_true hc_46))) rfl rfl hm (hS.sub (.cons (Mem.le.refl _) (.cons (Mem.le.refl _) (.cons (Mem.le.refl _) (.cons (Mem.le.refl _) (Sub.nil _)))))) ?_
          clear hm a; intro a hm
          refine h_take_off 29 [true, true, true, true, true, true, true, true, true, true, true, true, true, true, true, true, true, true, true, true, true, true, true, true, true, true, true, true, true, true, false, false, false, false, false, false, false, false, false, false, false, false, false].toArray rfl (by kernel_rfl) (by kernel_rfl) (by kernel_rfl) (fun _ _ _ _ h => h) rfl rfl rfl rfl (.inl (congrArg Value.bool (decide_eq_true hc_46))) rfl rfl hm (hS.sub (.cons (Mem.le.refl _) (.cons (Mem.le.refl _) (.cons (Mem.le.refl _) (.cons (Mem.le.refl _) (Sub.nil _)))))) ?_
          clear hm a; intro a hm
          refine h_take_off 30 [true, true, true, true, true, true, true, true, true, true, true, true, true, true, true, true, true, true, true, true, true, true, true, true, true, true, true, true, true, true, true, false, false, false, false, false, false, false, false, false, false, false, false].toArray rfl (by kernel_rfl) (by kernel_rfl) (by kernel_rfl) (fun _ _ _ _ h => h) rfl rfl rfl rfl (.inl (congrArg Value.bool (decide_eq_true hc_46))) rfl rfl hm (hS.sub (.cons (Mem.le.refl _) (.cons (Mem.le.refl _) (.cons (Mem.le.refl _) (.cons (Mem.le.refl _) (Sub.nil _)))))) ?_
          clear hm a; intro a hm
          refine h_take 31 [true, true, true, true, true, true, true, true, true, true, true, true, true, true, true, true, true, true, true, true, true, true, true, true, true, true, true, true, true, true, true, true, false, false, false, false, false, false, false, false, false, false, false].toArray rfl (by kernel_rfl) (by kernel_rfl) (by kernel_rfl) (fun _ _ _ _ h => h) rfl rfl rfl rfl hm (hS.sub (.cons (Mem.le.refl _) (.cons (Mem.le.refl _) (.cons (Mem.le.refl _) (.cons (Mem.le.refl _) (Sub.nil _)))))) (v := .bool true) (fun w hS => r_pick_t hm rfl (decide_eq_true hc_46) rfl) ?_
          clear hm a; intro a hm
          refine h_take 32 [true, true, true, true, true, true, true, true, true, true, true, true, true, true, true, true, true, true, true, true, true, true, true, true, true, true, true, true, true, true, true, true, true, false, false, false, false, false, false, false, false, false, false].toArray rfl (by kernel_rfl) (by kernel_rfl) (by kernel_rfl) (fun _ _ _ _ h => h) rfl rfl rfl rfl hm (hS.sub (.cons (Mem.le.refl _) (.cons (Mem.le.refl _) (.cons (Mem.le.refl _) (.cons (Mem.le.refl _) (Sub.nil _)))))) (v := .bool true) (fun w hS => r_move hm rfl) ?_
          clear hm a; intro a hm
          refine h_take_off 33 [true, true, true, true, true, true, true, true, true, true, true, true, true, true, true, true, true, true, true, true, true, true, true, true, true, true, true, true, true, true, true, true, true, true, false, false, false, false, false, false, false, false, false].toArray rfl (by kernel_rfl) (by kernel_rfl) (by kernel_rfl) (fun _ _ _ _ h => h) rfl rfl rfl rfl (.inl (congrArg Value.bool rfl)) rfl rfl hm (hS.sub (.cons (Mem.le.refl _) (.cons (Mem.le.refl _) (.cons (Mem.le.refl _) (.cons (Mem.le.refl _) (Sub.nil _)))))) ?_
          clear hm a; intro a hm
          refine h_take_off 34 [true, true, true, true, true, true, true, true, true, true, true, true, true, true, true, true, true, true, true, true, true, true, true, true, true, true, true, true, true, true, true, true, true, true, true, false, false, false, false, false, false, false, false].toArray rfl (by kernel_rfl) (by kernel_rfl) (by kernel_rfl) (fun _ _ _ _ h => h) rfl rfl rfl rfl (.inl (congrArg Value.bool rfl)) rfl rfl hm (hS.sub (.cons (Mem.le.refl _) (.cons (Mem.le.refl _) (.cons (Mem.le.refl _) (.cons (Mem.le.refl _) (Sub.nil _)))))) ?_
          clear hm a; intro a hm
          refine h_take_off 35 [true, true, true, true, true, true, true, true, true, true, true, true, true, true, true, true, true, true, true, true, true, true, true, true, true, true, true, true, true, true, true, true, true, true, true, true, false, false, false, false, false, false, false].toArray rfl (by kernel_rfl) (by kernel_rfl) (by kernel_rfl) (fun _ _ _ _ h => h) rfl rfl rfl rfl (.inl (congrArg Value.bool rfl)) rfl rfl hm (hS.sub (.cons (Mem.le.refl _) (.cons (Mem.le.refl _) (.cons (Mem.le.refl _) (.cons (Mem.le.refl _) (Sub.nil _)))))) ?_
          clear hm a; intro a hm
          refine h_take_off 36 [true, true, true, true, true, true, true, true, true, true, true, true, true, true, true, true, true, true, true, true, true, true, true, true, true, true, true, true, true, true, true, true, true, true, true, true, true, false, false, false, false, false, false].toArray rfl (by kernel_rfl) (by kernel_rfl) (by kernel_rfl) (fun _ _ _ _ h => h) rfl rfl rfl rfl (.inl (congrArg Value.bool rfl)) rfl rfl hm (hS.sub (.cons (Mem.le.refl _) (.cons (Mem.le.refl _) (.cons (Mem.le.refl _) (.cons (Mem.le.refl _) (Sub.nil _)))))) ?_
          clear hm a; intro a hm
          refine h_take_off 37 [true, true, true, true, true, true, true, true, true, true, true, true, true, true, true, true, true, true, true, true, true, true, true, true, true, true, true, true, true, true, true, true, true, true, true, true, true, true, false, false, false, false, false].toArray rfl (by kernel_rfl) (by kernel_rfl) (by kernel_rfl) (fun _ _ _ _ h => h) rfl rfl rfl rfl (.inl (congrArg Value.bool rfl)) rfl rfl hm (hS.sub (.cons (Mem.le.refl _) (.cons (Mem.le.refl _) (.cons (Mem.le.refl _) (.cons (Mem.le.refl _) (Sub.nil _)))))) ?_
          clear hm a; intro a hm
          refine h_take_off 38 [true, true, true, true, true, true, true, true, true, true, true, true, true, true, true, true, true, true, true, true, true, true, true, true, true, true, true, true, true, true, true, true, true, true, true, true, true, true, true, false, false, false, false].toArray rfl (by kernel_rfl) (by kernel_rfl) (by kernel_rfl) (fun _ _ _ _ h => h) rfl rfl rfl rfl (.inl (congrArg Value.bool rfl)) rfl rfl hm (hS.sub (.cons (Mem.le.refl _) (.cons (Mem.le.refl _) (.cons (Mem.le.refl _) (.cons (Mem.le.refl _) (Sub.nil _)))))) ?_
          clear hm a; intro a hm
          refine h_take_off 39 [true, true, true, true, true, true, true, true, true, true, true, true, true, true, true, true, true, true, true, true, true, true, true, true, true, true, true, true, true, true, true, true, true, true, true, true, true, true, true, true, false, false, false].toArray rfl (by kernel_rfl) (by kernel_rfl) (by kernel_rfl) (fun _ _ _ _ h => h) rfl rfl rfl rfl (.inl (congrArg Value.bool rfl)) rfl rfl hm (hS.sub (.cons (Mem.le.refl _) (.cons (Mem.le.refl _) (.cons (Mem.le.refl _) (.cons (Mem.le.refl _) (Sub.nil _)))))) ?_
          clear hm a; intro a hm
          refine h_take_off 40 [true, true, true, true, true, true, true, true, true, true, true, true, true, true, true, true, true, true, true, true, true, true, true, true, true, true, true, true, true, true, true, true, true, true, true, true, true, true, true, true, true, false, false].toArray rfl (by kernel_rfl) (by kernel_rfl) (by kernel_rfl) (fun _ _ _ _ h => h) rfl rfl rfl rfl (.inl (congrArg Value.bool rfl)) rfl rfl hm (hS.sub (.cons (Mem.le.refl _) (.cons (Mem.le.refl _) (.cons (Mem.le.refl _) (.cons (Mem.le.refl _) (Sub.nil _)))))) ?_
          clear hm a; intro a hm
          refine h_take_off 41 [true, true, true, true, true, true, true, true, true, true, true, true, true, true, true, true, true, true, true, true, true, true, true, true, true, true, true, true, true, true, true, true, true, true, true, true, true, true, true, true, true, true, false].toArray rfl (by kernel_rfl) (by kernel_rfl) (by kernel_rfl) (fun _ _ _ _ h => h) rfl rfl rfl rfl (.inl (congrArg Value.bool rfl)) rfl rfl hm (hS.sub (.cons (Mem.le.refl _) (.cons (Mem.le.refl _) (.cons (Mem.le.refl _) (.cons (Mem.le.refl _) (Sub.nil _)))))) ?_
          clear hm a; intro a hm
          refine h_take 42 [true, true, true, true, true, true, true, true, true, true, true, true, true, true, true, true, true, true, true, true, true, true, true, true, true, true, true, true, true, true, true, true, true, true, true, true, true, true, true, true, true, true, true].toArray rfl (by kernel_rfl) (by kernel_rfl) (by kernel_rfl) (fun _ _ _ _ h => h) rfl rfl rfl rfl hm (hS.sub (.cons (Mem.le.refl _) (.cons (Mem.le.refl _) (.cons (Mem.le.refl _) (.cons (Mem.le.refl _) (Sub.nil _)))))) (v := .bool true) (fun w hS => r_pick_t hm rfl rfl rfl) ?_
          clear hm a; intro a hm
          refine h_done (by kernel_rfl) ?_
          replace hm : Fr 68 a [(0, .pointer (some ⟨g0, 0, none⟩)), (3, .pointer (some ⟨g_2, 0, none⟩)), (4, .bool false), (47, .bool true)] := hm.keep [0, 3, 4, 47]
          replace hS : Sep w0 w_42 [Mem.no, Mem.one g0 (.cells ([.int .i64 x0_n, .int .i64 x0_id, .int .i64 x0_v, p0_0, .int .i64 x0_come, .int .i64 x0_ready, .int .i64 x0_commit_Kind, .int .i64 x0_commit_From, .int .i64 x0_commit_To, .int .i64 x0_commit_View, .int .i64 x0_commit_Inst, .int .i64 x0_commit_Len, .bool x0_commit_Has, .int .i64 x0_commit_Members, .int .i64 x0_commit_Source, .int .i64 x0_commit_At, .int .i64 x0_commit_Total, p0_1, .int .i64 x0_commit_Hop, .int .i64 x0_commit_Seq, p0_2, p0_3, .int .i64 x0_commit_Index, .int .i64 x0_commit_Entry_Sess, .int .i64 x0_commit_Entry_Seq, .int .i64 x0_commit_Entry_Cmd_Kind, .int .i64 x0_commit_Entry_Cmd_Who, p0_4, p0_5, p0_6, .bool x0_is] : List Value).toArray 80 (0, 0)), M0_0, Mem.one g_2 (.cells ([.int .i64 x1.Kind, .int .i64 x1.From, .int .i64 x1.To, .int .i64 x1.View, .int .i64 x1.Inst, .int .i64 x1.Len, .bool x1.Has, .int .i64 x1.Members, .int .i64 x1.Source, .int .i64 x1.At, .int .i64 x1.Total, p1_7, .int .i64 x1.Hop, .int .i64 x1.Seq, p1_8, p1_9, .int .i64 x1.Index, .int .i64 x1.Entry.Sess, .int .i64 x1.Entry.Seq, .int .i64 x1.Entry.Cmd.Kind, .int .i64 x1.Entry.Cmd.Who, p1_10, p1_11, p1_12] : List Value).toArray 29 (0, 0))] Z := hS
          replace hm : Fr 68 a [(0, .pointer (some ⟨g0, 0, none⟩)), (3, .pointer (some ⟨g_2, 0, none⟩)), (4, .bool false), (47, .bool true)] := hm.keep [0, 3, 4, 47]
          exact x_then_n (hJ_j_8 true H _ _ ⟨Mem.no, hm, (Sep.sel hS [0, 1, 2, 3] (by decide)), (Mem.le.refl _)⟩)
        · rw [if_neg hc_46] at H
          refine h_take_on 24 [true, true, true, true, true, true, true, true, true, true, true, true, true, true, true, true, true, true, true, true, true, true, true, true, true, false, false, false, false, false, false, false, false, false, false, false, false, false, false, false, false, false, false].toArray rfl (by kernel_rfl) (by kernel_rfl) (by kernel_rfl) (fun _ _ _ _ h => h) rfl rfl rfl rfl (decide_eq_false hc_46) rfl rfl hm (hS.sub (.cons (Mem.le.refl _) (.cons (Mem.le.refl _) (.cons (Mem.le.refl _) (.cons (Mem.le.refl _) (Sub.nil _)))))) (v := .pointer (some ⟨g_2, 1, none⟩)) (fun w hS => r_fieldAddr hm Try.underlying29 rfl ti3 rfl rfl rfl) ?_
          clear hm a; intro a hm
          refine h_take_on 25 [true, true, true, true, true, true, true, true, true, true, true, true, true, true, true, true, true, true, true, true, true, true, true, true, true, true, false, false, false, false, false, false, false, false, false, false, false, false, false, false, false, false, false].toArray rfl (by kernel_rfl) (by kernel_rfl) (by kernel_rfl) (fun _ _ _ _ h => h) rfl rfl rfl rfl (decide_eq_false hc_46) rfl rfl hm (hS.sub (.cons (Mem.le.refl _) (.cons (Mem.le.refl _) (.cons (Mem.le.refl _) (.cons (Mem.le.refl _) (Sub.nil _)))))) (v := .int .i64 x1.From) (fun w hS => r_load hm rfl (hS.load_one (p := 3) rfl Try.underlying3 rfl rfl)) ?_
          clear hm a; intro a hm
          refine h_take_on 26 [true, true, true, true, true, true, true, true, true, true, true, true, true, true, true, true, true, true, true, true, true, true, true, true, true, true, true, false, false, false, false, false, false, false, false, false, false, false, false, false, false, false, false].toArray rfl (by kernel_rfl) (by kernel_rfl) (by kernel_rfl) (fun _ _ _ _ h => h) rfl rfl rfl rfl (decide_eq_false hc_46) rfl rfl hm (hS.sub (.cons (Mem.le.refl _) (.cons (Mem.le.refl _) (.cons (Mem.le.refl _) (.cons (Mem.le.refl _) (Sub.nil _)))))) (v := .pointer (some ⟨g0, 0, none⟩)) (fun w hS => r_move hm rfl) ?_
          clear hm a; intro a hm
          refine h_take_on 27 [true, true, true, true, true, true, true, true, true, true, true, true, true, true, true, true, true, true, true, true, true, true, true, true, true, true, true, true, false, false, false, false, false, false, false, false, false, false, false, false, false, false, false].toArray rfl (by kernel_rfl) (by kernel_rfl) (by kernel_rfl) (fun _ _ _ _ h => h) rfl rfl rfl rfl (decide_eq_false hc_46) rfl rfl hm (hS.sub (.cons (Mem.le.refl _) (.cons (Mem.le.refl _) (.cons (Mem.le.refl _) (.cons (Mem.le.refl _) (Sub.nil _)))))) (v := .pointer (some ⟨g0, 0, none⟩)) (fun w hS => r_nilCheck hm rfl) ?_
          clear hm a; intro a hm
          refine h_take_on 28 [true, true, true, true, true, true, true, true, true, true, true, true, true, true, true, true, true, true, true, true, true, true, true, true, true, true, true, true, true, false, false, false, false, false, false, false, false, false, false, false, false, false, false].toArray rfl (by kernel_rfl) (by kernel_rfl) (by kernel_rfl) (fun _ _ _ _ h => h) rfl rfl rfl rfl (decide_eq_false hc_46) rfl rfl hm (hS.sub (.cons (Mem.le.refl _) (.cons (Mem.le.refl _) (.cons (Mem.le.refl _) (.cons (Mem.le.refl _) (Sub.nil _)))))) (v := .pointer (some ⟨g0, 0, none⟩)) (fun w hS => r_fieldAddr hm Try.underlying80 rfl ti3 rfl rfl rfl) ?_
          clear hm a; intro a hm
          refine h_take_on 29 [true, true, true, true, true, true, true, true, true, true, true, true, true, true, true, true, true, true, true, true, true, true, true, true, true, true, true, true, true, true, false, false, false, false, false, false, false, false, false, false, false, false, false].toArray rfl (by kernel_rfl) (by kernel_rfl) (by kernel_rfl) (fun _ _ _ _ h => h) rfl rfl rfl rfl (decide_eq_false hc_46) rfl rfl hm (hS.sub (.cons (Mem.le.refl _) (.cons (Mem.le.refl _) (.cons (Mem.le.refl _) (.cons (Mem.le.refl _) (Sub.nil _)))))) (v := .int .i64 x0_n) (fun w hS => r_load hm rfl (hS.load_one (p := 1) rfl Try.underlying3 rfl rfl)) ?_
          clear hm a; intro a hm
          refine h_take_on 30 [true, true, true, true, true, true, true, true, true, true, true, true, true, true, true, true, true, true, true, true, true, true, true, true, true, true, true, true, true, true, true, false, false, false, false, false, false, false, false, false, false, false, false].toArray rfl (by kernel_rfl) (by kernel_rfl) (by kernel_rfl) (fun _ _ _ _ h => h) rfl rfl rfl rfl (decide_eq_false hc_46) rfl rfl hm (hS.sub (.cons (Mem.le.refl _) (.cons (Mem.le.refl _) (.cons (Mem.le.refl _) (.cons (Mem.le.refl _) (Sub.nil _)))))) (v := .bool (decide (x1.From ≥ x0_n))) (fun w hS => r_cmp (b := decide (x1.From ≥ x0_n)) hm rfl rfl (.inr (.inr (.inr (.inr (.inr ⟨rfl, rfl⟩)))))) ?_
          clear hm a; intro a hm
          refine h_take 31 [true, true, true, true, true, true, true, true, true, true, true, true, true, true, true, true, true, true, true, true, true, true, true, true, true, true, true, true, true, true, true, true, false, false, false, false, false, false, false, false, false, false, false].toArray rfl (by kernel_rfl) (by kernel_rfl) (by kernel_rfl) (fun _ _ _ _ h => h) rfl rfl rfl rfl hm (hS.sub (.cons (Mem.le.refl _) (.cons (Mem.le.refl _) (.cons (Mem.le.refl _) (.cons (Mem.le.refl _) (Sub.nil _)))))) (v := .bool (decide (x1.From ≥ x0_n))) (fun w hS => r_pick_f hm rfl (decide_eq_false hc_46) rfl) ?_
          clear hm a; intro a hm
          refine h_take 32 [true, true, true, true, true, true, true, true, true, true, true, true, true, true, true, true, true, true, true, true, true, true, true, true, true, true, true, true, true, true, true, true, true, false, false, false, false, false, false, false, false, false, false].toArray rfl (by kernel_rfl) (by kernel_rfl) (by kernel_rfl) (fun _ _ _ _ h => h) rfl rfl rfl rfl hm (hS.sub (.cons (Mem.le.refl _) (.cons (Mem.le.refl _) (.cons (Mem.le.refl _) (.cons (Mem.le.refl _) (Sub.nil _)))))) (v := .bool (decide (x1.From ≥ x0_n))) (fun w hS => r_move hm rfl) ?_
          clear hm a; intro a hm
          by_cases hc_47 : x1.From ≥ x0_n
          · rw [if_pos hc_47] at H
            refine h_take_off 33 [true, true, true, true, true, true, true, true, true, true, true, true, true, true, true, true, true, true, true, true, true, true, true, true, true, true, true, true, true, true, true, true, true, true, false, false, false, false, false, false, false, false, false].toArray rfl (by kernel_rfl) (by kernel_rfl) (by kernel_rfl) (fun _ _ _ _ h => h) rfl rfl rfl rfl (.inl (congrArg Value.bool (decide_eq_true hc_47))) rfl rfl hm (hS.sub (.cons (Mem.le.refl _) (.cons (Mem.le.refl _) (.cons (Mem.le.refl _) (.cons (Mem.le.refl _) (Sub.nil _)))))) ?_
            clear hm a; intro a hm
            refine h_take_off 34 [true, true, true, true, true, true, true, true, true, true, true, true, true, true, true, true, true, true, true, true, true, true, true, true, true, true, true, true, true, true, true, true, true, true, true, false, false, false, false, false, false, false, false].toArray rfl (by kernel_rfl) (by kernel_rfl) (by kernel_rfl) (fun _ _ _ _ h => h) rfl rfl rfl rfl (.inl (congrArg Value.bool (decide_eq_true hc_47))) rfl rfl hm (hS.sub (.cons (Mem.le.refl _) (.cons (Mem.le.refl _) (.cons (Mem.le.refl _) (.cons (Mem.le.refl _) (Sub.nil _)))))) ?_
            clear hm a; intro a hm
            refine h_take_off 35 [true, true, true, true, true, true, true, true, true, true, true, true, true, true, true, true, true, true, true, true, true, true, true, true, true, true, true, true, true, true, true, true, true, true, true, true, false, false, false, false, false, false, false].toArray rfl (by kernel_rfl) (by kernel_rfl) (by kernel_rfl) (fun _ _ _ _ h => h) rfl rfl rfl rfl (.inl (congrArg Value.bool (decide_eq_true hc_47))) rfl rfl hm (hS.sub (.cons (Mem.le.refl _) (.cons (Mem.le.refl _) (.cons (Mem.le.refl _) (.cons (Mem.le.refl _) (Sub.nil _)))))) ?_
            clear hm a; intro a hm
            refine h_take_off 36 [true, true, true, true, true, true, true, true, true, true, true, true, true, true, true, true, true, true, true, true, true, true, true, true, true, true, true, true, true, true, true, true, true, true, true, true, true, false, false, false, false, false, false].toArray rfl (by kernel_rfl) (by kernel_rfl) (by kernel_rfl) (fun _ _ _ _ h => h) rfl rfl rfl rfl (.inl (congrArg Value.bool (decide_eq_true hc_47))) rfl rfl hm (hS.sub (.cons (Mem.le.refl _) (.cons (Mem.le.refl _) (.cons (Mem.le.refl _) (.cons (Mem.le.refl _) (Sub.nil _)))))) ?_
            clear hm a; intro a hm
            refine h_take_off 37 [true, true, true, true, true, true, true, true, true, true, true, true, true, true, true, true, true, true, true, true, true, true, true, true, true, true, true, true, true, true, true, true, true, true, true, true, true, true, false, false, false, false, false].toArray rfl (by kernel_rfl) (by kernel_rfl) (by kernel_rfl) (fun _ _ _ _ h => h) rfl rfl rfl rfl (.inl (congrArg Value.bool (decide_eq_true hc_47))) rfl rfl hm (hS.sub (.cons (Mem.le.refl _) (.cons (Mem.le.refl _) (.cons (Mem.le.refl _) (.cons (Mem.le.refl _) (Sub.nil _)))))) ?_
            clear hm a; intro a hm
            refine h_take_off 38 [true, true, true, true, true, true, true, true, true, true, true, true, true, true, true, true, true, true, true, true, true, true, true, true, true, true, true, true, true, true, true, true, true, true, true, true, true, true, true, false, false, false, false].toArray rfl (by kernel_rfl) (by kernel_rfl) (by kernel_rfl) (fun _ _ _ _ h => h) rfl rfl rfl rfl (.inl (congrArg Value.bool (decide_eq_true hc_47))) rfl rfl hm (hS.sub (.cons (Mem.le.refl _) (.cons (Mem.le.refl _) (.cons (Mem.le.refl _) (.cons (Mem.le.refl _) (Sub.nil _)))))) ?_
            clear hm a; intro a hm
            refine h_take_off 39 [true, true, true, true, true, true, true, true, true, true, true, true, true, true, true, true, true, true, true, true, true, true, true, true, true, true, true, true, true, true, true, true, true, true, true, true, true, true, true, true, false, false, false].toArray rfl (by kernel_rfl) (by kernel_rfl) (by kernel_rfl) (fun _ _ _ _ h => h) rfl rfl rfl rfl (.inl (congrArg Value.bool (decide_eq_true hc_47))) rfl rfl hm (hS.sub (.cons (Mem.le.refl _) (.cons (Mem.le.refl _) (.cons (Mem.le.refl _) (.cons (Mem.le.refl _) (Sub.nil _)))))) ?_
            clear hm a; intro a hm
            refine h_take_off 40 [true, true, true, true, true, true, true, true, true, true, true, true, true, true, true, true, true, true, true, true, true, true, true, true, true, true, true, true, true, true, true, true, true, true, true, true, true, true, true, true, true, false, false].toArray rfl (by kernel_rfl) (by kernel_rfl) (by kernel_rfl) (fun _ _ _ _ h => h) rfl rfl rfl rfl (.inl (congrArg Value.bool (decide_eq_true hc_47))) rfl rfl hm (hS.sub (.cons (Mem.le.refl _) (.cons (Mem.le.refl _) (.cons (Mem.le.refl _) (.cons (Mem.le.refl _) (Sub.nil _)))))) ?_
            clear hm a; intro a hm
            refine h_take_off 41 [true, true, true, true, true, true, true, true, true, true, true, true, true, true, true, true, true, true, true, true, true, true, true, true, true, true, true, true, true, true, true, true, true, true, true, true, true, true, true, true, true, true, false].toArray rfl (by kernel_rfl) (by kernel_rfl) (by kernel_rfl) (fun _ _ _ _ h => h) rfl rfl rfl rfl (.inl (congrArg Value.bool (decide_eq_true hc_47))) rfl rfl hm (hS.sub (.cons (Mem.le.refl _) (.cons (Mem.le.refl _) (.cons (Mem.le.refl _) (.cons (Mem.le.refl _) (Sub.nil _)))))) ?_
            clear hm a; intro a hm
            refine h_take 42 [true, true, true, true, true, true, true, true, true, true, true, true, true, true, true, true, true, true, true, true, true, true, true, true, true, true, true, true, true, true, true, true, true, true, true, true, true, true, true, true, true, true, true].toArray rfl (by kernel_rfl) (by kernel_rfl) (by kernel_rfl) (fun _ _ _ _ h => h) rfl rfl rfl rfl hm (hS.sub (.cons (Mem.le.refl _) (.cons (Mem.le.refl _) (.cons (Mem.le.refl _) (.cons (Mem.le.refl _) (Sub.nil _)))))) (v := .bool true) (fun w hS => r_pick_t hm rfl (decide_eq_true hc_47) rfl) ?_
            clear hm a; intro a hm
            refine h_done (by kernel_rfl) ?_
            replace hm : Fr 68 a [(0, .pointer (some ⟨g0, 0, none⟩)), (3, .pointer (some ⟨g_2, 0, none⟩)), (4, .bool false), (47, .bool true)] := hm.keep [0, 3, 4, 47]
            replace hS : Sep w0 w_42 [Mem.no, Mem.one g0 (.cells ([.int .i64 x0_n, .int .i64 x0_id, .int .i64 x0_v, p0_0, .int .i64 x0_come, .int .i64 x0_ready, .int .i64 x0_commit_Kind, .int .i64 x0_commit_From, .int .i64 x0_commit_To, .int .i64 x0_commit_View, .int .i64 x0_commit_Inst, .int .i64 x0_commit_Len, .bool x0_commit_Has, .int .i64 x0_commit_Members, .int .i64 x0_commit_Source, .int .i64 x0_commit_At, .int .i64 x0_commit_Total, p0_1, .int .i64 x0_commit_Hop, .int .i64 x0_commit_Seq, p0_2, p0_3, .int .i64 x0_commit_Index, .int .i64 x0_commit_Entry_Sess, .int .i64 x0_commit_Entry_Seq, .int .i64 x0_commit_Entry_Cmd_Kind, .int .i64 x0_commit_Entry_Cmd_Who, p0_4, p0_5, p0_6, .bool x0_is] : List Value).toArray 80 (0, 0)), M0_0, Mem.one g_2 (.cells ([.int .i64 x1.Kind, .int .i64 x1.From, .int .i64 x1.To, .int .i64 x1.View, .int .i64 x1.Inst, .int .i64 x1.Len, .bool x1.Has, .int .i64 x1.Members, .int .i64 x1.Source, .int .i64 x1.At, .int .i64 x1.Total, p1_7, .int .i64 x1.Hop, .int .i64 x1.Seq, p1_8, p1_9, .int .i64 x1.Index, .int .i64 x1.Entry.Sess, .int .i64 x1.Entry.Seq, .int .i64 x1.Entry.Cmd.Kind, .int .i64 x1.Entry.Cmd.Who, p1_10, p1_11, p1_12] : List Value).toArray 29 (0, 0))] Z := hS
            replace hm : Fr 68 a [(0, .pointer (some ⟨g0, 0, none⟩)), (3, .pointer (some ⟨g_2, 0, none⟩)), (4, .bool false), (47, .bool true)] := hm.keep [0, 3, 4, 47]
            exact x_then_n (hJ_j_8 true H _ _ ⟨Mem.no, hm, (Sep.sel hS [0, 1, 2, 3] (by decide)), (Mem.le.refl _)⟩)
          · rw [if_neg hc_47] at H
            refine h_take_on 33 [true, true, true, true, true, true, true, true, true, true, true, true, true, true, true, true, true, true, true, true, true, true, true, true, true, true, true, true, true, true, true, true, true, true, false, false, false, false, false, false, false, false, false].toArray rfl (by kernel_rfl) (by kernel_rfl) (by kernel_rfl) (fun _ _ _ _ h => h) rfl rfl rfl rfl (decide_eq_false hc_47) rfl rfl hm (hS.sub (.cons (Mem.le.refl _) (.cons (Mem.le.refl _) (.cons (Mem.le.refl _) (.cons (Mem.le.refl _) (Sub.nil _)))))) (v := .pointer (some ⟨g0, 0, none⟩)) (fun w hS => r_move hm rfl) ?_
            clear hm a; intro a hm
            refine h_take_on 34 [true, true, true, true, true, true, true, true, true, true, true, true, true, true, true, true, true, true, true, true, true, true, true, true, true, true, true, true, true, true, true, true, true, true, true, false, false, false, false, false, false, false, false].toArray rfl (by kernel_rfl) (by kernel_rfl) (by kernel_rfl) (fun _ _ _ _ h => h) rfl rfl rfl rfl (decide_eq_false hc_47) rfl rfl hm (hS.sub (.cons (Mem.le.refl _) (.cons (Mem.le.refl _) (.cons (Mem.le.refl _) (.cons (Mem.le.refl _) (Sub.nil _)))))) (v := .pointer (some ⟨g0, 0, none⟩)) (fun w hS => r_nilCheck hm rfl) ?_
            clear hm a; intro a hm
            refine h_take_on 35 [true, true, true, true, true, true, true, true, true, true, true, true, true, true, true, true, true, true, true, true, true, true, true, true, true, true, true, true, true, true, true, true, true, true, true, true, false, false, false, false, false, false, false].toArray rfl (by kernel_rfl) (by kernel_rfl) (by kernel_rfl) (fun _ _ _ _ h => h) rfl rfl rfl rfl (decide_eq_false hc_47) rfl rfl hm (hS.sub (.cons (Mem.le.refl _) (.cons (Mem.le.refl _) (.cons (Mem.le.refl _) (.cons (Mem.le.refl _) (Sub.nil _)))))) (v := .pointer (some ⟨g0, 4, none⟩)) (fun w hS => r_fieldAddr hm Try.underlying80 rfl ti3 rfl rfl rfl) ?_
            clear hm a; intro a hm
            refine h_take_on 36 [true, true, true, true, true, true, true, true, true, true, true, true, true, true, true, true, true, true, true, true, true, true, true, true, true, true, true, true, true, true, true, true, true, true, true, true, true, false, false, false, false, false, false].toArray rfl (by kernel_rfl) (by kernel_rfl) (by kernel_rfl) (fun _ _ _ _ h => h) rfl rfl rfl rfl (decide_eq_false hc_47) rfl rfl hm (hS.sub (.cons (Mem.le.refl _) (.cons (Mem.le.refl _) (.cons (Mem.le.refl _) (.cons (Mem.le.refl _) (Sub.nil _)))))) (v := .int .i64 x0_come) (fun w hS => r_load hm rfl (hS.load_one (p := 1) rfl Try.underlying3 rfl rfl)) ?_
            clear hm a; intro a hm
            refine h_take_on 37 [true, true, true, true, true, true, true, true, true, true, true, true, true, true, true, true, true, true, true, true, true, true, true, true, true, true, true, true, true, true, true, true, true, true, true, true, true, true, false, false, false, false, false].toArray rfl (by kernel_rfl) (by kernel_rfl) (by kernel_rfl) (fun _ _ _ _ h => h) rfl rfl rfl rfl (decide_eq_false hc_47) rfl rfl hm (hS.sub (.cons (Mem.le.refl _) (.cons (Mem.le.refl _) (.cons (Mem.le.refl _) (.cons (Mem.le.refl _) (Sub.nil _)))))) (v := .pointer (some ⟨g_2, 1, none⟩)) (fun w hS => r_fieldAddr hm Try.underlying29 rfl ti3 rfl rfl rfl) ?_
            clear hm a; intro a hm
            refine h_take_on 38 [true, true, true, true, true, true, true, true, true, true, true, true, true, true, true, true, true, true, true, true, true, true, true, true, true, true, true, true, true, true, true, true, true, true, true, true, true, true, true, false, false, false, false].toArray rfl (by kernel_rfl) (by kernel_rfl) (by kernel_rfl) (fun _ _ _ _ h => h) rfl rfl rfl rfl (decide_eq_false hc_47) rfl rfl hm (hS.sub (.cons (Mem.le.refl _) (.cons (Mem.le.refl _) (.cons (Mem.le.refl _) (.cons (Mem.le.refl _) (Sub.nil _)))))) (v := .int .i64 x1.From) (fun w hS => r_load hm rfl (hS.load_one (p := 3) rfl Try.underlying3 rfl rfl)) ?_
            clear hm a; intro a hm
            obtain ⟨u_48, eu_48, H⟩ := Option.bind_eq_some_iff.1 H
            refine h_take_on 39 [true, true, true, true, true, true, true, true, true, true, true, true, true, true, true, true, true, true, true, true, true, true, true, true, true, true, true, true, true, true, true, true, true, true, true, true, true, true, true, true, false, false, false].toArray rfl (by kernel_rfl) (by kernel_rfl) (by kernel_rfl) (fun _ _ _ _ h => h) rfl rfl rfl rfl (decide_eq_false hc_47) rfl rfl hm (hS.sub (.cons (Mem.le.refl _) (.cons (Mem.le.refl _) (.cons (Mem.le.refl _) (.cons (Mem.le.refl _) (Sub.nil _)))))) (v := .int .i64 (shr .i64 x0_come x1.From)) (fun w hS => r_shift (r := shr .i64 x0_come x1.From) hm rfl rfl (must_some eu_48) (.inr ⟨rfl, rfl⟩)) ?_
            clear hm a; intro a hm
            refine h_take_on 40 [true, true, true, true, true, true, true, true, true, true, true, true, true, true, true, true, true, true, true, true, true, true, true, true, true, true, true, true, true, true, true, true, true, true, true, true, true, true, true, true, true, false, false].toArray rfl (by kernel_rfl) (by kernel_rfl) (by kernel_rfl) (fun _ _ _ _ h => h) rfl rfl rfl rfl (decide_eq_false hc_47) rfl rfl hm (hS.sub (.cons (Mem.le.refl _) (.cons (Mem.le.refl _) (.cons (Mem.le.refl _) (.cons (Mem.le.refl _) (Sub.nil _)))))) (v := .int .i64 (band .i64 (shr .i64 x0_come x1.From) 1)) (fun w hS => r_bits (i := shr .i64 x0_come x1.From) (j := 1) (r := band .i64 (shr .i64 x0_come x1.From) 1) hm rfl rfl (.inl ⟨rfl, rfl⟩)) ?_
            clear hm a; intro a hm
            refine h_take_on 41 [true, true, true, true, true, true, true, true, true, true, true, true, true, true, true, true, true, true, true, true, true, true, true, true, true, true, true, true, true, true, true, true, true, true, true, true, true, true, true, true, true, true, false].toArray rfl (by kernel_rfl) (by kernel_rfl) (by kernel_rfl) (fun _ _ _ _ h => h) rfl rfl rfl rfl (decide_eq_false hc_47) rfl rfl hm (hS.sub (.cons (Mem.le.refl _) (.cons (Mem.le.refl _) (.cons (Mem.le.refl _) (.cons (Mem.le.refl _) (Sub.nil _)))))) (v := .bool ((band .i64 (shr .i64 x0_come x1.From) 1) == 1)) (fun w hS => r_cmp (b := ((band .i64 (shr .i64 x0_come x1.From) 1) == 1)) hm rfl rfl (.inl ⟨rfl, rfl⟩)) ?_
            clear hm a; intro a hm
            refine h_take 42 [true, true, true, true, true, true, true, true, true, true, true, true, true, true, true, true, true, true, true, true, true, true, true, true, true, true, true, true, true, true, true, true, true, true, true, true, true, true, true, true, true, true, true].toArray rfl (by kernel_rfl) (by kernel_rfl) (by kernel_rfl) (fun _ _ _ _ h => h) rfl rfl rfl rfl hm (hS.sub (.cons (Mem.le.refl _) (.cons (Mem.le.refl _) (.cons (Mem.le.refl _) (.cons (Mem.le.refl _) (Sub.nil _)))))) (v := .bool ((band .i64 (shr .i64 x0_come x1.From) 1) == 1)) (fun w hS => r_pick_f hm rfl (decide_eq_false hc_47) rfl) ?_
            clear hm a; intro a hm
            refine h_done (by kernel_rfl) ?_
            replace hm : Fr 68 a [(0, .pointer (some ⟨g0, 0, none⟩)), (3, .pointer (some ⟨g_2, 0, none⟩)), (4, .bool false), (47, .bool ((band .i64 (shr .i64 x0_come x1.From) 1) == 1))] := hm.keep [0, 3, 4, 47]
            replace hS : Sep w0 w_42 [Mem.no, Mem.one g0 (.cells ([.int .i64 x0_n, .int .i64 x0_id, .int .i64 x0_v, p0_0, .int .i64 x0_come, .int .i64 x0_ready, .int .i64 x0_commit_Kind, .int .i64 x0_commit_From, .int .i64 x0_commit_To, .int .i64 x0_commit_View, .int .i64 x0_commit_Inst, .int .i64 x0_commit_Len, .bool x0_commit_Has, .int .i64 x0_commit_Members, .int .i64 x0_commit_Source, .int .i64 x0_commit_At, .int .i64 x0_commit_Total, p0_1, .int .i64 x0_commit_Hop, .int .i64 x0_commit_Seq, p0_2, p0_3, .int .i64 x0_commit_Index, .int .i64 x0_commit_Entry_Sess, .int .i64 x0_commit_Entry_Seq, .int .i64 x0_commit_Entry_Cmd_Kind, .int .i64 x0_commit_Entry_Cmd_Who, p0_4, p0_5, p0_6, .bool x0_is] : List Value).toArray 80 (0, 0)), M0_0, Mem.one g_2 (.cells ([.int .i64 x1.Kind, .int .i64 x1.From, .int .i64 x1.To, .int .i64 x1.View, .int .i64 x1.Inst, .int .i64 x1.Len, .bool x1.Has, .int .i64 x1.Members, .int .i64 x1.Source, .int .i64 x1.At, .int .i64 x1.Total, p1_7, .int .i64 x1.Hop, .int .i64 x1.Seq, p1_8, p1_9, .int .i64 x1.Index, .int .i64 x1.Entry.Sess, .int .i64 x1.Entry.Seq, .int .i64 x1.Entry.Cmd.Kind, .int .i64 x1.Entry.Cmd.Who, p1_10, p1_11, p1_12] : List Value).toArray 29 (0, 0))] Z := hS
            replace hm : Fr 68 a [(0, .pointer (some ⟨g0, 0, none⟩)), (3, .pointer (some ⟨g_2, 0, none⟩)), (4, .bool false), (47, .bool ((band .i64 (shr .i64 x0_come x1.From) 1) == 1))] := hm.keep [0, 3, 4, 47]
            exact x_then_n (hJ_j_8 ((band .i64 (shr .i64 x0_come x1.From) 1) == 1) H _ _ ⟨Mem.no, hm, (Sep.sel hS [0, 1, 2, 3] (by decide)), (Mem.le.refl _)⟩)
      · rw [if_neg hc_45] at H
        refine h_take_off 19 [true, true, true, true, true, true, true, true, true, true, true, true, true, true, true, true, true, true, true, true, false, false, false, false, false, false, false, false, false, false, false, false, false, false, false, false, false, false, false, false, false, false, false].toArray rfl (by kernel_rfl) (by kernel_rfl) (by kernel_rfl) (fun _ _ _ _ h => h) rfl rfl rfl rfl (.inl (congrArg Value.bool (bne_iff_ne.2 hc_45))) rfl rfl hm (hS.sub (.cons (Mem.le.refl _) (.cons (Mem.le.refl _) (.cons (Mem.le.refl _) (.cons (Mem.le.refl _) (Sub.nil _)))))) ?_
        clear hm a; intro a hm
        refine h_take_off 20 [true, true, true, true, true, true, true, true, true, true, true, true, true, true, true, true, true, true, true, true, true, false, false, false, false, false, false, false, false, false, false, false, false, false, false, false, false, false, false, false, false, false, false].toArray rfl (by kernel_rfl) (by kernel_rfl) (by kernel_rfl) (fun _ _ _ _ h => h) rfl rfl rfl rfl (.inl (congrArg Value.bool (bne_iff_ne.2 hc_45))) rfl rfl hm (hS.sub (.cons (Mem.le.refl _) (.cons (Mem.le.refl _) (.cons (Mem.le.refl _) (.cons (Mem.le.refl _) (Sub.nil _)))))) ?_
        clear hm a; intro a hm
        refine h_take_off 21 [true, true, true, true, true, true, true, true, true, true, true, true, true, true, true, true, true, true, true, true, true, true, false, false, false, false, false, false, false, false, false, false, false, false, false, false, false, false, false, false, false, false, false].toArray rfl (by kernel_rfl) (by kernel_rfl) (by kernel_rfl) (fun _ _ _ _ h => h) rfl rfl rfl rfl (.inl (congrArg Value.bool (bne_iff_ne.2 hc_45))) rfl rfl hm (hS.sub (.cons (Mem.le.refl _) (.cons (Mem.le.refl _) (.cons (Mem.le.refl _) (.cons (Mem.le.refl _) (Sub.nil _)))))) ?_
        clear hm a; intro a hm
        refine h_take 22 [true, true, true, true, true, true, true, true, true, true, true, true, true, true, true, true, true, true, true, true, true, true, true, false, false, false, false, false, false, false, false, false, false, false, false, false, false, false, false, false, false, false, false].toArray rfl (by kernel_rfl) (by kernel_rfl) (by kernel_rfl) (fun _ _ _ _ h => h) rfl rfl rfl rfl hm (hS.sub (.cons (Mem.le.refl _) (.cons (Mem.le.refl _) (.cons (Mem.le.refl _) (.cons (Mem.le.refl _) (Sub.nil _)))))) (v := .bool true) (fun w hS => r_pick_t hm rfl (bne_iff_ne.2 hc_45) rfl) ?_
        clear hm a; intro a hm
        refine h_take 23 [true, true, true, true, true, true, true, true, true, true, true, true, true, true, true, true, true, true, true, true, true, true, true, true, false, false, false, false, false, false, false, false, false, false, false, false, false, false, false, false, false, false, false].toArray rfl (by kernel_rfl) (by kernel_rfl) (by kernel_rfl) (fun _ _ _ _ h => h) rfl rfl rfl rfl hm (hS.sub (.cons (Mem.le.refl _) (.cons (Mem.le.refl _) (.cons (Mem.le.refl _) (.cons (Mem.le.refl _) (Sub.nil _)))))) (v := .bool true) (fun w hS => r_move hm rfl) ?_
        clear hm a; intro a hm
        refine h_take_off 24 [true, true, true, true, true, true, true, true, true, true, true, true, true, true, true, true, true, true, true, true, true, true, true, true, true, false, false, false, false, false, false, false, false, false, false, false, false, false, false, false, false, false, false].toArray rfl (by kernel_rfl) (by kernel_rfl) (by kernel_rfl) (fun _ _ _ _ h => h) rfl rfl rfl rfl (.inl (congrArg Value.bool rfl)) rfl rfl hm (hS.sub (.cons (Mem.le.refl _) (.cons (Mem.le.refl _) (.cons (Mem.le.refl _) (.cons (Mem.le.refl _) (Sub.nil _)))))) ?_
        clear hm a; intro a hm
        refine h_take_off 25 [true, true, true, true, true, true, true, true, true, true, true, true, true, true, true, true, true, true, true, true, true, true, true, true, true, true, false, false, false, false, false, false, false, false, false, false, false, false, false, false, false, false, false].toArray rfl (by kernel_rfl) (by kernel_rfl) (by kernel_rfl) (fun _ _ _ _ h => h) rfl rfl rfl rfl (.inl (congrArg Value.bool rfl)) rfl rfl hm (hS.sub (.cons (Mem.le.refl _) (.cons (Mem.le.refl _) (.cons (Mem.le.refl _) (.cons (Mem.le.refl _) (Sub.nil _)))))) ?_
        clear hm a; intro a hm
        refine h_take_off 26 [true, true, true, true, true, true, true, true, true, true, true, true, true, true, true, true, true, true, true, true, true, true, true, true, true, true, true, false, false, false, false, false, false, false, false, false, false, false, false, false, false, false, false].toArray rfl (by kernel_rfl) (by kernel_rfl) (by kernel_rfl) (fun _ _ _ _ h => h) rfl rfl rfl rfl (.inl (congrArg Value.bool rfl)) rfl rfl hm (hS.sub (.cons (Mem.le.refl _) (.cons (Mem.le.refl _) (.cons (Mem.le.refl _) (.cons (Mem.le.refl _) (Sub.nil _)))))) ?_
        clear hm a; intro a hm
        refine h_take_off 27 [true, true, true, true, true, true, true, true, true, true, true, true, true, true, true, true, true, true, true, true, true, true, true, true, true, true, true, true, false, false, false, false, false, false, false, false, false, false, false, false, false, false, false].toArray rfl (by kernel_rfl) (by kernel_rfl) (by kernel_rfl) (fun _ _ _ _ h => h) rfl rfl rfl rfl (.inl (congrArg Value.bool rfl)) rfl rfl hm (hS.sub (.cons (Mem.le.refl _) (.cons (Mem.le.refl _) (.cons (Mem.le.refl _) (.cons (Mem.le.refl _) (Sub.nil _)))))) ?_
        clear hm a; intro a hm
        refine h_take_off 28 [true, true, true, true, true, true, true, true, true, true, true, true, true, true, true, true, true, true, true, true, true, true, true, true, true, true, true, true, true, false, false, false, false, false, false, false, false, false, false, false, false, false, false].toArray rfl (by kernel_rfl) (by kernel_rfl) (by kernel_rfl) (fun _ _ _ _ h => h) rfl rfl rfl rfl (.inl (congrArg Value.bool rfl)) rfl rfl hm (hS.sub (.cons (Mem.le.refl _) (.cons (Mem.le.refl _) (.cons (Mem.le.refl _) (.cons (Mem.le.refl _) (Sub.nil _)))))) ?_
        clear hm a; intro a hm
        refine h_take_off 29 [true, true, true, true, true, true, true, true, true, true, true, true, true, true, true, true, true, true, true, true, true, true, true, true, true, true, true, true, true, true, false, false, false, false, false, false, false, false, false, false, false, false, false].toArray rfl (by kernel_rfl) (by kernel_rfl) (by kernel_rfl) (fun _ _ _ _ h => h) rfl rfl rfl rfl (.inl (congrArg Value.bool rfl)) rfl rfl hm (hS.sub (.cons (Mem.le.refl _) (.cons (Mem.le.refl _) (.cons (Mem.le.refl _) (.cons (Mem.le.refl _) (Sub.nil _)))))) ?_
        clear hm a; intro a hm
        refine h_take_off 30 [true, true, true, true, true, true, true, true, true, true, true, true, true, true, true, true, true, true, true, true, true, true, true, true, true, true, true, true, true, true, true, false, false, false, false, false, false, false, false, false, false, false, false].toArray rfl (by kernel_rfl) (by kernel_rfl) (by kernel_rfl) (fun _ _ _ _ h => h) rfl rfl rfl rfl (.inl (congrArg Value.bool rfl)) rfl rfl hm (hS.sub (.cons (Mem.le.refl _) (.cons (Mem.le.refl _) (.cons (Mem.le.refl _) (.cons (Mem.le.refl _) (Sub.nil _)))))) ?_
        clear hm a; intro a hm
        refine h_take 31 [true, true, true, true, true, true, true, true, true, true, true, true, true, true, true, true, true, true, true, true, true, true, true, true, true, true, true, true, true, true, true, true, false, false, false, false, false, false, false, false, false, false, false].toArray rfl (by kernel_rfl) (by kernel_rfl) (by kernel_rfl) (fun _ _ _ _ h => h) rfl rfl rfl rfl hm (hS.sub (.cons (Mem.le.refl _) (.cons (Mem.le.refl _) (.cons (Mem.le.refl _) (.cons (Mem.le.refl _) (Sub.nil _)))))) (v := .bool true) (fun w hS => r_pick_t hm rfl rfl rfl) ?_
        clear hm a; intro a hm
        refine h_take 32 [true, true, true, true, true, true, true, true, true, true, true, true, true, true, true, true, true, true, true, true, true, true, true, true, true, true, true, true, true, true, true, true, true, false, false, false, false, false, false, false, false, false, false].toArray rfl (by kernel_rfl) (by kernel_rfl) (by kernel_rfl) (fun _ _ _ _ h => h) rfl rfl rfl rfl hm (hS.sub (.cons (Mem.le.refl _) (.cons (Mem.le.refl _) (.cons (Mem.le.refl _) (.cons (Mem.le.refl _) (Sub.nil _)))))) (v := .bool true) (fun w hS => r_move hm rfl) ?_
        clear hm a; intro a hm
        refine h_take_off 33 [true, true, true, true, true, true, true, true, true, true, true, true, true, true, true, true, true, true, true, true, true, true, true, true, true, true, true, true, true, true, true, true, true, true, false, false, false, false, false, false, false, false, false].toArray rfl (by kernel_rfl) (by kernel_rfl) (by kernel_rfl) (fun _ _ _ _ h => h) rfl rfl rfl rfl (.inl (congrArg Value.bool rfl)) rfl rfl hm (hS.sub (.cons (Mem.le.refl _) (.cons (Mem.le.refl _) (.cons (Mem.le.refl _) (.cons (Mem.le.refl _) (Sub.nil _)))))) ?_
        clear hm a; intro a hm
        refine h_take_off 34 [true, true, true, true, true, true, true, true, true, true, true, true, true, true, true, true, true, true, true, true, true, true, true, true, true, true, true, true, true, true, true, true, true, true, true, false, false, false, false, false, false, false, false].toArray rfl (by kernel_rfl) (by kernel_rfl) (by kernel_rfl) (fun _ _ _ _ h => h) rfl rfl rfl rfl (.inl (congrArg Value.bool rfl)) rfl rfl hm (hS.sub (.cons (Mem.le.refl _) (.cons (Mem.le.refl _) (.cons (Mem.le.refl _) (.cons (Mem.le.refl _) (Sub.nil _)))))) ?_
        clear hm a; intro a hm
        refine h_take_off 35 [true, true, true, true, true, true, true, true, true, true, true, true, true, true, true, true, true, true, true, true, true, true, true, true, true, true, true, true, true, true, true, true, true, true, true, true, false, false, false, false, false, false, false].toArray rfl (by kernel_rfl) (by kernel_rfl) (by kernel_rfl) (fun _ _ _ _ h => h) rfl rfl rfl rfl (.inl (congrArg Value.bool rfl)) rfl rfl hm (hS.sub (.cons (Mem.le.refl _) (.cons (Mem.le.refl _) (.cons (Mem.le.refl _) (.cons (Mem.le.refl _) (Sub.nil _)))))) ?_
        clear hm a; intro a hm
        refine h_take_off 36 [true, true, true, true, true, true, true, true, true, true, true, true, true, true, true, true, true, true, true, true, true, true, true, true, true, true, true, true, true, true, true, true, true, true, true, true, true, false, false, false, false, false, false].toArray rfl (by kernel_rfl) (by kernel_rfl) (by kernel_rfl) (fun _ _ _ _ h => h) rfl rfl rfl rfl (.inl (congrArg Value.bool rfl)) rfl rfl hm (hS.sub (.cons (Mem.le.refl _) (.cons (Mem.le.refl _) (.cons (Mem.le.refl _) (.cons (Mem.le.refl _) (Sub.nil _)))))) ?_
        clear hm a; intro a hm
        refine h_take_off 37 [true, true, true, true, true, true, true, true, true, true, true, true, true, true, true, true, true, true, true, true, true, true, true, true, true, true, true, true, true, true, true, true, true, true, true, true, true, true, false, false, false, false, false].toArray rfl (by kernel_rfl) (by kernel_rfl) (by kernel_rfl) (fun _ _ _ _ h => h) rfl rfl rfl rfl (.inl (congrArg Value.bool rfl)) rfl rfl hm (hS.sub (.cons (Mem.le.refl _) (.cons (Mem.le.refl _) (.cons (Mem.le.refl _) (.cons (Mem.le.refl _) (Sub.nil _)))))) ?_
        clear hm a; intro a hm
        refine h_take_off 38 [true, true, true, true, true, true, true, true, true, true, true, true, true, true, true, true, true, true, true, true, true, true, true, true, true, true, true, true, true, true, true, true, true, true, true, true, true, true, true, false, false, false, false].toArray rfl (by kernel_rfl) (by kernel_rfl) (by kernel_rfl) (fun _ _ _ _ h => h) rfl rfl rfl rfl (.inl (congrArg Value.bool rfl)) rfl rfl hm (hS.sub (.cons (Mem.le.refl _) (.cons (Mem.le.refl _) (.cons (Mem.le.refl _) (.cons (Mem.le.refl _) (Sub.nil _)))))) ?_
        clear hm a; intro a hm
        refine h_take_off 39 [true, true, true, true, true, true, true, true, true, true, true, true, true, true, true, true, true, true, true, true, true, true, true, true, true, true, true, true, true, true, true, true, true, true, true, true, true, true, true, true, false, false, false].toArray rfl (by kernel_rfl) (by kernel_rfl) (by kernel_rfl) (fun _ _ _ _ h => h) rfl rfl rfl rfl (.inl (congrArg Value.bool rfl)) rfl rfl hm (hS.sub (.cons (Mem.le.refl _) (.cons (Mem.le.refl _) (.cons (Mem.le.refl _) (.cons (Mem.le.refl _) (Sub.nil _)))))) ?_
        clear hm a; intro a hm
        refine h_take_off 40 [true, true, true, true, true, true, true, true, true, true, true, true, true, true, true, true, true, true, true, true, true, true, true, true, true, true, true, true, true, true, true, true, true, true, true, true, true, true, true, true, true, false, false].toArray rfl (by kernel_rfl) (by kernel_rfl) (by kernel_rfl) (fun _ _ _ _ h => h) rfl rfl rfl rfl (.inl (congrArg Value.bool rfl)) rfl rfl hm (hS.sub (.cons (Mem.le.refl _) (.cons (Mem.le.refl _) (.cons (Mem.le.refl _) (.cons (Mem.le.refl _) (Sub.nil _)))))) ?_
        clear hm a; intro a hm
        refine h_take_off 41 [true, true, true, true, true, true, true, true, true, true, true, true, true, true, true, true, true, true, true, true, true, true, true, true, true, true, true, true, true, true, true, true, true, true, true, true, true, true, true, true, true, true, false].toArray rfl (by kernel_rfl) (by kernel_rfl) (by kernel_rfl) (fun _ _ _ _ h => h) rfl rfl rfl rfl (.inl (congrArg Value.bool rfl)) rfl rfl hm (hS.sub (.cons (Mem.le.refl _) (.cons (Mem.le.refl _) (.cons (Mem.le.refl _) (.cons (Mem.le.refl _) (Sub.nil _)))))) ?_
        clear hm a; intro a hm
        refine h_take 42 [true, true, true, true, true, true, true, true, true, true, true, true, true, true, true, true, true, true, true, true, true, true, true, true, true, true, true, true, true, true, true, true, true, true, true, true, true, true, true, true, true, true, true].toArray rfl (by kernel_rfl) (by kernel_rfl) (by kernel_rfl) (fun _ _ _ _ h => h) rfl rfl rfl rfl hm (hS.sub (.cons (Mem.le.refl _) (.cons (Mem.le.refl _) (.cons (Mem.le.refl _) (.cons (Mem.le.refl _) (Sub.nil _)))))) (v := .bool true) (fun w hS => r_pick_t hm rfl rfl rfl) ?_
        clear hm a; intro a hm
        refine h_done (by kernel_rfl) ?_
        replace hm : Fr 68 a [(0, .pointer (some ⟨g0, 0, none⟩)), (3, .pointer (some ⟨g_2, 0, none⟩)), (4, .bool false), (47, .bool true)] := hm.keep [0, 3, 4, 47]
        replace hS : Sep w0 w_42 [Mem.no, Mem.one g0 (.cells ([.int .i64 x0_n, .int .i64 x0_id, .int .i64 x0_v, p0_0, .int .i64 x0_come, .int .i64 x0_ready, .int .i64 x0_commit_Kind, .int .i64 x0_commit_From, .int .i64 x0_commit_To, .int .i64 x0_commit_View, .int .i64 x0_commit_Inst, .int .i64 x0_commit_Len, .bool x0_commit_Has, .int .i64 x0_commit_Members, .int .i64 x0_commit_Source, .int .i64 x0_commit_At, .int .i64 x0_commit_Total, p0_1, .int .i64 x0_commit_Hop, .int .i64 x0_commit_Seq, p0_2, p0_3, .int .i64 x0_commit_Index, .int .i64 x0_commit_Entry_Sess, .int .i64 x0_commit_Entry_Seq, .int .i64 x0_commit_Entry_Cmd_Kind, .int .i64 x0_commit_Entry_Cmd_Who, p0_4, p0_5, p0_6, .bool x0_is] : List Value).toArray 80 (0, 0)), M0_0, Mem.one g_2 (.cells ([.int .i64 x1.Kind, .int .i64 x1.From, .int .i64 x1.To, .int .i64 x1.View, .int .i64 x1.Inst, .int .i64 x1.Len, .bool x1.Has, .int .i64 x1.Members, .int .i64 x1.Source, .int .i64 x1.At, .int .i64 x1.Total, p1_7, .int .i64 x1.Hop, .int .i64 x1.Seq, p1_8, p1_9, .int .i64 x1.Index, .int .i64 x1.Entry.Sess, .int .i64 x1.Entry.Seq, .int .i64 x1.Entry.Cmd.Kind, .int .i64 x1.Entry.Cmd.Who, p1_10, p1_11, p1_12] : List Value).toArray 29 (0, 0))] Z := hS
        replace hm : Fr 68 a [(0, .pointer (some ⟨g0, 0, none⟩)), (3, .pointer (some ⟨g_2, 0, none⟩)), (4, .bool false), (47, .bool true)] := hm.keep [0, 3, 4, 47]
        exact x_then_n (hJ_j_8 true H _ _ ⟨Mem.no, hm, (Sep.sel hS [0, 1, 2, 3] (by decide)), (Mem.le.refl _)⟩)
    · rw [if_neg hc_44] at H
      refine h_take_off 10 [true, true, true, true, true, true, true, true, true, true, true, false, false, false, false, false, false, false, false, false, false, false, false, false, false, false, false, false, false, false, false, false, false, false, false, false, false, false, false, false, false, false, false].toArray rfl (by kernel_rfl) (by kernel_rfl) (by kernel_rfl) (fun _ _ _ _ h => h) rfl rfl rfl rfl (.inl (congrArg Value.bool (bne_iff_ne.2 hc_44))) rfl rfl hm (hS.sub (.cons (Mem.le.refl _) (.cons (Mem.le.refl _) (.cons (Mem.le.refl _) (.cons (Mem.le.refl _) (Sub.nil _)))))) ?_
      clear hm a; intro a hm
      refine h_take_off 11 [true, true, true, true, true, true, true, true, true, true, true, true, false, false, false, false, false, false, false, false, false, false, false, false, false, false, false, false, false, false, false, false, false, false, false, false, false, false, false, false, false, false, false].toArray rfl (by kernel_rfl) (by kernel_rfl) (by kernel_rfl) (fun _ _ _ _ h => h) rfl rfl rfl rfl (.inl (congrArg Value.bool (bne_iff_ne.2 hc_44))) rfl rfl hm (hS.sub (.cons (Mem.le.refl _) (.cons (Mem.le.refl _) (.cons (Mem.le.refl _) (.cons (Mem.le.refl _) (Sub.nil _)))))) ?_
      clear hm a; intro a hm
      refine h_take_off 12 [true, true, true, true, true, true, true, true, true, true, true, true, true, false, false, false, false, false, false, false, false, false, false, false, false, false, false, false, false, false, false, false, false, false, false, false, false, false, false, false, false, false, false].toArray rfl (by kernel_rfl) (by kernel_rfl) (by kernel_rfl) (fun _ _ _ _ h => h) rfl rfl rfl rfl (.inl (congrArg Value.bool (bne_iff_ne.2 hc_44))) rfl rfl hm (hS.sub (.cons (Mem.le.refl _) (.cons (Mem.le.refl _) (.cons (Mem.le.refl _) (.cons (Mem.le.refl _) (Sub.nil _)))))) ?_
      clear hm a; intro a hm
      refine h_take_off 13 [true, true, true, true, true, true, true, true, true, true, true, true, true, true, false, false, false, false, false, false, false, false, false, false, false, false, false, false, false, false, false, false, false, false, false, false, false, false, false, false, false, false, false].toArray rfl (by kernel_rfl) (by kernel_rfl) (by kernel_rfl) (fun _ _ _ _ h => h) rfl rfl rfl rfl (.inl (congrArg Value.bool (bne_iff_ne.2 hc_44))) rfl rfl hm (hS.sub (.cons (Mem.le.refl _) (.cons (Mem.le.refl _) (.cons (Mem.le.refl _) (.cons (Mem.le.refl _) (Sub.nil _)))))) ?_
      clear hm a; intro a hm
      refine h_take_off 14 [true, true, true, true, true, true, true, true, true, true, true, true, true, true, true, false, false, false, false, false, false, false, false, false, false, false, false, false, false, false, false, false, false, false, false, false, false, false, false, false, false, false, false].toArray rfl (by kernel_rfl) (by kernel_rfl) (by kernel_rfl) (fun _ _ _ _ h => h) rfl rfl rfl rfl (.inl (congrArg Value.bool (bne_iff_ne.2 hc_44))) rfl rfl hm (hS.sub (.cons (Mem.le.refl _) (.cons (Mem.le.refl _) (.cons (Mem.le.refl _) (.cons (Mem.le.refl _) (Sub.nil _)))))) ?_
      clear hm a; intro a hm
      refine h_take_off 15 [true, true, true, true, true, true, true, true, true, true, true, true, true, true, true, true, false, false, false, false, false, false, false, false, false, false, false, false, false, false, false, false, false, false, false, false, false, false, false, false, false, false, false].toArray rfl (by kernel_rfl) (by kernel_rfl) (by kernel_rfl) (fun _ _ _ _ h => h) rfl rfl rfl rfl (.inl (congrArg Value.bool (bne_iff_ne.2 hc_44))) rfl rfl hm (hS.sub (.cons (Mem.le.refl _) (.cons (Mem.le.refl _) (.cons (Mem.le.refl _) (.cons (Mem.le.refl _) (Sub.nil _)))))) ?_
      clear hm a; intro a hm
      refine h_take_off 16 [true, true, true, true, true, true, true, true, true, true, true, true, true, true, true, true, true, false, false, false, false, false, false, false, false, false, false, false, false, false, false, false, false, false, false, false, false, false, false, false, false, false, false].toArray rfl (by kernel_rfl) (by kernel_rfl) (by kernel_rfl) (fun _ _ _ _ h => h) rfl rfl rfl rfl (.inl (congrArg Value.bool (bne_iff_ne.2 hc_44))) rfl rfl hm (hS.sub (.cons (Mem.le.refl _) (.cons (Mem.le.refl _) (.cons (Mem.le.refl _) (.cons (Mem.le.refl _) (Sub.nil _)))))) ?_
      clear hm a; intro a hm
      refine h_take 17 [true, true, true, true, true, true, true, true, true, true, true, true, true, true, true, true, true, true, false, false, false, false, false, false, false, false, false, false, false, false, false, false, false, false, false, false, false, false, false, false, false, false, false].toArray rfl (by kernel_rfl) (by kernel_rfl) (by kernel_rfl) (fun _ _ _ _ h => h) rfl rfl rfl rfl hm (hS.sub (.cons (Mem.le.refl _) (.cons (Mem.le.refl _) (.cons (Mem.le.refl _) (.cons (Mem.le.refl _) (Sub.nil _)))))) (v := .bool true) (fun w hS => r_pick_t hm rfl (bne_iff_ne.2 hc_44) rfl) ?_
      clear hm a; intro a hm
      refine h_take 18 [true, true, true, true, true, true, true, true, true, true, true, true, true, true, true, true, true, true, true, false, false, false, false, false, false, false, false, false, false, false, false, false, false, false, false, false, false, false, false, false, false, false, false].toArray rfl (by kernel_rfl) (by kernel_rfl) (by kernel_rfl) (fun _ _ _ _ h => h) rfl rfl rfl rfl hm (hS.sub (.cons (Mem.le.refl _) (.cons (Mem.le.refl _) (.cons (Mem.le.refl _) (.cons (Mem.le.refl _) (Sub.nil _)))))) (v := .bool true) (fun w hS => r_move hm rfl) ?_
      clear hm a; intro a hm
      refine h_take_off 19 [true, true, true, true, true, true, true, true, true, true, true, true, true, true, true, true, true, true, true, true, false, false, false, false, false, false, false, false, false, false, false, false, false, false, false, false, false, false, false, false, false, false, false].toArray rfl (by kernel_rfl) (by kernel_rfl) (by kernel_rfl) (fun _ _ _ _ h => h) rfl rfl rfl rfl (.inl (congrArg Value.bool rfl)) rfl rfl hm (hS.sub (.cons (Mem.le.refl _) (.cons (Mem.le.refl _) (.cons (Mem.le.refl _) (.cons (Mem.le.refl _) (Sub.nil _)))))) ?_
      clear hm a; intro a hm
      refine h_take_off 20 [true, true, true, true, true, true, true, true, true, true, true, true, true, true, true, true, true, true, true, true, true, false, false, false, false, false, false, false, false, false, false, false, false, false, false, false, false, false, false, false, false, false, false].toArray rfl (by kernel_rfl) (by kernel_rfl) (by kernel_rfl) (fun _ _ _ _ h => h) rfl rfl rfl rfl (.inl (congrArg Value.bool rfl)) rfl rfl hm (hS.sub (.cons (Mem.le.refl _) (.cons (Mem.le.refl _) (.cons (Mem.le.refl _) (.cons (Mem.le.refl _) (Sub.nil _)))))) ?_
      clear hm a; intro a hm
      refine h_take_off 21 [true, true, true, true, true, true, true, true, true, true, true, true, true, true, true, true, true, true, true, true, true, true, false, false, false, false, false, false, false, false, false, false, false, false, false, false, false, false, false, false, false, false, false].toArray rfl (by kernel_rfl) (by kernel_rfl) (by kernel_rfl) (fun _ _ _ _ h => h) rfl rfl rfl rfl (.inl (congrArg Value.bool rfl)) rfl rfl hm (hS.sub (.cons (Mem.le.refl _) (.cons (Mem.le.refl _) (.cons (Mem.le.refl _) (.cons (Mem.le.refl _) (Sub.nil _)))))) ?_
      clear hm a; intro a hm
      refine h_take 22 [true, true, true, true, true, true, true, true, true, true, true, true, true, true, true, true, true, true, true, true, true, true, true, false, false, false, false, false, false, false, false, false, false, false, false, false, false, false, false, false, false, false, false].toArray rfl (by kernel_rfl) (by kernel_rfl) (by kernel_rfl) (fun _ _ _ _ h => h) rfl rfl rfl rfl hm (hS.sub (.cons (Mem.le.refl _) (.cons (Mem.le.refl _) (.cons (Mem.le.refl _) (.cons (Mem.le.refl _) (Sub.nil _)))))) (v := .bool true) (fun w hS => r_pick_t hm rfl rfl rfl) ?_
      clear hm a; intro a hm
      refine h_take 23 [true, true, true, true, true, true, true, true, true, true, true, true, true, true, true, true, true, true, true, true, true, true, true, true, false, false, false, false, false, false, false, false, false, false, false, false, false, false, false, false, false, false, false].toArray rfl (by kernel_rfl) (by kernel_rfl) (by kernel_rfl) (fun _ _ _ _ h => h) rfl rfl rfl rfl hm (hS.sub (.cons (Mem.le.refl _) (.cons (Mem.le.refl _) (.cons (Mem.le.refl _) (.cons (Mem.le.refl _) (Sub.nil _)))))) (v := .bool true) (fun w hS => r_move hm rfl) ?_
      clear hm a; intro a hm
      refine h_take_off 24 [true, true, true, true, true, true, true, true, true, true, true, true, true, true, true, true, true, true, true, true, true, true, true, true, true, false, false, false, false, false, false, false, false, false, false, false, false, false, false, false, false, false, false].toArray rfl (by kernel_rfl) (by kernel_rfl) (by kernel_rfl) (fun _ _ _ _ h => h) rfl rfl rfl rfl (.inl (congrArg Value.bool rfl)) rfl rfl hm (hS.sub (.cons (Mem.le.refl _) (.cons (Mem.le.refl _) (.cons (Mem.le.refl _) (.cons (Mem.le.refl _) (Sub.nil _)))))) ?_
      clear hm a; intro a hm
      refine h_take_off 25 [true, true, true, true, true, true, true, true, true, true, true, true, true, true, true, true, true, true, true, true, true, true, true, true, true, true, false, false, false, false, false, false, false, false, false, false, false, false, false, false, false, false, false].toArray rfl (by kernel_rfl) (by kernel_rfl) (by kernel_rfl) (fun _ _ _ _ h => h) rfl rfl rfl rfl (.inl (congrArg Value.bool rfl)) rfl rfl hm (hS.sub (.cons (Mem.le.refl _) (.cons (Mem.le.refl _) (.cons (Mem.le.refl _) (.cons (Mem.le.refl _) (Sub.nil _)))))) ?_
      clear hm a; intro a hm
      refine h_take_off 26 [true, true, true, true, true, true, true, true, true, true, true, true, true, true, true, true, true, true, true, true, true, true, true, true, true, true, true, false, false, false, false, false, false, false, false, false, false, false, false, false, false, false, false].toArray rfl (by kernel_rfl) (by kernel_rfl) (by kernel_rfl) (fun _ _ _ _ h => h) rfl rfl rfl rfl (.inl (congrArg Value.bool rfl)) rfl rfl hm (hS.sub (.cons (Mem.le.refl _) (.cons (Mem.le.refl _) (.cons (Mem.le.refl _) (.cons (Mem.le.refl _) (Sub.nil _)))))) ?_
      clear hm a; intro a hm
      refine h_take_off 27 [true, true, true, true, true, true, true, true, true, true, true, true, true, true, true, true, true, true, true, true, true, true, true, true, true, true, true, true, false, false, false, false, false, false, false, false, false, false, false, false, false, false, false].toArray rfl (by kernel_rfl) (by kernel_rfl) (by kernel_rfl) (fun _ _ _ _ h => h) rfl rfl rfl rfl (.inl (congrArg Value.bool rfl)) rfl rfl hm (hS.sub (.cons (Mem.le.refl _) (.cons (Mem.le.refl _) (.cons (Mem.le.refl _) (.cons (Mem.le.refl _) (Sub.nil _)))))) ?_
      clear hm a; intro a hm
      refine h_take_off 28 [true, true, true, true, true, true, true, true, true, true, true, true, true, true, true, true, true, true, true, true, true, true, true, true, true, true, true, true, true, false, false, false, false, false, false, false, false, false, false, false, false, false, false].toArray rfl (by kernel_rfl) (by kernel_rfl) (by kernel_rfl) (fun _ _ _ _ h => h) rfl rfl rfl rfl (.inl (congrArg Value.bool rfl)) rfl rfl hm (hS.sub (.cons (Mem.le.refl _) (.cons (Mem.le.refl _) (.cons (Mem.le.refl _) (.cons (Mem.le.refl _) (Sub.nil _)))))) ?_
      clear hm a; intro a hm
      refine h_take_off 29 [true, true, true, true, true, true, true, true, true, true, true, true, true, true, true, true, true, true, true, true, true, true, true, true, true, true, true, true, true, true, false, false, false, false, false, false, false, false, false, false, false, false, false].toArray rfl (by kernel_rfl) (by kernel_rfl) (by kernel_rfl) (fun _ _ _ _ h => h) rfl rfl rfl rfl (.inl (congrArg Value.bool rfl)) rfl rfl hm (hS.sub (.cons (Mem.le.refl _) (.cons (Mem.le.refl _) (.cons (Mem.le.refl _) (.cons (Mem.le.refl _) (Sub.nil _)))))) ?_
      clear hm a; intro a hm
      refine h_take_off 30 [true, true, true, true, true, true, true, true, true, true, true, true, true, true, true, true, true, true, true, true, true, true, true, true, true, true, true, true, true, true, true, false, false, false, false, false, false, false, false, false, false, false, false].toArray rfl (by kernel_rfl) (by kernel_rfl) (by kernel_rfl) (fun _ _ _ _ h => h) rfl rfl rfl rfl (.inl (congrArg Value.bool rfl)) rfl rfl hm (hS.sub (.cons (Mem.le.refl _) (.cons (Mem.le.refl _) (.cons (Mem.le.refl _) (.cons (Mem.le.refl _) (Sub.nil _)))))) ?_
      clear hm a; intro a hm
      refine h_take 31 [true, true, true, true, true, true, true, true, true, true, true, true, true, true, true, true, true, true, true, true, true, true, true, true, true, true, true, true, true, true, true, true, false, false, false, false, false, false, false, false, false, false, false].toArray rfl (by kernel_rfl) (by kernel_rfl) (by kernel_rfl) (fun _ _ _ _ h => h) rfl rfl rfl rfl hm (hS.sub (.cons (Mem.le.refl _) (.cons (Mem.le.refl _) (.cons (Mem.le.refl _) (.cons (Mem.le.refl _) (Sub.nil _)))))) (v := .bool true) (fun w hS => r_pick_t hm rfl rfl rfl) ?_
      clear hm a; intro a hm
      refine h_take 32 [true, true, true, true, true, true, true, true, true, true, true, true, true, true, true, true, true, true, true, true, true, true, true, true, true, true, true, true, true, true, true, true, true, false, false, false, false, false, false, false, false, false, false].toArray rfl (by kernel_rfl) (by kernel_rfl) (by kernel_rfl) (fun _ _ _ _ h => h) rfl rfl rfl rfl hm (hS.sub (.cons (Mem.le.refl _) (.cons (Mem.le.refl _) (.cons (Mem.le.refl _) (.cons (Mem.le.refl _) (Sub.nil _)))))) (v := .bool true) (fun w hS => r_move hm rfl) ?_
      clear hm a; intro a hm
      refine h_take_off 33 [true, true, true, true, true, true, true, true, true, true, true, true, true, true, true, true, true, true, true, true, true, true, true, true, true, true, true, true, true, true, true, true, true, true, false, false, false, false, false, false, false, false, false].toArray rfl (by kernel_rfl) (by kernel_rfl) (by kernel_rfl) (fun _ _ _ _ h => h) rfl rfl rfl rfl (.inl (congrArg Value.bool rfl)) rfl rfl hm (hS.sub (.cons (Mem.le.refl _) (.cons (Mem.le.refl _) (.cons (Mem.le.refl _) (.cons (Mem.le.refl _) (Sub.nil _)))))) ?_
      clear hm a; intro a hm
      refine h_take_off 34 [true, true, true, true, true, true, true, true, true, true, true, true, true, true, true, true, true, true, true, true, true, true, true, true, true, true, true, true, true, true, true, true, true, true, true, false, false, false, false, false, false, false, false].toArray rfl (by kernel_rfl) (by kernel_rfl) (by kernel_rfl) (fun _ _ _ _ h => h) rfl rfl rfl rfl (.inl (congrArg Value.bool rfl)) rfl rfl hm (hS.sub (.cons (Mem.le.refl _) (.cons (Mem.le.refl _) (.cons (Mem.le.refl _) (.cons (Mem.le.refl _) (Sub.nil _)))))) ?_
      clear hm a; intro a hm
      refine h_take_off 35 [true, true, true, true, true, true, true, true, true, true, true, true, true, true, true, true, true, true, true, true, true, true, true, true, true, true, true, true, true, true, true, true, true, true, true, true, false, false, false, false, false, false, false].toArray rfl (by kernel_rfl) (by kernel_rfl) (by kernel_rfl) (fun _ _ _ _ h => h) rfl rfl rfl rfl (.inl (congrArg Value.bool rfl)) rfl rfl hm (hS.sub (.cons (Mem.le.refl _) (.cons (Mem.le.refl _) (.cons (Mem.le.refl _) (.cons (Mem.le.refl _) (Sub.nil _)))))) ?_
      clear hm a; intro a hm
      refine h_take_off 36 [true, true, true, true, true, true, true, true, true, true, true, true, true, true, true, true, true, true, true, true, true, true, true, true, true, true, true, true, true, true, true, true, true, true, true, true, true, false, false, false, false, false, false].toArray rfl (by kernel_rfl) (by kernel_rfl) (by kernel_rfl) (fun _ _ _ _ h => h) rfl rfl rfl rfl (.inl (congrArg Value.bool rfl)) rfl rfl hm (hS.sub (.cons (Mem.le.refl _) (.cons (Mem.le.refl _) (.cons (Mem.le.refl _) (.cons (Mem.le.refl _) (Sub.nil _)))))) ?_
      clear hm a; intro a hm
      refine h_take_off 37 [true, true, true, true, true, true, true, true, true, true, true, true, true, true, true, true, true, true, true, true, true, true, true, true, true, true, true, true, true, true, true, true, true, true, true, true, true, true, false, false, false, false, false].toArray rfl (by kernel_rfl) (by kernel_rfl) (by kernel_rfl) (fun _ _ _ _ h => h) rfl rfl rfl rfl (.inl (congrArg Value.bool rfl)) rfl rfl hm (hS.sub (.cons (Mem.le.refl _) (.cons (Mem.le.refl _) (.cons (Mem.le.refl _) (.cons (Mem.le.refl _) (Sub.nil _)))))) ?_
      clear hm a; intro a hm
      refine h_take_off 38 [true, true, true, true, true, true, true, true, true, true, true, true, true, true, true, true, true, true, true, true, true, true, true, true, true, true, true, true, true, true, true, true, true, true, true, true, true, true, true, false, false, false, false].toArray rfl (by kernel_rfl) (by kernel_rfl) (by kernel_rfl) (fun _ _ _ _ h => h) rfl rfl rfl rfl (.inl (congrArg Value.bool rfl)) rfl rfl hm (hS.sub (.cons (Mem.le.refl _) (.cons (Mem.le.refl _) (.cons (Mem.le.refl _) (.cons (Mem.le.refl _) (Sub.nil _)))))) ?_
      clear hm a; intro a hm
      refine h_take_off 39 [true, true, true, true, true, true, true, true, true, true, true, true, true, true, true, true, true, true, true, true, true, true, true, true, true, true, true, true, true, true, true, true, true, true, true, true, true, true, true, true, false, false, false].toArray rfl (by kernel_rfl) (by kernel_rfl) (by kernel_rfl) (fun _ _ _ _ h => h) rfl rfl rfl rfl (.inl (congrArg Value.bool rfl)) rfl rfl hm (hS.sub (.cons (Mem.le.refl _) (.cons (Mem.le.refl _) (.cons (Mem.le.refl _) (.cons (Mem.le.refl _) (Sub.nil _)))))) ?_
      clear hm a; intro a hm
      refine h_take_off 40 [true, true, true, true, true, true, true, true, true, true, true, true, true, true, true, true, true, true, true, true, true, true, true, true, true, true, true, true, true, true, true, true, true, true, true, true, true, true, true, true, true, false, false].toArray rfl (by kernel_rfl) (by kernel_rfl) (by kernel_rfl) (fun _ _ _ _ h => h) rfl rfl rfl rfl (.inl (congrArg Value.bool rfl)) rfl rfl hm (hS.sub (.cons (Mem.le.refl _) (.cons (Mem.le.refl _) (.cons (Mem.le.refl _) (.cons (Mem.le.refl _) (Sub.nil _)))))) ?_
      clear hm a; intro a hm
      refine h_take_off 41 [true, true, true, true, true, true, true, true, true, true, true, true, true, true, true, true, true, true, true, true, true, true, true, true, true, true, true, true, true, true, true, true, true, true, true, true, true, true, true, true, true, true, false].toArray rfl (by kernel_rfl) (by kernel_rfl) (by kernel_rfl) (fun _ _ _ _ h => h) rfl rfl rfl rfl (.inl (congrArg Value.bool rfl)) rfl rfl hm (hS.sub (.cons (Mem.le.refl _) (.cons (Mem.le.refl _) (.cons (Mem.le.refl _) (.cons (Mem.le.refl _) (Sub.nil _)))))) ?_
      clear hm a; intro a hm
      refine h_take 42 [true, true, true, true, true, true, true, true, true, true, true, true, true, true, true, true, true, true, true, true, true, true, true, true, true, true, true, true, true, true, true, true, true, true, true, true, true, true, true, true, true, true, true].toArray rfl (by kernel_rfl) (by kernel_rfl) (by kernel_rfl) (fun _ _ _ _ h => h) rfl rfl rfl rfl hm (hS.sub (.cons (Mem.le.refl _) (.cons (Mem.le.refl _) (.cons (Mem.le.refl _) (.cons (Mem.le.refl _) (Sub.nil _)))))) (v := .bool true) (fun w hS => r_pick_t hm rfl rfl rfl) ?_
      clear hm a; intro a hm
      refine h_done (by kernel_rfl) ?_
      replace hm : Fr 68 a [(0, .pointer (some ⟨g0, 0, none⟩)), (3, .pointer (some ⟨g_2, 0, none⟩)), (4, .bool false), (47, .bool true)] := hm.keep [0, 3, 4, 47]
      replace hS : Sep w0 w_42 [Mem.no, Mem.one g0 (.cells ([.int .i64 x0_n, .int .i64 x0_id, .int .i64 x0_v, p0_0, .int .i64 x0_come, .int .i64 x0_ready, .int .i64 x0_commit_Kind, .int .i64 x0_commit_From, .int .i64 x0_commit_To, .int .i64 x0_commit_View, .int .i64 x0_commit_Inst, .int .i64 x0_commit_Len, .bool x0_commit_Has, .int .i64 x0_commit_Members, .int .i64 x0_commit_Source, .int .i64 x0_commit_At, .int .i64 x0_commit_Total, p0_1, .int .i64 x0_commit_Hop, .int .i64 x0_commit_Seq, p0_2, p0_3, .int .i64 x0_commit_Index, .int .i64 x0_commit_Entry_Sess, .int .i64 x0_commit_Entry_Seq, .int .i64 x0_commit_Entry_Cmd_Kind, .int .i64 x0_commit_Entry_Cmd_Who, p0_4, p0_5, p0_6, .bool x0_is] : List Value).toArray 80 (0, 0)), M0_0, Mem.one g_2 (.cells ([.int .i64 x1.Kind, .int .i64 x1.From, .int .i64 x1.To, .int .i64 x1.View, .int .i64 x1.Inst, .int .i64 x1.Len, .bool x1.Has, .int .i64 x1.Members, .int .i64 x1.Source, .int .i64 x1.At, .int .i64 x1.Total, p1_7, .int .i64 x1.Hop, .int .i64 x1.Seq, p1_8, p1_9, .int .i64 x1.Index, .int .i64 x1.Entry.Sess, .int .i64 x1.Entry.Seq, .int .i64 x1.Entry.Cmd.Kind, .int .i64 x1.Entry.Cmd.Who, p1_10, p1_11, p1_12] : List Value).toArray 29 (0, 0))] Z := hS
      replace hm : Fr 68 a [(0, .pointer (some ⟨g0, 0, none⟩)), (3, .pointer (some ⟨g_2, 0, none⟩)), (4, .bool false), (47, .bool true)] := hm.keep [0, 3, 4, 47]
      exact x_then_n (hJ_j_8 true H _ _ ⟨Mem.no, hm, (Sep.sel hS [0, 1, 2, 3] (by decide)), (Mem.le.refl _)⟩)


end Go.Proofs
