/- What the calls do: each function once. -/
import Derived.Test.YtabedbggldnkhaaGathOncec0
namespace Go.Proofs
open Go.Gp
set_option linter.unusedVariables false
set_option maxHeartbeats 4000000 in
set_option maxRecDepth 20000 in
theorem hocketref11_Members.calls (K : Nat) (x0 : Int) (r : (List Int)) (w0 w : World) (Z A : Mem) (hA : A.le Z) (hS : Sep w0 w [] Z)
    (H : hocketref11_Members.f K x0 = some r) :
    Calls Try.prog 26 [.int .i64 x0].toArray w (Ret fun v w' => ∃ (u0 : Value) (N : Mem) (M0 : Mem), v = u0 ∧ Sep w0 w' [N, M0] Z ∧ Own (Kd.int .i64) 3 M0 Mem.no u0 r) := by
  unfold hocketref11_Members.f at H
  refine f_enter _ Try.func26 rfl Try.ntmps26 rfl fun a hm => ?_
  replace hm : Fr 20 a [(0, .int .i64 x0)] := hm
  replace hS := hS.start
  replace hS : Sep w0 w [Mem.no] Z := hS
  refine wp_seq ?_
  refine wp_region_lit ?_
  refine s_assign hm rfl rfl ?_
  clear hm a; intro a hm
  refine wpList_nil ?_
  replace hm : Fr 20 a [(0, .int .i64 x0), (2, .slice none 0 0)] := hm.keep [0, 2]
  refine x_then_n ?_
  refine wp_seq ?_
  refine wp_region_lit ?_
  refine s_assign hm rfl rfl ?_
  clear hm a; intro a hm
  refine wpList_nil ?_
  replace hm : Fr 20 a [(0, .int .i64 x0), (2, .slice none 0 0), (3, .slice none 0 0)] := hm.keep [0, 2, 3]
  refine x_then_n ?_
  refine c_seq fun KJ_1 hKJ_1 => ?_
  refine wp_seq ?_
  refine wp_region_lit ?_
  refine s_assign hm rfl rfl ?_
  clear hm a; intro a hm
  refine wpList_nil ?_
  replace hm : Fr 20 a [(0, .int .i64 x0), (2, .slice none 0 0), (3, .slice none 0 0), (4, .int .i64 0)] := hm.keep [0, 2, 3, 4]
  refine x_then_n ?_
  have hJ_j_9 : ∀ (x_3 : List Int), hocketref11_Members.J1 K x_3 = some r → ∀ (a : Act) (w_8 : World), (∃ (v_6 : Value) (N_2 : Mem) (M_4 : Mem), Fr 20 a [(2, .slice none 0 0), (3, v_6)] ∧ Sep w0 w_8 [N_2, M_4] Z ∧ Mem.no.le N_2 ∧ Own (Kd.int .i64) 3 M_4 Mem.no v_6 x_3) → KJ_1 a w_8 := by
    clear H hm hS a
    rintro x_3 H a w_8 ⟨v_6, N_2, M_4, hm, hS, le_2, ho_7⟩
    unfold hocketref11_Members.J1 at H
    refine hKJ_1 _ _ ?_
    refine wp_seq ?_
    refine wp_region_lit ?_
    refine s_move hm rfl rfl ?_
    clear hm a; intro a hm
    refine s_assign hm rfl rfl ?_
    clear hm a; intro a hm
    refine wpList_nil ?_
    replace hm : Fr 20 a [(2, v_6)] := hm.keep [2]
    refine x_then_n ?_
    refine wp_ret ?_
    obtain rfl := Option.some.inj H
    exact f_ret hm (rs := [.tmp 2]) rfl (.tmp rfl .nil) ⟨_, rfl, v_6, N_2, M_4, rfl, (Sep.sel hS [0, 1] (by decide)), ho_7⟩
  clear hKJ_1
  have hS' := hS.room
  replace hS : Sep w0 w [Mem.no, Mem.no] Z := hS'
  clear hS'
  replace hS : Sep w0 w [Mem.no, Mem.no] Z := hS
  replace hm : Fr 20 a [(0, .int .i64 x0), (2, .slice none 0 0), (3, .slice none 0 0), (4, .int .i64 0)] := hm.keep [0, 2, 3, 4]
  refine c_block ?_
  refine c_loop (fun k_17 a w_17 => ∃ (x_11 : List Int) (x_16 : Int) (v_14 : Value) (N_10 : Mem) (M_12 : Mem), hocketref11_Members.L1 K x0 (fun v => hocketref11_Members.J1 K v) k_17 (x_11, x_16) = some r ∧ Fr 20 a [(0, .int .i64 x0), (2, .slice none 0 0), (3, v_14), (4, .int .i64 x_16)] ∧ Sep w0 w_17 [N_10, M_12] Z ∧ Mem.no.le N_10 ∧ Own (Kd.int .i64) 3 M_12 Mem.no v_14 x_11) K ⟨([] : List Int), 0, .slice none 0 0, Mem.no, Mem.no, H, hm, (Sep.sel hS [0, 1] (by decide)), (Mem.le.refl _), (Own.nil (Kd.int .i64) 3 Mem.no)⟩ (fun a w h => by obtain ⟨_, _, _, _, _, H, _⟩ := h; cases (show (none : Option ((List Int))) = some r from H)) ?_
  clear hm hS a H
  rintro k_17 a w_17 KL_17 hKL_17 ⟨x_11, x_16, v_14, N_10, M_12, H, hm, hS, le_10, ho_15⟩
  replace H : hocketref11_Members.B1 K x0 (fun v => hocketref11_Members.J1 K v) (hocketref11_Members.L1 K x0 (fun v => hocketref11_Members.J1 K v) k_17) x_11 x_16 = some r := H
  unfold hocketref11_Members.B1 at H
  refine c_seq fun KJ_20 hKJ_20 => ?_
  refine wp_seq ?_
  refine wp_region_lit ?_
  refine s_move hm rfl rfl ?_
  clear hm a; intro a hm
  refine s_cmp (b := decide (x_16 < 7)) hm rfl rfl rfl (.inr (.inr (.inl ⟨rfl, rfl⟩))) ?_
  clear hm a; intro a hm
  refine wpList_nil ?_
  replace hm : Fr 20 a [(0, .int .i64 x0), (2, .slice none 0 0), (3, v_14), (4, .int .i64 x_16), (6, .bool (decide (x_16 < 7)))] := hm.keep [0, 2, 3, 4, 6]
  refine x_then_n ?_
  by_cases hc_21 : x_16 < 7
  · rw [if_pos hc_21] at H
    refine c_cond_t hm rfl (decide_eq_true hc_21) ?_
    refine wp_skip ?_
    refine x_then_n (hKJ_20 _ _ ?_)
    refine c_seq fun KJ_22 hKJ_22 => ?_
    refine c_block ?_
    refine wp_seq ?_
    refine wp_region_lit ?_
    refine s_move hm rfl rfl ?_
    clear hm a; intro a hm
    refine s_move hm rfl rfl ?_
    clear hm a; intro a hm
    refine s_conv (wu64 x_16) hm rfl Try.underlying3 Try.underlying38 rfl rfl ?_
    clear hm a; intro a hm
    refine s_shift (r := shr .i64 x0 (wu64 x_16)) hm rfl rfl rfl (wu64_nn _) (.inr ⟨rfl, rfl⟩) ?_
    clear hm a; intro a hm
    refine s_bits (i := shr .i64 x0 (wu64 x_16)) (j := 1) (r := band .i64 (shr .i64 x0 (wu64 x_16)) 1) hm rfl rfl rfl (.inl ⟨rfl, rfl⟩) ?_
    clear hm a; intro a hm
    refine s_cmp (b := ((band .i64 (shr .i64 x0 (wu64 x_16)) 1) == 1)) hm rfl rfl rfl (.inl ⟨rfl, rfl⟩) ?_
    clear hm a; intro a hm
    refine wpList_nil ?_
    replace hm : Fr 20 a [(0, .int .i64 x0), (2, .slice none 0 0), (3, v_14), (4, .int .i64 x_16), (14, .bool ((band .i64 (shr .i64 x0 (wu64 x_16)) 1) == 1))] := hm.keep [0, 2, 3, 4, 14]
    refine x_then_n ?_
    by_cases hc_23 : (band .i64 (shr .i64 x0 (wu64 x_16)) 1) = 1
    · rw [if_pos hc_23] at H
      refine c_cond_t hm rfl (beq_iff_eq.2 hc_23) ?_
      refine wp_region_lit ?_
      refine s_move hm rfl rfl ?_
      clear hm a; intro a hm
      refine s_move hm rfl rfl ?_
      clear hm a; intro a hm
      have hq_28 : Reps (Kd.int .i64) Mem.no ([x_16] : List Int) _ := ((Reps.one (d := (Kd.int .i64)) (x := x_16) (show (Kd.int .i64).K _ _ [.int .i64 x_16] from rfl)).append (Reps.nil (Kd.int .i64) _))
      refine s_buildSlice hm rfl Try.underlying23 ti3 rfl rfl rfl (.cons rfl .nil) rfl rfl rfl hS hq_28 rfl ?_
      intro w_24 v_25 M_26 hS' ho_27
      clear hm a; intro a hm
      replace hS : Sep w0 w_24 [N_10, M_12, M_26] Z := hS'
      clear hS' hq_28
      obtain ⟨t_30, et_30, H⟩ := Option.bind_eq_some_iff.1 H
      refine s_append (J := Mem.no) (I' := Mem.no) (p := 1) 17592186044416 hm rfl rfl rfl Try.underlying23 ti3 rfl rfl rfl rfl hS rfl ho_15 (Src.flat (flat_int .i64) (ho_27.src (hS.own 2))) (Mem.le.refl _) (Mem.le.refl _) et_30 ?_
      intro w_31 v_32 M_33 hS' ho_34
      clear hm a; intro a hm
      replace hS : Sep w0 w_31 [N_10, M_33, M_26] Z := hS'
      clear hS'
      refine s_assign hm rfl rfl ?_
      clear hm a; intro a hm
      refine wpList_nil ?_
      replace hm : Fr 20 a [(0, .int .i64 x0), (2, .slice none 0 0), (3, v_32), (4, .int .i64 x_16)] := hm.keep [0, 2, 3, 4]
      refine x_block_n ?_
      refine x_then_n (hKJ_22 _ _ ?_)
      refine wp_region_lit ?_
      refine s_move hm rfl rfl ?_
      clear hm a; intro a hm
      refine s_arith (r := w64 (x_16 + 1)) hm rfl rfl rfl (.inl ⟨rfl, rfl⟩) ?_
      clear hm a; intro a hm
      refine s_assign hm rfl rfl ?_
      clear hm a; intro a hm
      refine wpList_nil ?_
      replace hm : Fr 20 a [(0, .int .i64 x0), (2, .slice none 0 0), (3, v_32), (4, .int .i64 (w64 (x_16 + 1)))] := hm.keep [0, 2, 3, 4]
      refine x_then_n (hKL_17 _ _ ?_)
      replace hS : Sep w0 w_31 [N_10, M_33, M_26] Z := hS
      replace hm : Fr 20 a [(0, .int .i64 x0), (2, .slice none 0 0), (3, v_32), (4, .int .i64 (w64 (x_16 + 1)))] := hm.keep [0, 2, 3, 4]
      exact ⟨t_30, w64 (x_16 + 1), v_32, N_10, M_33, H, hm, (Sep.sel hS [0, 1] (by decide)), le_10, ho_34⟩
    · rw [if_neg hc_23] at H
      refine c_cond_f hm rfl (beq_eq_false_iff_ne.2 hc_23) ?_
      refine wp_skip ?_
      refine x_block_n ?_
      refine x_then_n (hKJ_22 _ _ ?_)
      refine wp_region_lit ?_
      refine s_move hm rfl rfl ?_
      clear hm a; intro a hm
      refine s_arith (r := w64 (x_16 + 1)) hm rfl rfl rfl (.inl ⟨rfl, rfl⟩) ?_
      clear hm a; intro a hm
      refine s_assign hm rfl rfl ?_
      clear hm a; intro a hm
      refine wpList_nil ?_
      replace hm : Fr 20 a [(0, .int .i64 x0), (2, .slice none 0 0), (3, v_14), (4, .int .i64 (w64 (x_16 + 1)))] := hm.keep [0, 2, 3, 4]
      refine x_then_n (hKL_17 _ _ ?_)
      replace hS : Sep w0 w_17 [N_10, M_12] Z := hS
      replace hm : Fr 20 a [(0, .int .i64 x0), (2, .slice none 0 0), (3, v_14), (4, .int .i64 (w64 (x_16 + 1)))] := hm.keep [0, 2, 3, 4]
      exact ⟨x_11, w64 (x_16 + 1), v_14, N_10, M_12, H, hm, (Sep.sel hS [0, 1] (by decide)), le_10, ho_15⟩
  · rw [if_neg hc_21] at H
    refine c_cond_f hm rfl (decide_eq_false hc_21) ?_
    refine wp_exit (x_then_x (x_then_x (x_block_t ?_)))
    replace hS : Sep w0 w_17 [N_10, M_12] Z := hS
    replace hm : Fr 20 a [(2, .slice none 0 0), (3, v_14)] := hm.keep [2, 3]
    exact x_then_n (hJ_j_9 x_11 H _ _ ⟨v_14, N_10, M_12, hm, (Sep.sel hS [0, 1] (by decide)), le_10, ho_15⟩)

set_option maxHeartbeats 4000000 in
set_option maxRecDepth 20000 in
theorem hocketref11_Most.calls (K : Nat) (x0 : Int) (x1 : Int) (r : Bool) (w0 w : World) (Z A : Mem) (hA : A.le Z) (hS : Sep w0 w [] Z)
    (H : hocketref11_Most.f K x0 x1 = some r) :
    Calls Try.prog 27 [.int .i64 x0, .int .i64 x1].toArray w (Ret fun v w' => ∃ (N : Mem), v = .bool r ∧ Sep w0 w' [N] Z) := by
  unfold hocketref11_Most.f at H
  refine f_enter _ Try.func27 rfl Try.ntmps27 rfl fun a hm => ?_
  replace hm : Fr 21 a [(0, .int .i64 x0), (1, .int .i64 x1)] := hm
  replace hS := hS.start
  replace hS : Sep w0 w [Mem.no] Z := hS
  refine wp_seq ?_
  refine wp_region_lit ?_
  refine s_assign hm rfl rfl ?_
  clear hm a; intro a hm
  refine wpList_nil ?_
  replace hm : Fr 21 a [(0, .int .i64 x0), (1, .int .i64 x1), (4, .bool false)] := hm.keep [0, 1, 4]
  refine x_then_n ?_
  refine wp_seq ?_
  refine wp_region_lit ?_
  refine s_move hm rfl rfl ?_
  clear hm a; intro a hm
  refine s_max hm rfl rfl rfl ?_
  clear hm a; intro a hm
  refine s_min hm rfl rfl rfl ?_
  clear hm a; intro a hm
  refine s_assign hm rfl rfl ?_
  clear hm a; intro a hm
  refine wpList_nil ?_
  replace hm : Fr 21 a [(0, .int .i64 x0), (1, .int .i64 (mn (mx x1 1) 7)), (4, .bool false)] := hm.keep [0, 1, 4]
  refine x_then_n ?_
  refine c_seq fun KJ_1 hKJ_1 => ?_
  refine wp_region_lit ?_
  refine s_move hm rfl rfl ?_
  clear hm a; intro a hm
  refine s_move hm rfl rfl ?_
  clear hm a; intro a hm
  refine s_conv (wu64 (mn (mx x1 1) 7)) hm rfl Try.underlying3 Try.underlying38 rfl rfl ?_
  clear hm a; intro a hm
  refine s_shift (r := shr .i64 x0 (wu64 (mn (mx x1 1) 7))) hm rfl rfl rfl (wu64_nn _) (.inr ⟨rfl, rfl⟩) ?_
  clear hm a; intro a hm
  refine s_cmp (b := ((shr .i64 x0 (wu64 (mn (mx x1 1) 7))) == 0)) hm rfl rfl rfl (.inl ⟨rfl, rfl⟩) ?_
  clear hm a; intro a hm
  refine s_move hm rfl rfl ?_
  clear hm a; intro a hm
  by_cases hc_2 : (shr .i64 x0 (wu64 (mn (mx x1 1) 7))) = 0
  · rw [if_pos hc_2] at H
    refine s_on hm rfl rfl (beq_iff_eq.2 hc_2) ?_
    refine s_move hm rfl rfl ?_
    clear hm a; intro a hm
    refine s_on hm rfl rfl (beq_iff_eq.2 hc_2) ?_
    obtain ⟨t_3, et_3, H⟩ := Option.bind_eq_some_iff.1 H
    refine s_call hm rfl Try.call26 rfl (hocketref11_Members.calls K x0 t_3 w0 _ _ _ (Mem.le.refl _) (hS.enter [] (by decide))  et_3) ?_
    rintro v_7 w_4 ⟨_, N_5, M_9, rfl, hS', hr_8⟩
    clear hm a; intro a hm
    obtain ⟨N_6, hS'', le_6, ln_6⟩ := hS.call [] (by decide) rfl (l' := []) (ow := [M_9]) rfl hS'
    replace hS : Sep w0 w_4 [N_6, M_9] Z := hS''
    clear hS' hS''
    refine s_on hm rfl rfl (beq_iff_eq.2 hc_2) ?_
    refine s_lenO hm rfl Try.underlying23 rfl hr_8 ?_
    clear hm a; intro a hm
    refine s_on hm rfl rfl (beq_iff_eq.2 hc_2) ?_
    refine s_arith (r := w64 (2 * (t_3.length : Int))) hm rfl rfl rfl (.inr (.inr ⟨rfl, rfl⟩)) ?_
    clear hm a; intro a hm
    refine s_on hm rfl rfl (beq_iff_eq.2 hc_2) ?_
    refine s_move hm rfl rfl ?_
    clear hm a; intro a hm
    refine s_on hm rfl rfl (beq_iff_eq.2 hc_2) ?_
    refine s_cmp (b := decide ((w64 (2 * (t_3.length : Int))) > (mn (mx x1 1) 7))) hm rfl rfl rfl (.inr (.inr (.inr (.inr (.inl ⟨rfl, rfl⟩))))) ?_
    clear hm a; intro a hm
    refine s_pick_t hm rfl rfl (beq_iff_eq.2 hc_2) rfl ?_
    clear hm a; intro a hm
    refine s_assign hm rfl rfl ?_
    clear hm a; intro a hm
    refine wpList_nil ?_
    replace hm : Fr 21 a [(4, .bool (decide ((w64 (2 * (t_3.length : Int))) > (mn (mx x1 1) 7))))] := hm.keep [4]
    refine x_then_n (hKJ_1 _ _ ?_)
    refine wp_ret ?_
    obtain rfl := Option.some.inj H
    exact f_ret hm (rs := [.tmp 4]) rfl (.tmp rfl .nil) ⟨_, rfl, N_6, rfl, (Sep.sel hS [0] (by decide))⟩
  · rw [if_neg hc_2] at H
    refine s_off hm rfl rfl rfl (beq_eq_false_iff_ne.2 hc_2) ?_
    clear hm a; intro a hm
    refine s_off hm rfl rfl rfl (beq_eq_false_iff_ne.2 hc_2) ?_
    clear hm a; intro a hm
    refine s_off hm rfl rfl rfl (beq_eq_false_iff_ne.2 hc_2) ?_
    clear hm a; intro a hm
    refine s_off hm rfl rfl rfl (beq_eq_false_iff_ne.2 hc_2) ?_
    clear hm a; intro a hm
    refine s_off hm rfl rfl rfl (beq_eq_false_iff_ne.2 hc_2) ?_
    clear hm a; intro a hm
    refine s_off hm rfl rfl rfl (beq_eq_false_iff_ne.2 hc_2) ?_
    clear hm a; intro a hm
    refine s_pick_f hm rfl rfl (beq_eq_false_iff_ne.2 hc_2) rfl ?_
    clear hm a; intro a hm
    refine s_assign hm rfl rfl ?_
    clear hm a; intro a hm
    refine wpList_nil ?_
    replace hm : Fr 21 a [(4, .bool false)] := hm.keep [4]
    refine x_then_n (hKJ_1 _ _ ?_)
    refine wp_ret ?_
    obtain rfl := Option.some.inj H
    exact f_ret hm (rs := [.tmp 4]) rfl (.tmp rfl .nil) ⟨_, rfl, Mem.no, rfl, (Sep.sel hS [0] (by decide))⟩

set_option maxHeartbeats 4000000 in
set_option maxRecDepth 20000 in
theorem slices_Index_sint_int.calls (K : Nat) (x0 : List Int) (p0_0 : Value) (x1 : Int) (r : Int) (w0 w : World) (Z A : Mem) (hA : A.le Z) (hS : Sep w0 w [] Z) (hp0_0 : Rd (Kd.int .i64) A p0_0 x0)
    (H : slices_Index_sint_int.f K x0 x1 = some r) :
    Calls Try.prog 73 [p0_0, .int .i64 x1].toArray w (Ret fun v w' => ∃ (N : Mem), v = .int .i64 r ∧ Sep w0 w' [N] Z) := by
  unfold slices_Index_sint_int.f at H
  refine f_enter _ Try.func73 rfl Try.ntmps73 rfl fun a hm => ?_
  replace hm : Fr 19 a [(0, p0_0), (1, .int .i64 x1)] := hm
  replace hS := hS.start
  replace hS : Sep w0 w [Mem.no] Z := hS
  refine wp_seq ?_
  refine wp_region_lit ?_
  refine s_assign hm rfl rfl ?_
  clear hm a; intro a hm
  refine wpList_nil ?_
  replace hm : Fr 19 a [(0, p0_0), (1, .int .i64 x1), (4, .int .i64 0)] := hm.keep [0, 1, 4]
  refine x_then_n ?_
  refine c_seq fun KJ_1 hKJ_1 => ?_
  refine wp_seq ?_
  refine wp_region_lit ?_
  refine s_move hm rfl rfl ?_
  clear hm a; intro a hm
  refine s_len hm rfl Try.underlying23 rfl hp0_0 ?_
  clear hm a; intro a hm
  refine s_move hm rfl rfl ?_
  clear hm a; intro a hm
  refine wpList_nil ?_
  replace hm : Fr 19 a [(0, p0_0), (1, .int .i64 x1), (4, .int .i64 0), (7, .int .i64 (x0.length : Int)), (8, .int .i64 0)] := hm.keep [0, 1, 4, 7, 8]
  refine x_then_n ?_
  have hJ_j_4 : slices_Index_sint_int.J1 K = some r → ∀ (a : Act) (w_3 : World), (∃ (N_2 : Mem), Fr 19 a [(4, .int .i64 0)] ∧ Sep w0 w_3 [N_2] Z ∧ Mem.no.le N_2) → KJ_1 a w_3 := by
    clear H hm hS a
    rintro H a w_3 ⟨N_2, hm, hS, le_2⟩
    unfold slices_Index_sint_int.J1 at H
    refine hKJ_1 _ _ ?_
    refine wp_seq ?_
    refine wp_region_lit ?_
    refine s_assign hm rfl rfl ?_
    clear hm a; intro a hm
    refine wpList_nil ?_
    replace hm : Fr 19 a [(4, .int .i64 (-1))] := hm.keep [4]
    refine x_then_n ?_
    refine wp_ret ?_
    obtain rfl := Option.some.inj H
    exact f_ret hm (rs := [.tmp 4]) rfl (.tmp rfl .nil) ⟨_, rfl, N_2, rfl, (Sep.sel hS [0] (by decide))⟩
  clear hKJ_1
  replace hS : Sep w0 w [Mem.no] Z := hS
  replace hm : Fr 19 a [(0, p0_0), (1, .int .i64 x1), (4, .int .i64 0), (7, .int .i64 (x0.length : Int)), (8, .int .i64 0)] := hm.keep [0, 1, 4, 7, 8]
  refine c_block ?_
  refine c_loop (fun k_7 a w_7 => ∃ (x_6 : Int) (N_5 : Mem), slices_Index_sint_int.L1 K x0 x1 (fun v => slices_Index_sint_int.J1 K) k_7 x_6 = some r ∧ Fr 19 a [(0, p0_0), (1, .int .i64 x1), (4, .int .i64 0), (7, .int .i64 (x0.length : Int)), (8, .int .i64 x_6)] ∧ Sep w0 w_7 [N_5] Z ∧ Mem.no.le N_5) K ⟨0, Mem.no, H, hm, (Sep.sel hS [0] (by decide)), (Mem.le.refl _)⟩ (fun a w h => by obtain ⟨_, _, H, _⟩ := h; cases (show (none : Option (Int)) = some r from H)) ?_
  clear hm hS a H
  rintro k_7 a w_7 KL_7 hKL_7 ⟨x_6, N_5, H, hm, hS, le_5⟩
  replace H : slices_Index_sint_int.B1 K x0 x1 (fun v => slices_Index_sint_int.J1 K) (slices_Index_sint_int.L1 K x0 x1 (fun v => slices_Index_sint_int.J1 K) k_7) x_6 = some r := H
  unfold slices_Index_sint_int.B1 at H
  refine wp_seq ?_
  refine wp_region_lit ?_
  refine s_cmp (b := decide (x_6 < (x0.length : Int))) hm rfl rfl rfl (.inr (.inr (.inl ⟨rfl, rfl⟩))) ?_
  clear hm a; intro a hm
  refine wpList_nil ?_
  replace hm : Fr 19 a [(0, p0_0), (1, .int .i64 x1), (4, .int .i64 0), (7, .int .i64 (x0.length : Int)), (8, .int .i64 x_6), (9, .bool (decide (x_6 < (x0.length : Int))))] := hm.keep [0, 1, 4, 7, 8, 9]
  refine x_then_n ?_
  refine c_seq fun KJ_9 hKJ_9 => ?_
  by_cases hc_10 : x_6 < (x0.length : Int)
  · rw [if_pos hc_10] at H
    refine c_cond_t hm rfl (decide_eq_true hc_10) ?_
    refine wp_skip ?_
    refine x_then_n (hKJ_9 _ _ ?_)
    refine c_seq fun KJ_11 hKJ_11 => ?_
    refine c_block ?_
    refine wp_seq ?_
    refine wp_region_lit ?_
    refine s_move hm rfl rfl ?_
    clear hm a; intro a hm
    refine s_assign hm rfl rfl ?_
    clear hm a; intro a hm
    refine wpList_nil ?_
    replace hm : Fr 19 a [(0, p0_0), (1, .int .i64 x1), (4, .int .i64 0), (5, .int .i64 x_6), (7, .int .i64 (x0.length : Int)), (8, .int .i64 x_6)] := hm.keep [0, 1, 4, 5, 7, 8]
    refine x_then_n ?_
    refine wp_seq ?_
    refine wp_region_lit ?_
    refine s_move hm rfl rfl ?_
    clear hm a; intro a hm
    refine s_move hm rfl rfl ?_
    clear hm a; intro a hm
    refine s_move hm rfl rfl ?_
    clear hm a; intro a hm
    obtain ⟨t_12, et_12, H⟩ := Option.bind_eq_some_iff.1 H
    refine v_index hm rfl Try.underlying23 ti3 rfl rfl rfl hp0_0 (hA.trans hS.old) et_12 ?_
    intro ad_13 cs_14 hk_15 hc_16
    obtain rfl := (show cs_14 = [.int .i64 t_12] from hk_15)
    clear hm a; intro a hm
    refine s_load hm rfl rfl (el_one (o := 0) hc_16 Try.underlying3 rfl rfl) ?_
    clear hm a; intro a hm
    refine s_cmp (b := (x1 == t_12)) hm rfl rfl rfl (.inl ⟨rfl, rfl⟩) ?_
    clear hm a; intro a hm
    refine wpList_nil ?_
    replace hm : Fr 19 a [(0, p0_0), (1, .int .i64 x1), (4, .int .i64 0), (5, .int .i64 x_6), (7, .int .i64 (x0.length : Int)), (8, .int .i64 x_6), (16, .bool (x1 == t_12))] := hm.keep [0, 1, 4, 5, 7, 8, 16]
    refine x_then_n ?_
    by_cases hc_17 : x1 = t_12
    · rw [if_pos hc_17] at H
      refine c_cond_t hm rfl (beq_iff_eq.2 hc_17) ?_
      refine wp_seq ?_
      refine wp_region_lit ?_
      refine s_move hm rfl rfl ?_
      clear hm a; intro a hm
      refine s_assign hm rfl rfl ?_
      clear hm a; intro a hm
      refine wpList_nil ?_
      replace hm : Fr 19 a [(0, p0_0), (1, .int .i64 x1), (4, .int .i64 x_6), (7, .int .i64 (x0.length : Int)), (8, .int .i64 x_6)] := hm.keep [0, 1, 4, 7, 8]
      refine x_then_n ?_
      refine wp_ret (x_block_r (x_then_r (x_then_r (x_block_r (x_then_r ?_)))))
      obtain rfl := Option.some.inj H
      exact f_ret hm (rs := [.tmp 4]) rfl (.tmp rfl .nil) ⟨_, rfl, N_5, rfl, (Sep.sel hS [0] (by decide))⟩
    · rw [if_neg hc_17] at H
      refine c_cond_f hm rfl (beq_eq_false_iff_ne.2 hc_17) ?_
      refine wp_skip ?_
      refine x_block_n ?_
      refine x_then_n (hKJ_11 _ _ ?_)
      refine wp_region_lit ?_
      refine s_arith (r := w64 (x_6 + 1)) hm rfl rfl rfl (.inl ⟨rfl, rfl⟩) ?_
      clear hm a; intro a hm
      refine s_move hm rfl rfl ?_
      clear hm a; intro a hm
      refine wpList_nil ?_
      replace hm : Fr 19 a [(0, p0_0), (1, .int .i64 x1), (4, .int .i64 0), (7, .int .i64 (x0.length : Int)), (8, .int .i64 (w64 (x_6 + 1)))] := hm.keep [0, 1, 4, 7, 8]
      refine x_then_n (hKL_7 _ _ ?_)
      replace hS : Sep w0 w_7 [N_5] Z := hS
      replace hm : Fr 19 a [(0, p0_0), (1, .int .i64 x1), (4, .int .i64 0), (7, .int .i64 (x0.length : Int)), (8, .int .i64 (w64 (x_6 + 1)))] := hm.keep [0, 1, 4, 7, 8]
      exact ⟨w64 (x_6 + 1), N_5, H, hm, (Sep.sel hS [0] (by decide)), le_5⟩
  · rw [if_neg hc_10] at H
    refine c_cond_f hm rfl (decide_eq_false hc_10) ?_
    refine wp_exit (x_then_x (x_then_x (x_block_t ?_)))
    replace hS : Sep w0 w_7 [N_5] Z := hS
    replace hm : Fr 19 a [(4, .int .i64 0)] := hm.keep [4]
    exact x_then_n (hJ_j_4  H _ _ ⟨N_5, hm, (Sep.sel hS [0] (by decide)), le_5⟩)

set_option maxHeartbeats 4000000 in
set_option maxRecDepth 20000 in
theorem slices_Contains_sint_int.calls (K : Nat) (x0 : List Int) (p0_0 : Value) (x1 : Int) (r : Bool) (w0 w : World) (Z A : Mem) (hA : A.le Z) (hS : Sep w0 w [] Z) (hp0_0 : Rd (Kd.int .i64) A p0_0 x0)
    (H : slices_Contains_sint_int.f K x0 x1 = some r) :
    Calls Try.prog 63 [p0_0, .int .i64 x1].toArray w (Ret fun v w' => ∃ (N : Mem), v = .bool r ∧ Sep w0 w' [N] Z) := by
  unfold slices_Contains_sint_int.f at H
  refine f_enter _ Try.func63 rfl Try.ntmps63 rfl fun a hm => ?_
  replace hm : Fr 9 a [(0, p0_0), (1, .int .i64 x1)] := hm
  replace hS := hS.start
  replace hS : Sep w0 w [Mem.no] Z := hS
  refine wp_seq ?_
  refine wp_region_lit ?_
  refine s_assign hm rfl rfl ?_
  clear hm a; intro a hm
  refine wpList_nil ?_
  replace hm : Fr 9 a [(0, p0_0), (1, .int .i64 x1), (4, .bool false)] := hm.keep [0, 1, 4]
  refine x_then_n ?_
  refine wp_seq ?_
  refine wp_region_lit ?_
  refine s_move hm rfl rfl ?_
  clear hm a; intro a hm
  refine s_move hm rfl rfl ?_
  clear hm a; intro a hm
  obtain ⟨t_1, et_1, H⟩ := Option.bind_eq_some_iff.1 H
  refine s_call hm rfl Try.call73 rfl (slices_Index_sint_int.calls K x0 _ x1 t_1 w0 _ _ _ (Mem.le.refl _) (hS.enter [] (by decide)) (hp0_0.mono (hA.trans (hS.le_zed []))) et_1) ?_
  rintro _ w_2 ⟨N_3, rfl, hS'⟩
  clear hm a; intro a hm
  obtain ⟨N_4, hS'', le_4, ln_4⟩ := hS.call [] (by decide) rfl (l' := []) (ow := []) rfl hS'
  replace hS : Sep w0 w_2 [N_4] Z := hS''
  clear hS' hS''
  refine s_cmp (b := decide (t_1 ≥ 0)) hm rfl rfl rfl (.inr (.inr (.inr (.inr (.inr ⟨rfl, rfl⟩))))) ?_
  clear hm a; intro a hm
  refine s_assign hm rfl rfl ?_
  clear hm a; intro a hm
  refine wpList_nil ?_
  replace hm : Fr 9 a [(4, .bool (decide (t_1 ≥ 0)))] := hm.keep [4]
  refine x_then_n ?_
  refine wp_ret ?_
  obtain rfl := Option.some.inj H
  exact f_ret hm (rs := [.tmp 4]) rfl (.tmp rfl .nil) ⟨_, rfl, N_4, rfl, (Sep.sel hS [0] (by decide))⟩

set_option maxHeartbeats 4000000 in
set_option maxRecDepth 20000 in
theorem hocketref4_SameEntry.calls (x0 : api_Entry) (p0_0 : Value) (p0_1 : Value) (p0_2 : Value) (x1 : api_Entry) (p1_3 : Value) (p1_4 : Value) (p1_5 : Value) (r : Bool) (w0 w : World) (Z A : Mem) (hA : A.le Z) (hS : Sep w0 w [] Z) (hp0_0 : Rd Kd.u8 A p0_0 x0.Cmd.Key) (hp0_1 : Rd Kd.u8 A p0_1 x0.Cmd.Val) (hp0_2 : Rd Kd.u8 A p0_2 x0.Cmd.Old) (hp1_3 : Rd Kd.u8 A p1_3 x1.Cmd.Key) (hp1_4 : Rd Kd.u8 A p1_4 x1.Cmd.Val) (hp1_5 : Rd Kd.u8 A p1_5 x1.Cmd.Old)
    (H : hocketref4_SameEntry.f x0 x1 = some r) :
    Calls Try.prog 66 [.agg ([.int .i64 x0.Sess, .int .i64 x0.Seq, .int .i64 x0.Cmd.Kind, .int .i64 x0.Cmd.Who, p0_0, p0_1, p0_2] : List Value).toArray, .agg ([.int .i64 x1.Sess, .int .i64 x1.Seq, .int .i64 x1.Cmd.Kind, .int .i64 x1.Cmd.Who, p1_3, p1_4, p1_5] : List Value).toArray].toArray w (Ret fun v w' => ∃ (N : Mem), v = .bool r ∧ Sep w0 w' [N] Z) := by
  unfold hocketref4_SameEntry.f at H
  refine f_enter _ Try.func66 rfl Try.ntmps66 rfl fun a hm => ?_
  replace hm : Fr 68 a [(0, .agg ([.int .i64 x0.Sess, .int .i64 x0.Seq, .int .i64 x0.Cmd.Kind, .int .i64 x0.Cmd.Who, p0_0, p0_1, p0_2] : List Value).toArray), (1, .agg ([.int .i64 x1.Sess, .int .i64 x1.Seq, .int .i64 x1.Cmd.Kind, .int .i64 x1.Cmd.Who, p1_3, p1_4, p1_5] : List Value).toArray)] := hm
  replace hS := hS.start
  replace hS : Sep w0 w [Mem.no] Z := hS
  refine wp_seq ?_
  refine wp_region_lit ?_
  refine v_box (vs := [.int .i64 x0.Sess, .int .i64 x0.Seq, .int .i64 x0.Cmd.Kind, .int .i64 x0.Cmd.Who, p0_0, p0_1, p0_2]) hm rfl rfl rfl hS ?_
  intro w_1 g_2 hS'
  clear hm a; intro a hm
  replace hS : Sep w0 w_1 [Mem.no, Mem.one g_2 (.cells ([.int .i64 x0.Sess, .int .i64 x0.Seq, .int .i64 x0.Cmd.Kind, .int .i64 x0.Cmd.Who, p0_0, p0_1, p0_2] : List Value).toArray 27 (0, 0))] Z := hS'
  clear hS'
  refine v_box (vs := [.int .i64 x1.Sess, .int .i64 x1.Seq, .int .i64 x1.Cmd.Kind, .int .i64 x1.Cmd.Who, p1_3, p1_4, p1_5]) hm rfl rfl rfl hS ?_
  intro w_3 g_4 hS'
  clear hm a; intro a hm
  replace hS : Sep w0 w_3 [Mem.no, Mem.one g_2 (.cells ([.int .i64 x0.Sess, .int .i64 x0.Seq, .int .i64 x0.Cmd.Kind, .int .i64 x0.Cmd.Who, p0_0, p0_1, p0_2] : List Value).toArray 27 (0, 0)), Mem.one g_4 (.cells ([.int .i64 x1.Sess, .int .i64 x1.Seq, .int .i64 x1.Cmd.Kind, .int .i64 x1.Cmd.Who, p1_3, p1_4, p1_5] : List Value).toArray 27 (0, 0))] Z := hS'
  clear hS'
  refine s_assign hm rfl rfl ?_
  clear hm a; intro a hm
  refine wpList_nil ?_
  replace hm : Fr 68 a [(2, .pointer (some ⟨g_2, 0, none⟩)), (3, .pointer (some ⟨g_4, 0, none⟩)), (4, .bool false)] := hm.keep [2, 3, 4]
  refine x_then_n ?_
  refine c_seq fun KJ_5 hKJ_5 => ?_
  refine wp_region_lit ?_
  refine s_fieldAddr hm rfl Try.underlying27 rfl ti3 rfl rfl ?_
  clear hm a; intro a hm
  refine s_load hm rfl rfl (hS.load_one (p := 1) rfl Try.underlying3 rfl rfl) ?_
  clear hm a; intro a hm
  refine s_fieldAddr hm rfl Try.underlying27 rfl ti3 rfl rfl ?_
  clear hm a; intro a hm
  refine s_load hm rfl rfl (hS.load_one (p := 2) rfl Try.underlying3 rfl rfl) ?_
  clear hm a; intro a hm
  refine s_cmp (b := (x0.Sess == x1.Sess)) hm rfl rfl rfl (.inl ⟨rfl, rfl⟩) ?_
  clear hm a; intro a hm
  refine s_move hm rfl rfl ?_
  clear hm a; intro a hm
  by_cases hc_6 : x0.Sess = x1.Sess
  · rw [if_pos hc_6] at H
    refine s_on hm rfl rfl (beq_iff_eq.2 hc_6) ?_
    refine s_fieldAddr hm rfl Try.underlying27 rfl ti3 rfl rfl ?_
    clear hm a; intro a hm
    refine s_on hm rfl rfl (beq_iff_eq.2 hc_6) ?_
    refine s_load hm rfl rfl (hS.load_one (p := 1) rfl Try.underlying3 rfl rfl) ?_
    clear hm a; intro a hm
    refine s_on hm rfl rfl (beq_iff_eq.2 hc_6) ?_
    refine s_fieldAddr hm rfl Try.underlying27 rfl ti3 rfl rfl ?_
    clear hm a; intro a hm
    refine s_on hm rfl rfl (beq_iff_eq.2 hc_6) ?_
    refine s_load hm rfl rfl (hS.load_one (p := 2) rfl Try.underlying3 rfl rfl) ?_
    clear hm a; intro a hm
    refine s_on hm rfl rfl (beq_iff_eq.2 hc_6) ?_
    refine s_cmp (b := (x0.Seq == x1.Seq)) hm rfl rfl rfl (.inl ⟨rfl, rfl⟩) ?_
    clear hm a; intro a hm
    refine s_pick_t hm rfl rfl (beq_iff_eq.2 hc_6) rfl ?_
    clear hm a; intro a hm
    refine s_move hm rfl rfl ?_
    clear hm a; intro a hm
    by_cases hc_7 : x0.Seq = x1.Seq
    · rw [if_pos hc_7] at H
      refine s_on hm rfl rfl (beq_iff_eq.2 hc_7) ?_
      refine s_fieldAddr hm rfl Try.underlying27 rfl ti25 rfl rfl ?_
      clear hm a; intro a hm
      refine s_on hm rfl rfl (beq_iff_eq.2 hc_7) ?_
      refine s_fieldAddr hm rfl Try.underlying25 rfl ti3 rfl rfl ?_
      clear hm a; intro a hm
      refine s_on hm rfl rfl (beq_iff_eq.2 hc_7) ?_
      refine s_load hm rfl rfl (hS.load_one (p := 1) rfl Try.underlying3 rfl rfl) ?_
      clear hm a; intro a hm
      refine s_on hm rfl rfl (beq_iff_eq.2 hc_7) ?_
      refine s_fieldAddr hm rfl Try.underlying27 rfl ti25 rfl rfl ?_
      clear hm a; intro a hm
      refine s_on hm rfl rfl (beq_iff_eq.2 hc_7) ?_
      refine s_fieldAddr hm rfl Try.underlying25 rfl ti3 rfl rfl ?_
      clear hm a; intro a hm
      refine s_on hm rfl rfl (beq_iff_eq.2 hc_7) ?_
      refine s_load hm rfl rfl (hS.load_one (p := 2) rfl Try.underlying3 rfl rfl) ?_
      clear hm a; intro a hm
      refine s_on hm rfl rfl (beq_iff_eq.2 hc_7) ?_
      refine s_cmp (b := (x0.Cmd.Kind == x1.Cmd.Kind)) hm rfl rfl rfl (.inl ⟨rfl, rfl⟩) ?_
      clear hm a; intro a hm
      refine s_pick_t hm rfl rfl (beq_iff_eq.2 hc_7) rfl ?_
      clear hm a; intro a hm
      refine s_move hm rfl rfl ?_
      clear hm a; intro a hm
      by_cases hc_8 : x0.Cmd.Kind = x1.Cmd.Kind
      · rw [if_pos hc_8] at H
        refine s_on hm rfl rfl (beq_iff_eq.2 hc_8) ?_
        refine s_fieldAddr hm rfl Try.underlying27 rfl ti25 rfl rfl ?_
        clear hm a; intro a hm
        refine s_on hm rfl rfl (beq_iff_eq.2 hc_8) ?_
        refine s_fieldAddr hm rfl Try.underlying25 rfl ti3 rfl rfl ?_
        clear hm a; intro a hm
        refine s_on hm rfl rfl (beq_iff_eq.2 hc_8) ?_
        refine s_load hm rfl rfl (hS.load_one (p := 1) rfl Try.underlying3 rfl rfl) ?_
        clear hm a; intro a hm
        refine s_on hm rfl rfl (beq_iff_eq.2 hc_8) ?_
        refine s_fieldAddr hm rfl Try.underlying27 rfl ti25 rfl rfl ?_
        clear hm a; intro a hm
        refine s_on hm rfl rfl (beq_iff_eq.2 hc_8) ?_
        refine s_fieldAddr hm rfl Try.underlying25 rfl ti3 rfl rfl ?_
        clear hm a; intro a hm
        refine s_on hm rfl rfl (beq_iff_eq.2 hc_8) ?_
        refine s_load hm rfl rfl (hS.load_one (p := 2) rfl Try.underlying3 rfl rfl) ?_
        clear hm a; intro a hm
        refine s_on hm rfl rfl (beq_iff_eq.2 hc_8) ?_
        refine s_cmp (b := (x0.Cmd.Who == x1.Cmd.Who)) hm rfl rfl rfl (.inl ⟨rfl, rfl⟩) ?_
        clear hm a; intro a hm
        refine s_pick_t hm rfl rfl (beq_iff_eq.2 hc_8) rfl ?_
        clear hm a; intro a hm
        refine s_move hm rfl rfl ?_
        clear hm a; intro a hm
        by_cases hc_9 : x0.Cmd.Who = x1.Cmd.Who
        · rw [if_pos hc_9] at H
          refine s_on hm rfl rfl (beq_iff_eq.2 hc_9) ?_
          refine s_fieldAddr hm rfl Try.underlying27 rfl ti25 rfl rfl ?_
          clear hm a; intro a hm
          refine s_on hm rfl rfl (beq_iff_eq.2 hc_9) ?_
          refine s_fieldAddr hm rfl Try.underlying25 rfl ti22 rfl rfl ?_
          clear hm a; intro a hm
          refine s_on hm rfl rfl (beq_iff_eq.2 hc_9) ?_
          refine s_load hm rfl rfl (hS.load_one (p := 1) rfl Try.underlying22 rfl rfl) ?_
          clear hm a; intro a hm
          refine s_on hm rfl rfl (beq_iff_eq.2 hc_9) ?_
          refine s_b2s hm rfl Try.underlying22 Try.underlying5 Try.underlying9 rfl hp0_0 (hA.trans hS.old) ?_
          clear hm a; intro a hm
          refine s_on hm rfl rfl (beq_iff_eq.2 hc_9) ?_
          refine s_fieldAddr hm rfl Try.underlying27 rfl ti25 rfl rfl ?_
          clear hm a; intro a hm
          refine s_on hm rfl rfl (beq_iff_eq.2 hc_9) ?_
          refine s_fieldAddr hm rfl Try.underlying25 rfl ti22 rfl rfl ?_
          clear hm a; intro a hm
          refine s_on hm rfl rfl (beq_iff_eq.2 hc_9) ?_
          refine s_load hm rfl rfl (hS.load_one (p := 2) rfl Try.underlying22 rfl rfl) ?_
          clear hm a; intro a hm
          refine s_on hm rfl rfl (beq_iff_eq.2 hc_9) ?_
          refine s_b2s hm rfl Try.underlying22 Try.underlying5 Try.underlying9 rfl hp1_3 (hA.trans hS.old) ?_
          clear hm a; intro a hm
          refine s_on hm rfl rfl (beq_iff_eq.2 hc_9) ?_
          refine s_strEq (b := (x0.Cmd.Key == x1.Cmd.Key)) hm rfl rfl rfl (.inl ⟨rfl, rfl⟩) ?_
          clear hm a; intro a hm
          refine s_pick_t hm rfl rfl (beq_iff_eq.2 hc_9) rfl ?_
          clear hm a; intro a hm
          refine s_move hm rfl rfl ?_
          clear hm a; intro a hm
          by_cases hc_10 : x0.Cmd.Key = x1.Cmd.Key
          · rw [if_pos hc_10] at H
            refine s_on hm rfl rfl (beq_iff_eq.2 hc_10) ?_
            refine s_fieldAddr hm rfl Try.underlying27 rfl ti25 rfl rfl ?_
            clear hm a; intro a hm
            refine s_on hm rfl rfl (beq_iff_eq.2 hc_10) ?_
            refine s_fieldAddr hm rfl Try.underlying25 rfl ti22 rfl rfl ?_
            clear hm a; intro a hm
            refine s_on hm rfl rfl (beq_iff_eq.2 hc_10) ?_
            refine s_load hm rfl rfl (hS.load_one (p := 1) rfl Try.underlying22 rfl rfl) ?_
            clear hm a; intro a hm
            refine s_on hm rfl rfl (beq_iff_eq.2 hc_10) ?_
            refine s_b2s hm rfl Try.underlying22 Try.underlying5 Try.underlying9 rfl hp0_1 (hA.trans hS.old) ?_
            clear hm a; intro a hm
            refine s_on hm rfl rfl (beq_iff_eq.2 hc_10) ?_
            refine s_fieldAddr hm rfl Try.underlying27 rfl ti25 rfl rfl ?_
            clear hm a; intro a hm
            refine s_on hm rfl rfl (beq_iff_eq.2 hc_10) ?_
            refine s_fieldAddr hm rfl Try.underlying25 rfl ti22 rfl rfl ?_
            clear hm a; intro a hm
            refine s_on hm rfl rfl (beq_iff_eq.2 hc_10) ?_
            refine s_load hm rfl rfl (hS.load_one (p := 2) rfl Try.underlying22 rfl rfl) ?_
            clear hm a; intro a hm
            refine s_on hm rfl rfl (beq_iff_eq.2 hc_10) ?_
            refine s_b2s hm rfl Try.underlying22 Try.underlying5 Try.underlying9 rfl hp1_4 (hA.trans hS.old) ?_
            clear hm a; intro a hm
            refine s_on hm rfl rfl (beq_iff_eq.2 hc_10) ?_
            refine s_strEq (b := (x0.Cmd.Val == x1.Cmd.Val)) hm rfl rfl rfl (.inl ⟨rfl, rfl⟩) ?_
            clear hm a; intro a hm
            refine s_pick_t hm rfl rfl (beq_iff_eq.2 hc_10) rfl ?_
            clear hm a; intro a hm
            refine s_move hm rfl rfl ?_
            clear hm a; intro a hm
            by_cases hc_11 : x0.Cmd.Val = x1.Cmd.Val
            · rw [if_pos hc_11] at H
              refine s_on hm rfl rfl (beq_iff_eq.2 hc_11) ?_
              refine s_fieldAddr hm rfl Try.underlying27 rfl ti25 rfl rfl ?_
              clear hm a; intro a hm
              refine s_on hm rfl rfl (beq_iff_eq.2 hc_11) ?_
              refine s_fieldAddr hm rfl Try.underlying25 rfl ti22 rfl rfl ?_
              clear hm a; intro a hm
              refine s_on hm rfl rfl (beq_iff_eq.2 hc_11) ?_
              refine s_load hm rfl rfl (hS.load_one (p := 1) rfl Try.underlying22 rfl rfl) ?_
              clear hm a; intro a hm
              refine s_on hm rfl rfl (beq_iff_eq.2 hc_11) ?_
              refine s_b2s hm rfl Try.underlying22 Try.underlying5 Try.underlying9 rfl hp0_2 (hA.trans hS.old) ?_
              clear hm a; intro a hm
              refine s_on hm rfl rfl (beq_iff_eq.2 hc_11) ?_
              refine s_fieldAddr hm rfl Try.underlying27 rfl ti25 rfl rfl ?_
              clear hm a; intro a hm
              refine s_on hm rfl rfl (beq_iff_eq.2 hc_11) ?_
              refine s_fieldAddr hm rfl Try.underlying25 rfl ti22 rfl rfl ?_
              clear hm a; intro a hm
              refine s_on hm rfl rfl (beq_iff_eq.2 hc_11) ?_
              refine s_load hm rfl rfl (hS.load_one (p := 2) rfl Try.underlying22 rfl rfl) ?_
              clear hm a; intro a hm
              refine s_on hm rfl rfl (beq_iff_eq.2 hc_11) ?_
              refine s_b2s hm rfl Try.underlying22 Try.underlying5 Try.underlying9 rfl hp1_5 (hA.trans hS.old) ?_
              clear hm a; intro a hm
              refine s_on hm rfl rfl (beq_iff_eq.2 hc_11) ?_
              refine s_strEq (b := (x0.Cmd.Old == x1.Cmd.Old)) hm rfl rfl rfl (.inl ⟨rfl, rfl⟩) ?_
              clear hm a; intro a hm
              refine s_pick_t hm rfl rfl (beq_iff_eq.2 hc_11) rfl ?_
              clear hm a; intro a hm
              refine s_assign hm rfl rfl ?_
              clear hm a; intro a hm
              refine wpList_nil ?_
              replace hm : Fr 68 a [(4, .bool (x0.Cmd.Old == x1.Cmd.Old))] := hm.keep [4]
              refine x_then_n (hKJ_5 _ _ ?_)
              refine wp_ret ?_
              obtain rfl := Option.some.inj H
              exact f_ret hm (rs := [.tmp 4]) rfl (.tmp rfl .nil) ⟨_, rfl, Mem.no, rfl, (Sep.sel hS [0] (by decide))⟩
            · rw [if_neg hc_11] at H
              refine s_off hm rfl rfl rfl (beq_eq_false_iff_ne.2 hc_11) ?_
              clear hm a; intro a hm
              refine s_off hm rfl rfl rfl (beq_eq_false_iff_ne.2 hc_11) ?_
              clear hm a; intro a hm
              refine s_off hm rfl rfl rfl (beq_eq_false_iff_ne.2 hc_11) ?_
              clear hm a; intro a hm
              refine s_off hm rfl rfl rfl (beq_eq_false_iff_ne.2 hc_11) ?_
              clear hm a; intro a hm
              refine s_off hm rfl rfl rfl (beq_eq_false_iff_ne.2 hc_11) ?_
              clear hm a; intro a hm
              refine s_off hm rfl rfl rfl (beq_eq_false_iff_ne.2 hc_11) ?_
              clear hm a; intro a hm
              refine s_off hm rfl rfl rfl (beq_eq_false_iff_ne.2 hc_11) ?_
              clear hm a; intro a hm
              refine s_off hm rfl rfl rfl (beq_eq_false_iff_ne.2 hc_11) ?_
              clear hm a; intro a hm
              refine s_off hm rfl rfl rfl (beq_eq_false_iff_ne.2 hc_11) ?_
              clear hm a; intro a hm
              refine s_pick_f hm rfl rfl (beq_eq_false_iff_ne.2 hc_11) rfl ?_
              clear hm a; intro a hm
              refine s_assign hm rfl rfl ?_
              clear hm a; intro a hm
              refine wpList_nil ?_
              replace hm : Fr 68 a [(4, .bool false)] := hm.keep [4]
              refine x_then_n (hKJ_5 _ _ ?_)
              refine wp_ret ?_
              obtain rfl := Option.some.inj H
              exact f_ret hm (rs := [.tmp 4]) rfl (.tmp rfl .nil) ⟨_, rfl, Mem.no, rfl, (Sep.sel hS [0] (by decide))⟩
          · rw [if_neg hc_10] at H
            refine s_off hm rfl rfl rfl (beq_eq_false_iff_ne.2 hc_10) ?_
            clear hm a; intro a hm
            refine s_off hm rfl rfl rfl (beq_eq_false_iff_ne.2 hc_10) ?_
            clear hm a; intro a hm
            refine s_off hm rfl rfl rfl (beq_eq_false_iff_ne.2 hc_10) ?_
            clear hm a; intro a hm
            refine s_off hm rfl rfl rfl (beq_eq_false_iff_ne.2 hc_10) ?_
            clear hm a; intro a hm
            refine s_off hm rfl rfl rfl (beq_eq_false_iff_ne.2 hc_10) ?_
            clear hm a; intro a hm
            refine s_off hm rfl rfl rfl (beq_eq_false_iff_ne.2 hc_10) ?_
            clear hm a; intro a hm
            refine s_off hm rfl rfl rfl (beq_eq_false_iff_ne.2 hc_10) ?_
            clear hm a; intro a hm
            refine s_off hm rfl rfl rfl (beq_eq_false_iff_ne.2 hc_10) ?_
            clear hm a; intro a hm
            refine s_off hm rfl rfl rfl (beq_eq_false_iff_ne.2 hc_10) ?_
            clear hm a; intro a hm
            refine s_pick_f hm rfl rfl (beq_eq_false_iff_ne.2 hc_10) rfl ?_
            clear hm a; intro a hm
            refine s_move hm rfl rfl ?_
            clear hm a; intro a hm
            refine s_off hm rfl rfl rfl rfl ?_
            clear hm a; intro a hm
            refine s_off hm rfl rfl rfl rfl ?_
            clear hm a; intro a hm
            refine s_off hm rfl rfl rfl rfl ?_
            clear hm a; intro a hm
            refine s_off hm rfl rfl rfl rfl ?_
            clear hm a; intro a hm
            refine s_off hm rfl rfl rfl rfl ?_
            clear hm a; intro a hm
            refine s_off hm rfl rfl rfl rfl ?_
            clear hm a; intro a hm
            refine s_off hm rfl rfl rfl rfl ?_
            clear hm a; intro a hm
            refine s_off hm rfl rfl rfl rfl ?_
            clear hm a; intro a hm
            refine s_off hm rfl rfl rfl rfl ?_
            clear hm a; intro a hm
            refine s_pick_f hm rfl rfl rfl rfl ?_
            clear hm a; intro a hm
            refine s_assign hm rfl rfl ?_
            clear hm a; intro a hm
            refine wpList_nil ?_
            replace hm : Fr 68 a [(4, .bool false)] := hm.keep [4]
            refine x_then_n (hKJ_5 _ _ ?_)
            refine wp_ret ?_
            obtain rfl := Option.some.inj H
            exact f_ret hm (rs := [.tmp 4]) rfl (.tmp rfl .nil) ⟨_, rfl, Mem.no, rfl, (Sep.sel hS [0] (by decide))⟩
        · rw [if_neg hc_9] at H
          refine s_off hm rfl rfl rfl (beq_eq_false_iff_ne.2 hc_9) ?_
          clear hm a; intro a hm
          refine s_off hm rfl rfl rfl (beq_eq_false_iff_ne.2 hc_9) ?_
          clear hm a; intro a hm
          refine s_off hm rfl rfl rfl (beq_eq_false_iff_ne.2 hc_9) ?_
          clear hm a; intro a hm
          refine s_off hm rfl rfl rfl (beq_eq_false_iff_ne.2 hc_9) ?_
          clear hm a; intro a hm
          refine s_off hm rfl rfl rfl (beq_eq_false_iff_ne.2 hc_9) ?_
          clear hm a; intro a hm
          refine s_off hm rfl rfl rfl (beq_eq_false_iff_ne.2 hc_9) ?_
          clear hm a; intro a hm
          refine s_off hm rfl rfl rfl (beq_eq_false_iff_ne.2 hc_9) ?_
          clear hm a; intro a hm
          refine s_off hm rfl rfl rfl (beq_eq_false_iff_ne.2 hc_9) ?_
          clear hm a; intro a hm
          refine s_off hm rfl rfl rfl (beq_eq_false_iff_ne.2 hc_9) ?_
          clear hm a; intro a hm
          refine s_pick_f hm rfl rfl (beq_eq_false_iff_ne.2 hc_9) rfl ?_
          clear hm a; intro a hm
          refine s_move hm rfl rfl ?_
          clear hm a; intro a hm
          refine s_off hm rfl rfl rfl rfl ?_
          clear hm a; intro a hm
          refine s_off hm rfl rfl rfl rfl ?_
          clear hm a; intro a hm
          refine s_off hm rfl rfl rfl rfl ?_
          clear hm a; intro a hm
          refine s_off hm rfl rfl rfl rfl ?_
          clear hm a; intro a hm
          refine s_off hm rfl rfl rfl rfl ?_
          clear hm a; intro a hm
          refine s_off hm rfl rfl rfl rfl ?_
          clear hm a; intro a hm
          refine s_off hm rfl rfl rfl rfl ?_
          clear hm a; intro a hm
          refine s_off hm rfl rfl rfl rfl ?_
          clear hm a; intro a hm
          refine s_off hm rfl rfl rfl rfl ?_
          clear hm a; intro a hm
          refine s_pick_f hm rfl rfl rfl rfl ?_
          clear hm a; intro a hm
          refine s_move hm rfl rfl ?_
          clear hm a; intro a hm
          refine s_off hm rfl rfl rfl rfl ?_
          clear hm a; intro a hm
          refine s_off hm rfl rfl rfl rfl ?_
          clear hm a; intro a hm
          refine s_off hm rfl rfl rfl rfl ?_
          clear hm a; intro a hm
          refine s_off hm rfl rfl rfl rfl ?_
          clear hm a; intro a hm
          refine s_off hm rfl rfl rfl rfl ?_
          clear hm a; intro a hm
          refine s_off hm rfl rfl rfl rfl ?_
          clear hm a; intro a hm
          refine s_off hm rfl rfl rfl rfl ?_
          clear hm a; intro a hm
          refine s_off hm rfl rfl rfl rfl ?_
          clear hm a; intro a hm
          refine s_off hm rfl rfl rfl rfl ?_
          clear hm a; intro a hm
          refine s_pick_f hm rfl rfl rfl rfl ?_
          clear hm a; intro a hm
          refine s_assign hm rfl rfl ?_
          clear hm a; intro a hm
          refine wpList_nil ?_
          replace hm : Fr 68 a [(4, .bool false)] := hm.keep [4]
          refine x_then_n (hKJ_5 _ _ ?_)
          refine wp_ret ?_
          obtain rfl := Option.some.inj H
          exact f_ret hm (rs := [.tmp 4]) rfl (.tmp rfl .nil) ⟨_, rfl, Mem.no, rfl, (Sep.sel hS [0] (by decide))⟩
      · rw [if_neg hc_8] at H
        refine s_off hm rfl rfl rfl (beq_eq_false_iff_ne.2 hc_8) ?_
        clear hm a; intro a hm
        refine s_off hm rfl rfl rfl (beq_eq_false_iff_ne.2 hc_8) ?_
        clear hm a; intro a hm
        refine s_off hm rfl rfl rfl (beq_eq_false_iff_ne.2 hc_8) ?_
        clear hm a; intro a hm
        refine s_off hm rfl rfl rfl (beq_eq_false_iff_ne.2 hc_8) ?_
        clear hm a; intro a hm
        refine s_off hm rfl rfl rfl (beq_eq_false_iff_ne.2 hc_8) ?_
        clear hm a; intro a hm
        refine s_off hm rfl rfl rfl (beq_eq_false_iff_ne.2 hc_8) ?_
        clear hm a; intro a hm
        refine s_off hm rfl rfl rfl (beq_eq_false_iff_ne.2 hc_8) ?_
        clear hm a; intro a hm
        refine s_pick_f hm rfl rfl (beq_eq_false_iff_ne.2 hc_8) rfl ?_
        clear hm a; intro a hm
        refine s_move hm rfl rfl ?_
        clear hm a; intro a hm
        refine s_off hm rfl rfl rfl rfl ?_
        clear hm a; intro a hm
        refine s_off hm rfl rfl rfl rfl ?_
        clear hm a; intro a hm
        refine s_off hm rfl rfl rfl rfl ?_
        clear hm a; intro a hm
        refine s_off hm rfl rfl rfl rfl ?_
        clear hm a; intro a hm
        refine s_off hm rfl rfl rfl rfl ?_
        clear hm a; intro a hm
        refine s_off hm rfl rfl rfl rfl ?_
        clear hm a; intro a hm
        refine s_off hm rfl rfl rfl rfl ?_
        clear hm a; intro a hm
        refine s_off hm rfl rfl rfl rfl ?_
        clear hm a; intro a hm
        refine s_off hm rfl rfl rfl rfl ?_
        clear hm a; intro a hm
        refine s_pick_f hm rfl rfl rfl rfl ?_
        clear hm a; intro a hm
        refine s_move hm rfl rfl ?_
        clear hm a; intro a hm
        refine s_off hm rfl rfl rfl rfl ?_
        clear hm a; intro a hm
        refine s_off hm rfl rfl rfl rfl ?_
        clear hm a; intro a hm
        refine s_off hm rfl rfl rfl rfl ?_
        clear hm a; intro a hm
        refine s_off hm rfl rfl rfl rfl ?_
        clear hm a; intro a hm
        refine s_off hm rfl rfl rfl rfl ?_
        clear hm a; intro a hm
        refine s_off hm rfl rfl rfl rfl ?_
        clear hm a; intro a hm
        refine s_off hm rfl rfl rfl rfl ?_
        clear hm a; intro a hm
        refine s_off hm rfl rfl rfl rfl ?_
        clear hm a; intro a hm
        refine s_off hm rfl rfl rfl rfl ?_
        clear hm a; intro a hm
        refine s_pick_f hm rfl rfl rfl rfl ?_
        clear hm a; intro a hm
        refine s_move hm rfl rfl ?_
        clear hm a; intro a hm
        refine s_off hm rfl rfl rfl rfl ?_
        clear hm a; intro a hm
        refine s_off hm rfl rfl rfl rfl ?_
        clear hm a; intro a hm
        refine s_off hm rfl rfl rfl rfl ?_
        clear hm a; intro a hm
        refine s_off hm rfl rfl rfl rfl ?_
        clear hm a; intro a hm
        refine s_off hm rfl rfl rfl rfl ?_
        clear hm a; intro a hm
        refine s_off hm rfl rfl rfl rfl ?_
        clear hm a; intro a hm
        refine s_off hm rfl rfl rfl rfl ?_
        clear hm a; intro a hm
        refine s_off hm rfl rfl rfl rfl ?_
        clear hm a; intro a hm
        refine s_off hm rfl rfl rfl rfl ?_
        clear hm a; intro a hm
        refine s_pick_f hm rfl rfl rfl rfl ?_
        clear hm a; intro a hm
        refine s_assign hm rfl rfl ?_
        clear hm a; intro a hm
        refine wpList_nil ?_
        replace hm : Fr 68 a [(4, .bool false)] := hm.keep [4]
        refine x_then_n (hKJ_5 _ _ ?_)
        refine wp_ret ?_
        obtain rfl := Option.some.inj H
        exact f_ret hm (rs := [.tmp 4]) rfl (.tmp rfl .nil) ⟨_, rfl, Mem.no, rfl, (Sep.sel hS [0] (by decide))⟩
    · rw [if_neg hc_7] at H
      refine s_off hm rfl rfl rfl (beq_eq_false_iff_ne.2 hc_7) ?_
      clear hm a; intro a hm
      refine s_off hm rfl rfl rfl (beq_eq_false_iff_ne.2 hc_7) ?_
      clear hm a; intro a hm
      refine s_off hm rfl rfl rfl (beq_eq_false_iff_ne.2 hc_7) ?_
      clear hm a; intro a hm
      refine s_off hm rfl rfl rfl (beq_eq_false_iff_ne.2 hc_7) ?_
      clear hm a; intro a hm
      refine s_off hm rfl rfl rfl (beq_eq_false_iff_ne.2 hc_7) ?_
      clear hm a; intro a hm
      refine s_off hm rfl rfl rfl (beq_eq_false_iff_ne.2 hc_7) ?_
      clear hm a; intro a hm
      refine s_off hm rfl rfl rfl (beq_eq_false_iff_ne.2 hc_7) ?_
      clear hm a; intro a hm
      refine s_pick_f hm rfl rfl (beq_eq_false_iff_ne.2 hc_7) rfl ?_
      clear hm a; intro a hm
      refine s_move hm rfl rfl ?_
      clear hm a; intro a hm
      refine s_off hm rfl rfl rfl rfl ?_
      clear hm a; intro a hm
      refine s_off hm rfl rfl rfl rfl ?_
      clear hm a; intro a hm
      refine s_off hm rfl rfl rfl rfl ?_
      clear hm a; intro a hm
      refine s_off hm rfl rfl rfl rfl ?_
      clear hm a; intro a hm
      refine s_off hm rfl rfl rfl rfl ?_
      clear hm a; intro a hm
      refine s_off hm rfl rfl rfl rfl ?_
      clear hm a; intro a hm
      refine s_off hm rfl rfl rfl rfl ?_
      clear hm a; intro a hm
      refine s_pick_f hm rfl rfl rfl rfl ?_
      clear hm a; intro a hm
      refine s_move hm rfl rfl ?_
      clear hm a; intro a hm
      refine s_off hm rfl rfl rfl rfl ?_
      clear hm a; intro a hm
      refine s_off hm rfl rfl rfl rfl ?_
      clear hm a; intro a hm
      refine s_off hm rfl rfl rfl rfl ?_
      clear hm a; intro a hm
      refine s_off hm rfl rfl rfl rfl ?_
      clear hm a; intro a hm
      refine s_off hm rfl rfl rfl rfl ?_
      clear hm a; intro a hm
      refine s_off hm rfl rfl rfl rfl ?_
      clear hm a; intro a hm
      refine s_off hm rfl rfl rfl rfl ?_
      clear hm a; intro a hm
      refine s_off hm rfl rfl rfl rfl ?_
      clear hm a; intro a hm
      refine s_off hm rfl rfl rfl rfl ?_
      clear hm a; intro a hm
      refine s_pick_f hm rfl rfl rfl rfl ?_
      clear hm a; intro a hm
      refine s_move hm rfl rfl ?_
      clear hm a; intro a hm
      refine s_off hm rfl rfl rfl rfl ?_
      clear hm a; intro a hm
      refine s_off hm rfl rfl rfl rfl ?_
      clear hm a; intro a hm
      refine s_off hm rfl rfl rfl rfl ?_
      clear hm a; intro a hm
      refine s_off hm rfl rfl rfl rfl ?_
      clear hm a; intro a hm
      refine s_off hm rfl rfl rfl rfl ?_
      clear hm a; intro a hm
      refine s_off hm rfl rfl rfl rfl ?_
      clear hm a; intro a hm
      refine s_off hm rfl rfl rfl rfl ?_
      clear hm a; intro a hm
      refine s_off hm rfl rfl rfl rfl ?_
      clear hm a; intro a hm
      refine s_off hm rfl rfl rfl rfl ?_
      clear hm a; intro a hm
      refine s_pick_f hm rfl rfl rfl rfl ?_
      clear hm a; intro a hm
      refine s_move hm rfl rfl ?_
      clear hm a; intro a hm
      refine s_off hm rfl rfl rfl rfl ?_
      clear hm a; intro a hm
      refine s_off hm rfl rfl rfl rfl ?_
      clear hm a; intro a hm
      refine s_off hm rfl rfl rfl rfl ?_
      clear hm a; intro a hm
      refine s_off hm rfl rfl rfl rfl ?_
      clear hm a; intro a hm
      refine s_off hm rfl rfl rfl rfl ?_
      clear hm a; intro a hm
      refine s_off hm rfl rfl rfl rfl ?_
      clear hm a; intro a hm
      refine s_off hm rfl rfl rfl rfl ?_
      clear hm a; intro a hm
      refine s_off hm rfl rfl rfl rfl ?_
      clear hm a; intro a hm
      refine s_off hm rfl rfl rfl rfl ?_
      clear hm a; intro a hm
      refine s_pick_f hm rfl rfl rfl rfl ?_
      clear hm a; intro a hm
      refine s_assign hm rfl rfl ?_
      clear hm a; intro a hm
      refine wpList_nil ?_
      replace hm : Fr 68 a [(4, .bool false)] := hm.keep [4]
      refine x_then_n (hKJ_5 _ _ ?_)
      refine wp_ret ?_
      obtain rfl := Option.some.inj H
      exact f_ret hm (rs := [.tmp 4]) rfl (.tmp rfl .nil) ⟨_, rfl, Mem.no, rfl, (Sep.sel hS [0] (by decide))⟩
  · rw [if_neg hc_6] at H
    refine s_off hm rfl rfl rfl (beq_eq_false_iff_ne.2 hc_6) ?_
    clear hm a; intro a hm
    refine s_off hm rfl rfl rfl (beq_eq_false_iff_ne.2 hc_6) ?_
    clear hm a; intro a hm
    refine s_off hm rfl rfl rfl (beq_eq_false_iff_ne.2 hc_6) ?_
    clear hm a; intro a hm
    refine s_off hm rfl rfl rfl (beq_eq_false_iff_ne.2 hc_6) ?_
    clear hm a; intro a hm
    refine s_off hm rfl rfl rfl (beq_eq_false_iff_ne.2 hc_6) ?_
    clear hm a; intro a hm
    refine s_pick_f hm rfl rfl (beq_eq_false_iff_ne.2 hc_6) rfl ?_
    clear hm a; intro a hm
    refine s_move hm rfl rfl ?_
    clear hm a; intro a hm
    refine s_off hm rfl rfl rfl rfl ?_
    clear hm a; intro a hm
    refine s_off hm rfl rfl rfl rfl ?_
    clear hm a; intro a hm
    refine s_off hm rfl rfl rfl rfl ?_
    clear hm a; intro a hm
    refine s_off hm rfl rfl rfl rfl ?_
    clear hm a; intro a hm
    refine s_off hm rfl rfl rfl rfl ?_
    clear hm a; intro a hm
    refine s_off hm rfl rfl rfl rfl ?_
    clear hm a; intro a hm
    refine s_off hm rfl rfl rfl rfl ?_
    clear hm a; intro a hm
    refine s_pick_f hm rfl rfl rfl rfl ?_
    clear hm a; intro a hm
    refine s_move hm rfl rfl ?_
    clear hm a; intro a hm
    refine s_off hm rfl rfl rfl rfl ?_
    clear hm a; intro a hm
    refine s_off hm rfl rfl rfl rfl ?_
    clear hm a; intro a hm
    refine s_off hm rfl rfl rfl rfl ?_
    clear hm a; intro a hm
    refine s_off hm rfl rfl rfl rfl ?_
    clear hm a; intro a hm
    refine s_off hm rfl rfl rfl rfl ?_
    clear hm a; intro a hm
    refine s_off hm rfl rfl rfl rfl ?_
    clear hm a; intro a hm
    refine s_off hm rfl rfl rfl rfl ?_
    clear hm a; intro a hm
    refine s_pick_f hm rfl rfl rfl rfl ?_
    clear hm a; intro a hm
    refine s_move hm rfl rfl ?_
    clear hm a; intro a hm
    refine s_off hm rfl rfl rfl rfl ?_
    clear hm a; intro a hm
    refine s_off hm rfl rfl rfl rfl ?_
    clear hm a; intro a hm
    refine s_off hm rfl rfl rfl rfl ?_
    clear hm a; intro a hm
    refine s_off hm rfl rfl rfl rfl ?_
    clear hm a; intro a hm
    refine s_off hm rfl rfl rfl rfl ?_
    clear hm a; intro a hm
    refine s_off hm rfl rfl rfl rfl ?_
    clear hm a; intro a hm
    refine s_off hm rfl rfl rfl rfl ?_
    clear hm a; intro a hm
    refine s_off hm rfl rfl rfl rfl ?_
    clear hm a; intro a hm
    refine s_off hm rfl rfl rfl rfl ?_
    clear hm a; intro a hm
    refine s_pick_f hm rfl rfl rfl rfl ?_
    clear hm a; intro a hm
    refine s_move hm rfl rfl ?_
    clear hm a; intro a hm
    refine s_off hm rfl rfl rfl rfl ?_
    clear hm a; intro a hm
    refine s_off hm rfl rfl rfl rfl ?_
    clear hm a; intro a hm
    refine s_off hm rfl rfl rfl rfl ?_
    clear hm a; intro a hm
    refine s_off hm rfl rfl rfl rfl ?_
    clear hm a; intro a hm
    refine s_off hm rfl rfl rfl rfl ?_
    clear hm a; intro a hm
    refine s_off hm rfl rfl rfl rfl ?_
    clear hm a; intro a hm
    refine s_off hm rfl rfl rfl rfl ?_
    clear hm a; intro a hm
    refine s_off hm rfl rfl rfl rfl ?_
    clear hm a; intro a hm
    refine s_off hm rfl rfl rfl rfl ?_
    clear hm a; intro a hm
    refine s_pick_f hm rfl rfl rfl rfl ?_
    clear hm a; intro a hm
    refine s_move hm rfl rfl ?_
    clear hm a; intro a hm
    refine s_off hm rfl rfl rfl rfl ?_
    clear hm a; intro a hm
    refine s_off hm rfl rfl rfl rfl ?_
    clear hm a; intro a hm
    refine s_off hm rfl rfl rfl rfl ?_
    clear hm a; intro a hm
    refine s_off hm rfl rfl rfl rfl ?_
    clear hm a; intro a hm
    refine s_off hm rfl rfl rfl rfl ?_
    clear hm a; intro a hm
    refine s_off hm rfl rfl rfl rfl ?_
    clear hm a; intro a hm
    refine s_off hm rfl rfl rfl rfl ?_
    clear hm a; intro a hm
    refine s_off hm rfl rfl rfl rfl ?_
    clear hm a; intro a hm
    refine s_off hm rfl rfl rfl rfl ?_
    clear hm a; intro a hm
    refine s_pick_f hm rfl rfl rfl rfl ?_
    clear hm a; intro a hm
    refine s_assign hm rfl rfl ?_
    clear hm a; intro a hm
    refine wpList_nil ?_
    replace hm : Fr 68 a [(4, .bool false)] := hm.keep [4]
    refine x_then_n (hKJ_5 _ _ ?_)
    refine wp_ret ?_
    obtain rfl := Option.some.inj H
    exact f_ret hm (rs := [.tmp 4]) rfl (.tmp rfl .nil) ⟨_, rfl, Mem.no, rfl, (Sep.sel hS [0] (by decide))⟩

set_option maxHeartbeats 4000000 in
set_option maxRecDepth 20000 in
theorem hocketref11_Same.calls (K : Nat) (x0 : api_Msg) (p0_0 : Value) (p0_1 : Value) (p0_2 : Value) (p0_3 : Value) (p0_4 : Value) (p0_5 : Value) (x1 : api_Msg) (p1_6 : Value) (p1_7 : Value) (p1_8 : Value) (p1_9 : Value) (p1_10 : Value) (p1_11 : Value) (r : Bool) (w0 w : World) (Z A : Mem) (hA : A.le Z) (hS : Sep w0 w [] Z) (hp0_0 : Rd Kd.u8 A p0_0 x0.Data) (hp0_1 : Rd (Kd.int .i64) A p0_1 x0.Have) (hp0_2 : Rd (Kd.int .i64) A p0_2 x0.Need) (hp0_3 : Rd Kd.u8 A p0_3 x0.Entry.Cmd.Key) (hp0_4 : Rd Kd.u8 A p0_4 x0.Entry.Cmd.Val) (hp0_5 : Rd Kd.u8 A p0_5 x0.Entry.Cmd.Old) (hp1_6 : Rd Kd.u8 A p1_6 x1.Data) (hp1_7 : Rd (Kd.int .i64) A p1_7 x1.Have) (hp1_8 : Rd (Kd.int .i64) A p1_8 x1.Need) (hp1_9 : Rd Kd.u8 A p1_9 x1.Entry.Cmd.Key) (hp1_10 : Rd Kd.u8 A p1_10 x1.Entry.Cmd.Val) (hp1_11 : Rd Kd.u8 A p1_11 x1.Entry.Cmd.Old)
    (H : hocketref11_Same.f K x0 x1 = some r) :
    Calls Try.prog 39 [.agg ([.int .i64 x0.Kind, .int .i64 x0.From, .int .i64 x0.To, .int .i64 x0.View, .int .i64 x0.Inst, .int .i64 x0.Len, .bool x0.Has, .int .i64 x0.Members, .int .i64 x0.Source, .int .i64 x0.At, .int .i64 x0.Total, p0_0, .int .i64 x0.Hop, .int .i64 x0.Seq, p0_1, p0_2, .int .i64 x0.Index, .int .i64 x0.Entry.Sess, .int .i64 x0.Entry.Seq, .int .i64 x0.Entry.Cmd.Kind, .int .i64 x0.Entry.Cmd.Who, p0_3, p0_4, p0_5] : List Value).toArray, .agg ([.int .i64 x1.Kind, .int .i64 x1.From, .int .i64 x1.To, .int .i64 x1.View, .int .i64 x1.Inst, .int .i64 x1.Len, .bool x1.Has, .int .i64 x1.Members, .int .i64 x1.Source, .int .i64 x1.At, .int .i64 x1.Total, p1_6, .int .i64 x1.Hop, .int .i64 x1.Seq, p1_7, p1_8, .int .i64 x1.Index, .int .i64 x1.Entry.Sess, .int .i64 x1.Entry.Seq, .int .i64 x1.Entry.Cmd.Kind, .int .i64 x1.Entry.Cmd.Who, p1_9, p1_10, p1_11] : List Value).toArray].toArray w (Ret fun v w' => ∃ (N : Mem), v = .bool r ∧ Sep w0 w' [N] Z) := by
  unfold hocketref11_Same.f at H
  refine f_enter _ Try.func39 rfl Try.ntmps39 rfl fun a hm => ?_
  replace hm : Fr 131 a [(0, .agg ([.int .i64 x0.Kind, .int .i64 x0.From, .int .i64 x0.To, .int .i64 x0.View, .int .i64 x0.Inst, .int .i64 x0.Len, .bool x0.Has, .int .i64 x0.Members, .int .i64 x0.Source, .int .i64 x0.At, .int .i64 x0.Total, p0_0, .int .i64 x0.Hop, .int .i64 x0.Seq, p0_1, p0_2, .int .i64 x0.Index, .int .i64 x0.Entry.Sess, .int .i64 x0.Entry.Seq, .int .i64 x0.Entry.Cmd.Kind, .int .i64 x0.Entry.Cmd.Who, p0_3, p0_4, p0_5] : List Value).toArray), (1, .agg ([.int .i64 x1.Kind, .int .i64 x1.From, .int .i64 x1.To, .int .i64 x1.View, .int .i64 x1.Inst, .int .i64 x1.Len, .bool x1.Has, .int .i64 x1.Members, .int .i64 x1.Source, .int .i64 x1.At, .int .i64 x1.Total, p1_6, .int .i64 x1.Hop, .int .i64 x1.Seq, p1_7, p1_8, .int .i64 x1.Index, .int .i64 x1.Entry.Sess, .int .i64 x1.Entry.Seq, .int .i64 x1.Entry.Cmd.Kind, .int .i64 x1.Entry.Cmd.Who, p1_9, p1_10, p1_11] : List Value).toArray)] := hm
  replace hS := hS.start
  replace hS : Sep w0 w [Mem.no] Z := hS
  refine wp_seq ?_
  refine wp_region_lit ?_
  refine v_box (vs := [.int .i64 x0.Kind, .int .i64 x0.From, .int .i64 x0.To, .int .i64 x0.View, .int .i64 x0.Inst, .int .i64 x0.Len, .bool x0.Has, .int .i64 x0.Members, .int .i64 x0.Source, .int .i64 x0.At, .int .i64 x0.Total, p0_0, .int .i64 x0.Hop, .int .i64 x0.Seq, p0_1, p0_2, .int .i64 x0.Index, .int .i64 x0.Entry.Sess, .int .i64 x0.Entry.Seq, .int .i64 x0.Entry.Cmd.Kind, .int .i64 x0.Entry.Cmd.Who, p0_3, p0_4, p0_5]) hm rfl rfl rfl hS ?_
  intro w_1 g_2 hS'
  clear hm a; intro a hm
  replace hS : Sep w0 w_1 [Mem.no, Mem.one g_2 (.cells ([.int .i64 x0.Kind, .int .i64 x0.From, .int .i64 x0.To, .int .i64 x0.View, .int .i64 x0.Inst, .int .i64 x0.Len, .bool x0.Has, .int .i64 x0.Members, .int .i64 x0.Source, .int .i64 x0.At, .int .i64 x0.Total, p0_0, .int .i64 x0.Hop, .int .i64 x0.Seq, p0_1, p0_2, .int .i64 x0.Index, .int .i64 x0.Entry.Sess, .int .i64 x0.Entry.Seq, .int .i64 x0.Entry.Cmd.Kind, .int .i64 x0.Entry.Cmd.Who, p0_3, p0_4, p0_5] : List Value).toArray 29 (0, 0))] Z := hS'
  clear hS'
  refine v_box (vs := [.int .i64 x1.Kind, .int .i64 x1.From, .int .i64 x1.To, .int .i64 x1.View, .int .i64 x1.Inst, .int .i64 x1.Len, .bool x1.Has, .int .i64 x1.Members, .int .i64 x1.Source, .int .i64 x1.At, .int .i64 x1.Total, p1_6, .int .i64 x1.Hop, .int .i64 x1.Seq, p1_7, p1_8, .int .i64 x1.Index, .int .i64 x1.Entry.Sess, .int .i64 x1.Entry.Seq, .int .i64 x1.Entry.Cmd.Kind, .int .i64 x1.Entry.Cmd.Who, p1_9, p1_10, p1_11]) hm rfl rfl rfl hS ?_
  intro w_3 g_4 hS'
  clear hm a; intro a hm
  replace hS : Sep w0 w_3 [Mem.no, Mem.one g_2 (.cells ([.int .i64 x0.Kind, .int .i64 x0.From, .int .i64 x0.To, .int .i64 x0.View, .int .i64 x0.Inst, .int .i64 x0.Len, .bool x0.Has, .int .i64 x0.Members, .int .i64 x0.Source, .int .i64 x0.At, .int .i64 x0.Total, p0_0, .int .i64 x0.Hop, .int .i64 x0.Seq, p0_1, p0_2, .int .i64 x0.Index, .int .i64 x0.Entry.Sess, .int .i64 x0.Entry.Seq, .int .i64 x0.Entry.Cmd.Kind, .int .i64 x0.Entry.Cmd.Who, p0_3, p0_4, p0_5] : List Value).toArray 29 (0, 0)), Mem.one g_4 (.cells ([.int .i64 x1.Kind, .int .i64 x1.From, .int .i64 x1.To, .int .i64 x1.View, .int .i64 x1.Inst, .int .i64 x1.Len, .bool x1.Has, .int .i64 x1.Members, .int .i64 x1.Source, .int .i64 x1.At, .int .i64 x1.Total, p1_6, .int .i64 x1.Hop, .int .i64 x1.Seq, p1_7, p1_8, .int .i64 x1.Index, .int .i64 x1.Entry.Sess, .int .i64 x1.Entry.Seq, .int .i64 x1.Entry.Cmd.Kind, .int .i64 x1.Entry.Cmd.Who, p1_9, p1_10, p1_11] : List Value).toArray 29 (0, 0))] Z := hS'
  clear hS'
  refine s_assign hm rfl rfl ?_
  clear hm a; intro a hm
  refine wpList_nil ?_
  replace hm : Fr 131 a [(2, .pointer (some ⟨g_2, 0, none⟩)), (3, .pointer (some ⟨g_4, 0, none⟩)), (4, .bool false)] := hm.keep [2, 3, 4]
  refine x_then_n ?_
  refine c_seq fun KJ_5 hKJ_5 => ?_
  refine wp_region_lit ?_
  refine s_fieldAddr hm rfl Try.underlying29 rfl ti3 rfl rfl ?_
  clear hm a; intro a hm
  refine s_load hm rfl rfl (hS.load_one (p := 1) rfl Try.underlying3 rfl rfl) ?_
  clear hm a; intro a hm
  refine s_fieldAddr hm rfl Try.underlying29 rfl ti3 rfl rfl ?_
  clear hm a; intro a hm
  refine s_load hm rfl rfl (hS.load_one (p := 2) rfl Try.underlying3 rfl rfl) ?_
  clear hm a; intro a hm
  refine s_cmp (b := (x0.Kind == x1.Kind)) hm rfl rfl rfl (.inl ⟨rfl, rfl⟩) ?_
  clear hm a; intro a hm
  refine s_move hm rfl rfl ?_
  clear hm a; intro a hm
  by_cases hc_6 : x0.Kind = x1.Kind
  · rw [if_pos hc_6] at H
    refine s_on hm rfl rfl (beq_iff_eq.2 hc_6) ?_
    refine s_fieldAddr hm rfl Try.underlying29 rfl ti3 rfl rfl ?_
    clear hm a; intro a hm
    refine s_on hm rfl rfl (beq_iff_eq.2 hc_6) ?_
    refine s_load hm rfl rfl (hS.load_one (p := 1) rfl Try.underlying3 rfl rfl) ?_
    clear hm a; intro a hm
    refine s_on hm rfl rfl (beq_iff_eq.2 hc_6) ?_
    refine s_fieldAddr hm rfl Try.underlying29 rfl ti3 rfl rfl ?_
    clear hm a; intro a hm
    refine s_on hm rfl rfl (beq_iff_eq.2 hc_6) ?_
    refine s_load hm rfl rfl (hS.load_one (p := 2) rfl Try.underlying3 rfl rfl) ?_
    clear hm a; intro a hm
    refine s_on hm rfl rfl (beq_iff_eq.2 hc_6) ?_
    refine s_cmp (b := (x0.From == x1.From)) hm rfl rfl rfl (.inl ⟨rfl, rfl⟩) ?_
    clear hm a; intro a hm
    refine s_pick_t hm rfl rfl (beq_iff_eq.2 hc_6) rfl ?_
    clear hm a; intro a hm
    refine s_move hm rfl rfl ?_
    clear hm a; intro a hm
    by_cases hc_7 : x0.From = x1.From
    · rw [if_pos hc_7] at H
      refine s_on hm rfl rfl (beq_iff_eq.2 hc_7) ?_
      refine s_fieldAddr hm rfl Try.underlying29 rfl ti3 rfl rfl ?_
      clear hm a; intro a hm
      refine s_on hm rfl rfl (beq_iff_eq.2 hc_7) ?_
      refine s_load hm rfl rfl (hS.load_one (p := 1) rfl Try.underlying3 rfl rfl) ?_
      clear hm a; intro a hm
      refine s_on hm rfl rfl (beq_iff_eq.2 hc_7) ?_
      refine s_fieldAddr hm rfl Try.underlying29 rfl ti3 rfl rfl ?_
      clear hm a; intro a hm
      refine s_on hm rfl rfl (beq_iff_eq.2 hc_7) ?_
      refine s_load hm rfl rfl (hS.load_one (p := 2) rfl Try.underlying3 rfl rfl) ?_
      clear hm a; intro a hm
      refine s_on hm rfl rfl (beq_iff_eq.2 hc_7) ?_
      refine s_cmp (b := (x0.To == x1.To)) hm rfl rfl rfl (.inl ⟨rfl, rfl⟩) ?_
      clear hm a; intro a hm
      refine s_pick_t hm rfl rfl (beq_iff_eq.2 hc_7) rfl ?_
      clear hm a; intro a hm
      refine s_move hm rfl rfl ?_
      clear hm a; intro a hm
      by_cases hc_8 : x0.To = x1.To
      · rw [if_pos hc_8] at H
        refine s_on hm rfl rfl (beq_iff_eq.2 hc_8) ?_
        refine s_fieldAddr hm rfl Try.underlying29 rfl ti3 rfl rfl ?_
        clear hm a; intro a hm
        refine s_on hm rfl rfl (beq_iff_eq.2 hc_8) ?_
        refine s_load hm rfl rfl (hS.load_one (p := 1) rfl Try.underlying3 rfl rfl) ?_
        clear hm a; intro a hm
        refine s_on hm rfl rfl (beq_iff_eq.2 hc_8) ?_
        refine s_fieldAddr hm rfl Try.underlying29 rfl ti3 rfl rfl ?_
        clear hm a; intro a hm
        refine s_on hm rfl rfl (beq_iff_eq.2 hc_8) ?_
        refine s_load hm rfl rfl (hS.load_one (p := 2) rfl Try.underlying3 rfl rfl) ?_
        clear hm a; intro a hm
        refine s_on hm rfl rfl (beq_iff_eq.2 hc_8) ?_
        refine s_cmp (b := (x0.View == x1.View)) hm rfl rfl rfl (.inl ⟨rfl, rfl⟩) ?_
        clear hm a; intro a hm
        refine s_pick_t hm rfl rfl (beq_iff_eq.2 hc_8) rfl ?_
        clear hm a; intro a hm
        refine s_move hm rfl rfl ?_
        clear hm a; intro a hm
        by_cases hc_9 : x0.View = x1.View
        · rw [if_pos hc_9] at H
          refine s_on hm rfl rfl (beq_iff_eq.2 hc_9) ?_
          refine s_fieldAddr hm rfl Try.underlying29 rfl ti3 rfl rfl ?_
          clear hm a; intro a hm
          refine s_on hm rfl rfl (beq_iff_eq.2 hc_9) ?_
          refine s_load hm rfl rfl (hS.load_one (p := 1) rfl Try.underlying3 rfl rfl) ?_
          clear hm a; intro a hm
          refine s_on hm rfl rfl (beq_iff_eq.2 hc_9) ?_
          refine s_fieldAddr hm rfl Try.underlying29 rfl ti3 rfl rfl ?_
          clear hm a; intro a hm
          refine s_on hm rfl rfl (beq_iff_eq.2 hc_9) ?_
          refine s_load hm rfl rfl (hS.load_one (p := 2) rfl Try.underlying3 rfl rfl) ?_
          clear hm a; intro a hm
          refine s_on hm rfl rfl (beq_iff_eq.2 hc_9) ?_
          refine s_cmp (b := (x0.Inst == x1.Inst)) hm rfl rfl rfl (.inl ⟨rfl, rfl⟩) ?_
          clear hm a; intro a hm
          refine s_pick_t hm rfl rfl (beq_iff_eq.2 hc_9) rfl ?_
          clear hm a; intro a hm
          refine s_move hm rfl rfl ?_
          clear hm a; intro a hm
          by_cases hc_10 : x0.Inst = x1.Inst
          · rw [if_pos hc_10] at H
            refine s_on hm rfl rfl (beq_iff_eq.2 hc_10) ?_
            refine s_fieldAddr hm rfl Try.underlying29 rfl ti3 rfl rfl ?_
            clear hm a; intro a hm
            refine s_on hm rfl rfl (beq_iff_eq.2 hc_10) ?_
            refine s_load hm rfl rfl (hS.load_one (p := 1) rfl Try.underlying3 rfl rfl) ?_
            clear hm a; intro a hm
            refine s_on hm rfl rfl (beq_iff_eq.2 hc_10) ?_
            refine s_fieldAddr hm rfl Try.underlying29 rfl ti3 rfl rfl ?_
            clear hm a; intro a hm
            refine s_on hm rfl rfl (beq_iff_eq.2 hc_10) ?_
            refine s_load hm rfl rfl (hS.load_one (p := 2) rfl Try.underlying3 rfl rfl) ?_
            clear hm a; intro a hm
            refine s_on hm rfl rfl (beq_iff_eq.2 hc_10) ?_
            refine s_cmp (b := (x0.Len == x1.Len)) hm rfl rfl rfl (.inl ⟨rfl, rfl⟩) ?_
            clear hm a; intro a hm
            refine s_pick_t hm rfl rfl (beq_iff_eq.2 hc_10) rfl ?_
            clear hm a; intro a hm
            refine s_move hm rfl rfl ?_
            clear hm a; intro a hm
            by_cases hc_11 : x0.Len = x1.Len
            · rw [if_pos hc_11] at H
              refine s_on hm rfl rfl (beq_iff_eq.2 hc_11) ?_
              refine s_fieldAddr hm rfl Try.underlying29 rfl ti4 rfl rfl ?_
              clear hm a; intro a hm
              refine s_on hm rfl rfl (beq_iff_eq.2 hc_11) ?_
              refine s_load hm rfl rfl (hS.load_one (p := 1) rfl Try.underlying4 rfl rfl) ?_
              clear hm a; intro a hm
              refine s_on hm rfl rfl (beq_iff_eq.2 hc_11) ?_
              refine s_fieldAddr hm rfl Try.underlying29 rfl ti4 rfl rfl ?_
              clear hm a; intro a hm
              refine s_on hm rfl rfl (beq_iff_eq.2 hc_11) ?_
              refine s_load hm rfl rfl (hS.load_one (p := 2) rfl Try.underlying4 rfl rfl) ?_
              clear hm a; intro a hm
              refine s_on hm rfl rfl (beq_iff_eq.2 hc_11) ?_
              refine s_beq (b := (x0.Has == x1.Has)) hm rfl Try.underlying4 rfl rfl (.inl ⟨rfl, rfl⟩) ?_
              clear hm a; intro a hm
              refine s_pick_t hm rfl rfl (beq_iff_eq.2 hc_11) rfl ?_
              clear hm a; intro a hm
              refine s_move hm rfl rfl ?_
              clear hm a; intro a hm
              by_cases hc_12 : x0.Has = x1.Has
              · rw [if_pos hc_12] at H
                refine s_on hm rfl rfl (beq_iff_eq.2 hc_12) ?_
                refine s_fieldAddr hm rfl Try.underlying29 rfl ti3 rfl rfl ?_
                clear hm a; intro a hm
                refine s_on hm rfl rfl (beq_iff_eq.2 hc_12) ?_
                refine s_load hm rfl rfl (hS.load_one (p := 1) rfl Try.underlying3 rfl rfl) ?_
                clear hm a; intro a hm
                refine s_on hm rfl rfl (beq_iff_eq.2 hc_12) ?_
                refine s_fieldAddr hm rfl Try.underlying29 rfl ti3 rfl rfl ?_
                clear hm a; intro a hm
                refine s_on hm rfl rfl (beq_iff_eq.2 hc_12) ?_
                refine s_load hm rfl rfl (hS.load_one (p := 2) rfl Try.underlying3 rfl rfl) ?_
                clear hm a; intro a hm
                refine s_on hm rfl rfl (beq_iff_eq.2 hc_12) ?_
                refine s_cmp (b := (x0.Members == x1.Members)) hm rfl rfl rfl (.inl ⟨rfl, rfl⟩) ?_
                clear hm a; intro a hm
                refine s_pick_t hm rfl rfl (beq_iff_eq.2 hc_12) rfl ?_
                clear hm a; intro a hm
                refine s_move hm rfl rfl ?_
                clear hm a; intro a hm
                by_cases hc_13 : x0.Members = x1.Members
                · rw [if_pos hc_13] at H
                  refine s_on hm rfl rfl (beq_iff_eq.2 hc_13) ?_
                  refine s_fieldAddr hm rfl Try.underlying29 rfl ti3 rfl rfl ?_
                  clear hm a; intro a hm
                  refine s_on hm rfl rfl (beq_iff_eq.2 hc_13) ?_
                  refine s_load hm rfl rfl (hS.load_one (p := 1) rfl Try.underlying3 rfl rfl) ?_
                  clear hm a; intro a hm
                  refine s_on hm rfl rfl (beq_iff_eq.2 hc_13) ?_
                  refine s_fieldAddr hm rfl Try.underlying29 rfl ti3 rfl rfl ?_
                  clear hm a; intro a hm
                  refine s_on hm rfl rfl (beq_iff_eq.2 hc_13) ?_
                  refine s_load hm rfl rfl (hS.load_one (p := 2) rfl Try.underlying3 rfl rfl) ?_
                  clear hm a; intro a hm
                  refine s_on hm rfl rfl (beq_iff_eq.2 hc_13) ?_
                  refine s_cmp (b := (x0.Source == x1.Source)) hm rfl rfl rfl (.inl ⟨rfl, rfl⟩) ?_
                  clear hm a; intro a hm
                  refine s_pick_t hm rfl rfl (beq_iff_eq.2 hc_13) rfl ?_
                  clear hm a; intro a hm
                  refine s_move hm rfl rfl ?_
                  clear hm a; intro a hm
                  by_cases hc_14 : x0.Source = x1.Source
                  · rw [if_pos hc_14] at H
                    refine s_on hm rfl rfl (beq_iff_eq.2 hc_14) ?_
                    refine s_fieldAddr hm rfl Try.underlying29 rfl ti3 rfl rfl ?_
                    clear hm a; intro a hm
                    refine s_on hm rfl rfl (beq_iff_eq.2 hc_14) ?_
                    refine s_load hm rfl rfl (hS.load_one (p := 1) rfl Try.underlying3 rfl rfl) ?_
                    clear hm a; intro a hm
                    refine s_on hm rfl rfl (beq_iff_eq.2 hc_14) ?_
                    refine s_fieldAddr hm rfl Try.underlying29 rfl ti3 rfl rfl ?_
                    clear hm a; intro a hm
                    refine s_on hm rfl rfl (beq_iff_eq.2 hc_14) ?_
                    refine s_load hm rfl rfl (hS.load_one (p := 2) rfl Try.underlying3 rfl rfl) ?_
                    clear hm a; intro a hm
                    refine s_on hm rfl rfl (beq_iff_eq.2 hc_14) ?_
                    refine s_cmp (b := (x0.At == x1.At)) hm rfl rfl rfl (.inl ⟨rfl, rfl⟩) ?_
                    clear hm a; intro a hm
                    refine s_pick_t hm rfl rfl (beq_iff_eq.2 hc_14) rfl ?_
                    clear hm a; intro a hm
                    refine s_move hm rfl rfl ?_
                    clear hm a; intro a hm
                    by_cases hc_15 : x0.At = x1.At
                    · rw [if_pos hc_15] at H
                      refine s_on hm rfl rfl (beq_iff_eq.2 hc_15) ?_
                      refine s_fieldAddr hm rfl Try.underlying29 rfl ti3 rfl rfl ?_
                      clear hm a; intro a hm
                      refine s_on hm rfl rfl (beq_iff_eq.2 hc_15) ?_
                      refine s_load hm rfl rfl (hS.load_one (p := 1) rfl Try.underlying3 rfl rfl) ?_
                      clear hm a; intro a hm
                      refine s_on hm rfl rfl (beq_iff_eq.2 hc_15) ?_
                      refine s_fieldAddr hm rfl Try.underlying29 rfl ti3 rfl rfl ?_
                      clear hm a; intro a hm
                      refine s_on hm rfl rfl (beq_iff_eq.2 hc_15) ?_
                      refine s_load hm rfl rfl (hS.load_one (p := 2) rfl Try.underlying3 rfl rfl) ?_
                      clear hm a; intro a hm
                      refine s_on hm rfl rfl (beq_iff_eq.2 hc_15) ?_
                      refine s_cmp (b := (x0.Total == x1.Total)) hm rfl rfl rfl (.inl ⟨rfl, rfl⟩) ?_
                      clear hm a; intro a hm
                      refine s_pick_t hm rfl rfl (beq_iff_eq.2 hc_15) rfl ?_
                      clear hm a; intro a hm
                      refine s_move hm rfl rfl ?_
                      clear hm a; intro a hm
                      by_cases hc_16 : x0.Total = x1.Total
                      · rw [if_pos hc_16] at H
                        refine s_on hm rfl rfl (beq_iff_eq.2 hc_16) ?_
                        refine s_fieldAddr hm rfl Try.underlying29 rfl ti22 rfl rfl ?_
                        clear hm a; intro a hm
                        refine s_on hm rfl rfl (beq_iff_eq.2 hc_16) ?_
                        refine s_load hm rfl rfl (hS.load_one (p := 1) rfl Try.underlying22 rfl rfl) ?_
                        clear hm a; intro a hm
                        refine s_on hm rfl rfl (beq_iff_eq.2 hc_16) ?_
                        refine s_b2s hm rfl Try.underlying22 Try.underlying5 Try.underlying9 rfl hp0_0 (hA.trans hS.old) ?_
                        clear hm a; intro a hm
                        refine s_on hm rfl rfl (beq_iff_eq.2 hc_16) ?_
                        refine s_fieldAddr hm rfl Try.underlying29 rfl ti22 rfl rfl ?_
                        clear hm a; intro a hm
                        refine s_on hm rfl rfl (beq_iff_eq.2 hc_16) ?_
                        refine s_load hm rfl rfl (hS.load_one (p := 2) rfl Try.underlying22 rfl rfl) ?_
                        clear hm a; intro a hm
                        refine s_on hm rfl rfl (beq_iff_eq.2 hc_16) ?_
                        refine s_b2s hm rfl Try.underlying22 Try.underlying5 Try.underlying9 rfl hp1_6 (hA.trans hS.old) ?_
                        clear hm a; intro a hm
                        refine s_on hm rfl rfl (beq_iff_eq.2 hc_16) ?_
                        refine s_strEq (b := (x0.Data == x1.Data)) hm rfl rfl rfl (.inl ⟨rfl, rfl⟩) ?_
                        clear hm a; intro a hm
                        refine s_pick_t hm rfl rfl (beq_iff_eq.2 hc_16) rfl ?_
                        clear hm a; intro a hm
                        refine s_move hm rfl rfl ?_
                        clear hm a; intro a hm
                        by_cases hc_17 : x0.Data = x1.Data
                        · rw [if_pos hc_17] at H
                          refine s_on hm rfl rfl (beq_iff_eq.2 hc_17) ?_
                          refine s_fieldAddr hm rfl Try.underlying29 rfl ti3 rfl rfl ?_
                          clear hm a; intro a hm
                          refine s_on hm rfl rfl (beq_iff_eq.2 hc_17) ?_
                          refine s_load hm rfl rfl (hS.load_one (p := 1) rfl Try.underlying3 rfl rfl) ?_
                          clear hm a; intro a hm
                          refine s_on hm rfl rfl (beq_iff_eq.2 hc_17) ?_
                          refine s_fieldAddr hm rfl Try.underlying29 rfl ti3 rfl rfl ?_
                          clear hm a; intro a hm
                          refine s_on hm rfl rfl (beq_iff_eq.2 hc_17) ?_
                          refine s_load hm rfl rfl (hS.load_one (p := 2) rfl Try.underlying3 rfl rfl) ?_
                          clear hm a; intro a hm
                          refine s_on hm rfl rfl (beq_iff_eq.2 hc_17) ?_
                          refine s_cmp (b := (x0.Hop == x1.Hop)) hm rfl rfl rfl (.inl ⟨rfl, rfl⟩) ?_
                          clear hm a; intro a hm
                          refine s_pick_t hm rfl rfl (beq_iff_eq.2 hc_17) rfl ?_
                          clear hm a; intro a hm
                          refine s_move hm rfl rfl ?_
                          clear hm a; intro a hm
                          by_cases hc_18 : x0.Hop = x1.Hop
                          · rw [if_pos hc_18] at H
                            refine s_on hm rfl rfl (beq_iff_eq.2 hc_18) ?_
                            refine s_fieldAddr hm rfl Try.underlying29 rfl ti3 rfl rfl ?_
                            clear hm a; intro a hm
                            refine s_on hm rfl rfl (beq_iff_eq.2 hc_18) ?_
                            refine s_load hm rfl rfl (hS.load_one (p := 1) rfl Try.underlying3 rfl rfl) ?_
                            clear hm a; intro a hm
                            refine s_on hm rfl rfl (beq_iff_eq.2 hc_18) ?_
                            refine s_fieldAddr hm rfl Try.underlying29 rfl ti3 rfl rfl ?_
                            clear hm a; intro a hm
                            refine s_on hm rfl rfl (beq_iff_eq.2 hc_18) ?_
                            refine s_load hm rfl rfl (hS.load_one (p := 2) rfl Try.underlying3 rfl rfl) ?_
                            clear hm a; intro a hm
                            refine s_on hm rfl rfl (beq_iff_eq.2 hc_18) ?_
                            refine s_cmp (b := (x0.Seq == x1.Seq)) hm rfl rfl rfl (.inl ⟨rfl, rfl⟩) ?_
                            clear hm a; intro a hm
                            refine s_pick_t hm rfl rfl (beq_iff_eq.2 hc_18) rfl ?_
                            clear hm a; intro a hm
                            refine s_move hm rfl rfl ?_
                            clear hm a; intro a hm
                            by_cases hc_19 : x0.Seq = x1.Seq
                            · rw [if_pos hc_19] at H
                              refine s_on hm rfl rfl (beq_iff_eq.2 hc_19) ?_
                              refine s_fieldAddr hm rfl Try.underlying29 rfl ti23 rfl rfl ?_
                              clear hm a; intro a hm
                              refine s_on hm rfl rfl (beq_iff_eq.2 hc_19) ?_
                              refine s_load hm rfl rfl (hS.load_one (p := 1) rfl Try.underlying23 rfl rfl) ?_
                              clear hm a; intro a hm
                              refine s_on hm rfl rfl (beq_iff_eq.2 hc_19) ?_
                              refine s_fieldAddr hm rfl Try.underlying29 rfl ti23 rfl rfl ?_
                              clear hm a; intro a hm
                              refine s_on hm rfl rfl (beq_iff_eq.2 hc_19) ?_
                              refine s_load hm rfl rfl (hS.load_one (p := 2) rfl Try.underlying23 rfl rfl) ?_
                              clear hm a; intro a hm
                              refine s_on hm rfl rfl (beq_iff_eq.2 hc_19) ?_
                              obtain ⟨t_20, et_20, H⟩ := Option.bind_eq_some_iff.1 H
                              refine s_call hm rfl Try.call25 rfl (hocketref1_SameInts.calls K x0.Have _ x1.Have _ t_20 w0 _ _ _ (Mem.le.refl _) (hS.enter [] (by decide)) (hp0_1.mono (hA.trans (hS.le_zed []))) (hp1_7.mono (hA.trans (hS.le_zed []))) et_20) ?_
                              rintro _ w_21 ⟨N_22, rfl, hS'⟩
                              clear hm a; intro a hm
                              obtain ⟨N_23, hS'', le_23, ln_23⟩ := hS.call [] (by decide) rfl (l' := []) (ow := []) rfl hS'
                              replace hS : Sep w0 w_21 [N_23, Mem.one g_2 (.cells ([.int .i64 x0.Kind, .int .i64 x0.From, .int .i64 x0.To, .int .i64 x0.View, .int .i64 x0.Inst, .int .i64 x0.Len, .bool x0.Has, .int .i64 x0.Members, .int .i64 x0.Source, .int .i64 x0.At, .int .i64 x0.Total, p0_0, .int .i64 x0.Hop, .int .i64 x0.Seq, p0_1, p0_2, .int .i64 x0.Index, .int .i64 x0.Entry.Sess, .int .i64 x0.Entry.Seq, .int .i64 x0.Entry.Cmd.Kind, .int .i64 x0.Entry.Cmd.Who, p0_3, p0_4, p0_5] : List Value).toArray 29 (0, 0)), Mem.one g_4 (.cells ([.int .i64 x1.Kind, .int .i64 x1.From, .int .i64 x1.To, .int .i64 x1.View, .int .i64 x1.Inst, .int .i64 x1.Len, .bool x1.Has, .int .i64 x1.Members, .int .i64 x1.Source, .int .i64 x1.At, .int .i64 x1.Total, p1_6, .int .i64 x1.Hop, .int .i64 x1.Seq, p1_7, p1_8, .int .i64 x1.Index, .int .i64 x1.Entry.Sess, .int .i64 x1.Entry.Seq, .int .i64 x1.Entry.Cmd.Kind, .int .i64 x1.Entry.Cmd.Who, p1_9, p1_10, p1_11] : List Value).toArray 29 (0, 0))] Z := hS''
                              clear hS' hS''
                              refine s_pick_t hm rfl rfl (beq_iff_eq.2 hc_19) rfl ?_
                              clear hm a; intro a hm
                              refine s_move hm rfl rfl ?_
                              clear hm a; intro a hm
                              by_cases hc_24 : t_20 = true
                              · rw [if_pos hc_24] at H
                                refine s_on hm rfl rfl hc_24 ?_
                                refine s_fieldAddr hm rfl Try.underlying29 rfl ti23 rfl rfl ?_
                                clear hm a; intro a hm
                                refine s_on hm rfl rfl hc_24 ?_
                                refine s_load hm rfl rfl (hS.load_one (p := 1) rfl Try.underlying23 rfl rfl) ?_
                                clear hm a; intro a hm
                                refine s_on hm rfl rfl hc_24 ?_
                                refine s_fieldAddr hm rfl Try.underlying29 rfl ti23 rfl rfl ?_
                                clear hm a; intro a hm
                                refine s_on hm rfl rfl hc_24 ?_
                                refine s_load hm rfl rfl (hS.load_one (p := 2) rfl Try.underlying23 rfl rfl) ?_
                                clear hm a; intro a hm
                                refine s_on hm rfl rfl hc_24 ?_
                                obtain ⟨t_25, et_25, H⟩ := Option.bind_eq_some_iff.1 H
                                refine s_call hm rfl Try.call25 rfl (hocketref1_SameInts.calls K x0.Need _ x1.Need _ t_25 w0 _ _ _ (Mem.le.refl _) (hS.enter [] (by decide)) (hp0_2.mono (hA.trans (hS.le_zed []))) (hp1_8.mono (hA.trans (hS.le_zed []))) et_25) ?_
                                rintro _ w_26 ⟨N_27, rfl, hS'⟩
                                clear hm a; intro a hm
                                obtain ⟨N_28, hS'', le_28, ln_28⟩ := hS.call [] (by decide) rfl (l' := []) (ow := []) rfl hS'
                                replace hS : Sep w0 w_26 [N_28, Mem.one g_2 (.cells ([.int .i64 x0.Kind, .int .i64 x0.From, .int .i64 x0.To, .int .i64 x0.View, .int .i64 x0.Inst, .int .i64 x0.Len, .bool x0.Has, .int .i64 x0.Members, .int .i64 x0.Source, .int .i64 x0.At, .int .i64 x0.Total, p0_0, .int .i64 x0.Hop, .int .i64 x0.Seq, p0_1, p0_2, .int .i64 x0.Index, .int .i64 x0.Entry.Sess, .int .i64 x0.Entry.Seq, .int .i64 x0.Entry.Cmd.Kind, .int .i64 x0.Entry.Cmd.Who, p0_3, p0_4, p0_5] : List Value).toArray 29 (0, 0)), Mem.one g_4 (.cells ([.int .i64 x1.Kind, .int .i64 x1.From, .int .i64 x1.To, .int .i64 x1.View, .int .i64 x1.Inst, .int .i64 x1.Len, .bool x1.Has, .int .i64 x1.Members, .int .i64 x1.Source, .int .i64 x1.At, .int .i64 x1.Total, p1_6, .int .i64 x1.Hop, .int .i64 x1.Seq, p1_7, p1_8, .int .i64 x1.Index, .int .i64 x1.Entry.Sess, .int .i64 x1.Entry.Seq, .int .i64 x1.Entry.Cmd.Kind, .int .i64 x1.Entry.Cmd.Who, p1_9, p1_10, p1_11] : List Value).toArray 29 (0, 0))] Z := hS''
                                clear hS' hS''
                                refine s_pick_t hm rfl rfl hc_24 rfl ?_
                                clear hm a; intro a hm
                                refine s_move hm rfl rfl ?_
                                clear hm a; intro a hm
                                by_cases hc_29 : t_25 = true
                                · rw [if_pos hc_29] at H
                                  refine s_on hm rfl rfl hc_29 ?_
                                  refine s_fieldAddr hm rfl Try.underlying29 rfl ti3 rfl rfl ?_
                                  clear hm a; intro a hm
                                  refine s_on hm rfl rfl hc_29 ?_
                                  refine s_load hm rfl rfl (hS.load_one (p := 1) rfl Try.underlying3 rfl rfl) ?_
                                  clear hm a; intro a hm
                                  refine s_on hm rfl rfl hc_29 ?_
                                  refine s_fieldAddr hm rfl Try.underlying29 rfl ti3 rfl rfl ?_
                                  clear hm a; intro a hm
                                  refine s_on hm rfl rfl hc_29 ?_
                                  refine s_load hm rfl rfl (hS.load_one (p := 2) rfl Try.underlying3 rfl rfl) ?_
                                  clear hm a; intro a hm
                                  refine s_on hm rfl rfl hc_29 ?_
                                  refine s_cmp (b := (x0.Index == x1.Index)) hm rfl rfl rfl (.inl ⟨rfl, rfl⟩) ?_
                                  clear hm a; intro a hm
                                  refine s_pick_t hm rfl rfl hc_29 rfl ?_
                                  clear hm a; intro a hm
                                  refine s_move hm rfl rfl ?_
                                  clear hm a; intro a hm
                                  by_cases hc_30 : x0.Index = x1.Index
                                  · rw [if_pos hc_30] at H
                                    refine s_on hm rfl rfl (beq_iff_eq.2 hc_30) ?_
                                    refine s_fieldAddr hm rfl Try.underlying29 rfl ti27 rfl rfl ?_
                                    clear hm a; intro a hm
                                    refine s_on hm rfl rfl (beq_iff_eq.2 hc_30) ?_
                                    refine s_load hm rfl rfl (hS.load_agg (p := 1) (us := [.int .i64 x0.Entry.Sess, .int .i64 x0.Entry.Seq, .int .i64 x0.Entry.Cmd.Kind, .int .i64 x0.Entry.Cmd.Who, p0_3, p0_4, p0_5]) rfl Try.underlying27 rfl ti27 rfl rfl) ?_
                                    clear hm a; intro a hm
                                    refine s_on hm rfl rfl (beq_iff_eq.2 hc_30) ?_
                                    refine s_fieldAddr hm rfl Try.underlying29 rfl ti27 rfl rfl ?_
                                    clear hm a; intro a hm
                                    refine s_on hm rfl rfl (beq_iff_eq.2 hc_30) ?_
                                    refine s_load hm rfl rfl (hS.load_agg (p := 2) (us := [.int .i64 x1.Entry.Sess, .int .i64 x1.Entry.Seq, .int .i64 x1.Entry.Cmd.Kind, .int .i64 x1.Entry.Cmd.Who, p1_9, p1_10, p1_11]) rfl Try.underlying27 rfl ti27 rfl rfl) ?_
                                    clear hm a; intro a hm
                                    refine s_on hm rfl rfl (beq_iff_eq.2 hc_30) ?_
                                    obtain ⟨t_31, et_31, H⟩ := Option.bind_eq_some_iff.1 H
                                    refine s_call hm rfl Try.call66 rfl (hocketref4_SameEntry.calls x0.Entry _ _ _ x1.Entry _ _ _ t_31 w0 _ _ _ (Mem.le.refl _) (hS.enter [] (by decide)) (hp0_3.mono (hA.trans (hS.le_zed []))) (hp0_4.mono (hA.trans (hS.le_zed []))) (hp0_5.mono (hA.trans (hS.le_zed []))) (hp1_9.mono (hA.trans (hS.le_zed []))) (hp1_10.mono (hA.trans (hS.le_zed []))) (hp1_11.mono (hA.trans (hS.le_zed []))) et_31) ?_
                                    rintro _ w_32 ⟨N_33, rfl, hS'⟩
                                    clear hm a; intro a hm
                                    obtain ⟨N_34, hS'', le_34, ln_34⟩ := hS.call [] (by decide) rfl (l' := []) (ow := []) rfl hS'
                                    replace hS : Sep w0 w_32 [N_34, Mem.one g_2 (.cells ([.int .i64 x0.Kind, .int .i64 x0.From, .int .i64 x0.To, .int .i64 x0.View, .int .i64 x0.Inst, .int .i64 x0.Len, .bool x0.Has, .int .i64 x0.Members, .int .i64 x0.Source, .int .i64 x0.At, .int .i64 x0.Total, p0_0, .int .i64 x0.Hop, .int .i64 x0.Seq, p0_1, p0_2, .int .i64 x0.Index, .int .i64 x0.Entry.Sess, .int .i64 x0.Entry.Seq, .int .i64 x0.Entry.Cmd.Kind, .int .i64 x0.Entry.Cmd.Who, p0_3, p0_4, p0_5] : List Value).toArray 29 (0, 0)), Mem.one g_4 (.cells ([.int .i64 x1.Kind, .int .i64 x1.From, .int .i64 x1.To, .int .i64 x1.View, .int .i64 x1.Inst, .int .i64 x1.Len, .bool x1.Has, .int .i64 x1.Members, .int .i64 x1.Source, .int .i64 x1.At, .int .i64 x1.Total, p1_6, .int .i64 x1.Hop, .int .i64 x1.Seq, p1_7, p1_8, .int .i64 x1.Index, .int .i64 x1.Entry.Sess, .int .i64 x1.Entry.Seq, .int .i64 x1.Entry.Cmd.Kind, .int .i64 x1.Entry.Cmd.Who, p1_9, p1_10, p1_11] : List Value).toArray 29 (0, 0))] Z := hS''
                                    clear hS' hS''
                                    refine s_pick_t hm rfl rfl (beq_iff_eq.2 hc_30) rfl ?_
                                    clear hm a; intro a hm
                                    refine s_assign hm rfl rfl ?_
                                    clear hm a; intro a hm
                                    refine wpList_nil ?_
                                    replace hm : Fr 131 a [(4, .bool t_31)] := hm.keep [4]
                                    refine x_then_n (hKJ_5 _ _ ?_)
                                    refine wp_ret ?_
                                    obtain rfl := Option.some.inj H
                                    exact f_ret hm (rs := [.tmp 4]) rfl (.tmp rfl .nil) ⟨_, rfl, N_34, rfl, (Sep.sel hS [0] (by decide))⟩
                                  · rw [if_neg hc_30] at H
                                    refine s_off hm rfl rfl rfl (beq_eq_false_iff_ne.2 hc_30) ?_
                                    clear hm a; intro a hm
                                    refine s_off hm rfl rfl rfl (beq_eq_false_iff_ne.2 hc_30) ?_
                                    clear hm a; intro a hm
                                    refine s_off hm rfl rfl rfl (beq_eq_false_iff_ne.2 hc_30) ?_
                                    clear hm a; intro a hm
                                    refine s_off hm rfl rfl rfl (beq_eq_false_iff_ne.2 hc_30) ?_
                                    clear hm a; intro a hm
                                    refine s_off hm rfl rfl rfl (beq_eq_false_iff_ne.2 hc_30) ?_
                                    clear hm a; intro a hm
                                    refine s_pick_f hm rfl rfl (beq_eq_false_iff_ne.2 hc_30) rfl ?_
                                    clear hm a; intro a hm
                                    refine s_assign hm rfl rfl ?_
                                    clear hm a; intro a hm
                                    refine wpList_nil ?_
                                    replace hm : Fr 131 a [(4, .bool false)] := hm.keep [4]
                                    refine x_then_n (hKJ_5 _ _ ?_)
                                    refine wp_ret ?_
                                    obtain rfl := Option.some.inj H
                                    exact f_ret hm (rs := [.tmp 4]) rfl (.tmp rfl .nil) ⟨_, rfl, N_28, rfl, (Sep.sel hS [0] (by decide))⟩
                                · rw [if_neg hc_29] at H
                                  refine s_off hm rfl rfl rfl (Bool.eq_false_iff.2 hc_29) ?_
                                  clear hm a; intro a hm
                                  refine s_off hm rfl rfl rfl (Bool.eq_false_iff.2 hc_29) ?_
                                  clear hm a; intro a hm
                                  refine s_off hm rfl rfl rfl (Bool.eq_false_iff.2 hc_29) ?_
                                  clear hm a; intro a hm
                                  refine s_off hm rfl rfl rfl (Bool.eq_false_iff.2 hc_29) ?_
                                  clear hm a; intro a hm
                                  refine s_off hm rfl rfl rfl (Bool.eq_false_iff.2 hc_29) ?_
                                  clear hm a; intro a hm
                                  refine s_pick_f hm rfl rfl (Bool.eq_false_iff.2 hc_29) rfl ?_
                                  clear hm a; intro a hm
                                  refine s_move hm rfl rfl ?_
                                  clear hm a; intro a hm
                                  refine s_off hm rfl rfl rfl rfl ?_
                                  clear hm a; intro a hm
                                  refine s_off hm rfl rfl rfl rfl ?_
                                  clear hm a; intro a hm
                                  refine s_off hm rfl rfl rfl rfl ?_
                                  clear hm a; intro a hm
                                  refine s_off hm rfl rfl rfl rfl ?_
                                  clear hm a; intro a hm
                                  refine s_off hm rfl rfl rfl rfl ?_
                                  clear hm a; intro a hm
                                  refine s_pick_f hm rfl rfl rfl rfl ?_
                                  clear hm a; intro a hm
                                  refine s_assign hm rfl rfl ?_
                                  clear hm a; intro a hm
                                  refine wpList_nil ?_
                                  replace hm : Fr 131 a [(4, .bool false)] := hm.keep [4]
                                  refine x_then_n (hKJ_5 _ _ ?_)
                                  refine wp_ret ?_
                                  obtain rfl := Option.some.inj H
                                  exact f_ret hm (rs := [.tmp 4]) rfl (.tmp rfl .nil) ⟨_, rfl, N_28, rfl, (Sep.sel hS [0] (by decide))⟩
                              · rw [if_neg hc_24] at H
                                refine s_off hm rfl rfl rfl (Bool.eq_false_iff.2 hc_24) ?_
                                clear hm a; intro a hm
                                refine s_off hm rfl rfl rfl (Bool.eq_false_iff.2 hc_24) ?_
                                clear hm a; intro a hm
                                refine s_off hm rfl rfl rfl (Bool.eq_false_iff.2 hc_24) ?_
                                clear hm a; intro a hm
                                refine s_off hm rfl rfl rfl (Bool.eq_false_iff.2 hc_24) ?_
                                clear hm a; intro a hm
                                refine s_off hm rfl rfl rfl (Bool.eq_false_iff.2 hc_24) ?_
                                clear hm a; intro a hm
                                refine s_pick_f hm rfl rfl (Bool.eq_false_iff.2 hc_24) rfl ?_
                                clear hm a; intro a hm
                                refine s_move hm rfl rfl ?_
                                clear hm a; intro a hm
                                refine s_off hm rfl rfl rfl rfl ?_
                                clear hm a; intro a hm
                                refine s_off hm rfl rfl rfl rfl ?_
                                clear hm a; intro a hm
                                refine s_off hm rfl rfl rfl rfl ?_
                                clear hm a; intro a hm
                                refine s_off hm rfl rfl rfl rfl ?_
                                clear hm a; intro a hm
                                refine s_off hm rfl rfl rfl rfl ?_
                                clear hm a; intro a hm
                                refine s_pick_f hm rfl rfl rfl rfl ?_
                                clear hm a; intro a hm
                                refine s_move hm rfl rfl ?_
                                clear hm a; intro a hm
                                refine s_off hm rfl rfl rfl rfl ?_
                                clear hm a; intro a hm
                                refine s_off hm rfl rfl rfl rfl ?_
                                clear hm a; intro a hm
                                refine s_off hm rfl rfl rfl rfl ?_
                                clear hm a; intro a hm
                                refine s_off hm rfl rfl rfl rfl ?_
                                clear hm a; intro a hm
                                refine s_off hm rfl rfl rfl rfl ?_
                                clear hm a; intro a hm
                                refine s_pick_f hm rfl rfl rfl rfl ?_
                                clear hm a; intro a hm
                                refine s_assign hm rfl rfl ?_
                                clear hm a; intro a hm
                                refine wpList_nil ?_
                                replace hm : Fr 131 a [(4, .bool false)] := hm.keep [4]
                                refine x_then_n (hKJ_5 _ _ ?_)
                                refine wp_ret ?_
                                obtain rfl := Option.some.inj H
                                exact f_ret hm (rs := [.tmp 4]) rfl (.tmp rfl .nil) ⟨_, rfl, N_23, rfl, (Sep.sel hS [0] (by decide))⟩
                            · rw [if_neg hc_19] at H
                              refine s_off hm rfl rfl rfl (beq_eq_false_iff_ne.2 hc_19) ?_
                              clear hm a; intro a hm
                              refine s_off hm rfl rfl rfl (beq_eq_false_iff_ne.2 hc_19) ?_
                              clear hm a; intro a hm
                              refine s_off hm rfl rfl rfl (beq_eq_false_iff_ne.2 hc_19) ?_
                              clear hm a; intro a hm
                              refine s_off hm rfl rfl rfl (beq_eq_false_iff_ne.2 hc_19) ?_
                              clear hm a; intro a hm
                              refine s_off hm rfl rfl rfl (beq_eq_false_iff_ne.2 hc_19) ?_
                              clear hm a; intro a hm
                              refine s_pick_f hm rfl rfl (beq_eq_false_iff_ne.2 hc_19) rfl ?_
                              clear hm a; intro a hm
                              refine s_move hm rfl rfl ?_
                              clear hm a; intro a hm
                              refine s_off hm rfl rfl rfl rfl ?_
                              clear hm a; intro a hm
                              refine s_off hm rfl rfl rfl rfl ?_
                              clear hm a; intro a hm
                              refine s_off hm rfl rfl rfl rfl ?_
                              clear hm a; intro a hm
                              refine s_off hm rfl rfl rfl rfl ?_
                              clear hm a; intro a hm
                              refine s_off hm rfl rfl rfl rfl ?_
                              clear hm a; intro a hm
                              refine s_pick_f hm rfl rfl rfl rfl ?_
                              clear hm a; intro a hm
                              refine s_move hm rfl rfl ?_
                              clear hm a; intro a hm
                              refine s_off hm rfl rfl rfl rfl ?_
                              clear hm a; intro a hm
                              refine s_off hm rfl rfl rfl rfl ?_
                              clear hm a; intro a hm
                              refine s_off hm rfl rfl rfl rfl ?_
                              clear hm a; intro a hm
                              refine s_off hm rfl rfl rfl rfl ?_
                              clear hm a; intro a hm
                              refine s_off hm rfl rfl rfl rfl ?_
                              clear hm a; intro a hm
                              refine s_pick_f hm rfl rfl rfl rfl ?_
                              clear hm a; intro a hm
                              refine s_move hm rfl rfl ?_
                              clear hm a; intro a hm
                              refine s_off hm rfl rfl rfl rfl ?_
                              clear hm a; intro a hm
                              refine s_off hm rfl rfl rfl rfl ?_
                              clear hm a; intro a hm
                              refine s_off hm rfl rfl rfl rfl ?_
                              clear hm a; intro a hm
                              refine s_off hm rfl rfl rfl rfl ?_
                              clear hm a; intro a hm
                              refine s_off hm rfl rfl rfl rfl ?_
                              clear hm a; intro a hm
                              refine s_pick_f hm rfl rfl rfl rfl ?_
                              clear hm a; intro a hm
                              refine s_assign hm rfl rfl ?_
                              clear hm a; intro a hm
                              refine wpList_nil ?_
                              replace hm : Fr 131 a [(4, .bool false)] := hm.keep [4]
                              refine x_then_n (hKJ_5 _ _ ?_)
                              refine wp_ret ?_
                              obtain rfl := Option.some.inj H
                              exact f_ret hm (rs := [.tmp 4]) rfl (.tmp rfl .nil) ⟨_, rfl, Mem.no, rfl, (Sep.sel hS [0] (by decide))⟩
                          · rw [if_neg hc_18] at H
                            refine s_off hm rfl rfl rfl (beq_eq_false_iff_ne.2 hc_18) ?_
                            clear hm a; intro a hm
                            refine s_off hm rfl rfl rfl (beq_eq_false_iff_ne.2 hc_18) ?_
                            clear hm a; intro a hm
                            refine s_off hm rfl rfl rfl (beq_eq_false_iff_ne.2 hc_18) ?_
                            clear hm a; intro a hm
                            refine s_off hm rfl rfl rfl (beq_eq_false_iff_ne.2 hc_18) ?_
                            clear hm a; intro a hm
                            refine s_off hm rfl rfl rfl (beq_eq_false_iff_ne.2 hc_18) ?_
                            clear hm a; intro a hm
                            refine s_pick_f hm rfl rfl (beq_eq_false_iff_ne.2 hc_18) rfl ?_
                            clear hm a; intro a hm
                            refine s_move hm rfl rfl ?_
                            clear hm a; intro a hm
                            refine s_off hm rfl rfl rfl rfl ?_
                            clear hm a; intro a hm
                            refine s_off hm rfl rfl rfl rfl ?_
                            clear hm a; intro a hm
                            refine s_off hm rfl rfl rfl rfl ?_
                            clear hm a; intro a hm
                            refine s_off hm rfl rfl rfl rfl ?_
                            clear hm a; intro a hm
                            refine s_off hm rfl rfl rfl rfl ?_
                            clear hm a; intro a hm
                            refine s_pick_f hm rfl rfl rfl rfl ?_
                            clear hm a; intro a hm
                            refine s_move hm rfl rfl ?_
                            clear hm a; intro a hm
                            refine s_off hm rfl rfl rfl rfl ?_
                            clear hm a; intro a hm
                            refine s_off hm rfl rfl rfl rfl ?_
                            clear hm a; intro a hm
                            refine s_off hm rfl rfl rfl rfl ?_
                            clear hm a; intro a hm
                            refine s_off hm rfl rfl rfl rfl ?_
                            clear hm a; intro a hm
                            refine s_off hm rfl rfl rfl rfl ?_
                            clear hm a; intro a hm
                            refine s_pick_f hm rfl rfl rfl rfl ?_
                            clear hm a; intro a hm
                            refine s_move hm rfl rfl ?_
                            clear hm a; intro a hm
                            refine s_off hm rfl rfl rfl rfl ?_
                            clear hm a; intro a hm
                            refine s_off hm rfl rfl rfl rfl ?_
                            clear hm a; intro a hm
                            refine s_off hm rfl rfl rfl rfl ?_
                            clear hm a; intro a hm
                            refine s_off hm rfl rfl rfl rfl ?_
                            clear hm a; intro a hm
                            refine s_off hm rfl rfl rfl rfl ?_
                            clear hm a; intro a hm
                            refine s_pick_f hm rfl rfl rfl rfl ?_
                            clear hm a; intro a hm
                            refine s_move hm rfl rfl ?_
                            clear hm a; intro a hm
                            refine s_off hm rfl rfl rfl rfl ?_
                            clear hm a; intro a hm
                            refine s_off hm rfl rfl rfl rfl ?_
                            clear hm a; intro a hm
                            refine s_off hm rfl rfl rfl rfl ?_
                            clear hm a; intro a hm
                            refine s_off hm rfl rfl rfl rfl ?_
                            clear hm a; intro a hm
                            refine s_off hm rfl rfl rfl rfl ?_
                            clear hm a; intro a hm
                            refine s_pick_f hm rfl rfl rfl rfl ?_
                            clear hm a; intro a hm
                            refine s_assign hm rfl rfl ?_
                            clear hm a; intro a hm
                            refine wpList_nil ?_
                            replace hm : Fr 131 a [(4, .bool false)] := hm.keep [4]
                            refine x_then_n (hKJ_5 _ _ ?_)
                            refine wp_ret ?_
                            obtain rfl := Option.some.inj H
                            exact f_ret hm (rs := [.tmp 4]) rfl (.tmp rfl .nil) ⟨_, rfl, Mem.no, rfl, (Sep.sel hS [0] (by decide))⟩
                        · rw [if_neg hc_17] at H
                          refine s_off hm rfl rfl rfl (beq_eq_false_iff_ne.2 hc_17) ?_
                          clear hm a; intro a hm
                          refine s_off hm rfl rfl rfl (beq_eq_false_iff_ne.2 hc_17) ?_
                          clear hm a; intro a hm
                          refine s_off hm rfl rfl rfl (beq_eq_false_iff_ne.2 hc_17) ?_
                          clear hm a; intro a hm
                          refine s_off hm rfl rfl rfl (beq_eq_false_iff_ne.2 hc_17) ?_
                          clear hm a; intro a hm
                          refine s_off hm rfl rfl rfl (beq_eq_false_iff_ne.2 hc_17) ?_
                          clear hm a; intro a hm
                          refine s_pick_f hm rfl rfl (beq_eq_false_iff_ne.2 hc_17) rfl ?_
                          clear hm a; intro a hm
                          refine s_move hm rfl rfl ?_
                          clear hm a; intro a hm
                          refine s_off hm rfl rfl rfl rfl ?_
                          clear hm a; intro a hm
                          refine s_off hm rfl rfl rfl rfl ?_
                          clear hm a; intro a hm
                          refine s_off hm rfl rfl rfl rfl ?_
                          clear hm a; intro a hm
                          refine s_off hm rfl rfl rfl rfl ?_
                          clear hm a; intro a hm
                          refine s_off hm rfl rfl rfl rfl ?_
                          clear hm a; intro a hm
                          refine s_pick_f hm rfl rfl rfl rfl ?_
                          clear hm a; intro a hm
                          refine s_move hm rfl rfl ?_
                          clear hm a; intro a hm
                          refine s_off hm rfl rfl rfl rfl ?_
                          clear hm a; intro a hm
                          refine s_off hm rfl rfl rfl rfl ?_
                          clear hm a; intro a hm
                          refine s_off hm rfl rfl rfl rfl ?_
                          clear hm a; intro a hm
                          refine s_off hm rfl rfl rfl rfl ?_
                          clear hm a; intro a hm
                          refine s_off hm rfl rfl rfl rfl ?_
                          clear hm a; intro a hm
                          refine s_pick_f hm rfl rfl rfl rfl ?_
                          clear hm a; intro a hm
                          refine s_move hm rfl rfl ?_
                          clear hm a; intro a hm
                          refine s_off hm rfl rfl rfl rfl ?_
                          clear hm a; intro a hm
                          refine s_off hm rfl rfl rfl rfl ?_
                          clear hm a; intro a hm
                          refine s_off hm rfl rfl rfl rfl ?_
                          clear hm a; intro a hm
                          refine s_off hm rfl rfl rfl rfl ?_
                          clear hm a; intro a hm
                          refine s_off hm rfl rfl rfl rfl ?_
                          clear hm a; intro a hm
                          refine s_pick_f hm rfl rfl rfl rfl ?_
                          clear hm a; intro a hm
                          refine s_move hm rfl rfl ?_
                          clear hm a; intro a hm
                          refine s_off hm rfl rfl rfl rfl ?_
                          clear hm a; intro a hm
                          refine s_off hm rfl rfl rfl rfl ?_
                          clear hm a; intro a hm
                          refine s_off hm rfl rfl rfl rfl ?_
                          clear hm a; intro a hm
                          refine s_off hm rfl rfl rfl rfl ?_
                          clear hm a; intro a hm
                          refine s_off hm rfl rfl rfl rfl ?_
                          clear hm a; intro a hm
                          refine s_pick_f hm rfl rfl rfl rfl ?_
                          clear hm a; intro a hm
                          refine s_move hm rfl rfl ?_
                          clear hm a; intro a hm
                          refine s_off hm rfl rfl rfl rfl ?_
                          clear hm a; intro a hm
                          refine s_off hm rfl rfl rfl rfl ?_
                          clear hm a; intro a hm
                          refine s_off hm rfl rfl rfl rfl ?_
                          clear hm a; intro a hm
                          refine s_off hm rfl rfl rfl rfl ?_
                          clear hm a; intro a hm
                          refine s_off hm rfl rfl rfl rfl ?_
                          clear hm a; intro a hm
                          refine s_pick_f hm rfl rfl rfl rfl ?_
                          clear hm a; intro a hm
                          refine s_assign hm rfl rfl ?_
                          clear hm a; intro a hm
                          refine wpList_nil ?_
                          replace hm : Fr 131 a [(4, .bool false)] := hm.keep [4]
                          refine x_then_n (hKJ_5 _ _ ?_)
                          refine wp_ret ?_
                          obtain rfl := Option.some.inj H
                          exact f_ret hm (rs := [.tmp 4]) rfl (.tmp rfl .nil) ⟨_, rfl, Mem.no, rfl, (Sep.sel hS [0] (by decide))⟩
                      · rw [if_neg hc_16] at H
                        refine s_off hm rfl rfl rfl (beq_eq_false_iff_ne.2 hc_16) ?_
                        clear hm a; intro a hm
                        refine s_off hm rfl rfl rfl (beq_eq_false_iff_ne.2 hc_16) ?_
                        clear hm a; intro a hm
                        refine s_off hm rfl rfl rfl (beq_eq_false_iff_ne.2 hc_16) ?_
                        clear hm a; intro a hm
                        refine s_off hm rfl rfl rfl (beq_eq_false_iff_ne.2 hc_16) ?_
                        clear hm a; intro a hm
                        refine s_off hm rfl rfl rfl (beq_eq_false_iff_ne.2 hc_16) ?_
                        clear hm a; intro a hm
                        refine s_off hm rfl rfl rfl (beq_eq_false_iff_ne.2 hc_16) ?_
                        clear hm a; intro a hm
                        refine s_off hm rfl rfl rfl (beq_eq_false_iff_ne.2 hc_16) ?_
                        clear hm a; intro a hm
                        refine s_pick_f hm rfl rfl (beq_eq_false_iff_ne.2 hc_16) rfl ?_
                        clear hm a; intro a hm
                        refine s_move hm rfl rfl ?_
                        clear hm a; intro a hm
                        refine s_off hm rfl rfl rfl rfl ?_
                        clear hm a; intro a hm
                        refine s_off hm rfl rfl rfl rfl ?_
                        clear hm a; intro a hm
                        refine s_off hm rfl rfl rfl rfl ?_
                        clear hm a; intro a hm
                        refine s_off hm rfl rfl rfl rfl ?_
                        clear hm a; intro a hm
                        refine s_off hm rfl rfl rfl rfl ?_
                        clear hm a; intro a hm
                        refine s_pick_f hm rfl rfl rfl rfl ?_
                        clear hm a; intro a hm
                        refine s_move hm rfl rfl ?_
                        clear hm a; intro a hm
                        refine s_off hm rfl rfl rfl rfl ?_
                        clear hm a; intro a hm
                        refine s_off hm rfl rfl rfl rfl ?_
                        clear hm a; intro a hm
                        refine s_off hm rfl rfl rfl rfl ?_
                        clear hm a; intro a hm
                        refine s_off hm rfl rfl rfl rfl ?_
                        clear hm a; intro a hm
                        refine s_off hm rfl rfl rfl rfl ?_
                        clear hm a; intro a hm
                        refine s_pick_f hm rfl rfl rfl rfl ?_
                        clear hm a; intro a hm
                        refine s_move hm rfl rfl ?_
                        clear hm a; intro a hm
                        refine s_off hm rfl rfl rfl rfl ?_
                        clear hm a; intro a hm
                        refine s_off hm rfl rfl rfl rfl ?_
                        clear hm a; intro a hm
                        refine s_off hm rfl rfl rfl rfl ?_
                        clear hm a; intro a hm
                        refine s_off hm rfl rfl rfl rfl ?_
                        clear hm a; intro a hm
                        refine s_off hm rfl rfl rfl rfl ?_
                        clear hm a; intro a hm
                        refine s_pick_f hm rfl rfl rfl rfl ?_
                        clear hm a; intro a hm
                        refine s_move hm rfl rfl ?_
                        clear hm a; intro a hm
                        refine s_off hm rfl rfl rfl rfl ?_
                        clear hm a; intro a hm
                        refine s_off hm rfl rfl rfl rfl ?_
                        clear hm a; intro a hm
                        refine s_off hm rfl rfl rfl rfl ?_
                        clear hm a; intro a hm
                        refine s_off hm rfl rfl rfl rfl ?_
                        clear hm a; intro a hm
                        refine s_off hm rfl rfl rfl rfl ?_
                        clear hm a; intro a hm
                        refine s_pick_f hm rfl rfl rfl rfl ?_
                        clear hm a; intro a hm
                        refine s_move hm rfl rfl ?_
                        clear hm a; intro a hm
                        refine s_off hm rfl rfl rfl rfl ?_
                        clear hm a; intro a hm
                        refine s_off hm rfl rfl rfl rfl ?_
                        clear hm a; intro a hm
                        refine s_off hm rfl rfl rfl rfl ?_
                        clear hm a; intro a hm
                        refine s_off hm rfl rfl rfl rfl ?_
                        clear hm a; intro a hm
                        refine s_off hm rfl rfl rfl rfl ?_
                        clear hm a; intro a hm
                        refine s_pick_f hm rfl rfl rfl rfl ?_
                        clear hm a; intro a hm
                        refine s_move hm rfl rfl ?_
                        clear hm a; intro a hm
                        refine s_off hm rfl rfl rfl rfl ?_
                        clear hm a; intro a hm
                        refine s_off hm rfl rfl rfl rfl ?_
                        clear hm a; intro a hm
                        refine s_off hm rfl rfl rfl rfl ?_
                        clear hm a; intro a hm
                        refine s_off hm rfl rfl rfl rfl ?_
                        clear hm a; intro a hm
                        refine s_off hm rfl rfl rfl rfl ?_
                        clear hm a; intro a hm
                        refine s_pick_f hm rfl rfl rfl rfl ?_
                        clear hm a; intro a hm
                        refine s_assign hm rfl rfl ?_
                        clear hm a; intro a hm
                        refine wpList_nil ?_
                        replace hm : Fr 131 a [(4, .bool false)] := hm.keep [4]
                        refine x_then_n (hKJ_5 _ _ ?_)
                        refine wp_ret ?_
                        obtain rfl := Option.some.inj H
                        exact f_ret hm (rs := [.tmp 4]) rfl (.tmp rfl .nil) ⟨_, rfl, Mem.no, rfl, (Sep.sel hS [0] (by decide))⟩
                    · rw [if_neg hc_15] at H
                      refine s_off hm rfl rfl rfl (beq_eq_false_iff_ne.2 hc_15) ?_
                      clear hm a; intro a hm
                      refine s_off hm rfl rfl rfl (beq_eq_false_iff_ne.2 hc_15) ?_
                      clear hm a; intro a hm
                      refine s_off hm rfl rfl rfl (beq_eq_false_iff_ne.2 hc_15) ?_
                      clear hm a; intro a hm
                      refine s_off hm rfl rfl rfl (beq_eq_false_iff_ne.2 hc_15) ?_
                      clear hm a; intro a hm
                      refine s_off hm rfl rfl rfl (beq_eq_false_iff_ne.2 hc_15) ?_
                      clear hm a; intro a hm
                      refine s_pick_f hm rfl rfl (beq_eq_false_iff_ne.2 hc_15) rfl ?_
                      clear hm a; intro a hm
                      refine s_move hm rfl rfl ?_
                      clear hm a; intro a hm
                      refine s_off hm rfl rfl rfl rfl ?_
                      clear hm a; intro a hm
                      refine s_off hm rfl rfl rfl rfl ?_
                      clear hm a; intro a hm
                      refine s_off hm rfl rfl rfl rfl ?_
                      clear hm a; intro a hm
                      refine s_off hm rfl rfl rfl rfl ?_
                      clear hm a; intro a hm
                      refine s_off hm rfl rfl rfl rfl ?_
                      clear hm a; intro a hm
                      refine s_off hm rfl rfl rfl rfl ?_
                      clear hm a; intro a hm
                      refine s_off hm rfl rfl rfl rfl ?_
                      clear hm a; intro a hm
                      refine s_pick_f hm rfl rfl rfl rfl ?_
                      clear hm a; intro a hm
                      refine s_move hm rfl rfl ?_
                      clear hm a; intro a hm
                      refine s_off hm rfl rfl rfl rfl ?_
                      clear hm a; intro a hm
                      refine s_off hm rfl rfl rfl rfl ?_
                      clear hm a; intro a hm
                      refine s_off hm rfl rfl rfl rfl ?_
                      clear hm a; intro a hm
                      refine s_off hm rfl rfl rfl rfl ?_
                      clear hm a; intro a hm
                      refine s_off hm rfl rfl rfl rfl ?_
                      clear hm a; intro a hm
                      refine s_pick_f hm rfl rfl rfl rfl ?_
                      clear hm a; intro a hm
                      refine s_move hm rfl rfl ?_
                      clear hm a; intro a hm
                      refine s_off hm rfl rfl rfl rfl ?_
                      clear hm a; intro a hm
                      refine s_off hm rfl rfl rfl rfl ?_
                      clear hm a; intro a hm
                      refine s_off hm rfl rfl rfl rfl ?_
                      clear hm a; intro a hm
                      refine s_off hm rfl rfl rfl rfl ?_
                      clear hm a; intro a hm
                      refine s_off hm rfl rfl rfl rfl ?_
                      clear hm a; intro a hm
                      refine s_pick_f hm rfl rfl rfl rfl ?_
                      clear hm a; intro a hm
                      refine s_move hm rfl rfl ?_
                      clear hm a; intro a hm
                      refine s_off hm rfl rfl rfl rfl ?_
                      clear hm a; intro a hm
                      refine s_off hm rfl rfl rfl rfl ?_
                      clear hm a; intro a hm
                      refine s_off hm rfl rfl rfl rfl ?_
                      clear hm a; intro a hm
                      refine s_off hm rfl rfl rfl rfl ?_
                      clear hm a; intro a hm
                      refine s_off hm rfl rfl rfl rfl ?_
                      clear hm a; intro a hm
                      refine s_pick_f hm rfl rfl rfl rfl ?_
                      clear hm a; intro a hm
                      refine s_move hm rfl rfl ?_
                      clear hm a; intro a hm
                      refine s_off hm rfl rfl rfl rfl ?_
                      clear hm a; intro a hm
                      refine s_off hm rfl rfl rfl rfl ?_
                      clear hm a; intro a hm
                      refine s_off hm rfl rfl rfl rfl ?_
                      clear hm a; intro a hm
                      refine s_off hm rfl rfl rfl rfl ?_
                      clear hm a; intro a hm
                      refine s_off hm rfl rfl rfl rfl ?_
                      clear hm a; intro a hm
                      refine s_pick_f hm rfl rfl rfl rfl ?_
                      clear hm a; intro a hm
                      refine s_move hm rfl rfl ?_
                      clear hm a; intro a hm
                      refine s_off hm rfl rfl rfl rfl ?_
                      clear hm a; intro a hm
                      refine s_off hm rfl rfl rfl rfl ?_
                      clear hm a; intro a hm
                      refine s_off hm rfl rfl rfl rfl ?_
                      clear hm a; intro a hm
                      refine s_off hm rfl rfl rfl rfl ?_
                      clear hm a; intro a hm
                      refine s_off hm rfl rfl rfl rfl ?_
                      clear hm a; intro a hm
                      refine s_pick_f hm rfl rfl rfl rfl ?_
                      clear hm a; intro a hm
                      refine s_move hm rfl rfl ?_
                      clear hm a; intro a hm
                      refine s_off hm rfl rfl rfl rfl ?_
                      clear hm a; intro a hm
                      refine s_off hm rfl rfl rfl rfl ?_
                      clear hm a; intro a hm
                      refine s_off hm rfl rfl rfl rfl ?_
                      clear hm a; intro a hm
                      refine s_off hm rfl rfl rfl rfl ?_
                      clear hm a; intro a hm
                      refine s_off hm rfl rfl rfl rfl ?_
                      clear hm a; intro a hm
                      refine s_pick_f hm rfl rfl rfl rfl ?_
                      clear hm a; intro a hm
                      refine s_assign hm rfl rfl ?_
                      clear hm a; intro a hm
                      refine wpList_nil ?_
                      replace hm : Fr 131 a [(4, .bool false)] := hm.keep [4]
                      refine x_then_n (hKJ_5 _ _ ?_)
                      refine wp_ret ?_
                      obtain rfl := Option.some.inj H
                      exact f_ret hm (rs := [.tmp 4]) rfl (.tmp rfl .nil) ⟨_, rfl, Mem.no, rfl, (Sep.sel hS [0] (by decide))⟩
                  · rw [if_neg hc_14] at H
                    refine s_off hm rfl rfl rfl (beq_eq_false_iff_ne.2 hc_14) ?_
                    clear hm a; intro a hm
                    refine s_off hm rfl rfl rfl (beq_eq_false_iff_ne.2 hc_14) ?_
                    clear hm a; intro a hm
                    refine s_off hm rfl rfl rfl (beq_eq_false_iff_ne.2 hc_14) ?_
                    clear hm a; intro a hm
                    refine s_off hm rfl rfl rfl (beq_eq_false_iff_ne.2 hc_14) ?_
                    clear hm a; intro a hm
                    refine s_off hm rfl rfl rfl (beq_eq_false_iff_ne.2 hc_14) ?_
                    clear hm a; intro a hm
                    refine s_pick_f hm rfl rfl (beq_eq_false_iff_ne.2 hc_14) rfl ?_
                    clear hm a; intro a hm
                    refine s_move hm rfl rfl ?_
                    clear hm a; intro a hm
                    refine s_off hm rfl rfl rfl rfl ?_
                    clear hm a; intro a hm
                    refine s_off hm rfl rfl rfl rfl ?_
                    clear hm a; intro a hm
                    refine s_off hm rfl rfl rfl rfl ?_
                    clear hm a; intro a hm
                    refine s_off hm rfl rfl rfl rfl ?_
                    clear hm a; intro a hm
                    refine s_off hm rfl rfl rfl rfl ?_
                    clear hm a; intro a hm
                    refine s_pick_f hm rfl rfl rfl rfl ?_
                    clear hm a; intro a hm
                    refine s_move hm rfl rfl ?_
                    clear hm a; intro a hm
                    refine s_off hm rfl rfl rfl rfl ?_
                    clear hm a; intro a hm
                    refine s_off hm rfl rfl rfl rfl ?_
                    clear hm a; intro a hm
                    refine s_off hm rfl rfl rfl rfl ?_
                    clear hm a; intro a hm
                    refine s_off hm rfl rfl rfl rfl ?_
                    clear hm a; intro a hm
                    refine s_off hm rfl rfl rfl rfl ?_
                    clear hm a; intro a hm
                    refine s_off hm rfl rfl rfl rfl ?_
                    clear hm a; intro a hm
                    refine s_off hm rfl rfl rfl rfl ?_
                    clear hm a; intro a hm
                    refine s_pick_f hm rfl rfl rfl rfl ?_
                    clear hm a; intro a hm
                    refine s_move hm rfl rfl ?_
                    clear hm a; intro a hm
                    refine s_off hm rfl rfl rfl rfl ?_
                    clear hm a; intro a hm
                    refine s_off hm rfl rfl rfl rfl ?_
                    clear hm a; intro a hm
                    refine s_off hm rfl rfl rfl rfl ?_
                    clear hm a; intro a hm
                    refine s_off hm rfl rfl rfl rfl ?_
                    clear hm a; intro a hm
                    refine s_off hm rfl rfl rfl rfl ?_
                    clear hm a; intro a hm
                    refine s_pick_f hm rfl rfl rfl rfl ?_
                    clear hm a; intro a hm
                    refine s_move hm rfl rfl ?_
                    clear hm a; intro a hm
                    refine s_off hm rfl rfl rfl rfl ?_
                    clear hm a; intro a hm
                    refine s_off hm rfl rfl rfl rfl ?_
                    clear hm a; intro a hm
                    refine s_off hm rfl rfl rfl rfl ?_
                    clear hm a; intro a hm
                    refine s_off hm rfl rfl rfl rfl ?_
                    clear hm a; intro a hm
                    refine s_off hm rfl rfl rfl rfl ?_
                    clear hm a; intro a hm
                    refine s_pick_f hm rfl rfl rfl rfl ?_
                    clear hm a; intro a hm
                    refine s_move hm rfl rfl ?_
                    clear hm a; intro a hm
                    refine s_off hm rfl rfl rfl rfl ?_
                    clear hm a; intro a hm
                    refine s_off hm rfl rfl rfl rfl ?_
                    clear hm a; intro a hm
                    refine s_off hm rfl rfl rfl rfl ?_
                    clear hm a; intro a hm
                    refine s_off hm rfl rfl rfl rfl ?_
                    clear hm a; intro a hm
                    refine s_off hm rfl rfl rfl rfl ?_
                    clear hm a; intro a hm
                    refine s_pick_f hm rfl rfl rfl rfl ?_
                    clear hm a; intro a hm
                    refine s_move hm rfl rfl ?_
                    clear hm a; intro a hm
                    refine s_off hm rfl rfl rfl rfl ?_
                    clear hm a; intro a hm
                    refine s_off hm rfl rfl rfl rfl ?_
                    clear hm a; intro a hm
                    refine s_off hm rfl rfl rfl rfl ?_
                    clear hm a; intro a hm
                    refine s_off hm rfl rfl rfl rfl ?_
                    clear hm a; intro a hm
                    refine s_off hm rfl rfl rfl rfl ?_
                    clear hm a; intro a hm
                    refine s_pick_f hm rfl rfl rfl rfl ?_
                    clear hm a; intro a hm
                    refine s_move hm rfl rfl ?_
                    clear hm a; intro a hm
                    refine s_off hm rfl rfl rfl rfl ?_
                    clear hm a; intro a hm
                    refine s_off hm rfl rfl rfl rfl ?_
                    clear hm a; intro a hm
                    refine s_off hm rfl rfl rfl rfl ?_
                    clear hm a; intro a hm
                    refine s_off hm rfl rfl rfl rfl ?_
                    clear hm a; intro a hm
                    refine s_off hm rfl rfl rfl rfl ?_
                    clear hm a; intro a hm
                    refine s_pick_f hm rfl rfl rfl rfl ?_
                    clear hm a; intro a hm
                    refine s_move hm rfl rfl ?_
                    clear hm a; intro a hm
                    refine s_off hm rfl rfl rfl rfl ?_
                    clear hm a; intro a hm
                    refine s_off hm rfl rfl rfl rfl ?_
                    clear hm a; intro a hm
                    refine s_off hm rfl rfl rfl rfl ?_
                    clear hm a; intro a hm
                    refine s_off hm rfl rfl rfl rfl ?_
                    clear hm a; intro a hm
                    refine s_off hm rfl rfl rfl rfl ?_
                    clear hm a; intro a hm
                    refine s_pick_f hm rfl rfl rfl rfl ?_
                    clear hm a; intro a hm
                    refine s_assign hm rfl rfl ?_
                    clear hm a; intro a hm
                    refine wpList_nil ?_
                    replace hm : Fr 131 a [(4, .bool false)] := hm.keep [4]
                    refine x_then_n (hKJ_5 _ _ ?_)
                    refine wp_ret ?_
                    obtain rfl := Option.some.inj H
                    exact f_ret hm (rs := [.tmp 4]) rfl (.tmp rfl .nil) ⟨_, rfl, Mem.no, rfl, (Sep.sel hS [0] (by decide))⟩
                · rw [if_neg hc_13] at H
                  refine s_off hm rfl rfl rfl (beq_eq_false_iff_ne.2 hc_13) ?_
                  clear hm a; intro a hm
                  refine s_off hm rfl rfl rfl (beq_eq_false_iff_ne.2 hc_13) ?_
                  clear hm a; intro a hm
                  refine s_off hm rfl rfl rfl (beq_eq_false_iff_ne.2 hc_13) ?_
                  clear hm a; intro a hm
                  refine s_off hm rfl rfl rfl (beq_eq_false_iff_ne.2 hc_13) ?_
                  clear hm a; intro a hm
                  refine s_off hm rfl rfl rfl (beq_eq_false_iff_ne.2 hc_13) ?_
                  clear hm a; intro a hm
                  refine s_pick_f hm rfl rfl (beq_eq_false_iff_ne.2 hc_13) rfl ?_
                  clear hm a; intro a hm
                  refine s_move hm rfl rfl ?_
                  clear hm a; intro a hm
                  refine s_off hm rfl rfl rfl rfl ?_
                  clear hm a; intro a hm
                  refine s_off hm rfl rfl rfl rfl ?_
                  clear hm a; intro a hm
                  refine s_off hm rfl rfl rfl rfl ?_
                  clear hm a; intro a hm
                  refine s_off hm rfl rfl rfl rfl ?_
                  clear hm a; intro a hm
                  refine s_off hm rfl rfl rfl rfl ?_
                  clear hm a; intro a hm
                  refine s_pick_f hm rfl rfl rfl rfl ?_
                  clear hm a; intro a hm
                  refine s_move hm rfl rfl ?_
                  clear hm a; intro a hm
                  refine s_off hm rfl rfl rfl rfl ?_
                  clear hm a; intro a hm
                  refine s_off hm rfl rfl rfl rfl ?_
                  clear hm a; intro a hm
                  refine s_off hm rfl rfl rfl rfl ?_
                  clear hm a; intro a hm
                  refine s_off hm rfl rfl rfl rfl ?_
                  clear hm a; intro a hm
                  refine s_off hm rfl rfl rfl rfl ?_
                  clear hm a; intro a hm
                  refine s_pick_f hm rfl rfl rfl rfl ?_
                  clear hm a; intro a hm
                  refine s_move hm rfl rfl ?_
                  clear hm a; intro a hm
                  refine s_off hm rfl rfl rfl rfl ?_
                  clear hm a; intro a hm
                  refine s_off hm rfl rfl rfl rfl ?_
                  clear hm a; intro a hm
                  refine s_off hm rfl rfl rfl rfl ?_
                  clear hm a; intro a hm
                  refine s_off hm rfl rfl rfl rfl ?_
                  clear hm a; intro a hm
                  refine s_off hm rfl rfl rfl rfl ?_
                  clear hm a; intro a hm
                  refine s_off hm rfl rfl rfl rfl ?_
                  clear hm a; intro a hm
                  refine s_off hm rfl rfl rfl rfl ?_
                  clear hm a; intro a hm
                  refine s_pick_f hm rfl rfl rfl rfl ?_
                  clear hm a; intro a hm
                  refine s_move hm rfl rfl ?_
                  clear hm a; intro a hm
                  refine s_off hm rfl rfl rfl rfl ?_
                  clear hm a; intro a hm
                  refine s_off hm rfl rfl rfl rfl ?_
                  clear hm a; intro a hm
                  refine s_off hm rfl rfl rfl rfl ?_
                  clear hm a; intro a hm
                  refine s_off hm rfl rfl rfl rfl ?_
                  clear hm a; intro a hm
                  refine s_off hm rfl rfl rfl rfl ?_
                  clear hm a; intro a hm
                  refine s_pick_f hm rfl rfl rfl rfl ?_
                  clear hm a; intro a hm
                  refine s_move hm rfl rfl ?_
                  clear hm a; intro a hm
                  refine s_off hm rfl rfl rfl rfl ?_
                  clear hm a; intro a hm
                  refine s_off hm rfl rfl rfl rfl ?_
                  clear hm a; intro a hm
                  refine s_off hm rfl rfl rfl rfl ?_
                  clear hm a; intro a hm
                  refine s_off hm rfl rfl rfl rfl ?_
                  clear hm a; intro a hm
                  refine s_off hm rfl rfl rfl rfl ?_
                  clear hm a; intro a hm
                  refine s_pick_f hm rfl rfl rfl rfl ?_
                  clear hm a; intro a hm
                  refine s_move hm rfl rfl ?_
                  clear hm a; intro a hm
                  refine s_off hm rfl rfl rfl rfl ?_
                  clear hm a; intro a hm
                  refine s_off hm rfl rfl rfl rfl ?_
                  clear hm a; intro a hm
                  refine s_off hm rfl rfl rfl rfl ?_
                  clear hm a; intro a hm
                  refine s_off hm rfl rfl rfl rfl ?_
                  clear hm a; intro a hm
                  refine s_off hm rfl rfl rfl rfl ?_
                  clear hm a; intro a hm
                  refine s_pick_f hm rfl rfl rfl rfl ?_
                  clear hm a; intro a hm
                  refine s_move hm rfl rfl ?_
                  clear hm a; intro a hm
                  refine s_off hm rfl rfl rfl rfl ?_
                  clear hm a; intro a hm
                  refine s_off hm rfl rfl rfl rfl ?_
                  clear hm a; intro a hm
                  refine s_off hm rfl rfl rfl rfl ?_
                  clear hm a; intro a hm
                  refine s_off hm rfl rfl rfl rfl ?_
                  clear hm a; intro a hm
                  refine s_off hm rfl rfl rfl rfl ?_
                  clear hm a; intro a hm
                  refine s_pick_f hm rfl rfl rfl rfl ?_
                  clear hm a; intro a hm
                  refine s_move hm rfl rfl ?_
                  clear hm a; intro a hm
                  refine s_off hm rfl rfl rfl rfl ?_
                  clear hm a; intro a hm
                  refine s_off hm rfl rfl rfl rfl ?_
                  clear hm a; intro a hm
                  refine s_off hm rfl rfl rfl rfl ?_
                  clear hm a; intro a hm
                  refine s_off hm rfl rfl rfl rfl ?_
                  clear hm a; intro a hm
                  refine s_off hm rfl rfl rfl rfl ?_
                  clear hm a; intro a hm
                  refine s_pick_f hm rfl rfl rfl rfl ?_
                  clear hm a; intro a hm
                  refine s_move hm rfl rfl ?_
                  clear hm a; intro a hm
                  refine s_off hm rfl rfl rfl rfl ?_
                  clear hm a; intro a hm
                  refine s_off hm rfl rfl rfl rfl ?_
                  clear hm a; intro a hm
                  refine s_off hm rfl rfl rfl rfl ?_
                  clear hm a; intro a hm
                  refine s_off hm rfl rfl rfl rfl ?_
                  clear hm a; intro a hm
                  refine s_off hm rfl rfl rfl rfl ?_
                  clear hm a; intro a hm
                  refine s_pick_f hm rfl rfl rfl rfl ?_
                  clear hm a; intro a hm
                  refine s_assign hm rfl rfl ?_
                  clear hm a; intro a hm
                  refine wpList_nil ?_
                  replace hm : Fr 131 a [(4, .bool false)] := hm.keep [4]
                  refine x_then_n (hKJ_5 _ _ ?_)
                  refine wp_ret ?_
                  obtain rfl := Option.some.inj H
                  exact f_ret hm (rs := [.tmp 4]) rfl (.tmp rfl .nil) ⟨_, rfl, Mem.no, rfl, (Sep.sel hS [0] (by decide))⟩
              · rw [if_neg hc_12] at H
                refine s_off hm rfl rfl rfl (beq_eq_false_iff_ne.2 hc_12) ?_
                clear hm a; intro a hm
                refine s_off hm rfl rfl rfl (beq_eq_false_iff_ne.2 hc_12) ?_
                clear hm a; intro a hm
                refine s_off hm rfl rfl rfl (beq_eq_false_iff_ne.2 hc_12) ?_
                clear hm a; intro a hm
                refine s_off hm rfl rfl rfl (beq_eq_false_iff_ne.2 hc_12) ?_
                clear hm a; intro a hm
                refine s_off hm rfl rfl rfl (beq_eq_false_iff_ne.2 hc_12) ?_
                clear hm a; intro a hm
                refine s_pick_f hm rfl rfl (beq_eq_false_iff_ne.2 hc_12) rfl ?_
                clear hm a; intro a hm
                refine s_move hm rfl rfl ?_
                clear hm a; intro a hm
                refine s_off hm rfl rfl rfl rfl ?_
                clear hm a; intro a hm
                refine s_off hm rfl rfl rfl rfl ?_
                clear hm a; intro a hm
                refine s_off hm rfl rfl rfl rfl ?_
                clear hm a; intro a hm
                refine s_off hm rfl rfl rfl rfl ?_
                clear hm a; intro a hm
                refine s_off hm rfl rfl rfl rfl ?_
                clear hm a; intro a hm
                refine s_pick_f hm rfl rfl rfl rfl ?_
                clear hm a; intro a hm
                refine s_move hm rfl rfl ?_
                clear hm a; intro a hm
                refine s_off hm rfl rfl rfl rfl ?_
                clear hm a; intro a hm
                refine s_off hm rfl rfl rfl rfl ?_
                clear hm a; intro a hm
                refine s_off hm rfl rfl rfl rfl ?_
                clear hm a; intro a hm
                refine s_off hm rfl rfl rfl rfl ?_
                clear hm a; intro a hm
                refine s_off hm rfl rfl rfl rfl ?_
                clear hm a; intro a hm
                refine s_pick_f hm rfl rfl rfl rfl ?_
                clear hm a; intro a hm
                refine s_move hm rfl rfl ?_
                clear hm a; intro a hm
                refine s_off hm rfl rfl rfl rfl ?_
                clear hm a; intro a hm
                refine s_off hm rfl rfl rfl rfl ?_
                clear hm a; intro a hm
                refine s_off hm rfl rfl rfl rfl ?_
                clear hm a; intro a hm
                refine s_off hm rfl rfl rfl rfl ?_
                clear hm a; intro a hm
                refine s_off hm rfl rfl rfl rfl ?_
                clear hm a; intro a hm
                refine s_pick_f hm rfl rfl rfl rfl ?_
                clear hm a; intro a hm
                refine s_move hm rfl rfl ?_
                clear hm a; intro a hm
                refine s_off hm rfl rfl rfl rfl ?_
                clear hm a; intro a hm
                refine s_off hm rfl rfl rfl rfl ?_
                clear hm a; intro a hm
                refine s_off hm rfl rfl rfl rfl ?_
                clear hm a; intro a hm
                refine s_off hm rfl rfl rfl rfl ?_
                clear hm a; intro a hm
                refine s_off hm rfl rfl rfl rfl ?_
                clear hm a; intro a hm
                refine s_off hm rfl rfl rfl rfl ?_
                clear hm a; intro a hm
                refine s_off hm rfl rfl rfl rfl ?_
                clear hm a; intro a hm
                refine s_pick_f hm rfl rfl rfl rfl ?_
                clear hm a; intro a hm
                refine s_move hm rfl rfl ?_
                clear hm a; intro a hm
                refine s_off hm rfl rfl rfl rfl ?_
                clear hm a; intro a hm
                refine s_off hm rfl rfl rfl rfl ?_
                clear hm a; intro a hm
                refine s_off hm rfl rfl rfl rfl ?_
                clear hm a; intro a hm
                refine s_off hm rfl rfl rfl rfl ?_
                clear hm a; intro a hm
                refine s_off hm rfl rfl rfl rfl ?_
                clear hm a; intro a hm
                refine s_pick_f hm rfl rfl rfl rfl ?_
                clear hm a; intro a hm
                refine s_move hm rfl rfl ?_
                clear hm a; intro a hm
                refine s_off hm rfl rfl rfl rfl ?_
                clear hm a; intro a hm
                refine s_off hm rfl rfl rfl rfl ?_
                clear hm a; intro a hm
                refine s_off hm rfl rfl rfl rfl ?_
                clear hm a; intro a hm
                refine s_off hm rfl rfl rfl rfl ?_
                clear hm a; intro a hm
                refine s_off hm rfl rfl rfl rfl ?_
                clear hm a; intro a hm
                refine s_pick_f hm rfl rfl rfl rfl ?_
                clear hm a; intro a hm
                refine s_move hm rfl rfl ?_
                clear hm a; intro a hm
                refine s_off hm rfl rfl rfl rfl ?_
                clear hm a; intro a hm
                refine s_off hm rfl rfl rfl rfl ?_
                clear hm a; intro a hm
                refine s_off hm rfl rfl rfl rfl ?_
                clear hm a; intro a hm
                refine s_off hm rfl rfl rfl rfl ?_
                clear hm a; intro a hm
                refine s_off hm rfl rfl rfl rfl ?_
                clear hm a; intro a hm
                refine s_pick_f hm rfl rfl rfl rfl ?_
                clear hm a; intro a hm
                refine s_move hm rfl rfl ?_
                clear hm a; intro a hm
                refine s_off hm rfl rfl rfl rfl ?_
                clear hm a; intro a hm
                refine s_off hm rfl rfl rfl rfl ?_
                clear hm a; intro a hm
                refine s_off hm rfl rfl rfl rfl ?_
                clear hm a; intro a hm
                refine s_off hm rfl rfl rfl rfl ?_
                clear hm a; intro a hm
                refine s_off hm rfl rfl rfl rfl ?_
                clear hm a; intro a hm
                refine s_pick_f hm rfl rfl rfl rfl ?_
                clear hm a; intro a hm
                refine s_move hm rfl rfl ?_
                clear hm a; intro a hm
                refine s_off hm rfl rfl rfl rfl ?_
                clear hm a; intro a hm
                refine s_off hm rfl rfl rfl rfl ?_
                clear hm a; intro a hm
                refine s_off hm rfl rfl rfl rfl ?_
                clear hm a; intro a hm
                refine s_off hm rfl rfl rfl rfl ?_
                clear hm a; intro a hm
                refine s_off hm rfl rfl rfl rfl ?_
                clear hm a; intro a hm
                refine s_pick_f hm rfl rfl rfl rfl ?_
                clear hm a; intro a hm
                refine s_move hm rfl rfl ?_
                clear hm a; intro a hm
                refine s_off hm rfl rfl rfl rfl ?_
                clear hm a; intro a hm
                refine s_off hm rfl rfl rfl rfl ?_
                clear hm a; intro a hm
                refine s_off hm rfl rfl rfl rfl ?_
                clear hm a; intro a hm
                refine s_off hm rfl rfl rfl rfl ?_
                clear hm a; intro a hm
                refine s_off hm rfl rfl rfl rfl ?_
                clear hm a; intro a hm
                refine s_pick_f hm rfl rfl rfl rfl ?_
                clear hm a; intro a hm
                refine s_assign hm rfl rfl ?_
                clear hm a; intro a hm
                refine wpList_nil ?_
                replace hm : Fr 131 a [(4, .bool false)] := hm.keep [4]
                refine x_then_n (hKJ_5 _ _ ?_)
                refine wp_ret ?_
                obtain rfl := Option.some.inj H
                exact f_ret hm (rs := [.tmp 4]) rfl (.tmp rfl .nil) ⟨_, rfl, Mem.no, rfl, (Sep.sel hS [0] (by decide))⟩
            · rw [if_neg hc_11] at H
              refine s_off hm rfl rfl rfl (beq_eq_false_iff_ne.2 hc_11) ?_
              clear hm a; intro a hm
              refine s_off hm rfl rfl rfl (beq_eq_false_iff_ne.2 hc_11) ?_
              clear hm a; intro a hm
              refine s_off hm rfl rfl rfl (beq_eq_false_iff_ne.2 hc_11) ?_
              clear hm a; intro a hm
              refine s_off hm rfl rfl rfl (beq_eq_false_iff_ne.2 hc_11) ?_
              clear hm a; intro a hm
              refine s_off hm rfl rfl rfl (beq_eq_false_iff_ne.2 hc_11) ?_
              clear hm a; intro a hm
              refine s_pick_f hm rfl rfl (beq_eq_false_iff_ne.2 hc_11) rfl ?_
              clear hm a; intro a hm
              refine s_move hm rfl rfl ?_
              clear hm a; intro a hm
              refine s_off hm rfl rfl rfl rfl ?_
              clear hm a; intro a hm
              refine s_off hm rfl rfl rfl rfl ?_
              clear hm a; intro a hm
              refine s_off hm rfl rfl rfl rfl ?_
              clear hm a; intro a hm
              refine s_off hm rfl rfl rfl rfl ?_
              clear hm a; intro a hm
              refine s_off hm rfl rfl rfl rfl ?_
              clear hm a; intro a hm
              refine s_pick_f hm rfl rfl rfl rfl ?_
              clear hm a; intro a hm
              refine s_move hm rfl rfl ?_
              clear hm a; intro a hm
              refine s_off hm rfl rfl rfl rfl ?_
              clear hm a; intro a hm
              refine s_off hm rfl rfl rfl rfl ?_
              clear hm a; intro a hm
              refine s_off hm rfl rfl rfl rfl ?_
              clear hm a; intro a hm
              refine s_off hm rfl rfl rfl rfl ?_
              clear hm a; intro a hm
              refine s_off hm rfl rfl rfl rfl ?_
              clear hm a; intro a hm
              refine s_pick_f hm rfl rfl rfl rfl ?_
              clear hm a; intro a hm
              refine s_move hm rfl rfl ?_
              clear hm a; intro a hm
              refine s_off hm rfl rfl rfl rfl ?_
              clear hm a; intro a hm
              refine s_off hm rfl rfl rfl rfl ?_
              clear hm a; intro a hm
              refine s_off hm rfl rfl rfl rfl ?_
              clear hm a; intro a hm
              refine s_off hm rfl rfl rfl rfl ?_
              clear hm a; intro a hm
              refine s_off hm rfl rfl rfl rfl ?_
              clear hm a; intro a hm
              refine s_pick_f hm rfl rfl rfl rfl ?_
              clear hm a; intro a hm
              refine s_move hm rfl rfl ?_
              clear hm a; intro a hm
              refine s_off hm rfl rfl rfl rfl ?_
              clear hm a; intro a hm
              refine s_off hm rfl rfl rfl rfl ?_
              clear hm a; intro a hm
              refine s_off hm rfl rfl rfl rfl ?_
              clear hm a; intro a hm
              refine s_off hm rfl rfl rfl rfl ?_
              clear hm a; intro a hm
              refine s_off hm rfl rfl rfl rfl ?_
              clear hm a; intro a hm
              refine s_pick_f hm rfl rfl rfl rfl ?_
              clear hm a; intro a hm
              refine s_move hm rfl rfl ?_
              clear hm a; intro a hm
              refine s_off hm rfl rfl rfl rfl ?_
              clear hm a; intro a hm
              refine s_off hm rfl rfl rfl rfl ?_
              clear hm a; intro a hm
              refine s_off hm rfl rfl rfl rfl ?_
              clear hm a; intro a hm
              refine s_off hm rfl rfl rfl rfl ?_
              clear hm a; intro a hm
              refine s_off hm rfl rfl rfl rfl ?_
              clear hm a; intro a hm
              refine s_off hm rfl rfl rfl rfl ?_
              clear hm a; intro a hm
              refine s_off hm rfl rfl rfl rfl ?_
              clear hm a; intro a hm
              refine s_pick_f hm rfl rfl rfl rfl ?_
              clear hm a; intro a hm
              refine s_move hm rfl rfl ?_
              clear hm a; intro a hm
              refine s_off hm rfl rfl rfl rfl ?_
              clear hm a; intro a hm
              refine s_off hm rfl rfl rfl rfl ?_
              clear hm a; intro a hm
              refine s_off hm rfl rfl rfl rfl ?_
              clear hm a; intro a hm
              refine s_off hm rfl rfl rfl rfl ?_
              clear hm a; intro a hm
              refine s_off hm rfl rfl rfl rfl ?_
              clear hm a; intro a hm
              refine s_pick_f hm rfl rfl rfl rfl ?_
              clear hm a; intro a hm
              refine s_move hm rfl rfl ?_
              clear hm a; intro a hm
              refine s_off hm rfl rfl rfl rfl ?_
              clear hm a; intro a hm
              refine s_off hm rfl rfl rfl rfl ?_
              clear hm a; intro a hm
              refine s_off hm rfl rfl rfl rfl ?_
              clear hm a; intro a hm
              refine s_off hm rfl rfl rfl rfl ?_
              clear hm a; intro a hm
              refine s_off hm rfl rfl rfl rfl ?_
              clear hm a; intro a hm
              refine s_pick_f hm rfl rfl rfl rfl ?_
              clear hm a; intro a hm
              refine s_move hm rfl rfl ?_
              clear hm a; intro a hm
              refine s_off hm rfl rfl rfl rfl ?_
              clear hm a; intro a hm
              refine s_off hm rfl rfl rfl rfl ?_
              clear hm a; intro a hm
              refine s_off hm rfl rfl rfl rfl ?_
              clear hm a; intro a hm
              refine s_off hm rfl rfl rfl rfl ?_
              clear hm a; intro a hm
              refine s_off hm rfl rfl rfl rfl ?_
              clear hm a; intro a hm
              refine s_pick_f hm rfl rfl rfl rfl ?_
              clear hm a; intro a hm
              refine s_move hm rfl rfl ?_
              clear hm a; intro a hm
              refine s_off hm rfl rfl rfl rfl ?_
              clear hm a; intro a hm
              refine s_off hm rfl rfl rfl rfl ?_
              clear hm a; intro a hm
              refine s_off hm rfl rfl rfl rfl ?_
              clear hm a; intro a hm
              refine s_off hm rfl rfl rfl rfl ?_
              clear hm a; intro a hm
              refine s_off hm rfl rfl rfl rfl ?_
              clear hm a; intro a hm
              refine s_pick_f hm rfl rfl rfl rfl ?_
              clear hm a; intro a hm
              refine s_move hm rfl rfl ?_
              clear hm a; intro a hm
              refine s_off hm rfl rfl rfl rfl ?_
              clear hm a; intro a hm
              refine s_off hm rfl rfl rfl rfl ?_
              clear hm a; intro a hm
              refine s_off hm rfl rfl rfl rfl ?_
              clear hm a; intro a hm
              refine s_off hm rfl rfl rfl rfl ?_
              clear hm a; intro a hm
              refine s_off hm rfl rfl rfl rfl ?_
              clear hm a; intro a hm
              refine s_pick_f hm rfl rfl rfl rfl ?_
              clear hm a; intro a hm
              refine s_move hm rfl rfl ?_
              clear hm a; intro a hm
              refine s_off hm rfl rfl rfl rfl ?_
              clear hm a; intro a hm
              refine s_off hm rfl rfl rfl rfl ?_
              clear hm a; intro a hm
              refine s_off hm rfl rfl rfl rfl ?_
              clear hm a; intro a hm
              refine s_off hm rfl rfl rfl rfl ?_
              clear hm a; intro a hm
              refine s_off hm rfl rfl rfl rfl ?_
              clear hm a; intro a hm
              refine s_pick_f hm rfl rfl rfl rfl ?_
              clear hm a; intro a hm
              refine s_assign hm rfl rfl ?_
              clear hm a; intro a hm
              refine wpList_nil ?_
              replace hm : Fr 131 a [(4, .bool false)] := hm.keep [4]
              refine x_then_n (hKJ_5 _ _ ?_)
              refine wp_ret ?_
              obtain rfl := Option.some.inj H
              exact f_ret hm (rs := [.tmp 4]) rfl (.tmp rfl .nil) ⟨_, rfl, Mem.no, rfl, (Sep.sel hS [0] (by decide))⟩
          · rw [if_neg hc_10] at H
            refine s_off hm rfl rfl rfl (beq_eq_false_iff_ne.2 hc_10) ?_
            clear hm a; intro a hm
            refine s_off hm rfl rfl rfl (beq_eq_false_iff_ne.2 hc_10) ?_
            clear hm a; intro a hm
            refine s_off hm rfl rfl rfl (beq_eq_false_iff_ne.2 hc_10) ?_
            clear hm a; intro a hm
            refine s_off hm rfl rfl rfl (beq_eq_false_iff_ne.2 hc_10) ?_
            clear hm a; intro a hm
            refine s_off hm rfl rfl rfl (beq_eq_false_iff_ne.2 hc_10) ?_
            clear hm a; intro a hm
            refine s_pick_f hm rfl rfl (beq_eq_false_iff_ne.2 hc_10) rfl ?_
            clear hm a; intro a hm
            refine s_move hm rfl rfl ?_
            clear hm a; intro a hm
            refine s_off hm rfl rfl rfl rfl ?_
            clear hm a; intro a hm
            refine s_off hm rfl rfl rfl rfl ?_
            clear hm a; intro a hm
            refine s_off hm rfl rfl rfl rfl ?_
            clear hm a; intro a hm
            refine s_off hm rfl rfl rfl rfl ?_
            clear hm a; intro a hm
            refine s_off hm rfl rfl rfl rfl ?_
            clear hm a; intro a hm
            refine s_pick_f hm rfl rfl rfl rfl ?_
            clear hm a; intro a hm
            refine s_move hm rfl rfl ?_
            clear hm a; intro a hm
            refine s_off hm rfl rfl rfl rfl ?_
            clear hm a; intro a hm
            refine s_off hm rfl rfl rfl rfl ?_
            clear hm a; intro a hm
            refine s_off hm rfl rfl rfl rfl ?_
            clear hm a; intro a hm
            refine s_off hm rfl rfl rfl rfl ?_
            clear hm a; intro a hm
            refine s_off hm rfl rfl rfl rfl ?_
            clear hm a; intro a hm
            refine s_pick_f hm rfl rfl rfl rfl ?_
            clear hm a; intro a hm
            refine s_move hm rfl rfl ?_
            clear hm a; intro a hm
            refine s_off hm rfl rfl rfl rfl ?_
            clear hm a; intro a hm
            refine s_off hm rfl rfl rfl rfl ?_
            clear hm a; intro a hm
            refine s_off hm rfl rfl rfl rfl ?_
            clear hm a; intro a hm
            refine s_off hm rfl rfl rfl rfl ?_
            clear hm a; intro a hm
            refine s_off hm rfl rfl rfl rfl ?_
            clear hm a; intro a hm
            refine s_pick_f hm rfl rfl rfl rfl ?_
            clear hm a; intro a hm
            refine s_move hm rfl rfl ?_
            clear hm a; intro a hm
            refine s_off hm rfl rfl rfl rfl ?_
            clear hm a; intro a hm
            refine s_off hm rfl rfl rfl rfl ?_
            clear hm a; intro a hm
            refine s_off hm rfl rfl rfl rfl ?_
            clear hm a; intro a hm
            refine s_off hm rfl rfl rfl rfl ?_
            clear hm a; intro a hm
            refine s_off hm rfl rfl rfl rfl ?_
            clear hm a; intro a hm
            refine s_pick_f hm rfl rfl rfl rfl ?_
            clear hm a; intro a hm
            refine s_move hm rfl rfl ?_
            clear hm a; intro a hm
            refine s_off hm rfl rfl rfl rfl ?_
            clear hm a; intro a hm
            refine s_off hm rfl rfl rfl rfl ?_
            clear hm a; intro a hm
            refine s_off hm rfl rfl rfl rfl ?_
            clear hm a; intro a hm
            refine s_off hm rfl rfl rfl rfl ?_
            clear hm a; intro a hm
            refine s_off hm rfl rfl rfl rfl ?_
            clear hm a; intro a hm
            refine s_pick_f hm rfl rfl rfl rfl ?_
            clear hm a; intro a hm
            refine s_move hm rfl rfl ?_
            clear hm a; intro a hm
            refine s_off hm rfl rfl rfl rfl ?_
            clear hm a; intro a hm
            refine s_off hm rfl rfl rfl rfl ?_
            clear hm a; intro a hm
            refine s_off hm rfl rfl rfl rfl ?_
            clear hm a; intro a hm
            refine s_off hm rfl rfl rfl rfl ?_
            clear hm a; intro a hm
            refine s_off hm rfl rfl rfl rfl ?_
            clear hm a; intro a hm
            refine s_off hm rfl rfl rfl rfl ?_
            clear hm a; intro a hm
            refine s_off hm rfl rfl rfl rfl ?_
            clear hm a; intro a hm
            refine s_pick_f hm rfl rfl rfl rfl ?_
            clear hm a; intro a hm
            refine s_move hm rfl rfl ?_
            clear hm a; intro a hm
            refine s_off hm rfl rfl rfl rfl ?_
            clear hm a; intro a hm
            refine s_off hm rfl rfl rfl rfl ?_
            clear hm a; intro a hm
            refine s_off hm rfl rfl rfl rfl ?_
            clear hm a; intro a hm
            refine s_off hm rfl rfl rfl rfl ?_
            clear hm a; intro a hm
            refine s_off hm rfl rfl rfl rfl ?_
            clear hm a; intro a hm
            refine s_pick_f hm rfl rfl rfl rfl ?_
            clear hm a; intro a hm
            refine s_move hm rfl rfl ?_
            clear hm a; intro a hm
            refine s_off hm rfl rfl rfl rfl ?_
            clear hm a; intro a hm
            refine s_off hm rfl rfl rfl rfl ?_
            clear hm a; intro a hm
            refine s_off hm rfl rfl rfl rfl ?_
            clear hm a; intro a hm
            refine s_off hm rfl rfl rfl rfl ?_
            clear hm a; intro a hm
            refine s_off hm rfl rfl rfl rfl ?_
            clear hm a; intro a hm
            refine s_pick_f hm rfl rfl rfl rfl ?_
            clear hm a; intro a hm
            refine s_move hm rfl rfl ?_
            clear hm a; intro a hm
            refine s_off hm rfl rfl rfl rfl ?_
            clear hm a; intro a hm
            refine s_off hm rfl rfl rfl rfl ?_
            clear hm a; intro a hm
            refine s_off hm rfl rfl rfl rfl ?_
            clear hm a; intro a hm
            refine s_off hm rfl rfl rfl rfl ?_
            clear hm a; intro a hm
            refine s_off hm rfl rfl rfl rfl ?_
            clear hm a; intro a hm
            refine s_pick_f hm rfl rfl rfl rfl ?_
            clear hm a; intro a hm
            refine s_move hm rfl rfl ?_
            clear hm a; intro a hm
            refine s_off hm rfl rfl rfl rfl ?_
            clear hm a; intro a hm
            refine s_off hm rfl rfl rfl rfl ?_
            clear hm a; intro a hm
            refine s_off hm rfl rfl rfl rfl ?_
            clear hm a; intro a hm
            refine s_off hm rfl rfl rfl rfl ?_
            clear hm a; intro a hm
            refine s_off hm rfl rfl rfl rfl ?_
            clear hm a; intro a hm
            refine s_pick_f hm rfl rfl rfl rfl ?_
            clear hm a; intro a hm
            refine s_move hm rfl rfl ?_
            clear hm a; intro a hm
            refine s_off hm rfl rfl rfl rfl ?_
            clear hm a; intro a hm
            refine s_off hm rfl rfl rfl rfl ?_
            clear hm a; intro a hm
            refine s_off hm rfl rfl rfl rfl ?_
            clear hm a; intro a hm
            refine s_off hm rfl rfl rfl rfl ?_
            clear hm a; intro a hm
            refine s_off hm rfl rfl rfl rfl ?_
            clear hm a; intro a hm
            refine s_pick_f hm rfl rfl rfl rfl ?_
            clear hm a; intro a hm
            refine s_move hm rfl rfl ?_
            clear hm a; intro a hm
            refine s_off hm rfl rfl rfl rfl ?_
            clear hm a; intro a hm
            refine s_off hm rfl rfl rfl rfl ?_
            clear hm a; intro a hm
            refine s_off hm rfl rfl rfl rfl ?_
            clear hm a; intro a hm
            refine s_off hm rfl rfl rfl rfl ?_
            clear hm a; intro a hm
            refine s_off hm rfl rfl rfl rfl ?_
            clear hm a; intro a hm
            refine s_pick_f hm rfl rfl rfl rfl ?_
            clear hm a; intro a hm
            refine s_assign hm rfl rfl ?_
            clear hm a; intro a hm
            refine wpList_nil ?_
            replace hm : Fr 131 a [(4, .bool false)] := hm.keep [4]
            refine x_then_n (hKJ_5 _ _ ?_)
            refine wp_ret ?_
            obtain rfl := Option.some.inj H
            exact f_ret hm (rs := [.tmp 4]) rfl (.tmp rfl .nil) ⟨_, rfl, Mem.no, rfl, (Sep.sel hS [0] (by decide))⟩
        · rw [if_neg hc_9] at H
          refine s_off hm rfl rfl rfl (beq_eq_false_iff_ne.2 hc_9) ?_
          clear hm a; intro a hm
          refine s_off hm rfl rfl rfl (beq_eq_false_iff_ne.2 hc_9) ?_
          clear hm a; intro a hm
          refine s_off hm rfl rfl rfl (beq_eq_false_iff_ne.2 hc_9) ?_
          clear hm a; intro a hm
          refine s_off hm rfl rfl rfl (beq_eq_false_iff_ne.2 hc_9) ?_
          clear hm a; intro a hm
          refine s_off hm rfl rfl rfl (beq_eq_false_iff_ne.2 hc_9) ?_
          clear hm a; intro a hm
          refine s_pick_f hm rfl rfl (beq_eq_false_iff_ne.2 hc_9) rfl ?_
          clear hm a; intro a hm
          refine s_move hm rfl rfl ?_
          clear hm a; intro a hm
          refine s_off hm rfl rfl rfl rfl ?_
          clear hm a; intro a hm
          refine s_off hm rfl rfl rfl rfl ?_
          clear hm a; intro a hm
          refine s_off hm rfl rfl rfl rfl ?_
          clear hm a; intro a hm
          refine s_off hm rfl rfl rfl rfl ?_
          clear hm a; intro a hm
          refine s_off hm rfl rfl rfl rfl ?_
          clear hm a; intro a hm
          refine s_pick_f hm rfl rfl rfl rfl ?_
          clear hm a; intro a hm
          refine s_move hm rfl rfl ?_
          clear hm a; intro a hm
          refine s_off hm rfl rfl rfl rfl ?_
          clear hm a; intro a hm
          refine s_off hm rfl rfl rfl rfl ?_
          clear hm a; intro a hm
          refine s_off hm rfl rfl rfl rfl ?_
          clear hm a; intro a hm
          refine s_off hm rfl rfl rfl rfl ?_
          clear hm a; intro a hm
          refine s_off hm rfl rfl rfl rfl ?_
          clear hm a; intro a hm
          refine s_pick_f hm rfl rfl rfl rfl ?_
          clear hm a; intro a hm
          refine s_move hm rfl rfl ?_
          clear hm a; intro a hm
          refine s_off hm rfl rfl rfl rfl ?_
          clear hm a; intro a hm
          refine s_off hm rfl rfl rfl rfl ?_
          clear hm a; intro a hm
          refine s_off hm rfl rfl rfl rfl ?_
          clear hm a; intro a hm
          refine s_off hm rfl rfl rfl rfl ?_
          clear hm a; intro a hm
          refine s_off hm rfl rfl rfl rfl ?_
          clear hm a; intro a hm
          refine s_pick_f hm rfl rfl rfl rfl ?_
          clear hm a; intro a hm
          refine s_move hm rfl rfl ?_
          clear hm a; intro a hm
          refine s_off hm rfl rfl rfl rfl ?_
          clear hm a; intro a hm
          refine s_off hm rfl rfl rfl rfl ?_
          clear hm a; intro a hm
          refine s_off hm rfl rfl rfl rfl ?_
          clear hm a; intro a hm
          refine s_off hm rfl rfl rfl rfl ?_
          clear hm a; intro a hm
          refine s_off hm rfl rfl rfl rfl ?_
          clear hm a; intro a hm
          refine s_pick_f hm rfl rfl rfl rfl ?_
          clear hm a; intro a hm
          refine s_move hm rfl rfl ?_
          clear hm a; intro a hm
          refine s_off hm rfl rfl rfl rfl ?_
          clear hm a; intro a hm
          refine s_off hm rfl rfl rfl rfl ?_
          clear hm a; intro a hm
          refine s_off hm rfl rfl rfl rfl ?_
          clear hm a; intro a hm
          refine s_off hm rfl rfl rfl rfl ?_
          clear hm a; intro a hm
          refine s_off hm rfl rfl rfl rfl ?_
          clear hm a; intro a hm
          refine s_pick_f hm rfl rfl rfl rfl ?_
          clear hm a; intro a hm
          refine s_move hm rfl rfl ?_
          clear hm a; intro a hm
          refine s_off hm rfl rfl rfl rfl ?_
          clear hm a; intro a hm
          refine s_off hm rfl rfl rfl rfl ?_
          clear hm a; intro a hm
          refine s_off hm rfl rfl rfl rfl ?_
          clear hm a; intro a hm
          refine s_off hm rfl rfl rfl rfl ?_
          clear hm a; intro a hm
          refine s_off hm rfl rfl rfl rfl ?_
          clear hm a; intro a hm
          refine s_pick_f hm rfl rfl rfl rfl ?_
          clear hm a; intro a hm
          refine s_move hm rfl rfl ?_
          clear hm a; intro a hm
          refine s_off hm rfl rfl rfl rfl ?_
          clear hm a; intro a hm
          refine s_off hm rfl rfl rfl rfl ?_
          clear hm a; intro a hm
          refine s_off hm rfl rfl rfl rfl ?_
          clear hm a; intro a hm
          refine s_off hm rfl rfl rfl rfl ?_
          clear hm a; intro a hm
          refine s_off hm rfl rfl rfl rfl ?_
          clear hm a; intro a hm
          refine s_off hm rfl rfl rfl rfl ?_
          clear hm a; intro a hm
          refine s_off hm rfl rfl rfl rfl ?_
          clear hm a; intro a hm
          refine s_pick_f hm rfl rfl rfl rfl ?_
          clear hm a; intro a hm
          refine s_move hm rfl rfl ?_
          clear hm a; intro a hm
          refine s_off hm rfl rfl rfl rfl ?_
          clear hm a; intro a hm
          refine s_off hm rfl rfl rfl rfl ?_
          clear hm a; intro a hm
          refine s_off hm rfl rfl rfl rfl ?_
          clear hm a; intro a hm
          refine s_off hm rfl rfl rfl rfl ?_
          clear hm a; intro a hm
          refine s_off hm rfl rfl rfl rfl ?_
          clear hm a; intro a hm
          refine s_pick_f hm rfl rfl rfl rfl ?_
          clear hm a; intro a hm
          refine s_move hm rfl rfl ?_
          clear hm a; intro a hm
          refine s_off hm rfl rfl rfl rfl ?_
          clear hm a; intro a hm
          refine s_off hm rfl rfl rfl rfl ?_
          clear hm a; intro a hm
          refine s_off hm rfl rfl rfl rfl ?_
          clear hm a; intro a hm
          refine s_off hm rfl rfl rfl rfl ?_
          clear hm a; intro a hm
          refine s_off hm rfl rfl rfl rfl ?_
          clear hm a; intro a hm
          refine s_pick_f hm rfl rfl rfl rfl ?_
          clear hm a; intro a hm
          refine s_move hm rfl rfl ?_
          clear hm a; intro a hm
          refine s_off hm rfl rfl rfl rfl ?_
          clear hm a; intro a hm
          refine s_off hm rfl rfl rfl rfl ?_
          clear hm a; intro a hm
          refine s_off hm rfl rfl rfl rfl ?_
          clear hm a; intro a hm
          refine s_off hm rfl rfl rfl rfl ?_
          clear hm a; intro a hm
          refine s_off hm rfl rfl rfl rfl ?_
          clear hm a; intro a hm
          refine s_pick_f hm rfl rfl rfl rfl ?_
          clear hm a; intro a hm
          refine s_move hm rfl rfl ?_
          clear hm a; intro a hm
          refine s_off hm rfl rfl rfl rfl ?_
          clear hm a; intro a hm
          refine s_off hm rfl rfl rfl rfl ?_
          clear hm a; intro a hm
          refine s_off hm rfl rfl rfl rfl ?_
          clear hm a; intro a hm
          refine s_off hm rfl rfl rfl rfl ?_
          clear hm a; intro a hm
          refine s_off hm rfl rfl rfl rfl ?_
          clear hm a; intro a hm
          refine s_pick_f hm rfl rfl rfl rfl ?_
          clear hm a; intro a hm
          refine s_move hm rfl rfl ?_
          clear hm a; intro a hm
          refine s_off hm rfl rfl rfl rfl ?_
          clear hm a; intro a hm
          refine s_off hm rfl rfl rfl rfl ?_
          clear hm a; intro a hm
          refine s_off hm rfl rfl rfl rfl ?_
          clear hm a; intro a hm
          refine s_off hm rfl rfl rfl rfl ?_
          clear hm a; intro a hm
          refine s_off hm rfl rfl rfl rfl ?_
          clear hm a; intro a hm
          refine s_pick_f hm rfl rfl rfl rfl ?_
          clear hm a; intro a hm
          refine s_move hm rfl rfl ?_
          clear hm a; intro a hm
          refine s_off hm rfl rfl rfl rfl ?_
          clear hm a; intro a hm
          refine s_off hm rfl rfl rfl rfl ?_
          clear hm a; intro a hm
          refine s_off hm rfl rfl rfl rfl ?_
          clear hm a; intro a hm
          refine s_off hm rfl rfl rfl rfl ?_
          clear hm a; intro a hm
          refine s_off hm rfl rfl rfl rfl ?_
          clear hm a; intro a hm
          refine s_pick_f hm rfl rfl rfl rfl ?_
          clear hm a; intro a hm
          refine s_assign hm rfl rfl ?_
          clear hm a; intro a hm
          refine wpList_nil ?_
          replace hm : Fr 131 a [(4, .bool false)] := hm.keep [4]
          refine x_then_n (hKJ_5 _ _ ?_)
          refine wp_ret ?_
          obtain rfl := Option.some.inj H
          exact f_ret hm (rs := [.tmp 4]) rfl (.tmp rfl .nil) ⟨_, rfl, Mem.no, rfl, (Sep.sel hS [0] (by decide))⟩
      · rw [if_neg hc_8] at H
        refine s_off hm rfl rfl rfl (beq_eq_false_iff_ne.2 hc_8) ?_
        clear hm a; intro a hm
        refine s_off hm rfl rfl rfl (beq_eq_false_iff_ne.2 hc_8) ?_
        clear hm a; intro a hm
        refine s_off hm rfl rfl rfl (beq_eq_false_iff_ne.2 hc_8) ?_
        clear hm a; intro a hm
        refine s_off hm rfl rfl rfl (beq_eq_false_iff_ne.2 hc_8) ?_
        clear hm a; intro a hm
        refine s_off hm rfl rfl rfl (beq_eq_false_iff_ne.2 hc_8) ?_
        clear hm a; intro a hm
        refine s_pick_f hm rfl rfl (beq_eq_false_iff_ne.2 hc_8) rfl ?_
        clear hm a; intro a hm
        refine s_move hm rfl rfl ?_
        clear hm a; intro a hm
        refine s_off hm rfl rfl rfl rfl ?_
        clear hm a; intro a hm
        refine s_off hm rfl rfl rfl rfl ?_
        clear hm a; intro a hm
        refine s_off hm rfl rfl rfl rfl ?_
        clear hm a; intro a hm
        refine s_off hm rfl rfl rfl rfl ?_
        clear hm a; intro a hm
        refine s_off hm rfl rfl rfl rfl ?_
        clear hm a; intro a hm
        refine s_pick_f hm rfl rfl rfl rfl ?_
        clear hm a; intro a hm
        refine s_move hm rfl rfl ?_
        clear hm a; intro a hm
        refine s_off hm rfl rfl rfl rfl ?_
        clear hm a; intro a hm
        refine s_off hm rfl rfl rfl rfl ?_
        clear hm a; intro a hm
        refine s_off hm rfl rfl rfl rfl ?_
        clear hm a; intro a hm
        refine s_off hm rfl rfl rfl rfl ?_
        clear hm a; intro a hm
        refine s_off hm rfl rfl rfl rfl ?_
        clear hm a; intro a hm
        refine s_pick_f hm rfl rfl rfl rfl ?_
        clear hm a; intro a hm
        refine s_move hm rfl rfl ?_
        clear hm a; intro a hm
        refine s_off hm rfl rfl rfl rfl ?_
        clear hm a; intro a hm
        refine s_off hm rfl rfl rfl rfl ?_
        clear hm a; intro a hm
        refine s_off hm rfl rfl rfl rfl ?_
        clear hm a; intro a hm
        refine s_off hm rfl rfl rfl rfl ?_
        clear hm a; intro a hm
        refine s_off hm rfl rfl rfl rfl ?_
        clear hm a; intro a hm
        refine s_pick_f hm rfl rfl rfl rfl ?_
        clear hm a; intro a hm
        refine s_move hm rfl rfl ?_
        clear hm a; intro a hm
        refine s_off hm rfl rfl rfl rfl ?_
        clear hm a; intro a hm
        refine s_off hm rfl rfl rfl rfl ?_
        clear hm a; intro a hm
        refine s_off hm rfl rfl rfl rfl ?_
        clear hm a; intro a hm
        refine s_off hm rfl rfl rfl rfl ?_
        clear hm a; intro a hm
        refine s_off hm rfl rfl rfl rfl ?_
        clear hm a; intro a hm
        refine s_pick_f hm rfl rfl rfl rfl ?_
        clear hm a; intro a hm
        refine s_move hm rfl rfl ?_
        clear hm a; intro a hm
        refine s_off hm rfl rfl rfl rfl ?_
        clear hm a; intro a hm
        refine s_off hm rfl rfl rfl rfl ?_
        clear hm a; intro a hm
        refine s_off hm rfl rfl rfl rfl ?_
        clear hm a; intro a hm
        refine s_off hm rfl rfl rfl rfl ?_
        clear hm a; intro a hm
        refine s_off hm rfl rfl rfl rfl ?_
        clear hm a; intro a hm
        refine s_pick_f hm rfl rfl rfl rfl ?_
        clear hm a; intro a hm
        refine s_move hm rfl rfl ?_
        clear hm a; intro a hm
        refine s_off hm rfl rfl rfl rfl ?_
        clear hm a; intro a hm
        refine s_off hm rfl rfl rfl rfl ?_
        clear hm a; intro a hm
        refine s_off hm rfl rfl rfl rfl ?_
        clear hm a; intro a hm
        refine s_off hm rfl rfl rfl rfl ?_
        clear hm a; intro a hm
        refine s_off hm rfl rfl rfl rfl ?_
        clear hm a; intro a hm
        refine s_pick_f hm rfl rfl rfl rfl ?_
        clear hm a; intro a hm
        refine s_move hm rfl rfl ?_
        clear hm a; intro a hm
        refine s_off hm rfl rfl rfl rfl ?_
        clear hm a; intro a hm
        refine s_off hm rfl rfl rfl rfl ?_
        clear hm a; intro a hm
        refine s_off hm rfl rfl rfl rfl ?_
        clear hm a; intro a hm
        refine s_off hm rfl rfl rfl rfl ?_
        clear hm a; intro a hm
        refine s_off hm rfl rfl rfl rfl ?_
        clear hm a; intro a hm
        refine s_pick_f hm rfl rfl rfl rfl ?_
        clear hm a; intro a hm
        refine s_move hm rfl rfl ?_
        clear hm a; intro a hm
        refine s_off hm rfl rfl rfl rfl ?_
        clear hm a; intro a hm
        refine s_off hm rfl rfl rfl rfl ?_
        clear hm a; intro a hm
        refine s_off hm rfl rfl rfl rfl ?_
        clear hm a; intro a hm
        refine s_off hm rfl rfl rfl rfl ?_
        clear hm a; intro a hm
        refine s_off hm rfl rfl rfl rfl ?_
        clear hm a; intro a hm
        refine s_off hm rfl rfl rfl rfl ?_
        clear hm a; intro a hm
        refine s_off hm rfl rfl rfl rfl ?_
        clear hm a; intro a hm
        refine s_pick_f hm rfl rfl rfl rfl ?_
        clear hm a; intro a hm
        refine s_move hm rfl rfl ?_
        clear hm a; intro a hm
        refine s_off hm rfl rfl rfl rfl ?_
        clear hm a; intro a hm
        refine s_off hm rfl rfl rfl rfl ?_
        clear hm a; intro a hm
        refine s_off hm rfl rfl rfl rfl ?_
        clear hm a; intro a hm
        refine s_off hm rfl rfl rfl rfl ?_
        clear hm a; intro a hm
        refine s_off hm rfl rfl rfl rfl ?_
        clear hm a; intro a hm
        refine s_pick_f hm rfl rfl rfl rfl ?_
        clear hm a; intro a hm
        refine s_move hm rfl rfl ?_
        clear hm a; intro a hm
        refine s_off hm rfl rfl rfl rfl ?_
        clear hm a; intro a hm
        refine s_off hm rfl rfl rfl rfl ?_
        clear hm a; intro a hm
        refine s_off hm rfl rfl rfl rfl ?_
        clear hm a; intro a hm
        refine s_off hm rfl rfl rfl rfl ?_
        clear hm a; intro a hm
        refine s_off hm rfl rfl rfl rfl ?_
        clear hm a; intro a hm
        refine s_pick_f hm rfl rfl rfl rfl ?_
        clear hm a; intro a hm
        refine s_move hm rfl rfl ?_
        clear hm a; intro a hm
        refine s_off hm rfl rfl rfl rfl ?_
        clear hm a; intro a hm
        refine s_off hm rfl rfl rfl rfl ?_
        clear hm a; intro a hm
        refine s_off hm rfl rfl rfl rfl ?_
        clear hm a; intro a hm
        refine s_off hm rfl rfl rfl rfl ?_
        clear hm a; intro a hm
        refine s_off hm rfl rfl rfl rfl ?_
        clear hm a; intro a hm
        refine s_pick_f hm rfl rfl rfl rfl ?_
        clear hm a; intro a hm
        refine s_move hm rfl rfl ?_
        clear hm a; intro a hm
        refine s_off hm rfl rfl rfl rfl ?_
        clear hm a; intro a hm
        refine s_off hm rfl rfl rfl rfl ?_
        clear hm a; intro a hm
        refine s_off hm rfl rfl rfl rfl ?_
        clear hm a; intro a hm
        refine s_off hm rfl rfl rfl rfl ?_
        clear hm a; intro a hm
        refine s_off hm rfl rfl rfl rfl ?_
        clear hm a; intro a hm
        refine s_pick_f hm rfl rfl rfl rfl ?_
        clear hm a; intro a hm
        refine s_move hm rfl rfl ?_
        clear hm a; intro a hm
        refine s_off hm rfl rfl rfl rfl ?_
        clear hm a; intro a hm
        refine s_off hm rfl rfl rfl rfl ?_
        clear hm a; intro a hm
        refine s_off hm rfl rfl rfl rfl ?_
        clear hm a; intro a hm
        refine s_off hm rfl rfl rfl rfl ?_
        clear hm a; intro a hm
        refine s_off hm rfl rfl rfl rfl ?_
        clear hm a; intro a hm
        refine s_pick_f hm rfl rfl rfl rfl ?_
        clear hm a; intro a hm
        refine s_move hm rfl rfl ?_
        clear hm a; intro a hm
        refine s_off hm rfl rfl rfl rfl ?_
        clear hm a; intro a hm
        refine s_off hm rfl rfl rfl rfl ?_
        clear hm a; intro a hm
        refine s_off hm rfl rfl rfl rfl ?_
        clear hm a; intro a hm
        refine s_off hm rfl rfl rfl rfl ?_
        clear hm a; intro a hm
        refine s_off hm rfl rfl rfl rfl ?_
        clear hm a; intro a hm
        refine s_pick_f hm rfl rfl rfl rfl ?_
        clear hm a; intro a hm
        refine s_assign hm rfl rfl ?_
        clear hm a; intro a hm
        refine wpList_nil ?_
        replace hm : Fr 131 a [(4, .bool false)] := hm.keep [4]
        refine x_then_n (hKJ_5 _ _ ?_)
        refine wp_ret ?_
        obtain rfl := Option.some.inj H
        exact f_ret hm (rs := [.tmp 4]) rfl (.tmp rfl .nil) ⟨_, rfl, Mem.no, rfl, (Sep.sel hS [0] (by decide))⟩
    · rw [if_neg hc_7] at H
      refine s_off hm rfl rfl rfl (beq_eq_false_iff_ne.2 hc_7) ?_
      clear hm a; intro a hm
      refine s_off hm rfl rfl rfl (beq_eq_false_iff_ne.2 hc_7) ?_
      clear hm a; intro a hm
      refine s_off hm rfl rfl rfl (beq_eq_false_iff_ne.2 hc_7) ?_
      clear hm a; intro a hm
      refine s_off hm rfl rfl rfl (beq_eq_false_iff_ne.2 hc_7) ?_
      clear hm a; intro a hm
      refine s_off hm rfl rfl rfl (beq_eq_false_iff_ne.2 hc_7) ?_
      clear hm a; intro a hm
      refine s_pick_f hm rfl rfl (beq_eq_false_iff_ne.2 hc_7) rfl ?_
      clear hm a; intro a hm
      refine s_move hm rfl rfl ?_
      clear hm a; intro a hm
      refine s_off hm rfl rfl rfl rfl ?_
      clear hm a; intro a hm
      refine s_off hm rfl rfl rfl rfl ?_
      clear hm a; intro a hm
      refine s_off hm rfl rfl rfl rfl ?_
      clear hm a; intro a hm
      refine s_off hm rfl rfl rfl rfl ?_
      clear hm a; intro a hm
      refine s_off hm rfl rfl rfl rfl ?_
      clear hm a; intro a hm
      refine s_pick_f hm rfl rfl rfl rfl ?_
      clear hm a; intro a hm
      refine s_move hm rfl rfl ?_
      clear hm a; intro a hm
      refine s_off hm rfl rfl rfl rfl ?_
      clear hm a; intro a hm
      refine s_off hm rfl rfl rfl rfl ?_
      clear hm a; intro a hm
      refine s_off hm rfl rfl rfl rfl ?_
      clear hm a; intro a hm
      refine s_off hm rfl rfl rfl rfl ?_
      clear hm a; intro a hm
      refine s_off hm rfl rfl rfl rfl ?_
      clear hm a; intro a hm
      refine s_pick_f hm rfl rfl rfl rfl ?_
      clear hm a; intro a hm
      refine s_move hm rfl rfl ?_
      clear hm a; intro a hm
      refine s_off hm rfl rfl rfl rfl ?_
      clear hm a; intro a hm
      refine s_off hm rfl rfl rfl rfl ?_
      clear hm a; intro a hm
      refine s_off hm rfl rfl rfl rfl ?_
      clear hm a; intro a hm
      refine s_off hm rfl rfl rfl rfl ?_
      clear hm a; intro a hm
      refine s_off hm rfl rfl rfl rfl ?_
      clear hm a; intro a hm
      refine s_pick_f hm rfl rfl rfl rfl ?_
      clear hm a; intro a hm
      refine s_move hm rfl rfl ?_
      clear hm a; intro a hm
      refine s_off hm rfl rfl rfl rfl ?_
      clear hm a; intro a hm
      refine s_off hm rfl rfl rfl rfl ?_
      clear hm a; intro a hm
      refine s_off hm rfl rfl rfl rfl ?_
      clear hm a; intro a hm
      refine s_off hm rfl rfl rfl rfl ?_
      clear hm a; intro a hm
      refine s_off hm rfl rfl rfl rfl ?_
      clear hm a; intro a hm
      refine s_pick_f hm rfl rfl rfl rfl ?_
      clear hm a; intro a hm
      refine s_move hm rfl rfl ?_
      clear hm a; intro a hm
      refine s_off hm rfl rfl rfl rfl ?_
      clear hm a; intro a hm
      refine s_off hm rfl rfl rfl rfl ?_
      clear hm a; intro a hm
      refine s_off hm rfl rfl rfl rfl ?_
      clear hm a; intro a hm
      refine s_off hm rfl rfl rfl rfl ?_
      clear hm a; intro a hm
      refine s_off hm rfl rfl rfl rfl ?_
      clear hm a; intro a hm
      refine s_pick_f hm rfl rfl rfl rfl ?_
      clear hm a; intro a hm
      refine s_move hm rfl rfl ?_
      clear hm a; intro a hm
      refine s_off hm rfl rfl rfl rfl ?_
      clear hm a; intro a hm
      refine s_off hm rfl rfl rfl rfl ?_
      clear hm a; intro a hm
      refine s_off hm rfl rfl rfl rfl ?_
      clear hm a; intro a hm
      refine s_off hm rfl rfl rfl rfl ?_
      clear hm a; intro a hm
      refine s_off hm rfl rfl rfl rfl ?_
      clear hm a; intro a hm
      refine s_pick_f hm rfl rfl rfl rfl ?_
      clear hm a; intro a hm
      refine s_move hm rfl rfl ?_
      clear hm a; intro a hm
      refine s_off hm rfl rfl rfl rfl ?_
      clear hm a; intro a hm
      refine s_off hm rfl rfl rfl rfl ?_
      clear hm a; intro a hm
      refine s_off hm rfl rfl rfl rfl ?_
      clear hm a; intro a hm
      refine s_off hm rfl rfl rfl rfl ?_
      clear hm a; intro a hm
      refine s_off hm rfl rfl rfl rfl ?_
      clear hm a; intro a hm
      refine s_pick_f hm rfl rfl rfl rfl ?_
      clear hm a; intro a hm
      refine s_move hm rfl rfl ?_
      clear hm a; intro a hm
      refine s_off hm rfl rfl rfl rfl ?_
      clear hm a; intro a hm
      refine s_off hm rfl rfl rfl rfl ?_
      clear hm a; intro a hm
      refine s_off hm rfl rfl rfl rfl ?_
      clear hm a; intro a hm
      refine s_off hm rfl rfl rfl rfl ?_
      clear hm a; intro a hm
      refine s_off hm rfl rfl rfl rfl ?_
      clear hm a; intro a hm
      refine s_pick_f hm rfl rfl rfl rfl ?_
      clear hm a; intro a hm
      refine s_move hm rfl rfl ?_
      clear hm a; intro a hm
      refine s_off hm rfl rfl rfl rfl ?_
      clear hm a; intro a hm
      refine s_off hm rfl rfl rfl rfl ?_
      clear hm a; intro a hm
      refine s_off hm rfl rfl rfl rfl ?_
      clear hm a; intro a hm
      refine s_off hm rfl rfl rfl rfl ?_
      clear hm a; intro a hm
      refine s_off hm rfl rfl rfl rfl ?_
      clear hm a; intro a hm
      refine s_off hm rfl rfl rfl rfl ?_
      clear hm a; intro a hm
      refine s_off hm rfl rfl rfl rfl ?_
      clear hm a; intro a hm
      refine s_pick_f hm rfl rfl rfl rfl ?_
      clear hm a; intro a hm
      refine s_move hm rfl rfl ?_
      clear hm a; intro a hm
      refine s_off hm rfl rfl rfl rfl ?_
      clear hm a; intro a hm
      refine s_off hm rfl rfl rfl rfl ?_
      clear hm a; intro a hm
      refine s_off hm rfl rfl rfl rfl ?_
      clear hm a; intro a hm
      refine s_off hm rfl rfl rfl rfl ?_
      clear hm a; intro a hm
      refine s_off hm rfl rfl rfl rfl ?_
      clear hm a; intro a hm
      refine s_pick_f hm rfl rfl rfl rfl ?_
      clear hm a; intro a hm
      refine s_move hm rfl rfl ?_
      clear hm a; intro a hm
      refine s_off hm rfl rfl rfl rfl ?_
      clear hm a; intro a hm
      refine s_off hm rfl rfl rfl rfl ?_
      clear hm a; intro a hm
      refine s_off hm rfl rfl rfl rfl ?_
      clear hm a; intro a hm
      refine s_off hm rfl rfl rfl rfl ?_
      clear hm a; intro a hm
      refine s_off hm rfl rfl rfl rfl ?_
      clear hm a; intro a hm
      refine s_pick_f hm rfl rfl rfl rfl ?_
      clear hm a; intro a hm
      refine s_move hm rfl rfl ?_
      clear hm a; intro a hm
      refine s_off hm rfl rfl rfl rfl ?_
      clear hm a; intro a hm
      refine s_off hm rfl rfl rfl rfl ?_
      clear hm a; intro a hm
      refine s_off hm rfl rfl rfl rfl ?_
      clear hm a; intro a hm
      refine s_off hm rfl rfl rfl rfl ?_
      clear hm a; intro a hm
      refine s_off hm rfl rfl rfl rfl ?_
      clear hm a; intro a hm
      refine s_pick_f hm rfl rfl rfl rfl ?_
      clear hm a; intro a hm
      refine s_move hm rfl rfl ?_
      clear hm a; intro a hm
      refine s_off hm rfl rfl rfl rfl ?_
      clear hm a; intro a hm
      refine s_off hm rfl rfl rfl rfl ?_
      clear hm a; intro a hm
      refine s_off hm rfl rfl rfl rfl ?_
      clear hm a; intro a hm
      refine s_off hm rfl rfl rfl rfl ?_
      clear hm a; intro a hm
      refine s_off hm rfl rfl rfl rfl ?_
      clear hm a; intro a hm
      refine s_pick_f hm rfl rfl rfl rfl ?_
      clear hm a; intro a hm
      refine s_move hm rfl rfl ?_
      clear hm a; intro a hm
      refine s_off hm rfl rfl rfl rfl ?_
      clear hm a; intro a hm
      refine s_off hm rfl rfl rfl rfl ?_
      clear hm a; intro a hm
      refine s_off hm rfl rfl rfl rfl ?_
      clear hm a; intro a hm
      refine s_off hm rfl rfl rfl rfl ?_
      clear hm a; intro a hm
      refine s_off hm rfl rfl rfl rfl ?_
      clear hm a; intro a hm
      refine s_pick_f hm rfl rfl rfl rfl ?_
      clear hm a; intro a hm
      refine s_move hm rfl rfl ?_
      clear hm a; intro a hm
      refine s_off hm rfl rfl rfl rfl ?_
      clear hm a; intro a hm
      refine s_off hm rfl rfl rfl rfl ?_
      clear hm a; intro a hm
      refine s_off hm rfl rfl rfl rfl ?_
      clear hm a; intro a hm
      refine s_off hm rfl rfl rfl rfl ?_
      clear hm a; intro a hm
      refine s_off hm rfl rfl rfl rfl ?_
      clear hm a; intro a hm
      refine s_pick_f hm rfl rfl rfl rfl ?_
      clear hm a; intro a hm
      refine s_assign hm rfl rfl ?_
      clear hm a; intro a hm
      refine wpList_nil ?_
      replace hm : Fr 131 a [(4, .bool false)] := hm.keep [4]
      refine x_then_n (hKJ_5 _ _ ?_)
      refine wp_ret ?_
      obtain rfl := Option.some.inj H
      exact f_ret hm (rs := [.tmp 4]) rfl (.tmp rfl .nil) ⟨_, rfl, Mem.no, rfl, (Sep.sel hS [0] (by decide))⟩
  · rw [if_neg hc_6] at H
    refine s_off hm rfl rfl rfl (beq_eq_false_iff_ne.2 hc_6) ?_
    clear hm a; intro a hm
    refine s_off hm rfl rfl rfl (beq_eq_false_iff_ne.2 hc_6) ?_
    clear hm a; intro a hm
    refine s_off hm rfl rfl rfl (beq_eq_false_iff_ne.2 hc_6) ?_
    clear hm a; intro a hm
    refine s_off hm rfl rfl rfl (beq_eq_false_iff_ne.2 hc_6) ?_
    clear hm a; intro a hm
    refine s_off hm rfl rfl rfl (beq_eq_false_iff_ne.2 hc_6) ?_
    clear hm a; intro a hm
    refine s_pick_f hm rfl rfl (beq_eq_false_iff_ne.2 hc_6) rfl ?_
    clear hm a; intro a hm
    refine s_move hm rfl rfl ?_
    clear hm a; intro a hm
    refine s_off hm rfl rfl rfl rfl ?_
    clear hm a; intro a hm
    refine s_off hm rfl rfl rfl rfl ?_
    clear hm a; intro a hm
    refine s_off hm rfl rfl rfl rfl ?_
    clear hm a; intro a hm
    refine s_off hm rfl rfl rfl rfl ?_
    clear hm a; intro a hm
    refine s_off hm rfl rfl rfl rfl ?_
    clear hm a; intro a hm
    refine s_pick_f hm rfl rfl rfl rfl ?_
    clear hm a; intro a hm
    refine s_move hm rfl rfl ?_
    clear hm a; intro a hm
    refine s_off hm rfl rfl rfl rfl ?_
    clear hm a; intro a hm
    refine s_off hm rfl rfl rfl rfl ?_
    clear hm a; intro a hm
    refine s_off hm rfl rfl rfl rfl ?_
    clear hm a; intro a hm
    refine s_off hm rfl rfl rfl rfl ?_
    clear hm a; intro a hm
    refine s_off hm rfl rfl rfl rfl ?_
    clear hm a; intro a hm
    refine s_pick_f hm rfl rfl rfl rfl ?_
    clear hm a; intro a hm
    refine s_move hm rfl rfl ?_
    clear hm a; intro a hm
    refine s_off hm rfl rfl rfl rfl ?_
    clear hm a; intro a hm
    refine s_off hm rfl rfl rfl rfl ?_
    clear hm a; intro a hm
    refine s_off hm rfl rfl rfl rfl ?_
    clear hm a; intro a hm
    refine s_off hm rfl rfl rfl rfl ?_
    clear hm a; intro a hm
    refine s_off hm rfl rfl rfl rfl ?_
    clear hm a; intro a hm
    refine s_pick_f hm rfl rfl rfl rfl ?_
    clear hm a; intro a hm
    refine s_move hm rfl rfl ?_
    clear hm a; intro a hm
    refine s_off hm rfl rfl rfl rfl ?_
    clear hm a; intro a hm
    refine s_off hm rfl rfl rfl rfl ?_
    clear hm a; intro a hm
    refine s_off hm rfl rfl rfl rfl ?_
    clear hm a; intro a hm
    refine s_off hm rfl rfl rfl rfl ?_
    clear hm a; intro a hm
    refine s_off hm rfl rfl rfl rfl ?_
    clear hm a; intro a hm
    refine s_pick_f hm rfl rfl rfl rfl ?_
    clear hm a; intro a hm
    refine s_move hm rfl rfl ?_
    clear hm a; intro a hm
    refine s_off hm rfl rfl rfl rfl ?_
    clear hm a; intro a hm
    refine s_off hm rfl rfl rfl rfl ?_
    clear hm a; intro a hm
    refine s_off hm rfl rfl rfl rfl ?_
    clear hm a; intro a hm
    refine s_off hm rfl rfl rfl rfl ?_
    clear hm a; intro a hm
    refine s_off hm rfl rfl rfl rfl ?_
    clear hm a; intro a hm
    refine s_pick_f hm rfl rfl rfl rfl ?_
    clear hm a; intro a hm
    refine s_move hm rfl rfl ?_
    clear hm a; intro a hm
    refine s_off hm rfl rfl rfl rfl ?_
    clear hm a; intro a hm
    refine s_off hm rfl rfl rfl rfl ?_
    clear hm a; intro a hm
    refine s_off hm rfl rfl rfl rfl ?_
    clear hm a; intro a hm
    refine s_off hm rfl rfl rfl rfl ?_
    clear hm a; intro a hm
    refine s_off hm rfl rfl rfl rfl ?_
    clear hm a; intro a hm
    refine s_pick_f hm rfl rfl rfl rfl ?_
    clear hm a; intro a hm
    refine s_move hm rfl rfl ?_
    clear hm a; intro a hm
    refine s_off hm rfl rfl rfl rfl ?_
    clear hm a; intro a hm
    refine s_off hm rfl rfl rfl rfl ?_
    clear hm a; intro a hm
    refine s_off hm rfl rfl rfl rfl ?_
    clear hm a; intro a hm
    refine s_off hm rfl rfl rfl rfl ?_
    clear hm a; intro a hm
    refine s_off hm rfl rfl rfl rfl ?_
    clear hm a; intro a hm
    refine s_pick_f hm rfl rfl rfl rfl ?_
    clear hm a; intro a hm
    refine s_move hm rfl rfl ?_
    clear hm a; intro a hm
    refine s_off hm rfl rfl rfl rfl ?_
    clear hm a; intro a hm
    refine s_off hm rfl rfl rfl rfl ?_
    clear hm a; intro a hm
    refine s_off hm rfl rfl rfl rfl ?_
    clear hm a; intro a hm
    refine s_off hm rfl rfl rfl rfl ?_
    clear hm a; intro a hm
    refine s_off hm rfl rfl rfl rfl ?_
    clear hm a; intro a hm
    refine s_pick_f hm rfl rfl rfl rfl ?_
    clear hm a; intro a hm
    refine s_move hm rfl rfl ?_
    clear hm a; intro a hm
    refine s_off hm rfl rfl rfl rfl ?_
    clear hm a; intro a hm
    refine s_off hm rfl rfl rfl rfl ?_
    clear hm a; intro a hm
    refine s_off hm rfl rfl rfl rfl ?_
    clear hm a; intro a hm
    refine s_off hm rfl rfl rfl rfl ?_
    clear hm a; intro a hm
    refine s_off hm rfl rfl rfl rfl ?_
    clear hm a; intro a hm
    refine s_pick_f hm rfl rfl rfl rfl ?_
    clear hm a; intro a hm
    refine s_move hm rfl rfl ?_
    clear hm a; intro a hm
    refine s_off hm rfl rfl rfl rfl ?_
    clear hm a; intro a hm
    refine s_off hm rfl rfl rfl rfl ?_
    clear hm a; intro a hm
    refine s_off hm rfl rfl rfl rfl ?_
    clear hm a; intro a hm
    refine s_off hm rfl rfl rfl rfl ?_
    clear hm a; intro a hm
    refine s_off hm rfl rfl rfl rfl ?_
    clear hm a; intro a hm
    refine s_off hm rfl rfl rfl rfl ?_
    clear hm a; intro a hm
    refine s_off hm rfl rfl rfl rfl ?_
    clear hm a; intro a hm
    refine s_pick_f hm rfl rfl rfl rfl ?_
    clear hm a; intro a hm
    refine s_move hm rfl rfl ?_
    clear hm a; intro a hm
    refine s_off hm rfl rfl rfl rfl ?_
    clear hm a; intro a hm
    refine s_off hm rfl rfl rfl rfl ?_
    clear hm a; intro a hm
    refine s_off hm rfl rfl rfl rfl ?_
    clear hm a; intro a hm
    refine s_off hm rfl rfl rfl rfl ?_
    clear hm a; intro a hm
    refine s_off hm rfl rfl rfl rfl ?_
    clear hm a; intro a hm
    refine s_pick_f hm rfl rfl rfl rfl ?_
    clear hm a; intro a hm
    refine s_move hm rfl rfl ?_
    clear hm a; intro a hm
    refine s_off hm rfl rfl rfl rfl ?_
    clear hm a; intro a hm
    refine s_off hm rfl rfl rfl rfl ?_
    clear hm a; intro a hm
    refine s_off hm rfl rfl rfl rfl ?_
    clear hm a; intro a hm
    refine s_off hm rfl rfl rfl rfl ?_
    clear hm a; intro a hm
    refine s_off hm rfl rfl rfl rfl ?_
    clear hm a; intro a hm
    refine s_pick_f hm rfl rfl rfl rfl ?_
    clear hm a; intro a hm
    refine s_move hm rfl rfl ?_
    clear hm a; intro a hm
    refine s_off hm rfl rfl rfl rfl ?_
    clear hm a; intro a hm
    refine s_off hm rfl rfl rfl rfl ?_
    clear hm a; intro a hm
    refine s_off hm rfl rfl rfl rfl ?_
    clear hm a; intro a hm
    refine s_off hm rfl rfl rfl rfl ?_
    clear hm a; intro a hm
    refine s_off hm rfl rfl rfl rfl ?_
    clear hm a; intro a hm
    refine s_pick_f hm rfl rfl rfl rfl ?_
    clear hm a; intro a hm
    refine s_move hm rfl rfl ?_
    clear hm a; intro a hm
    refine s_off hm rfl rfl rfl rfl ?_
    clear hm a; intro a hm
    refine s_off hm rfl rfl rfl rfl ?_
    clear hm a; intro a hm
    refine s_off hm rfl rfl rfl rfl ?_
    clear hm a; intro a hm
    refine s_off hm rfl rfl rfl rfl ?_
    clear hm a; intro a hm
    refine s_off hm rfl rfl rfl rfl ?_
    clear hm a; intro a hm
    refine s_pick_f hm rfl rfl rfl rfl ?_
    clear hm a; intro a hm
    refine s_move hm rfl rfl ?_
    clear hm a; intro a hm
    refine s_off hm rfl rfl rfl rfl ?_
    clear hm a; intro a hm
    refine s_off hm rfl rfl rfl rfl ?_
    clear hm a; intro a hm
    refine s_off hm rfl rfl rfl rfl ?_
    clear hm a; intro a hm
    refine s_off hm rfl rfl rfl rfl ?_
    clear hm a; intro a hm
    refine s_off hm rfl rfl rfl rfl ?_
    clear hm a; intro a hm
    refine s_pick_f hm rfl rfl rfl rfl ?_
    clear hm a; intro a hm
    refine s_move hm rfl rfl ?_
    clear hm a; intro a hm
    refine s_off hm rfl rfl rfl rfl ?_
    clear hm a; intro a hm
    refine s_off hm rfl rfl rfl rfl ?_
    clear hm a; intro a hm
    refine s_off hm rfl rfl rfl rfl ?_
    clear hm a; intro a hm
    refine s_off hm rfl rfl rfl rfl ?_
    clear hm a; intro a hm
    refine s_off hm rfl rfl rfl rfl ?_
    clear hm a; intro a hm
    refine s_pick_f hm rfl rfl rfl rfl ?_
    clear hm a; intro a hm
    refine s_assign hm rfl rfl ?_
    clear hm a; intro a hm
    refine wpList_nil ?_
    replace hm : Fr 131 a [(4, .bool false)] := hm.keep [4]
    refine x_then_n (hKJ_5 _ _ ?_)
    refine wp_ret ?_
    obtain rfl := Option.some.inj H
    exact f_ret hm (rs := [.tmp 4]) rfl (.tmp rfl .nil) ⟨_, rfl, Mem.no, rfl, (Sep.sel hS [0] (by decide))⟩


end Go.Proofs
