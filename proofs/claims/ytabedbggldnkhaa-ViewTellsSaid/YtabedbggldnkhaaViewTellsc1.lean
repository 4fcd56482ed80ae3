/- What the calls do: each function once. -/
import Derived.Test.YtabedbggldnkhaaViewTellsc0
namespace Go.Proofs
open Go.Gp
set_option linter.unusedVariables false
set_option maxHeartbeats 4000000 in
set_option maxRecDepth 20000 in
theorem hocketref1_SameInts.calls (K : Nat) (x0 : List Int) (p0_0 : Value) (x1 : List Int) (p1_1 : Value) (r : Bool) (w0 w : World) (Z A : Mem) (hA : A.le Z) (hS : Sep w0 w [] Z) (hp0_0 : Rd (Kd.int .i64) A p0_0 x0) (hp1_1 : Rd (Kd.int .i64) A p1_1 x1)
    (H : hocketref1_SameInts.f K x0 x1 = some r) :
    Calls Try.prog 25 [p0_0, p1_1].toArray w (Ret fun v w' => ∃ (N : Mem), v = .bool r ∧ Sep w0 w' [N] Z) := by
  unfold hocketref1_SameInts.f at H
  refine f_enter _ Try.func25 rfl Try.ntmps25 rfl fun a hm => ?_
  replace hm : Fr 26 a [(0, p0_0), (1, p1_1)] := hm
  replace hS := hS.start
  replace hS : Sep w0 w [Mem.no] Z := hS
  refine wp_seq ?_
  refine wp_region_lit ?_
  refine s_assign hm rfl rfl ?_
  clear hm a; intro a hm
  refine wpList_nil ?_
  replace hm : Fr 26 a [(0, p0_0), (1, p1_1), (4, .bool false)] := hm.keep [0, 1, 4]
  refine x_then_n ?_
  refine c_seq fun KJ_1 hKJ_1 => ?_
  refine wp_seq ?_
  refine wp_region_lit ?_
  refine s_move hm rfl rfl ?_
  clear hm a; intro a hm
  refine s_len hm rfl Try.underlying23 rfl hp0_0 ?_
  clear hm a; intro a hm
  refine s_move hm rfl rfl ?_
  clear hm a; intro a hm
  refine s_len hm rfl Try.underlying23 rfl hp1_1 ?_
  clear hm a; intro a hm
  refine s_cmp (b := ((x0.length : Int) != (x1.length : Int))) hm rfl rfl rfl (.inr (.inl ⟨rfl, rfl⟩)) ?_
  clear hm a; intro a hm
  refine wpList_nil ?_
  replace hm : Fr 26 a [(0, p0_0), (1, p1_1), (4, .bool false), (10, .bool ((x0.length : Int) != (x1.length : Int)))] := hm.keep [0, 1, 4, 10]
  refine x_then_n ?_
  by_cases hc_2 : (x0.length : Int) = (x1.length : Int)
  · rw [if_pos hc_2] at H
    refine c_cond_f hm rfl (bne_eq_false_iff_eq.2 hc_2) ?_
    refine wp_skip ?_
    refine x_then_n (hKJ_1 _ _ ?_)
    refine c_seq fun KJ_3 hKJ_3 => ?_
    refine wp_seq ?_
    refine wp_region_lit ?_
    refine s_assign hm rfl rfl ?_
    clear hm a; intro a hm
    refine wpList_nil ?_
    replace hm : Fr 26 a [(0, p0_0), (1, p1_1), (4, .bool false), (5, .int .i64 0)] := hm.keep [0, 1, 4, 5]
    refine x_then_n ?_
    have hJ_j_6 : hocketref1_SameInts.J1 K = some r → ∀ (a : Act) (w_5 : World), (∃ (N_4 : Mem), Fr 26 a [(4, .bool false)] ∧ Sep w0 w_5 [N_4] Z ∧ Mem.no.le N_4) → KJ_3 a w_5 := by
      clear H hm hS a
      rintro H a w_5 ⟨N_4, hm, hS, le_4⟩
      unfold hocketref1_SameInts.J1 at H
      refine hKJ_3 _ _ ?_
      refine wp_seq ?_
      refine wp_region_lit ?_
      refine s_assign hm rfl rfl ?_
      clear hm a; intro a hm
      refine wpList_nil ?_
      replace hm : Fr 26 a [(4, .bool true)] := hm.keep [4]
      refine x_then_n ?_
      refine wp_ret ?_
      obtain rfl := Option.some.inj H
      exact f_ret hm (rs := [.tmp 4]) rfl (.tmp rfl .nil) ⟨_, rfl, N_4, rfl, (Sep.sel hS [0] (by decide))⟩
    clear hKJ_3
    replace hS : Sep w0 w [Mem.no] Z := hS
    replace hm : Fr 26 a [(0, p0_0), (1, p1_1), (4, .bool false), (5, .int .i64 0)] := hm.keep [0, 1, 4, 5]
    refine c_block ?_
    refine c_loop (fun k_9 a w_9 => ∃ (x_8 : Int) (N_7 : Mem), hocketref1_SameInts.L1 K x0 x1 (fun v => hocketref1_SameInts.J1 K) k_9 x_8 = some r ∧ Fr 26 a [(0, p0_0), (1, p1_1), (4, .bool false), (5, .int .i64 x_8)] ∧ Sep w0 w_9 [N_7] Z ∧ Mem.no.le N_7) K ⟨0, Mem.no, H, hm, (Sep.sel hS [0] (by decide)), (Mem.le.refl _)⟩ (fun a w h => by obtain ⟨_, _, H, _⟩ := h; cases (show (none : Option (Bool)) = some r from H)) ?_
    clear hm hS a H
    rintro k_9 a w_9 KL_9 hKL_9 ⟨x_8, N_7, H, hm, hS, le_7⟩
    replace H : hocketref1_SameInts.B1 K x0 x1 (fun v => hocketref1_SameInts.J1 K) (hocketref1_SameInts.L1 K x0 x1 (fun v => hocketref1_SameInts.J1 K) k_9) x_8 = some r := H
    unfold hocketref1_SameInts.B1 at H
    refine c_seq fun KJ_11 hKJ_11 => ?_
    refine wp_seq ?_
    refine wp_region_lit ?_
    refine s_move hm rfl rfl ?_
    clear hm a; intro a hm
    refine s_move hm rfl rfl ?_
    clear hm a; intro a hm
    refine s_len hm rfl Try.underlying23 rfl hp0_0 ?_
    clear hm a; intro a hm
    refine s_cmp (b := decide (x_8 < (x0.length : Int))) hm rfl rfl rfl (.inr (.inr (.inl ⟨rfl, rfl⟩))) ?_
    clear hm a; intro a hm
    refine wpList_nil ?_
    replace hm : Fr 26 a [(0, p0_0), (1, p1_1), (4, .bool false), (5, .int .i64 x_8), (14, .bool (decide (x_8 < (x0.length : Int))))] := hm.keep [0, 1, 4, 5, 14]
    refine x_then_n ?_
    by_cases hc_12 : x_8 < (x0.length : Int)
    · rw [if_pos hc_12] at H
      refine c_cond_t hm rfl (decide_eq_true hc_12) ?_
      refine wp_skip ?_
      refine x_then_n (hKJ_11 _ _ ?_)
      refine c_seq fun KJ_13 hKJ_13 => ?_
      refine c_block ?_
      refine c_seq fun KJ_14 hKJ_14 => ?_
      refine h_begin (S := fun w => Sep w0 w [N_7] Z) 9 (by kernel_rfl) rfl [false, false, false, false, false, false, false, false, false].toArray rfl hS fun w_15 hS => ?_
      replace hS : Sep w0 w_15 [N_7] Z := hS
      refine h_take 0 [true, false, false, false, false, false, false, false, false].toArray rfl (by kernel_rfl) (by kernel_rfl) (by kernel_rfl) (fun _ _ _ _ h => h) rfl rfl rfl rfl hm (hS.sub (.cons (Mem.le.refl _) (Sub.nil _))) (v := p0_0) (fun w hS => r_move hm rfl) ?_
      clear hm a; intro a hm
      refine h_take 1 [true, true, false, false, false, false, false, false, false].toArray rfl (by kernel_rfl) (by kernel_rfl) (by kernel_rfl) (fun _ _ _ _ h => h) rfl rfl rfl rfl hm (hS.sub (.cons (Mem.le.refl _) (Sub.nil _))) (v := .int .i64 x_8) (fun w hS => r_move hm rfl) ?_
      clear hm a; intro a hm
      obtain ⟨t_16, et_16, H⟩ := Option.bind_eq_some_iff.1 H
      refine h_takeE 2 [true, true, true, false, false, false, false, false, false].toArray rfl (by kernel_rfl) (by kernel_rfl) (by kernel_rfl) (fun _ _ _ _ h => h) rfl rfl rfl rfl hm (hS.sub (.cons (Mem.le.refl _) (Sub.nil _))) (f := fun ad => .pointer (some ad)) (r_index hm Try.underlying23 ti3 rfl rfl rfl hp0_0 et_16) ?_
      rintro ad_17 ⟨cs_18, hk_19, hc_20⟩
      obtain rfl := (show cs_18 = [.int .i64 t_16] from hk_19)
      clear hm a; intro a hm
      refine h_take 3 [true, true, true, true, false, false, false, false, false].toArray rfl (by kernel_rfl) (by kernel_rfl) (by kernel_rfl) (fun _ _ _ _ h => h) rfl rfl rfl rfl hm (hS.sub (.cons (Mem.le.refl _) (Sub.nil _))) (v := .int .i64 t_16) (fun w hS => r_load hm rfl (el_one (o := 0) (fun j c h => Mem.cell_le (hA.trans hS.old) (hc_20 j c h)) Try.underlying3 rfl rfl)) ?_
      clear hm a; intro a hm
      refine h_take 4 [true, true, true, true, true, false, false, false, false].toArray rfl (by kernel_rfl) (by kernel_rfl) (by kernel_rfl) (fun _ _ _ _ h => h) rfl rfl rfl rfl hm (hS.sub (.cons (Mem.le.refl _) (Sub.nil _))) (v := p1_1) (fun w hS => r_move hm rfl) ?_
      clear hm a; intro a hm
      refine h_take 5 [true, true, true, true, true, true, false, false, false].toArray rfl (by kernel_rfl) (by kernel_rfl) (by kernel_rfl) (fun _ _ _ _ h => h) rfl rfl rfl rfl hm (hS.sub (.cons (Mem.le.refl _) (Sub.nil _))) (v := .int .i64 x_8) (fun w hS => r_move hm rfl) ?_
      clear hm a; intro a hm
      obtain ⟨t_21, et_21, H⟩ := Option.bind_eq_some_iff.1 H
      refine h_takeE 6 [true, true, true, true, true, true, true, false, false].toArray rfl (by kernel_rfl) (by kernel_rfl) (by kernel_rfl) (fun _ _ _ _ h => h) rfl rfl rfl rfl hm (hS.sub (.cons (Mem.le.refl _) (Sub.nil _))) (f := fun ad => .pointer (some ad)) (r_index hm Try.underlying23 ti3 rfl rfl rfl hp1_1 et_21) ?_
      rintro ad_22 ⟨cs_23, hk_24, hc_25⟩
      obtain rfl := (show cs_23 = [.int .i64 t_21] from hk_24)
      clear hm a; intro a hm
      refine h_take 7 [true, true, true, true, true, true, true, true, false].toArray rfl (by kernel_rfl) (by kernel_rfl) (by kernel_rfl) (fun _ _ _ _ h => h) rfl rfl rfl rfl hm (hS.sub (.cons (Mem.le.refl _) (Sub.nil _))) (v := .int .i64 t_21) (fun w hS => r_load hm rfl (el_one (o := 0) (fun j c h => Mem.cell_le (hA.trans hS.old) (hc_25 j c h)) Try.underlying3 rfl rfl)) ?_
      clear hm a; intro a hm
      refine h_take 8 [true, true, true, true, true, true, true, true, true].toArray rfl (by kernel_rfl) (by kernel_rfl) (by kernel_rfl) (fun _ _ _ _ h => h) rfl rfl rfl rfl hm (hS.sub (.cons (Mem.le.refl _) (Sub.nil _))) (v := .bool (t_16 != t_21)) (fun w hS => r_cmp (b := (t_16 != t_21)) hm rfl rfl (.inr (.inl ⟨rfl, rfl⟩))) ?_
      clear hm a; intro a hm
      refine h_done (by kernel_rfl) ?_
      replace hm : Fr 26 a [(0, p0_0), (1, p1_1), (4, .bool false), (5, .int .i64 x_8), (25, .bool (t_16 != t_21))] := hm.keep [0, 1, 4, 5, 25]
      refine x_then_n (hKJ_14 _ _ ?_)
      by_cases hc_26 : t_16 = t_21
      · rw [if_pos hc_26] at H
        refine c_cond_f hm rfl (bne_eq_false_iff_eq.2 hc_26) ?_
        refine wp_skip ?_
        refine x_block_n ?_
        refine x_then_n (hKJ_13 _ _ ?_)
        refine wp_region_lit ?_
        refine s_move hm rfl rfl ?_
        clear hm a; intro a hm
        refine s_arith (r := w64 (x_8 + 1)) hm rfl rfl rfl (.inl ⟨rfl, rfl⟩) ?_
        clear hm a; intro a hm
        refine s_assign hm rfl rfl ?_
        clear hm a; intro a hm
        refine wpList_nil ?_
        replace hm : Fr 26 a [(0, p0_0), (1, p1_1), (4, .bool false), (5, .int .i64 (w64 (x_8 + 1)))] := hm.keep [0, 1, 4, 5]
        refine x_then_n (hKL_9 _ _ ?_)
        replace hS : Sep w0 w_15 [N_7] Z := hS
        replace hm : Fr 26 a [(0, p0_0), (1, p1_1), (4, .bool false), (5, .int .i64 (w64 (x_8 + 1)))] := hm.keep [0, 1, 4, 5]
        exact ⟨w64 (x_8 + 1), N_7, H, hm, (Sep.sel hS [0] (by decide)), le_7⟩
      · rw [if_neg hc_26] at H
        refine c_cond_t hm rfl (bne_iff_ne.2 hc_26) ?_
        refine wp_seq ?_
        refine wp_region_lit ?_
        refine s_assign hm rfl rfl ?_
        clear hm a; intro a hm
        refine wpList_nil ?_
        replace hm : Fr 26 a [(0, p0_0), (1, p1_1), (4, .bool false), (5, .int .i64 x_8)] := hm.keep [0, 1, 4, 5]
        refine x_then_n ?_
        refine wp_ret (x_block_r (x_then_r (x_then_r (x_block_r (x_then_r ?_)))))
        obtain rfl := Option.some.inj H
        exact f_ret hm (rs := [.tmp 4]) rfl (.tmp rfl .nil) ⟨_, rfl, N_7, rfl, (Sep.sel hS [0] (by decide))⟩
    · rw [if_neg hc_12] at H
      refine c_cond_f hm rfl (decide_eq_false hc_12) ?_
      refine wp_exit (x_then_x (x_then_x (x_block_t ?_)))
      replace hS : Sep w0 w_9 [N_7] Z := hS
      replace hm : Fr 26 a [(4, .bool false)] := hm.keep [4]
      exact x_then_n (hJ_j_6  H _ _ ⟨N_7, hm, (Sep.sel hS [0] (by decide)), le_7⟩)
  · rw [if_neg hc_2] at H
    refine c_cond_t hm rfl (bne_iff_ne.2 hc_2) ?_
    refine wp_seq ?_
    refine wp_region_lit ?_
    refine s_assign hm rfl rfl ?_
    clear hm a; intro a hm
    refine wpList_nil ?_
    replace hm : Fr 26 a [(0, p0_0), (1, p1_1), (4, .bool false)] := hm.keep [0, 1, 4]
    refine x_then_n ?_
    refine wp_ret (x_then_r ?_)
    obtain rfl := Option.some.inj H
    exact f_ret hm (rs := [.tmp 4]) rfl (.tmp rfl .nil) ⟨_, rfl, Mem.no, rfl, (Sep.sel hS [0] (by decide))⟩

set_option maxHeartbeats 4000000 in
set_option maxRecDepth 20000 in
theorem view_After.calls (K : Nat) (x0 : Int) (x1 : Int) (r : Int) (w0 w : World) (Z A : Mem) (hA : A.le Z) (hS : Sep w0 w [] Z)
    (H : view_After.f K x0 x1 = some r) :
    Calls Try.prog 28 [.int .i64 x0, .int .i64 x1].toArray w (Ret fun v w' => ∃ (N : Mem), v = .int .i64 r ∧ Sep w0 w' [N] Z) := by
  unfold view_After.f at H
  refine f_enter _ Try.func28 rfl Try.ntmps28 rfl fun a hm => ?_
  replace hm : Fr 27 a [(0, .int .i64 x0), (1, .int .i64 x1)] := hm
  replace hS := hS.start
  replace hS : Sep w0 w [Mem.no] Z := hS
  refine wp_seq ?_
  refine wp_region_lit ?_
  refine s_assign hm rfl rfl ?_
  clear hm a; intro a hm
  refine wpList_nil ?_
  replace hm : Fr 27 a [(0, .int .i64 x0), (1, .int .i64 x1), (4, .int .i64 0)] := hm.keep [0, 1, 4]
  refine x_then_n ?_
  refine wp_seq ?_
  refine wp_region_lit ?_
  refine s_move hm rfl rfl ?_
  clear hm a; intro a hm
  obtain ⟨t_1, et_1, H⟩ := Option.bind_eq_some_iff.1 H
  refine s_call hm rfl Try.call18 rfl (view_Members.calls K x0 t_1 w0 _ _ _ (Mem.le.refl _) (hS.enter [] (by decide))  et_1) ?_
  rintro v_5 w_2 ⟨_, N_3, M_7, rfl, hS', hr_6⟩
  clear hm a; intro a hm
  obtain ⟨N_4, hS'', le_4, ln_4⟩ := hS.call [] (by decide) rfl (l' := []) (ow := [M_7]) rfl hS'
  replace hS : Sep w0 w_2 [N_4, M_7] Z := hS''
  clear hS' hS''
  refine s_assign hm rfl rfl ?_
  clear hm a; intro a hm
  refine wpList_nil ?_
  replace hm : Fr 27 a [(1, .int .i64 x1), (4, .int .i64 0), (5, v_5)] := hm.keep [1, 4, 5]
  refine x_then_n ?_
  refine c_seq fun KJ_9 hKJ_9 => ?_
  refine wp_seq ?_
  refine wp_region_lit ?_
  refine s_move hm rfl rfl ?_
  clear hm a; intro a hm
  refine s_lenO hm rfl Try.underlying23 rfl hr_6 ?_
  clear hm a; intro a hm
  refine s_move hm rfl rfl ?_
  clear hm a; intro a hm
  refine wpList_nil ?_
  replace hm : Fr 27 a [(1, .int .i64 x1), (4, .int .i64 0), (5, v_5), (10, v_5), (11, .int .i64 (t_1.length : Int)), (12, .int .i64 0)] := hm.keep [1, 4, 5, 10, 11, 12]
  refine x_then_n ?_
  have hJ_j_12 : view_After.J1 K t_1 = some r → ∀ (a : Act) (w_11 : World), (∃ (N_10 : Mem), Fr 27 a [(4, .int .i64 0), (5, v_5)] ∧ Sep w0 w_11 [N_10, M_7] Z ∧ N_4.le N_10) → KJ_9 a w_11 := by
    clear H hm hS a
    rintro H a w_11 ⟨N_10, hm, hS, le_10⟩
    unfold view_After.J1 at H
    refine hKJ_9 _ _ ?_
    refine c_seq fun KJ_13 hKJ_13 => ?_
    refine wp_seq ?_
    refine wp_region_lit ?_
    refine s_move hm rfl rfl ?_
    clear hm a; intro a hm
    refine s_lenO hm rfl Try.underlying23 rfl hr_6 ?_
    clear hm a; intro a hm
    refine s_cmp (b := ((t_1.length : Int) == 0)) hm rfl rfl rfl (.inl ⟨rfl, rfl⟩) ?_
    clear hm a; intro a hm
    refine wpList_nil ?_
    replace hm : Fr 27 a [(4, .int .i64 0), (5, v_5), (23, .bool ((t_1.length : Int) == 0))] := hm.keep [4, 5, 23]
    refine x_then_n ?_
    by_cases hc_14 : (t_1.length : Int) = 0
    · rw [if_pos hc_14] at H
      refine c_cond_t hm rfl (beq_iff_eq.2 hc_14) ?_
      refine wp_seq ?_
      refine wp_region_lit ?_
      refine s_assign hm rfl rfl ?_
      clear hm a; intro a hm
      refine wpList_nil ?_
      replace hm : Fr 27 a [(4, .int .i64 (-1)), (5, v_5)] := hm.keep [4, 5]
      refine x_then_n ?_
      refine wp_ret (x_then_r ?_)
      obtain rfl := Option.some.inj H
      exact f_ret hm (rs := [.tmp 4]) rfl (.tmp rfl .nil) ⟨_, rfl, N_10, rfl, (Sep.sel hS [0] (by decide))⟩
    · rw [if_neg hc_14] at H
      refine c_cond_f hm rfl (beq_eq_false_iff_ne.2 hc_14) ?_
      refine wp_skip ?_
      refine x_then_n (hKJ_13 _ _ ?_)
      refine wp_seq ?_
      refine wp_region_lit ?_
      refine s_move hm rfl rfl ?_
      clear hm a; intro a hm
      obtain ⟨t_15, et_15, H⟩ := Option.bind_eq_some_iff.1 H
      refine v_indexO hm rfl Try.underlying23 ti3 rfl rfl rfl hr_6 (hS.own 1) et_15 ?_
      intro ad_16 cs_17 hk_18 hc_19
      obtain rfl := (show cs_17 = [.int .i64 t_15] from hk_18)
      clear hm a; intro a hm
      refine s_load hm rfl rfl (el_one (o := 0) hc_19 Try.underlying3 rfl rfl) ?_
      clear hm a; intro a hm
      refine s_assign hm rfl rfl ?_
      clear hm a; intro a hm
      refine wpList_nil ?_
      replace hm : Fr 27 a [(4, .int .i64 t_15)] := hm.keep [4]
      refine x_then_n ?_
      refine wp_ret ?_
      obtain rfl := Option.some.inj H
      exact f_ret hm (rs := [.tmp 4]) rfl (.tmp rfl .nil) ⟨_, rfl, N_10, rfl, (Sep.sel hS [0] (by decide))⟩
  clear hKJ_9
  replace hS : Sep w0 w_2 [N_4, M_7] Z := hS
  replace hm : Fr 27 a [(1, .int .i64 x1), (4, .int .i64 0), (5, v_5), (10, v_5), (11, .int .i64 (t_1.length : Int)), (12, .int .i64 0)] := hm.keep [1, 4, 5, 10, 11, 12]
  refine c_block ?_
  refine c_loop (fun k_22 a w_22 => ∃ (x_21 : Int) (N_20 : Mem), view_After.L1 K t_1 x1 (fun v => view_After.J1 K t_1) k_22 x_21 = some r ∧ Fr 27 a [(1, .int .i64 x1), (4, .int .i64 0), (5, v_5), (10, v_5), (11, .int .i64 (t_1.length : Int)), (12, .int .i64 x_21)] ∧ Sep w0 w_22 [N_20, M_7] Z ∧ N_4.le N_20) K ⟨0, N_4, H, hm, (Sep.sel hS [0, 1] (by decide)), (Mem.le.refl _)⟩ (fun a w h => by obtain ⟨_, _, H, _⟩ := h; cases (show (none : Option (Int)) = some r from H)) ?_
  clear hm hS a H
  rintro k_22 a w_22 KL_22 hKL_22 ⟨x_21, N_20, H, hm, hS, le_20⟩
  replace H : view_After.B1 K t_1 x1 (fun v => view_After.J1 K t_1) (view_After.L1 K t_1 x1 (fun v => view_After.J1 K t_1) k_22) x_21 = some r := H
  unfold view_After.B1 at H
  refine wp_seq ?_
  refine wp_region_lit ?_
  refine s_cmp (b := decide (x_21 < (t_1.length : Int))) hm rfl rfl rfl (.inr (.inr (.inl ⟨rfl, rfl⟩))) ?_
  clear hm a; intro a hm
  refine wpList_nil ?_
  replace hm : Fr 27 a [(1, .int .i64 x1), (4, .int .i64 0), (5, v_5), (10, v_5), (11, .int .i64 (t_1.length : Int)), (12, .int .i64 x_21), (13, .bool (decide (x_21 < (t_1.length : Int))))] := hm.keep [1, 4, 5, 10, 11, 12, 13]
  refine x_then_n ?_
  refine c_seq fun KJ_24 hKJ_24 => ?_
  by_cases hc_25 : x_21 < (t_1.length : Int)
  · rw [if_pos hc_25] at H
    refine c_cond_t hm rfl (decide_eq_true hc_25) ?_
    refine wp_skip ?_
    refine x_then_n (hKJ_24 _ _ ?_)
    refine c_seq fun KJ_26 hKJ_26 => ?_
    refine c_block ?_
    refine wp_seq ?_
    refine wp_region_lit ?_
    obtain ⟨t_27, et_27, H⟩ := Option.bind_eq_some_iff.1 H
    refine v_indexO hm rfl Try.underlying23 ti3 rfl rfl rfl hr_6 (hS.own 1) et_27 ?_
    intro ad_28 cs_29 hk_30 hc_31
    obtain rfl := (show cs_29 = [.int .i64 t_27] from hk_30)
    clear hm a; intro a hm
    refine s_load hm rfl rfl (el_one (o := 0) hc_31 Try.underlying3 rfl rfl) ?_
    clear hm a; intro a hm
    refine s_assign hm rfl rfl ?_
    clear hm a; intro a hm
    refine wpList_nil ?_
    replace hm : Fr 27 a [(1, .int .i64 x1), (4, .int .i64 0), (5, v_5), (7, .int .i64 t_27), (10, v_5), (11, .int .i64 (t_1.length : Int)), (12, .int .i64 x_21)] := hm.keep [1, 4, 5, 7, 10, 11, 12]
    refine x_then_n ?_
    refine wp_seq ?_
    refine wp_region_lit ?_
    refine s_move hm rfl rfl ?_
    clear hm a; intro a hm
    refine s_move hm rfl rfl ?_
    clear hm a; intro a hm
    refine s_cmp (b := decide (t_27 > x1)) hm rfl rfl rfl (.inr (.inr (.inr (.inr (.inl ⟨rfl, rfl⟩))))) ?_
    clear hm a; intro a hm
    refine wpList_nil ?_
    replace hm : Fr 27 a [(1, .int .i64 x1), (4, .int .i64 0), (5, v_5), (7, .int .i64 t_27), (10, v_5), (11, .int .i64 (t_1.length : Int)), (12, .int .i64 x_21), (18, .bool (decide (t_27 > x1)))] := hm.keep [1, 4, 5, 7, 10, 11, 12, 18]
    refine x_then_n ?_
    by_cases hc_32 : t_27 > x1
    · rw [if_pos hc_32] at H
      refine c_cond_t hm rfl (decide_eq_true hc_32) ?_
      refine wp_seq ?_
      refine wp_region_lit ?_
      refine s_move hm rfl rfl ?_
      clear hm a; intro a hm
      refine s_assign hm rfl rfl ?_
      clear hm a; intro a hm
      refine wpList_nil ?_
      replace hm : Fr 27 a [(1, .int .i64 x1), (4, .int .i64 t_27), (5, v_5), (10, v_5), (11, .int .i64 (t_1.length : Int)), (12, .int .i64 x_21)] := hm.keep [1, 4, 5, 10, 11, 12]
      refine x_then_n ?_
      refine wp_ret (x_block_r (x_then_r (x_then_r (x_block_r (x_then_r ?_)))))
      obtain rfl := Option.some.inj H
      exact f_ret hm (rs := [.tmp 4]) rfl (.tmp rfl .nil) ⟨_, rfl, N_20, rfl, (Sep.sel hS [0] (by decide))⟩
    · rw [if_neg hc_32] at H
      refine c_cond_f hm rfl (decide_eq_false hc_32) ?_
      refine wp_skip ?_
      refine x_block_n ?_
      refine x_then_n (hKJ_26 _ _ ?_)
      refine wp_region_lit ?_
      refine s_arith (r := w64 (x_21 + 1)) hm rfl rfl rfl (.inl ⟨rfl, rfl⟩) ?_
      clear hm a; intro a hm
      refine s_move hm rfl rfl ?_
      clear hm a; intro a hm
      refine wpList_nil ?_
      replace hm : Fr 27 a [(1, .int .i64 x1), (4, .int .i64 0), (5, v_5), (10, v_5), (11, .int .i64 (t_1.length : Int)), (12, .int .i64 (w64 (x_21 + 1)))] := hm.keep [1, 4, 5, 10, 11, 12]
      refine x_then_n (hKL_22 _ _ ?_)
      replace hS : Sep w0 w_22 [N_20, M_7] Z := hS
      replace hm : Fr 27 a [(1, .int .i64 x1), (4, .int .i64 0), (5, v_5), (10, v_5), (11, .int .i64 (t_1.length : Int)), (12, .int .i64 (w64 (x_21 + 1)))] := hm.keep [1, 4, 5, 10, 11, 12]
      exact ⟨w64 (x_21 + 1), N_20, H, hm, (Sep.sel hS [0, 1] (by decide)), le_20⟩
  · rw [if_neg hc_25] at H
    refine c_cond_f hm rfl (decide_eq_false hc_25) ?_
    refine wp_exit (x_then_x (x_then_x (x_block_t ?_)))
    replace hS : Sep w0 w_22 [N_20, M_7] Z := hS
    replace hm : Fr 27 a [(4, .int .i64 0), (5, v_5)] := hm.keep [4, 5]
    exact x_then_n (hJ_j_12  H _ _ ⟨N_20, hm, (Sep.sel hS [0, 1] (by decide)), le_20⟩)

set_option maxHeartbeats 4000000 in
set_option maxRecDepth 20000 in
theorem hocketlaw14_awake.calls (K : Nat) (r : Unit) (w0 w : World) (Z A : Mem) (hA : A.le Z) (hS : Sep w0 w [] Z)
    (H : hocketlaw14_awake.f K = some r) :
    Calls Try.prog 17 [].toArray w (Ret fun v w' => ∃ (N : Mem), v = .bool true ∧ Sep w0 w' [N] Z) := by
  unfold hocketlaw14_awake.f at H
  refine f_enter _ Try.func17 rfl Try.ntmps17 rfl fun a hm => ?_
  replace hm : Fr 86 a [] := hm
  replace hS := hS.start
  replace hS : Sep w0 w [Mem.no] Z := hS
  refine wp_seq ?_
  refine wp_region_lit ?_
  refine s_assign hm rfl rfl ?_
  clear hm a; intro a hm
  refine wpList_nil ?_
  replace hm : Fr 86 a [(0, .bool false)] := hm.keep [0]
  refine x_then_n ?_
  refine wp_seq ?_
  refine wp_region_lit ?_
  refine s_build hm rfl ti29 pl29 rfl (.cons rfl (.cons rfl (.cons rfl (.cons rfl .nil)))) (cs := [.int .i64 2, .int .i64 0, .int .i64 0, .int .i64 0, .int .i64 8, .int .i64 5, .bool false, .int .i64 0, .int .i64 0, .int .i64 0, .int .i64 0, .slice none 0 0, .int .i64 0, .int .i64 0, .slice none 0 0, .slice none 0 0, .int .i64 0, .int .i64 0, .int .i64 0, .int .i64 0, .int .i64 0, .slice none 0 0, .slice none 0 0, .slice none 0 0]) rfl ?_
  clear hm a; intro a hm
  refine s_build hm rfl ti29 pl29 rfl (.cons rfl (.cons rfl (.cons rfl (.cons rfl (.cons rfl .nil))))) (cs := [.int .i64 2, .int .i64 1, .int .i64 0, .int .i64 0, .int .i64 8, .int .i64 3, .bool true, .int .i64 0, .int .i64 0, .int .i64 0, .int .i64 0, .slice none 0 0, .int .i64 0, .int .i64 0, .slice none 0 0, .slice none 0 0, .int .i64 0, .int .i64 0, .int .i64 0, .int .i64 0, .int .i64 0, .slice none 0 0, .slice none 0 0, .slice none 0 0]) rfl ?_
  clear hm a; intro a hm
  refine s_build hm rfl ti29 pl29 rfl (.cons rfl (.cons rfl (.cons rfl (.cons rfl .nil)))) (cs := [.int .i64 2, .int .i64 2, .int .i64 0, .int .i64 0, .int .i64 0, .int .i64 9, .bool true, .int .i64 0, .int .i64 0, .int .i64 0, .int .i64 0, .slice none 0 0, .int .i64 0, .int .i64 0, .slice none 0 0, .slice none 0 0, .int .i64 0, .int .i64 0, .int .i64 0, .int .i64 0, .int .i64 0, .slice none 0 0, .slice none 0 0, .slice none 0 0]) rfl ?_
  clear hm a; intro a hm
  have hq_5 : Reps k_api_Msg Mem.no ([(⟨2, 0, 0, 0, 8, 5, false, 0, 0, 0, 0, ([] : List UInt8), 0, 0, ([] : List Int), ([] : List Int), 0, (⟨0, 0, (⟨0, 0, ([] : List UInt8), ([] : List UInt8), ([] : List UInt8)⟩ : api_Cmd)⟩ : api_Entry)⟩ : api_Msg), (⟨2, 1, 0, 0, 8, 3, true, 0, 0, 0, 0, ([] : List UInt8), 0, 0, ([] : List Int), ([] : List Int), 0, (⟨0, 0, (⟨0, 0, ([] : List UInt8), ([] : List UInt8), ([] : List UInt8)⟩ : api_Cmd)⟩ : api_Entry)⟩ : api_Msg), (⟨2, 2, 0, 0, 0, 9, true, 0, 0, 0, 0, ([] : List UInt8), 0, 0, ([] : List Int), ([] : List Int), 0, (⟨0, 0, (⟨0, 0, ([] : List UInt8), ([] : List UInt8), ([] : List UInt8)⟩ : api_Cmd)⟩ : api_Entry)⟩ : api_Msg)] : List api_Msg) _ := ((Reps.one (d := k_api_Msg) (x := (⟨2, 0, 0, 0, 8, 5, false, 0, 0, 0, 0, ([] : List UInt8), 0, 0, ([] : List Int), ([] : List Int), 0, (⟨0, 0, (⟨0, 0, ([] : List UInt8), ([] : List UInt8), ([] : List UInt8)⟩ : api_Cmd)⟩ : api_Entry)⟩ : api_Msg)) (k_api_Msg.mk' (Rd.nil _ _) (Rd.nil _ _) (Rd.nil _ _) (Rd.nil _ _) (Rd.nil _ _) (Rd.nil _ _))).append ((Reps.one (d := k_api_Msg) (x := (⟨2, 1, 0, 0, 8, 3, true, 0, 0, 0, 0, ([] : List UInt8), 0, 0, ([] : List Int), ([] : List Int), 0, (⟨0, 0, (⟨0, 0, ([] : List UInt8), ([] : List UInt8), ([] : List UInt8)⟩ : api_Cmd)⟩ : api_Entry)⟩ : api_Msg)) (k_api_Msg.mk' (Rd.nil _ _) (Rd.nil _ _) (Rd.nil _ _) (Rd.nil _ _) (Rd.nil _ _) (Rd.nil _ _))).append ((Reps.one (d := k_api_Msg) (x := (⟨2, 2, 0, 0, 0, 9, true, 0, 0, 0, 0, ([] : List UInt8), 0, 0, ([] : List Int), ([] : List Int), 0, (⟨0, 0, (⟨0, 0, ([] : List UInt8), ([] : List UInt8), ([] : List UInt8)⟩ : api_Cmd)⟩ : api_Entry)⟩ : api_Msg)) (k_api_Msg.mk' (Rd.nil _ _) (Rd.nil _ _) (Rd.nil _ _) (Rd.nil _ _) (Rd.nil _ _) (Rd.nil _ _))).append (Reps.nil k_api_Msg _))))
  refine s_buildSlice hm rfl Try.underlying31 ti29 rfl rfl rfl (.cons rfl (.cons rfl (.cons rfl .nil))) rfl rfl rfl hS hq_5 rfl ?_
  intro w_1 v_2 M_3 hS' ho_4
  clear hm a; intro a hm
  replace hS : Sep w0 w_1 [Mem.no, M_3] Z := hS'
  clear hS' hq_5
  refine s_assign hm rfl rfl ?_
  clear hm a; intro a hm
  refine wpList_nil ?_
  replace hm : Fr 86 a [(0, .bool false), (1, v_2)] := hm.keep [0, 1]
  refine x_then_n ?_
  refine wp_seq ?_
  refine wp_region_lit ?_
  refine s_move hm rfl rfl ?_
  clear hm a; intro a hm
  obtain ⟨t_7, et_7, H⟩ := Option.bind_eq_some_iff.1 H
  refine s_call hm rfl Try.call16 rfl (view_Choose.calls K ([(⟨2, 0, 0, 0, 8, 5, false, 0, 0, 0, 0, ([] : List UInt8), 0, 0, ([] : List Int), ([] : List Int), 0, (⟨0, 0, (⟨0, 0, ([] : List UInt8), ([] : List UInt8), ([] : List UInt8)⟩ : api_Cmd)⟩ : api_Entry)⟩ : api_Msg), (⟨2, 1, 0, 0, 8, 3, true, 0, 0, 0, 0, ([] : List UInt8), 0, 0, ([] : List Int), ([] : List Int), 0, (⟨0, 0, (⟨0, 0, ([] : List UInt8), ([] : List UInt8), ([] : List UInt8)⟩ : api_Cmd)⟩ : api_Entry)⟩ : api_Msg), (⟨2, 2, 0, 0, 0, 9, true, 0, 0, 0, 0, ([] : List UInt8), 0, 0, ([] : List Int), ([] : List Int), 0, (⟨0, 0, (⟨0, 0, ([] : List UInt8), ([] : List UInt8), ([] : List UInt8)⟩ : api_Cmd)⟩ : api_Entry)⟩ : api_Msg)] : List api_Msg) _ 5 t_7 w0 _ _ _ (Mem.le.refl _) (hS.enter [] (by decide)) (ho_4.rd (hS.own_zed [] 0 (by decide)) ((Mem.le.refl _).trans (hS.new_zed []))) et_7) ?_
  rintro _ w_8 ⟨N_9, rfl, hS'⟩
  clear hm a; intro a hm
  obtain ⟨N_10, hS'', le_10, ln_10⟩ := hS.call [] (by decide) rfl (l' := []) (ow := []) rfl hS'
  replace hS : Sep w0 w_8 [N_10, M_3] Z := hS''
  clear hS' hS''
  refine s_move hm rfl rfl ?_
  clear hm a; intro a hm
  refine s_extract hm rfl rfl rfl ?_
  clear hm a; intro a hm
  refine s_extract hm rfl rfl rfl ?_
  clear hm a; intro a hm
  refine s_extract hm rfl rfl rfl ?_
  clear hm a; intro a hm
  refine s_extract hm rfl rfl rfl ?_
  clear hm a; intro a hm
  refine s_assign hm rfl rfl ?_
  clear hm a; intro a hm
  refine s_assign hm rfl rfl ?_
  clear hm a; intro a hm
  refine s_assign hm rfl rfl ?_
  clear hm a; intro a hm
  refine s_assign hm rfl rfl ?_
  clear hm a; intro a hm
  refine wpList_nil ?_
  replace hm : Fr 86 a [(0, .bool false), (1, v_2), (2, .int .i64 t_7.1), (3, .int .i64 t_7.2.1), (4, .int .i64 t_7.2.2.1), (5, .bool t_7.2.2.2)] := hm.keep [0, 1, 2, 3, 4, 5]
  refine x_then_n ?_
  refine wp_seq ?_
  refine wp_region_lit ?_
  refine s_move hm rfl rfl ?_
  clear hm a; intro a hm
  obtain ⟨N_11, hS', le_11, lo_11⟩ := hS.freeze 0 rfl
  replace hS : Sep w0 w_8 [N_11, Mem.no] Z := hS'
  clear hS'
  obtain ⟨t_12, et_12, H⟩ := Option.bind_eq_some_iff.1 H
  refine s_slice hm rfl Try.underlying31 ti29 rfl rfl (ho_4.rd lo_11 (le_10.trans le_11)) rfl rfl et_12 ?_
  intro v_13 hr_14
  clear hm a; intro a hm
  obtain ⟨t_15, et_15, H⟩ := Option.bind_eq_some_iff.1 H
  refine s_call hm rfl Try.call16 rfl (view_Choose.calls K t_12 _ 5 t_15 w0 _ _ _ (Mem.le.refl _) (hS.enter [] (by decide)) (hr_14.mono ((Mem.le.refl _).trans (hS.new_zed []))) et_15) ?_
  rintro _ w_16 ⟨N_17, rfl, hS'⟩
  clear hm a; intro a hm
  obtain ⟨N_18, hS'', le_18, ln_18⟩ := hS.call [] (by decide) rfl (l' := []) (ow := []) rfl hS'
  replace hS : Sep w0 w_16 [N_18, Mem.no] Z := hS''
  clear hS' hS''
  refine s_move hm rfl rfl ?_
  clear hm a; intro a hm
  refine s_extract hm rfl rfl rfl ?_
  clear hm a; intro a hm
  refine s_extract hm rfl rfl rfl ?_
  clear hm a; intro a hm
  refine s_extract hm rfl rfl rfl ?_
  clear hm a; intro a hm
  refine s_extract hm rfl rfl rfl ?_
  clear hm a; intro a hm
  refine s_assign hm rfl rfl ?_
  clear hm a; intro a hm
  refine s_assign hm rfl rfl ?_
  clear hm a; intro a hm
  refine s_assign hm rfl rfl ?_
  clear hm a; intro a hm
  refine s_assign hm rfl rfl ?_
  clear hm a; intro a hm
  refine wpList_nil ?_
  replace hm : Fr 86 a [(0, .bool false), (2, .int .i64 t_7.1), (3, .int .i64 t_7.2.1), (4, .int .i64 t_7.2.2.1), (5, .bool t_7.2.2.2), (9, .bool t_15.2.2.2)] := hm.keep [0, 2, 3, 4, 5, 9]
  refine x_then_n ?_
  refine c_seq fun KJ_19 hKJ_19 => ?_
  refine wp_region_lit ?_
  obtain ⟨t_20, et_20, H⟩ := Option.bind_eq_some_iff.1 H
  refine s_call hm rfl Try.call21 rfl (view_Next.calls 0 3 t_20 w0 _ _ _ (Mem.le.refl _) (hS.enter [] (by decide))  et_20) ?_
  rintro _ w_21 ⟨N_22, rfl, hS'⟩
  clear hm a; intro a hm
  obtain ⟨N_23, hS'', le_23, ln_23⟩ := hS.call [] (by decide) rfl (l' := []) (ow := []) rfl hS'
  replace hS : Sep w0 w_21 [N_23, Mem.no] Z := hS''
  clear hS' hS''
  refine s_cmp (b := (t_20 == 11)) hm rfl rfl rfl (.inl ⟨rfl, rfl⟩) ?_
  clear hm a; intro a hm
  refine s_move hm rfl rfl ?_
  clear hm a; intro a hm
  by_cases hc_24 : t_20 = 11
  · rw [if_pos hc_24] at H
    refine s_on hm rfl rfl (beq_iff_eq.2 hc_24) ?_
    obtain ⟨t_25, et_25, H⟩ := Option.bind_eq_some_iff.1 H
    refine s_call hm rfl Try.call21 rfl (view_Next.calls 11 2 t_25 w0 _ _ _ (Mem.le.refl _) (hS.enter [] (by decide))  et_25) ?_
    rintro _ w_26 ⟨N_27, rfl, hS'⟩
    clear hm a; intro a hm
    obtain ⟨N_28, hS'', le_28, ln_28⟩ := hS.call [] (by decide) rfl (l' := []) (ow := []) rfl hS'
    replace hS : Sep w0 w_26 [N_28, Mem.no] Z := hS''
    clear hS' hS''
    refine s_on hm rfl rfl (beq_iff_eq.2 hc_24) ?_
    refine s_cmp (b := (t_25 == 18)) hm rfl rfl rfl (.inl ⟨rfl, rfl⟩) ?_
    clear hm a; intro a hm
    refine s_pick_t hm rfl rfl (beq_iff_eq.2 hc_24) rfl ?_
    clear hm a; intro a hm
    refine s_move hm rfl rfl ?_
    clear hm a; intro a hm
    by_cases hc_29 : t_25 = 18
    · rw [if_pos hc_29] at H
      refine s_on hm rfl rfl (beq_iff_eq.2 hc_29) ?_
      obtain ⟨t_30, et_30, H⟩ := Option.bind_eq_some_iff.1 H
      refine s_call hm rfl Try.call23 rfl (view_Who.calls 18 t_30 w0 _ _ _ (Mem.le.refl _) (hS.enter [] (by decide))  et_30) ?_
      rintro _ w_31 ⟨N_32, rfl, hS'⟩
      clear hm a; intro a hm
      obtain ⟨N_33, hS'', le_33, ln_33⟩ := hS.call [] (by decide) rfl (l' := []) (ow := []) rfl hS'
      replace hS : Sep w0 w_31 [N_33, Mem.no] Z := hS''
      clear hS' hS''
      refine s_on hm rfl rfl (beq_iff_eq.2 hc_29) ?_
      refine s_cmp (b := (t_30 == 2)) hm rfl rfl rfl (.inl ⟨rfl, rfl⟩) ?_
      clear hm a; intro a hm
      refine s_pick_t hm rfl rfl (beq_iff_eq.2 hc_29) rfl ?_
      clear hm a; intro a hm
      refine s_move hm rfl rfl ?_
      clear hm a; intro a hm
      by_cases hc_34 : t_30 = 2
      · rw [if_pos hc_34] at H
        refine s_on hm rfl rfl (beq_iff_eq.2 hc_34) ?_
        obtain ⟨t_35, et_35, H⟩ := Option.bind_eq_some_iff.1 H
        refine s_call hm rfl Try.call18 rfl (view_Members.calls K 11 t_35 w0 _ _ _ (Mem.le.refl _) (hS.enter [] (by decide))  et_35) ?_
        rintro v_39 w_36 ⟨_, N_37, M_41, rfl, hS', hr_40⟩
        clear hm a; intro a hm
        obtain ⟨N_38, hS'', le_38, ln_38⟩ := hS.call [] (by decide) rfl (l' := []) (ow := [M_41]) rfl hS'
        replace hS : Sep w0 w_36 [N_38, Mem.no, M_41] Z := hS''
        clear hS' hS''
        refine s_on hm rfl rfl (beq_iff_eq.2 hc_34) ?_
        have hq_47 : Reps (Kd.int .i64) Mem.no ([0, 1, 3] : List Int) _ := ((Reps.one (d := (Kd.int .i64)) (x := 0) (show (Kd.int .i64).K _ _ [.int .i64 0] from rfl)).append ((Reps.one (d := (Kd.int .i64)) (x := 1) (show (Kd.int .i64).K _ _ [.int .i64 1] from rfl)).append ((Reps.one (d := (Kd.int .i64)) (x := 3) (show (Kd.int .i64).K _ _ [.int .i64 3] from rfl)).append (Reps.nil (Kd.int .i64) _))))
        refine s_buildSlice hm rfl Try.underlying23 ti3 rfl rfl rfl (.cons rfl (.cons rfl (.cons rfl .nil))) rfl rfl rfl hS hq_47 rfl ?_
        intro w_43 v_44 M_45 hS' ho_46
        clear hm a; intro a hm
        replace hS : Sep w0 w_43 [N_38, Mem.no, M_41, M_45] Z := hS'
        clear hS' hq_47
        refine s_on hm rfl rfl (beq_iff_eq.2 hc_34) ?_
        obtain ⟨t_49, et_49, H⟩ := Option.bind_eq_some_iff.1 H
        refine s_call hm rfl Try.call25 rfl (hocketref1_SameInts.calls K t_35 _ ([0, 1, 3] : List Int) _ t_49 w0 _ _ _ (Mem.le.refl _) (hS.enter [] (by decide)) (hr_40.rd (hS.own_zed [] 1 (by decide)) (Mem.no_le _)) (ho_46.rd (hS.own_zed [] 2 (by decide)) (Mem.no_le _)) et_49) ?_
        rintro _ w_50 ⟨N_51, rfl, hS'⟩
        clear hm a; intro a hm
        obtain ⟨N_52, hS'', le_52, ln_52⟩ := hS.call [] (by decide) rfl (l' := []) (ow := []) rfl hS'
        replace hS : Sep w0 w_50 [N_52, Mem.no, M_41, M_45] Z := hS''
        clear hS' hS''
        refine s_pick_t hm rfl rfl (beq_iff_eq.2 hc_34) rfl ?_
        clear hm a; intro a hm
        refine s_move hm rfl rfl ?_
        clear hm a; intro a hm
        by_cases hc_53 : t_49 = true
        · rw [if_pos hc_53] at H
          refine s_on hm rfl rfl hc_53 ?_
          obtain ⟨t_54, et_54, H⟩ := Option.bind_eq_some_iff.1 H
          refine s_call hm rfl Try.call19 rfl (view_Most.calls 3 4 t_54 w0 _ _ _ (Mem.le.refl _) (hS.enter [] (by decide))  et_54) ?_
          rintro _ w_55 ⟨N_56, rfl, hS'⟩
          clear hm a; intro a hm
          obtain ⟨N_57, hS'', le_57, ln_57⟩ := hS.call [] (by decide) rfl (l' := []) (ow := []) rfl hS'
          replace hS : Sep w0 w_55 [N_57, Mem.no, M_41, M_45] Z := hS''
          clear hS' hS''
          refine s_on hm rfl rfl hc_53 ?_
          refine s_not hm rfl rfl ?_
          clear hm a; intro a hm
          refine s_pick_t hm rfl rfl hc_53 rfl ?_
          clear hm a; intro a hm
          refine s_move hm rfl rfl ?_
          clear hm a; intro a hm
          by_cases hc_58 : t_54 = true
          · rw [if_pos hc_58] at H
            cases H
          · rw [if_neg hc_58] at H
            refine s_on hm rfl rfl (nt (Bool.eq_false_iff.2 hc_58)) ?_
            obtain ⟨t_59, et_59, H⟩ := Option.bind_eq_some_iff.1 H
            refine s_call hm rfl Try.call19 rfl (view_Most.calls 7 5 t_59 w0 _ _ _ (Mem.le.refl _) (hS.enter [] (by decide))  et_59) ?_
            rintro _ w_60 ⟨N_61, rfl, hS'⟩
            clear hm a; intro a hm
            obtain ⟨N_62, hS'', le_62, ln_62⟩ := hS.call [] (by decide) rfl (l' := []) (ow := []) rfl hS'
            replace hS : Sep w0 w_60 [N_62, Mem.no, M_41, M_45] Z := hS''
            clear hS' hS''
            refine s_pick_t hm rfl rfl (nt (Bool.eq_false_iff.2 hc_58)) rfl ?_
            clear hm a; intro a hm
            refine s_move hm rfl rfl ?_
            clear hm a; intro a hm
            by_cases hc_63 : t_59 = true
            · rw [if_pos hc_63] at H
              refine s_on hm rfl rfl hc_63 ?_
              obtain ⟨t_64, et_64, H⟩ := Option.bind_eq_some_iff.1 H
              refine s_call hm rfl Try.call28 rfl (view_After.calls K 11 1 t_64 w0 _ _ _ (Mem.le.refl _) (hS.enter [] (by decide))  et_64) ?_
              rintro _ w_65 ⟨N_66, rfl, hS'⟩
              clear hm a; intro a hm
              obtain ⟨N_67, hS'', le_67, ln_67⟩ := hS.call [] (by decide) rfl (l' := []) (ow := []) rfl hS'
              replace hS : Sep w0 w_65 [N_67, Mem.no, M_41, M_45] Z := hS''
              clear hS' hS''
              refine s_on hm rfl rfl hc_63 ?_
              refine s_cmp (b := (t_64 == 3)) hm rfl rfl rfl (.inl ⟨rfl, rfl⟩) ?_
              clear hm a; intro a hm
              refine s_pick_t hm rfl rfl hc_63 rfl ?_
              clear hm a; intro a hm
              refine s_move hm rfl rfl ?_
              clear hm a; intro a hm
              by_cases hc_68 : t_64 = 3
              · rw [if_pos hc_68] at H
                refine s_on hm rfl rfl (beq_iff_eq.2 hc_68) ?_
                obtain ⟨t_69, et_69, H⟩ := Option.bind_eq_some_iff.1 H
                refine s_call hm rfl Try.call28 rfl (view_After.calls K 11 3 t_69 w0 _ _ _ (Mem.le.refl _) (hS.enter [] (by decide))  et_69) ?_
                rintro _ w_70 ⟨N_71, rfl, hS'⟩
                clear hm a; intro a hm
                obtain ⟨N_72, hS'', le_72, ln_72⟩ := hS.call [] (by decide) rfl (l' := []) (ow := []) rfl hS'
                replace hS : Sep w0 w_70 [N_72, Mem.no, M_41, M_45] Z := hS''
                clear hS' hS''
                refine s_on hm rfl rfl (beq_iff_eq.2 hc_68) ?_
                refine s_cmp (b := (t_69 == 0)) hm rfl rfl rfl (.inl ⟨rfl, rfl⟩) ?_
                clear hm a; intro a hm
                refine s_pick_t hm rfl rfl (beq_iff_eq.2 hc_68) rfl ?_
                clear hm a; intro a hm
                refine s_move hm rfl rfl ?_
                clear hm a; intro a hm
                by_cases hc_73 : t_69 = 0
                · rw [if_pos hc_73] at H
                  refine s_on hm rfl rfl (beq_iff_eq.2 hc_73) ?_
                  obtain ⟨t_74, et_74, H⟩ := Option.bind_eq_some_iff.1 H
                  refine s_call hm rfl Try.call28 rfl (view_After.calls K 0 0 t_74 w0 _ _ _ (Mem.le.refl _) (hS.enter [] (by decide))  et_74) ?_
                  rintro _ w_75 ⟨N_76, rfl, hS'⟩
                  clear hm a; intro a hm
                  obtain ⟨N_77, hS'', le_77, ln_77⟩ := hS.call [] (by decide) rfl (l' := []) (ow := []) rfl hS'
                  replace hS : Sep w0 w_75 [N_77, Mem.no, M_41, M_45] Z := hS''
                  clear hS' hS''
                  refine s_on hm rfl rfl (beq_iff_eq.2 hc_73) ?_
                  refine s_cmp (b := (t_74 == (-1))) hm rfl rfl rfl (.inl ⟨rfl, rfl⟩) ?_
                  clear hm a; intro a hm
                  refine s_pick_t hm rfl rfl (beq_iff_eq.2 hc_73) rfl ?_
                  clear hm a; intro a hm
                  refine s_move hm rfl rfl ?_
                  clear hm a; intro a hm
                  by_cases hc_78 : t_74 = (-1)
                  · rw [if_pos hc_78] at H
                    refine s_on hm rfl rfl (beq_iff_eq.2 hc_78) ?_
                    refine s_move hm rfl rfl ?_
                    clear hm a; intro a hm
                    refine s_pick_t hm rfl rfl (beq_iff_eq.2 hc_78) rfl ?_
                    clear hm a; intro a hm
                    refine s_move hm rfl rfl ?_
                    clear hm a; intro a hm
                    by_cases hc_79 : t_7.2.2.2 = true
                    · rw [if_pos hc_79] at H
                      refine s_on hm rfl rfl hc_79 ?_
                      refine s_move hm rfl rfl ?_
                      clear hm a; intro a hm
                      refine s_on hm rfl rfl hc_79 ?_
                      refine s_cmp (b := (t_7.1 == 7)) hm rfl rfl rfl (.inl ⟨rfl, rfl⟩) ?_
                      clear hm a; intro a hm
                      refine s_pick_t hm rfl rfl hc_79 rfl ?_
                      clear hm a; intro a hm
                      refine s_move hm rfl rfl ?_
                      clear hm a; intro a hm
                      by_cases hc_80 : t_7.1 = 7
                      · rw [if_pos hc_80] at H
                        refine s_on hm rfl rfl (beq_iff_eq.2 hc_80) ?_
                        refine s_move hm rfl rfl ?_
                        clear hm a; intro a hm
                        refine s_on hm rfl rfl (beq_iff_eq.2 hc_80) ?_
                        refine s_cmp (b := (t_7.2.1 == 1)) hm rfl rfl rfl (.inl ⟨rfl, rfl⟩) ?_
                        clear hm a; intro a hm
                        refine s_pick_t hm rfl rfl (beq_iff_eq.2 hc_80) rfl ?_
                        clear hm a; intro a hm
                        refine s_move hm rfl rfl ?_
                        clear hm a; intro a hm
                        by_cases hc_81 : t_7.2.1 = 1
                        · rw [if_pos hc_81] at H
                          refine s_on hm rfl rfl (beq_iff_eq.2 hc_81) ?_
                          refine s_move hm rfl rfl ?_
                          clear hm a; intro a hm
                          refine s_on hm rfl rfl (beq_iff_eq.2 hc_81) ?_
                          refine s_cmp (b := (t_7.2.2.1 == 3)) hm rfl rfl rfl (.inl ⟨rfl, rfl⟩) ?_
                          clear hm a; intro a hm
                          refine s_pick_t hm rfl rfl (beq_iff_eq.2 hc_81) rfl ?_
                          clear hm a; intro a hm
                          refine s_move hm rfl rfl ?_
                          clear hm a; intro a hm
                          by_cases hc_82 : t_7.2.2.1 = 3
                          · rw [if_pos hc_82] at H
                            refine s_on hm rfl rfl (beq_iff_eq.2 hc_82) ?_
                            refine s_move hm rfl rfl ?_
                            clear hm a; intro a hm
                            refine s_on hm rfl rfl (beq_iff_eq.2 hc_82) ?_
                            refine s_not hm rfl rfl ?_
                            clear hm a; intro a hm
                            refine s_pick_t hm rfl rfl (beq_iff_eq.2 hc_82) rfl ?_
                            clear hm a; intro a hm
                            refine s_move hm rfl rfl ?_
                            clear hm a; intro a hm
                            by_cases hc_83 : t_15.2.2.2 = true
                            · rw [if_pos hc_83] at H
                              cases H
                            · rw [if_neg hc_83] at H
                              refine s_on hm rfl rfl (nt (Bool.eq_false_iff.2 hc_83)) ?_
                              obtain ⟨t_84, et_84, H⟩ := Option.bind_eq_some_iff.1 H
                              refine s_call hm rfl Try.call20 rfl (view_Limit.calls 1 t_84 w0 _ _ _ (Mem.le.refl _) (hS.enter [] (by decide))  et_84) ?_
                              rintro _ w_85 ⟨N_86, rfl, hS'⟩
                              clear hm a; intro a hm
                              obtain ⟨N_87, hS'', le_87, ln_87⟩ := hS.call [] (by decide) rfl (l' := []) (ow := []) rfl hS'
                              replace hS : Sep w0 w_85 [N_87, Mem.no, M_41, M_45] Z := hS''
                              clear hS' hS''
                              refine s_on hm rfl rfl (nt (Bool.eq_false_iff.2 hc_83)) ?_
                              refine s_cmp (b := (t_84 == 440)) hm rfl rfl rfl (.inl ⟨rfl, rfl⟩) ?_
                              clear hm a; intro a hm
                              refine s_pick_t hm rfl rfl (nt (Bool.eq_false_iff.2 hc_83)) rfl ?_
                              clear hm a; intro a hm
                              refine s_assign hm rfl rfl ?_
                              clear hm a; intro a hm
                              refine wpList_nil ?_
                              replace hm : Fr 86 a [(0, .bool (t_84 == 440))] := hm.keep [0]
                              refine x_then_n (hKJ_19 _ _ ?_)
                              refine wp_ret ?_
                              by_cases hc_88 : t_84 = 440
                              · rw [if_pos hc_88] at H
                                exact f_ret hm (rs := [.tmp 0]) rfl (.tmp rfl .nil) ⟨_, rfl, N_87, (by rw [(beq_iff_eq.2 hc_88)]; rfl), (Sep.sel hS [0] (by decide))⟩
                              · rw [if_neg hc_88] at H
                                cases H
                          · rw [if_neg hc_82] at H
                            cases H
                        · rw [if_neg hc_81] at H
                          cases H
                      · rw [if_neg hc_80] at H
                        cases H
                    · rw [if_neg hc_79] at H
                      cases H
                  · rw [if_neg hc_78] at H
                    cases H
                · rw [if_neg hc_73] at H
                  cases H
              · rw [if_neg hc_68] at H
                cases H
            · rw [if_neg hc_63] at H
              cases H
        · rw [if_neg hc_53] at H
          cases H
      · rw [if_neg hc_34] at H
        cases H
    · rw [if_neg hc_29] at H
      cases H
  · rw [if_neg hc_24] at H
    cases H

set_option maxHeartbeats 4000000 in
set_option maxRecDepth 20000 in
theorem hocketref11_Next.calls (x0 : Int) (x1 : Int) (r : Int) (w0 w : World) (Z A : Mem) (hA : A.le Z) (hS : Sep w0 w [] Z)
    (H : hocketref11_Next.f x0 x1 = some r) :
    Calls Try.prog 22 [.int .i64 x0, .int .i64 x1].toArray w (Ret fun v w' => ∃ (N : Mem), v = .int .i64 r ∧ Sep w0 w' [N] Z) := by
  unfold hocketref11_Next.f at H
  refine f_enter _ Try.func22 rfl Try.ntmps22 rfl fun a hm => ?_
  replace hm : Fr 15 a [(0, .int .i64 x0), (1, .int .i64 x1)] := hm
  replace hS := hS.start
  replace hS : Sep w0 w [Mem.no] Z := hS
  refine wp_seq ?_
  refine wp_region_lit ?_
  refine s_assign hm rfl rfl ?_
  clear hm a; intro a hm
  refine wpList_nil ?_
  replace hm : Fr 15 a [(0, .int .i64 x0), (1, .int .i64 x1), (4, .int .i64 0)] := hm.keep [0, 1, 4]
  refine x_then_n ?_
  refine wp_seq ?_
  refine wp_region_lit ?_
  refine s_move hm rfl rfl ?_
  clear hm a; intro a hm
  refine s_max hm rfl rfl rfl ?_
  clear hm a; intro a hm
  refine s_min hm rfl rfl rfl ?_
  clear hm a; intro a hm
  refine s_div (r := w64 (Int.tdiv (mn (mx x0 0) 549755813888) 8)) hm rfl rfl rfl (by decide) (.inl ⟨rfl, rfl⟩) ?_
  clear hm a; intro a hm
  refine s_arith (r := w64 ((w64 (Int.tdiv (mn (mx x0 0) 549755813888) 8)) + 1)) hm rfl rfl rfl (.inl ⟨rfl, rfl⟩) ?_
  clear hm a; intro a hm
  refine s_arith (r := w64 (8 * (w64 ((w64 (Int.tdiv (mn (mx x0 0) 549755813888) 8)) + 1)))) hm rfl rfl rfl (.inr (.inr ⟨rfl, rfl⟩)) ?_
  clear hm a; intro a hm
  refine s_move hm rfl rfl ?_
  clear hm a; intro a hm
  refine s_max hm rfl rfl rfl ?_
  clear hm a; intro a hm
  refine s_min hm rfl rfl rfl ?_
  clear hm a; intro a hm
  refine s_arith (r := w64 ((w64 (8 * (w64 ((w64 (Int.tdiv (mn (mx x0 0) 549755813888) 8)) + 1)))) + (mn (mx x1 0) 6))) hm rfl rfl rfl (.inl ⟨rfl, rfl⟩) ?_
  clear hm a; intro a hm
  refine s_assign hm rfl rfl ?_
  clear hm a; intro a hm
  refine wpList_nil ?_
  replace hm : Fr 15 a [(4, .int .i64 (w64 ((w64 (8 * (w64 ((w64 (Int.tdiv (mn (mx x0 0) 549755813888) 8)) + 1)))) + (mn (mx x1 0) 6))))] := hm.keep [4]
  refine x_then_n ?_
  refine wp_ret ?_
  obtain rfl := Option.some.inj H
  exact f_ret hm (rs := [.tmp 4]) rfl (.tmp rfl .nil) ⟨_, rfl, Mem.no, rfl, (Sep.sel hS [0] (by decide))⟩

set_option maxHeartbeats 4000000 in
set_option maxRecDepth 20000 in
theorem hocketref11_Who.calls (x0 : Int) (r : Int) (w0 w : World) (Z A : Mem) (hA : A.le Z) (hS : Sep w0 w [] Z)
    (H : hocketref11_Who.f x0 = some r) :
    Calls Try.prog 24 [.int .i64 x0].toArray w (Ret fun v w' => ∃ (N : Mem), v = .int .i64 r ∧ Sep w0 w' [N] Z) := by
  unfold hocketref11_Who.f at H
  refine f_enter _ Try.func24 rfl Try.ntmps24 rfl fun a hm => ?_
  replace hm : Fr 6 a [(0, .int .i64 x0)] := hm
  replace hS := hS.start
  replace hS : Sep w0 w [Mem.no] Z := hS
  refine wp_seq ?_
  refine wp_region_lit ?_
  refine s_assign hm rfl rfl ?_
  clear hm a; intro a hm
  refine wpList_nil ?_
  replace hm : Fr 6 a [(0, .int .i64 x0), (2, .int .i64 0)] := hm.keep [0, 2]
  refine x_then_n ?_
  refine wp_seq ?_
  refine wp_region_lit ?_
  refine s_move hm rfl rfl ?_
  clear hm a; intro a hm
  refine s_max hm rfl rfl rfl ?_
  clear hm a; intro a hm
  refine s_bits (i := mx x0 0) (j := 7) (r := band .i64 (mx x0 0) 7) hm rfl rfl rfl (.inl ⟨rfl, rfl⟩) ?_
  clear hm a; intro a hm
  refine s_assign hm rfl rfl ?_
  clear hm a; intro a hm
  refine wpList_nil ?_
  replace hm : Fr 6 a [(2, .int .i64 (band .i64 (mx x0 0) 7))] := hm.keep [2]
  refine x_then_n ?_
  refine wp_ret ?_
  obtain rfl := Option.some.inj H
  exact f_ret hm (rs := [.tmp 2]) rfl (.tmp rfl .nil) ⟨_, rfl, Mem.no, rfl, (Sep.sel hS [0] (by decide))⟩

set_option maxHeartbeats 4000000 in
set_option maxRecDepth 20000 in
theorem hocketref11_Members.calls (K : Nat) (x0 : Int) (r : (List Int)) (w0 w : World) (Z A : Mem) (hA : A.le Z) (hS : Sep w0 w [] Z)
    (H : hocketref11_Members.f K x0 = some r) :
    Calls Try.prog 26 [.int .i64 x0].toArray w (Ret fun v w' => ∃ (u0 : Value) (N : Mem) (M0 : Mem), v = u0 ∧ Sep w0 w' [N, M0] Z ∧ Own (Kd.int .i64) 3 M0 Mem.no u0 r) := by
  unfold hocketref11_Members.f at H
  refine f_enter _ Try.func26 rfl Try.ntmps26 rfl fun a hm => ?_
  replace hm : Fr 20 a [(0, .int .i64 x0)] := hm
  replace hS := hS.start
  replace hS : Sep w0 w [Mem.no] Z := hS
  refine wp_seq ?_
  refine wp_region_lit ?_
  refine s_assign hm rfl rfl ?_
  clear hm a; intro a hm
  refine wpList_nil ?_
  replace hm : Fr 20 a [(0, .int .i64 x0), (2, .slice none 0 0)] := hm.keep [0, 2]
  refine x_then_n ?_
  refine wp_seq ?_
  refine wp_region_lit ?_
  refine s_assign hm rfl rfl ?_
  clear hm a; intro a hm
  refine wpList_nil ?_
  replace hm : Fr 20 a [(0, .int .i64 x0), (2, .slice none 0 0), (3, .slice none 0 0)] := hm.keep [0, 2, 3]
  refine x_then_n ?_
  refine c_seq fun KJ_1 hKJ_1 => ?_
  refine wp_seq ?_
  refine wp_region_lit ?_
  refine s_assign hm rfl rfl ?_
  clear hm a; intro a hm
  refine wpList_nil ?_
  replace hm : Fr 20 a [(0, .int .i64 x0), (2, .slice none 0 0), (3, .slice none 0 0), (4, .int .i64 0)] := hm.keep [0, 2, 3, 4]
  refine x_then_n ?_
  have hJ_j_9 : ∀ (x_3 : List Int), hocketref11_Members.J1 K x_3 = some r → ∀ (a : Act) (w_8 : World), (∃ (v_6 : Value) (N_2 : Mem) (M_4 : Mem), Fr 20 a [(2, .slice none 0 0), (3, v_6)] ∧ Sep w0 w_8 [N_2, M_4] Z ∧ Mem.no.le N_2 ∧ Own (Kd.int .i64) 3 M_4 Mem.no v_6 x_3) → KJ_1 a w_8 := by
    clear H hm hS a
    rintro x_3 H a w_8 ⟨v_6, N_2, M_4, hm, hS, le_2, ho_7⟩
    unfold hocketref11_Members.J1 at H
    refine hKJ_1 _ _ ?_
    refine wp_seq ?_
    refine wp_region_lit ?_
    refine s_move hm rfl rfl ?_
    clear hm a; intro a hm
    refine s_assign hm rfl rfl ?_
    clear hm a; intro a hm
    refine wpList_nil ?_
    replace hm : Fr 20 a [(2, v_6)] := hm.keep [2]
    refine x_then_n ?_
    refine wp_ret ?_
    obtain rfl := Option.some.inj H
    exact f_ret hm (rs := [.tmp 2]) rfl (.tmp rfl .nil) ⟨_, rfl, v_6, N_2, M_4, rfl, (Sep.sel hS [0, 1] (by decide)), ho_7⟩
  clear hKJ_1
  have hS' := hS.room
  replace hS : Sep w0 w [Mem.no, Mem.no] Z := hS'
  clear hS'
  replace hS : Sep w0 w [Mem.no, Mem.no] Z := hS
  replace hm : Fr 20 a [(0, .int .i64 x0), (2, .slice none 0 0), (3, .slice none 0 0), (4, .int .i64 0)] := hm.keep [0, 2, 3, 4]
  refine c_block ?_
  refine c_loop (fun k_17 a w_17 => ∃ (x_11 : List Int) (x_16 : Int) (v_14 : Value) (N_10 : Mem) (M_12 : Mem), hocketref11_Members.L1 K x0 (fun v => hocketref11_Members.J1 K v) k_17 (x_11, x_16) = some r ∧ Fr 20 a [(0, .int .i64 x0), (2, .slice none 0 0), (3, v_14), (4, .int .i64 x_16)] ∧ Sep w0 w_17 [N_10, M_12] Z ∧ Mem.no.le N_10 ∧ Own (Kd.int .i64) 3 M_12 Mem.no v_14 x_11) K ⟨([] : List Int), 0, .slice none 0 0, Mem.no, Mem.no, H, hm, (Sep.sel hS [0, 1] (by decide)), (Mem.le.refl _), (Own.nil (Kd.int .i64) 3 Mem.no)⟩ (fun a w h => by obtain ⟨_, _, _, _, _, H, _⟩ := h; cases (show (none : Option ((List Int))) = some r from H)) ?_
  clear hm hS a H
  rintro k_17 a w_17 KL_17 hKL_17 ⟨x_11, x_16, v_14, N_10, M_12, H, hm, hS, le_10, ho_15⟩
  replace H : hocketref11_Members.B1 K x0 (fun v => hocketref11_Members.J1 K v) (hocketref11_Members.L1 K x0 (fun v => hocketref11_Members.J1 K v) k_17) x_11 x_16 = some r := H
  unfold hocketref11_Members.B1 at H
  refine c_seq fun KJ_20 hKJ_20 => ?_
  refine wp_seq ?_
  refine wp_region_lit ?_
  refine s_move hm rfl rfl ?_
  clear hm a; intro a hm
  refine s_cmp (b := decide (x_16 < 7)) hm rfl rfl rfl (.inr (.inr (.inl ⟨rfl, rfl⟩))) ?_
  clear hm a; intro a hm
  refine wpList_nil ?_
  replace hm : Fr 20 a [(0, .int .i64 x0), (2, .slice none 0 0), (3, v_14), (4, .int .i64 x_16), (6, .bool (decide (x_16 < 7)))] := hm.keep [0, 2, 3, 4, 6]
  refine x_then_n ?_
  by_cases hc_21 : x_16 < 7
  · rw [if_pos hc_21] at H
    refine c_cond_t hm rfl (decide_eq_true hc_21) ?_
    refine wp_skip ?_
    refine x_then_n (hKJ_20 _ _ ?_)
    refine c_seq fun KJ_22 hKJ_22 => ?_
    refine c_block ?_
    refine wp_seq ?_
    refine wp_region_lit ?_
    refine s_move hm rfl rfl ?_
    clear hm a; intro a hm
    refine s_move hm rfl rfl ?_
    clear hm a; intro a hm
    refine s_conv (wu64 x_16) hm rfl Try.underlying3 Try.underlying38 rfl rfl ?_
    clear hm a; intro a hm
    refine s_shift (r := shr .i64 x0 (wu64 x_16)) hm rfl rfl rfl (wu64_nn _) (.inr ⟨rfl, rfl⟩) ?_
    clear hm a; intro a hm
    refine s_bits (i := shr .i64 x0 (wu64 x_16)) (j := 1) (r := band .i64 (shr .i64 x0 (wu64 x_16)) 1) hm rfl rfl rfl (.inl ⟨rfl, rfl⟩) ?_
    clear hm a; intro a hm
    refine s_cmp (b := ((band .i64 (shr .i64 x0 (wu64 x_16)) 1) == 1)) hm rfl rfl rfl (.inl ⟨rfl, rfl⟩) ?_
    clear hm a; intro a hm
    refine wpList_nil ?_
    replace hm : Fr 20 a [(0, .int .i64 x0), (2, .slice none 0 0), (3, v_14), (4, .int .i64 x_16), (14, .bool ((band .i64 (shr .i64 x0 (wu64 x_16)) 1) == 1))] := hm.keep [0, 2, 3, 4, 14]
    refine x_then_n ?_
    by_cases hc_23 : (band .i64 (shr .i64 x0 (wu64 x_16)) 1) = 1
    · rw [if_pos hc_23] at H
      refine c_cond_t hm rfl (beq_iff_eq.2 hc_23) ?_
      refine wp_region_lit ?_
      refine s_move hm rfl rfl ?_
      clear hm a; intro a hm
      refine s_move hm rfl rfl ?_
      clear hm a; intro a hm
      have hq_28 : Reps (Kd.int .i64) Mem.no ([x_16] : List Int) _ := ((Reps.one (d := (Kd.int .i64)) (x := x_16) (show (Kd.int .i64).K _ _ [.int .i64 x_16] from rfl)).append (Reps.nil (Kd.int .i64) _))
      refine s_buildSlice hm rfl Try.underlying23 ti3 rfl rfl rfl (.cons rfl .nil) rfl rfl rfl hS hq_28 rfl ?_
      intro w_24 v_25 M_26 hS' ho_27
      clear hm a; intro a hm
      replace hS : Sep w0 w_24 [N_10, M_12, M_26] Z := hS'
      clear hS' hq_28
      obtain ⟨t_30, et_30, H⟩ := Option.bind_eq_some_iff.1 H
      refine s_append (J := Mem.no) (I' := Mem.no) (p := 1) 17592186044416 hm rfl rfl rfl Try.underlying23 ti3 rfl rfl rfl rfl hS rfl ho_15 (Src.flat (flat_int .i64) (ho_27.src (hS.own 2))) (Mem.le.refl _) (Mem.le.refl _) et_30 ?_
      intro w_31 v_32 M_33 hS' ho_34
      clear hm a; intro a hm
      replace hS : Sep w0 w_31 [N_10, M_33, M_26] Z := hS'
      clear hS'
      refine s_assign hm rfl rfl ?_
      clear hm a; intro a hm
      refine wpList_nil ?_
      replace hm : Fr 20 a [(0, .int .i64 x0), (2, .slice none 0 0), (3, v_32), (4, .int .i64 x_16)] := hm.keep [0, 2, 3, 4]
      refine x_block_n ?_
      refine x_then_n (hKJ_22 _ _ ?_)
      refine wp_region_lit ?_
      refine s_move hm rfl rfl ?_
      clear hm a; intro a hm
      refine s_arith (r := w64 (x_16 + 1)) hm rfl rfl rfl (.inl ⟨rfl, rfl⟩) ?_
      clear hm a; intro a hm
      refine s_assign hm rfl rfl ?_
      clear hm a; intro a hm
      refine wpList_nil ?_
      replace hm : Fr 20 a [(0, .int .i64 x0), (2, .slice none 0 0), (3, v_32), (4, .int .i64 (w64 (x_16 + 1)))] := hm.keep [0, 2, 3, 4]
      refine x_then_n (hKL_17 _ _ ?_)
      replace hS : Sep w0 w_31 [N_10, M_33, M_26] Z := hS
      replace hm : Fr 20 a [(0, .int .i64 x0), (2, .slice none 0 0), (3, v_32), (4, .int .i64 (w64 (x_16 + 1)))] := hm.keep [0, 2, 3, 4]
      exact ⟨t_30, w64 (x_16 + 1), v_32, N_10, M_33, H, hm, (Sep.sel hS [0, 1] (by decide)), le_10, ho_34⟩
    · rw [if_neg hc_23] at H
      refine c_cond_f hm rfl (beq_eq_false_iff_ne.2 hc_23) ?_
      refine wp_skip ?_
      refine x_block_n ?_
      refine x_then_n (hKJ_22 _ _ ?_)
      refine wp_region_lit ?_
      refine s_move hm rfl rfl ?_
      clear hm a; intro a hm
      refine s_arith (r := w64 (x_16 + 1)) hm rfl rfl rfl (.inl ⟨rfl, rfl⟩) ?_
      clear hm a; intro a hm
      refine s_assign hm rfl rfl ?_
      clear hm a; intro a hm
      refine wpList_nil ?_
      replace hm : Fr 20 a [(0, .int .i64 x0), (2, .slice none 0 0), (3, v_14), (4, .int .i64 (w64 (x_16 + 1)))] := hm.keep [0, 2, 3, 4]
      refine x_then_n (hKL_17 _ _ ?_)
      replace hS : Sep w0 w_17 [N_10, M_12] Z := hS
      replace hm : Fr 20 a [(0, .int .i64 x0), (2, .slice none 0 0), (3, v_14), (4, .int .i64 (w64 (x_16 + 1)))] := hm.keep [0, 2, 3, 4]
      exact ⟨x_11, w64 (x_16 + 1), v_14, N_10, M_12, H, hm, (Sep.sel hS [0, 1] (by decide)), le_10, ho_15⟩
  · rw [if_neg hc_21] at H
    refine c_cond_f hm rfl (decide_eq_false hc_21) ?_
    refine wp_exit (x_then_x (x_then_x (x_block_t ?_)))
    replace hS : Sep w0 w_17 [N_10, M_12] Z := hS
    replace hm : Fr 20 a [(2, .slice none 0 0), (3, v_14)] := hm.keep [2, 3]
    exact x_then_n (hJ_j_9 x_11 H _ _ ⟨v_14, N_10, M_12, hm, (Sep.sel hS [0, 1] (by decide)), le_10, ho_15⟩)

set_option maxHeartbeats 4000000 in
set_option maxRecDepth 20000 in
theorem hocketref11_Most.calls (K : Nat) (x0 : Int) (x1 : Int) (r : Bool) (w0 w : World) (Z A : Mem) (hA : A.le Z) (hS : Sep w0 w [] Z)
    (H : hocketref11_Most.f K x0 x1 = some r) :
    Calls Try.prog 27 [.int .i64 x0, .int .i64 x1].toArray w (Ret fun v w' => ∃ (N : Mem), v = .bool r ∧ Sep w0 w' [N] Z) := by
  unfold hocketref11_Most.f at H
  refine f_enter _ Try.func27 rfl Try.ntmps27 rfl fun a hm => ?_
  replace hm : Fr 21 a [(0, .int .i64 x0), (1, .int .i64 x1)] := hm
  replace hS := hS.start
  replace hS : Sep w0 w [Mem.no] Z := hS
  refine wp_seq ?_
  refine wp_region_lit ?_
  refine s_assign hm rfl rfl ?_
  clear hm a; intro a hm
  refine wpList_nil ?_
  replace hm : Fr 21 a [(0, .int .i64 x0), (1, .int .i64 x1), (4, .bool false)] := hm.keep [0, 1, 4]
  refine x_then_n ?_
  refine wp_seq ?_
  refine wp_region_lit ?_
  refine s_move hm rfl rfl ?_
  clear hm a; intro a hm
  refine s_max hm rfl rfl rfl ?_
  clear hm a; intro a hm
  refine s_min hm rfl rfl rfl ?_
  clear hm a; intro a hm
  refine s_assign hm rfl rfl ?_
  clear hm a; intro a hm
  refine wpList_nil ?_
  replace hm : Fr 21 a [(0, .int .i64 x0), (1, .int .i64 (mn (mx x1 1) 7)), (4, .bool false)] := hm.keep [0, 1, 4]
  refine x_then_n ?_
  refine c_seq fun KJ_1 hKJ_1 => ?_
  refine wp_region_lit ?_
  refine s_move hm rfl rfl ?_
  clear hm a; intro a hm
  refine s_move hm rfl rfl ?_
  clear hm a; intro a hm
  refine s_conv (wu64 (mn (mx x1 1) 7)) hm rfl Try.underlying3 Try.underlying38 rfl rfl ?_
  clear hm a; intro a hm
  refine s_shift (r := shr .i64 x0 (wu64 (mn (mx x1 1) 7))) hm rfl rfl rfl (wu64_nn _) (.inr ⟨rfl, rfl⟩) ?_
  clear hm a; intro a hm
  refine s_cmp (b := ((shr .i64 x0 (wu64 (mn (mx x1 1) 7))) == 0)) hm rfl rfl rfl (.inl ⟨rfl, rfl⟩) ?_
  clear hm a; intro a hm
  refine s_move hm rfl rfl ?_
  clear hm a; intro a hm
  by_cases hc_2 : (shr .i64 x0 (wu64 (mn (mx x1 1) 7))) = 0
  · rw [if_pos hc_2] at H
    refine s_on hm rfl rfl (beq_iff_eq.2 hc_2) ?_
    refine s_move hm rfl rfl ?_
    clear hm a; intro a hm
    refine s_on hm rfl rfl (beq_iff_eq.2 hc_2) ?_
    obtain ⟨t_3, et_3, H⟩ := Option.bind_eq_some_iff.1 H
    refine s_call hm rfl Try.call26 rfl (hocketref11_Members.calls K x0 t_3 w0 _ _ _ (Mem.le.refl _) (hS.enter [] (by decide))  et_3) ?_
    rintro v_7 w_4 ⟨_, N_5, M_9, rfl, hS', hr_8⟩
    clear hm a; intro a hm
    obtain ⟨N_6, hS'', le_6, ln_6⟩ := hS.call [] (by decide) rfl (l' := []) (ow := [M_9]) rfl hS'
    replace hS : Sep w0 w_4 [N_6, M_9] Z := hS''
    clear hS' hS''
    refine s_on hm rfl rfl (beq_iff_eq.2 hc_2) ?_
    refine s_lenO hm rfl Try.underlying23 rfl hr_8 ?_
    clear hm a; intro a hm
    refine s_on hm rfl rfl (beq_iff_eq.2 hc_2) ?_
    refine s_arith (r := w64 (2 * (t_3.length : Int))) hm rfl rfl rfl (.inr (.inr ⟨rfl, rfl⟩)) ?_
    clear hm a; intro a hm
    refine s_on hm rfl rfl (beq_iff_eq.2 hc_2) ?_
    refine s_move hm rfl rfl ?_
    clear hm a; intro a hm
    refine s_on hm rfl rfl (beq_iff_eq.2 hc_2) ?_
    refine s_cmp (b := decide ((w64 (2 * (t_3.length : Int))) > (mn (mx x1 1) 7))) hm rfl rfl rfl (.inr (.inr (.inr (.inr (.inl ⟨rfl, rfl⟩))))) ?_
    clear hm a; intro a hm
    refine s_pick_t hm rfl rfl (beq_iff_eq.2 hc_2) rfl ?_
    clear hm a; intro a hm
    refine s_assign hm rfl rfl ?_
    clear hm a; intro a hm
    refine wpList_nil ?_
    replace hm : Fr 21 a [(4, .bool (decide ((w64 (2 * (t_3.length : Int))) > (mn (mx x1 1) 7))))] := hm.keep [4]
    refine x_then_n (hKJ_1 _ _ ?_)
    refine wp_ret ?_
    obtain rfl := Option.some.inj H
    exact f_ret hm (rs := [.tmp 4]) rfl (.tmp rfl .nil) ⟨_, rfl, N_6, rfl, (Sep.sel hS [0] (by decide))⟩
  · rw [if_neg hc_2] at H
    refine s_off hm rfl rfl rfl (beq_eq_false_iff_ne.2 hc_2) ?_
    clear hm a; intro a hm
    refine s_off hm rfl rfl rfl (beq_eq_false_iff_ne.2 hc_2) ?_
    clear hm a; intro a hm
    refine s_off hm rfl rfl rfl (beq_eq_false_iff_ne.2 hc_2) ?_
    clear hm a; intro a hm
    refine s_off hm rfl rfl rfl (beq_eq_false_iff_ne.2 hc_2) ?_
    clear hm a; intro a hm
    refine s_off hm rfl rfl rfl (beq_eq_false_iff_ne.2 hc_2) ?_
    clear hm a; intro a hm
    refine s_off hm rfl rfl rfl (beq_eq_false_iff_ne.2 hc_2) ?_
    clear hm a; intro a hm
    refine s_pick_f hm rfl rfl (beq_eq_false_iff_ne.2 hc_2) rfl ?_
    clear hm a; intro a hm
    refine s_assign hm rfl rfl ?_
    clear hm a; intro a hm
    refine wpList_nil ?_
    replace hm : Fr 21 a [(4, .bool false)] := hm.keep [4]
    refine x_then_n (hKJ_1 _ _ ?_)
    refine wp_ret ?_
    obtain rfl := Option.some.inj H
    exact f_ret hm (rs := [.tmp 4]) rfl (.tmp rfl .nil) ⟨_, rfl, Mem.no, rfl, (Sep.sel hS [0] (by decide))⟩

set_option maxHeartbeats 4000000 in
set_option maxRecDepth 20000 in
theorem hocketref11_After.calls (K : Nat) (x0 : Int) (x1 : Int) (r : Int) (w0 w : World) (Z A : Mem) (hA : A.le Z) (hS : Sep w0 w [] Z)
    (H : hocketref11_After.f K x0 x1 = some r) :
    Calls Try.prog 29 [.int .i64 x0, .int .i64 x1].toArray w (Ret fun v w' => ∃ (N : Mem), v = .int .i64 r ∧ Sep w0 w' [N] Z) := by
  unfold hocketref11_After.f at H
  refine f_enter _ Try.func29 rfl Try.ntmps29 rfl fun a hm => ?_
  replace hm : Fr 31 a [(0, .int .i64 x0), (1, .int .i64 x1)] := hm
  replace hS := hS.start
  replace hS : Sep w0 w [Mem.no] Z := hS
  refine wp_seq ?_
  refine wp_region_lit ?_
  refine s_assign hm rfl rfl ?_
  clear hm a; intro a hm
  refine wpList_nil ?_
  replace hm : Fr 31 a [(0, .int .i64 x0), (1, .int .i64 x1), (4, .int .i64 0)] := hm.keep [0, 1, 4]
  refine x_then_n ?_
  refine wp_seq ?_
  refine wp_region_lit ?_
  refine s_move hm rfl rfl ?_
  clear hm a; intro a hm
  obtain ⟨t_1, et_1, H⟩ := Option.bind_eq_some_iff.1 H
  refine s_call hm rfl Try.call26 rfl (hocketref11_Members.calls K x0 t_1 w0 _ _ _ (Mem.le.refl _) (hS.enter [] (by decide))  et_1) ?_
  rintro v_5 w_2 ⟨_, N_3, M_7, rfl, hS', hr_6⟩
  clear hm a; intro a hm
  obtain ⟨N_4, hS'', le_4, ln_4⟩ := hS.call [] (by decide) rfl (l' := []) (ow := [M_7]) rfl hS'
  replace hS : Sep w0 w_2 [N_4, M_7] Z := hS''
  clear hS' hS''
  refine s_assign hm rfl rfl ?_
  clear hm a; intro a hm
  refine wpList_nil ?_
  replace hm : Fr 31 a [(1, .int .i64 x1), (4, .int .i64 0), (5, v_5)] := hm.keep [1, 4, 5]
  refine x_then_n ?_
  refine c_seq fun KJ_9 hKJ_9 => ?_
  refine wp_seq ?_
  refine wp_region_lit ?_
  refine s_assign hm rfl rfl ?_
  clear hm a; intro a hm
  refine wpList_nil ?_
  replace hm : Fr 31 a [(1, .int .i64 x1), (4, .int .i64 0), (5, v_5), (6, .int .i64 0)] := hm.keep [1, 4, 5, 6]
  refine x_then_n ?_
  have hJ_j_12 : hocketref11_After.J1 K t_1 = some r → ∀ (a : Act) (w_11 : World), (∃ (N_10 : Mem), Fr 31 a [(4, .int .i64 0), (5, v_5)] ∧ Sep w0 w_11 [N_10, M_7] Z ∧ N_4.le N_10) → KJ_9 a w_11 := by
    clear H hm hS a
    rintro H a w_11 ⟨N_10, hm, hS, le_10⟩
    unfold hocketref11_After.J1 at H
    refine hKJ_9 _ _ ?_
    refine c_seq fun KJ_13 hKJ_13 => ?_
    refine wp_seq ?_
    refine wp_region_lit ?_
    refine s_move hm rfl rfl ?_
    clear hm a; intro a hm
    refine s_lenO hm rfl Try.underlying23 rfl hr_6 ?_
    clear hm a; intro a hm
    refine s_cmp (b := ((t_1.length : Int) == 0)) hm rfl rfl rfl (.inl ⟨rfl, rfl⟩) ?_
    clear hm a; intro a hm
    refine wpList_nil ?_
    replace hm : Fr 31 a [(4, .int .i64 0), (5, v_5), (27, .bool ((t_1.length : Int) == 0))] := hm.keep [4, 5, 27]
    refine x_then_n ?_
    by_cases hc_14 : (t_1.length : Int) = 0
    · rw [if_pos hc_14] at H
      refine c_cond_t hm rfl (beq_iff_eq.2 hc_14) ?_
      refine wp_seq ?_
      refine wp_region_lit ?_
      refine s_assign hm rfl rfl ?_
      clear hm a; intro a hm
      refine wpList_nil ?_
      replace hm : Fr 31 a [(4, .int .i64 (-1)), (5, v_5)] := hm.keep [4, 5]
      refine x_then_n ?_
      refine wp_ret (x_then_r ?_)
      obtain rfl := Option.some.inj H
      exact f_ret hm (rs := [.tmp 4]) rfl (.tmp rfl .nil) ⟨_, rfl, N_10, rfl, (Sep.sel hS [0] (by decide))⟩
    · rw [if_neg hc_14] at H
      refine c_cond_f hm rfl (beq_eq_false_iff_ne.2 hc_14) ?_
      refine wp_skip ?_
      refine x_then_n (hKJ_13 _ _ ?_)
      refine wp_seq ?_
      refine wp_region_lit ?_
      refine s_move hm rfl rfl ?_
      clear hm a; intro a hm
      obtain ⟨t_15, et_15, H⟩ := Option.bind_eq_some_iff.1 H
      refine v_indexO hm rfl Try.underlying23 ti3 rfl rfl rfl hr_6 (hS.own 1) et_15 ?_
      intro ad_16 cs_17 hk_18 hc_19
      obtain rfl := (show cs_17 = [.int .i64 t_15] from hk_18)
      clear hm a; intro a hm
      refine s_load hm rfl rfl (el_one (o := 0) hc_19 Try.underlying3 rfl rfl) ?_
      clear hm a; intro a hm
      refine s_assign hm rfl rfl ?_
      clear hm a; intro a hm
      refine wpList_nil ?_
      replace hm : Fr 31 a [(4, .int .i64 t_15)] := hm.keep [4]
      refine x_then_n ?_
      refine wp_ret ?_
      obtain rfl := Option.some.inj H
      exact f_ret hm (rs := [.tmp 4]) rfl (.tmp rfl .nil) ⟨_, rfl, N_10, rfl, (Sep.sel hS [0] (by decide))⟩
  clear hKJ_9
  replace hS : Sep w0 w_2 [N_4, M_7] Z := hS
  replace hm : Fr 31 a [(1, .int .i64 x1), (4, .int .i64 0), (5, v_5), (6, .int .i64 0)] := hm.keep [1, 4, 5, 6]
  refine c_block ?_
  refine c_loop (fun k_22 a w_22 => ∃ (x_21 : Int) (N_20 : Mem), hocketref11_After.L1 K t_1 x1 (fun v => hocketref11_After.J1 K t_1) k_22 x_21 = some r ∧ Fr 31 a [(1, .int .i64 x1), (4, .int .i64 0), (5, v_5), (6, .int .i64 x_21)] ∧ Sep w0 w_22 [N_20, M_7] Z ∧ N_4.le N_20) K ⟨0, N_4, H, hm, (Sep.sel hS [0, 1] (by decide)), (Mem.le.refl _)⟩ (fun a w h => by obtain ⟨_, _, H, _⟩ := h; cases (show (none : Option (Int)) = some r from H)) ?_
  clear hm hS a H
  rintro k_22 a w_22 KL_22 hKL_22 ⟨x_21, N_20, H, hm, hS, le_20⟩
  replace H : hocketref11_After.B1 K t_1 x1 (fun v => hocketref11_After.J1 K t_1) (hocketref11_After.L1 K t_1 x1 (fun v => hocketref11_After.J1 K t_1) k_22) x_21 = some r := H
  unfold hocketref11_After.B1 at H
  refine c_seq fun KJ_24 hKJ_24 => ?_
  refine wp_seq ?_
  refine wp_region_lit ?_
  refine s_move hm rfl rfl ?_
  clear hm a; intro a hm
  refine s_move hm rfl rfl ?_
  clear hm a; intro a hm
  refine s_lenO hm rfl Try.underlying23 rfl hr_6 ?_
  clear hm a; intro a hm
  refine s_cmp (b := decide (x_21 < (t_1.length : Int))) hm rfl rfl rfl (.inr (.inr (.inl ⟨rfl, rfl⟩))) ?_
  clear hm a; intro a hm
  refine wpList_nil ?_
  replace hm : Fr 31 a [(1, .int .i64 x1), (4, .int .i64 0), (5, v_5), (6, .int .i64 x_21), (12, .bool (decide (x_21 < (t_1.length : Int))))] := hm.keep [1, 4, 5, 6, 12]
  refine x_then_n ?_
  by_cases hc_25 : x_21 < (t_1.length : Int)
  · rw [if_pos hc_25] at H
    refine c_cond_t hm rfl (decide_eq_true hc_25) ?_
    refine wp_skip ?_
    refine x_then_n (hKJ_24 _ _ ?_)
    refine c_seq fun KJ_26 hKJ_26 => ?_
    refine c_block ?_
    refine wp_seq ?_
    refine wp_region_lit ?_
    refine s_move hm rfl rfl ?_
    clear hm a; intro a hm
    refine s_move hm rfl rfl ?_
    clear hm a; intro a hm
    obtain ⟨t_27, et_27, H⟩ := Option.bind_eq_some_iff.1 H
    refine v_indexO hm rfl Try.underlying23 ti3 rfl rfl rfl hr_6 (hS.own 1) et_27 ?_
    intro ad_28 cs_29 hk_30 hc_31
    obtain rfl := (show cs_29 = [.int .i64 t_27] from hk_30)
    clear hm a; intro a hm
    refine s_load hm rfl rfl (el_one (o := 0) hc_31 Try.underlying3 rfl rfl) ?_
    clear hm a; intro a hm
    refine s_move hm rfl rfl ?_
    clear hm a; intro a hm
    refine s_cmp (b := decide (t_27 > x1)) hm rfl rfl rfl (.inr (.inr (.inr (.inr (.inl ⟨rfl, rfl⟩))))) ?_
    clear hm a; intro a hm
    refine wpList_nil ?_
    replace hm : Fr 31 a [(1, .int .i64 x1), (4, .int .i64 0), (5, v_5), (6, .int .i64 x_21), (20, .bool (decide (t_27 > x1)))] := hm.keep [1, 4, 5, 6, 20]
    refine x_then_n ?_
    by_cases hc_32 : t_27 > x1
    · rw [if_pos hc_32] at H
      refine c_cond_t hm rfl (decide_eq_true hc_32) ?_
      refine wp_seq ?_
      refine wp_region_lit ?_
      refine s_move hm rfl rfl ?_
      clear hm a; intro a hm
      refine s_move hm rfl rfl ?_
      clear hm a; intro a hm
      obtain ⟨t_33, et_33, H⟩ := Option.bind_eq_some_iff.1 H
      refine v_indexO hm rfl Try.underlying23 ti3 rfl rfl rfl hr_6 (hS.own 1) et_33 ?_
      intro ad_34 cs_35 hk_36 hc_37
      obtain rfl := (show cs_35 = [.int .i64 t_33] from hk_36)
      clear hm a; intro a hm
      refine s_load hm rfl rfl (el_one (o := 0) hc_37 Try.underlying3 rfl rfl) ?_
      clear hm a; intro a hm
      refine s_assign hm rfl rfl ?_
      clear hm a; intro a hm
      refine wpList_nil ?_
      replace hm : Fr 31 a [(1, .int .i64 x1), (4, .int .i64 t_33), (5, v_5), (6, .int .i64 x_21)] := hm.keep [1, 4, 5, 6]
      refine x_then_n ?_
      refine wp_ret (x_block_r (x_then_r (x_then_r (x_block_r (x_then_r ?_)))))
      obtain rfl := Option.some.inj H
      exact f_ret hm (rs := [.tmp 4]) rfl (.tmp rfl .nil) ⟨_, rfl, N_20, rfl, (Sep.sel hS [0] (by decide))⟩
    · rw [if_neg hc_32] at H
      refine c_cond_f hm rfl (decide_eq_false hc_32) ?_
      refine wp_skip ?_
      refine x_block_n ?_
      refine x_then_n (hKJ_26 _ _ ?_)
      refine wp_region_lit ?_
      refine s_move hm rfl rfl ?_
      clear hm a; intro a hm
      refine s_arith (r := w64 (x_21 + 1)) hm rfl rfl rfl (.inl ⟨rfl, rfl⟩) ?_
      clear hm a; intro a hm
      refine s_assign hm rfl rfl ?_
      clear hm a; intro a hm
      refine wpList_nil ?_
      replace hm : Fr 31 a [(1, .int .i64 x1), (4, .int .i64 0), (5, v_5), (6, .int .i64 (w64 (x_21 + 1)))] := hm.keep [1, 4, 5, 6]
      refine x_then_n (hKL_22 _ _ ?_)
      replace hS : Sep w0 w_22 [N_20, M_7] Z := hS
      replace hm : Fr 31 a [(1, .int .i64 x1), (4, .int .i64 0), (5, v_5), (6, .int .i64 (w64 (x_21 + 1)))] := hm.keep [1, 4, 5, 6]
      exact ⟨w64 (x_21 + 1), N_20, H, hm, (Sep.sel hS [0, 1] (by decide)), le_20⟩
  · rw [if_neg hc_25] at H
    refine c_cond_f hm rfl (decide_eq_false hc_25) ?_
    refine wp_exit (x_then_x (x_then_x (x_block_t ?_)))
    replace hS : Sep w0 w_22 [N_20, M_7] Z := hS
    replace hm : Fr 31 a [(4, .int .i64 0), (5, v_5)] := hm.keep [4, 5]
    exact x_then_n (hJ_j_12  H _ _ ⟨N_20, hm, (Sep.sel hS [0, 1] (by decide)), le_20⟩)

set_option maxHeartbeats 4000000 in
set_option maxRecDepth 20000 in
theorem hocketref11_Limit.calls (x0 : Int) (r : Int) (w0 w : World) (Z A : Mem) (hA : A.le Z) (hS : Sep w0 w [] Z)
    (H : hocketref11_Limit.f x0 = some r) :
    Calls Try.prog 30 [.int .i64 x0].toArray w (Ret fun v w' => ∃ (N : Mem), v = .int .i64 r ∧ Sep w0 w' [N] Z) := by
  unfold hocketref11_Limit.f at H
  refine f_enter _ Try.func30 rfl Try.ntmps30 rfl fun a hm => ?_
  replace hm : Fr 8 a [(0, .int .i64 x0)] := hm
  replace hS := hS.start
  replace hS : Sep w0 w [Mem.no] Z := hS
  refine wp_seq ?_
  refine wp_region_lit ?_
  refine s_assign hm rfl rfl ?_
  clear hm a; intro a hm
  refine wpList_nil ?_
  replace hm : Fr 8 a [(0, .int .i64 x0), (2, .int .i64 0)] := hm.keep [0, 2]
  refine x_then_n ?_
  refine wp_seq ?_
  refine wp_region_lit ?_
  refine s_move hm rfl rfl ?_
  clear hm a; intro a hm
  refine s_max hm rfl rfl rfl ?_
  clear hm a; intro a hm
  refine s_min hm rfl rfl rfl ?_
  clear hm a; intro a hm
  refine s_arith (r := w64 (40 * (mn (mx x0 0) 6))) hm rfl rfl rfl (.inr (.inr ⟨rfl, rfl⟩)) ?_
  clear hm a; intro a hm
  refine s_arith (r := w64 (400 + (w64 (40 * (mn (mx x0 0) 6))))) hm rfl rfl rfl (.inl ⟨rfl, rfl⟩) ?_
  clear hm a; intro a hm
  refine s_assign hm rfl rfl ?_
  clear hm a; intro a hm
  refine wpList_nil ?_
  replace hm : Fr 8 a [(2, .int .i64 (w64 (400 + (w64 (40 * (mn (mx x0 0) 6))))))] := hm.keep [2]
  refine x_then_n ?_
  refine wp_ret ?_
  obtain rfl := Option.some.inj H
  exact f_ret hm (rs := [.tmp 2]) rfl (.tmp rfl .nil) ⟨_, rfl, Mem.no, rfl, (Sep.sel hS [0] (by decide))⟩

set_option maxHeartbeats 4000000 in
set_option maxRecDepth 20000 in
theorem hocketlaw7_Keys.calls (x0 : Int) (r : (List UInt8)) (w0 w : World) (Z A : Mem) (hA : A.le Z) (hS : Sep w0 w [] Z)
    (H : hocketlaw7_Keys.f x0 = some r) :
    Calls Try.prog 77 [.int .i64 x0].toArray w (Ret fun v w' => ∃ (u0 : Value) (N : Mem), v = u0 ∧ Sep w0 w' [N] Z ∧ Rd Kd.u8 N u0 r) := by
  unfold hocketlaw7_Keys.f at H
  refine f_enter _ Try.func77 rfl Try.ntmps77 rfl fun a hm => ?_
  replace hm : Fr 9 a [(0, .int .i64 x0)] := hm
  replace hS := hS.start
  replace hS : Sep w0 w [Mem.no] Z := hS
  refine wp_seq ?_
  refine wp_region_lit ?_
  refine s_assign hm rfl rfl ?_
  clear hm a; intro a hm
  refine wpList_nil ?_
  replace hm : Fr 9 a [(0, .int .i64 x0), (2, .slice none 0 0)] := hm.keep [0, 2]
  refine x_then_n ?_
  refine wp_seq ?_
  refine wp_region_lit ?_
  have hq_5 : Reps Kd.str Mem.no ([([] : List UInt8), ([97] : List UInt8), ([98] : List UInt8), ([99] : List UInt8), ([97, 98] : List UInt8), ([97, 98, 99] : List UInt8), ([122] : List UInt8), ([0] : List UInt8), ([255] : List UInt8), ([97, 98, 99, 100, 101, 102, 103, 104] : List UInt8), ([97, 98, 99, 100, 101, 102, 103, 104, 105] : List UInt8), ([107, 49] : List UInt8), ([107, 50] : List UInt8), ([107, 51] : List UInt8), ([107, 52] : List UInt8), ([107, 53] : List UInt8)] : List (List UInt8)) _ := ((Reps.one (d := Kd.str) (x := ([] : List UInt8)) (show Kd.str.K _ _ [.string ⟨([] : List UInt8).toArray⟩] from rfl)).append ((Reps.one (d := Kd.str) (x := ([97] : List UInt8)) (show Kd.str.K _ _ [.string ⟨([97] : List UInt8).toArray⟩] from rfl)).append ((Reps.one (d := Kd.str) (x := ([98] : List UInt8)) (show Kd.str.K _ _ [.string ⟨([98] : List UInt8).toArray⟩] from rfl)).append ((Reps.one (d := Kd.str) (x := ([99] : List UInt8)) (show Kd.str.K _ _ [.string ⟨([99] : List UInt8).toArray⟩] from rfl)).append ((Reps.one (d := Kd.str) (x := ([97, 98] : List UInt8)) (show Kd.str.K _ _ [.string ⟨([97, 98] : List UInt8).toArray⟩] from rfl)).append ((Reps.one (d := Kd.str) (x := ([97, 98, 99] : List UInt8)) (show Kd.str.K _ _ [.string ⟨([97, 98, 99] : List UInt8).toArray⟩] from rfl)).append ((Reps.one (d := Kd.str) (x := ([122] : List UInt8)) (show Kd.str.K _ _ [.string ⟨([122] : List UInt8).toArray⟩] from rfl)).append ((Reps.one (d := Kd.str) (x := ([0] : List UInt8)) (show Kd.str.K _ _ [.string ⟨([0] : List UInt8).toArray⟩] from rfl)).append ((Reps.one (d := Kd.str) (x := ([255] : List UInt8)) (show Kd.str.K _ _ [.string ⟨([255] : List UInt8).toArray⟩] from rfl)).append ((Reps.one (d := Kd.str) (x := ([97, 98, 99, 100, 101, 102, 103, 104] : List UInt8)) (show Kd.str.K _ _ [.string ⟨([97, 98, 99, 100, 101, 102, 103, 104] : List UInt8).toArray⟩] from rfl)).append ((Reps.one (d := Kd.str) (x := ([97, 98, 99, 100, 101, 102, 103, 104, 105] : List UInt8)) (show Kd.str.K _ _ [.string ⟨([97, 98, 99, 100, 101, 102, 103, 104, 105] : List UInt8).toArray⟩] from rfl)).append ((Reps.one (d := Kd.str) (x := ([107, 49] : List UInt8)) (show Kd.str.K _ _ [.string ⟨([107, 49] : List UInt8).toArray⟩] from rfl)).append ((Reps.one (d := Kd.str) (x := ([107, 50] : List UInt8)) (show Kd.str.K _ _ [.string ⟨([107, 50] : List UInt8).toArray⟩] from rfl)).append ((Reps.one (d := Kd.str) (x := ([107, 51] : List UInt8)) (show Kd.str.K _ _ [.string ⟨([107, 51] : List UInt8).toArray⟩] from rfl)).append ((Reps.one (d := Kd.str) (x := ([107, 52] : List UInt8)) (show Kd.str.K _ _ [.string ⟨([107, 52] : List UInt8).toArray⟩] from rfl)).append ((Reps.one (d := Kd.str) (x := ([107, 53] : List UInt8)) (show Kd.str.K _ _ [.string ⟨([107, 53] : List UInt8).toArray⟩] from rfl)).append (Reps.nil Kd.str _)))))))))))))))))
  refine s_buildSlice hm rfl Try.underlying93 ti9 rfl rfl rfl (.cons rfl (.cons rfl (.cons rfl (.cons rfl (.cons rfl (.cons rfl (.cons rfl (.cons rfl (.cons rfl (.cons rfl (.cons rfl (.cons rfl (.cons rfl (.cons rfl (.cons rfl (.cons rfl .nil)))))))))))))))) rfl rfl rfl hS hq_5 rfl ?_
  intro w_1 v_2 M_3 hS' ho_4
  clear hm a; intro a hm
  replace hS : Sep w0 w_1 [Mem.no, M_3] Z := hS'
  clear hS' hq_5
  refine s_move hm rfl rfl ?_
  clear hm a; intro a hm
  refine s_bits (i := x0) (j := 15) (r := band .i64 x0 15) hm rfl rfl rfl (.inl ⟨rfl, rfl⟩) ?_
  clear hm a; intro a hm
  obtain ⟨t_7, et_7, H⟩ := Option.bind_eq_some_iff.1 H
  refine v_indexO hm rfl Try.underlying93 ti9 rfl rfl rfl ho_4 (hS.own 1) et_7 ?_
  intro ad_8 cs_9 hk_10 hc_11
  obtain rfl := (show cs_9 = [.string ⟨t_7.toArray⟩] from hk_10)
  clear hm a; intro a hm
  refine s_load hm rfl rfl (el_one (o := 0) hc_11 Try.underlying9 rfl rfl) ?_
  clear hm a; intro a hm
  obtain ⟨u_12, eu_12, H⟩ := Option.bind_eq_some_iff.1 H
  refine s_s2b hm rfl Try.underlying9 Try.underlying22 Try.underlying5 rfl (must_some eu_12) hS ?_
  intro w_13 v_14 M_15 hS' hr_16
  clear hm a; intro a hm
  obtain ⟨N_17, hS'', le_17, lo_17⟩ := Sep.freeze (l := [M_3, M_15]) hS' 1 rfl
  replace hS : Sep w0 w_13 [N_17, M_3, Mem.no] Z := hS''
  clear hS' hS''
  refine s_assign hm rfl rfl ?_
  clear hm a; intro a hm
  refine wpList_nil ?_
  replace hm : Fr 9 a [(2, v_14)] := hm.keep [2]
  refine x_then_n ?_
  refine wp_ret ?_
  obtain rfl := Option.some.inj H
  exact f_ret hm (rs := [.tmp 2]) rfl (.tmp rfl .nil) ⟨_, rfl, v_14, N_17, rfl, (Sep.sel hS [0] (by decide)), (hr_16.mono lo_17)⟩


end Go.Proofs
