/- What the calls do: each function once. -/
import Derived.Test.YtabedbggldnkhaaViewMeetsc0
namespace Go.Proofs
open Go.Gp
set_option linter.unusedVariables false
set_option maxHeartbeats 4000000 in
set_option maxRecDepth 20000 in
theorem hocketref1_SameInts.calls (K : Nat) (x0 : List Int) (p0_0 : Value) (x1 : List Int) (p1_1 : Value) (r : Bool) (w0 w : World) (Z A : Mem) (hA : A.le Z) (hS : Sep w0 w [] Z) (hp0_0 : Rd (Kd.int .i64) A p0_0 x0) (hp1_1 : Rd (Kd.int .i64) A p1_1 x1)
    (H : hocketref1_SameInts.f K x0 x1 = some r) :
    Calls Try.prog 25 [p0_0, p1_1].toArray w (Ret fun v w' => ∃ (N : Mem), v = .bool r ∧ Sep w0 w' [N] Z) := by
  unfold hocketref1_SameInts.f at H
  refine f_enter _ Try.func25 rfl Try.ntmps25 rfl fun a hm => ?_
  replace hm : Fr 26 a [(0, p0_0), (1, p1_1)] := hm
  replace hS := hS.start
  replace hS : Sep w0 w [Mem.no] Z := hS
  refine wp_seq ?_
  refine wp_region_lit ?_
  refine s_assign hm rfl rfl ?_
  clear hm a; intro a hm
  refine wpList_nil ?_
  replace hm : Fr 26 a [(0, p0_0), (1, p1_1), (4, .bool false)] := hm.keep [0, 1, 4]
  refine x_then_n ?_
  refine c_seq fun KJ_1 hKJ_1 => ?_
  refine wp_seq ?_
  refine wp_region_lit ?_
  refine s_move hm rfl rfl ?_
  clear hm a; intro a hm
  refine s_len hm rfl Try.underlying23 rfl hp0_0 ?_
  clear hm a; intro a hm
  refine s_move hm rfl rfl ?_
  clear hm a; intro a hm
  refine s_len hm rfl Try.underlying23 rfl hp1_1 ?_
  clear hm a; intro a hm
  refine s_cmp (b := ((x0.length : Int) != (x1.length : Int))) hm rfl rfl rfl (.inr (.inl ⟨rfl, rfl⟩)) ?_
  clear hm a; intro a hm
  refine wpList_nil ?_
  replace hm : Fr 26 a [(0, p0_0), (1, p1_1), (4, .bool false), (10, .bool ((x0.length : Int) != (x1.length : Int)))] := hm.keep [0, 1, 4, 10]
  refine x_then_n ?_
  by_cases hc_2 : (x0.length : Int) = (x1.length : Int)
  · rw [if_pos hc_2] at H
    refine c_cond_f hm rfl (bne_eq_false_iff_eq.2 hc_2) ?_
    refine wp_skip ?_
    refine x_then_n (hKJ_1 _ _ ?_)
    refine c_seq fun KJ_3 hKJ_3 => ?_
    refine wp_seq ?_
    refine wp_region_lit ?_
    refine s_assign hm rfl rfl ?_
    clear hm a; intro a hm
    refine wpList_nil ?_
    replace hm : Fr 26 a [(0, p0_0), (1, p1_1), (4, .bool false), (5, .int .i64 0)] := hm.keep [0, 1, 4, 5]
    refine x_then_n ?_
    have hJ_j_6 : hocketref1_SameInts.J1 K = some r → ∀ (a : Act) (w_5 : World), (∃ (N_4 : Mem), Fr 26 a [(4, .bool false)] ∧ Sep w0 w_5 [N_4] Z ∧ Mem.no.le N_4) → KJ_3 a w_5 := by
      clear H hm hS a
      rintro H a w_5 ⟨N_4, hm, hS, le_4⟩
      unfold hocketref1_SameInts.J1 at H
      refine hKJ_3 _ _ ?_
      refine wp_seq ?_
      refine wp_region_lit ?_
      refine s_assign hm rfl rfl ?_
      clear hm a; intro a hm
      refine wpList_nil ?_
      replace hm : Fr 26 a [(4, .bool true)] := hm.keep [4]
      refine x_then_n ?_
      refine wp_ret ?_
      obtain rfl := Option.some.inj H
      exact f_ret hm (rs := [.tmp 4]) rfl (.tmp rfl .nil) ⟨_, rfl, N_4, rfl, (Sep.sel hS [0] (by decide))⟩
    clear hKJ_3
    replace hS : Sep w0 w [Mem.no] Z := hS
    replace hm : Fr 26 a [(0, p0_0), (1, p1_1), (4, .bool false), (5, .int .i64 0)] := hm.keep [0, 1, 4, 5]
    refine c_block ?_
    refine c_loop (fun k_9 a w_9 => ∃ (x_8 : Int) (N_7 : Mem), hocketref1_SameInts.L1 K x0 x1 (fun v => hocketref1_SameInts.J1 K) k_9 x_8 = some r ∧ Fr 26 a [(0, p0_0), (1, p1_1), (4, .bool false), (5, .int .i64 x_8)] ∧ Sep w0 w_9 [N_7] Z ∧ Mem.no.le N_7) K ⟨0, Mem.no, H, hm, (Sep.sel hS [0] (by decide)), (Mem.le.refl _)⟩ (fun a w h => by obtain ⟨_, _, H, _⟩ := h; cases (show (none : Option (Bool)) = some r from H)) ?_
    clear hm hS a H
    rintro k_9 a w_9 KL_9 hKL_9 ⟨x_8, N_7, H, hm, hS, le_7⟩
    replace H : hocketref1_SameInts.B1 K x0 x1 (fun v => hocketref1_SameInts.J1 K) (hocketref1_SameInts.L1 K x0 x1 (fun v => hocketref1_SameInts.J1 K) k_9) x_8 = some r := H
    unfold hocketref1_SameInts.B1 at H
    refine c_seq fun KJ_11 hKJ_11 => ?_
    refine wp_seq ?_
    refine wp_region_lit ?_
    refine s_move hm rfl rfl ?_
    clear hm a; intro a hm
    refine s_move hm rfl rfl ?_
    clear hm a; intro a hm
    refine s_len hm rfl Try.underlying23 rfl hp0_0 ?_
    clear hm a; intro a hm
    refine s_cmp (b := decide (x_8 < (x0.length : Int))) hm rfl rfl rfl (.inr (.inr (.inl ⟨rfl, rfl⟩))) ?_
    clear hm a; intro a hm
    refine wpList_nil ?_
    replace hm : Fr 26 a [(0, p0_0), (1, p1_1), (4, .bool false), (5, .int .i64 x_8), (14, .bool (decide (x_8 < (x0.length : Int))))] := hm.keep [0, 1, 4, 5, 14]
    refine x_then_n ?_
    by_cases hc_12 : x_8 < (x0.length : Int)
    · rw [if_pos hc_12] at H
      refine c_cond_t hm rfl (decide_eq_true hc_12) ?_
      refine wp_skip ?_
      refine x_then_n (hKJ_11 _ _ ?_)
      refine c_seq fun KJ_13 hKJ_13 => ?_
      refine c_block ?_
      refine c_seq fun KJ_14 hKJ_14 => ?_
      refine h_begin (S := fun w => Sep w0 w [N_7] Z) 9 (by kernel_rfl) rfl [false, false, false, false, false, false, false, false, false].toArray rfl hS fun w_15 hS => ?_
      replace hS : Sep w0 w_15 [N_7] Z := hS
      refine h_take 0 [true, false, false, false, false, false, false, false, false].toArray rfl (by kernel_rfl) (by kernel_rfl) (by kernel_rfl) (fun _ _ _ _ h => h) rfl rfl rfl rfl hm (hS.sub (.cons (Mem.le.refl _) (Sub.nil _))) (v := p0_0) (fun w hS => r_move hm rfl) ?_
      clear hm a; intro a hm
      refine h_take 1 [true, true, false, false, false, false, false, false, false].toArray rfl (by kernel_rfl) (by kernel_rfl) (by kernel_rfl) (fun _ _ _ _ h => h) rfl rfl rfl rfl hm (hS.sub (.cons (Mem.le.refl _) (Sub.nil _))) (v := .int .i64 x_8) (fun w hS => r_move hm rfl) ?_
      clear hm a; intro a hm
      obtain ⟨t_16, et_16, H⟩ := Option.bind_eq_some_iff.1 H
      refine h_takeE 2 [true, true, true, false, false, false, false, false, false].toArray rfl (by kernel_rfl) (by kernel_rfl) (by kernel_rfl) (fun _ _ _ _ h => h) rfl rfl rfl rfl hm (hS.sub (.cons (Mem.le.refl _) (Sub.nil _))) (f := fun ad => .pointer (some ad)) (r_index hm Try.underlying23 ti3 rfl rfl rfl hp0_0 et_16) ?_
      rintro ad_17 ⟨cs_18, hk_19, hc_20⟩
      obtain rfl := (show cs_18 = [.int .i64 t_16] from hk_19)
      clear hm a; intro a hm
      refine h_take 3 [true, true, true, true, false, false, false, false, false].toArray rfl (by kernel_rfl) (by kernel_rfl) (by kernel_rfl) (fun _ _ _ _ h => h) rfl rfl rfl rfl hm (hS.sub (.cons (Mem.le.refl _) (Sub.nil _))) (v := .int .i64 t_16) (fun w hS => r_load hm rfl (el_one (o := 0) (fun j c h => Mem.cell_le (hA.trans hS.old) (hc_20 j c h)) Try.underlying3 rfl rfl)) ?_
      clear hm a; intro a hm
      refine h_take 4 [true, true, true, true, true, false, false, false, false].toArray rfl (by kernel_rfl) (by kernel_rfl) (by kernel_rfl) (fun _ _ _ _ h => h) rfl rfl rfl rfl hm (hS.sub (.cons (Mem.le.refl _) (Sub.nil _))) (v := p1_1) (fun w hS => r_move hm rfl) ?_
      clear hm a; intro a hm
      refine h_take 5 [true, true, true, true, true, true, false, false, false].toArray rfl (by kernel_rfl) (by kernel_rfl) (by kernel_rfl) (fun _ _ _ _ h => h) rfl rfl rfl rfl hm (hS.sub (.cons (Mem.le.refl _) (Sub.nil _))) (v := .int .i64 x_8) (fun w hS => r_move hm rfl) ?_
      clear hm a; intro a hm
      obtain ⟨t_21, et_21, H⟩ := Option.bind_eq_some_iff.1 H
      refine h_takeE 6 [true, true, true, true, true, true, true, false, false].toArray rfl (by kernel_rfl) (by kernel_rfl) (by kernel_rfl) (fun _ _ _ _ h => h) rfl rfl rfl rfl hm (hS.sub (.cons (Mem.le.refl _) (Sub.nil _))) (f := fun ad => .pointer (some ad)) (r_index hm Try.underlying23 ti3 rfl rfl rfl hp1_1 et_21) ?_
      rintro ad_22 ⟨cs_23, hk_24, hc_25⟩
      obtain rfl := (show cs_23 = [.int .i64 t_21] from hk_24)
      clear hm a; intro a hm
      refine h_take 7 [true, true, true, true, true, true, true, true, false].toArray rfl (by kernel_rfl) (by kernel_rfl) (by kernel_rfl) (fun _ _ _ _ h => h) rfl rfl rfl rfl hm (hS.sub (.cons (Mem.le.refl _) (Sub.nil _))) (v := .int .i64 t_21) (fun w hS => r_load hm rfl (el_one (o := 0) (fun j c h => Mem.cell_le (hA.trans hS.old) (hc_25 j c h)) Try.underlying3 rfl rfl)) ?_
      clear hm a; intro a hm
      refine h_take 8 [true, true, true, true, true, true, true, true, true].toArray rfl (by kernel_rfl) (by kernel_rfl) (by kernel_rfl) (fun _ _ _ _ h => h) rfl rfl rfl rfl hm (hS.sub (.cons (Mem.le.refl _) (Sub.nil _))) (v := .bool (t_16 != t_21)) (fun w hS => r_cmp (b := (t_16 != t_21)) hm rfl rfl (.inr (.inl ⟨rfl, rfl⟩))) ?_
      clear hm a; intro a hm
      refine h_done (by kernel_rfl) ?_
      replace hm : Fr 26 a [(0, p0_0), (1, p1_1), (4, .bool false), (5, .int .i64 x_8), (25, .bool (t_16 != t_21))] := hm.keep [0, 1, 4, 5, 25]
      refine x_then_n (hKJ_14 _ _ ?_)
      by_cases hc_26 : t_16 = t_21
      · rw [if_pos hc_26] at H
        refine c_cond_f hm rfl (bne_eq_false_iff_eq.2 hc_26) ?_
        refine wp_skip ?_
        refine x_block_n ?_
        refine x_then_n (hKJ_13 _ _ ?_)
        refine wp_region_lit ?_
        refine s_move hm rfl rfl ?_
        clear hm a; intro a hm
        refine s_arith (r := w64 (x_8 + 1)) hm rfl rfl rfl (.inl ⟨rfl, rfl⟩) ?_
        clear hm a; intro a hm
        refine s_assign hm rfl rfl ?_
        clear hm a; intro a hm
        refine wpList_nil ?_
        replace hm : Fr 26 a [(0, p0_0), (1, p1_1), (4, .bool false), (5, .int .i64 (w64 (x_8 + 1)))] := hm.keep [0, 1, 4, 5]
        refine x_then_n (hKL_9 _ _ ?_)
        replace hS : Sep w0 w_15 [N_7] Z := hS
        replace hm : Fr 26 a [(0, p0_0), (1, p1_1), (4, .bool false), (5, .int .i64 (w64 (x_8 + 1)))] := hm.keep [0, 1, 4, 5]
        exact ⟨w64 (x_8 + 1), N_7, H, hm, (Sep.sel hS [0] (by decide)), le_7⟩
      · rw [if_neg hc_26] at H
        refine c_cond_t hm rfl (bne_iff_ne.2 hc_26) ?_
        refine wp_seq ?_
        refine wp_region_lit ?_
        refine s_assign hm rfl rfl ?_
        clear hm a; intro a hm
        refine wpList_nil ?_
        replace hm : Fr 26 a [(0, p0_0), (1, p1_1), (4, .bool false), (5, .int .i64 x_8)] := hm.keep [0, 1, 4, 5]
        refine x_then_n ?_
        refine wp_ret (x_block_r (x_then_r (x_then_r (x_block_r (x_then_r ?_)))))
        obtain rfl := Option.some.inj H
        exact f_ret hm (rs := [.tmp 4]) rfl (.tmp rfl .nil) ⟨_, rfl, N_7, rfl, (Sep.sel hS [0] (by decide))⟩
    · rw [if_neg hc_12] at H
      refine c_cond_f hm rfl (decide_eq_false hc_12) ?_
      refine wp_exit (x_then_x (x_then_x (x_block_t ?_)))
      replace hS : Sep w0 w_9 [N_7] Z := hS
      replace hm : Fr 26 a [(4, .bool false)] := hm.keep [4]
      exact x_then_n (hJ_j_6  H _ _ ⟨N_7, hm, (Sep.sel hS [0] (by decide)), le_7⟩)
  · rw [if_neg hc_2] at H
    refine c_cond_t hm rfl (bne_iff_ne.2 hc_2) ?_
    refine wp_seq ?_
    refine wp_region_lit ?_
    refine s_assign hm rfl rfl ?_
    clear hm a; intro a hm
    refine wpList_nil ?_
    replace hm : Fr 26 a [(0, p0_0), (1, p1_1), (4, .bool false)] := hm.keep [0, 1, 4]
    refine x_then_n ?_
    refine wp_ret (x_then_r ?_)
    obtain rfl := Option.some.inj H
    exact f_ret hm (rs := [.tmp 4]) rfl (.tmp rfl .nil) ⟨_, rfl, Mem.no, rfl, (Sep.sel hS [0] (by decide))⟩

set_option maxHeartbeats 4000000 in
set_option maxRecDepth 20000 in
theorem view_After.calls (K : Nat) (x0 : Int) (x1 : Int) (r : Int) (w0 w : World) (Z A : Mem) (hA : A.le Z) (hS : Sep w0 w [] Z)
    (H : view_After.f K x0 x1 = some r) :
    Calls Try.prog 28 [.int .i64 x0, .int .i64 x1].toArray w (Ret fun v w' => ∃ (N : Mem), v = .int .i64 r ∧ Sep w0 w' [N] Z) := by
  unfold view_After.f at H
  refine f_enter _ Try.func28 rfl Try.ntmps28 rfl fun a hm => ?_
  replace hm : Fr 27 a [(0, .int .i64 x0), (1, .int .i64 x1)] := hm
  replace hS := hS.start
  replace hS : Sep w0 w [Mem.no] Z := hS
  refine wp_seq ?_
  refine wp_region_lit ?_
  refine s_assign hm rfl rfl ?_
  clear hm a; intro a hm
  refine wpList_nil ?_
  replace hm : Fr 27 a [(0, .int .i64 x0), (1, .int .i64 x1), (4, .int .i64 0)] := hm.keep [0, 1, 4]
  refine x_then_n ?_
  refine wp_seq ?_
  refine wp_region_lit ?_
  refine s_move hm rfl rfl ?_
  clear hm a; intro a hm
  obtain ⟨t_1, et_1, H⟩ := Option.bind_eq_some_iff.1 H
  refine s_call hm rfl Try.call18 rfl (view_Members.calls K x0 t_1 w0 _ _ _ (Mem.le.refl _) (hS.enter [] (by decide))  et_1) ?_
  rintro v_5 w_2 ⟨_, N_3, M_7, rfl, hS', hr_6⟩
  clear hm a; intro a hm
  obtain ⟨N_4, hS'', le_4, ln_4⟩ := hS.call [] (by decide) rfl (l' := []) (ow := [M_7]) rfl hS'
  replace hS : Sep w0 w_2 [N_4, M_7] Z := hS''
  clear hS' hS''
  refine s_assign hm rfl rfl ?_
  clear hm a; intro a hm
  refine wpList_nil ?_
  replace hm : Fr 27 a [(1, .int .i64 x1), (4, .int .i64 0), (5, v_5)] := hm.keep [1, 4, 5]
  refine x_then_n ?_
  refine c_seq fun KJ_9 hKJ_9 => ?_
  refine wp_seq ?_
  refine wp_region_lit ?_
  refine s_move hm rfl rfl ?_
  clear hm a; intro a hm
  refine s_lenO hm rfl Try.underlying23 rfl hr_6 ?_
  clear hm a; intro a hm
  refine s_move hm rfl rfl ?_
  clear hm a; intro a hm
  refine wpList_nil ?_
  replace hm : Fr 27 a [(1, .int .i64 x1), (4, .int .i64 0), (5, v_5), (10, v_5), (11, .int .i64 (t_1.length : Int)), (12, .int .i64 0)] := hm.keep [1, 4, 5, 10, 11, 12]
  refine x_then_n ?_
  have hJ_j_12 : view_After.J1 K t_1 = some r → ∀ (a : Act) (w_11 : World), (∃ (N_10 : Mem), Fr 27 a [(4, .int .i64 0), (5, v_5)] ∧ Sep w0 w_11 [N_10, M_7] Z ∧ N_4.le N_10) → KJ_9 a w_11 := by
    clear H hm hS a
    rintro H a w_11 ⟨N_10, hm, hS, le_10⟩
    unfold view_After.J1 at H
    refine hKJ_9 _ _ ?_
    refine c_seq fun KJ_13 hKJ_13 => ?_
    refine wp_seq ?_
    refine wp_region_lit ?_
    refine s_move hm rfl rfl ?_
    clear hm a; intro a hm
    refine s_lenO hm rfl Try.underlying23 rfl hr_6 ?_
    clear hm a; intro a hm
    refine s_cmp (b := ((t_1.length : Int) == 0)) hm rfl rfl rfl (.inl ⟨rfl, rfl⟩) ?_
    clear hm a; intro a hm
    refine wpList_nil ?_
    replace hm : Fr 27 a [(4, .int .i64 0), (5, v_5), (23, .bool ((t_1.length : Int) == 0))] := hm.keep [4, 5, 23]
    refine x_then_n ?_
    by_cases hc_14 : (t_1.length : Int) = 0
    · rw [if_pos hc_14] at H
      refine c_cond_t hm rfl (beq_iff_eq.2 hc_14) ?_
      refine wp_seq ?_
      refine wp_region_lit ?_
      refine s_assign hm rfl rfl ?_
      clear hm a; intro a hm
      refine wpList_nil ?_
      replace hm : Fr 27 a [(4, .int .i64 (-1)), (5, v_5)] := hm.keep [4, 5]
      refine x_then_n ?_
      refine wp_ret (x_then_r ?_)
      obtain rfl := Option.some.inj H
      exact f_ret hm (rs := [.tmp 4]) rfl (.tmp rfl .nil) ⟨_, rfl, N_10, rfl, (Sep.sel hS [0] (by decide))⟩
    · rw [if_neg hc_14] at H
      refine c_cond_f hm rfl (beq_eq_false_iff_ne.2 hc_14) ?_
      refine wp_skip ?_
      refine x_then_n (hKJ_13 _ _ ?_)
      refine wp_seq ?_
      refine wp_region_lit ?_
      refine s_move hm rfl rfl ?_
      clear hm a; intro a hm
      obtain ⟨t_15, et_15, H⟩ := Option.bind_eq_some_iff.1 H
      refine v_indexO hm rfl Try.underlying23 ti3 rfl rfl rfl hr_6 (hS.own 1) et_15 ?_
      intro ad_16 cs_17 hk_18 hc_19
      obtain rfl := (show cs_17 = [.int .i64 t_15] from hk_18)
      clear hm a; intro a hm
      refine s_load hm rfl rfl (el_one (o := 0) hc_19 Try.underlying3 rfl rfl) ?_
      clear hm a; intro a hm
      refine s_assign hm rfl rfl ?_
      clear hm a; intro a hm
      refine wpList_nil ?_
      replace hm : Fr 27 a [(4, .int .i64 t_15)] := hm.keep [4]
      refine x_then_n ?_
      refine wp_ret ?_
      obtain rfl := Option.some.inj H
      exact f_ret hm (rs := [.tmp 4]) rfl (.tmp rfl .nil) ⟨_, rfl, N_10, rfl, (Sep.sel hS [0] (by decide))⟩
  clear hKJ_9
  replace hS : Sep w0 w_2 [N_4, M_7] Z := hS
  replace hm : Fr 27 a [(1, .int .i64 x1), (4, .int .i64 0), (5, v_5), (10, v_5), (11, .int .i64 (t_1.length : Int)), (12, .int .i64 0)] := hm.keep [1, 4, 5, 10, 11, 12]
  refine c_block ?_
  refine c_loop (fun k_22 a w_22 => ∃ (x_21 : Int) (N_20 : Mem), view_After.L1 K t_1 x1 (fun v => view_After.J1 K t_1) k_22 x_21 = some r ∧ Fr 27 a [(1, .int .i64 x1), (4, .int .i64 0), (5, v_5), (10, v_5), (11, .int .i64 (t_1.length : Int)), (12, .int .i64 x_21)] ∧ Sep w0 w_22 [N_20, M_7] Z ∧ N_4.le N_20) K ⟨0, N_4, H, hm, (Sep.sel hS [0, 1] (by decide)), (Mem.le.refl _)⟩ (fun a w h => by obtain ⟨_, _, H, _⟩ := h; cases (show (none : Option (Int)) = some r from H)) ?_
  clear hm hS a H
  rintro k_22 a w_22 KL_22 hKL_22 ⟨x_21, N_20, H, hm, hS, le_20⟩
  replace H : view_After.B1 K t_1 x1 (fun v => view_After.J1 K t_1) (view_After.L1 K t_1 x1 (fun v => view_After.J1 K t_1) k_22) x_21 = some r := H
  unfold view_After.B1 at H
  refine wp_seq ?_
  refine wp_region_lit ?_
  refine s_cmp (b := decide (x_21 < (t_1.length : Int))) hm rfl rfl rfl (.inr (.inr (.inl ⟨rfl, rfl⟩))) ?_
  clear hm a; intro a hm
  refine wpList_nil ?_
  replace hm : Fr 27 a [(1, .int .i64 x1), (4, .int .i64 0), (5, v_5), (10, v_5), (11, .int .i64 (t_1.length : Int)), (12, .int .i64 x_21), (13, .bool (decide (x_21 < (t_1.length : Int))))] := hm.keep [1, 4, 5, 10, 11, 12, 13]
  refine x_then_n ?_
  refine c_seq fun KJ_24 hKJ_24 => ?_
  by_cases hc_25 : x_21 < (t_1.length : Int)
  · rw [if_pos hc_25] at H
    refine c_cond_t hm rfl (decide_eq_true hc_25) ?_
    refine wp_skip ?_
    refine x_then_n (hKJ_24 _ _ ?_)
    refine c_seq fun KJ_26 hKJ_26 => ?_
    refine c_block ?_
    refine wp_seq ?_
    refine wp_region_lit ?_
    obtain ⟨t_27, et_27, H⟩ := Option.bind_eq_some_iff.1 H
    refine v_indexO hm rfl Try.underlying23 ti3 rfl rfl rfl hr_6 (hS.own 1) et_27 ?_
    intro ad_28 cs_29 hk_30 hc_31
    obtain rfl := (show cs_29 = [.int .i64 t_27] from hk_30)
    clear hm a; intro a hm
    refine s_load hm rfl rfl (el_one (o := 0) hc_31 Try.underlying3 rfl rfl) ?_
    clear hm a; intro a hm
    refine s_assign hm rfl rfl ?_
    clear hm a; intro a hm
    refine wpList_nil ?_
    replace hm : Fr 27 a [(1, .int .i64 x1), (4, .int .i64 0), (5, v_5), (7, .int .i64 t_27), (10, v_5), (11, .int .i64 (t_1.length : Int)), (12, .int .i64 x_21)] := hm.keep [1, 4, 5, 7, 10, 11, 12]
    refine x_then_n ?_
    refine wp_seq ?_
    refine wp_region_lit ?_
    refine s_move hm rfl rfl ?_
    clear hm a; intro a hm
    refine s_move hm rfl rfl ?_
    clear hm a; intro a hm
    refine s_cmp (b := decide (t_27 > x1)) hm rfl rfl rfl (.inr (.inr (.inr (.inr (.inl ⟨rfl, rfl⟩))))) ?_
    clear hm a; intro a hm
    refine wpList_nil ?_
    replace hm : Fr 27 a [(1, .int .i64 x1), (4, .int .i64 0), (5, v_5), (7, .int .i64 t_27), (10, v_5), (11, .int .i64 (t_1.length : Int)), (12, .int .i64 x_21), (18, .bool (decide (t_27 > x1)))] := hm.keep [1, 4, 5, 7, 10, 11, 12, 18]
    refine x_then_n ?_
    by_cases hc_32 : t_27 > x1
    · rw [if_pos hc_32] at H
      refine c_cond_t hm rfl (decide_eq_true hc_32) ?_
      refine wp_seq ?_
      refine wp_region_lit ?_
      refine s_move hm rfl rfl ?_
      clear hm a; intro a hm
      refine s_assign hm rfl rfl ?_
      clear hm a; intro a hm
      refine wpList_nil ?_
      replace hm : Fr 27 a [(1, .int .i64 x1), (4, .int .i64 t_27), (5, v_5), (10, v_5), (11, .int .i64 (t_1.length : Int)), (12, .int .i64 x_21)] := hm.keep [1, 4, 5, 10, 11, 12]
      refine x_then_n ?_
      refine wp_ret (x_block_r (x_then_r (x_then_r (x_block_r (x_then_r ?_)))))
      obtain rfl := Option.some.inj H
      exact f_ret hm (rs := [.tmp 4]) rfl (.tmp rfl .nil) ⟨_, rfl, N_20, rfl, (Sep.sel hS [0] (by decide))⟩
    · rw [if_neg hc_32] at H
      refine c_cond_f hm rfl (decide_eq_false hc_32) ?_
      refine wp_skip ?_
      refine x_block_n ?_
      refine x_then_n (hKJ_26 _ _ ?_)
      refine wp_region_lit ?_
      refine s_arith (r := w64 (x_21 + 1)) hm rfl rfl rfl (.inl ⟨rfl, rfl⟩) ?_
      clear hm a; intro a hm
      refine s_move hm rfl rfl ?_
      clear hm a; intro a hm
      refine wpList_nil ?_
      replace hm : Fr 27 a [(1, .int .i64 x1), (4, .int .i64 0), (5, v_5), (10, v_5), (11, .int .i64 (t_1.length : Int)), (12, .int .i64 (w64 (x_21 + 1)))] := hm.keep [1, 4, 5, 10, 11, 12]
      refine x_then_n (hKL_22 _ _ ?_)
      replace hS : Sep w0 w_22 [N_20, M_7] Z := hS
      replace hm : Fr 27 a [(1, .int .i64 x1), (4, .int .i64 0), (5, v_5), (10, v_5), (11, .int .i64 (t_1.length : Int)), (12, .int .i64 (w64 (x_21 + 1)))] := hm.keep [1, 4, 5, 10, 11, 12]
      exact ⟨w64 (x_21 + 1), N_20, H, hm, (Sep.sel hS [0, 1] (by decide)), le_20⟩
  · rw [if_neg hc_25] at H
    refine c_cond_f hm rfl (decide_eq_false hc_25) ?_
    refine wp_exit (x_then_x (x_then_x (x_block_t ?_)))
    replace hS : Sep w0 w_22 [N_20, M_7] Z := hS
    replace hm : Fr 27 a [(4, .int .i64 0), (5, v_5)] := hm.keep [4, 5]
    exact x_then_n (hJ_j_12  H _ _ ⟨N_20, hm, (Sep.sel hS [0, 1] (by decide)), le_20⟩)

set_option maxHeartbeats 4000000 in
set_option maxRecDepth 20000 in
theorem hocketlaw14_awake.calls (K : Nat) (r : Unit) (w0 w : World) (Z A : Mem) (hA : A.le Z) (hS : Sep w0 w [] Z)
    (H : hocketlaw14_awake.f K = some r) :
    Calls Try.prog 17 [].toArray w (Ret fun v w' => ∃ (N : Mem), v = .bool true ∧ Sep w0 w' [N] Z) := by
  unfold hocketlaw14_awake.f at H
  refine f_enter _ Try.func17 rfl Try.ntmps17 rfl fun a hm => ?_
  replace hm : Fr 86 a [] := hm
  replace hS := hS.start
  replace hS : Sep w0 w [Mem.no] Z := hS
  refine wp_seq ?_
  refine wp_region_lit ?_
  refine s_assign hm rfl rfl ?_
  clear hm a; intro a hm
  refine wpList_nil ?_
  replace hm : Fr 86 a [(0, .bool false)] := hm.keep [0]
  refine x_then_n ?_
  refine wp_seq ?_
  refine wp_region_lit ?_
  refine s_build hm rfl ti29 pl29 rfl (.cons rfl (.cons rfl (.cons rfl (.cons rfl .nil)))) (cs := [.int .i64 2, .int .i64 0, .int .i64 0, .int .i64 0, .int .i64 8, .int .i64 5, .bool false, .int .i64 0, .int .i64 0, .int .i64 0, .int .i64 0, .slice none 0 0, .int .i64 0, .int .i64 0, .slice none 0 0, .slice none 0 0, .int .i64 0, .int .i64 0, .int .i64 0, .int .i64 0, .int .i64 0, .slice none 0 0, .slice none 0 0, .slice none 0 0]) rfl ?_
  clear hm a; intro a hm
  refine s_build hm rfl ti29 pl29 rfl (.cons rfl (.cons rfl (.cons rfl (.cons rfl (.cons rfl .nil))))) (cs := [.int .i64 2, .int .i64 1, .int .i64 0, .int .i64 0, .int .i64 8, .int .i64 3, .bool true, .int .i64 0, .int .i64 0, .int .i64 0, .int .i64 0, .slice none 0 0, .int .i64 0, .int .i64 0, .slice none 0 0, .slice none 0 0, .int .i64 0, .int .i64 0, .int .i64 0, .int .i64 0, .int .i64 0, .slice none 0 0, .slice none 0 0, .slice none 0 0]) rfl ?_
  clear hm a; intro a hm
  refine s_build hm rfl ti29 pl29 rfl (.cons rfl (.cons rfl (.cons rfl (.cons rfl .nil)))) (cs := [.int .i64 2, .int .i64 2, .int .i64 0, .int .i64 0, .int .i64 0, .int .i64 9, .bool true, .int .i64 0, .int .i64 0, .int .i64 0, .int .i64 0, .slice none 0 0, .int .i64 0, .int .i64 0, .slice none 0 0, .slice none 0 0, .int .i64 0, .int .i64 0, .int .i64 0, .int .i64 0, .int .i64 0, .slice none 0 0, .slice none 0 0, .slice none 0 0]) rfl ?_
  clear hm a; intro a hm
  have hq_5 : Reps k_api_Msg Mem.no ([(⟨2, 0, 0, 0, 8, 5, false, 0, 0, 0, 0, ([] : List UInt8), 0, 0, ([] : List Int), ([] : List Int), 0, (⟨0, 0, (⟨0, 0, ([] : List UInt8), ([] : List UInt8), ([] : List UInt8)⟩ : api_Cmd)⟩ : api_Entry)⟩ : api_Msg), (⟨2, 1, 0, 0, 8, 3, true, 0, 0, 0, 0, ([] : List UInt8), 0, 0, ([] : List Int), ([] : List Int), 0, (⟨0, 0, (⟨0, 0, ([] : List UInt8), ([] : List UInt8), ([] : List UInt8)⟩ : api_Cmd)⟩ : api_Entry)⟩ : api_Msg), (⟨2, 2, 0, 0, 0, 9, true, 0, 0, 0, 0, ([] : List UInt8), 0, 0, ([] : List Int), ([] : List Int), 0, (⟨0, 0, (⟨0, 0, ([] : List UInt8), ([] : List UInt8), ([] : List UInt8)⟩ : api_Cmd)⟩ : api_Entry)⟩ : api_Msg)] : List api_Msg) _ := ((Reps.one (d := k_api_Msg) (x := (⟨2, 0, 0, 0, 8, 5, false, 0, 0, 0, 0, ([] : List UInt8), 0, 0, ([] : List Int), ([] : List Int), 0, (⟨0, 0, (⟨0, 0, ([] : List UInt8), ([] : List UInt8), ([] : List UInt8)⟩ : api_Cmd)⟩ : api_Entry)⟩ : api_Msg)) (k_api_Msg.mk' (Rd.nil _ _) (Rd.nil _ _) (Rd.nil _ _) (Rd.nil _ _) (Rd.nil _ _) (Rd.nil _ _))).append ((Reps.one (d := k_api_Msg) (x := (⟨2, 1, 0, 0, 8, 3, true, 0, 0, 0, 0, ([] : List UInt8), 0, 0, ([] : List Int), ([] : List Int), 0, (⟨0, 0, (⟨0, 0, ([] : List UInt8), ([] : List UInt8), ([] : List UInt8)⟩ : api_Cmd)⟩ : api_Entry)⟩ : api_Msg)) (k_api_Msg.mk' (Rd.nil _ _) (Rd.nil _ _) (Rd.nil _ _) (Rd.nil _ _) (Rd.nil _ _) (Rd.nil _ _))).append ((Reps.one (d := k_api_Msg) (x := (⟨2, 2, 0, 0, 0, 9, true, 0, 0, 0, 0, ([] : List UInt8), 0, 0, ([] : List Int), ([] : List Int), 0, (⟨0, 0, (⟨0, 0, ([] : List UInt8), ([] : List UInt8), ([] : List UInt8)⟩ : api_Cmd)⟩ : api_Entry)⟩ : api_Msg)) (k_api_Msg.mk' (Rd.nil _ _) (Rd.nil _ _) (Rd.nil _ _) (Rd.nil _ _) (Rd.nil _ _) (Rd.nil _ _))).append (Reps.nil k_api_Msg _))))
  refine s_buildSlice hm rfl Try.underlying31 ti29 rfl rfl rfl (.cons rfl (.cons rfl (.cons rfl .nil))) rfl rfl rfl hS hq_5 rfl ?_
  intro w_1 v_2 M_3 hS' ho_4
  clear hm a; intro a hm
  replace hS : Sep w0 w_1 [Mem.no, M_3] Z := hS'
  clear hS' hq_5
  refine s_assign hm rfl rfl ?_
  clear hm a; intro a hm
  refine wpList_nil ?_
  replace hm : Fr 86 a [(0, .bool false), (1, v_2)] := hm.keep [0, 1]
  refine x_then_n ?_
  refine wp_seq ?_
  refine wp_region_lit ?_
  refine s_move hm rfl rfl ?_
  clear hm a; intro a hm
  obtain ⟨t_7, et_7, H⟩ := Option.bind_eq_some_iff.1 H
  refine s_call hm rfl Try.call16 rfl (view_Choose.calls K ([(⟨2, 0, 0, 0, 8, 5, false, 0, 0, 0, 0, ([] : List UInt8), 0, 0, ([] : List Int), ([] : List Int), 0, (⟨0, 0, (⟨0, 0, ([] : List UInt8), ([] : List UInt8), ([] : List UInt8)⟩ : api_Cmd)⟩ : api_Entry)⟩ : api_Msg), (⟨2, 1, 0, 0, 8, 3, true, 0, 0, 0, 0, ([] : List UInt8), 0, 0, ([] : List Int), ([] : List Int), 0, (⟨0, 0, (⟨0, 0, ([] : List UInt8), ([] : List UInt8), ([] : List UInt8)⟩ : api_Cmd)⟩ : api_Entry)⟩ : api_Msg), (⟨2, 2, 0, 0, 0, 9, true, 0, 0, 0, 0, ([] : List UInt8), 0, 0, ([] : List Int), ([] : List Int), 0, (⟨0, 0, (⟨0, 0, ([] : List UInt8), ([] : List UInt8), ([] : List UInt8)⟩ : api_Cmd)⟩ : api_Entry)⟩ : api_Msg)] : List api_Msg) _ 5 t_7 w0 _ _ _ (Mem.le.refl _) (hS.enter [] (by decide)) (ho_4.rd (hS.own_zed [] 0 (by decide)) ((Mem.le.refl _).trans (hS.new_zed []))) et_7) ?_
  rintro _ w_8 ⟨N_9, rfl, hS'⟩
  clear hm a; intro a hm
  obtain ⟨N_10, hS'', le_10, ln_10⟩ := hS.call [] (by decide) rfl (l' := []) (ow := []) rfl hS'
  replace hS : Sep w0 w_8 [N_10, M_3] Z := hS''
  clear hS' hS''
  refine s_move hm rfl rfl ?_
  clear hm a; intro a hm
  refine s_extract hm rfl rfl rfl ?_
  clear hm a; intro a hm
  refine s_extract hm rfl rfl rfl ?_
  clear hm a; intro a hm
  refine s_extract hm rfl rfl rfl ?_
  clear hm a; intro a hm
  refine s_extract hm rfl rfl rfl ?_
  clear hm a; intro a hm
  refine s_assign hm rfl rfl ?_
  clear hm a; intro a hm
  refine s_assign hm rfl rfl ?_
  clear hm a; intro a hm
  refine s_assign hm rfl rfl ?_
  clear hm a; intro a hm
  refine s_assign hm rfl rfl ?_
  clear hm a; intro a hm
  refine wpList_nil ?_
  replace hm : Fr 86 a [(0, .bool false), (1, v_2), (2, .int .i64 t_7.1), (3, .int .i64 t_7.2.1), (4, .int .i64 t_7.2.2.1), (5, .bool t_7.2.2.2)] := hm.keep [0, 1, 2, 3, 4, 5]
  refine x_then_n ?_
  refine wp_seq ?_
  refine wp_region_lit ?_
  refine s_move hm rfl rfl ?_
  clear hm a; intro a hm
  obtain ⟨N_11, hS', le_11, lo_11⟩ := hS.freeze 0 rfl
  replace hS : Sep w0 w_8 [N_11, Mem.no] Z := hS'
  clear hS'
  obtain ⟨t_12, et_12, H⟩ := Option.bind_eq_some_iff.1 H
  refine s_slice hm rfl Try.underlying31 ti29 rfl rfl (ho_4.rd lo_11 (le_10.trans le_11)) rfl rfl et_12 ?_
  intro v_13 hr_14
  clear hm a; intro a hm
  obtain ⟨t_15, et_15, H⟩ := Option.bind_eq_some_iff.1 H
  refine s_call hm rfl Try.call16 rfl (view_Choose.calls K t_12 _ 5 t_15 w0 _ _ _ (Mem.le.refl _) (hS.enter [] (by decide)) (hr_14.mono ((Mem.le.refl _).trans (hS.new_zed []))) et_15) ?_
  rintro _ w_16 ⟨N_17, rfl, hS'⟩
  clear hm a; intro a hm
  obtain ⟨N_18, hS'', le_18, ln_18⟩ := hS.call [] (by decide) rfl (l' := []) (ow := []) rfl hS'
  replace hS : Sep w0 w_16 [N_18, Mem.no] Z := hS''
  clear hS' hS''
  refine s_move hm rfl rfl ?_
  clear hm a; intro a hm
  refine s_extract hm rfl rfl rfl ?_
  clear hm a; intro a hm
  refine s_extract hm rfl rfl rfl ?_
  clear hm a; intro a hm
  refine s_extract hm rfl rfl rfl ?_
  clear hm a; intro a hm
  refine s_extract hm rfl rfl rfl ?_
  clear hm a; intro a hm
  refine s_assign hm rfl rfl ?_
  clear hm a; intro a hm
  refine s_assign hm rfl rfl ?_
  clear hm a; intro a hm
  refine s_assign hm rfl rfl ?_
  clear hm a; intro a hm
  refine s_assign hm rfl rfl ?_
  clear hm a; intro a hm
  refine wpList_nil ?_
  replace hm : Fr 86 a [(0, .bool false), (2, .int .i64 t_7.1), (3, .int .i64 t_7.2.1), (4, .int .i64 t_7.2.2.1), (5, .bool t_7.2.2.2), (9, .bool t_15.2.2.2)] := hm.keep [0, 2, 3, 4, 5, 9]
  refine x_then_n ?_
  refine c_seq fun KJ_19 hKJ_19 => ?_
  refine wp_region_lit ?_
  obtain ⟨t_20, et_20, H⟩ := Option.bind_eq_some_iff.1 H
  refine s_call hm rfl Try.call21 rfl (view_Next.calls 0 3 t_20 w0 _ _ _ (Mem.le.refl _) (hS.enter [] (by decide))  et_20) ?_
  rintro _ w_21 ⟨N_22, rfl, hS'⟩
  clear hm a; intro a hm
  obtain ⟨N_23, hS'', le_23, ln_23⟩ := hS.call [] (by decide) rfl (l' := []) (ow := []) rfl hS'
  replace hS : Sep w0 w_21 [N_23, Mem.no] Z := hS''
  clear hS' hS''
  refine s_cmp (b := (t_20 == 11)) hm rfl rfl rfl (.inl ⟨rfl, rfl⟩) ?_
  clear hm a; intro a hm
  refine s_move hm rfl rfl ?_
  clear hm a; intro a hm
  by_cases hc_24 : t_20 = 11
  · rw [if_pos hc_24] at H
    refine s_on hm rfl rfl (beq_iff_eq.2 hc_24) ?_
    obtain ⟨t_25, et_25, H⟩ := Option.bind_eq_some_iff.1 H
    refine s_call hm rfl Try.call21 rfl (view_Next.calls 11 2 t_25 w0 _ _ _ (Mem.le.refl _) (hS.enter [] (by decide))  et_25) ?_
    rintro _ w_26 ⟨N_27, rfl, hS'⟩
    clear hm a; intro a hm
    obtain ⟨N_28, hS'', le_28, ln_28⟩ := hS.call [] (by decide) rfl (l' := []) (ow := []) rfl hS'
    replace hS : Sep w0 w_26 [N_28, Mem.no] Z := hS''
    clear hS' hS''
    refine s_on hm rfl rfl (beq_iff_eq.2 hc_24) ?_
    refine s_cmp (b := (t_25 == 18)) hm rfl rfl rfl (.inl ⟨rfl, rfl⟩) ?_
    clear hm a; intro a hm
    refine s_pick_t hm rfl rfl (beq_iff_eq.2 hc_24) rfl ?_
    clear hm a; intro a hm
    refine s_move hm rfl rfl ?_
    clear hm a; intro a hm
    by_cases hc_29 : t_25 = 18
    · rw [if_pos hc_29] at H
      refine s_on hm rfl rfl (beq_iff_eq.2 hc_29) ?_
      obtain ⟨t_30, et_30, H⟩ := Option.bind_eq_some_iff.1 H
      refine s_call hm rfl Try.call23 rfl (view_Who.calls 18 t_30 w0 _ _ _ (Mem.le.refl _) (hS.enter [] (by decide))  et_30) ?_
      rintro _ w_31 ⟨N_32, rfl, hS'⟩
      clear hm a; intro a hm
      obtain ⟨N_33, hS'', le_33, ln_33⟩ := hS.call [] (by decide) rfl (l' := []) (ow := []) rfl hS'
      replace hS : Sep w0 w_31 [N_33, Mem.no] Z := hS''
      clear hS' hS''
      refine s_on hm rfl rfl (beq_iff_eq.2 hc_29) ?_
      refine s_cmp (b := (t_30 == 2)) hm rfl rfl rfl (.inl ⟨rfl, rfl⟩) ?_
      clear hm a; intro a hm
      refine s_pick_t hm rfl rfl (beq_iff_eq.2 hc_29) rfl ?_
      clear hm a; intro a hm
      refine s_move hm rfl rfl ?_
      clear hm a; intro a hm
      by_cases hc_34 : t_30 = 2
      · rw [if_pos hc_34] at H
        refine s_on hm rfl rfl (beq_iff_eq.2 hc_34) ?_
        obtain ⟨t_35, et_35, H⟩ := Option.bind_eq_some_iff.1 H
        refine s_call hm rfl Try.call18 rfl (view_Members.calls K 11 t_35 w0 _ _ _ (Mem.le.refl _) (hS.enter [] (by decide))  et_35) ?_
        rintro v_39 w_36 ⟨_, N_37, M_41, rfl, hS', hr_40⟩
        clear hm a; intro a hm
        obtain ⟨N_38, hS'', le_38, ln_38⟩ := hS.call [] (by decide) rfl (l' := []) (ow := [M_41]) rfl hS'
        replace hS : Sep w0 w_36 [N_38, Mem.no, M_41] Z := hS''
        clear hS' hS''
        refine s_on hm rfl rfl (beq_iff_eq.2 hc_34) ?_
        have hq_47 : Reps (Kd.int .i64) Mem.no ([0, 1, 3] : List Int) _ := ((Reps.one (d := (Kd.int .i64)) (x := 0) (show (Kd.int .i64).K _ _ [.int .i64 0] from rfl)).append ((Reps.one (d := (Kd.int .i64)) (x := 1) (show (Kd.int .i64).K _ _ [.int .i64 1] from rfl)).append ((Reps.one (d := (Kd.int .i64)) (x := 3) (show (Kd.int .i64).K _ _ [.int .i64 3] from rfl)).append (Reps.nil (Kd.int .i64) _))))
        refine s_buildSlice hm rfl Try.underlying23 ti3 rfl rfl rfl (.cons rfl (.cons rfl (.cons rfl .nil))) rfl rfl rfl hS hq_47 rfl ?_
        intro w_43 v_44 M_45 hS' ho_46
        clear hm a; intro a hm
        replace hS : Sep w0 w_43 [N_38, Mem.no, M_41, M_45] Z := hS'
        clear hS' hq_47
        refine s_on hm rfl rfl (beq_iff_eq.2 hc_34) ?_
        obtain ⟨t_49, et_49, H⟩ := Option.bind_eq_some_iff.1 H
        refine s_call hm rfl Try.call25 rfl (hocketref1_SameInts.calls K t_35 _ ([0, 1, 3] : List Int) _ t_49 w0 _ _ _ (Mem.le.refl _) (hS.enter [] (by decide)) (hr_40.rd (hS.own_zed [] 1 (by decide)) (Mem.no_le _)) (ho_46.rd (hS.own_zed [] 2 (by decide)) (Mem.no_le _)) et_49) ?_
        rintro _ w_50 ⟨N_51, rfl, hS'⟩
        clear hm a; intro a hm
        obtain ⟨N_52, hS'', le_52, ln_52⟩ := hS.call [] (by decide) rfl (l' := []) (ow := []) rfl hS'
        replace hS : Sep w0 w_50 [N_52, Mem.no, M_41, M_45] Z := hS''
        clear hS' hS''
        refine s_pick_t hm rfl rfl (beq_iff_eq.2 hc_34) rfl ?_
        clear hm a; intro a hm
        refine s_move hm rfl rfl ?_
        clear hm a; intro a hm
        by_cases hc_53 : t_49 = true
        · rw [if_pos hc_53] at H
          refine s_on hm rfl rfl hc_53 ?_
          obtain ⟨t_54, et_54, H⟩ := Option.bind_eq_some_iff.1 H
          refine s_call hm rfl Try.call19 rfl (view_Most.calls 3 4 t_54 w0 _ _ _ (Mem.le.refl _) (hS.enter [] (by decide))  et_54) ?_
          rintro _ w_55 ⟨N_56, rfl, hS'⟩
          clear hm a; intro a hm
          obtain ⟨N_57, hS'', le_57, ln_57⟩ := hS.call [] (by decide) rfl (l' := []) (ow := []) rfl hS'
          replace hS : Sep w0 w_55 [N_57, Mem.no, M_41, M_45] Z := hS''
          clear hS' hS''
          refine s_on hm rfl rfl hc_53 ?_
          refine s_not hm rfl rfl ?_
          clear hm a; intro a hm
          refine s_pick_t hm rfl rfl hc_53 rfl ?_
          clear hm a; intro a hm
          refine s_move hm rfl rfl ?_
          clear hm a; intro a hm
          by_cases hc_58 : t_54 = true
          · rw [if_pos hc_58] at H
            cases H
          · rw [if_neg hc_58] at H
            refine s_on hm rfl rfl (nt (Bool.eq_false_iff.2 hc_58)) ?_
            obtain ⟨t_59, et_59, H⟩ := Option.bind_eq_some_iff.1 H
            refine s_call hm rfl Try.call19 rfl (view_Most.calls 7 5 t_59 w0 _ _ _ (Mem.le.refl _) (hS.enter [] (by decide))  et_59) ?_
            rintro _ w_60 ⟨N_61, rfl, hS'⟩
            clear hm a; intro a hm
            obtain ⟨N_62, hS'', le_62, ln_62⟩ := hS.call [] (by decide) rfl (l' := []) (ow := []) rfl hS'
            replace hS : Sep w0 w_60 [N_62, Mem.no, M_41, M_45] Z := hS''
            clear hS' hS''
            refine s_pick_t hm rfl rfl (nt (Bool.eq_false_iff.2 hc_58)) rfl ?_
            clear hm a; intro a hm
            refine s_move hm rfl rfl ?_
            clear hm a; intro a hm
            by_cases hc_63 : t_59 = true
            · rw [if_pos hc_63] at H
              refine s_on hm rfl rfl hc_63 ?_
              obtain ⟨t_64, et_64, H⟩ := Option.bind_eq_some_iff.1 H
              refine s_call hm rfl Try.call28 rfl (view_After.calls K 11 1 t_64 w0 _ _ _ (Mem.le.refl _) (hS.enter [] (by decide))  et_64) ?_
              rintro _ w_65 ⟨N_66, rfl, hS'⟩
              clear hm a; intro a hm
              obtain ⟨N_67, hS'', le_67, ln_67⟩ := hS.call [] (by decide) rfl (l' := []) (ow := []) rfl hS'
              replace hS : Sep w0 w_65 [N_67, Mem.no, M_41, M_45] Z := hS''
              clear hS' hS''
              refine s_on hm rfl rfl hc_63 ?_
              refine s_cmp (b := (t_64 == 3)) hm rfl rfl rfl (.inl ⟨rfl, rfl⟩) ?_
              clear hm a; intro a hm
              refine s_pick_t hm rfl rfl hc_63 rfl ?_
              clear hm a; intro a hm
              refine s_move hm rfl rfl ?_
              clear hm a; intro a hm
              by_cases hc_68 : t_64 = 3
              · rw [if_pos hc_68] at H
                refine s_on hm rfl rfl (beq_iff_eq.2 hc_68) ?_
                obtain ⟨t_69, et_69, H⟩ := Option.bind_eq_some_iff.1 H
                refine s_call hm rfl Try.call28 rfl (view_After.calls K 11 3 t_69 w0 _ _ _ (Mem.le.refl _) (hS.enter [] (by decide))  et_69) ?_
                rintro _ w_70 ⟨N_71, rfl, hS'⟩
                clear hm a; intro a hm
                obtain ⟨N_72, hS'', le_72, ln_72⟩ := hS.call [] (by decide) rfl (l' := []) (ow := []) rfl hS'
                replace hS : Sep w0 w_70 [N_72, Mem.no, M_41, M_45] Z := hS''
                clear hS' hS''
                refine s_on hm rfl rfl (beq_iff_eq.2 hc_68) ?_
                refine s_cmp (b := (t_69 == 0)) hm rfl rfl rfl (.inl ⟨rfl, rfl⟩) ?_
                clear hm a; intro a hm
                refine s_pick_t hm rfl rfl (beq_iff_eq.2 hc_68) rfl ?_
                clear hm a; intro a hm
                refine s_move hm rfl rfl ?_
                clear hm a; intro a hm
                by_cases hc_73 : t_69 = 0
                · rw [if_pos hc_73] at H
                  refine s_on hm rfl rfl (beq_iff_eq.2 hc_73) ?_
                  obtain ⟨t_74, et_74, H⟩ := Option.bind_eq_some_iff.1 H
                  refine s_call hm rfl Try.call28 rfl (view_After.calls K 0 0 t_74 w0 _ _ _ (Mem.le.refl _) (hS.enter [] (by decide))  et_74) ?_
                  rintro _ w_75 ⟨N_76, rfl, hS'⟩
                  clear hm a; intro a hm
                  obtain ⟨N_77, hS'', le_77, ln_77⟩ := hS.call [] (by decide) rfl (l' := []) (ow := []) rfl hS'
                  replace hS : Sep w0 w_75 [N_77, Mem.no, M_41, M_45] Z := hS''
                  clear hS' hS''
                  refine s_on hm rfl rfl (beq_iff_eq.2 hc_73) ?_
                  refine s_cmp (b := (t_74 == (-1))) hm rfl rfl rfl (.inl ⟨rfl, rfl⟩) ?_
                  clear hm a; intro a hm
                  refine s_pick_t hm rfl rfl (beq_iff_eq.2 hc_73) rfl ?_
                  clear hm a; intro a hm
                  refine s_move hm rfl rfl ?_
                  clear hm a; intro a hm
                  by_cases hc_78 : t_74 = (-1)
                  · rw [if_pos hc_78] at H
                    refine s_on hm rfl rfl (beq_iff_eq.2 hc_78) ?_
                    refine s_move hm rfl rfl ?_
                    clear hm a; intro a hm
                    refine s_pick_t hm rfl rfl (beq_iff_eq.2 hc_78) rfl ?_
                    clear hm a; intro a hm
                    refine s_move hm rfl rfl ?_
                    clear hm a; intro a hm
                    by_cases hc_79 : t_7.2.2.2 = true
                    · rw [if_pos hc_79] at H
                      refine s_on hm rfl rfl hc_79 ?_
                      refine s_move hm rfl rfl ?_
                      clear hm a; intro a hm
                      refine s_on hm rfl rfl hc_79 ?_
                      refine s_cmp (b := (t_7.1 == 7)) hm rfl rfl rfl (.inl ⟨rfl, rfl⟩) ?_
                      clear hm a; intro a hm
                      refine s_pick_t hm rfl rfl hc_79 rfl ?_
                      clear hm a; intro a hm
                      refine s_move hm rfl rfl ?_
                      clear hm a; intro a hm
                      by_cases hc_80 : t_7.1 = 7
                      · rw [if_pos hc_80] at H
                        refine s_on hm rfl rfl (beq_iff_eq.2 hc_80) ?_
                        refine s_move hm rfl rfl ?_
                        clear hm a; intro a hm
                        refine s_on hm rfl rfl (beq_iff_eq.2 hc_80) ?_
                        refine s_cmp (b := (t_7.2.1 == 1)) hm rfl rfl rfl (.inl ⟨rfl, rfl⟩) ?_
                        clear hm a; intro a hm
                        refine s_pick_t hm rfl rfl (beq_iff_eq.2 hc_80) rfl ?_
                        clear hm a; intro a hm
                        refine s_move hm rfl rfl ?_
                        clear hm a; intro a hm
                        by_cases hc_81 : t_7.2.1 = 1
                        · rw [if_pos hc_81] at H
                          refine s_on hm rfl rfl (beq_iff_eq.2 hc_81) ?_
                          refine s_move hm rfl rfl ?_
                          clear hm a; intro a hm
                          refine s_on hm rfl rfl (beq_iff_eq.2 hc_81) ?_
                          refine s_cmp (b := (t_7.2.2.1 == 3)) hm rfl rfl rfl (.inl ⟨rfl, rfl⟩) ?_
                          clear hm a; intro a hm
                          refine s_pick_t hm rfl rfl (beq_iff_eq.2 hc_81) rfl ?_
                          clear hm a; intro a hm
                          refine s_move hm rfl rfl ?_
                          clear hm a; intro a hm
                          by_cases hc_82 : t_7.2.2.1 = 3
                          · rw [if_pos hc_82] at H
                            refine s_on hm rfl rfl (beq_iff_eq.2 hc_82) ?_
                            refine s_move hm rfl rfl ?_
                            clear hm a; intro a hm
                            refine s_on hm rfl rfl (beq_iff_eq.2 hc_82) ?_
                            refine s_not hm rfl rfl ?_
                            clear hm a; intro a hm
                            refine s_pick_t hm rfl rfl (beq_iff_eq.2 hc_82) rfl ?_
                            clear hm a; intro a hm
                            refine s_move hm rfl rfl ?_
                            clear hm a; intro a hm
                            by_cases hc_83 : t_15.2.2.2 = true
                            · rw [if_pos hc_83] at H
                              cases H
                            · rw [if_neg hc_83] at H
                              refine s_on hm rfl rfl (nt (Bool.eq_false_iff.2 hc_83)) ?_
                              obtain ⟨t_84, et_84, H⟩ := Option.bind_eq_some_iff.1 H
                              refine s_call hm rfl Try.call20 rfl (view_Limit.calls 1 t_84 w0 _ _ _ (Mem.le.refl _) (hS.enter [] (by decide))  et_84) ?_
                              rintro _ w_85 ⟨N_86, rfl, hS'⟩
                              clear hm a; intro a hm
                              obtain ⟨N_87, hS'', le_87, ln_87⟩ := hS.call [] (by decide) rfl (l' := []) (ow := []) rfl hS'
                              replace hS : Sep w0 w_85 [N_87, Mem.no, M_41, M_45] Z := hS''
                              clear hS' hS''
                              refine s_on hm rfl rfl (nt (Bool.eq_false_iff.2 hc_83)) ?_
                              refine s_cmp (b := (t_84 == 440)) hm rfl rfl rfl (.inl ⟨rfl, rfl⟩) ?_
                              clear hm a; intro a hm
                              refine s_pick_t hm rfl rfl (nt (Bool.eq_false_iff.2 hc_83)) rfl ?_
                              clear hm a; intro a hm
                              refine s_assign hm rfl rfl ?_
                              clear hm a; intro a hm
                              refine wpList_nil ?_
                              replace hm : Fr 86 a [(0, .bool (t_84 == 440))] := hm.keep [0]
                              refine x_then_n (hKJ_19 _ _ ?_)
                              refine wp_ret ?_
                              by_cases hc_88 : t_84 = 440
                              · rw [if_pos hc_88] at H
                                exact f_ret hm (rs := [.tmp 0]) rfl (.tmp rfl .nil) ⟨_, rfl, N_87, (by rw [(beq_iff_eq.2 hc_88)]; rfl), (Sep.sel hS [0] (by decide))⟩
                              · rw [if_neg hc_88] at H
                                cases H
                          · rw [if_neg hc_82] at H
                            cases H
                        · rw [if_neg hc_81] at H
                          cases H
                      · rw [if_neg hc_80] at H
                        cases H
                    · rw [if_neg hc_79] at H
                      cases H
                  · rw [if_neg hc_78] at H
                    cases H
                · rw [if_neg hc_73] at H
                  cases H
              · rw [if_neg hc_68] at H
                cases H
            · rw [if_neg hc_63] at H
              cases H
        · rw [if_neg hc_53] at H
          cases H
      · rw [if_neg hc_34] at H
        cases H
    · rw [if_neg hc_29] at H
      cases H
  · rw [if_neg hc_24] at H
    cases H

set_option maxHeartbeats 4000000 in
set_option maxRecDepth 20000 in
theorem hocketlaw14_ViewMeets.calls (K : Nat) (x0 : Int) (x1 : Int) (x2 : Int) (x3 : Int) (x4 : Int) (x5 : Int) (r : Unit) (w0 w : World) (Z A : Mem) (hA : A.le Z) (hS : Sep w0 w [] Z)
    (H : hocketlaw14_ViewMeets.f K x0 x1 x2 x3 x4 x5 = some r) :
    Calls Try.prog 6 [.int .i64 x0, .int .i64 x1, .int .i64 x2, .int .i64 x3, .int .i64 x4, .int .i64 x5].toArray w (Ret fun v w' => ∃ (N : Mem), v = .bool true ∧ Sep w0 w' [N] Z) := by
  unfold hocketlaw14_ViewMeets.f at H
  refine f_enter _ Try.func6 rfl Try.ntmps6 rfl fun a hm => ?_
  replace hm : Fr 121 a [(0, .int .i64 x0), (1, .int .i64 x1), (2, .int .i64 x2), (3, .int .i64 x3), (4, .int .i64 x4), (5, .int .i64 x5)] := hm
  replace hS := hS.start
  replace hS : Sep w0 w [Mem.no] Z := hS
  refine wp_seq ?_
  refine wp_region_lit ?_
  refine s_assign hm rfl rfl ?_
  clear hm a; intro a hm
  refine wpList_nil ?_
  replace hm : Fr 121 a [(0, .int .i64 x0), (1, .int .i64 x1), (2, .int .i64 x2), (3, .int .i64 x3), (4, .int .i64 x4), (5, .int .i64 x5), (12, .bool false)] := hm.keep [0, 1, 2, 3, 4, 5, 12]
  refine x_then_n ?_
  refine wp_seq ?_
  refine wp_region_lit ?_
  refine s_move hm rfl rfl ?_
  clear hm a; intro a hm
  refine s_bits (i := x0) (j := 127) (r := band .i64 x0 127) hm rfl rfl rfl (.inl ⟨rfl, rfl⟩) ?_
  clear hm a; intro a hm
  refine s_move hm rfl rfl ?_
  clear hm a; intro a hm
  refine s_bits (i := x1) (j := 127) (r := band .i64 x1 127) hm rfl rfl rfl (.inl ⟨rfl, rfl⟩) ?_
  clear hm a; intro a hm
  refine s_move hm rfl rfl ?_
  clear hm a; intro a hm
  refine s_bits (i := x2) (j := 255) (r := band .i64 x2 255) hm rfl rfl rfl (.inl ⟨rfl, rfl⟩) ?_
  clear hm a; intro a hm
  refine s_div (r := Int.tmod (band .i64 x2 255) 7) hm rfl rfl rfl (by decide) (.inr ⟨rfl, rfl⟩) ?_
  clear hm a; intro a hm
  refine s_arith (r := w64 ((Int.tmod (band .i64 x2 255) 7) + 1)) hm rfl rfl rfl (.inl ⟨rfl, rfl⟩) ?_
  clear hm a; intro a hm
  refine s_assign hm rfl rfl ?_
  clear hm a; intro a hm
  refine s_assign hm rfl rfl ?_
  clear hm a; intro a hm
  refine s_assign hm rfl rfl ?_
  clear hm a; intro a hm
  refine wpList_nil ?_
  replace hm : Fr 121 a [(0, .int .i64 (band .i64 x0 127)), (1, .int .i64 (band .i64 x1 127)), (2, .int .i64 (w64 ((Int.tmod (band .i64 x2 255) 7) + 1))), (3, .int .i64 x3), (4, .int .i64 x4), (5, .int .i64 x5), (12, .bool false)] := hm.keep [0, 1, 2, 3, 4, 5, 12]
  refine x_then_n ?_
  refine wp_seq ?_
  refine wp_region_lit ?_
  refine s_move hm rfl rfl ?_
  clear hm a; intro a hm
  refine s_bits (i := x3) (j := 1048575) (r := band .i64 x3 1048575) hm rfl rfl rfl (.inl ⟨rfl, rfl⟩) ?_
  clear hm a; intro a hm
  refine s_move hm rfl rfl ?_
  clear hm a; intro a hm
  refine s_bits (i := x4) (j := 255) (r := band .i64 x4 255) hm rfl rfl rfl (.inl ⟨rfl, rfl⟩) ?_
  clear hm a; intro a hm
  refine s_div (r := Int.tmod (band .i64 x4 255) 7) hm rfl rfl rfl (by decide) (.inr ⟨rfl, rfl⟩) ?_
  clear hm a; intro a hm
  refine s_move hm rfl rfl ?_
  clear hm a; intro a hm
  refine s_bits (i := x5) (j := 255) (r := band .i64 x5 255) hm rfl rfl rfl (.inl ⟨rfl, rfl⟩) ?_
  clear hm a; intro a hm
  refine s_div (r := Int.tmod (band .i64 x5 255) 7) hm rfl rfl rfl (by decide) (.inr ⟨rfl, rfl⟩) ?_
  clear hm a; intro a hm
  refine s_assign hm rfl rfl ?_
  clear hm a; intro a hm
  refine s_assign hm rfl rfl ?_
  clear hm a; intro a hm
  refine s_assign hm rfl rfl ?_
  clear hm a; intro a hm
  refine wpList_nil ?_
  replace hm : Fr 121 a [(0, .int .i64 (band .i64 x0 127)), (1, .int .i64 (band .i64 x1 127)), (2, .int .i64 (w64 ((Int.tmod (band .i64 x2 255) 7) + 1))), (3, .int .i64 (band .i64 x3 1048575)), (4, .int .i64 (Int.tmod (band .i64 x4 255) 7)), (5, .int .i64 (Int.tmod (band .i64 x5 255) 7)), (12, .bool false)] := hm.keep [0, 1, 2, 3, 4, 5, 12]
  refine x_then_n ?_
  refine c_seq fun KJ_1 hKJ_1 => ?_
  refine c_seq fun KJ_2 hKJ_2 => ?_
  have hJ_j_6 : ∀ (x_4 : Bool), hocketlaw14_ViewMeets.J1 K x3 x4 x5 x0 x_4 = some r → ∀ (a : Act) (w_5 : World), (∃ (N_3 : Mem), Fr 121 a [(0, .int .i64 (band .i64 x0 127)), (3, .int .i64 (band .i64 x3 1048575)), (4, .int .i64 (Int.tmod (band .i64 x4 255) 7)), (5, .int .i64 (Int.tmod (band .i64 x5 255) 7)), (12, .bool false), (49, .bool x_4)] ∧ Sep w0 w_5 [N_3] Z ∧ Mem.no.le N_3) → KJ_2 a w_5 := by
    clear H hm hS a
    rintro x_4 H a w_5 ⟨N_3, hm, hS, le_3⟩
    unfold hocketlaw14_ViewMeets.J1 at H
    refine hKJ_2 _ _ ?_
    by_cases hc_7 : x_4 = true
    · rw [if_pos hc_7] at H
      cases H
    · rw [if_neg hc_7] at H
      refine c_cond_f hm rfl (Bool.eq_false_iff.2 hc_7) ?_
      refine wp_skip ?_
      refine x_then_n (hKJ_1 _ _ ?_)
      refine wp_seq ?_
      refine wp_region_lit ?_
      refine s_move hm rfl rfl ?_
      clear hm a; intro a hm
      refine s_move hm rfl rfl ?_
      clear hm a; intro a hm
      obtain ⟨t_8, et_8, H⟩ := Option.bind_eq_some_iff.1 H
      refine s_call hm rfl Try.call21 rfl (view_Next.calls (band .i64 x3 1048575) (Int.tmod (band .i64 x4 255) 7) t_8 w0 _ _ _ (Mem.le.refl _) (hS.enter [] (by decide))  et_8) ?_
      rintro _ w_9 ⟨N_10, rfl, hS'⟩
      clear hm a; intro a hm
      obtain ⟨N_11, hS'', le_11, ln_11⟩ := hS.call [] (by decide) rfl (l' := []) (ow := []) rfl hS'
      replace hS : Sep w0 w_9 [N_11] Z := hS''
      clear hS' hS''
      refine s_move hm rfl rfl ?_
      clear hm a; intro a hm
      refine s_move hm rfl rfl ?_
      clear hm a; intro a hm
      refine s_bits (i := band .i64 x3 1048575) (j := 7) (r := band .i64 (band .i64 x3 1048575) 7) hm rfl rfl rfl (.inl ⟨rfl, rfl⟩) ?_
      clear hm a; intro a hm
      refine s_arith (r := w64 ((band .i64 x3 1048575) + (band .i64 (band .i64 x3 1048575) 7))) hm rfl rfl rfl (.inl ⟨rfl, rfl⟩) ?_
      clear hm a; intro a hm
      refine s_move hm rfl rfl ?_
      clear hm a; intro a hm
      obtain ⟨t_12, et_12, H⟩ := Option.bind_eq_some_iff.1 H
      refine s_call hm rfl Try.call21 rfl (view_Next.calls (w64 ((band .i64 x3 1048575) + (band .i64 (band .i64 x3 1048575) 7))) (Int.tmod (band .i64 x5 255) 7) t_12 w0 _ _ _ (Mem.le.refl _) (hS.enter [] (by decide))  et_12) ?_
      rintro _ w_13 ⟨N_14, rfl, hS'⟩
      clear hm a; intro a hm
      obtain ⟨N_15, hS'', le_15, ln_15⟩ := hS.call [] (by decide) rfl (l' := []) (ow := []) rfl hS'
      replace hS : Sep w0 w_13 [N_15] Z := hS''
      clear hS' hS''
      refine s_assign hm rfl rfl ?_
      clear hm a; intro a hm
      refine s_assign hm rfl rfl ?_
      clear hm a; intro a hm
      refine wpList_nil ?_
      replace hm : Fr 121 a [(0, .int .i64 (band .i64 x0 127)), (3, .int .i64 (band .i64 x3 1048575)), (4, .int .i64 (Int.tmod (band .i64 x4 255) 7)), (5, .int .i64 (Int.tmod (band .i64 x5 255) 7)), (12, .bool false), (13, .int .i64 t_8), (14, .int .i64 t_12)] := hm.keep [0, 3, 4, 5, 12, 13, 14]
      refine x_then_n ?_
      refine c_seq fun KJ_16 hKJ_16 => ?_
      refine c_seq fun KJ_17 hKJ_17 => ?_
      have hJ_j_21 : ∀ (x_19 : Bool), hocketlaw14_ViewMeets.J2 K x0 x_19 = some r → ∀ (a : Act) (w_20 : World), (∃ (N_18 : Mem), Fr 121 a [(0, .int .i64 (band .i64 x0 127)), (12, .bool false), (84, .bool x_19)] ∧ Sep w0 w_20 [N_18] Z ∧ N_15.le N_18) → KJ_17 a w_20 := by
        clear H hm hS a
        rintro x_19 H a w_20 ⟨N_18, hm, hS, le_18⟩
        unfold hocketlaw14_ViewMeets.J2 at H
        refine hKJ_17 _ _ ?_
        by_cases hc_22 : x_19 = true
        · rw [if_pos hc_22] at H
          cases H
        · rw [if_neg hc_22] at H
          refine c_cond_f hm rfl (Bool.eq_false_iff.2 hc_22) ?_
          refine wp_skip ?_
          refine x_then_n (hKJ_16 _ _ ?_)
          refine wp_seq ?_
          refine wp_region_lit ?_
          refine s_move hm rfl rfl ?_
          clear hm a; intro a hm
          obtain ⟨t_23, et_23, H⟩ := Option.bind_eq_some_iff.1 H
          refine s_call hm rfl Try.call18 rfl (view_Members.calls K (band .i64 x0 127) t_23 w0 _ _ _ (Mem.le.refl _) (hS.enter [] (by decide))  et_23) ?_
          rintro v_27 w_24 ⟨_, N_25, M_29, rfl, hS', hr_28⟩
          clear hm a; intro a hm
          obtain ⟨N_26, hS'', le_26, ln_26⟩ := hS.call [] (by decide) rfl (l' := []) (ow := [M_29]) rfl hS'
          replace hS : Sep w0 w_24 [N_26, M_29] Z := hS''
          clear hS' hS''
          refine s_assign hm rfl rfl ?_
          clear hm a; intro a hm
          refine wpList_nil ?_
          replace hm : Fr 121 a [(0, .int .i64 (band .i64 x0 127)), (12, .bool false), (15, v_27)] := hm.keep [0, 12, 15]
          refine x_then_n ?_
          refine wp_seq ?_
          refine wp_region_lit ?_
          refine s_assign hm rfl rfl ?_
          clear hm a; intro a hm
          refine wpList_nil ?_
          replace hm : Fr 121 a [(0, .int .i64 (band .i64 x0 127)), (12, .bool false), (15, v_27), (16, .int .i64 (-1))] := hm.keep [0, 12, 15, 16]
          refine x_then_n ?_
          refine c_seq fun KJ_31 hKJ_31 => ?_
          refine wp_seq ?_
          refine wp_region_lit ?_
          refine s_move hm rfl rfl ?_
          clear hm a; intro a hm
          refine s_lenO hm rfl Try.underlying23 rfl hr_28 ?_
          clear hm a; intro a hm
          refine s_cmp (b := decide ((t_23.length : Int) > 0)) hm rfl rfl rfl (.inr (.inr (.inr (.inr (.inl ⟨rfl, rfl⟩))))) ?_
          clear hm a; intro a hm
          refine wpList_nil ?_
          replace hm : Fr 121 a [(0, .int .i64 (band .i64 x0 127)), (12, .bool false), (15, v_27), (16, .int .i64 (-1)), (89, .bool (decide ((t_23.length : Int) > 0)))] := hm.keep [0, 12, 15, 16, 89]
          refine x_then_n ?_
          have hJ_j_35 : ∀ (x_33 : Int), hocketlaw14_ViewMeets.J3 K t_23 x0 x_33 = some r → ∀ (a : Act) (w_34 : World), (∃ (N_32 : Mem), Fr 121 a [(0, .int .i64 (band .i64 x0 127)), (12, .bool false), (15, v_27), (16, .int .i64 x_33)] ∧ Sep w0 w_34 [N_32, M_29] Z ∧ N_26.le N_32) → KJ_31 a w_34 := by
            clear H hm hS a
            rintro x_33 H a w_34 ⟨N_32, hm, hS, le_32⟩
            unfold hocketlaw14_ViewMeets.J3 at H
            refine hKJ_31 _ _ ?_
            refine c_seq fun KJ_36 hKJ_36 => ?_
            refine wp_seq ?_
            refine wp_region_lit ?_
            refine s_move hm rfl rfl ?_
            clear hm a; intro a hm
            refine s_lenO hm rfl Try.underlying23 rfl hr_28 ?_
            clear hm a; intro a hm
            refine s_move hm rfl rfl ?_
            clear hm a; intro a hm
            refine wpList_nil ?_
            replace hm : Fr 121 a [(0, .int .i64 (band .i64 x0 127)), (12, .bool false), (15, v_27), (16, .int .i64 x_33), (94, .int .i64 (t_23.length : Int)), (95, .int .i64 0)] := hm.keep [0, 12, 15, 16, 94, 95]
            refine x_then_n ?_
            have hJ_j_40 : ∀ (x_38 : Int), hocketlaw14_ViewMeets.J4 K t_23 x_38 = some r → ∀ (a : Act) (w_39 : World), (∃ (N_37 : Mem), Fr 121 a [(12, .bool false), (15, v_27), (16, .int .i64 x_38)] ∧ Sep w0 w_39 [N_37, M_29] Z ∧ N_32.le N_37) → KJ_36 a w_39 := by
              clear H hm hS a
              rintro x_38 H a w_39 ⟨N_37, hm, hS, le_37⟩
              unfold hocketlaw14_ViewMeets.J4 at H
              refine hKJ_36 _ _ ?_
              refine c_seq fun KJ_41 hKJ_41 => ?_
              refine wp_region_lit ?_
              refine s_move hm rfl rfl ?_
              clear hm a; intro a hm
              refine s_lenO hm rfl Try.underlying23 rfl hr_28 ?_
              clear hm a; intro a hm
              refine s_cmp (b := ((t_23.length : Int) == 0)) hm rfl rfl rfl (.inl ⟨rfl, rfl⟩) ?_
              clear hm a; intro a hm
              refine s_move hm rfl rfl ?_
              clear hm a; intro a hm
              by_cases hc_42 : (t_23.length : Int) = 0
              · rw [if_pos hc_42] at H
                refine s_off hm rfl rfl rfl (beq_iff_eq.2 hc_42) ?_
                clear hm a; intro a hm
                refine s_off hm rfl rfl rfl (beq_iff_eq.2 hc_42) ?_
                clear hm a; intro a hm
                refine s_off hm rfl rfl rfl (beq_iff_eq.2 hc_42) ?_
                clear hm a; intro a hm
                refine s_off hm rfl rfl rfl (beq_iff_eq.2 hc_42) ?_
                clear hm a; intro a hm
                refine s_off hm rfl rfl rfl (beq_iff_eq.2 hc_42) ?_
                clear hm a; intro a hm
                refine s_pick_t hm rfl rfl (beq_iff_eq.2 hc_42) rfl ?_
                clear hm a; intro a hm
                refine s_move hm rfl rfl ?_
                clear hm a; intro a hm
                refine s_on hm rfl rfl rfl ?_
                obtain ⟨t_43, et_43, H⟩ := Option.bind_eq_some_iff.1 H
                refine s_call hm rfl Try.call17 rfl (hocketlaw14_awake.calls K  t_43 w0 _ _ _ (Mem.le.refl _) (hS.enter [] (by decide))  et_43) ?_
                rintro _ w_44 ⟨N_45, rfl, hS'⟩
                clear hm a; intro a hm
                obtain ⟨N_46, hS'', le_46, ln_46⟩ := hS.call [] (by decide) rfl (l' := []) (ow := []) rfl hS'
                replace hS : Sep w0 w_44 [N_46, M_29] Z := hS''
                clear hS' hS''
                refine s_pick_t hm rfl rfl rfl rfl ?_
                clear hm a; intro a hm
                refine s_assign hm rfl rfl ?_
                clear hm a; intro a hm
                refine wpList_nil ?_
                replace hm : Fr 121 a [(12, .bool true)] := hm.keep [12]
                refine x_then_n (hKJ_41 _ _ ?_)
                refine wp_ret ?_
                exact f_ret hm (rs := [.tmp 12]) rfl (.tmp rfl .nil) ⟨_, rfl, N_46, rfl, (Sep.sel hS [0] (by decide))⟩
              · rw [if_neg hc_42] at H
                refine s_on hm rfl rfl (beq_eq_false_iff_ne.2 hc_42) ?_
                refine s_move hm rfl rfl ?_
                clear hm a; intro a hm
                refine s_on hm rfl rfl (beq_eq_false_iff_ne.2 hc_42) ?_
                refine s_move hm rfl rfl ?_
                clear hm a; intro a hm
                refine s_on hm rfl rfl (beq_eq_false_iff_ne.2 hc_42) ?_
                obtain ⟨t_47, et_47, H⟩ := Option.bind_eq_some_iff.1 H
                refine v_indexO hm rfl Try.underlying23 ti3 rfl rfl rfl hr_28 (hS.own 1) et_47 ?_
                intro ad_48 cs_49 hk_50 hc_51
                obtain rfl := (show cs_49 = [.int .i64 t_47] from hk_50)
                clear hm a; intro a hm
                refine s_on hm rfl rfl (beq_eq_false_iff_ne.2 hc_42) ?_
                refine s_load hm rfl rfl (el_one (o := 0) hc_51 Try.underlying3 rfl rfl) ?_
                clear hm a; intro a hm
                refine s_on hm rfl rfl (beq_eq_false_iff_ne.2 hc_42) ?_
                refine s_cmp (b := (x_38 == t_47)) hm rfl rfl rfl (.inl ⟨rfl, rfl⟩) ?_
                clear hm a; intro a hm
                refine s_pick_f hm rfl rfl (beq_eq_false_iff_ne.2 hc_42) rfl ?_
                clear hm a; intro a hm
                refine s_move hm rfl rfl ?_
                clear hm a; intro a hm
                by_cases hc_52 : x_38 = t_47
                · rw [if_pos hc_52] at H
                  refine s_on hm rfl rfl (beq_iff_eq.2 hc_52) ?_
                  obtain ⟨t_53, et_53, H⟩ := Option.bind_eq_some_iff.1 H
                  refine s_call hm rfl Try.call17 rfl (hocketlaw14_awake.calls K  t_53 w0 _ _ _ (Mem.le.refl _) (hS.enter [] (by decide))  et_53) ?_
                  rintro _ w_54 ⟨N_55, rfl, hS'⟩
                  clear hm a; intro a hm
                  obtain ⟨N_56, hS'', le_56, ln_56⟩ := hS.call [] (by decide) rfl (l' := []) (ow := []) rfl hS'
                  replace hS : Sep w0 w_54 [N_56, M_29] Z := hS''
                  clear hS' hS''
                  refine s_pick_t hm rfl rfl (beq_iff_eq.2 hc_52) rfl ?_
                  clear hm a; intro a hm
                  refine s_assign hm rfl rfl ?_
                  clear hm a; intro a hm
                  refine wpList_nil ?_
                  replace hm : Fr 121 a [(12, .bool true)] := hm.keep [12]
                  refine x_then_n (hKJ_41 _ _ ?_)
                  refine wp_ret ?_
                  exact f_ret hm (rs := [.tmp 12]) rfl (.tmp rfl .nil) ⟨_, rfl, N_56, rfl, (Sep.sel hS [0] (by decide))⟩
                · rw [if_neg hc_52] at H
                  cases H
            clear hKJ_36
            replace hS : Sep w0 w_34 [N_32, M_29] Z := hS
            replace hm : Fr 121 a [(0, .int .i64 (band .i64 x0 127)), (12, .bool false), (15, v_27), (16, .int .i64 x_33), (94, .int .i64 (t_23.length : Int)), (95, .int .i64 0)] := hm.keep [0, 12, 15, 16, 94, 95]
            refine c_block ?_
            refine c_loop (fun k_60 a w_60 => ∃ (x_58 : Int) (x_59 : Int) (N_57 : Mem), hocketlaw14_ViewMeets.L1 K t_23 x0 (fun v => hocketlaw14_ViewMeets.J4 K t_23 v) k_60 (x_58, x_59) = some r ∧ Fr 121 a [(0, .int .i64 (band .i64 x0 127)), (12, .bool false), (15, v_27), (16, .int .i64 x_58), (94, .int .i64 (t_23.length : Int)), (95, .int .i64 x_59)] ∧ Sep w0 w_60 [N_57, M_29] Z ∧ N_32.le N_57) K ⟨x_33, 0, N_32, H, hm, (Sep.sel hS [0, 1] (by decide)), (Mem.le.refl _)⟩ (fun a w h => by obtain ⟨_, _, _, H, _⟩ := h; cases (show (none : Option (Unit)) = some r from H)) ?_
            clear hm hS a H
            rintro k_60 a w_60 KL_60 hKL_60 ⟨x_58, x_59, N_57, H, hm, hS, le_57⟩
            replace H : hocketlaw14_ViewMeets.B1 K t_23 x0 (fun v => hocketlaw14_ViewMeets.J4 K t_23 v) (hocketlaw14_ViewMeets.L1 K t_23 x0 (fun v => hocketlaw14_ViewMeets.J4 K t_23 v) k_60) x_58 x_59 = some r := H
            unfold hocketlaw14_ViewMeets.B1 at H
            refine wp_seq ?_
            refine wp_region_lit ?_
            refine s_cmp (b := decide (x_59 < (t_23.length : Int))) hm rfl rfl rfl (.inr (.inr (.inl ⟨rfl, rfl⟩))) ?_
            clear hm a; intro a hm
            refine wpList_nil ?_
            replace hm : Fr 121 a [(0, .int .i64 (band .i64 x0 127)), (12, .bool false), (15, v_27), (16, .int .i64 x_58), (94, .int .i64 (t_23.length : Int)), (95, .int .i64 x_59), (96, .bool (decide (x_59 < (t_23.length : Int))))] := hm.keep [0, 12, 15, 16, 94, 95, 96]
            refine x_then_n ?_
            refine c_seq fun KJ_62 hKJ_62 => ?_
            by_cases hc_63 : x_59 < (t_23.length : Int)
            · rw [if_pos hc_63] at H
              refine c_cond_t hm rfl (decide_eq_true hc_63) ?_
              refine wp_skip ?_
              refine x_then_n (hKJ_62 _ _ ?_)
              refine wp_seq ?_
              refine c_block ?_
              refine wp_seq ?_
              refine wp_region_lit ?_
              refine s_move hm rfl rfl ?_
              clear hm a; intro a hm
              refine s_assign hm rfl rfl ?_
              clear hm a; intro a hm
              refine wpList_nil ?_
              replace hm : Fr 121 a [(0, .int .i64 (band .i64 x0 127)), (12, .bool false), (15, v_27), (16, .int .i64 x_58), (17, .int .i64 x_59), (94, .int .i64 (t_23.length : Int)), (95, .int .i64 x_59)] := hm.keep [0, 12, 15, 16, 17, 94, 95]
              refine x_then_n ?_
              refine c_seq fun KJ_64 hKJ_64 => ?_
              refine wp_seq ?_
              refine wp_region_lit ?_
              refine s_move hm rfl rfl ?_
              clear hm a; intro a hm
              refine s_move hm rfl rfl ?_
              clear hm a; intro a hm
              refine s_move hm rfl rfl ?_
              clear hm a; intro a hm
              obtain ⟨t_65, et_65, H⟩ := Option.bind_eq_some_iff.1 H
              refine v_indexO hm rfl Try.underlying23 ti3 rfl rfl rfl hr_28 (hS.own 1) et_65 ?_
              intro ad_66 cs_67 hk_68 hc_69
              obtain rfl := (show cs_67 = [.int .i64 t_65] from hk_68)
              clear hm a; intro a hm
              refine s_load hm rfl rfl (el_one (o := 0) hc_69 Try.underlying3 rfl rfl) ?_
              clear hm a; intro a hm
              refine s_cmp (b := (x_58 != t_65)) hm rfl rfl rfl (.inr (.inl ⟨rfl, rfl⟩)) ?_
              clear hm a; intro a hm
              refine wpList_nil ?_
              replace hm : Fr 121 a [(0, .int .i64 (band .i64 x0 127)), (12, .bool false), (15, v_27), (16, .int .i64 x_58), (94, .int .i64 (t_23.length : Int)), (95, .int .i64 x_59), (103, .bool (x_58 != t_65))] := hm.keep [0, 12, 15, 16, 94, 95, 103]
              refine x_then_n ?_
              by_cases hc_70 : x_58 = t_65
              · rw [if_pos hc_70] at H
                refine c_cond_f hm rfl (bne_eq_false_iff_eq.2 hc_70) ?_
                refine wp_skip ?_
                refine x_then_n (hKJ_64 _ _ ?_)
                refine wp_region_lit ?_
                refine s_move hm rfl rfl ?_
                clear hm a; intro a hm
                refine s_move hm rfl rfl ?_
                clear hm a; intro a hm
                obtain ⟨t_71, et_71, H⟩ := Option.bind_eq_some_iff.1 H
                refine s_call hm rfl Try.call28 rfl (view_After.calls K (band .i64 x0 127) x_58 t_71 w0 _ _ _ (Mem.le.refl _) (hS.enter [] (by decide))  et_71) ?_
                rintro _ w_72 ⟨N_73, rfl, hS'⟩
                clear hm a; intro a hm
                obtain ⟨N_74, hS'', le_74, ln_74⟩ := hS.call [] (by decide) rfl (l' := []) (ow := []) rfl hS'
                replace hS : Sep w0 w_72 [N_74, M_29] Z := hS''
                clear hS' hS''
                refine s_assign hm rfl rfl ?_
                clear hm a; intro a hm
                refine wpList_nil ?_
                replace hm : Fr 121 a [(0, .int .i64 (band .i64 x0 127)), (12, .bool false), (15, v_27), (16, .int .i64 t_71), (94, .int .i64 (t_23.length : Int)), (95, .int .i64 x_59)] := hm.keep [0, 12, 15, 16, 94, 95]
                refine x_block_n ?_
                refine x_then_n ?_
                refine wp_region_lit ?_
                refine s_arith (r := w64 (x_59 + 1)) hm rfl rfl rfl (.inl ⟨rfl, rfl⟩) ?_
                clear hm a; intro a hm
                refine s_move hm rfl rfl ?_
                clear hm a; intro a hm
                refine wpList_nil ?_
                replace hm : Fr 121 a [(0, .int .i64 (band .i64 x0 127)), (12, .bool false), (15, v_27), (16, .int .i64 t_71), (94, .int .i64 (t_23.length : Int)), (95, .int .i64 (w64 (x_59 + 1)))] := hm.keep [0, 12, 15, 16, 94, 95]
                refine x_then_n (hKL_60 _ _ ?_)
                replace hS : Sep w0 w_72 [N_74, M_29] Z := hS
                replace hm : Fr 121 a [(0, .int .i64 (band .i64 x0 127)), (12, .bool false), (15, v_27), (16, .int .i64 t_71), (94, .int .i64 (t_23.length : Int)), (95, .int .i64 (w64 (x_59 + 1)))] := hm.keep [0, 12, 15, 16, 94, 95]
                exact ⟨t_71, w64 (x_59 + 1), N_74, H, hm, (Sep.sel hS [0, 1] (by decide)), (le_57.trans le_74)⟩
              · rw [if_neg hc_70] at H
                cases H
            · rw [if_neg hc_63] at H
              refine c_cond_f hm rfl (decide_eq_false hc_63) ?_
              refine wp_exit (x_then_x (x_then_x (x_block_t ?_)))
              replace hS : Sep w0 w_60 [N_57, M_29] Z := hS
              replace hm : Fr 121 a [(12, .bool false), (15, v_27), (16, .int .i64 x_58)] := hm.keep [12, 15, 16]
              exact x_then_n (hJ_j_40 x_58 H _ _ ⟨N_57, hm, (Sep.sel hS [0, 1] (by decide)), le_57⟩)
          clear hKJ_31
          by_cases hc_75 : (t_23.length : Int) > 0
          · rw [if_pos hc_75] at H
            refine c_cond_t hm rfl (decide_eq_true hc_75) ?_
            refine wp_region_lit ?_
            refine s_move hm rfl rfl ?_
            clear hm a; intro a hm
            obtain ⟨t_76, et_76, H⟩ := Option.bind_eq_some_iff.1 H
            refine v_indexO hm rfl Try.underlying23 ti3 rfl rfl rfl hr_28 (hS.own 1) et_76 ?_
            intro ad_77 cs_78 hk_79 hc_80
            obtain rfl := (show cs_78 = [.int .i64 t_76] from hk_79)
            clear hm a; intro a hm
            refine s_load hm rfl rfl (el_one (o := 0) hc_80 Try.underlying3 rfl rfl) ?_
            clear hm a; intro a hm
            refine s_assign hm rfl rfl ?_
            clear hm a; intro a hm
            refine wpList_nil ?_
            replace hm : Fr 121 a [(0, .int .i64 (band .i64 x0 127)), (12, .bool false), (15, v_27), (16, .int .i64 t_76)] := hm.keep [0, 12, 15, 16]
            replace hS : Sep w0 w_24 [N_26, M_29] Z := hS
            replace hm : Fr 121 a [(0, .int .i64 (band .i64 x0 127)), (12, .bool false), (15, v_27), (16, .int .i64 t_76)] := hm.keep [0, 12, 15, 16]
            exact x_then_n (hJ_j_35 t_76 H _ _ ⟨N_26, hm, (Sep.sel hS [0, 1] (by decide)), (Mem.le.refl _)⟩)
          · rw [if_neg hc_75] at H
            refine c_cond_f hm rfl (decide_eq_false hc_75) ?_
            refine wp_skip ?_
            replace hS : Sep w0 w_24 [N_26, M_29] Z := hS
            replace hm : Fr 121 a [(0, .int .i64 (band .i64 x0 127)), (12, .bool false), (15, v_27), (16, .int .i64 (-1))] := hm.keep [0, 12, 15, 16]
            exact x_then_n (hJ_j_35 (-1) H _ _ ⟨N_26, hm, (Sep.sel hS [0, 1] (by decide)), (Mem.le.refl _)⟩)
      clear hKJ_17
      refine wp_region_lit ?_
      refine s_move hm rfl rfl ?_
      clear hm a; intro a hm
      refine s_move hm rfl rfl ?_
      clear hm a; intro a hm
      refine s_cmp (b := decide (t_8 ≤ (band .i64 x3 1048575))) hm rfl rfl rfl (.inr (.inr (.inr (.inl ⟨rfl, rfl⟩)))) ?_
      clear hm a; intro a hm
      refine s_move hm rfl rfl ?_
      clear hm a; intro a hm
      by_cases hc_81 : t_8 ≤ (band .i64 x3 1048575)
      · rw [if_pos hc_81] at H
        refine s_off hm rfl rfl rfl (decide_eq_true hc_81) ?_
        clear hm a; intro a hm
        refine s_off hm rfl rfl rfl (decide_eq_true hc_81) ?_
        clear hm a; intro a hm
        refine s_off hm rfl rfl rfl (decide_eq_true hc_81) ?_
        clear hm a; intro a hm
        refine s_off hm rfl rfl rfl (decide_eq_true hc_81) ?_
        clear hm a; intro a hm
        refine s_pick_t hm rfl rfl (decide_eq_true hc_81) rfl ?_
        clear hm a; intro a hm
        refine s_move hm rfl rfl ?_
        clear hm a; intro a hm
        refine s_off hm rfl rfl rfl rfl ?_
        clear hm a; intro a hm
        refine s_off hm rfl rfl rfl rfl ?_
        clear hm a; intro a hm
        refine s_off hm rfl rfl rfl rfl ?_
        clear hm a; intro a hm
        refine s_off hm rfl rfl rfl rfl ?_
        clear hm a; intro a hm
        refine s_offu hm rfl rfl rfl ?_
        clear hm a; intro a hm
        refine s_offu hm rfl rfl rfl ?_
        clear hm a; intro a hm
        refine s_offu hm rfl rfl rfl ?_
        clear hm a; intro a hm
        refine s_off hm rfl rfl rfl rfl ?_
        clear hm a; intro a hm
        refine s_pick_t hm rfl rfl rfl rfl ?_
        clear hm a; intro a hm
        refine s_move hm rfl rfl ?_
        clear hm a; intro a hm
        refine s_off hm rfl rfl rfl rfl ?_
        clear hm a; intro a hm
        refine s_off hm rfl rfl rfl rfl ?_
        clear hm a; intro a hm
        refine s_off hm rfl rfl rfl rfl ?_
        clear hm a; intro a hm
        refine s_off hm rfl rfl rfl rfl ?_
        clear hm a; intro a hm
        refine s_off hm rfl rfl rfl rfl ?_
        clear hm a; intro a hm
        refine s_pick_t hm rfl rfl rfl rfl ?_
        clear hm a; intro a hm
        refine wpList_nil ?_
        replace hm : Fr 121 a [(0, .int .i64 (band .i64 x0 127)), (12, .bool false), (84, .bool true)] := hm.keep [0, 12, 84]
        replace hS : Sep w0 w_13 [N_15] Z := hS
        replace hm : Fr 121 a [(0, .int .i64 (band .i64 x0 127)), (12, .bool false), (84, .bool true)] := hm.keep [0, 12, 84]
        exact x_then_n (hJ_j_21 true H _ _ ⟨N_15, hm, (Sep.sel hS [0] (by decide)), (Mem.le.refl _)⟩)
      · rw [if_neg hc_81] at H
        refine s_on hm rfl rfl (decide_eq_false hc_81) ?_
        refine s_move hm rfl rfl ?_
        clear hm a; intro a hm
        refine s_on hm rfl rfl (decide_eq_false hc_81) ?_
        obtain ⟨t_82, et_82, H⟩ := Option.bind_eq_some_iff.1 H
        refine s_call hm rfl Try.call23 rfl (view_Who.calls t_8 t_82 w0 _ _ _ (Mem.le.refl _) (hS.enter [] (by decide))  et_82) ?_
        rintro _ w_83 ⟨N_84, rfl, hS'⟩
        clear hm a; intro a hm
        obtain ⟨N_85, hS'', le_85, ln_85⟩ := hS.call [] (by decide) rfl (l' := []) (ow := []) rfl hS'
        replace hS : Sep w0 w_83 [N_85] Z := hS''
        clear hS' hS''
        refine s_on hm rfl rfl (decide_eq_false hc_81) ?_
        refine s_move hm rfl rfl ?_
        clear hm a; intro a hm
        refine s_on hm rfl rfl (decide_eq_false hc_81) ?_
        refine s_cmp (b := (t_82 != (Int.tmod (band .i64 x4 255) 7))) hm rfl rfl rfl (.inr (.inl ⟨rfl, rfl⟩)) ?_
        clear hm a; intro a hm
        refine s_pick_f hm rfl rfl (decide_eq_false hc_81) rfl ?_
        clear hm a; intro a hm
        refine s_move hm rfl rfl ?_
        clear hm a; intro a hm
        by_cases hc_86 : t_82 = (Int.tmod (band .i64 x4 255) 7)
        · rw [if_pos hc_86] at H
          refine s_on hm rfl rfl (bne_eq_false_iff_eq.2 hc_86) ?_
          refine s_move hm rfl rfl ?_
          clear hm a; intro a hm
          refine s_on hm rfl rfl (bne_eq_false_iff_eq.2 hc_86) ?_
          refine s_move hm rfl rfl ?_
          clear hm a; intro a hm
          refine s_on hm rfl rfl (bne_eq_false_iff_eq.2 hc_86) ?_
          refine s_cmp (b := ((Int.tmod (band .i64 x4 255) 7) != (Int.tmod (band .i64 x5 255) 7))) hm rfl rfl rfl (.inr (.inl ⟨rfl, rfl⟩)) ?_
          clear hm a; intro a hm
          refine s_on hm rfl rfl (bne_eq_false_iff_eq.2 hc_86) ?_
          refine s_move hm rfl rfl ?_
          clear hm a; intro a hm
          by_cases hc_87 : (Int.tmod (band .i64 x4 255) 7) = (Int.tmod (band .i64 x5 255) 7)
          · rw [if_pos hc_87] at H
            refine s_off hm rfl rfl rfl (bne_eq_false_iff_eq.2 hc_87) ?_
            clear hm a; intro a hm
            refine s_off hm rfl rfl rfl (bne_eq_false_iff_eq.2 hc_87) ?_
            clear hm a; intro a hm
            refine s_off hm rfl rfl rfl (bne_eq_false_iff_eq.2 hc_87) ?_
            clear hm a; intro a hm
            refine s_on hm rfl rfl (bne_eq_false_iff_eq.2 hc_86) ?_
            refine s_pick_f hm rfl rfl (bne_eq_false_iff_eq.2 hc_87) rfl ?_
            clear hm a; intro a hm
            refine s_pick_f hm rfl rfl (bne_eq_false_iff_eq.2 hc_86) rfl ?_
            clear hm a; intro a hm
            refine s_move hm rfl rfl ?_
            clear hm a; intro a hm
            refine s_on hm rfl rfl rfl ?_
            refine s_move hm rfl rfl ?_
            clear hm a; intro a hm
            refine s_on hm rfl rfl rfl ?_
            refine s_move hm rfl rfl ?_
            clear hm a; intro a hm
            refine s_on hm rfl rfl rfl ?_
            obtain ⟨t_88, et_88, H⟩ := Option.bind_eq_some_iff.1 H
            refine s_call hm rfl Try.call21 rfl (view_Next.calls t_8 (Int.tmod (band .i64 x5 255) 7) t_88 w0 _ _ _ (Mem.le.refl _) (hS.enter [] (by decide))  et_88) ?_
            rintro _ w_89 ⟨N_90, rfl, hS'⟩
            clear hm a; intro a hm
            obtain ⟨N_91, hS'', le_91, ln_91⟩ := hS.call [] (by decide) rfl (l' := []) (ow := []) rfl hS'
            replace hS : Sep w0 w_89 [N_91] Z := hS''
            clear hS' hS''
            refine s_on hm rfl rfl rfl ?_
            refine s_move hm rfl rfl ?_
            clear hm a; intro a hm
            refine s_on hm rfl rfl rfl ?_
            refine s_cmp (b := decide (t_88 ≤ t_8)) hm rfl rfl rfl (.inr (.inr (.inr (.inl ⟨rfl, rfl⟩)))) ?_
            clear hm a; intro a hm
            refine s_pick_f hm rfl rfl rfl rfl ?_
            clear hm a; intro a hm
            refine wpList_nil ?_
            replace hm : Fr 121 a [(0, .int .i64 (band .i64 x0 127)), (12, .bool false), (84, .bool (decide (t_88 ≤ t_8)))] := hm.keep [0, 12, 84]
            replace hS : Sep w0 w_89 [N_91] Z := hS
            replace hm : Fr 121 a [(0, .int .i64 (band .i64 x0 127)), (12, .bool false), (84, .bool (decide (t_88 ≤ t_8)))] := hm.keep [0, 12, 84]
            exact x_then_n (hJ_j_21 (decide (t_88 ≤ t_8)) H _ _ ⟨N_91, hm, (Sep.sel hS [0] (by decide)), (le_85.trans le_91)⟩)
          · rw [if_neg hc_87] at H
            refine s_on hm rfl rfl (bne_iff_ne.2 hc_87) ?_
            refine s_move hm rfl rfl ?_
            clear hm a; intro a hm
            refine s_on hm rfl rfl (bne_iff_ne.2 hc_87) ?_
            refine s_move hm rfl rfl ?_
            clear hm a; intro a hm
            refine s_on hm rfl rfl (bne_iff_ne.2 hc_87) ?_
            refine s_cmp (b := (t_8 == t_12)) hm rfl rfl rfl (.inl ⟨rfl, rfl⟩) ?_
            clear hm a; intro a hm
            refine s_on hm rfl rfl (bne_eq_false_iff_eq.2 hc_86) ?_
            refine s_pick_t hm rfl rfl (bne_iff_ne.2 hc_87) rfl ?_
            clear hm a; intro a hm
            refine s_pick_f hm rfl rfl (bne_eq_false_iff_eq.2 hc_86) rfl ?_
            clear hm a; intro a hm
            refine s_move hm rfl rfl ?_
            clear hm a; intro a hm
            by_cases hc_92 : t_8 = t_12
            · rw [if_pos hc_92] at H
              refine s_off hm rfl rfl rfl (beq_iff_eq.2 hc_92) ?_
              clear hm a; intro a hm
              refine s_off hm rfl rfl rfl (beq_iff_eq.2 hc_92) ?_
              clear hm a; intro a hm
              refine s_off hm rfl rfl rfl (beq_iff_eq.2 hc_92) ?_
              clear hm a; intro a hm
              refine s_off hm rfl rfl rfl (beq_iff_eq.2 hc_92) ?_
              clear hm a; intro a hm
              refine s_off hm rfl rfl rfl (beq_iff_eq.2 hc_92) ?_
              clear hm a; intro a hm
              refine s_pick_t hm rfl rfl (beq_iff_eq.2 hc_92) rfl ?_
              clear hm a; intro a hm
              refine wpList_nil ?_
              replace hm : Fr 121 a [(0, .int .i64 (band .i64 x0 127)), (12, .bool false), (84, .bool true)] := hm.keep [0, 12, 84]
              replace hS : Sep w0 w_83 [N_85] Z := hS
              replace hm : Fr 121 a [(0, .int .i64 (band .i64 x0 127)), (12, .bool false), (84, .bool true)] := hm.keep [0, 12, 84]
              exact x_then_n (hJ_j_21 true H _ _ ⟨N_85, hm, (Sep.sel hS [0] (by decide)), le_85⟩)
            · rw [if_neg hc_92] at H
              refine s_on hm rfl rfl (beq_eq_false_iff_ne.2 hc_92) ?_
              refine s_move hm rfl rfl ?_
              clear hm a; intro a hm
              refine s_on hm rfl rfl (beq_eq_false_iff_ne.2 hc_92) ?_
              refine s_move hm rfl rfl ?_
              clear hm a; intro a hm
              refine s_on hm rfl rfl (beq_eq_false_iff_ne.2 hc_92) ?_
              obtain ⟨t_93, et_93, H⟩ := Option.bind_eq_some_iff.1 H
              refine s_call hm rfl Try.call21 rfl (view_Next.calls t_8 (Int.tmod (band .i64 x5 255) 7) t_93 w0 _ _ _ (Mem.le.refl _) (hS.enter [] (by decide))  et_93) ?_
              rintro _ w_94 ⟨N_95, rfl, hS'⟩
              clear hm a; intro a hm
              obtain ⟨N_96, hS'', le_96, ln_96⟩ := hS.call [] (by decide) rfl (l' := []) (ow := []) rfl hS'
              replace hS : Sep w0 w_94 [N_96] Z := hS''
              clear hS' hS''
              refine s_on hm rfl rfl (beq_eq_false_iff_ne.2 hc_92) ?_
              refine s_move hm rfl rfl ?_
              clear hm a; intro a hm
              refine s_on hm rfl rfl (beq_eq_false_iff_ne.2 hc_92) ?_
              refine s_cmp (b := decide (t_93 ≤ t_8)) hm rfl rfl rfl (.inr (.inr (.inr (.inl ⟨rfl, rfl⟩)))) ?_
              clear hm a; intro a hm
              refine s_pick_f hm rfl rfl (beq_eq_false_iff_ne.2 hc_92) rfl ?_
              clear hm a; intro a hm
              refine wpList_nil ?_
              replace hm : Fr 121 a [(0, .int .i64 (band .i64 x0 127)), (12, .bool false), (84, .bool (decide (t_93 ≤ t_8)))] := hm.keep [0, 12, 84]
              replace hS : Sep w0 w_94 [N_96] Z := hS
              replace hm : Fr 121 a [(0, .int .i64 (band .i64 x0 127)), (12, .bool false), (84, .bool (decide (t_93 ≤ t_8)))] := hm.keep [0, 12, 84]
              exact x_then_n (hJ_j_21 (decide (t_93 ≤ t_8)) H _ _ ⟨N_96, hm, (Sep.sel hS [0] (by decide)), (le_85.trans le_96)⟩)
        · rw [if_neg hc_86] at H
          refine s_off hm rfl rfl rfl (bne_iff_ne.2 hc_86) ?_
          clear hm a; intro a hm
          refine s_off hm rfl rfl rfl (bne_iff_ne.2 hc_86) ?_
          clear hm a; intro a hm
          refine s_off hm rfl rfl rfl (bne_iff_ne.2 hc_86) ?_
          clear hm a; intro a hm
          refine s_off hm rfl rfl rfl (bne_iff_ne.2 hc_86) ?_
          clear hm a; intro a hm
          refine s_offu hm rfl rfl rfl ?_
          clear hm a; intro a hm
          refine s_offu hm rfl rfl rfl ?_
          clear hm a; intro a hm
          refine s_offu hm rfl rfl rfl ?_
          clear hm a; intro a hm
          refine s_off hm rfl rfl rfl (bne_iff_ne.2 hc_86) ?_
          clear hm a; intro a hm
          refine s_pick_t hm rfl rfl (bne_iff_ne.2 hc_86) rfl ?_
          clear hm a; intro a hm
          refine s_move hm rfl rfl ?_
          clear hm a; intro a hm
          refine s_off hm rfl rfl rfl rfl ?_
          clear hm a; intro a hm
          refine s_off hm rfl rfl rfl rfl ?_
          clear hm a; intro a hm
          refine s_off hm rfl rfl rfl rfl ?_
          clear hm a; intro a hm
          refine s_off hm rfl rfl rfl rfl ?_
          clear hm a; intro a hm
          refine s_off hm rfl rfl rfl rfl ?_
          clear hm a; intro a hm
          refine s_pick_t hm rfl rfl rfl rfl ?_
          clear hm a; intro a hm
          refine wpList_nil ?_
          replace hm : Fr 121 a [(0, .int .i64 (band .i64 x0 127)), (12, .bool false), (84, .bool true)] := hm.keep [0, 12, 84]
          replace hS : Sep w0 w_83 [N_85] Z := hS
          replace hm : Fr 121 a [(0, .int .i64 (band .i64 x0 127)), (12, .bool false), (84, .bool true)] := hm.keep [0, 12, 84]
          exact x_then_n (hJ_j_21 true H _ _ ⟨N_85, hm, (Sep.sel hS [0] (by decide)), le_85⟩)
  clear hKJ_2
  refine wp_region_lit ?_
  refine s_move hm rfl rfl ?_
  clear hm a; intro a hm
  refine s_move hm rfl rfl ?_
  clear hm a; intro a hm
  obtain ⟨t_97, et_97, H⟩ := Option.bind_eq_some_iff.1 H
  refine s_call hm rfl Try.call19 rfl (view_Most.calls (band .i64 x0 127) (w64 ((Int.tmod (band .i64 x2 255) 7) + 1)) t_97 w0 _ _ _ (Mem.le.refl _) (hS.enter [] (by decide))  et_97) ?_
  rintro _ w_98 ⟨N_99, rfl, hS'⟩
  clear hm a; intro a hm
  obtain ⟨N_100, hS'', le_100, ln_100⟩ := hS.call [] (by decide) rfl (l' := []) (ow := []) rfl hS'
  replace hS : Sep w0 w_98 [N_100] Z := hS''
  clear hS' hS''
  refine s_move hm rfl rfl ?_
  clear hm a; intro a hm
  by_cases hc_101 : t_97 = true
  · rw [if_pos hc_101] at H
    refine s_on hm rfl rfl hc_101 ?_
    refine s_move hm rfl rfl ?_
    clear hm a; intro a hm
    refine s_on hm rfl rfl hc_101 ?_
    refine s_move hm rfl rfl ?_
    clear hm a; intro a hm
    refine s_on hm rfl rfl hc_101 ?_
    obtain ⟨t_102, et_102, H⟩ := Option.bind_eq_some_iff.1 H
    refine s_call hm rfl Try.call19 rfl (view_Most.calls (band .i64 x1 127) (w64 ((Int.tmod (band .i64 x2 255) 7) + 1)) t_102 w0 _ _ _ (Mem.le.refl _) (hS.enter [] (by decide))  et_102) ?_
    rintro _ w_103 ⟨N_104, rfl, hS'⟩
    clear hm a; intro a hm
    obtain ⟨N_105, hS'', le_105, ln_105⟩ := hS.call [] (by decide) rfl (l' := []) (ow := []) rfl hS'
    replace hS : Sep w0 w_103 [N_105] Z := hS''
    clear hS' hS''
    refine s_pick_t hm rfl rfl hc_101 rfl ?_
    clear hm a; intro a hm
    refine s_move hm rfl rfl ?_
    clear hm a; intro a hm
    by_cases hc_106 : t_102 = true
    · rw [if_pos hc_106] at H
      refine s_on hm rfl rfl hc_106 ?_
      refine s_move hm rfl rfl ?_
      clear hm a; intro a hm
      refine s_on hm rfl rfl hc_106 ?_
      refine s_move hm rfl rfl ?_
      clear hm a; intro a hm
      refine s_on hm rfl rfl hc_106 ?_
      refine s_bits (i := band .i64 x0 127) (j := band .i64 x1 127) (r := band .i64 (band .i64 x0 127) (band .i64 x1 127)) hm rfl rfl rfl (.inl ⟨rfl, rfl⟩) ?_
      clear hm a; intro a hm
      refine s_on hm rfl rfl hc_106 ?_
      obtain ⟨t_107, et_107, H⟩ := Option.bind_eq_some_iff.1 H
      refine s_call hm rfl Try.call18 rfl (view_Members.calls K (band .i64 (band .i64 x0 127) (band .i64 x1 127)) t_107 w0 _ _ _ (Mem.le.refl _) (hS.enter [] (by decide))  et_107) ?_
      rintro v_111 w_108 ⟨_, N_109, M_113, rfl, hS', hr_112⟩
      clear hm a; intro a hm
      obtain ⟨N_110, hS'', le_110, ln_110⟩ := hS.call [] (by decide) rfl (l' := []) (ow := [M_113]) rfl hS'
      replace hS : Sep w0 w_108 [N_110, M_113] Z := hS''
      clear hS' hS''
      refine s_on hm rfl rfl hc_106 ?_
      refine s_lenO hm rfl Try.underlying23 rfl hr_112 ?_
      clear hm a; intro a hm
      refine s_on hm rfl rfl hc_106 ?_
      refine s_cmp (b := ((t_107.length : Int) == 0)) hm rfl rfl rfl (.inl ⟨rfl, rfl⟩) ?_
      clear hm a; intro a hm
      refine s_pick_t hm rfl rfl hc_106 rfl ?_
      clear hm a; intro a hm
      refine wpList_nil ?_
      replace hm : Fr 121 a [(0, .int .i64 (band .i64 x0 127)), (3, .int .i64 (band .i64 x3 1048575)), (4, .int .i64 (Int.tmod (band .i64 x4 255) 7)), (5, .int .i64 (Int.tmod (band .i64 x5 255) 7)), (12, .bool false), (49, .bool ((t_107.length : Int) == 0))] := hm.keep [0, 3, 4, 5, 12, 49]
      replace hS : Sep w0 w_108 [N_110, M_113] Z := hS
      replace hm : Fr 121 a [(0, .int .i64 (band .i64 x0 127)), (3, .int .i64 (band .i64 x3 1048575)), (4, .int .i64 (Int.tmod (band .i64 x4 255) 7)), (5, .int .i64 (Int.tmod (band .i64 x5 255) 7)), (12, .bool false), (49, .bool ((t_107.length : Int) == 0))] := hm.keep [0, 3, 4, 5, 12, 49]
      exact x_then_n (hJ_j_6 ((t_107.length : Int) == 0) H _ _ ⟨N_110, hm, (Sep.sel hS [0] (by decide)), (le_100.trans (le_105.trans le_110))⟩)
    · rw [if_neg hc_106] at H
      refine s_off hm rfl rfl rfl (Bool.eq_false_iff.2 hc_106) ?_
      clear hm a; intro a hm
      refine s_off hm rfl rfl rfl (Bool.eq_false_iff.2 hc_106) ?_
      clear hm a; intro a hm
      refine s_off hm rfl rfl rfl (Bool.eq_false_iff.2 hc_106) ?_
      clear hm a; intro a hm
      refine s_off hm rfl rfl rfl (Bool.eq_false_iff.2 hc_106) ?_
      clear hm a; intro a hm
      refine s_off hm rfl rfl rfl (Bool.eq_false_iff.2 hc_106) ?_
      clear hm a; intro a hm
      refine s_off hm rfl rfl rfl (Bool.eq_false_iff.2 hc_106) ?_
      clear hm a; intro a hm
      refine s_pick_f hm rfl rfl (Bool.eq_false_iff.2 hc_106) rfl ?_
      clear hm a; intro a hm
      refine wpList_nil ?_
      replace hm : Fr 121 a [(0, .int .i64 (band .i64 x0 127)), (3, .int .i64 (band .i64 x3 1048575)), (4, .int .i64 (Int.tmod (band .i64 x4 255) 7)), (5, .int .i64 (Int.tmod (band .i64 x5 255) 7)), (12, .bool false), (49, .bool false)] := hm.keep [0, 3, 4, 5, 12, 49]
      replace hS : Sep w0 w_103 [N_105] Z := hS
      replace hm : Fr 121 a [(0, .int .i64 (band .i64 x0 127)), (3, .int .i64 (band .i64 x3 1048575)), (4, .int .i64 (Int.tmod (band .i64 x4 255) 7)), (5, .int .i64 (Int.tmod (band .i64 x5 255) 7)), (12, .bool false), (49, .bool false)] := hm.keep [0, 3, 4, 5, 12, 49]
      exact x_then_n (hJ_j_6 false H _ _ ⟨N_105, hm, (Sep.sel hS [0] (by decide)), (le_100.trans le_105)⟩)
  · rw [if_neg hc_101] at H
    refine s_off hm rfl rfl rfl (Bool.eq_false_iff.2 hc_101) ?_
    clear hm a; intro a hm
    refine s_off hm rfl rfl rfl (Bool.eq_false_iff.2 hc_101) ?_
    clear hm a; intro a hm
    refine s_off hm rfl rfl rfl (Bool.eq_false_iff.2 hc_101) ?_
    clear hm a; intro a hm
    refine s_pick_f hm rfl rfl (Bool.eq_false_iff.2 hc_101) rfl ?_
    clear hm a; intro a hm
    refine s_move hm rfl rfl ?_
    clear hm a; intro a hm
    refine s_off hm rfl rfl rfl rfl ?_
    clear hm a; intro a hm
    refine s_off hm rfl rfl rfl rfl ?_
    clear hm a; intro a hm
    refine s_off hm rfl rfl rfl rfl ?_
    clear hm a; intro a hm
    refine s_off hm rfl rfl rfl rfl ?_
    clear hm a; intro a hm
    refine s_off hm rfl rfl rfl rfl ?_
    clear hm a; intro a hm
    refine s_off hm rfl rfl rfl rfl ?_
    clear hm a; intro a hm
    refine s_pick_f hm rfl rfl rfl rfl ?_
    clear hm a; intro a hm
    refine wpList_nil ?_
    replace hm : Fr 121 a [(0, .int .i64 (band .i64 x0 127)), (3, .int .i64 (band .i64 x3 1048575)), (4, .int .i64 (Int.tmod (band .i64 x4 255) 7)), (5, .int .i64 (Int.tmod (band .i64 x5 255) 7)), (12, .bool false), (49, .bool false)] := hm.keep [0, 3, 4, 5, 12, 49]
    replace hS : Sep w0 w_98 [N_100] Z := hS
    replace hm : Fr 121 a [(0, .int .i64 (band .i64 x0 127)), (3, .int .i64 (band .i64 x3 1048575)), (4, .int .i64 (Int.tmod (band .i64 x4 255) 7)), (5, .int .i64 (Int.tmod (band .i64 x5 255) 7)), (12, .bool false), (49, .bool false)] := hm.keep [0, 3, 4, 5, 12, 49]
    exact x_then_n (hJ_j_6 false H _ _ ⟨N_100, hm, (Sep.sel hS [0] (by decide)), le_100⟩)


end Go.Proofs
