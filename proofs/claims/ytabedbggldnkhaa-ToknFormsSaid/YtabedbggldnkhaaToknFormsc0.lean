/- What the calls do: each function once. -/
import Derived.Test.YtabedbggldnkhaaFacts
namespace Go.Proofs
open Go.Gp
set_option linter.unusedVariables false
set_option maxHeartbeats 4000000 in
set_option maxRecDepth 20000 in
theorem hocketref1_SameInts.calls (K : Nat) (x0 : List Int) (p0_0 : Value) (x1 : List Int) (p1_1 : Value) (r : Bool) (w0 w : World) (Z A : Mem) (hA : A.le Z) (hS : Sep w0 w [] Z) (hp0_0 : Rd (Kd.int .i64) A p0_0 x0) (hp1_1 : Rd (Kd.int .i64) A p1_1 x1)
    (H : hocketref1_SameInts.f K x0 x1 = some r) :
    Calls Try.prog 25 [p0_0, p1_1].toArray w (Ret fun v w' => ∃ (N : Mem), v = .bool r ∧ Sep w0 w' [N] Z) := by
  unfold hocketref1_SameInts.f at H
  refine f_enter _ Try.func25 rfl Try.ntmps25 rfl fun a hm => ?_
  replace hm : Fr 26 a [(0, p0_0), (1, p1_1)] := hm
  replace hS := hS.start
  replace hS : Sep w0 w [Mem.no] Z := hS
  refine wp_seq ?_
  refine wp_region_lit ?_
  refine s_assign hm rfl rfl ?_
  clear hm a; intro a hm
  refine wpList_nil ?_
  replace hm : Fr 26 a [(0, p0_0), (1, p1_1), (4, .bool false)] := hm.keep [0, 1, 4]
  refine x_then_n ?_
  refine c_seq fun KJ_1 hKJ_1 => ?_
  refine wp_seq ?_
  refine wp_region_lit ?_
  refine s_move hm rfl rfl ?_
  clear hm a; intro a hm
  refine s_len hm rfl Try.underlying23 rfl hp0_0 ?_
  clear hm a; intro a hm
  refine s_move hm rfl rfl ?_
  clear hm a; intro a hm
  refine s_len hm rfl Try.underlying23 rfl hp1_1 ?_
  clear hm a; intro a hm
  refine s_cmp (b := ((x0.length : Int) != (x1.length : Int))) hm rfl rfl rfl (.inr (.inl ⟨rfl, rfl⟩)) ?_
  clear hm a; intro a hm
  refine wpList_nil ?_
  replace hm : Fr 26 a [(0, p0_0), (1, p1_1), (4, .bool false), (10, .bool ((x0.length : Int) != (x1.length : Int)))] := hm.keep [0, 1, 4, 10]
  refine x_then_n ?_
  by_cases hc_2 : (x0.length : Int) = (x1.length : Int)
  · rw [if_pos hc_2] at H
    refine c_cond_f hm rfl (bne_eq_false_iff_eq.2 hc_2) ?_
    refine wp_skip ?_
    refine x_then_n (hKJ_1 _ _ ?_)
    refine c_seq fun KJ_3 hKJ_3 => ?_
    refine wp_seq ?_
    refine wp_region_lit ?_
    refine s_assign hm rfl rfl ?_
    clear hm a; intro a hm
    refine wpList_nil ?_
    replace hm : Fr 26 a [(0, p0_0), (1, p1_1), (4, .bool false), (5, .int .i64 0)] := hm.keep [0, 1, 4, 5]
    refine x_then_n ?_
    have hJ_j_6 : hocketref1_SameInts.J1 K = some r → ∀ (a : Act) (w_5 : World), (∃ (N_4 : Mem), Fr 26 a [(4, .bool false)] ∧ Sep w0 w_5 [N_4] Z ∧ Mem.no.le N_4) → KJ_3 a w_5 := by
      clear H hm hS a
      rintro H a w_5 ⟨N_4, hm, hS, le_4⟩
      unfold hocketref1_SameInts.J1 at H
      refine hKJ_3 _ _ ?_
      refine wp_seq ?_
      refine wp_region_lit ?_
      refine s_assign hm rfl rfl ?_
      clear hm a; intro a hm
      refine wpList_nil ?_
      replace hm : Fr 26 a [(4, .bool true)] := hm.keep [4]
      refine x_then_n ?_
      refine wp_ret ?_
      obtain rfl := Option.some.inj H
      exact f_ret hm (rs := [.tmp 4]) rfl (.tmp rfl .nil) ⟨_, rfl, N_4, rfl, (Sep.sel hS [0] (by decide))⟩
    clear hKJ_3
    replace hS : Sep w0 w [Mem.no] Z := hS
    replace hm : Fr 26 a [(0, p0_0), (1, p1_1), (4, .bool false), (5, .int .i64 0)] := hm.keep [0, 1, 4, 5]
    refine c_block ?_
    refine c_loop (fun k_9 a w_9 => ∃ (x_8 : Int) (N_7 : Mem), hocketref1_SameInts.L1 K x0 x1 (fun v => hocketref1_SameInts.J1 K) k_9 x_8 = some r ∧ Fr 26 a [(0, p0_0), (1, p1_1), (4, .bool false), (5, .int .i64 x_8)] ∧ Sep w0 w_9 [N_7] Z ∧ Mem.no.le N_7) K ⟨0, Mem.no, H, hm, (Sep.sel hS [0] (by decide)), (Mem.le.refl _)⟩ (fun a w h => by obtain ⟨_, _, H, _⟩ := h; cases (show (none : Option (Bool)) = some r from H)) ?_
    clear hm hS a H
    rintro k_9 a w_9 KL_9 hKL_9 ⟨x_8, N_7, H, hm, hS, le_7⟩
    replace H : hocketref1_SameInts.B1 K x0 x1 (fun v => hocketref1_SameInts.J1 K) (hocketref1_SameInts.L1 K x0 x1 (fun v => hocketref1_SameInts.J1 K) k_9) x_8 = some r := H
    unfold hocketref1_SameInts.B1 at H
    refine c_seq fun KJ_11 hKJ_11 => ?_
    refine wp_seq ?_
    refine wp_region_lit ?_
    refine s_move hm rfl rfl ?_
    clear hm a; intro a hm
    refine s_move hm rfl rfl ?_
    clear hm a; intro a hm
    refine s_len hm rfl Try.underlying23 rfl hp0_0 ?_
    clear hm a; intro a hm
    refine s_cmp (b := decide (x_8 < (x0.length : Int))) hm rfl rfl rfl (.inr (.inr (.inl ⟨rfl, rfl⟩))) ?_
    clear hm a; intro a hm
    refine wpList_nil ?_
    replace hm : Fr 26 a [(0, p0_0), (1, p1_1), (4, .bool false), (5, .int .i64 x_8), (14, .bool (decide (x_8 < (x0.length : Int))))] := hm.keep [0, 1, 4, 5, 14]
    refine x_then_n ?_
    by_cases hc_12 : x_8 < (x0.length : Int)
    · rw [if_pos hc_12] at H
      refine c_cond_t hm rfl (decide_eq_true hc_12) ?_
      refine wp_skip ?_
      refine x_then_n (hKJ_11 _ _ ?_)
      refine c_seq fun KJ_13 hKJ_13 => ?_
      refine c_block ?_
      refine c_seq fun KJ_14 hKJ_14 => ?_
      refine h_begin (S := fun w => Sep w0 w [N_7] Z) 9 (by kernel_rfl) rfl [false, false, false, false, false, false, false, false, false].toArray rfl hS fun w_15 hS => ?_
      replace hS : Sep w0 w_15 [N_7] Z := hS
      refine h_take 0 [true, false, false, false, false, false, false, false, false].toArray rfl (by kernel_rfl) (by kernel_rfl) (by kernel_rfl) (fun _ _ _ _ h => h) rfl rfl rfl rfl hm (hS.sub (.cons (Mem.le.refl _) (Sub.nil _))) (v := p0_0) (fun w hS => r_move hm rfl) ?_
      clear hm a; intro a hm
      refine h_take 1 [true, true, false, false, false, false, false, false, false].toArray rfl (by kernel_rfl) (by kernel_rfl) (by kernel_rfl) (fun _ _ _ _ h => h) rfl rfl rfl rfl hm (hS.sub (.cons (Mem.le.refl _) (Sub.nil _))) (v := .int .i64 x_8) (fun w hS => r_move hm rfl) ?_
      clear hm a; intro a hm
      obtain ⟨t_16, et_16, H⟩ := Option.bind_eq_some_iff.1 H
      refine h_takeE 2 [true, true, true, false, false, false, false, false, false].toArray rfl (by kernel_rfl) (by kernel_rfl) (by kernel_rfl) (fun _ _ _ _ h => h) rfl rfl rfl rfl hm (hS.sub (.cons (Mem.le.refl _) (Sub.nil _))) (f := fun ad => .pointer (some ad)) (r_index hm Try.underlying23 ti3 rfl rfl rfl hp0_0 et_16) ?_
      rintro ad_17 ⟨cs_18, hk_19, hc_20⟩
      obtain rfl := (show cs_18 = [.int .i64 t_16] from hk_19)
      clear hm a; intro a hm
      refine h_take 3 [true, true, true, true, false, false, false, false, false].toArray rfl (by kernel_rfl) (by kernel_rfl) (by kernel_rfl) (fun _ _ _ _ h => h) rfl rfl rfl rfl hm (hS.sub (.cons (Mem.le.refl _) (Sub.nil _))) (v := .int .i64 t_16) (fun w hS => r_load hm rfl (el_one (o := 0) (fun j c h => Mem.cell_le (hA.trans hS.old) (hc_20 j c h)) Try.underlying3 rfl rfl)) ?_
      clear hm a; intro a hm
      refine h_take 4 [true, true, true, true, true, false, false, false, false].toArray rfl (by kernel_rfl) (by kernel_rfl) (by kernel_rfl) (fun _ _ _ _ h => h) rfl rfl rfl rfl hm (hS.sub (.cons (Mem.le.refl _) (Sub.nil _))) (v := p1_1) (fun w hS => r_move hm rfl) ?_
      clear hm a; intro a hm
      refine h_take 5 [true, true, true, true, true, true, false, false, false].toArray rfl (by kernel_rfl) (by kernel_rfl) (by kernel_rfl) (fun _ _ _ _ h => h) rfl rfl rfl rfl hm (hS.sub (.cons (Mem.le.refl _) (Sub.nil _))) (v := .int .i64 x_8) (fun w hS => r_move hm rfl) ?_
      clear hm a; intro a hm
      obtain ⟨t_21, et_21, H⟩ := Option.bind_eq_some_iff.1 H
      refine h_takeE 6 [true, true, true, true, true, true, true, false, false].toArray rfl (by kernel_rfl) (by kernel_rfl) (by kernel_rfl) (fun _ _ _ _ h => h) rfl rfl rfl rfl hm (hS.sub (.cons (Mem.le.refl _) (Sub.nil _))) (f := fun ad => .pointer (some ad)) (r_index hm Try.underlying23 ti3 rfl rfl rfl hp1_1 et_21) ?_
      rintro ad_22 ⟨cs_23, hk_24, hc_25⟩
      obtain rfl := (show cs_23 = [.int .i64 t_21] from hk_24)
      clear hm a; intro a hm
      refine h_take 7 [true, true, true, true, true, true, true, true, false].toArray rfl (by kernel_rfl) (by kernel_rfl) (by kernel_rfl) (fun _ _ _ _ h => h) rfl rfl rfl rfl hm (hS.sub (.cons (Mem.le.refl _) (Sub.nil _))) (v := .int .i64 t_21) (fun w hS => r_load hm rfl (el_one (o := 0) (fun j c h => Mem.cell_le (hA.trans hS.old) (hc_25 j c h)) Try.underlying3 rfl rfl)) ?_
      clear hm a; intro a hm
      refine h_take 8 [true, true, true, true, true, true, true, true, true].toArray rfl (by kernel_rfl) (by kernel_rfl) (by kernel_rfl) (fun _ _ _ _ h => h) rfl rfl rfl rfl hm (hS.sub (.cons (Mem.le.refl _) (Sub.nil _))) (v := .bool (t_16 != t_21)) (fun w hS => r_cmp (b := (t_16 != t_21)) hm rfl rfl (.inr (.inl ⟨rfl, rfl⟩))) ?_
      clear hm a; intro a hm
      refine h_done (by kernel_rfl) ?_
      replace hm : Fr 26 a [(0, p0_0), (1, p1_1), (4, .bool false), (5, .int .i64 x_8), (25, .bool (t_16 != t_21))] := hm.keep [0, 1, 4, 5, 25]
      refine x_then_n (hKJ_14 _ _ ?_)
      by_cases hc_26 : t_16 = t_21
      · rw [if_pos hc_26] at H
        refine c_cond_f hm rfl (bne_eq_false_iff_eq.2 hc_26) ?_
        refine wp_skip ?_
        refine x_block_n ?_
        refine x_then_n (hKJ_13 _ _ ?_)
        refine wp_region_lit ?_
        refine s_move hm rfl rfl ?_
        clear hm a; intro a hm
        refine s_arith (r := w64 (x_8 + 1)) hm rfl rfl rfl (.inl ⟨rfl, rfl⟩) ?_
        clear hm a; intro a hm
        refine s_assign hm rfl rfl ?_
        clear hm a; intro a hm
        refine wpList_nil ?_
        replace hm : Fr 26 a [(0, p0_0), (1, p1_1), (4, .bool false), (5, .int .i64 (w64 (x_8 + 1)))] := hm.keep [0, 1, 4, 5]
        refine x_then_n (hKL_9 _ _ ?_)
        replace hS : Sep w0 w_15 [N_7] Z := hS
        replace hm : Fr 26 a [(0, p0_0), (1, p1_1), (4, .bool false), (5, .int .i64 (w64 (x_8 + 1)))] := hm.keep [0, 1, 4, 5]
        exact ⟨w64 (x_8 + 1), N_7, H, hm, (Sep.sel hS [0] (by decide)), le_7⟩
      · rw [if_neg hc_26] at H
        refine c_cond_t hm rfl (bne_iff_ne.2 hc_26) ?_
        refine wp_seq ?_
        refine wp_region_lit ?_
        refine s_assign hm rfl rfl ?_
        clear hm a; intro a hm
        refine wpList_nil ?_
        replace hm : Fr 26 a [(0, p0_0), (1, p1_1), (4, .bool false), (5, .int .i64 x_8)] := hm.keep [0, 1, 4, 5]
        refine x_then_n ?_
        refine wp_ret (x_block_r (x_then_r (x_then_r (x_block_r (x_then_r ?_)))))
        obtain rfl := Option.some.inj H
        exact f_ret hm (rs := [.tmp 4]) rfl (.tmp rfl .nil) ⟨_, rfl, N_7, rfl, (Sep.sel hS [0] (by decide))⟩
    · rw [if_neg hc_12] at H
      refine c_cond_f hm rfl (decide_eq_false hc_12) ?_
      refine wp_exit (x_then_x (x_then_x (x_block_t ?_)))
      replace hS : Sep w0 w_9 [N_7] Z := hS
      replace hm : Fr 26 a [(4, .bool false)] := hm.keep [4]
      exact x_then_n (hJ_j_6  H _ _ ⟨N_7, hm, (Sep.sel hS [0] (by decide)), le_7⟩)
  · rw [if_neg hc_2] at H
    refine c_cond_t hm rfl (bne_iff_ne.2 hc_2) ?_
    refine wp_seq ?_
    refine wp_region_lit ?_
    refine s_assign hm rfl rfl ?_
    clear hm a; intro a hm
    refine wpList_nil ?_
    replace hm : Fr 26 a [(0, p0_0), (1, p1_1), (4, .bool false)] := hm.keep [0, 1, 4]
    refine x_then_n ?_
    refine wp_ret (x_then_r ?_)
    obtain rfl := Option.some.inj H
    exact f_ret hm (rs := [.tmp 4]) rfl (.tmp rfl .nil) ⟨_, rfl, Mem.no, rfl, (Sep.sel hS [0] (by decide))⟩

set_option maxHeartbeats 4000000 in
set_option maxRecDepth 20000 in
theorem slices_Min_sint_int.calls (K : Nat) (x0 : List Int) (p0_0 : Value) (r : Int) (w0 w : World) (Z A : Mem) (hA : A.le Z) (hS : Sep w0 w [] Z) (hp0_0 : Rd (Kd.int .i64) A p0_0 x0)
    (H : slices_Min_sint_int.f K x0 = some r) :
    Calls Try.prog 64 [p0_0].toArray w (Ret fun v w' => ∃ (N : Mem), v = .int .i64 r ∧ Sep w0 w' [N] Z) := by
  unfold slices_Min_sint_int.f at H
  refine f_enter _ Try.func64 rfl Try.ntmps64 rfl fun a hm => ?_
  replace hm : Fr 25 a [(0, p0_0)] := hm
  replace hS := hS.start
  replace hS : Sep w0 w [Mem.no] Z := hS
  refine wp_seq ?_
  refine wp_region_lit ?_
  refine s_assign hm rfl rfl ?_
  clear hm a; intro a hm
  refine wpList_nil ?_
  replace hm : Fr 25 a [(0, p0_0), (2, .int .i64 0)] := hm.keep [0, 2]
  refine x_then_n ?_
  refine c_seq fun KJ_1 hKJ_1 => ?_
  refine wp_seq ?_
  refine wp_region_lit ?_
  refine s_move hm rfl rfl ?_
  clear hm a; intro a hm
  refine s_len hm rfl Try.underlying23 rfl hp0_0 ?_
  clear hm a; intro a hm
  refine s_cmp (b := decide ((x0.length : Int) < 1)) hm rfl rfl rfl (.inr (.inr (.inl ⟨rfl, rfl⟩))) ?_
  clear hm a; intro a hm
  refine wpList_nil ?_
  replace hm : Fr 25 a [(0, p0_0), (2, .int .i64 0), (7, .bool (decide ((x0.length : Int) < 1)))] := hm.keep [0, 2, 7]
  refine x_then_n ?_
  by_cases hc_2 : (x0.length : Int) < 1
  · rw [if_pos hc_2] at H
    cases H
  · rw [if_neg hc_2] at H
    refine c_cond_f hm rfl (decide_eq_false hc_2) ?_
    refine wp_skip ?_
    refine x_then_n (hKJ_1 _ _ ?_)
    refine wp_seq ?_
    refine wp_region_lit ?_
    refine s_move hm rfl rfl ?_
    clear hm a; intro a hm
    obtain ⟨t_3, et_3, H⟩ := Option.bind_eq_some_iff.1 H
    refine v_index hm rfl Try.underlying23 ti3 rfl rfl rfl hp0_0 (hA.trans hS.old) et_3 ?_
    intro ad_4 cs_5 hk_6 hc_7
    obtain rfl := (show cs_5 = [.int .i64 t_3] from hk_6)
    clear hm a; intro a hm
    refine s_load hm rfl rfl (el_one (o := 0) hc_7 Try.underlying3 rfl rfl) ?_
    clear hm a; intro a hm
    refine s_assign hm rfl rfl ?_
    clear hm a; intro a hm
    refine wpList_nil ?_
    replace hm : Fr 25 a [(0, p0_0), (2, .int .i64 0), (3, .int .i64 t_3)] := hm.keep [0, 2, 3]
    refine x_then_n ?_
    refine c_seq fun KJ_8 hKJ_8 => ?_
    refine wp_seq ?_
    refine wp_region_lit ?_
    refine s_assign hm rfl rfl ?_
    clear hm a; intro a hm
    refine wpList_nil ?_
    replace hm : Fr 25 a [(0, p0_0), (2, .int .i64 0), (3, .int .i64 t_3), (4, .int .i64 1)] := hm.keep [0, 2, 3, 4]
    refine x_then_n ?_
    have hJ_j_12 : ∀ (x_10 : Int), slices_Min_sint_int.J1 K x_10 = some r → ∀ (a : Act) (w_11 : World), (∃ (N_9 : Mem), Fr 25 a [(2, .int .i64 0), (3, .int .i64 x_10)] ∧ Sep w0 w_11 [N_9] Z ∧ Mem.no.le N_9) → KJ_8 a w_11 := by
      clear H hm hS a
      rintro x_10 H a w_11 ⟨N_9, hm, hS, le_9⟩
      unfold slices_Min_sint_int.J1 at H
      refine hKJ_8 _ _ ?_
      refine wp_seq ?_
      refine wp_region_lit ?_
      refine s_move hm rfl rfl ?_
      clear hm a; intro a hm
      refine s_assign hm rfl rfl ?_
      clear hm a; intro a hm
      refine wpList_nil ?_
      replace hm : Fr 25 a [(2, .int .i64 x_10)] := hm.keep [2]
      refine x_then_n ?_
      refine wp_ret ?_
      obtain rfl := Option.some.inj H
      exact f_ret hm (rs := [.tmp 2]) rfl (.tmp rfl .nil) ⟨_, rfl, N_9, rfl, (Sep.sel hS [0] (by decide))⟩
    clear hKJ_8
    replace hS : Sep w0 w [Mem.no] Z := hS
    replace hm : Fr 25 a [(0, p0_0), (2, .int .i64 0), (3, .int .i64 t_3), (4, .int .i64 1)] := hm.keep [0, 2, 3, 4]
    refine c_block ?_
    refine c_loop (fun k_16 a w_16 => ∃ (x_14 : Int) (x_15 : Int) (N_13 : Mem), slices_Min_sint_int.L1 K x0 (fun v => slices_Min_sint_int.J1 K v) k_16 (x_14, x_15) = some r ∧ Fr 25 a [(0, p0_0), (2, .int .i64 0), (3, .int .i64 x_14), (4, .int .i64 x_15)] ∧ Sep w0 w_16 [N_13] Z ∧ Mem.no.le N_13) K ⟨t_3, 1, Mem.no, H, hm, (Sep.sel hS [0] (by decide)), (Mem.le.refl _)⟩ (fun a w h => by obtain ⟨_, _, _, H, _⟩ := h; cases (show (none : Option (Int)) = some r from H)) ?_
    clear hm hS a H
    rintro k_16 a w_16 KL_16 hKL_16 ⟨x_14, x_15, N_13, H, hm, hS, le_13⟩
    replace H : slices_Min_sint_int.B1 K x0 (fun v => slices_Min_sint_int.J1 K v) (slices_Min_sint_int.L1 K x0 (fun v => slices_Min_sint_int.J1 K v) k_16) x_14 x_15 = some r := H
    unfold slices_Min_sint_int.B1 at H
    refine c_seq fun KJ_18 hKJ_18 => ?_
    refine wp_seq ?_
    refine wp_region_lit ?_
    refine s_move hm rfl rfl ?_
    clear hm a; intro a hm
    refine s_move hm rfl rfl ?_
    clear hm a; intro a hm
    refine s_len hm rfl Try.underlying23 rfl hp0_0 ?_
    clear hm a; intro a hm
    refine s_cmp (b := decide (x_15 < (x0.length : Int))) hm rfl rfl rfl (.inr (.inr (.inl ⟨rfl, rfl⟩))) ?_
    clear hm a; intro a hm
    refine wpList_nil ?_
    replace hm : Fr 25 a [(0, p0_0), (2, .int .i64 0), (3, .int .i64 x_14), (4, .int .i64 x_15), (15, .bool (decide (x_15 < (x0.length : Int))))] := hm.keep [0, 2, 3, 4, 15]
    refine x_then_n ?_
    by_cases hc_19 : x_15 < (x0.length : Int)
    · rw [if_pos hc_19] at H
      refine c_cond_t hm rfl (decide_eq_true hc_19) ?_
      refine wp_skip ?_
      refine x_then_n (hKJ_18 _ _ ?_)
      refine wp_seq ?_
      refine c_block ?_
      refine wp_region_lit ?_
      refine s_move hm rfl rfl ?_
      clear hm a; intro a hm
      refine s_move hm rfl rfl ?_
      clear hm a; intro a hm
      refine s_move hm rfl rfl ?_
      clear hm a; intro a hm
      obtain ⟨t_20, et_20, H⟩ := Option.bind_eq_some_iff.1 H
      refine v_index hm rfl Try.underlying23 ti3 rfl rfl rfl hp0_0 (hA.trans hS.old) et_20 ?_
      intro ad_21 cs_22 hk_23 hc_24
      obtain rfl := (show cs_22 = [.int .i64 t_20] from hk_23)
      clear hm a; intro a hm
      refine s_load hm rfl rfl (el_one (o := 0) hc_24 Try.underlying3 rfl rfl) ?_
      clear hm a; intro a hm
      refine s_min hm rfl rfl rfl ?_
      clear hm a; intro a hm
      refine s_assign hm rfl rfl ?_
      clear hm a; intro a hm
      refine wpList_nil ?_
      replace hm : Fr 25 a [(0, p0_0), (2, .int .i64 0), (3, .int .i64 (mn x_14 t_20)), (4, .int .i64 x_15)] := hm.keep [0, 2, 3, 4]
      refine x_block_n ?_
      refine x_then_n ?_
      refine wp_region_lit ?_
      refine s_move hm rfl rfl ?_
      clear hm a; intro a hm
      refine s_arith (r := w64 (x_15 + 1)) hm rfl rfl rfl (.inl ⟨rfl, rfl⟩) ?_
      clear hm a; intro a hm
      refine s_assign hm rfl rfl ?_
      clear hm a; intro a hm
      refine wpList_nil ?_
      replace hm : Fr 25 a [(0, p0_0), (2, .int .i64 0), (3, .int .i64 (mn x_14 t_20)), (4, .int .i64 (w64 (x_15 + 1)))] := hm.keep [0, 2, 3, 4]
      refine x_then_n (hKL_16 _ _ ?_)
      replace hS : Sep w0 w_16 [N_13] Z := hS
      replace hm : Fr 25 a [(0, p0_0), (2, .int .i64 0), (3, .int .i64 (mn x_14 t_20)), (4, .int .i64 (w64 (x_15 + 1)))] := hm.keep [0, 2, 3, 4]
      exact ⟨mn x_14 t_20, w64 (x_15 + 1), N_13, H, hm, (Sep.sel hS [0] (by decide)), le_13⟩
    · rw [if_neg hc_19] at H
      refine c_cond_f hm rfl (decide_eq_false hc_19) ?_
      refine wp_exit (x_then_x (x_then_x (x_block_t ?_)))
      replace hS : Sep w0 w_16 [N_13] Z := hS
      replace hm : Fr 25 a [(2, .int .i64 0), (3, .int .i64 x_14)] := hm.keep [2, 3]
      exact x_then_n (hJ_j_12 x_14 H _ _ ⟨N_13, hm, (Sep.sel hS [0] (by decide)), le_13⟩)

set_option maxHeartbeats 4000000 in
set_option maxRecDepth 20000 in
theorem tokn_Safe.calls (K : Nat) (x0 : api_Msg) (p0_0 : Value) (p0_1 : Value) (p0_2 : Value) (p0_3 : Value) (p0_4 : Value) (p0_5 : Value) (r : Int) (w0 w : World) (Z A : Mem) (hA : A.le Z) (hS : Sep w0 w [] Z) (hp0_0 : Rd Kd.u8 A p0_0 x0.Data) (hp0_1 : Rd (Kd.int .i64) A p0_1 x0.Have) (hp0_2 : Rd (Kd.int .i64) A p0_2 x0.Need) (hp0_3 : Rd Kd.u8 A p0_3 x0.Entry.Cmd.Key) (hp0_4 : Rd Kd.u8 A p0_4 x0.Entry.Cmd.Val) (hp0_5 : Rd Kd.u8 A p0_5 x0.Entry.Cmd.Old)
    (H : tokn_Safe.f K x0 = some r) :
    Calls Try.prog 35 [.agg ([.int .i64 x0.Kind, .int .i64 x0.From, .int .i64 x0.To, .int .i64 x0.View, .int .i64 x0.Inst, .int .i64 x0.Len, .bool x0.Has, .int .i64 x0.Members, .int .i64 x0.Source, .int .i64 x0.At, .int .i64 x0.Total, p0_0, .int .i64 x0.Hop, .int .i64 x0.Seq, p0_1, p0_2, .int .i64 x0.Index, .int .i64 x0.Entry.Sess, .int .i64 x0.Entry.Seq, .int .i64 x0.Entry.Cmd.Kind, .int .i64 x0.Entry.Cmd.Who, p0_3, p0_4, p0_5] : List Value).toArray].toArray w (Ret fun v w' => ∃ (N : Mem), v = .int .i64 r ∧ Sep w0 w' [N] Z) := by
  unfold tokn_Safe.f at H
  refine f_enter _ Try.func35 rfl Try.ntmps35 rfl fun a hm => ?_
  replace hm : Fr 10 a [(0, .agg ([.int .i64 x0.Kind, .int .i64 x0.From, .int .i64 x0.To, .int .i64 x0.View, .int .i64 x0.Inst, .int .i64 x0.Len, .bool x0.Has, .int .i64 x0.Members, .int .i64 x0.Source, .int .i64 x0.At, .int .i64 x0.Total, p0_0, .int .i64 x0.Hop, .int .i64 x0.Seq, p0_1, p0_2, .int .i64 x0.Index, .int .i64 x0.Entry.Sess, .int .i64 x0.Entry.Seq, .int .i64 x0.Entry.Cmd.Kind, .int .i64 x0.Entry.Cmd.Who, p0_3, p0_4, p0_5] : List Value).toArray)] := hm
  replace hS := hS.start
  replace hS : Sep w0 w [Mem.no] Z := hS
  refine wp_seq ?_
  refine wp_region_lit ?_
  refine v_box (vs := [.int .i64 x0.Kind, .int .i64 x0.From, .int .i64 x0.To, .int .i64 x0.View, .int .i64 x0.Inst, .int .i64 x0.Len, .bool x0.Has, .int .i64 x0.Members, .int .i64 x0.Source, .int .i64 x0.At, .int .i64 x0.Total, p0_0, .int .i64 x0.Hop, .int .i64 x0.Seq, p0_1, p0_2, .int .i64 x0.Index, .int .i64 x0.Entry.Sess, .int .i64 x0.Entry.Seq, .int .i64 x0.Entry.Cmd.Kind, .int .i64 x0.Entry.Cmd.Who, p0_3, p0_4, p0_5]) hm rfl rfl rfl hS ?_
  intro w_1 g_2 hS'
  clear hm a; intro a hm
  replace hS : Sep w0 w_1 [Mem.no, Mem.one g_2 (.cells ([.int .i64 x0.Kind, .int .i64 x0.From, .int .i64 x0.To, .int .i64 x0.View, .int .i64 x0.Inst, .int .i64 x0.Len, .bool x0.Has, .int .i64 x0.Members, .int .i64 x0.Source, .int .i64 x0.At, .int .i64 x0.Total, p0_0, .int .i64 x0.Hop, .int .i64 x0.Seq, p0_1, p0_2, .int .i64 x0.Index, .int .i64 x0.Entry.Sess, .int .i64 x0.Entry.Seq, .int .i64 x0.Entry.Cmd.Kind, .int .i64 x0.Entry.Cmd.Who, p0_3, p0_4, p0_5] : List Value).toArray 29 (0, 0))] Z := hS'
  clear hS'
  refine s_assign hm rfl rfl ?_
  clear hm a; intro a hm
  refine wpList_nil ?_
  replace hm : Fr 10 a [(1, .pointer (some ⟨g_2, 0, none⟩)), (2, .int .i64 0)] := hm.keep [1, 2]
  refine x_then_n ?_
  refine c_seq fun KJ_3 hKJ_3 => ?_
  refine wp_seq ?_
  refine wp_region_lit ?_
  refine s_fieldAddr hm rfl Try.underlying29 rfl ti23 rfl rfl ?_
  clear hm a; intro a hm
  refine s_load hm rfl rfl (hS.load_one (p := 1) rfl Try.underlying23 rfl rfl) ?_
  clear hm a; intro a hm
  refine s_len hm rfl Try.underlying23 rfl hp0_1 ?_
  clear hm a; intro a hm
  refine s_cmp (b := ((x0.Have.length : Int) == 0)) hm rfl rfl rfl (.inl ⟨rfl, rfl⟩) ?_
  clear hm a; intro a hm
  refine wpList_nil ?_
  replace hm : Fr 10 a [(1, .pointer (some ⟨g_2, 0, none⟩)), (2, .int .i64 0), (6, .bool ((x0.Have.length : Int) == 0))] := hm.keep [1, 2, 6]
  refine x_then_n ?_
  by_cases hc_4 : (x0.Have.length : Int) = 0
  · rw [if_pos hc_4] at H
    refine c_cond_t hm rfl (beq_iff_eq.2 hc_4) ?_
    refine wp_seq ?_
    refine wp_region_lit ?_
    refine s_assign hm rfl rfl ?_
    clear hm a; intro a hm
    refine wpList_nil ?_
    replace hm : Fr 10 a [(1, .pointer (some ⟨g_2, 0, none⟩)), (2, .int .i64 0)] := hm.keep [1, 2]
    refine x_then_n ?_
    refine wp_ret (x_then_r ?_)
    obtain rfl := Option.some.inj H
    exact f_ret hm (rs := [.tmp 2]) rfl (.tmp rfl .nil) ⟨_, rfl, Mem.no, rfl, (Sep.sel hS [0] (by decide))⟩
  · rw [if_neg hc_4] at H
    refine c_cond_f hm rfl (beq_eq_false_iff_ne.2 hc_4) ?_
    refine wp_skip ?_
    refine x_then_n (hKJ_3 _ _ ?_)
    refine wp_seq ?_
    refine wp_region_lit ?_
    refine s_fieldAddr hm rfl Try.underlying29 rfl ti23 rfl rfl ?_
    clear hm a; intro a hm
    refine s_load hm rfl rfl (hS.load_one (p := 1) rfl Try.underlying23 rfl rfl) ?_
    clear hm a; intro a hm
    obtain ⟨t_5, et_5, H⟩ := Option.bind_eq_some_iff.1 H
    refine s_call hm rfl Try.call64 rfl (slices_Min_sint_int.calls K x0.Have _ t_5 w0 _ _ _ (Mem.le.refl _) (hS.enter [] (by decide)) (hp0_1.mono (hA.trans (hS.le_zed []))) et_5) ?_
    rintro _ w_6 ⟨N_7, rfl, hS'⟩
    clear hm a; intro a hm
    obtain ⟨N_8, hS'', le_8, ln_8⟩ := hS.call [] (by decide) rfl (l' := []) (ow := []) rfl hS'
    replace hS : Sep w0 w_6 [N_8, Mem.one g_2 (.cells ([.int .i64 x0.Kind, .int .i64 x0.From, .int .i64 x0.To, .int .i64 x0.View, .int .i64 x0.Inst, .int .i64 x0.Len, .bool x0.Has, .int .i64 x0.Members, .int .i64 x0.Source, .int .i64 x0.At, .int .i64 x0.Total, p0_0, .int .i64 x0.Hop, .int .i64 x0.Seq, p0_1, p0_2, .int .i64 x0.Index, .int .i64 x0.Entry.Sess, .int .i64 x0.Entry.Seq, .int .i64 x0.Entry.Cmd.Kind, .int .i64 x0.Entry.Cmd.Who, p0_3, p0_4, p0_5] : List Value).toArray 29 (0, 0))] Z := hS''
    clear hS' hS''
    refine s_assign hm rfl rfl ?_
    clear hm a; intro a hm
    refine wpList_nil ?_
    replace hm : Fr 10 a [(2, .int .i64 t_5)] := hm.keep [2]
    refine x_then_n ?_
    refine wp_ret ?_
    obtain rfl := Option.some.inj H
    exact f_ret hm (rs := [.tmp 2]) rfl (.tmp rfl .nil) ⟨_, rfl, N_8, rfl, (Sep.sel hS [0] (by decide))⟩

set_option maxHeartbeats 4000000 in
set_option maxRecDepth 20000 in
theorem tokn_Room.calls (K : Nat) (x0 : api_Msg) (p0_0 : Value) (p0_1 : Value) (p0_2 : Value) (p0_3 : Value) (p0_4 : Value) (p0_5 : Value) (r : Int) (w0 w : World) (Z A : Mem) (hA : A.le Z) (hS : Sep w0 w [] Z) (hp0_0 : Rd Kd.u8 A p0_0 x0.Data) (hp0_1 : Rd (Kd.int .i64) A p0_1 x0.Have) (hp0_2 : Rd (Kd.int .i64) A p0_2 x0.Need) (hp0_3 : Rd Kd.u8 A p0_3 x0.Entry.Cmd.Key) (hp0_4 : Rd Kd.u8 A p0_4 x0.Entry.Cmd.Val) (hp0_5 : Rd Kd.u8 A p0_5 x0.Entry.Cmd.Old)
    (H : tokn_Room.f K x0 = some r) :
    Calls Try.prog 36 [.agg ([.int .i64 x0.Kind, .int .i64 x0.From, .int .i64 x0.To, .int .i64 x0.View, .int .i64 x0.Inst, .int .i64 x0.Len, .bool x0.Has, .int .i64 x0.Members, .int .i64 x0.Source, .int .i64 x0.At, .int .i64 x0.Total, p0_0, .int .i64 x0.Hop, .int .i64 x0.Seq, p0_1, p0_2, .int .i64 x0.Index, .int .i64 x0.Entry.Sess, .int .i64 x0.Entry.Seq, .int .i64 x0.Entry.Cmd.Kind, .int .i64 x0.Entry.Cmd.Who, p0_3, p0_4, p0_5] : List Value).toArray].toArray w (Ret fun v w' => ∃ (N : Mem), v = .int .i64 r ∧ Sep w0 w' [N] Z) := by
  unfold tokn_Room.f at H
  refine f_enter _ Try.func36 rfl Try.ntmps36 rfl fun a hm => ?_
  replace hm : Fr 11 a [(0, .agg ([.int .i64 x0.Kind, .int .i64 x0.From, .int .i64 x0.To, .int .i64 x0.View, .int .i64 x0.Inst, .int .i64 x0.Len, .bool x0.Has, .int .i64 x0.Members, .int .i64 x0.Source, .int .i64 x0.At, .int .i64 x0.Total, p0_0, .int .i64 x0.Hop, .int .i64 x0.Seq, p0_1, p0_2, .int .i64 x0.Index, .int .i64 x0.Entry.Sess, .int .i64 x0.Entry.Seq, .int .i64 x0.Entry.Cmd.Kind, .int .i64 x0.Entry.Cmd.Who, p0_3, p0_4, p0_5] : List Value).toArray)] := hm
  replace hS := hS.start
  replace hS : Sep w0 w [Mem.no] Z := hS
  refine wp_seq ?_
  refine wp_region_lit ?_
  refine v_box (vs := [.int .i64 x0.Kind, .int .i64 x0.From, .int .i64 x0.To, .int .i64 x0.View, .int .i64 x0.Inst, .int .i64 x0.Len, .bool x0.Has, .int .i64 x0.Members, .int .i64 x0.Source, .int .i64 x0.At, .int .i64 x0.Total, p0_0, .int .i64 x0.Hop, .int .i64 x0.Seq, p0_1, p0_2, .int .i64 x0.Index, .int .i64 x0.Entry.Sess, .int .i64 x0.Entry.Seq, .int .i64 x0.Entry.Cmd.Kind, .int .i64 x0.Entry.Cmd.Who, p0_3, p0_4, p0_5]) hm rfl rfl rfl hS ?_
  intro w_1 g_2 hS'
  clear hm a; intro a hm
  replace hS : Sep w0 w_1 [Mem.no, Mem.one g_2 (.cells ([.int .i64 x0.Kind, .int .i64 x0.From, .int .i64 x0.To, .int .i64 x0.View, .int .i64 x0.Inst, .int .i64 x0.Len, .bool x0.Has, .int .i64 x0.Members, .int .i64 x0.Source, .int .i64 x0.At, .int .i64 x0.Total, p0_0, .int .i64 x0.Hop, .int .i64 x0.Seq, p0_1, p0_2, .int .i64 x0.Index, .int .i64 x0.Entry.Sess, .int .i64 x0.Entry.Seq, .int .i64 x0.Entry.Cmd.Kind, .int .i64 x0.Entry.Cmd.Who, p0_3, p0_4, p0_5] : List Value).toArray 29 (0, 0))] Z := hS'
  clear hS'
  refine s_assign hm rfl rfl ?_
  clear hm a; intro a hm
  refine wpList_nil ?_
  replace hm : Fr 11 a [(1, .pointer (some ⟨g_2, 0, none⟩)), (2, .int .i64 0)] := hm.keep [1, 2]
  refine x_then_n ?_
  refine c_seq fun KJ_3 hKJ_3 => ?_
  refine h_begin (S := fun w => Sep w0 w [Mem.no, Mem.one g_2 (.cells ([.int .i64 x0.Kind, .int .i64 x0.From, .int .i64 x0.To, .int .i64 x0.View, .int .i64 x0.Inst, .int .i64 x0.Len, .bool x0.Has, .int .i64 x0.Members, .int .i64 x0.Source, .int .i64 x0.At, .int .i64 x0.Total, p0_0, .int .i64 x0.Hop, .int .i64 x0.Seq, p0_1, p0_2, .int .i64 x0.Index, .int .i64 x0.Entry.Sess, .int .i64 x0.Entry.Seq, .int .i64 x0.Entry.Cmd.Kind, .int .i64 x0.Entry.Cmd.Who, p0_3, p0_4, p0_5] : List Value).toArray 29 (0, 0))] Z) 9 (by kernel_rfl) rfl [false, false, false, false, false, false, false, false, false].toArray rfl hS fun w_4 hS => ?_
  replace hS : Sep w0 w_4 [Mem.no, Mem.one g_2 (.cells ([.int .i64 x0.Kind, .int .i64 x0.From, .int .i64 x0.To, .int .i64 x0.View, .int .i64 x0.Inst, .int .i64 x0.Len, .bool x0.Has, .int .i64 x0.Members, .int .i64 x0.Source, .int .i64 x0.At, .int .i64 x0.Total, p0_0, .int .i64 x0.Hop, .int .i64 x0.Seq, p0_1, p0_2, .int .i64 x0.Index, .int .i64 x0.Entry.Sess, .int .i64 x0.Entry.Seq, .int .i64 x0.Entry.Cmd.Kind, .int .i64 x0.Entry.Cmd.Who, p0_3, p0_4, p0_5] : List Value).toArray 29 (0, 0))] Z := hS
  refine h_take 0 [true, false, false, false, false, false, false, false, false].toArray rfl (by kernel_rfl) (by kernel_rfl) (by kernel_rfl) (fun _ _ _ _ h => h) rfl rfl rfl rfl hm (hS.sub (.cons (Mem.le.refl _) (.cons (Mem.le.refl _) (Sub.nil _)))) (v := .agg ([.int .i64 x0.Kind, .int .i64 x0.From, .int .i64 x0.To, .int .i64 x0.View, .int .i64 x0.Inst, .int .i64 x0.Len, .bool x0.Has, .int .i64 x0.Members, .int .i64 x0.Source, .int .i64 x0.At, .int .i64 x0.Total, p0_0, .int .i64 x0.Hop, .int .i64 x0.Seq, p0_1, p0_2, .int .i64 x0.Index, .int .i64 x0.Entry.Sess, .int .i64 x0.Entry.Seq, .int .i64 x0.Entry.Cmd.Kind, .int .i64 x0.Entry.Cmd.Who, p0_3, p0_4, p0_5] : List Value).toArray) (fun w hS => r_load hm rfl (hS.load_agg (p := 1) (us := [.int .i64 x0.Kind, .int .i64 x0.From, .int .i64 x0.To, .int .i64 x0.View, .int .i64 x0.Inst, .int .i64 x0.Len, .bool x0.Has, .int .i64 x0.Members, .int .i64 x0.Source, .int .i64 x0.At, .int .i64 x0.Total, p0_0, .int .i64 x0.Hop, .int .i64 x0.Seq, p0_1, p0_2, .int .i64 x0.Index, .int .i64 x0.Entry.Sess, .int .i64 x0.Entry.Seq, .int .i64 x0.Entry.Cmd.Kind, .int .i64 x0.Entry.Cmd.Who, p0_3, p0_4, p0_5]) rfl Try.underlying29 rfl ti29 rfl rfl)) ?_
  clear hm a; intro a hm
  refine h_take 3 [true, false, false, true, false, false, false, false, false].toArray rfl (by kernel_rfl) (by kernel_rfl) (by kernel_rfl) (fun _ _ _ _ h => h) rfl rfl rfl rfl hm (hS.sub (.cons (Mem.le.refl _) (.cons (Mem.le.refl _) (Sub.nil _)))) (v := .pointer (some ⟨g_2, 13, none⟩)) (fun w hS => r_fieldAddr hm Try.underlying29 rfl ti3 rfl rfl rfl) ?_
  clear hm a; intro a hm
  refine h_take 4 [true, false, false, true, true, false, false, false, false].toArray rfl (by kernel_rfl) (by kernel_rfl) (by kernel_rfl) (fun _ _ _ _ h => h) rfl rfl rfl rfl hm (hS.sub (.cons (Mem.le.refl _) (.cons (Mem.le.refl _) (Sub.nil _)))) (v := .int .i64 x0.Seq) (fun w hS => r_load hm rfl (hS.load_one (p := 1) rfl Try.underlying3 rfl rfl)) ?_
  clear hm a; intro a hm
  refine h_event 1 [true, true, false, true, true, false, false, false, false].toArray rfl (by kernel_rfl) rfl ?_
  obtain ⟨t_5, et_5, H⟩ := Option.bind_eq_some_iff.1 H
  refine s_call hm rfl Try.call35 rfl (tokn_Safe.calls K x0 _ _ _ _ _ _ t_5 w0 _ _ _ (Mem.le.refl _) (hS.enter [] (by decide)) (hp0_0.mono (hA.trans (hS.le_zed []))) (hp0_1.mono (hA.trans (hS.le_zed []))) (hp0_2.mono (hA.trans (hS.le_zed []))) (hp0_3.mono (hA.trans (hS.le_zed []))) (hp0_4.mono (hA.trans (hS.le_zed []))) (hp0_5.mono (hA.trans (hS.le_zed []))) et_5) ?_
  rintro _ w_6 ⟨N_7, rfl, hS'⟩
  clear hm a; intro a hm
  obtain ⟨N_8, hS'', le_8, ln_8⟩ := hS.call [] (by decide) rfl (l' := []) (ow := []) rfl hS'
  replace hS : Sep w0 w_6 [N_8, Mem.one g_2 (.cells ([.int .i64 x0.Kind, .int .i64 x0.From, .int .i64 x0.To, .int .i64 x0.View, .int .i64 x0.Inst, .int .i64 x0.Len, .bool x0.Has, .int .i64 x0.Members, .int .i64 x0.Source, .int .i64 x0.At, .int .i64 x0.Total, p0_0, .int .i64 x0.Hop, .int .i64 x0.Seq, p0_1, p0_2, .int .i64 x0.Index, .int .i64 x0.Entry.Sess, .int .i64 x0.Entry.Seq, .int .i64 x0.Entry.Cmd.Kind, .int .i64 x0.Entry.Cmd.Who, p0_3, p0_4, p0_5] : List Value).toArray 29 (0, 0))] Z := hS''
  clear hS' hS''
  refine wpList_nil ?_
  refine x_then_n ⟨(hS.sub (.cons le_8 (.cons (Mem.le.refl _) (Sub.nil _)))), ?_⟩
  refine h_take 2 [true, true, true, true, true, false, false, false, false].toArray rfl (by kernel_rfl) (by kernel_rfl) (by kernel_rfl) (fun _ _ _ _ h => h) rfl rfl rfl rfl hm (hS.sub (.cons le_8 (.cons (Mem.le.refl _) (Sub.nil _)))) (v := .int .i64 (w64 (t_5 + 16))) (fun w hS => r_arith (r := w64 (t_5 + 16)) hm rfl rfl (.inl ⟨rfl, rfl⟩)) ?_
  clear hm a; intro a hm
  refine h_take 5 [true, true, true, true, true, true, false, false, false].toArray rfl (by kernel_rfl) (by kernel_rfl) (by kernel_rfl) (fun _ _ _ _ h => h) rfl rfl rfl rfl hm (hS.sub (.cons le_8 (.cons (Mem.le.refl _) (Sub.nil _)))) (v := .int .i64 (w64 ((w64 (t_5 + 16)) - x0.Seq))) (fun w hS => r_arith (r := w64 ((w64 (t_5 + 16)) - x0.Seq)) hm rfl rfl (.inr (.inl ⟨rfl, rfl⟩))) ?_
  clear hm a; intro a hm
  refine h_take 6 [true, true, true, true, true, true, true, false, false].toArray rfl (by kernel_rfl) (by kernel_rfl) (by kernel_rfl) (fun _ _ _ _ h => h) rfl rfl rfl rfl hm (hS.sub (.cons le_8 (.cons (Mem.le.refl _) (Sub.nil _)))) (v := .int .i64 (mx (w64 ((w64 (t_5 + 16)) - x0.Seq)) 0)) (fun w hS => r_max hm rfl rfl) ?_
  clear hm a; intro a hm
  refine h_take 7 [true, true, true, true, true, true, true, true, false].toArray rfl (by kernel_rfl) (by kernel_rfl) (by kernel_rfl) (fun _ _ _ _ h => h) rfl rfl rfl rfl hm (hS.sub (.cons le_8 (.cons (Mem.le.refl _) (Sub.nil _)))) (v := .int .i64 (mn (mx (w64 ((w64 (t_5 + 16)) - x0.Seq)) 0) 4)) (fun w hS => r_min hm rfl rfl) ?_
  clear hm a; intro a hm
  refine h_take 8 [true, true, true, true, true, true, true, true, true].toArray rfl (by kernel_rfl) (by kernel_rfl) (by kernel_rfl) (fun _ _ _ _ h => h) rfl rfl rfl rfl hm (hS.sub (.cons le_8 (.cons (Mem.le.refl _) (Sub.nil _)))) (v := .int .i64 (mn (mx (w64 ((w64 (t_5 + 16)) - x0.Seq)) 0) 4)) (fun w hS => r_assign hm rfl) ?_
  clear hm a; intro a hm
  refine h_done (by kernel_rfl) ?_
  replace hm : Fr 11 a [(2, .int .i64 (mn (mx (w64 ((w64 (t_5 + 16)) - x0.Seq)) 0) 4))] := hm.keep [2]
  refine x_then_n (hKJ_3 _ _ ?_)
  refine wp_ret ?_
  obtain rfl := Option.some.inj H
  exact f_ret hm (rs := [.tmp 2]) rfl (.tmp rfl .nil) ⟨_, rfl, N_8, rfl, (Sep.sel hS [0] (by decide))⟩

set_option maxHeartbeats 4000000 in
theorem slices_Clone_sint_int.calls (x0 : List Int) (p0_0 : Value) (r : List Int) (w0 w : World) (Z A : Mem) (hA : A.le Z) (hS : Sep w0 w [] Z) (hp0_0 : Rd (Kd.int .i64) A p0_0 x0)
    (H : slices_Clone_sint_int.f x0 = some r) :
    Calls Try.prog 62 [p0_0].toArray w (Ret fun v w' => ∃ (u0 : Value) (N : Mem) (M0 : Mem), v = u0 ∧ Sep w0 w' [N, M0] Z ∧ Own (Kd.int .i64) 3 M0 Mem.no u0 r) := by
  unfold slices_Clone_sint_int.f at H
  refine f_enter _ Try.func62 rfl Try.ntmps62 rfl fun a hm => ?_
  replace hm : Fr 8 a [(0, p0_0)] := hm
  replace hS := hS.start
  replace hS : Sep w0 w [Mem.no] Z := hS
  refine wp_seq ?_
  refine wp_region_lit ?_
  refine s_assign hm rfl rfl ?_
  clear hm a; intro a hm
  refine wpList_nil ?_
  replace hm : Fr 8 a [(0, p0_0)] := hm.keep [0]
  refine x_then_n ?_
  refine c_seq fun KJ hKJ => ?_
  refine wp_seq ?_
  refine wp_region_lit ?_
  refine s_move hm rfl rfl ?_
  clear hm a; intro a hm
  refine s_slNil hm rfl Try.underlying23 rfl hp0_0 fun b hb => ?_
  clear hm a; intro a hm
  refine wpList_nil ?_
  refine x_then_n ?_
  cases b with
  | true =>
    have hx := hb rfl
    subst hx
    refine c_cond_t hm rfl rfl ?_
    refine wp_seq ?_
    refine wp_region_lit ?_
    refine s_assign hm rfl rfl ?_
    clear hm a; intro a hm
    refine wpList_nil ?_
    replace hm : Fr 8 a [(2, .slice none 0 0)] := hm.keep [2]
    refine x_then_n ?_
    refine wp_ret (x_then_r ?_)
    obtain rfl := (app_some H).2
    replace hS := hS.room
    exact f_ret hm (rs := [.tmp 2]) rfl (.tmp rfl .nil) ⟨_, rfl, _, Mem.no, Mem.no, rfl, hS, Own.nil _ _ _⟩
  | false =>
    refine c_cond_f hm rfl rfl ?_
    refine wp_skip ?_
    refine x_then_n (hKJ _ _ ?_)
    refine wp_seq ?_
    refine wp_region_lit ?_
    have hq5 : Reps (Kd.int .i64) Mem.no ([] : List Int) _ := (Reps.nil (Kd.int .i64) _)
    refine s_buildSlice hm rfl Try.underlying23 ti3 rfl rfl rfl .nil rfl rfl rfl hS hq5 rfl ?_
    intro w1 v2 M3 hS' ho4
    clear hm a; intro a hm
    replace hS : Sep w0 w1 [Mem.no, M3] Z := hS'
    clear hS' hq5
    refine s_move hm rfl rfl ?_
    clear hm a; intro a hm
    refine s_append (J := Mem.no) (I' := Mem.no) (p := 1) 17592186044416 hm rfl rfl rfl Try.underlying23 ti3 rfl rfl rfl rfl hS rfl ho4 (Src.flat (flat_int .i64) (hp0_0.src (hA.trans hS.old))) (Mem.le.refl _) (Mem.le.refl _) H ?_
    intro w8 v9 M10 hS' ho11
    clear hm a; intro a hm
    refine s_assign hm rfl rfl ?_
    clear hm a; intro a hm
    refine wpList_nil ?_
    replace hm : Fr 8 a [(2, v9)] := hm.keep [2]
    refine x_then_n ?_
    refine wp_ret ?_
    exact f_ret hm (rs := [.tmp 2]) rfl (.tmp rfl .nil) ⟨_, rfl, _, Mem.no, M10, rfl, hS', ho11⟩

set_option maxHeartbeats 4000000 in
set_option maxRecDepth 20000 in
theorem slices_Index_sint_int.calls (K : Nat) (x0 : List Int) (p0_0 : Value) (x1 : Int) (r : Int) (w0 w : World) (Z A : Mem) (hA : A.le Z) (hS : Sep w0 w [] Z) (hp0_0 : Rd (Kd.int .i64) A p0_0 x0)
    (H : slices_Index_sint_int.f K x0 x1 = some r) :
    Calls Try.prog 73 [p0_0, .int .i64 x1].toArray w (Ret fun v w' => ∃ (N : Mem), v = .int .i64 r ∧ Sep w0 w' [N] Z) := by
  unfold slices_Index_sint_int.f at H
  refine f_enter _ Try.func73 rfl Try.ntmps73 rfl fun a hm => ?_
  replace hm : Fr 19 a [(0, p0_0), (1, .int .i64 x1)] := hm
  replace hS := hS.start
  replace hS : Sep w0 w [Mem.no] Z := hS
  refine wp_seq ?_
  refine wp_region_lit ?_
  refine s_assign hm rfl rfl ?_
  clear hm a; intro a hm
  refine wpList_nil ?_
  replace hm : Fr 19 a [(0, p0_0), (1, .int .i64 x1), (4, .int .i64 0)] := hm.keep [0, 1, 4]
  refine x_then_n ?_
  refine c_seq fun KJ_1 hKJ_1 => ?_
  refine wp_seq ?_
  refine wp_region_lit ?_
  refine s_move hm rfl rfl ?_
  clear hm a; intro a hm
  refine s_len hm rfl Try.underlying23 rfl hp0_0 ?_
  clear hm a; intro a hm
  refine s_move hm rfl rfl ?_
  clear hm a; intro a hm
  refine wpList_nil ?_
  replace hm : Fr 19 a [(0, p0_0), (1, .int .i64 x1), (4, .int .i64 0), (7, .int .i64 (x0.length : Int)), (8, .int .i64 0)] := hm.keep [0, 1, 4, 7, 8]
  refine x_then_n ?_
  have hJ_j_4 : slices_Index_sint_int.J1 K = some r → ∀ (a : Act) (w_3 : World), (∃ (N_2 : Mem), Fr 19 a [(4, .int .i64 0)] ∧ Sep w0 w_3 [N_2] Z ∧ Mem.no.le N_2) → KJ_1 a w_3 := by
    clear H hm hS a
    rintro H a w_3 ⟨N_2, hm, hS, le_2⟩
    unfold slices_Index_sint_int.J1 at H
    refine hKJ_1 _ _ ?_
    refine wp_seq ?_
    refine wp_region_lit ?_
    refine s_assign hm rfl rfl ?_
    clear hm a; intro a hm
    refine wpList_nil ?_
    replace hm : Fr 19 a [(4, .int .i64 (-1))] := hm.keep [4]
    refine x_then_n ?_
    refine wp_ret ?_
    obtain rfl := Option.some.inj H
    exact f_ret hm (rs := [.tmp 4]) rfl (.tmp rfl .nil) ⟨_, rfl, N_2, rfl, (Sep.sel hS [0] (by decide))⟩
  clear hKJ_1
  replace hS : Sep w0 w [Mem.no] Z := hS
  replace hm : Fr 19 a [(0, p0_0), (1, .int .i64 x1), (4, .int .i64 0), (7, .int .i64 (x0.length : Int)), (8, .int .i64 0)] := hm.keep [0, 1, 4, 7, 8]
  refine c_block ?_
  refine c_loop (fun k_7 a w_7 => ∃ (x_6 : Int) (N_5 : Mem), slices_Index_sint_int.L1 K x0 x1 (fun v => slices_Index_sint_int.J1 K) k_7 x_6 = some r ∧ Fr 19 a [(0, p0_0), (1, .int .i64 x1), (4, .int .i64 0), (7, .int .i64 (x0.length : Int)), (8, .int .i64 x_6)] ∧ Sep w0 w_7 [N_5] Z ∧ Mem.no.le N_5) K ⟨0, Mem.no, H, hm, (Sep.sel hS [0] (by decide)), (Mem.le.refl _)⟩ (fun a w h => by obtain ⟨_, _, H, _⟩ := h; cases (show (none : Option (Int)) = some r from H)) ?_
  clear hm hS a H
  rintro k_7 a w_7 KL_7 hKL_7 ⟨x_6, N_5, H, hm, hS, le_5⟩
  replace H : slices_Index_sint_int.B1 K x0 x1 (fun v => slices_Index_sint_int.J1 K) (slices_Index_sint_int.L1 K x0 x1 (fun v => slices_Index_sint_int.J1 K) k_7) x_6 = some r := H
  unfold slices_Index_sint_int.B1 at H
  refine wp_seq ?_
  refine wp_region_lit ?_
  refine s_cmp (b := decide (x_6 < (x0.length : Int))) hm rfl rfl rfl (.inr (.inr (.inl ⟨rfl, rfl⟩))) ?_
  clear hm a; intro a hm
  refine wpList_nil ?_
  replace hm : Fr 19 a [(0, p0_0), (1, .int .i64 x1), (4, .int .i64 0), (7, .int .i64 (x0.length : Int)), (8, .int .i64 x_6), (9, .bool (decide (x_6 < (x0.length : Int))))] := hm.keep [0, 1, 4, 7, 8, 9]
  refine x_then_n ?_
  refine c_seq fun KJ_9 hKJ_9 => ?_
  by_cases hc_10 : x_6 < (x0.length : Int)
  · rw [if_pos hc_10] at H
    refine c_cond_t hm rfl (decide_eq_true hc_10) ?_
    refine wp_skip ?_
    refine x_then_n (hKJ_9 _ _ ?_)
    refine c_seq fun KJ_11 hKJ_11 => ?_
    refine c_block ?_
    refine wp_seq ?_
    refine wp_region_lit ?_
    refine s_move hm rfl rfl ?_
    clear hm a; intro a hm
    refine s_assign hm rfl rfl ?_
    clear hm a; intro a hm
    refine wpList_nil ?_
    replace hm : Fr 19 a [(0, p0_0), (1, .int .i64 x1), (4, .int .i64 0), (5, .int .i64 x_6), (7, .int .i64 (x0.length : Int)), (8, .int .i64 x_6)] := hm.keep [0, 1, 4, 5, 7, 8]
    refine x_then_n ?_
    refine wp_seq ?_
    refine wp_region_lit ?_
    refine s_move hm rfl rfl ?_
    clear hm a; intro a hm
    refine s_move hm rfl rfl ?_
    clear hm a; intro a hm
    refine s_move hm rfl rfl ?_
    clear hm a; intro a hm
    obtain ⟨t_12, et_12, H⟩ := Option.bind_eq_some_iff.1 H
    refine v_index hm rfl Try.underlying23 ti3 rfl rfl rfl hp0_0 (hA.trans hS.old) et_12 ?_
    intro ad_13 cs_14 hk_15 hc_16
    obtain rfl := (show cs_14 = [.int .i64 t_12] from hk_15)
    clear hm a; intro a hm
    refine s_load hm rfl rfl (el_one (o := 0) hc_16 Try.underlying3 rfl rfl) ?_
    clear hm a; intro a hm
    refine s_cmp (b := (x1 == t_12)) hm rfl rfl rfl (.inl ⟨rfl, rfl⟩) ?_
    clear hm a; intro a hm
    refine wpList_nil ?_
    replace hm : Fr 19 a [(0, p0_0), (1, .int .i64 x1), (4, .int .i64 0), (5, .int .i64 x_6), (7, .int .i64 (x0.length : Int)), (8, .int .i64 x_6), (16, .bool (x1 == t_12))] := hm.keep [0, 1, 4, 5, 7, 8, 16]
    refine x_then_n ?_
    by_cases hc_17 : x1 = t_12
    · rw [if_pos hc_17] at H
      refine c_cond_t hm rfl (beq_iff_eq.2 hc_17) ?_
      refine wp_seq ?_
      refine wp_region_lit ?_
      refine s_move hm rfl rfl ?_
      clear hm a; intro a hm
      refine s_assign hm rfl rfl ?_
      clear hm a; intro a hm
      refine wpList_nil ?_
      replace hm : Fr 19 a [(0, p0_0), (1, .int .i64 x1), (4, .int .i64 x_6), (7, .int .i64 (x0.length : Int)), (8, .int .i64 x_6)] := hm.keep [0, 1, 4, 7, 8]
      refine x_then_n ?_
      refine wp_ret (x_block_r (x_then_r (x_then_r (x_block_r (x_then_r ?_)))))
      obtain rfl := Option.some.inj H
      exact f_ret hm (rs := [.tmp 4]) rfl (.tmp rfl .nil) ⟨_, rfl, N_5, rfl, (Sep.sel hS [0] (by decide))⟩
    · rw [if_neg hc_17] at H
      refine c_cond_f hm rfl (beq_eq_false_iff_ne.2 hc_17) ?_
      refine wp_skip ?_
      refine x_block_n ?_
      refine x_then_n (hKJ_11 _ _ ?_)
      refine wp_region_lit ?_
      refine s_arith (r := w64 (x_6 + 1)) hm rfl rfl rfl (.inl ⟨rfl, rfl⟩) ?_
      clear hm a; intro a hm
      refine s_move hm rfl rfl ?_
      clear hm a; intro a hm
      refine wpList_nil ?_
      replace hm : Fr 19 a [(0, p0_0), (1, .int .i64 x1), (4, .int .i64 0), (7, .int .i64 (x0.length : Int)), (8, .int .i64 (w64 (x_6 + 1)))] := hm.keep [0, 1, 4, 7, 8]
      refine x_then_n (hKL_7 _ _ ?_)
      replace hS : Sep w0 w_7 [N_5] Z := hS
      replace hm : Fr 19 a [(0, p0_0), (1, .int .i64 x1), (4, .int .i64 0), (7, .int .i64 (x0.length : Int)), (8, .int .i64 (w64 (x_6 + 1)))] := hm.keep [0, 1, 4, 7, 8]
      exact ⟨w64 (x_6 + 1), N_5, H, hm, (Sep.sel hS [0] (by decide)), le_5⟩
  · rw [if_neg hc_10] at H
    refine c_cond_f hm rfl (decide_eq_false hc_10) ?_
    refine wp_exit (x_then_x (x_then_x (x_block_t ?_)))
    replace hS : Sep w0 w_7 [N_5] Z := hS
    replace hm : Fr 19 a [(4, .int .i64 0)] := hm.keep [4]
    exact x_then_n (hJ_j_4  H _ _ ⟨N_5, hm, (Sep.sel hS [0] (by decide)), le_5⟩)

set_option maxHeartbeats 4000000 in
set_option maxRecDepth 20000 in
theorem slices_Contains_sint_int.calls (K : Nat) (x0 : List Int) (p0_0 : Value) (x1 : Int) (r : Bool) (w0 w : World) (Z A : Mem) (hA : A.le Z) (hS : Sep w0 w [] Z) (hp0_0 : Rd (Kd.int .i64) A p0_0 x0)
    (H : slices_Contains_sint_int.f K x0 x1 = some r) :
    Calls Try.prog 63 [p0_0, .int .i64 x1].toArray w (Ret fun v w' => ∃ (N : Mem), v = .bool r ∧ Sep w0 w' [N] Z) := by
  unfold slices_Contains_sint_int.f at H
  refine f_enter _ Try.func63 rfl Try.ntmps63 rfl fun a hm => ?_
  replace hm : Fr 9 a [(0, p0_0), (1, .int .i64 x1)] := hm
  replace hS := hS.start
  replace hS : Sep w0 w [Mem.no] Z := hS
  refine wp_seq ?_
  refine wp_region_lit ?_
  refine s_assign hm rfl rfl ?_
  clear hm a; intro a hm
  refine wpList_nil ?_
  replace hm : Fr 9 a [(0, p0_0), (1, .int .i64 x1), (4, .bool false)] := hm.keep [0, 1, 4]
  refine x_then_n ?_
  refine wp_seq ?_
  refine wp_region_lit ?_
  refine s_move hm rfl rfl ?_
  clear hm a; intro a hm
  refine s_move hm rfl rfl ?_
  clear hm a; intro a hm
  obtain ⟨t_1, et_1, H⟩ := Option.bind_eq_some_iff.1 H
  refine s_call hm rfl Try.call73 rfl (slices_Index_sint_int.calls K x0 _ x1 t_1 w0 _ _ _ (Mem.le.refl _) (hS.enter [] (by decide)) (hp0_0.mono (hA.trans (hS.le_zed []))) et_1) ?_
  rintro _ w_2 ⟨N_3, rfl, hS'⟩
  clear hm a; intro a hm
  obtain ⟨N_4, hS'', le_4, ln_4⟩ := hS.call [] (by decide) rfl (l' := []) (ow := []) rfl hS'
  replace hS : Sep w0 w_2 [N_4] Z := hS''
  clear hS' hS''
  refine s_cmp (b := decide (t_1 ≥ 0)) hm rfl rfl rfl (.inr (.inr (.inr (.inr (.inr ⟨rfl, rfl⟩))))) ?_
  clear hm a; intro a hm
  refine s_assign hm rfl rfl ?_
  clear hm a; intro a hm
  refine wpList_nil ?_
  replace hm : Fr 9 a [(4, .bool (decide (t_1 ≥ 0)))] := hm.keep [4]
  refine x_then_n ?_
  refine wp_ret ?_
  obtain rfl := Option.some.inj H
  exact f_ret hm (rs := [.tmp 4]) rfl (.tmp rfl .nil) ⟨_, rfl, N_4, rfl, (Sep.sel hS [0] (by decide))⟩

set_option maxHeartbeats 4000000 in
set_option maxRecDepth 20000 in
theorem tokn_Pass.calls (K : Nat) (x0 : api_Msg) (p0_0 : Value) (p0_1 : Value) (p0_2 : Value) (p0_3 : Value) (p0_4 : Value) (p0_5 : Value) (x1 : Int) (x2 : Int) (x3 : Int) (x4 : Int) (x5 : Int) (x6 : List Int) (p6_6 : Value) (x7 : List Int) (p7_7 : Value) (r : api_Msg × (List Int)) (w0 w : World) (Z A : Mem) (hA : A.le Z) (hS : Sep w0 w [] Z) (hp0_0 : Rd Kd.u8 A p0_0 x0.Data) (hp0_1 : Rd (Kd.int .i64) A p0_1 x0.Have) (hp0_2 : Rd (Kd.int .i64) A p0_2 x0.Need) (hp0_3 : Rd Kd.u8 A p0_3 x0.Entry.Cmd.Key) (hp0_4 : Rd Kd.u8 A p0_4 x0.Entry.Cmd.Val) (hp0_5 : Rd Kd.u8 A p0_5 x0.Entry.Cmd.Old) (hp6_6 : Rd (Kd.int .i64) A p6_6 x6) (hp7_7 : Rd (Kd.int .i64) A p7_7 x7)
    (H : tokn_Pass.f K x0 x1 x2 x3 x4 x5 x6 x7 = some r) :
    Calls Try.prog 34 [.agg ([.int .i64 x0.Kind, .int .i64 x0.From, .int .i64 x0.To, .int .i64 x0.View, .int .i64 x0.Inst, .int .i64 x0.Len, .bool x0.Has, .int .i64 x0.Members, .int .i64 x0.Source, .int .i64 x0.At, .int .i64 x0.Total, p0_0, .int .i64 x0.Hop, .int .i64 x0.Seq, p0_1, p0_2, .int .i64 x0.Index, .int .i64 x0.Entry.Sess, .int .i64 x0.Entry.Seq, .int .i64 x0.Entry.Cmd.Kind, .int .i64 x0.Entry.Cmd.Who, p0_3, p0_4, p0_5] : List Value).toArray, .int .i64 x1, .int .i64 x2, .int .i64 x3, .int .i64 x4, .int .i64 x5, p6_6, p7_7].toArray w (Ret fun v w' => ∃ (u0 : Value) (u1 : Value) (u2 : Value) (u3 : Value) (u4 : Value) (u5 : Value) (u6 : Value) (N : Mem) (M0 : Mem) (M1 : Mem) (M2 : Mem), v = .tuple [.agg [.int .i64 r.1.Kind, .int .i64 r.1.From, .int .i64 r.1.To, .int .i64 r.1.View, .int .i64 r.1.Inst, .int .i64 r.1.Len, .bool r.1.Has, .int .i64 r.1.Members, .int .i64 r.1.Source, .int .i64 r.1.At, .int .i64 r.1.Total, u0, .int .i64 r.1.Hop, .int .i64 r.1.Seq, u1, u2, .int .i64 r.1.Index, .int .i64 r.1.Entry.Sess, .int .i64 r.1.Entry.Seq, .int .i64 r.1.Entry.Cmd.Kind, .int .i64 r.1.Entry.Cmd.Who, u3, u4, u5].toArray, u6].toArray ∧ Sep w0 w' [N, M0, M1, M2] Z ∧ Rd Kd.u8 (A.un N) u0 r.1.Data ∧ Own (Kd.int .i64) 3 M0 Mem.no u1 r.1.Have ∧ Own (Kd.int .i64) 3 M1 Mem.no u2 r.1.Need ∧ Rd Kd.u8 (A.un N) u3 r.1.Entry.Cmd.Key ∧ Rd Kd.u8 (A.un N) u4 r.1.Entry.Cmd.Val ∧ Rd Kd.u8 (A.un N) u5 r.1.Entry.Cmd.Old ∧ Own (Kd.int .i64) 3 M2 Mem.no u6 r.2) := by
  unfold tokn_Pass.f at H
  refine f_enter _ Try.func34 rfl Try.ntmps34 rfl fun a hm => ?_
  replace hm : Fr 118 a [(0, .agg ([.int .i64 x0.Kind, .int .i64 x0.From, .int .i64 x0.To, .int .i64 x0.View, .int .i64 x0.Inst, .int .i64 x0.Len, .bool x0.Has, .int .i64 x0.Members, .int .i64 x0.Source, .int .i64 x0.At, .int .i64 x0.Total, p0_0, .int .i64 x0.Hop, .int .i64 x0.Seq, p0_1, p0_2, .int .i64 x0.Index, .int .i64 x0.Entry.Sess, .int .i64 x0.Entry.Seq, .int .i64 x0.Entry.Cmd.Kind, .int .i64 x0.Entry.Cmd.Who, p0_3, p0_4, p0_5] : List Value).toArray), (1, .int .i64 x1), (2, .int .i64 x2), (3, .int .i64 x3), (4, .int .i64 x4), (5, .int .i64 x5), (6, p6_6), (7, p7_7)] := hm
  replace hS := hS.start
  replace hS : Sep w0 w [Mem.no] Z := hS
  refine wp_seq ?_
  refine wp_region_lit ?_
  refine v_box (vs := [.int .i64 x0.Kind, .int .i64 x0.From, .int .i64 x0.To, .int .i64 x0.View, .int .i64 x0.Inst, .int .i64 x0.Len, .bool x0.Has, .int .i64 x0.Members, .int .i64 x0.Source, .int .i64 x0.At, .int .i64 x0.Total, p0_0, .int .i64 x0.Hop, .int .i64 x0.Seq, p0_1, p0_2, .int .i64 x0.Index, .int .i64 x0.Entry.Sess, .int .i64 x0.Entry.Seq, .int .i64 x0.Entry.Cmd.Kind, .int .i64 x0.Entry.Cmd.Who, p0_3, p0_4, p0_5]) hm rfl rfl rfl hS ?_
  intro w_1 g_2 hS'
  clear hm a; intro a hm
  replace hS : Sep w0 w_1 [Mem.no, Mem.one g_2 (.cells ([.int .i64 x0.Kind, .int .i64 x0.From, .int .i64 x0.To, .int .i64 x0.View, .int .i64 x0.Inst, .int .i64 x0.Len, .bool x0.Has, .int .i64 x0.Members, .int .i64 x0.Source, .int .i64 x0.At, .int .i64 x0.Total, p0_0, .int .i64 x0.Hop, .int .i64 x0.Seq, p0_1, p0_2, .int .i64 x0.Index, .int .i64 x0.Entry.Sess, .int .i64 x0.Entry.Seq, .int .i64 x0.Entry.Cmd.Kind, .int .i64 x0.Entry.Cmd.Who, p0_3, p0_4, p0_5] : List Value).toArray 29 (0, 0))] Z := hS'
  clear hS'
  refine v_alloc hm rfl ti29 hS ?_
  intro w_3 g_4 hS'
  clear hm a; intro a hm
  replace hS : Sep w0 w_3 [Mem.no, Mem.one g_2 (.cells ([.int .i64 x0.Kind, .int .i64 x0.From, .int .i64 x0.To, .int .i64 x0.View, .int .i64 x0.Inst, .int .i64 x0.Len, .bool x0.Has, .int .i64 x0.Members, .int .i64 x0.Source, .int .i64 x0.At, .int .i64 x0.Total, p0_0, .int .i64 x0.Hop, .int .i64 x0.Seq, p0_1, p0_2, .int .i64 x0.Index, .int .i64 x0.Entry.Sess, .int .i64 x0.Entry.Seq, .int .i64 x0.Entry.Cmd.Kind, .int .i64 x0.Entry.Cmd.Who, p0_3, p0_4, p0_5] : List Value).toArray 29 (0, 0)), Mem.one g_4 (.cells ([.int .i64 0, .int .i64 0, .int .i64 0, .int .i64 0, .int .i64 0, .int .i64 0, .bool false, .int .i64 0, .int .i64 0, .int .i64 0, .int .i64 0, .slice none 0 0, .int .i64 0, .int .i64 0, .slice none 0 0, .slice none 0 0, .int .i64 0, .int .i64 0, .int .i64 0, .int .i64 0, .int .i64 0, .slice none 0 0, .slice none 0 0, .slice none 0 0] : List Value).toArray 29 (0, 0))] Z := hS'
  clear hS'
  refine s_assign hm rfl rfl ?_
  clear hm a; intro a hm
  refine wpList_nil ?_
  replace hm : Fr 118 a [(1, .int .i64 x1), (2, .int .i64 x2), (3, .int .i64 x3), (4, .int .i64 x4), (5, .int .i64 x5), (6, p6_6), (7, p7_7), (8, .pointer (some ⟨g_2, 0, none⟩)), (16, .pointer (some ⟨g_4, 0, none⟩)), (17, .slice none 0 0)] := hm.keep [1, 2, 3, 4, 5, 6, 7, 8, 16, 17]
  refine x_then_n ?_
  refine wp_seq ?_
  refine wp_region_lit ?_
  refine s_move hm rfl rfl ?_
  clear hm a; intro a hm
  refine s_max hm rfl rfl rfl ?_
  clear hm a; intro a hm
  refine s_load hm rfl rfl (hS.load_agg (p := 1) (us := [.int .i64 x0.Kind, .int .i64 x0.From, .int .i64 x0.To, .int .i64 x0.View, .int .i64 x0.Inst, .int .i64 x0.Len, .bool x0.Has, .int .i64 x0.Members, .int .i64 x0.Source, .int .i64 x0.At, .int .i64 x0.Total, p0_0, .int .i64 x0.Hop, .int .i64 x0.Seq, p0_1, p0_2, .int .i64 x0.Index, .int .i64 x0.Entry.Sess, .int .i64 x0.Entry.Seq, .int .i64 x0.Entry.Cmd.Kind, .int .i64 x0.Entry.Cmd.Who, p0_3, p0_4, p0_5]) rfl Try.underlying29 rfl ti29 rfl rfl) ?_
  clear hm a; intro a hm
  obtain ⟨t_5, et_5, H⟩ := Option.bind_eq_some_iff.1 H
  refine s_call hm rfl Try.call36 rfl (tokn_Room.calls K x0 _ _ _ _ _ _ t_5 w0 _ _ _ (Mem.le.refl _) (hS.enter [] (by decide)) (hp0_0.mono (hA.trans (hS.le_zed []))) (hp0_1.mono (hA.trans (hS.le_zed []))) (hp0_2.mono (hA.trans (hS.le_zed []))) (hp0_3.mono (hA.trans (hS.le_zed []))) (hp0_4.mono (hA.trans (hS.le_zed []))) (hp0_5.mono (hA.trans (hS.le_zed []))) et_5) ?_
  rintro _ w_6 ⟨N_7, rfl, hS'⟩
  clear hm a; intro a hm
  obtain ⟨N_8, hS'', le_8, ln_8⟩ := hS.call [] (by decide) rfl (l' := []) (ow := []) rfl hS'
  replace hS : Sep w0 w_6 [N_8, Mem.one g_2 (.cells ([.int .i64 x0.Kind, .int .i64 x0.From, .int .i64 x0.To, .int .i64 x0.View, .int .i64 x0.Inst, .int .i64 x0.Len, .bool x0.Has, .int .i64 x0.Members, .int .i64 x0.Source, .int .i64 x0.At, .int .i64 x0.Total, p0_0, .int .i64 x0.Hop, .int .i64 x0.Seq, p0_1, p0_2, .int .i64 x0.Index, .int .i64 x0.Entry.Sess, .int .i64 x0.Entry.Seq, .int .i64 x0.Entry.Cmd.Kind, .int .i64 x0.Entry.Cmd.Who, p0_3, p0_4, p0_5] : List Value).toArray 29 (0, 0)), Mem.one g_4 (.cells ([.int .i64 0, .int .i64 0, .int .i64 0, .int .i64 0, .int .i64 0, .int .i64 0, .bool false, .int .i64 0, .int .i64 0, .int .i64 0, .int .i64 0, .slice none 0 0, .int .i64 0, .int .i64 0, .slice none 0 0, .slice none 0 0, .int .i64 0, .int .i64 0, .int .i64 0, .int .i64 0, .int .i64 0, .slice none 0 0, .slice none 0 0, .slice none 0 0] : List Value).toArray 29 (0, 0))] Z := hS''
  clear hS' hS''
  refine s_min hm rfl rfl rfl ?_
  clear hm a; intro a hm
  refine s_assign hm rfl rfl ?_
  clear hm a; intro a hm
  refine wpList_nil ?_
  replace hm : Fr 118 a [(1, .int .i64 x1), (2, .int .i64 x2), (3, .int .i64 x3), (4, .int .i64 x4), (5, .int .i64 (mn (mx x5 0) t_5)), (6, p6_6), (7, p7_7), (8, .pointer (some ⟨g_2, 0, none⟩)), (16, .pointer (some ⟨g_4, 0, none⟩)), (17, .slice none 0 0)] := hm.keep [1, 2, 3, 4, 5, 6, 7, 8, 16, 17]
  refine x_then_n ?_
  refine wp_seq ?_
  refine wp_region_lit ?_
  refine s_fieldAddr hm rfl Try.underlying29 rfl ti23 rfl rfl ?_
  clear hm a; intro a hm
  refine s_load hm rfl rfl (hS.load_one (p := 1) rfl Try.underlying23 rfl rfl) ?_
  clear hm a; intro a hm
  refine s_assign hm rfl rfl ?_
  clear hm a; intro a hm
  refine wpList_nil ?_
  replace hm : Fr 118 a [(1, .int .i64 x1), (2, .int .i64 x2), (3, .int .i64 x3), (4, .int .i64 x4), (5, .int .i64 (mn (mx x5 0) t_5)), (6, p6_6), (7, p7_7), (8, .pointer (some ⟨g_2, 0, none⟩)), (16, .pointer (some ⟨g_4, 0, none⟩)), (17, .slice none 0 0), (18, p0_2)] := hm.keep [1, 2, 3, 4, 5, 6, 7, 8, 16, 17, 18]
  refine x_then_n ?_
  refine wp_seq ?_
  refine wp_region_lit ?_
  refine s_move hm rfl rfl ?_
  clear hm a; intro a hm
  refine s_move hm rfl rfl ?_
  clear hm a; intro a hm
  refine s_fieldAddr hm rfl Try.underlying29 rfl ti3 rfl rfl ?_
  clear hm a; intro a hm
  refine s_load hm rfl rfl (hS.load_one (p := 1) rfl Try.underlying3 rfl rfl) ?_
  clear hm a; intro a hm
  refine s_arith (r := w64 (x0.Hop + 1)) hm rfl rfl rfl (.inl ⟨rfl, rfl⟩) ?_
  clear hm a; intro a hm
  refine s_fieldAddr hm rfl Try.underlying29 rfl ti3 rfl rfl ?_
  clear hm a; intro a hm
  refine s_load hm rfl rfl (hS.load_one (p := 1) rfl Try.underlying3 rfl rfl) ?_
  clear hm a; intro a hm
  refine s_move hm rfl rfl ?_
  clear hm a; intro a hm
  refine s_arith (r := w64 (x0.Seq + (mn (mx x5 0) t_5))) hm rfl rfl rfl (.inl ⟨rfl, rfl⟩) ?_
  clear hm a; intro a hm
  refine s_fieldAddr hm rfl Try.underlying29 rfl ti3 rfl rfl ?_
  clear hm a; intro a hm
  obtain ⟨w_9, hs', hS'⟩ := hS.store (P := Try.prog) (p := 1) (o := 1) (t := 3) (v := .int .i64 x1) (vs := [.int .i64 x1]) rfl ti3 rfl rfl rfl (by intro u hu; simp only [List.mem_cons, List.not_mem_nil, or_false] at hu; rcases hu with rfl <;> rfl)
  refine s_store hm rfl rfl hs' ?_
  replace hS : Sep w0 w_9 [N_8, Mem.one g_2 (.cells ([.int .i64 x0.Kind, .int .i64 x1, .int .i64 x0.To, .int .i64 x0.View, .int .i64 x0.Inst, .int .i64 x0.Len, .bool x0.Has, .int .i64 x0.Members, .int .i64 x0.Source, .int .i64 x0.At, .int .i64 x0.Total, p0_0, .int .i64 x0.Hop, .int .i64 x0.Seq, p0_1, p0_2, .int .i64 x0.Index, .int .i64 x0.Entry.Sess, .int .i64 x0.Entry.Seq, .int .i64 x0.Entry.Cmd.Kind, .int .i64 x0.Entry.Cmd.Who, p0_3, p0_4, p0_5] : List Value).toArray 29 (0, 0)), Mem.one g_4 (.cells ([.int .i64 0, .int .i64 0, .int .i64 0, .int .i64 0, .int .i64 0, .int .i64 0, .bool false, .int .i64 0, .int .i64 0, .int .i64 0, .int .i64 0, .slice none 0 0, .int .i64 0, .int .i64 0, .slice none 0 0, .slice none 0 0, .int .i64 0, .int .i64 0, .int .i64 0, .int .i64 0, .int .i64 0, .slice none 0 0, .slice none 0 0, .slice none 0 0] : List Value).toArray 29 (0, 0))] Z := hS'
  clear hs' hS'
  refine s_fieldAddr hm rfl Try.underlying29 rfl ti3 rfl rfl ?_
  clear hm a; intro a hm
  obtain ⟨w_10, hs', hS'⟩ := hS.store (P := Try.prog) (p := 1) (o := 2) (t := 3) (v := .int .i64 x3) (vs := [.int .i64 x3]) rfl ti3 rfl rfl rfl (by intro u hu; simp only [List.mem_cons, List.not_mem_nil, or_false] at hu; rcases hu with rfl <;> rfl)
  refine s_store hm rfl rfl hs' ?_
  replace hS : Sep w0 w_10 [N_8, Mem.one g_2 (.cells ([.int .i64 x0.Kind, .int .i64 x1, .int .i64 x3, .int .i64 x0.View, .int .i64 x0.Inst, .int .i64 x0.Len, .bool x0.Has, .int .i64 x0.Members, .int .i64 x0.Source, .int .i64 x0.At, .int .i64 x0.Total, p0_0, .int .i64 x0.Hop, .int .i64 x0.Seq, p0_1, p0_2, .int .i64 x0.Index, .int .i64 x0.Entry.Sess, .int .i64 x0.Entry.Seq, .int .i64 x0.Entry.Cmd.Kind, .int .i64 x0.Entry.Cmd.Who, p0_3, p0_4, p0_5] : List Value).toArray 29 (0, 0)), Mem.one g_4 (.cells ([.int .i64 0, .int .i64 0, .int .i64 0, .int .i64 0, .int .i64 0, .int .i64 0, .bool false, .int .i64 0, .int .i64 0, .int .i64 0, .int .i64 0, .slice none 0 0, .int .i64 0, .int .i64 0, .slice none 0 0, .slice none 0 0, .int .i64 0, .int .i64 0, .int .i64 0, .int .i64 0, .int .i64 0, .slice none 0 0, .slice none 0 0, .slice none 0 0] : List Value).toArray 29 (0, 0))] Z := hS'
  clear hs' hS'
  refine s_fieldAddr hm rfl Try.underlying29 rfl ti3 rfl rfl ?_
  clear hm a; intro a hm
  obtain ⟨w_11, hs', hS'⟩ := hS.store (P := Try.prog) (p := 1) (o := 12) (t := 3) (v := .int .i64 (w64 (x0.Hop + 1))) (vs := [.int .i64 (w64 (x0.Hop + 1))]) rfl ti3 rfl rfl rfl (by intro u hu; simp only [List.mem_cons, List.not_mem_nil, or_false] at hu; rcases hu with rfl <;> rfl)
  refine s_store hm rfl rfl hs' ?_
  replace hS : Sep w0 w_11 [N_8, Mem.one g_2 (.cells ([.int .i64 x0.Kind, .int .i64 x1, .int .i64 x3, .int .i64 x0.View, .int .i64 x0.Inst, .int .i64 x0.Len, .bool x0.Has, .int .i64 x0.Members, .int .i64 x0.Source, .int .i64 x0.At, .int .i64 x0.Total, p0_0, .int .i64 (w64 (x0.Hop + 1)), .int .i64 x0.Seq, p0_1, p0_2, .int .i64 x0.Index, .int .i64 x0.Entry.Sess, .int .i64 x0.Entry.Seq, .int .i64 x0.Entry.Cmd.Kind, .int .i64 x0.Entry.Cmd.Who, p0_3, p0_4, p0_5] : List Value).toArray 29 (0, 0)), Mem.one g_4 (.cells ([.int .i64 0, .int .i64 0, .int .i64 0, .int .i64 0, .int .i64 0, .int .i64 0, .bool false, .int .i64 0, .int .i64 0, .int .i64 0, .int .i64 0, .slice none 0 0, .int .i64 0, .int .i64 0, .slice none 0 0, .slice none 0 0, .int .i64 0, .int .i64 0, .int .i64 0, .int .i64 0, .int .i64 0, .slice none 0 0, .slice none 0 0, .slice none 0 0] : List Value).toArray 29 (0, 0))] Z := hS'
  clear hs' hS'
  refine s_fieldAddr hm rfl Try.underlying29 rfl ti3 rfl rfl ?_
  clear hm a; intro a hm
  obtain ⟨w_12, hs', hS'⟩ := hS.store (P := Try.prog) (p := 1) (o := 13) (t := 3) (v := .int .i64 (w64 (x0.Seq + (mn (mx x5 0) t_5)))) (vs := [.int .i64 (w64 (x0.Seq + (mn (mx x5 0) t_5)))]) rfl ti3 rfl rfl rfl (by intro u hu; simp only [List.mem_cons, List.not_mem_nil, or_false] at hu; rcases hu with rfl <;> rfl)
  refine s_store hm rfl rfl hs' ?_
  replace hS : Sep w0 w_12 [N_8, Mem.one g_2 (.cells ([.int .i64 x0.Kind, .int .i64 x1, .int .i64 x3, .int .i64 x0.View, .int .i64 x0.Inst, .int .i64 x0.Len, .bool x0.Has, .int .i64 x0.Members, .int .i64 x0.Source, .int .i64 x0.At, .int .i64 x0.Total, p0_0, .int .i64 (w64 (x0.Hop + 1)), .int .i64 (w64 (x0.Seq + (mn (mx x5 0) t_5))), p0_1, p0_2, .int .i64 x0.Index, .int .i64 x0.Entry.Sess, .int .i64 x0.Entry.Seq, .int .i64 x0.Entry.Cmd.Kind, .int .i64 x0.Entry.Cmd.Who, p0_3, p0_4, p0_5] : List Value).toArray 29 (0, 0)), Mem.one g_4 (.cells ([.int .i64 0, .int .i64 0, .int .i64 0, .int .i64 0, .int .i64 0, .int .i64 0, .bool false, .int .i64 0, .int .i64 0, .int .i64 0, .int .i64 0, .slice none 0 0, .int .i64 0, .int .i64 0, .slice none 0 0, .slice none 0 0, .int .i64 0, .int .i64 0, .int .i64 0, .int .i64 0, .int .i64 0, .slice none 0 0, .slice none 0 0, .slice none 0 0] : List Value).toArray 29 (0, 0))] Z := hS'
  clear hs' hS'
  refine wpList_nil ?_
  replace hm : Fr 118 a [(2, .int .i64 x2), (4, .int .i64 x4), (6, p6_6), (7, p7_7), (8, .pointer (some ⟨g_2, 0, none⟩)), (16, .pointer (some ⟨g_4, 0, none⟩)), (17, .slice none 0 0), (18, p0_2)] := hm.keep [2, 4, 6, 7, 8, 16, 17, 18]
  refine x_then_n ?_
  refine wp_seq ?_
  refine wp_region_lit ?_
  refine s_fieldAddr hm rfl Try.underlying29 rfl ti23 rfl rfl ?_
  clear hm a; intro a hm
  refine s_load hm rfl rfl (hS.load_one (p := 1) rfl Try.underlying23 rfl rfl) ?_
  clear hm a; intro a hm
  obtain ⟨t_13, et_13, H⟩ := Option.bind_eq_some_iff.1 H
  refine s_call hm rfl Try.call62 rfl (slices_Clone_sint_int.calls x0.Have _ t_13 w0 _ _ _ (Mem.le.refl _) (hS.enter [] (by decide)) (hp0_1.mono (hA.trans (hS.le_zed []))) et_13) ?_
  rintro v_17 w_14 ⟨_, N_15, M_19, rfl, hS', hr_18⟩
  clear hm a; intro a hm
  obtain ⟨N_16, hS'', le_16, ln_16⟩ := hS.call [] (by decide) rfl (l' := []) (ow := [M_19]) rfl hS'
  replace hS : Sep w0 w_14 [N_16, Mem.one g_2 (.cells ([.int .i64 x0.Kind, .int .i64 x1, .int .i64 x3, .int .i64 x0.View, .int .i64 x0.Inst, .int .i64 x0.Len, .bool x0.Has, .int .i64 x0.Members, .int .i64 x0.Source, .int .i64 x0.At, .int .i64 x0.Total, p0_0, .int .i64 (w64 (x0.Hop + 1)), .int .i64 (w64 (x0.Seq + (mn (mx x5 0) t_5))), p0_1, p0_2, .int .i64 x0.Index, .int .i64 x0.Entry.Sess, .int .i64 x0.Entry.Seq, .int .i64 x0.Entry.Cmd.Kind, .int .i64 x0.Entry.Cmd.Who, p0_3, p0_4, p0_5] : List Value).toArray 29 (0, 0)), Mem.one g_4 (.cells ([.int .i64 0, .int .i64 0, .int .i64 0, .int .i64 0, .int .i64 0, .int .i64 0, .bool false, .int .i64 0, .int .i64 0, .int .i64 0, .int .i64 0, .slice none 0 0, .int .i64 0, .int .i64 0, .slice none 0 0, .slice none 0 0, .int .i64 0, .int .i64 0, .int .i64 0, .int .i64 0, .int .i64 0, .slice none 0 0, .slice none 0 0, .slice none 0 0] : List Value).toArray 29 (0, 0)), M_19] Z := hS''
  clear hS' hS''
  refine s_fieldAddr hm rfl Try.underlying29 rfl ti23 rfl rfl ?_
  clear hm a; intro a hm
  obtain ⟨w_21, hs', hS'⟩ := hS.store (P := Try.prog) (p := 1) (o := 14) (t := 23) (v := v_17) (vs := [v_17]) rfl ti23 hr_18.cellsA rfl rfl (by intro u hu; simp only [List.mem_cons, List.not_mem_nil, or_false] at hu; rcases hu with rfl <;> first | rfl | exact hr_18.one)
  refine s_store hm rfl rfl hs' ?_
  replace hS : Sep w0 w_21 [N_16, Mem.one g_2 (.cells ([.int .i64 x0.Kind, .int .i64 x1, .int .i64 x3, .int .i64 x0.View, .int .i64 x0.Inst, .int .i64 x0.Len, .bool x0.Has, .int .i64 x0.Members, .int .i64 x0.Source, .int .i64 x0.At, .int .i64 x0.Total, p0_0, .int .i64 (w64 (x0.Hop + 1)), .int .i64 (w64 (x0.Seq + (mn (mx x5 0) t_5))), v_17, p0_2, .int .i64 x0.Index, .int .i64 x0.Entry.Sess, .int .i64 x0.Entry.Seq, .int .i64 x0.Entry.Cmd.Kind, .int .i64 x0.Entry.Cmd.Who, p0_3, p0_4, p0_5] : List Value).toArray 29 (0, 0)), Mem.one g_4 (.cells ([.int .i64 0, .int .i64 0, .int .i64 0, .int .i64 0, .int .i64 0, .int .i64 0, .bool false, .int .i64 0, .int .i64 0, .int .i64 0, .int .i64 0, .slice none 0 0, .int .i64 0, .int .i64 0, .slice none 0 0, .slice none 0 0, .int .i64 0, .int .i64 0, .int .i64 0, .int .i64 0, .int .i64 0, .slice none 0 0, .slice none 0 0, .slice none 0 0] : List Value).toArray 29 (0, 0)), M_19] Z := hS'
  clear hs' hS'
  refine wpList_nil ?_
  replace hm : Fr 118 a [(2, .int .i64 x2), (4, .int .i64 x4), (6, p6_6), (7, p7_7), (8, .pointer (some ⟨g_2, 0, none⟩)), (16, .pointer (some ⟨g_4, 0, none⟩)), (17, .slice none 0 0), (18, p0_2)] := hm.keep [2, 4, 6, 7, 8, 16, 17, 18]
  refine x_then_n ?_
  refine c_seq fun KJ_22 hKJ_22 => ?_
  refine c_seq fun KJ_23 hKJ_23 => ?_
  have hJ_j_27 : ∀ (x_25 : Bool), tokn_Pass.J1 K t_13 x2 x0 x1 x3 x5 t_5 x6 x7 x4 x_25 = some r → ∀ (a : Act) (w_26 : World), (∃ (N_24 : Mem), Fr 118 a [(2, .int .i64 x2), (4, .int .i64 x4), (6, p6_6), (7, p7_7), (8, .pointer (some ⟨g_2, 0, none⟩)), (16, .pointer (some ⟨g_4, 0, none⟩)), (17, .slice none 0 0), (18, p0_2), (58, .bool x_25)] ∧ Sep w0 w_26 [N_24, Mem.one g_2 (.cells ([.int .i64 x0.Kind, .int .i64 x1, .int .i64 x3, .int .i64 x0.View, .int .i64 x0.Inst, .int .i64 x0.Len, .bool x0.Has, .int .i64 x0.Members, .int .i64 x0.Source, .int .i64 x0.At, .int .i64 x0.Total, p0_0, .int .i64 (w64 (x0.Hop + 1)), .int .i64 (w64 (x0.Seq + (mn (mx x5 0) t_5))), v_17, p0_2, .int .i64 x0.Index, .int .i64 x0.Entry.Sess, .int .i64 x0.Entry.Seq, .int .i64 x0.Entry.Cmd.Kind, .int .i64 x0.Entry.Cmd.Who, p0_3, p0_4, p0_5] : List Value).toArray 29 (0, 0)), Mem.one g_4 (.cells ([.int .i64 0, .int .i64 0, .int .i64 0, .int .i64 0, .int .i64 0, .int .i64 0, .bool false, .int .i64 0, .int .i64 0, .int .i64 0, .int .i64 0, .slice none 0 0, .int .i64 0, .int .i64 0, .slice none 0 0, .slice none 0 0, .int .i64 0, .int .i64 0, .int .i64 0, .int .i64 0, .int .i64 0, .slice none 0 0, .slice none 0 0, .slice none 0 0] : List Value).toArray 29 (0, 0)), M_19] Z ∧ N_16.le N_24) → KJ_23 a w_26 := by
    clear H hm hS a
    rintro x_25 H a w_26 ⟨N_24, hm, hS, le_24⟩
    unfold tokn_Pass.J1 at H
    refine hKJ_23 _ _ ?_
    have hJ_j_35 : ∀ (x_29 : List Int), tokn_Pass.J2 K x0 x1 x3 x5 t_5 x6 x7 x_29 = some r → ∀ (a : Act) (w_34 : World), (∃ (v_32 : Value) (N_28 : Mem) (M_30 : Mem), Fr 118 a [(6, p6_6), (7, p7_7), (8, .pointer (some ⟨g_2, 0, none⟩)), (16, .pointer (some ⟨g_4, 0, none⟩)), (17, .slice none 0 0), (18, p0_2)] ∧ Sep w0 w_34 [N_28, Mem.one g_2 (.cells ([.int .i64 x0.Kind, .int .i64 x1, .int .i64 x3, .int .i64 x0.View, .int .i64 x0.Inst, .int .i64 x0.Len, .bool x0.Has, .int .i64 x0.Members, .int .i64 x0.Source, .int .i64 x0.At, .int .i64 x0.Total, p0_0, .int .i64 (w64 (x0.Hop + 1)), .int .i64 (w64 (x0.Seq + (mn (mx x5 0) t_5))), v_32, p0_2, .int .i64 x0.Index, .int .i64 x0.Entry.Sess, .int .i64 x0.Entry.Seq, .int .i64 x0.Entry.Cmd.Kind, .int .i64 x0.Entry.Cmd.Who, p0_3, p0_4, p0_5] : List Value).toArray 29 (0, 0)), Mem.one g_4 (.cells ([.int .i64 0, .int .i64 0, .int .i64 0, .int .i64 0, .int .i64 0, .int .i64 0, .bool false, .int .i64 0, .int .i64 0, .int .i64 0, .int .i64 0, .slice none 0 0, .int .i64 0, .int .i64 0, .slice none 0 0, .slice none 0 0, .int .i64 0, .int .i64 0, .int .i64 0, .int .i64 0, .int .i64 0, .slice none 0 0, .slice none 0 0, .slice none 0 0] : List Value).toArray 29 (0, 0)), M_30] Z ∧ N_24.le N_28 ∧ Own (Kd.int .i64) 3 M_30 Mem.no v_32 x_29) → KJ_22 a w_34 := by
      clear H hm hS a
      rintro x_29 H a w_34 ⟨v_32, N_28, M_30, hm, hS, le_28, ho_33⟩
      unfold tokn_Pass.J2 at H
      refine hKJ_22 _ _ ?_
      refine wp_seq ?_
      refine wp_region_lit ?_
      refine s_load hm rfl rfl (hS.load_agg (p := 1) (us := [.int .i64 x0.Kind, .int .i64 x1, .int .i64 x3, .int .i64 x0.View, .int .i64 x0.Inst, .int .i64 x0.Len, .bool x0.Has, .int .i64 x0.Members, .int .i64 x0.Source, .int .i64 x0.At, .int .i64 x0.Total, p0_0, .int .i64 (w64 (x0.Hop + 1)), .int .i64 (w64 (x0.Seq + (mn (mx x5 0) t_5))), v_32, p0_2, .int .i64 x0.Index, .int .i64 x0.Entry.Sess, .int .i64 x0.Entry.Seq, .int .i64 x0.Entry.Cmd.Kind, .int .i64 x0.Entry.Cmd.Who, p0_3, p0_4, p0_5]) rfl Try.underlying29 rfl ti29 rfl rfl) ?_
      clear hm a; intro a hm
      obtain ⟨t_36, et_36, H⟩ := Option.bind_eq_some_iff.1 H
      refine s_call hm rfl Try.call35 rfl (tokn_Safe.calls K (⟨x0.Kind, x1, x3, x0.View, x0.Inst, x0.Len, x0.Has, x0.Members, x0.Source, x0.At, x0.Total, x0.Data, w64 (x0.Hop + 1), w64 (x0.Seq + (mn (mx x5 0) t_5)), x_29, x0.Need, x0.Index, x0.Entry⟩ : api_Msg) _ _ _ _ _ _ t_36 w0 _ _ _ (Mem.le.refl _) (hS.enter [] (by decide)) (hp0_0.mono (hA.trans (hS.le_zed []))) (ho_33.rd (hS.own_zed [] 2 (by decide)) (Mem.no_le _)) (hp0_2.mono (hA.trans (hS.le_zed []))) (hp0_3.mono (hA.trans (hS.le_zed []))) (hp0_4.mono (hA.trans (hS.le_zed []))) (hp0_5.mono (hA.trans (hS.le_zed []))) et_36) ?_
      rintro _ w_37 ⟨N_38, rfl, hS'⟩
      clear hm a; intro a hm
      obtain ⟨N_39, hS'', le_39, ln_39⟩ := hS.call [] (by decide) rfl (l' := []) (ow := []) rfl hS'
      replace hS : Sep w0 w_37 [N_39, Mem.one g_2 (.cells ([.int .i64 x0.Kind, .int .i64 x1, .int .i64 x3, .int .i64 x0.View, .int .i64 x0.Inst, .int .i64 x0.Len, .bool x0.Has, .int .i64 x0.Members, .int .i64 x0.Source, .int .i64 x0.At, .int .i64 x0.Total, p0_0, .int .i64 (w64 (x0.Hop + 1)), .int .i64 (w64 (x0.Seq + (mn (mx x5 0) t_5))), v_32, p0_2, .int .i64 x0.Index, .int .i64 x0.Entry.Sess, .int .i64 x0.Entry.Seq, .int .i64 x0.Entry.Cmd.Kind, .int .i64 x0.Entry.Cmd.Who, p0_3, p0_4, p0_5] : List Value).toArray 29 (0, 0)), Mem.one g_4 (.cells ([.int .i64 0, .int .i64 0, .int .i64 0, .int .i64 0, .int .i64 0, .int .i64 0, .bool false, .int .i64 0, .int .i64 0, .int .i64 0, .int .i64 0, .slice none 0 0, .int .i64 0, .int .i64 0, .slice none 0 0, .slice none 0 0, .int .i64 0, .int .i64 0, .int .i64 0, .int .i64 0, .int .i64 0, .slice none 0 0, .slice none 0 0, .slice none 0 0] : List Value).toArray 29 (0, 0)), M_30] Z := hS''
      clear hS' hS''
      refine s_assign hm rfl rfl ?_
      clear hm a; intro a hm
      refine wpList_nil ?_
      replace hm : Fr 118 a [(6, p6_6), (7, p7_7), (8, .pointer (some ⟨g_2, 0, none⟩)), (16, .pointer (some ⟨g_4, 0, none⟩)), (17, .slice none 0 0), (18, p0_2), (19, .int .i64 t_36)] := hm.keep [6, 7, 8, 16, 17, 18, 19]
      refine x_then_n ?_
      refine wp_seq ?_
      refine wp_region_lit ?_
      refine s_assign hm rfl rfl ?_
      clear hm a; intro a hm
      refine s_assign hm rfl rfl ?_
      clear hm a; intro a hm
      refine wpList_nil ?_
      replace hm : Fr 118 a [(6, p6_6), (7, p7_7), (8, .pointer (some ⟨g_2, 0, none⟩)), (16, .pointer (some ⟨g_4, 0, none⟩)), (17, .slice none 0 0), (18, p0_2), (19, .int .i64 t_36), (20, .slice none 0 0), (21, .slice none 0 0)] := hm.keep [6, 7, 8, 16, 17, 18, 19, 20, 21]
      refine x_then_n ?_
      refine c_seq fun KJ_40 hKJ_40 => ?_
      refine wp_seq ?_
      refine wp_region_lit ?_
      refine s_move hm rfl rfl ?_
      clear hm a; intro a hm
      refine s_len hm rfl Try.underlying23 rfl hp0_2 ?_
      clear hm a; intro a hm
      refine s_move hm rfl rfl ?_
      clear hm a; intro a hm
      refine wpList_nil ?_
      replace hm : Fr 118 a [(6, p6_6), (7, p7_7), (8, .pointer (some ⟨g_2, 0, none⟩)), (16, .pointer (some ⟨g_4, 0, none⟩)), (17, .slice none 0 0), (19, .int .i64 t_36), (20, .slice none 0 0), (21, .slice none 0 0), (66, p0_2), (67, .int .i64 (x0.Need.length : Int)), (68, .int .i64 0)] := hm.keep [6, 7, 8, 16, 17, 19, 20, 21, 66, 67, 68]
      refine x_then_n ?_
      have hJ_j_53 : ∀ (x_42 : List Int), ∀ (x_47 : List Int), tokn_Pass.J3 K x7 t_36 x0 x1 x3 x5 t_5 x_29 x_42 x_47 = some r → ∀ (a : Act) (w_52 : World), (∃ (v_45 : Value) (v_50 : Value) (N_41 : Mem) (M_43 : Mem) (M_48 : Mem), Fr 118 a [(7, p7_7), (8, .pointer (some ⟨g_2, 0, none⟩)), (16, .pointer (some ⟨g_4, 0, none⟩)), (17, .slice none 0 0), (19, .int .i64 t_36), (20, v_45), (21, v_50)] ∧ Sep w0 w_52 [N_41, Mem.one g_2 (.cells ([.int .i64 x0.Kind, .int .i64 x1, .int .i64 x3, .int .i64 x0.View, .int .i64 x0.Inst, .int .i64 x0.Len, .bool x0.Has, .int .i64 x0.Members, .int .i64 x0.Source, .int .i64 x0.At, .int .i64 x0.Total, p0_0, .int .i64 (w64 (x0.Hop + 1)), .int .i64 (w64 (x0.Seq + (mn (mx x5 0) t_5))), v_32, p0_2, .int .i64 x0.Index, .int .i64 x0.Entry.Sess, .int .i64 x0.Entry.Seq, .int .i64 x0.Entry.Cmd.Kind, .int .i64 x0.Entry.Cmd.Who, p0_3, p0_4, p0_5] : List Value).toArray 29 (0, 0)), Mem.one g_4 (.cells ([.int .i64 0, .int .i64 0, .int .i64 0, .int .i64 0, .int .i64 0, .int .i64 0, .bool false, .int .i64 0, .int .i64 0, .int .i64 0, .int .i64 0, .slice none 0 0, .int .i64 0, .int .i64 0, .slice none 0 0, .slice none 0 0, .int .i64 0, .int .i64 0, .int .i64 0, .int .i64 0, .int .i64 0, .slice none 0 0, .slice none 0 0, .slice none 0 0] : List Value).toArray 29 (0, 0)), M_30, M_43, M_48] Z ∧ N_39.le N_41 ∧ Own (Kd.int .i64) 3 M_43 Mem.no v_45 x_42 ∧ Own (Kd.int .i64) 3 M_48 Mem.no v_50 x_47) → KJ_40 a w_52 := by
        clear H hm hS a
        rintro x_42 x_47 H a w_52 ⟨v_45, v_50, N_41, M_43, M_48, hm, hS, le_41, ho_46, ho_51⟩
        unfold tokn_Pass.J3 at H
        refine hKJ_40 _ _ ?_
        refine c_seq fun KJ_54 hKJ_54 => ?_
        refine wp_seq ?_
        refine wp_region_lit ?_
        refine s_move hm rfl rfl ?_
        clear hm a; intro a hm
        refine s_len hm rfl Try.underlying23 rfl hp7_7 ?_
        clear hm a; intro a hm
        refine s_move hm rfl rfl ?_
        clear hm a; intro a hm
        refine wpList_nil ?_
        replace hm : Fr 118 a [(8, .pointer (some ⟨g_2, 0, none⟩)), (16, .pointer (some ⟨g_4, 0, none⟩)), (17, .slice none 0 0), (19, .int .i64 t_36), (20, v_45), (21, v_50), (89, p7_7), (90, .int .i64 (x7.length : Int)), (91, .int .i64 0)] := hm.keep [8, 16, 17, 19, 20, 21, 89, 90, 91]
        refine x_then_n ?_
        have hJ_j_62 : ∀ (x_56 : List Int), tokn_Pass.J4 K x0 x1 x3 x5 t_5 x_29 x_42 x_56 = some r → ∀ (a : Act) (w_61 : World), (∃ (v_59 : Value) (N_55 : Mem) (M_57 : Mem), Fr 118 a [(8, .pointer (some ⟨g_2, 0, none⟩)), (16, .pointer (some ⟨g_4, 0, none⟩)), (17, .slice none 0 0), (20, v_45), (21, v_59)] ∧ Sep w0 w_61 [N_55, Mem.one g_2 (.cells ([.int .i64 x0.Kind, .int .i64 x1, .int .i64 x3, .int .i64 x0.View, .int .i64 x0.Inst, .int .i64 x0.Len, .bool x0.Has, .int .i64 x0.Members, .int .i64 x0.Source, .int .i64 x0.At, .int .i64 x0.Total, p0_0, .int .i64 (w64 (x0.Hop + 1)), .int .i64 (w64 (x0.Seq + (mn (mx x5 0) t_5))), v_32, p0_2, .int .i64 x0.Index, .int .i64 x0.Entry.Sess, .int .i64 x0.Entry.Seq, .int .i64 x0.Entry.Cmd.Kind, .int .i64 x0.Entry.Cmd.Who, p0_3, p0_4, p0_5] : List Value).toArray 29 (0, 0)), Mem.one g_4 (.cells ([.int .i64 0, .int .i64 0, .int .i64 0, .int .i64 0, .int .i64 0, .int .i64 0, .bool false, .int .i64 0, .int .i64 0, .int .i64 0, .int .i64 0, .slice none 0 0, .int .i64 0, .int .i64 0, .slice none 0 0, .slice none 0 0, .int .i64 0, .int .i64 0, .int .i64 0, .int .i64 0, .int .i64 0, .slice none 0 0, .slice none 0 0, .slice none 0 0] : List Value).toArray 29 (0, 0)), M_30, M_43, M_57] Z ∧ N_41.le N_55 ∧ Own (Kd.int .i64) 3 M_57 Mem.no v_59 x_56) → KJ_54 a w_61 := by
          clear H hm hS a
          rintro x_56 H a w_61 ⟨v_59, N_55, M_57, hm, hS, le_55, ho_60⟩
          unfold tokn_Pass.J4 at H
          refine hKJ_54 _ _ ?_
          refine wp_seq ?_
          refine wp_region_lit ?_
          refine s_move hm rfl rfl ?_
          clear hm a; intro a hm
          refine s_move hm rfl rfl ?_
          clear hm a; intro a hm
          refine s_lenO hm rfl Try.underlying23 rfl ho_60 ?_
          clear hm a; intro a hm
          refine s_min hm rfl rfl rfl ?_
          clear hm a; intro a hm
          obtain ⟨N_63, hS', le_63, lo_63⟩ := hS.freeze 4 rfl
          replace hS : Sep w0 w_61 [N_63, Mem.one g_2 (.cells ([.int .i64 x0.Kind, .int .i64 x1, .int .i64 x3, .int .i64 x0.View, .int .i64 x0.Inst, .int .i64 x0.Len, .bool x0.Has, .int .i64 x0.Members, .int .i64 x0.Source, .int .i64 x0.At, .int .i64 x0.Total, p0_0, .int .i64 (w64 (x0.Hop + 1)), .int .i64 (w64 (x0.Seq + (mn (mx x5 0) t_5))), v_32, p0_2, .int .i64 x0.Index, .int .i64 x0.Entry.Sess, .int .i64 x0.Entry.Seq, .int .i64 x0.Entry.Cmd.Kind, .int .i64 x0.Entry.Cmd.Who, p0_3, p0_4, p0_5] : List Value).toArray 29 (0, 0)), Mem.one g_4 (.cells ([.int .i64 0, .int .i64 0, .int .i64 0, .int .i64 0, .int .i64 0, .int .i64 0, .bool false, .int .i64 0, .int .i64 0, .int .i64 0, .int .i64 0, .slice none 0 0, .int .i64 0, .int .i64 0, .slice none 0 0, .slice none 0 0, .int .i64 0, .int .i64 0, .int .i64 0, .int .i64 0, .int .i64 0, .slice none 0 0, .slice none 0 0, .slice none 0 0] : List Value).toArray 29 (0, 0)), M_30, M_43, Mem.no] Z := hS'
          clear hS'
          obtain ⟨t_64, et_64, H⟩ := Option.bind_eq_some_iff.1 H
          refine s_slice hm rfl Try.underlying23 ti3 rfl rfl (ho_60.rd lo_63 (Mem.no_le _)) rfl rfl et_64 ?_
          intro v_65 hr_66
          clear hm a; intro a hm
          obtain ⟨t_67, et_67, H⟩ := Option.bind_eq_some_iff.1 H
          refine s_call hm rfl Try.call62 rfl (slices_Clone_sint_int.calls t_64 _ t_67 w0 _ _ _ (Mem.le.refl _) (hS.enter [] (by decide)) (hr_66.mono ((Mem.le.refl _).trans (hS.new_zed []))) et_67) ?_
          rintro v_71 w_68 ⟨_, N_69, M_73, rfl, hS', hr_72⟩
          clear hm a; intro a hm
          obtain ⟨N_70, hS'', le_70, ln_70⟩ := hS.call [] (by decide) rfl (l' := []) (ow := [M_73]) rfl hS'
          replace hS : Sep w0 w_68 [N_70, Mem.one g_2 (.cells ([.int .i64 x0.Kind, .int .i64 x1, .int .i64 x3, .int .i64 x0.View, .int .i64 x0.Inst, .int .i64 x0.Len, .bool x0.Has, .int .i64 x0.Members, .int .i64 x0.Source, .int .i64 x0.At, .int .i64 x0.Total, p0_0, .int .i64 (w64 (x0.Hop + 1)), .int .i64 (w64 (x0.Seq + (mn (mx x5 0) t_5))), v_32, p0_2, .int .i64 x0.Index, .int .i64 x0.Entry.Sess, .int .i64 x0.Entry.Seq, .int .i64 x0.Entry.Cmd.Kind, .int .i64 x0.Entry.Cmd.Who, p0_3, p0_4, p0_5] : List Value).toArray 29 (0, 0)), Mem.one g_4 (.cells ([.int .i64 0, .int .i64 0, .int .i64 0, .int .i64 0, .int .i64 0, .int .i64 0, .bool false, .int .i64 0, .int .i64 0, .int .i64 0, .int .i64 0, .slice none 0 0, .int .i64 0, .int .i64 0, .slice none 0 0, .slice none 0 0, .int .i64 0, .int .i64 0, .int .i64 0, .int .i64 0, .int .i64 0, .slice none 0 0, .slice none 0 0, .slice none 0 0] : List Value).toArray 29 (0, 0)), M_30, M_43, Mem.no, M_73] Z := hS''
          clear hS' hS''
          refine s_fieldAddr hm rfl Try.underlying29 rfl ti23 rfl rfl ?_
          clear hm a; intro a hm
          obtain ⟨w_75, hs', hS'⟩ := hS.store (P := Try.prog) (p := 1) (o := 15) (t := 23) (v := v_71) (vs := [v_71]) rfl ti23 hr_72.cellsA rfl rfl (by intro u hu; simp only [List.mem_cons, List.not_mem_nil, or_false] at hu; rcases hu with rfl <;> first | rfl | exact hr_72.one)
          refine s_store hm rfl rfl hs' ?_
          replace hS : Sep w0 w_75 [N_70, Mem.one g_2 (.cells ([.int .i64 x0.Kind, .int .i64 x1, .int .i64 x3, .int .i64 x0.View, .int .i64 x0.Inst, .int .i64 x0.Len, .bool x0.Has, .int .i64 x0.Members, .int .i64 x0.Source, .int .i64 x0.At, .int .i64 x0.Total, p0_0, .int .i64 (w64 (x0.Hop + 1)), .int .i64 (w64 (x0.Seq + (mn (mx x5 0) t_5))), v_32, v_71, .int .i64 x0.Index, .int .i64 x0.Entry.Sess, .int .i64 x0.Entry.Seq, .int .i64 x0.Entry.Cmd.Kind, .int .i64 x0.Entry.Cmd.Who, p0_3, p0_4, p0_5] : List Value).toArray 29 (0, 0)), Mem.one g_4 (.cells ([.int .i64 0, .int .i64 0, .int .i64 0, .int .i64 0, .int .i64 0, .int .i64 0, .bool false, .int .i64 0, .int .i64 0, .int .i64 0, .int .i64 0, .slice none 0 0, .int .i64 0, .int .i64 0, .slice none 0 0, .slice none 0 0, .int .i64 0, .int .i64 0, .int .i64 0, .int .i64 0, .int .i64 0, .slice none 0 0, .slice none 0 0, .slice none 0 0] : List Value).toArray 29 (0, 0)), M_30, M_43, Mem.no, M_73] Z := hS'
          clear hs' hS'
          refine wpList_nil ?_
          replace hm : Fr 118 a [(8, .pointer (some ⟨g_2, 0, none⟩)), (16, .pointer (some ⟨g_4, 0, none⟩)), (17, .slice none 0 0), (20, v_45)] := hm.keep [8, 16, 17, 20]
          refine x_then_n ?_
          refine wp_seq ?_
          refine wp_region_lit ?_
          refine s_load hm rfl rfl (hS.load_agg (p := 1) (us := [.int .i64 x0.Kind, .int .i64 x1, .int .i64 x3, .int .i64 x0.View, .int .i64 x0.Inst, .int .i64 x0.Len, .bool x0.Has, .int .i64 x0.Members, .int .i64 x0.Source, .int .i64 x0.At, .int .i64 x0.Total, p0_0, .int .i64 (w64 (x0.Hop + 1)), .int .i64 (w64 (x0.Seq + (mn (mx x5 0) t_5))), v_32, v_71, .int .i64 x0.Index, .int .i64 x0.Entry.Sess, .int .i64 x0.Entry.Seq, .int .i64 x0.Entry.Cmd.Kind, .int .i64 x0.Entry.Cmd.Who, p0_3, p0_4, p0_5]) rfl Try.underlying29 rfl ti29 rfl rfl) ?_
          clear hm a; intro a hm
          refine s_move hm rfl rfl ?_
          clear hm a; intro a hm
          obtain ⟨w_76, hs', hS'⟩ := hS.store (P := Try.prog) (p := 2) (o := 0) (t := 29) (v := .agg ([.int .i64 x0.Kind, .int .i64 x1, .int .i64 x3, .int .i64 x0.View, .int .i64 x0.Inst, .int .i64 x0.Len, .bool x0.Has, .int .i64 x0.Members, .int .i64 x0.Source, .int .i64 x0.At, .int .i64 x0.Total, p0_0, .int .i64 (w64 (x0.Hop + 1)), .int .i64 (w64 (x0.Seq + (mn (mx x5 0) t_5))), v_32, v_71, .int .i64 x0.Index, .int .i64 x0.Entry.Sess, .int .i64 x0.Entry.Seq, .int .i64 x0.Entry.Cmd.Kind, .int .i64 x0.Entry.Cmd.Who, p0_3, p0_4, p0_5] : List Value).toArray) (vs := [.int .i64 x0.Kind, .int .i64 x1, .int .i64 x3, .int .i64 x0.View, .int .i64 x0.Inst, .int .i64 x0.Len, .bool x0.Has, .int .i64 x0.Members, .int .i64 x0.Source, .int .i64 x0.At, .int .i64 x0.Total, p0_0, .int .i64 (w64 (x0.Hop + 1)), .int .i64 (w64 (x0.Seq + (mn (mx x5 0) t_5))), v_32, v_71, .int .i64 x0.Index, .int .i64 x0.Entry.Sess, .int .i64 x0.Entry.Seq, .int .i64 x0.Entry.Cmd.Kind, .int .i64 x0.Entry.Cmd.Who, p0_3, p0_4, p0_5]) rfl ti29 rfl rfl rfl (by intro u hu; simp only [List.mem_cons, List.not_mem_nil, or_false] at hu; rcases hu with rfl | rfl | rfl | rfl | rfl | rfl | rfl | rfl | rfl | rfl | rfl | rfl | rfl | rfl | rfl | rfl | rfl | rfl | rfl | rfl | rfl | rfl | rfl | rfl <;> first | rfl | exact hp0_0.one | exact ho_33.one | exact hr_72.one | exact hp0_3.one | exact hp0_4.one | exact hp0_5.one)
          refine s_store hm rfl rfl hs' ?_
          replace hS : Sep w0 w_76 [N_70, Mem.one g_2 (.cells ([.int .i64 x0.Kind, .int .i64 x1, .int .i64 x3, .int .i64 x0.View, .int .i64 x0.Inst, .int .i64 x0.Len, .bool x0.Has, .int .i64 x0.Members, .int .i64 x0.Source, .int .i64 x0.At, .int .i64 x0.Total, p0_0, .int .i64 (w64 (x0.Hop + 1)), .int .i64 (w64 (x0.Seq + (mn (mx x5 0) t_5))), v_32, v_71, .int .i64 x0.Index, .int .i64 x0.Entry.Sess, .int .i64 x0.Entry.Seq, .int .i64 x0.Entry.Cmd.Kind, .int .i64 x0.Entry.Cmd.Who, p0_3, p0_4, p0_5] : List Value).toArray 29 (0, 0)), Mem.one g_4 (.cells ([.int .i64 x0.Kind, .int .i64 x1, .int .i64 x3, .int .i64 x0.View, .int .i64 x0.Inst, .int .i64 x0.Len, .bool x0.Has, .int .i64 x0.Members, .int .i64 x0.Source, .int .i64 x0.At, .int .i64 x0.Total, p0_0, .int .i64 (w64 (x0.Hop + 1)), .int .i64 (w64 (x0.Seq + (mn (mx x5 0) t_5))), v_32, v_71, .int .i64 x0.Index, .int .i64 x0.Entry.Sess, .int .i64 x0.Entry.Seq, .int .i64 x0.Entry.Cmd.Kind, .int .i64 x0.Entry.Cmd.Who, p0_3, p0_4, p0_5] : List Value).toArray 29 (0, 0)), M_30, M_43, Mem.no, M_73] Z := hS'
          clear hs' hS'
          refine s_assign hm rfl rfl ?_
          clear hm a; intro a hm
          refine wpList_nil ?_
          replace hm : Fr 118 a [(16, .pointer (some ⟨g_4, 0, none⟩)), (17, v_45)] := hm.keep [16, 17]
          refine x_then_n ?_
          refine wp_ret ?_
          obtain rfl := Option.some.inj H
          exact f_ret hm (rs := [.cell 16 29, .tmp 17]) rfl (.cell rfl (hS.load_agg (p := 2) (us := [.int .i64 x0.Kind, .int .i64 x1, .int .i64 x3, .int .i64 x0.View, .int .i64 x0.Inst, .int .i64 x0.Len, .bool x0.Has, .int .i64 x0.Members, .int .i64 x0.Source, .int .i64 x0.At, .int .i64 x0.Total, p0_0, .int .i64 (w64 (x0.Hop + 1)), .int .i64 (w64 (x0.Seq + (mn (mx x5 0) t_5))), v_32, v_71, .int .i64 x0.Index, .int .i64 x0.Entry.Sess, .int .i64 x0.Entry.Seq, .int .i64 x0.Entry.Cmd.Kind, .int .i64 x0.Entry.Cmd.Who, p0_3, p0_4, p0_5]) rfl Try.underlying29 rfl ti29 rfl rfl) (.tmp rfl .nil)) ⟨_, rfl, p0_0, v_32, v_71, p0_3, p0_4, p0_5, v_45, N_70, M_30, M_73, M_43, rfl, (Sep.sel hS [0, 3, 6, 4] (by decide)), (hp0_0.mono (Mem.le_un _ _)), ho_33, hr_72, (hp0_3.mono (Mem.le_un _ _)), (hp0_4.mono (Mem.le_un _ _)), (hp0_5.mono (Mem.le_un _ _)), ho_46⟩
        clear hKJ_54
        replace hS : Sep w0 w_52 [N_41, Mem.one g_2 (.cells ([.int .i64 x0.Kind, .int .i64 x1, .int .i64 x3, .int .i64 x0.View, .int .i64 x0.Inst, .int .i64 x0.Len, .bool x0.Has, .int .i64 x0.Members, .int .i64 x0.Source, .int .i64 x0.At, .int .i64 x0.Total, p0_0, .int .i64 (w64 (x0.Hop + 1)), .int .i64 (w64 (x0.Seq + (mn (mx x5 0) t_5))), v_32, p0_2, .int .i64 x0.Index, .int .i64 x0.Entry.Sess, .int .i64 x0.Entry.Seq, .int .i64 x0.Entry.Cmd.Kind, .int .i64 x0.Entry.Cmd.Who, p0_3, p0_4, p0_5] : List Value).toArray 29 (0, 0)), Mem.one g_4 (.cells ([.int .i64 0, .int .i64 0, .int .i64 0, .int .i64 0, .int .i64 0, .int .i64 0, .bool false, .int .i64 0, .int .i64 0, .int .i64 0, .int .i64 0, .slice none 0 0, .int .i64 0, .int .i64 0, .slice none 0 0, .slice none 0 0, .int .i64 0, .int .i64 0, .int .i64 0, .int .i64 0, .int .i64 0, .slice none 0 0, .slice none 0 0, .slice none 0 0] : List Value).toArray 29 (0, 0)), M_30, M_43, M_48] Z := hS
        replace hm : Fr 118 a [(8, .pointer (some ⟨g_2, 0, none⟩)), (16, .pointer (some ⟨g_4, 0, none⟩)), (17, .slice none 0 0), (19, .int .i64 t_36), (20, v_45), (21, v_50), (89, p7_7), (90, .int .i64 (x7.length : Int)), (91, .int .i64 0)] := hm.keep [8, 16, 17, 19, 20, 21, 89, 90, 91]
        refine c_block ?_
        refine c_loop (fun k_84 a w_84 => ∃ (x_78 : List Int) (x_83 : Int) (v_81 : Value) (N_77 : Mem) (M_79 : Mem), tokn_Pass.L1 K x7 t_36 (fun v => tokn_Pass.J4 K x0 x1 x3 x5 t_5 x_29 x_42 v) k_84 (x_78, x_83) = some r ∧ Fr 118 a [(8, .pointer (some ⟨g_2, 0, none⟩)), (16, .pointer (some ⟨g_4, 0, none⟩)), (17, .slice none 0 0), (19, .int .i64 t_36), (20, v_45), (21, v_81), (89, p7_7), (90, .int .i64 (x7.length : Int)), (91, .int .i64 x_83)] ∧ Sep w0 w_84 [N_77, Mem.one g_2 (.cells ([.int .i64 x0.Kind, .int .i64 x1, .int .i64 x3, .int .i64 x0.View, .int .i64 x0.Inst, .int .i64 x0.Len, .bool x0.Has, .int .i64 x0.Members, .int .i64 x0.Source, .int .i64 x0.At, .int .i64 x0.Total, p0_0, .int .i64 (w64 (x0.Hop + 1)), .int .i64 (w64 (x0.Seq + (mn (mx x5 0) t_5))), v_32, p0_2, .int .i64 x0.Index, .int .i64 x0.Entry.Sess, .int .i64 x0.Entry.Seq, .int .i64 x0.Entry.Cmd.Kind, .int .i64 x0.Entry.Cmd.Who, p0_3, p0_4, p0_5] : List Value).toArray 29 (0, 0)), Mem.one g_4 (.cells ([.int .i64 0, .int .i64 0, .int .i64 0, .int .i64 0, .int .i64 0, .int .i64 0, .bool false, .int .i64 0, .int .i64 0, .int .i64 0, .int .i64 0, .slice none 0 0, .int .i64 0, .int .i64 0, .slice none 0 0, .slice none 0 0, .int .i64 0, .int .i64 0, .int .i64 0, .int .i64 0, .int .i64 0, .slice none 0 0, .slice none 0 0, .slice none 0 0] : List Value).toArray 29 (0, 0)), M_30, M_43, M_79] Z ∧ N_41.le N_77 ∧ Own (Kd.int .i64) 3 M_79 Mem.no v_81 x_78) K ⟨x_47, 0, v_50, N_41, M_48, H, hm, (Sep.sel hS [0, 1, 2, 3, 4, 5] (by decide)), (Mem.le.refl _), ho_51⟩ (fun a w h => by obtain ⟨_, _, _, _, _, H, _⟩ := h; cases (show (none : Option (api_Msg × (List Int))) = some r from H)) ?_
        clear hm hS a H
        rintro k_84 a w_84 KL_84 hKL_84 ⟨x_78, x_83, v_81, N_77, M_79, H, hm, hS, le_77, ho_82⟩
        replace H : tokn_Pass.B1 K x7 t_36 (fun v => tokn_Pass.J4 K x0 x1 x3 x5 t_5 x_29 x_42 v) (tokn_Pass.L1 K x7 t_36 (fun v => tokn_Pass.J4 K x0 x1 x3 x5 t_5 x_29 x_42 v) k_84) x_78 x_83 = some r := H
        unfold tokn_Pass.B1 at H
        refine wp_seq ?_
        refine wp_region_lit ?_
        refine s_cmp (b := decide (x_83 < (x7.length : Int))) hm rfl rfl rfl (.inr (.inr (.inl ⟨rfl, rfl⟩))) ?_
        clear hm a; intro a hm
        refine wpList_nil ?_
        replace hm : Fr 118 a [(8, .pointer (some ⟨g_2, 0, none⟩)), (16, .pointer (some ⟨g_4, 0, none⟩)), (17, .slice none 0 0), (19, .int .i64 t_36), (20, v_45), (21, v_81), (89, p7_7), (90, .int .i64 (x7.length : Int)), (91, .int .i64 x_83), (92, .bool (decide (x_83 < (x7.length : Int))))] := hm.keep [8, 16, 17, 19, 20, 21, 89, 90, 91, 92]
        refine x_then_n ?_
        refine c_seq fun KJ_86 hKJ_86 => ?_
        by_cases hc_87 : x_83 < (x7.length : Int)
        · rw [if_pos hc_87] at H
          refine c_cond_t hm rfl (decide_eq_true hc_87) ?_
          refine wp_skip ?_
          refine x_then_n (hKJ_86 _ _ ?_)
          refine c_seq fun KJ_88 hKJ_88 => ?_
          refine c_block ?_
          refine wp_seq ?_
          refine wp_region_lit ?_
          obtain ⟨t_89, et_89, H⟩ := Option.bind_eq_some_iff.1 H
          refine v_index hm rfl Try.underlying23 ti3 rfl rfl rfl hp7_7 (hA.trans hS.old) et_89 ?_
          intro ad_90 cs_91 hk_92 hc_93
          obtain rfl := (show cs_91 = [.int .i64 t_89] from hk_92)
          clear hm a; intro a hm
          refine s_load hm rfl rfl (el_one (o := 0) hc_93 Try.underlying3 rfl rfl) ?_
          clear hm a; intro a hm
          refine s_assign hm rfl rfl ?_
          clear hm a; intro a hm
          refine wpList_nil ?_
          replace hm : Fr 118 a [(8, .pointer (some ⟨g_2, 0, none⟩)), (16, .pointer (some ⟨g_4, 0, none⟩)), (17, .slice none 0 0), (19, .int .i64 t_36), (20, v_45), (21, v_81), (25, .int .i64 t_89), (89, p7_7), (90, .int .i64 (x7.length : Int)), (91, .int .i64 x_83)] := hm.keep [8, 16, 17, 19, 20, 21, 25, 89, 90, 91]
          refine x_then_n ?_
          refine c_seq fun KJ_94 hKJ_94 => ?_
          have hJ_j_98 : ∀ (x_96 : Bool), tokn_Pass.J5 K x_78 t_89 (tokn_Pass.L1 K x7 t_36 (fun v => tokn_Pass.J4 K x0 x1 x3 x5 t_5 x_29 x_42 v) k_84) x_83 x_96 = some r → ∀ (a : Act) (w_97 : World), (∃ (N_95 : Mem), Fr 118 a [(8, .pointer (some ⟨g_2, 0, none⟩)), (16, .pointer (some ⟨g_4, 0, none⟩)), (17, .slice none 0 0), (19, .int .i64 t_36), (20, v_45), (21, v_81), (25, .int .i64 t_89), (89, p7_7), (90, .int .i64 (x7.length : Int)), (91, .int .i64 x_83), (103, .bool x_96)] ∧ Sep w0 w_97 [N_95, Mem.one g_2 (.cells ([.int .i64 x0.Kind, .int .i64 x1, .int .i64 x3, .int .i64 x0.View, .int .i64 x0.Inst, .int .i64 x0.Len, .bool x0.Has, .int .i64 x0.Members, .int .i64 x0.Source, .int .i64 x0.At, .int .i64 x0.Total, p0_0, .int .i64 (w64 (x0.Hop + 1)), .int .i64 (w64 (x0.Seq + (mn (mx x5 0) t_5))), v_32, p0_2, .int .i64 x0.Index, .int .i64 x0.Entry.Sess, .int .i64 x0.Entry.Seq, .int .i64 x0.Entry.Cmd.Kind, .int .i64 x0.Entry.Cmd.Who, p0_3, p0_4, p0_5] : List Value).toArray 29 (0, 0)), Mem.one g_4 (.cells ([.int .i64 0, .int .i64 0, .int .i64 0, .int .i64 0, .int .i64 0, .int .i64 0, .bool false, .int .i64 0, .int .i64 0, .int .i64 0, .int .i64 0, .slice none 0 0, .int .i64 0, .int .i64 0, .slice none 0 0, .slice none 0 0, .int .i64 0, .int .i64 0, .int .i64 0, .int .i64 0, .int .i64 0, .slice none 0 0, .slice none 0 0, .slice none 0 0] : List Value).toArray 29 (0, 0)), M_30, M_43, M_79] Z ∧ N_77.le N_95) → KJ_94 a w_97 := by
            clear H hm hS a
            rintro x_96 H a w_97 ⟨N_95, hm, hS, le_95⟩
            unfold tokn_Pass.J5 at H
            refine hKJ_94 _ _ ?_
            by_cases hc_99 : x_96 = true
            · rw [if_pos hc_99] at H
              refine c_cond_t hm rfl hc_99 ?_
              refine wp_region_lit ?_
              refine s_move hm rfl rfl ?_
              clear hm a; intro a hm
              refine s_move hm rfl rfl ?_
              clear hm a; intro a hm
              have hq_104 : Reps (Kd.int .i64) Mem.no ([t_89] : List Int) _ := ((Reps.one (d := (Kd.int .i64)) (x := t_89) (show (Kd.int .i64).K _ _ [.int .i64 t_89] from rfl)).append (Reps.nil (Kd.int .i64) _))
              refine s_buildSlice hm rfl Try.underlying23 ti3 rfl rfl rfl (.cons rfl .nil) rfl rfl rfl hS hq_104 rfl ?_
              intro w_100 v_101 M_102 hS' ho_103
              clear hm a; intro a hm
              replace hS : Sep w0 w_100 [N_95, Mem.one g_2 (.cells ([.int .i64 x0.Kind, .int .i64 x1, .int .i64 x3, .int .i64 x0.View, .int .i64 x0.Inst, .int .i64 x0.Len, .bool x0.Has, .int .i64 x0.Members, .int .i64 x0.Source, .int .i64 x0.At, .int .i64 x0.Total, p0_0, .int .i64 (w64 (x0.Hop + 1)), .int .i64 (w64 (x0.Seq + (mn (mx x5 0) t_5))), v_32, p0_2, .int .i64 x0.Index, .int .i64 x0.Entry.Sess, .int .i64 x0.Entry.Seq, .int .i64 x0.Entry.Cmd.Kind, .int .i64 x0.Entry.Cmd.Who, p0_3, p0_4, p0_5] : List Value).toArray 29 (0, 0)), Mem.one g_4 (.cells ([.int .i64 0, .int .i64 0, .int .i64 0, .int .i64 0, .int .i64 0, .int .i64 0, .bool false, .int .i64 0, .int .i64 0, .int .i64 0, .int .i64 0, .slice none 0 0, .int .i64 0, .int .i64 0, .slice none 0 0, .slice none 0 0, .int .i64 0, .int .i64 0, .int .i64 0, .int .i64 0, .int .i64 0, .slice none 0 0, .slice none 0 0, .slice none 0 0] : List Value).toArray 29 (0, 0)), M_30, M_43, M_79, M_102] Z := hS'
              clear hS' hq_104
              obtain ⟨t_106, et_106, H⟩ := Option.bind_eq_some_iff.1 H
              refine s_append (J := Mem.no) (I' := Mem.no) (p := 5) 17592186044416 hm rfl rfl rfl Try.underlying23 ti3 rfl rfl rfl rfl hS rfl ho_82 (Src.flat (flat_int .i64) (ho_103.src (hS.own 6))) (Mem.le.refl _) (Mem.le.refl _) et_106 ?_
              intro w_107 v_108 M_109 hS' ho_110
              clear hm a; intro a hm
              replace hS : Sep w0 w_107 [N_95, Mem.one g_2 (.cells ([.int .i64 x0.Kind, .int .i64 x1, .int .i64 x3, .int .i64 x0.View, .int .i64 x0.Inst, .int .i64 x0.Len, .bool x0.Has, .int .i64 x0.Members, .int .i64 x0.Source, .int .i64 x0.At, .int .i64 x0.Total, p0_0, .int .i64 (w64 (x0.Hop + 1)), .int .i64 (w64 (x0.Seq + (mn (mx x5 0) t_5))), v_32, p0_2, .int .i64 x0.Index, .int .i64 x0.Entry.Sess, .int .i64 x0.Entry.Seq, .int .i64 x0.Entry.Cmd.Kind, .int .i64 x0.Entry.Cmd.Who, p0_3, p0_4, p0_5] : List Value).toArray 29 (0, 0)), Mem.one g_4 (.cells ([.int .i64 0, .int .i64 0, .int .i64 0, .int .i64 0, .int .i64 0, .int .i64 0, .bool false, .int .i64 0, .int .i64 0, .int .i64 0, .int .i64 0, .slice none 0 0, .int .i64 0, .int .i64 0, .slice none 0 0, .slice none 0 0, .int .i64 0, .int .i64 0, .int .i64 0, .int .i64 0, .int .i64 0, .slice none 0 0, .slice none 0 0, .slice none 0 0] : List Value).toArray 29 (0, 0)), M_30, M_43, M_109, M_102] Z := hS'
              clear hS'
              refine s_assign hm rfl rfl ?_
              clear hm a; intro a hm
              refine wpList_nil ?_
              replace hm : Fr 118 a [(8, .pointer (some ⟨g_2, 0, none⟩)), (16, .pointer (some ⟨g_4, 0, none⟩)), (17, .slice none 0 0), (19, .int .i64 t_36), (20, v_45), (21, v_108), (89, p7_7), (90, .int .i64 (x7.length : Int)), (91, .int .i64 x_83)] := hm.keep [8, 16, 17, 19, 20, 21, 89, 90, 91]
              refine x_block_n ?_
              refine x_then_n (hKJ_88 _ _ ?_)
              refine wp_region_lit ?_
              refine s_arith (r := w64 (x_83 + 1)) hm rfl rfl rfl (.inl ⟨rfl, rfl⟩) ?_
              clear hm a; intro a hm
              refine s_move hm rfl rfl ?_
              clear hm a; intro a hm
              refine wpList_nil ?_
              replace hm : Fr 118 a [(8, .pointer (some ⟨g_2, 0, none⟩)), (16, .pointer (some ⟨g_4, 0, none⟩)), (17, .slice none 0 0), (19, .int .i64 t_36), (20, v_45), (21, v_108), (89, p7_7), (90, .int .i64 (x7.length : Int)), (91, .int .i64 (w64 (x_83 + 1)))] := hm.keep [8, 16, 17, 19, 20, 21, 89, 90, 91]
              refine x_then_n (hKL_84 _ _ ?_)
              replace hS : Sep w0 w_107 [N_95, Mem.one g_2 (.cells ([.int .i64 x0.Kind, .int .i64 x1, .int .i64 x3, .int .i64 x0.View, .int .i64 x0.Inst, .int .i64 x0.Len, .bool x0.Has, .int .i64 x0.Members, .int .i64 x0.Source, .int .i64 x0.At, .int .i64 x0.Total, p0_0, .int .i64 (w64 (x0.Hop + 1)), .int .i64 (w64 (x0.Seq + (mn (mx x5 0) t_5))), v_32, p0_2, .int .i64 x0.Index, .int .i64 x0.Entry.Sess, .int .i64 x0.Entry.Seq, .int .i64 x0.Entry.Cmd.Kind, .int .i64 x0.Entry.Cmd.Who, p0_3, p0_4, p0_5] : List Value).toArray 29 (0, 0)), Mem.one g_4 (.cells ([.int .i64 0, .int .i64 0, .int .i64 0, .int .i64 0, .int .i64 0, .int .i64 0, .bool false, .int .i64 0, .int .i64 0, .int .i64 0, .int .i64 0, .slice none 0 0, .int .i64 0, .int .i64 0, .slice none 0 0, .slice none 0 0, .int .i64 0, .int .i64 0, .int .i64 0, .int .i64 0, .int .i64 0, .slice none 0 0, .slice none 0 0, .slice none 0 0] : List Value).toArray 29 (0, 0)), M_30, M_43, M_109, M_102] Z := hS
              replace hm : Fr 118 a [(8, .pointer (some ⟨g_2, 0, none⟩)), (16, .pointer (some ⟨g_4, 0, none⟩)), (17, .slice none 0 0), (19, .int .i64 t_36), (20, v_45), (21, v_108), (89, p7_7), (90, .int .i64 (x7.length : Int)), (91, .int .i64 (w64 (x_83 + 1)))] := hm.keep [8, 16, 17, 19, 20, 21, 89, 90, 91]
              exact ⟨t_106, w64 (x_83 + 1), v_108, N_95, M_109, H, hm, (Sep.sel hS [0, 1, 2, 3, 4, 5] (by decide)), (le_77.trans le_95), ho_110⟩
            · rw [if_neg hc_99] at H
              refine c_cond_f hm rfl (Bool.eq_false_iff.2 hc_99) ?_
              refine wp_skip ?_
              refine x_block_n ?_
              refine x_then_n (hKJ_88 _ _ ?_)
              refine wp_region_lit ?_
              refine s_arith (r := w64 (x_83 + 1)) hm rfl rfl rfl (.inl ⟨rfl, rfl⟩) ?_
              clear hm a; intro a hm
              refine s_move hm rfl rfl ?_
              clear hm a; intro a hm
              refine wpList_nil ?_
              replace hm : Fr 118 a [(8, .pointer (some ⟨g_2, 0, none⟩)), (16, .pointer (some ⟨g_4, 0, none⟩)), (17, .slice none 0 0), (19, .int .i64 t_36), (20, v_45), (21, v_81), (89, p7_7), (90, .int .i64 (x7.length : Int)), (91, .int .i64 (w64 (x_83 + 1)))] := hm.keep [8, 16, 17, 19, 20, 21, 89, 90, 91]
              refine x_then_n (hKL_84 _ _ ?_)
              replace hS : Sep w0 w_97 [N_95, Mem.one g_2 (.cells ([.int .i64 x0.Kind, .int .i64 x1, .int .i64 x3, .int .i64 x0.View, .int .i64 x0.Inst, .int .i64 x0.Len, .bool x0.Has, .int .i64 x0.Members, .int .i64 x0.Source, .int .i64 x0.At, .int .i64 x0.Total, p0_0, .int .i64 (w64 (x0.Hop + 1)), .int .i64 (w64 (x0.Seq + (mn (mx x5 0) t_5))), v_32, p0_2, .int .i64 x0.Index, .int .i64 x0.Entry.Sess, .int .i64 x0.Entry.Seq, .int .i64 x0.Entry.Cmd.Kind, .int .i64 x0.Entry.Cmd.Who, p0_3, p0_4, p0_5] : List Value).toArray 29 (0, 0)), Mem.one g_4 (.cells ([.int .i64 0, .int .i64 0, .int .i64 0, .int .i64 0, .int .i64 0, .int .i64 0, .bool false, .int .i64 0, .int .i64 0, .int .i64 0, .int .i64 0, .slice none 0 0, .int .i64 0, .int .i64 0, .slice none 0 0, .slice none 0 0, .int .i64 0, .int .i64 0, .int .i64 0, .int .i64 0, .int .i64 0, .slice none 0 0, .slice none 0 0, .slice none 0 0] : List Value).toArray 29 (0, 0)), M_30, M_43, M_79] Z := hS
              replace hm : Fr 118 a [(8, .pointer (some ⟨g_2, 0, none⟩)), (16, .pointer (some ⟨g_4, 0, none⟩)), (17, .slice none 0 0), (19, .int .i64 t_36), (20, v_45), (21, v_81), (89, p7_7), (90, .int .i64 (x7.length : Int)), (91, .int .i64 (w64 (x_83 + 1)))] := hm.keep [8, 16, 17, 19, 20, 21, 89, 90, 91]
              exact ⟨x_78, w64 (x_83 + 1), v_81, N_95, M_79, H, hm, (Sep.sel hS [0, 1, 2, 3, 4, 5] (by decide)), (le_77.trans le_95), ho_82⟩
          clear hKJ_94
          refine wp_region_lit ?_
          refine s_move hm rfl rfl ?_
          clear hm a; intro a hm
          refine s_move hm rfl rfl ?_
          clear hm a; intro a hm
          refine s_cmp (b := decide (t_89 > t_36)) hm rfl rfl rfl (.inr (.inr (.inr (.inr (.inl ⟨rfl, rfl⟩))))) ?_
          clear hm a; intro a hm
          refine s_move hm rfl rfl ?_
          clear hm a; intro a hm
          by_cases hc_112 : t_89 > t_36
          · rw [if_pos hc_112] at H
            refine s_on hm rfl rfl (decide_eq_true hc_112) ?_
            refine s_move hm rfl rfl ?_
            clear hm a; intro a hm
            refine s_on hm rfl rfl (decide_eq_true hc_112) ?_
            refine s_move hm rfl rfl ?_
            clear hm a; intro a hm
            refine s_on hm rfl rfl (decide_eq_true hc_112) ?_
            obtain ⟨t_113, et_113, H⟩ := Option.bind_eq_some_iff.1 H
            refine s_call hm rfl Try.call63 rfl (slices_Contains_sint_int.calls K x_78 _ t_89 t_113 w0 _ _ _ (Mem.le.refl _) (hS.enter [] (by decide)) (ho_82.rd (hS.own_zed [] 4 (by decide)) (Mem.no_le _)) et_113) ?_
            rintro _ w_114 ⟨N_115, rfl, hS'⟩
            clear hm a; intro a hm
            obtain ⟨N_116, hS'', le_116, ln_116⟩ := hS.call [] (by decide) rfl (l' := []) (ow := []) rfl hS'
            replace hS : Sep w0 w_114 [N_116, Mem.one g_2 (.cells ([.int .i64 x0.Kind, .int .i64 x1, .int .i64 x3, .int .i64 x0.View, .int .i64 x0.Inst, .int .i64 x0.Len, .bool x0.Has, .int .i64 x0.Members, .int .i64 x0.Source, .int .i64 x0.At, .int .i64 x0.Total, p0_0, .int .i64 (w64 (x0.Hop + 1)), .int .i64 (w64 (x0.Seq + (mn (mx x5 0) t_5))), v_32, p0_2, .int .i64 x0.Index, .int .i64 x0.Entry.Sess, .int .i64 x0.Entry.Seq, .int .i64 x0.Entry.Cmd.Kind, .int .i64 x0.Entry.Cmd.Who, p0_3, p0_4, p0_5] : List Value).toArray 29 (0, 0)), Mem.one g_4 (.cells ([.int .i64 0, .int .i64 0, .int .i64 0, .int .i64 0, .int .i64 0, .int .i64 0, .bool false, .int .i64 0, .int .i64 0, .int .i64 0, .int .i64 0, .slice none 0 0, .int .i64 0, .int .i64 0, .slice none 0 0, .slice none 0 0, .int .i64 0, .int .i64 0, .int .i64 0, .int .i64 0, .int .i64 0, .slice none 0 0, .slice none 0 0, .slice none 0 0] : List Value).toArray 29 (0, 0)), M_30, M_43, M_79] Z := hS''
            clear hS' hS''
            refine s_on hm rfl rfl (decide_eq_true hc_112) ?_
            refine s_not hm rfl rfl ?_
            clear hm a; intro a hm
            refine s_pick_t hm rfl rfl (decide_eq_true hc_112) rfl ?_
            clear hm a; intro a hm
            refine wpList_nil ?_
            replace hm : Fr 118 a [(8, .pointer (some ⟨g_2, 0, none⟩)), (16, .pointer (some ⟨g_4, 0, none⟩)), (17, .slice none 0 0), (19, .int .i64 t_36), (20, v_45), (21, v_81), (25, .int .i64 t_89), (89, p7_7), (90, .int .i64 (x7.length : Int)), (91, .int .i64 x_83), (103, .bool (!t_113))] := hm.keep [8, 16, 17, 19, 20, 21, 25, 89, 90, 91, 103]
            replace hS : Sep w0 w_114 [N_116, Mem.one g_2 (.cells ([.int .i64 x0.Kind, .int .i64 x1, .int .i64 x3, .int .i64 x0.View, .int .i64 x0.Inst, .int .i64 x0.Len, .bool x0.Has, .int .i64 x0.Members, .int .i64 x0.Source, .int .i64 x0.At, .int .i64 x0.Total, p0_0, .int .i64 (w64 (x0.Hop + 1)), .int .i64 (w64 (x0.Seq + (mn (mx x5 0) t_5))), v_32, p0_2, .int .i64 x0.Index, .int .i64 x0.Entry.Sess, .int .i64 x0.Entry.Seq, .int .i64 x0.Entry.Cmd.Kind, .int .i64 x0.Entry.Cmd.Who, p0_3, p0_4, p0_5] : List Value).toArray 29 (0, 0)), Mem.one g_4 (.cells ([.int .i64 0, .int .i64 0, .int .i64 0, .int .i64 0, .int .i64 0, .int .i64 0, .bool false, .int .i64 0, .int .i64 0, .int .i64 0, .int .i64 0, .slice none 0 0, .int .i64 0, .int .i64 0, .slice none 0 0, .slice none 0 0, .int .i64 0, .int .i64 0, .int .i64 0, .int .i64 0, .int .i64 0, .slice none 0 0, .slice none 0 0, .slice none 0 0] : List Value).toArray 29 (0, 0)), M_30, M_43, M_79] Z := hS
            replace hm : Fr 118 a [(8, .pointer (some ⟨g_2, 0, none⟩)), (16, .pointer (some ⟨g_4, 0, none⟩)), (17, .slice none 0 0), (19, .int .i64 t_36), (20, v_45), (21, v_81), (25, .int .i64 t_89), (89, p7_7), (90, .int .i64 (x7.length : Int)), (91, .int .i64 x_83), (103, .bool (!t_113))] := hm.keep [8, 16, 17, 19, 20, 21, 25, 89, 90, 91, 103]
            exact x_then_n (hJ_j_98 (!t_113) H _ _ ⟨N_116, hm, (Sep.sel hS [0, 1, 2, 3, 4, 5] (by decide)), le_116⟩)
          · rw [if_neg hc_112] at H
            refine s_off hm rfl rfl rfl (decide_eq_false hc_112) ?_
            clear hm a; intro a hm
            refine s_off hm rfl rfl rfl (decide_eq_false hc_112) ?_
            clear hm a; intro a hm
            refine s_off hm rfl rfl rfl (decide_eq_false hc_112) ?_
            clear hm a; intro a hm
            refine s_off hm rfl rfl rfl (decide_eq_false hc_112) ?_
            clear hm a; intro a hm
            refine s_pick_f hm rfl rfl (decide_eq_false hc_112) rfl ?_
            clear hm a; intro a hm
            refine wpList_nil ?_
            replace hm : Fr 118 a [(8, .pointer (some ⟨g_2, 0, none⟩)), (16, .pointer (some ⟨g_4, 0, none⟩)), (17, .slice none 0 0), (19, .int .i64 t_36), (20, v_45), (21, v_81), (25, .int .i64 t_89), (89, p7_7), (90, .int .i64 (x7.length : Int)), (91, .int .i64 x_83), (103, .bool false)] := hm.keep [8, 16, 17, 19, 20, 21, 25, 89, 90, 91, 103]
            replace hS : Sep w0 w_84 [N_77, Mem.one g_2 (.cells ([.int .i64 x0.Kind, .int .i64 x1, .int .i64 x3, .int .i64 x0.View, .int .i64 x0.Inst, .int .i64 x0.Len, .bool x0.Has, .int .i64 x0.Members, .int .i64 x0.Source, .int .i64 x0.At, .int .i64 x0.Total, p0_0, .int .i64 (w64 (x0.Hop + 1)), .int .i64 (w64 (x0.Seq + (mn (mx x5 0) t_5))), v_32, p0_2, .int .i64 x0.Index, .int .i64 x0.Entry.Sess, .int .i64 x0.Entry.Seq, .int .i64 x0.Entry.Cmd.Kind, .int .i64 x0.Entry.Cmd.Who, p0_3, p0_4, p0_5] : List Value).toArray 29 (0, 0)), Mem.one g_4 (.cells ([.int .i64 0, .int .i64 0, .int .i64 0, .int .i64 0, .int .i64 0, .int .i64 0, .bool false, .int .i64 0, .int .i64 0, .int .i64 0, .int .i64 0, .slice none 0 0, .int .i64 0, .int .i64 0, .slice none 0 0, .slice none 0 0, .int .i64 0, .int .i64 0, .int .i64 0, .int .i64 0, .int .i64 0, .slice none 0 0, .slice none 0 0, .slice none 0 0] : List Value).toArray 29 (0, 0)), M_30, M_43, M_79] Z := hS
            replace hm : Fr 118 a [(8, .pointer (some ⟨g_2, 0, none⟩)), (16, .pointer (some ⟨g_4, 0, none⟩)), (17, .slice none 0 0), (19, .int .i64 t_36), (20, v_45), (21, v_81), (25, .int .i64 t_89), (89, p7_7), (90, .int .i64 (x7.length : Int)), (91, .int .i64 x_83), (103, .bool false)] := hm.keep [8, 16, 17, 19, 20, 21, 25, 89, 90, 91, 103]
            exact x_then_n (hJ_j_98 false H _ _ ⟨N_77, hm, (Sep.sel hS [0, 1, 2, 3, 4, 5] (by decide)), (Mem.le.refl _)⟩)
        · rw [if_neg hc_87] at H
          refine c_cond_f hm rfl (decide_eq_false hc_87) ?_
          refine wp_exit (x_then_x (x_then_x (x_block_t ?_)))
          replace hS : Sep w0 w_84 [N_77, Mem.one g_2 (.cells ([.int .i64 x0.Kind, .int .i64 x1, .int .i64 x3, .int .i64 x0.View, .int .i64 x0.Inst, .int .i64 x0.Len, .bool x0.Has, .int .i64 x0.Members, .int .i64 x0.Source, .int .i64 x0.At, .int .i64 x0.Total, p0_0, .int .i64 (w64 (x0.Hop + 1)), .int .i64 (w64 (x0.Seq + (mn (mx x5 0) t_5))), v_32, p0_2, .int .i64 x0.Index, .int .i64 x0.Entry.Sess, .int .i64 x0.Entry.Seq, .int .i64 x0.Entry.Cmd.Kind, .int .i64 x0.Entry.Cmd.Who, p0_3, p0_4, p0_5] : List Value).toArray 29 (0, 0)), Mem.one g_4 (.cells ([.int .i64 0, .int .i64 0, .int .i64 0, .int .i64 0, .int .i64 0, .int .i64 0, .bool false, .int .i64 0, .int .i64 0, .int .i64 0, .int .i64 0, .slice none 0 0, .int .i64 0, .int .i64 0, .slice none 0 0, .slice none 0 0, .int .i64 0, .int .i64 0, .int .i64 0, .int .i64 0, .int .i64 0, .slice none 0 0, .slice none 0 0, .slice none 0 0] : List Value).toArray 29 (0, 0)), M_30, M_43, M_79] Z := hS
          replace hm : Fr 118 a [(8, .pointer (some ⟨g_2, 0, none⟩)), (16, .pointer (some ⟨g_4, 0, none⟩)), (17, .slice none 0 0), (20, v_45), (21, v_81)] := hm.keep [8, 16, 17, 20, 21]
          exact x_then_n (hJ_j_62 x_78 H _ _ ⟨v_81, N_77, M_79, hm, (Sep.sel hS [0, 1, 2, 3, 4, 5] (by decide)), le_77, ho_82⟩)
      clear hKJ_40
      have hS' := hS.room
      replace hS : Sep w0 w_37 [N_39, Mem.one g_2 (.cells ([.int .i64 x0.Kind, .int .i64 x1, .int .i64 x3, .int .i64 x0.View, .int .i64 x0.Inst, .int .i64 x0.Len, .bool x0.Has, .int .i64 x0.Members, .int .i64 x0.Source, .int .i64 x0.At, .int .i64 x0.Total, p0_0, .int .i64 (w64 (x0.Hop + 1)), .int .i64 (w64 (x0.Seq + (mn (mx x5 0) t_5))), v_32, p0_2, .int .i64 x0.Index, .int .i64 x0.Entry.Sess, .int .i64 x0.Entry.Seq, .int .i64 x0.Entry.Cmd.Kind, .int .i64 x0.Entry.Cmd.Who, p0_3, p0_4, p0_5] : List Value).toArray 29 (0, 0)), Mem.one g_4 (.cells ([.int .i64 0, .int .i64 0, .int .i64 0, .int .i64 0, .int .i64 0, .int .i64 0, .bool false, .int .i64 0, .int .i64 0, .int .i64 0, .int .i64 0, .slice none 0 0, .int .i64 0, .int .i64 0, .slice none 0 0, .slice none 0 0, .int .i64 0, .int .i64 0, .int .i64 0, .int .i64 0, .int .i64 0, .slice none 0 0, .slice none 0 0, .slice none 0 0] : List Value).toArray 29 (0, 0)), M_30, Mem.no] Z := hS'
      clear hS'
      have hS' := hS.room
      replace hS : Sep w0 w_37 [N_39, Mem.one g_2 (.cells ([.int .i64 x0.Kind, .int .i64 x1, .int .i64 x3, .int .i64 x0.View, .int .i64 x0.Inst, .int .i64 x0.Len, .bool x0.Has, .int .i64 x0.Members, .int .i64 x0.Source, .int .i64 x0.At, .int .i64 x0.Total, p0_0, .int .i64 (w64 (x0.Hop + 1)), .int .i64 (w64 (x0.Seq + (mn (mx x5 0) t_5))), v_32, p0_2, .int .i64 x0.Index, .int .i64 x0.Entry.Sess, .int .i64 x0.Entry.Seq, .int .i64 x0.Entry.Cmd.Kind, .int .i64 x0.Entry.Cmd.Who, p0_3, p0_4, p0_5] : List Value).toArray 29 (0, 0)), Mem.one g_4 (.cells ([.int .i64 0, .int .i64 0, .int .i64 0, .int .i64 0, .int .i64 0, .int .i64 0, .bool false, .int .i64 0, .int .i64 0, .int .i64 0, .int .i64 0, .slice none 0 0, .int .i64 0, .int .i64 0, .slice none 0 0, .slice none 0 0, .int .i64 0, .int .i64 0, .int .i64 0, .int .i64 0, .int .i64 0, .slice none 0 0, .slice none 0 0, .slice none 0 0] : List Value).toArray 29 (0, 0)), M_30, Mem.no, Mem.no] Z := hS'
      clear hS'
      replace hS : Sep w0 w_37 [N_39, Mem.one g_2 (.cells ([.int .i64 x0.Kind, .int .i64 x1, .int .i64 x3, .int .i64 x0.View, .int .i64 x0.Inst, .int .i64 x0.Len, .bool x0.Has, .int .i64 x0.Members, .int .i64 x0.Source, .int .i64 x0.At, .int .i64 x0.Total, p0_0, .int .i64 (w64 (x0.Hop + 1)), .int .i64 (w64 (x0.Seq + (mn (mx x5 0) t_5))), v_32, p0_2, .int .i64 x0.Index, .int .i64 x0.Entry.Sess, .int .i64 x0.Entry.Seq, .int .i64 x0.Entry.Cmd.Kind, .int .i64 x0.Entry.Cmd.Who, p0_3, p0_4, p0_5] : List Value).toArray 29 (0, 0)), Mem.one g_4 (.cells ([.int .i64 0, .int .i64 0, .int .i64 0, .int .i64 0, .int .i64 0, .int .i64 0, .bool false, .int .i64 0, .int .i64 0, .int .i64 0, .int .i64 0, .slice none 0 0, .int .i64 0, .int .i64 0, .slice none 0 0, .slice none 0 0, .int .i64 0, .int .i64 0, .int .i64 0, .int .i64 0, .int .i64 0, .slice none 0 0, .slice none 0 0, .slice none 0 0] : List Value).toArray 29 (0, 0)), M_30, Mem.no, Mem.no] Z := hS
      replace hm : Fr 118 a [(6, p6_6), (7, p7_7), (8, .pointer (some ⟨g_2, 0, none⟩)), (16, .pointer (some ⟨g_4, 0, none⟩)), (17, .slice none 0 0), (19, .int .i64 t_36), (20, .slice none 0 0), (21, .slice none 0 0), (66, p0_2), (67, .int .i64 (x0.Need.length : Int)), (68, .int .i64 0)] := hm.keep [6, 7, 8, 16, 17, 19, 20, 21, 66, 67, 68]
      refine c_block ?_
      refine c_loop (fun k_129 a w_129 => ∃ (x_118 : List Int) (x_123 : List Int) (x_128 : Int) (v_121 : Value) (v_126 : Value) (N_117 : Mem) (M_119 : Mem) (M_124 : Mem), tokn_Pass.L2 K x0 x6 t_36 (fun v => tokn_Pass.J3 K x7 t_36 x0 x1 x3 x5 t_5 x_29 v.1 v.2) k_129 (x_118, x_123, x_128) = some r ∧ Fr 118 a [(6, p6_6), (7, p7_7), (8, .pointer (some ⟨g_2, 0, none⟩)), (16, .pointer (some ⟨g_4, 0, none⟩)), (17, .slice none 0 0), (19, .int .i64 t_36), (20, v_121), (21, v_126), (66, p0_2), (67, .int .i64 (x0.Need.length : Int)), (68, .int .i64 x_128)] ∧ Sep w0 w_129 [N_117, Mem.one g_2 (.cells ([.int .i64 x0.Kind, .int .i64 x1, .int .i64 x3, .int .i64 x0.View, .int .i64 x0.Inst, .int .i64 x0.Len, .bool x0.Has, .int .i64 x0.Members, .int .i64 x0.Source, .int .i64 x0.At, .int .i64 x0.Total, p0_0, .int .i64 (w64 (x0.Hop + 1)), .int .i64 (w64 (x0.Seq + (mn (mx x5 0) t_5))), v_32, p0_2, .int .i64 x0.Index, .int .i64 x0.Entry.Sess, .int .i64 x0.Entry.Seq, .int .i64 x0.Entry.Cmd.Kind, .int .i64 x0.Entry.Cmd.Who, p0_3, p0_4, p0_5] : List Value).toArray 29 (0, 0)), Mem.one g_4 (.cells ([.int .i64 0, .int .i64 0, .int .i64 0, .int .i64 0, .int .i64 0, .int .i64 0, .bool false, .int .i64 0, .int .i64 0, .int .i64 0, .int .i64 0, .slice none 0 0, .int .i64 0, .int .i64 0, .slice none 0 0, .slice none 0 0, .int .i64 0, .int .i64 0, .int .i64 0, .int .i64 0, .int .i64 0, .slice none 0 0, .slice none 0 0, .slice none 0 0] : List Value).toArray 29 (0, 0)), M_30, M_119, M_124] Z ∧ N_39.le N_117 ∧ Own (Kd.int .i64) 3 M_119 Mem.no v_121 x_118 ∧ Own (Kd.int .i64) 3 M_124 Mem.no v_126 x_123) K ⟨([] : List Int), ([] : List Int), 0, .slice none 0 0, .slice none 0 0, N_39, Mem.no, Mem.no, H, hm, (Sep.sel hS [0, 1, 2, 3, 4, 5] (by decide)), (Mem.le.refl _), (Own.nil (Kd.int .i64) 3 Mem.no), (Own.nil (Kd.int .i64) 3 Mem.no)⟩ (fun a w h => by obtain ⟨_, _, _, _, _, _, _, _, H, _⟩ := h; cases (show (none : Option (api_Msg × (List Int))) = some r from H)) ?_
      clear hm hS a H
      rintro k_129 a w_129 KL_129 hKL_129 ⟨x_118, x_123, x_128, v_121, v_126, N_117, M_119, M_124, H, hm, hS, le_117, ho_122, ho_127⟩
      replace H : tokn_Pass.B2 K x0 x6 t_36 (fun v => tokn_Pass.J3 K x7 t_36 x0 x1 x3 x5 t_5 x_29 v.1 v.2) (tokn_Pass.L2 K x0 x6 t_36 (fun v => tokn_Pass.J3 K x7 t_36 x0 x1 x3 x5 t_5 x_29 v.1 v.2) k_129) x_118 x_123 x_128 = some r := H
      unfold tokn_Pass.B2 at H
      refine wp_seq ?_
      refine wp_region_lit ?_
      refine s_cmp (b := decide (x_128 < (x0.Need.length : Int))) hm rfl rfl rfl (.inr (.inr (.inl ⟨rfl, rfl⟩))) ?_
      clear hm a; intro a hm
      refine wpList_nil ?_
      replace hm : Fr 118 a [(6, p6_6), (7, p7_7), (8, .pointer (some ⟨g_2, 0, none⟩)), (16, .pointer (some ⟨g_4, 0, none⟩)), (17, .slice none 0 0), (19, .int .i64 t_36), (20, v_121), (21, v_126), (66, p0_2), (67, .int .i64 (x0.Need.length : Int)), (68, .int .i64 x_128), (69, .bool (decide (x_128 < (x0.Need.length : Int))))] := hm.keep [6, 7, 8, 16, 17, 19, 20, 21, 66, 67, 68, 69]
      refine x_then_n ?_
      refine c_seq fun KJ_133 hKJ_133 => ?_
      by_cases hc_134 : x_128 < (x0.Need.length : Int)
      · rw [if_pos hc_134] at H
        refine c_cond_t hm rfl (decide_eq_true hc_134) ?_
        refine wp_skip ?_
        refine x_then_n (hKJ_133 _ _ ?_)
        refine c_seq fun KJ_135 hKJ_135 => ?_
        refine c_block ?_
        refine wp_seq ?_
        refine wp_region_lit ?_
        obtain ⟨t_136, et_136, H⟩ := Option.bind_eq_some_iff.1 H
        refine v_index hm rfl Try.underlying23 ti3 rfl rfl rfl hp0_2 (hA.trans hS.old) et_136 ?_
        intro ad_137 cs_138 hk_139 hc_140
        obtain rfl := (show cs_138 = [.int .i64 t_136] from hk_139)
        clear hm a; intro a hm
        refine s_load hm rfl rfl (el_one (o := 0) hc_140 Try.underlying3 rfl rfl) ?_
        clear hm a; intro a hm
        refine s_assign hm rfl rfl ?_
        clear hm a; intro a hm
        refine wpList_nil ?_
        replace hm : Fr 118 a [(6, p6_6), (7, p7_7), (8, .pointer (some ⟨g_2, 0, none⟩)), (16, .pointer (some ⟨g_4, 0, none⟩)), (17, .slice none 0 0), (19, .int .i64 t_36), (20, v_121), (21, v_126), (23, .int .i64 t_136), (66, p0_2), (67, .int .i64 (x0.Need.length : Int)), (68, .int .i64 x_128)] := hm.keep [6, 7, 8, 16, 17, 19, 20, 21, 23, 66, 67, 68]
        refine x_then_n ?_
        refine c_block ?_
        refine wp_seq ?_
        refine wp_region_lit ?_
        refine s_move hm rfl rfl ?_
        clear hm a; intro a hm
        refine s_move hm rfl rfl ?_
        clear hm a; intro a hm
        obtain ⟨t_141, et_141, H⟩ := Option.bind_eq_some_iff.1 H
        refine s_call hm rfl Try.call63 rfl (slices_Contains_sint_int.calls K x6 _ t_136 t_141 w0 _ _ _ (Mem.le.refl _) (hS.enter [] (by decide)) (hp6_6.mono (hA.trans (hS.le_zed []))) et_141) ?_
        rintro _ w_142 ⟨N_143, rfl, hS'⟩
        clear hm a; intro a hm
        obtain ⟨N_144, hS'', le_144, ln_144⟩ := hS.call [] (by decide) rfl (l' := []) (ow := []) rfl hS'
        replace hS : Sep w0 w_142 [N_144, Mem.one g_2 (.cells ([.int .i64 x0.Kind, .int .i64 x1, .int .i64 x3, .int .i64 x0.View, .int .i64 x0.Inst, .int .i64 x0.Len, .bool x0.Has, .int .i64 x0.Members, .int .i64 x0.Source, .int .i64 x0.At, .int .i64 x0.Total, p0_0, .int .i64 (w64 (x0.Hop + 1)), .int .i64 (w64 (x0.Seq + (mn (mx x5 0) t_5))), v_32, p0_2, .int .i64 x0.Index, .int .i64 x0.Entry.Sess, .int .i64 x0.Entry.Seq, .int .i64 x0.Entry.Cmd.Kind, .int .i64 x0.Entry.Cmd.Who, p0_3, p0_4, p0_5] : List Value).toArray 29 (0, 0)), Mem.one g_4 (.cells ([.int .i64 0, .int .i64 0, .int .i64 0, .int .i64 0, .int .i64 0, .int .i64 0, .bool false, .int .i64 0, .int .i64 0, .int .i64 0, .int .i64 0, .slice none 0 0, .int .i64 0, .int .i64 0, .slice none 0 0, .slice none 0 0, .int .i64 0, .int .i64 0, .int .i64 0, .int .i64 0, .int .i64 0, .slice none 0 0, .slice none 0 0, .slice none 0 0] : List Value).toArray 29 (0, 0)), M_30, M_119, M_124] Z := hS''
        clear hS' hS''
        refine s_assign hm rfl rfl ?_
        clear hm a; intro a hm
        refine wpList_nil ?_
        replace hm : Fr 118 a [(6, p6_6), (7, p7_7), (8, .pointer (some ⟨g_2, 0, none⟩)), (16, .pointer (some ⟨g_4, 0, none⟩)), (17, .slice none 0 0), (19, .int .i64 t_36), (20, v_121), (21, v_126), (23, .int .i64 t_136), (66, p0_2), (67, .int .i64 (x0.Need.length : Int)), (68, .int .i64 x_128), (72, .bool t_141)] := hm.keep [6, 7, 8, 16, 17, 19, 20, 21, 23, 66, 67, 68, 72]
        refine x_then_n ?_
        by_cases hc_145 : t_141 = true
        · rw [if_pos hc_145] at H
          refine c_cond_t hm rfl hc_145 ?_
          refine wp_region_lit ?_
          refine s_move hm rfl rfl ?_
          clear hm a; intro a hm
          refine s_move hm rfl rfl ?_
          clear hm a; intro a hm
          have hq_150 : Reps (Kd.int .i64) Mem.no ([t_136] : List Int) _ := ((Reps.one (d := (Kd.int .i64)) (x := t_136) (show (Kd.int .i64).K _ _ [.int .i64 t_136] from rfl)).append (Reps.nil (Kd.int .i64) _))
          refine s_buildSlice hm rfl Try.underlying23 ti3 rfl rfl rfl (.cons rfl .nil) rfl rfl rfl hS hq_150 rfl ?_
          intro w_146 v_147 M_148 hS' ho_149
          clear hm a; intro a hm
          replace hS : Sep w0 w_146 [N_144, Mem.one g_2 (.cells ([.int .i64 x0.Kind, .int .i64 x1, .int .i64 x3, .int .i64 x0.View, .int .i64 x0.Inst, .int .i64 x0.Len, .bool x0.Has, .int .i64 x0.Members, .int .i64 x0.Source, .int .i64 x0.At, .int .i64 x0.Total, p0_0, .int .i64 (w64 (x0.Hop + 1)), .int .i64 (w64 (x0.Seq + (mn (mx x5 0) t_5))), v_32, p0_2, .int .i64 x0.Index, .int .i64 x0.Entry.Sess, .int .i64 x0.Entry.Seq, .int .i64 x0.Entry.Cmd.Kind, .int .i64 x0.Entry.Cmd.Who, p0_3, p0_4, p0_5] : List Value).toArray 29 (0, 0)), Mem.one g_4 (.cells ([.int .i64 0, .int .i64 0, .int .i64 0, .int .i64 0, .int .i64 0, .int .i64 0, .bool false, .int .i64 0, .int .i64 0, .int .i64 0, .int .i64 0, .slice none 0 0, .int .i64 0, .int .i64 0, .slice none 0 0, .slice none 0 0, .int .i64 0, .int .i64 0, .int .i64 0, .int .i64 0, .int .i64 0, .slice none 0 0, .slice none 0 0, .slice none 0 0] : List Value).toArray 29 (0, 0)), M_30, M_119, M_124, M_148] Z := hS'
          clear hS' hq_150
          obtain ⟨t_152, et_152, H⟩ := Option.bind_eq_some_iff.1 H
          refine s_append (J := Mem.no) (I' := Mem.no) (p := 4) 17592186044416 hm rfl rfl rfl Try.underlying23 ti3 rfl rfl rfl rfl hS rfl ho_122 (Src.flat (flat_int .i64) (ho_149.src (hS.own 6))) (Mem.le.refl _) (Mem.le.refl _) et_152 ?_
          intro w_153 v_154 M_155 hS' ho_156
          clear hm a; intro a hm
          replace hS : Sep w0 w_153 [N_144, Mem.one g_2 (.cells ([.int .i64 x0.Kind, .int .i64 x1, .int .i64 x3, .int .i64 x0.View, .int .i64 x0.Inst, .int .i64 x0.Len, .bool x0.Has, .int .i64 x0.Members, .int .i64 x0.Source, .int .i64 x0.At, .int .i64 x0.Total, p0_0, .int .i64 (w64 (x0.Hop + 1)), .int .i64 (w64 (x0.Seq + (mn (mx x5 0) t_5))), v_32, p0_2, .int .i64 x0.Index, .int .i64 x0.Entry.Sess, .int .i64 x0.Entry.Seq, .int .i64 x0.Entry.Cmd.Kind, .int .i64 x0.Entry.Cmd.Who, p0_3, p0_4, p0_5] : List Value).toArray 29 (0, 0)), Mem.one g_4 (.cells ([.int .i64 0, .int .i64 0, .int .i64 0, .int .i64 0, .int .i64 0, .int .i64 0, .bool false, .int .i64 0, .int .i64 0, .int .i64 0, .int .i64 0, .slice none 0 0, .int .i64 0, .int .i64 0, .slice none 0 0, .slice none 0 0, .int .i64 0, .int .i64 0, .int .i64 0, .int .i64 0, .int .i64 0, .slice none 0 0, .slice none 0 0, .slice none 0 0] : List Value).toArray 29 (0, 0)), M_30, M_155, M_124, M_148] Z := hS'
          clear hS'
          refine s_assign hm rfl rfl ?_
          clear hm a; intro a hm
          refine wpList_nil ?_
          replace hm : Fr 118 a [(6, p6_6), (7, p7_7), (8, .pointer (some ⟨g_2, 0, none⟩)), (16, .pointer (some ⟨g_4, 0, none⟩)), (17, .slice none 0 0), (19, .int .i64 t_36), (20, v_154), (21, v_126), (66, p0_2), (67, .int .i64 (x0.Need.length : Int)), (68, .int .i64 x_128)] := hm.keep [6, 7, 8, 16, 17, 19, 20, 21, 66, 67, 68]
          refine x_block_n ?_
          refine x_block_n ?_
          refine x_then_n (hKJ_135 _ _ ?_)
          refine wp_region_lit ?_
          refine s_arith (r := w64 (x_128 + 1)) hm rfl rfl rfl (.inl ⟨rfl, rfl⟩) ?_
          clear hm a; intro a hm
          refine s_move hm rfl rfl ?_
          clear hm a; intro a hm
          refine wpList_nil ?_
          replace hm : Fr 118 a [(6, p6_6), (7, p7_7), (8, .pointer (some ⟨g_2, 0, none⟩)), (16, .pointer (some ⟨g_4, 0, none⟩)), (17, .slice none 0 0), (19, .int .i64 t_36), (20, v_154), (21, v_126), (66, p0_2), (67, .int .i64 (x0.Need.length : Int)), (68, .int .i64 (w64 (x_128 + 1)))] := hm.keep [6, 7, 8, 16, 17, 19, 20, 21, 66, 67, 68]
          refine x_then_n (hKL_129 _ _ ?_)
          replace hS : Sep w0 w_153 [N_144, Mem.one g_2 (.cells ([.int .i64 x0.Kind, .int .i64 x1, .int .i64 x3, .int .i64 x0.View, .int .i64 x0.Inst, .int .i64 x0.Len, .bool x0.Has, .int .i64 x0.Members, .int .i64 x0.Source, .int .i64 x0.At, .int .i64 x0.Total, p0_0, .int .i64 (w64 (x0.Hop + 1)), .int .i64 (w64 (x0.Seq + (mn (mx x5 0) t_5))), v_32, p0_2, .int .i64 x0.Index, .int .i64 x0.Entry.Sess, .int .i64 x0.Entry.Seq, .int .i64 x0.Entry.Cmd.Kind, .int .i64 x0.Entry.Cmd.Who, p0_3, p0_4, p0_5] : List Value).toArray 29 (0, 0)), Mem.one g_4 (.cells ([.int .i64 0, .int .i64 0, .int .i64 0, .int .i64 0, .int .i64 0, .int .i64 0, .bool false, .int .i64 0, .int .i64 0, .int .i64 0, .int .i64 0, .slice none 0 0, .int .i64 0, .int .i64 0, .slice none 0 0, .slice none 0 0, .int .i64 0, .int .i64 0, .int .i64 0, .int .i64 0, .int .i64 0, .slice none 0 0, .slice none 0 0, .slice none 0 0] : List Value).toArray 29 (0, 0)), M_30, M_155, M_124, M_148] Z := hS
          replace hm : Fr 118 a [(6, p6_6), (7, p7_7), (8, .pointer (some ⟨g_2, 0, none⟩)), (16, .pointer (some ⟨g_4, 0, none⟩)), (17, .slice none 0 0), (19, .int .i64 t_36), (20, v_154), (21, v_126), (66, p0_2), (67, .int .i64 (x0.Need.length : Int)), (68, .int .i64 (w64 (x_128 + 1)))] := hm.keep [6, 7, 8, 16, 17, 19, 20, 21, 66, 67, 68]
          exact ⟨t_152, x_123, w64 (x_128 + 1), v_154, v_126, N_144, M_155, M_124, H, hm, (Sep.sel hS [0, 1, 2, 3, 4, 5] (by decide)), (le_117.trans le_144), ho_156, ho_127⟩
        · rw [if_neg hc_145] at H
          refine c_cond_f hm rfl (Bool.eq_false_iff.2 hc_145) ?_
          refine wp_seq ?_
          refine wp_region_lit ?_
          refine s_move hm rfl rfl ?_
          clear hm a; intro a hm
          refine s_move hm rfl rfl ?_
          clear hm a; intro a hm
          refine s_cmp (b := decide (t_136 > t_36)) hm rfl rfl rfl (.inr (.inr (.inr (.inr (.inl ⟨rfl, rfl⟩))))) ?_
          clear hm a; intro a hm
          refine s_assign hm rfl rfl ?_
          clear hm a; intro a hm
          refine wpList_nil ?_
          replace hm : Fr 118 a [(6, p6_6), (7, p7_7), (8, .pointer (some ⟨g_2, 0, none⟩)), (16, .pointer (some ⟨g_4, 0, none⟩)), (17, .slice none 0 0), (19, .int .i64 t_36), (20, v_121), (21, v_126), (23, .int .i64 t_136), (66, p0_2), (67, .int .i64 (x0.Need.length : Int)), (68, .int .i64 x_128), (80, .bool (decide (t_136 > t_36)))] := hm.keep [6, 7, 8, 16, 17, 19, 20, 21, 23, 66, 67, 68, 80]
          refine x_then_n ?_
          by_cases hc_158 : t_136 > t_36
          · rw [if_pos hc_158] at H
            refine c_cond_t hm rfl (decide_eq_true hc_158) ?_
            refine wp_region_lit ?_
            refine s_move hm rfl rfl ?_
            clear hm a; intro a hm
            refine s_move hm rfl rfl ?_
            clear hm a; intro a hm
            have hq_163 : Reps (Kd.int .i64) Mem.no ([t_136] : List Int) _ := ((Reps.one (d := (Kd.int .i64)) (x := t_136) (show (Kd.int .i64).K _ _ [.int .i64 t_136] from rfl)).append (Reps.nil (Kd.int .i64) _))
            refine s_buildSlice hm rfl Try.underlying23 ti3 rfl rfl rfl (.cons rfl .nil) rfl rfl rfl hS hq_163 rfl ?_
            intro w_159 v_160 M_161 hS' ho_162
            clear hm a; intro a hm
            replace hS : Sep w0 w_159 [N_144, Mem.one g_2 (.cells ([.int .i64 x0.Kind, .int .i64 x1, .int .i64 x3, .int .i64 x0.View, .int .i64 x0.Inst, .int .i64 x0.Len, .bool x0.Has, .int .i64 x0.Members, .int .i64 x0.Source, .int .i64 x0.At, .int .i64 x0.Total, p0_0, .int .i64 (w64 (x0.Hop + 1)), .int .i64 (w64 (x0.Seq + (mn (mx x5 0) t_5))), v_32, p0_2, .int .i64 x0.Index, .int .i64 x0.Entry.Sess, .int .i64 x0.Entry.Seq, .int .i64 x0.Entry.Cmd.Kind, .int .i64 x0.Entry.Cmd.Who, p0_3, p0_4, p0_5] : List Value).toArray 29 (0, 0)), Mem.one g_4 (.cells ([.int .i64 0, .int .i64 0, .int .i64 0, .int .i64 0, .int .i64 0, .int .i64 0, .bool false, .int .i64 0, .int .i64 0, .int .i64 0, .int .i64 0, .slice none 0 0, .int .i64 0, .int .i64 0, .slice none 0 0, .slice none 0 0, .int .i64 0, .int .i64 0, .int .i64 0, .int .i64 0, .int .i64 0, .slice none 0 0, .slice none 0 0, .slice none 0 0] : List Value).toArray 29 (0, 0)), M_30, M_119, M_124, M_161] Z := hS'
            clear hS' hq_163
            obtain ⟨t_165, et_165, H⟩ := Option.bind_eq_some_iff.1 H
            refine s_append (J := Mem.no) (I' := Mem.no) (p := 5) 17592186044416 hm rfl rfl rfl Try.underlying23 ti3 rfl rfl rfl rfl hS rfl ho_127 (Src.flat (flat_int .i64) (ho_162.src (hS.own 6))) (Mem.le.refl _) (Mem.le.refl _) et_165 ?_
            intro w_166 v_167 M_168 hS' ho_169
            clear hm a; intro a hm
            replace hS : Sep w0 w_166 [N_144, Mem.one g_2 (.cells ([.int .i64 x0.Kind, .int .i64 x1, .int .i64 x3, .int .i64 x0.View, .int .i64 x0.Inst, .int .i64 x0.Len, .bool x0.Has, .int .i64 x0.Members, .int .i64 x0.Source, .int .i64 x0.At, .int .i64 x0.Total, p0_0, .int .i64 (w64 (x0.Hop + 1)), .int .i64 (w64 (x0.Seq + (mn (mx x5 0) t_5))), v_32, p0_2, .int .i64 x0.Index, .int .i64 x0.Entry.Sess, .int .i64 x0.Entry.Seq, .int .i64 x0.Entry.Cmd.Kind, .int .i64 x0.Entry.Cmd.Who, p0_3, p0_4, p0_5] : List Value).toArray 29 (0, 0)), Mem.one g_4 (.cells ([.int .i64 0, .int .i64 0, .int .i64 0, .int .i64 0, .int .i64 0, .int .i64 0, .bool false, .int .i64 0, .int .i64 0, .int .i64 0, .int .i64 0, .slice none 0 0, .int .i64 0, .int .i64 0, .slice none 0 0, .slice none 0 0, .int .i64 0, .int .i64 0, .int .i64 0, .int .i64 0, .int .i64 0, .slice none 0 0, .slice none 0 0, .slice none 0 0] : List Value).toArray 29 (0, 0)), M_30, M_119, M_168, M_161] Z := hS'
            clear hS'
            refine s_assign hm rfl rfl ?_
            clear hm a; intro a hm
            refine wpList_nil ?_
            replace hm : Fr 118 a [(6, p6_6), (7, p7_7), (8, .pointer (some ⟨g_2, 0, none⟩)), (16, .pointer (some ⟨g_4, 0, none⟩)), (17, .slice none 0 0), (19, .int .i64 t_36), (20, v_121), (21, v_167), (66, p0_2), (67, .int .i64 (x0.Need.length : Int)), (68, .int .i64 x_128)] := hm.keep [6, 7, 8, 16, 17, 19, 20, 21, 66, 67, 68]
            refine x_block_n ?_
            refine x_block_n ?_
            refine x_then_n (hKJ_135 _ _ ?_)
            refine wp_region_lit ?_
            refine s_arith (r := w64 (x_128 + 1)) hm rfl rfl rfl (.inl ⟨rfl, rfl⟩) ?_
            clear hm a; intro a hm
            refine s_move hm rfl rfl ?_
            clear hm a; intro a hm
            refine wpList_nil ?_
            replace hm : Fr 118 a [(6, p6_6), (7, p7_7), (8, .pointer (some ⟨g_2, 0, none⟩)), (16, .pointer (some ⟨g_4, 0, none⟩)), (17, .slice none 0 0), (19, .int .i64 t_36), (20, v_121), (21, v_167), (66, p0_2), (67, .int .i64 (x0.Need.length : Int)), (68, .int .i64 (w64 (x_128 + 1)))] := hm.keep [6, 7, 8, 16, 17, 19, 20, 21, 66, 67, 68]
            refine x_then_n (hKL_129 _ _ ?_)
            replace hS : Sep w0 w_166 [N_144, Mem.one g_2 (.cells ([.int .i64 x0.Kind, .int .i64 x1, .int .i64 x3, .int .i64 x0.View, .int .i64 x0.Inst, .int .i64 x0.Len, .bool x0.Has, .int .i64 x0.Members, .int .i64 x0.Source, .int .i64 x0.At, .int .i64 x0.Total, p0_0, .int .i64 (w64 (x0.Hop + 1)), .int .i64 (w64 (x0.Seq + (mn (mx x5 0) t_5))), v_32, p0_2, .int .i64 x0.Index, .int .i64 x0.Entry.Sess, .int .i64 x0.Entry.Seq, .int .i64 x0.Entry.Cmd.Kind, .int .i64 x0.Entry.Cmd.Who, p0_3, p0_4, p0_5] : List Value).toArray 29 (0, 0)), Mem.one g_4 (.cells ([.int .i64 0, .int .i64 0, .int .i64 0, .int .i64 0, .int .i64 0, .int .i64 0, .bool false, .int .i64 0, .int .i64 0, .int .i64 0, .int .i64 0, .slice none 0 0, .int .i64 0, .int .i64 0, .slice none 0 0, .slice none 0 0, .int .i64 0, .int .i64 0, .int .i64 0, .int .i64 0, .int .i64 0, .slice none 0 0, .slice none 0 0, .slice none 0 0] : List Value).toArray 29 (0, 0)), M_30, M_119, M_168, M_161] Z := hS
            replace hm : Fr 118 a [(6, p6_6), (7, p7_7), (8, .pointer (some ⟨g_2, 0, none⟩)), (16, .pointer (some ⟨g_4, 0, none⟩)), (17, .slice none 0 0), (19, .int .i64 t_36), (20, v_121), (21, v_167), (66, p0_2), (67, .int .i64 (x0.Need.length : Int)), (68, .int .i64 (w64 (x_128 + 1)))] := hm.keep [6, 7, 8, 16, 17, 19, 20, 21, 66, 67, 68]
            exact ⟨x_118, t_165, w64 (x_128 + 1), v_121, v_167, N_144, M_119, M_168, H, hm, (Sep.sel hS [0, 1, 2, 3, 4, 5] (by decide)), (le_117.trans le_144), ho_122, ho_169⟩
          · rw [if_neg hc_158] at H
            refine c_cond_f hm rfl (decide_eq_false hc_158) ?_
            refine wp_skip ?_
            refine x_block_n ?_
            refine x_block_n ?_
            refine x_then_n (hKJ_135 _ _ ?_)
            refine wp_region_lit ?_
            refine s_arith (r := w64 (x_128 + 1)) hm rfl rfl rfl (.inl ⟨rfl, rfl⟩) ?_
            clear hm a; intro a hm
            refine s_move hm rfl rfl ?_
            clear hm a; intro a hm
            refine wpList_nil ?_
            replace hm : Fr 118 a [(6, p6_6), (7, p7_7), (8, .pointer (some ⟨g_2, 0, none⟩)), (16, .pointer (some ⟨g_4, 0, none⟩)), (17, .slice none 0 0), (19, .int .i64 t_36), (20, v_121), (21, v_126), (66, p0_2), (67, .int .i64 (x0.Need.length : Int)), (68, .int .i64 (w64 (x_128 + 1)))] := hm.keep [6, 7, 8, 16, 17, 19, 20, 21, 66, 67, 68]
            refine x_then_n (hKL_129 _ _ ?_)
            replace hS : Sep w0 w_142 [N_144, Mem.one g_2 (.cells ([.int .i64 x0.Kind, .int .i64 x1, .int .i64 x3, .int .i64 x0.View, .int .i64 x0.Inst, .int .i64 x0.Len, .bool x0.Has, .int .i64 x0.Members, .int .i64 x0.Source, .int .i64 x0.At, .int .i64 x0.Total, p0_0, .int .i64 (w64 (x0.Hop + 1)), .int .i64 (w64 (x0.Seq + (mn (mx x5 0) t_5))), v_32, p0_2, .int .i64 x0.Index, .int .i64 x0.Entry.Sess, .int .i64 x0.Entry.Seq, .int .i64 x0.Entry.Cmd.Kind, .int .i64 x0.Entry.Cmd.Who, p0_3, p0_4, p0_5] : List Value).toArray 29 (0, 0)), Mem.one g_4 (.cells ([.int .i64 0, .int .i64 0, .int .i64 0, .int .i64 0, .int .i64 0, .int .i64 0, .bool false, .int .i64 0, .int .i64 0, .int .i64 0, .int .i64 0, .slice none 0 0, .int .i64 0, .int .i64 0, .slice none 0 0, .slice none 0 0, .int .i64 0, .int .i64 0, .int .i64 0, .int .i64 0, .int .i64 0, .slice none 0 0, .slice none 0 0, .slice none 0 0] : List Value).toArray 29 (0, 0)), M_30, M_119, M_124] Z := hS
            replace hm : Fr 118 a [(6, p6_6), (7, p7_7), (8, .pointer (some ⟨g_2, 0, none⟩)), (16, .pointer (some ⟨g_4, 0, none⟩)), (17, .slice none 0 0), (19, .int .i64 t_36), (20, v_121), (21, v_126), (66, p0_2), (67, .int .i64 (x0.Need.length : Int)), (68, .int .i64 (w64 (x_128 + 1)))] := hm.keep [6, 7, 8, 16, 17, 19, 20, 21, 66, 67, 68]
            exact ⟨x_118, x_123, w64 (x_128 + 1), v_121, v_126, N_144, M_119, M_124, H, hm, (Sep.sel hS [0, 1, 2, 3, 4, 5] (by decide)), (le_117.trans le_144), ho_122, ho_127⟩
      · rw [if_neg hc_134] at H
        refine c_cond_f hm rfl (decide_eq_false hc_134) ?_
        refine wp_exit (x_then_x (x_then_x (x_block_t ?_)))
        replace hS : Sep w0 w_129 [N_117, Mem.one g_2 (.cells ([.int .i64 x0.Kind, .int .i64 x1, .int .i64 x3, .int .i64 x0.View, .int .i64 x0.Inst, .int .i64 x0.Len, .bool x0.Has, .int .i64 x0.Members, .int .i64 x0.Source, .int .i64 x0.At, .int .i64 x0.Total, p0_0, .int .i64 (w64 (x0.Hop + 1)), .int .i64 (w64 (x0.Seq + (mn (mx x5 0) t_5))), v_32, p0_2, .int .i64 x0.Index, .int .i64 x0.Entry.Sess, .int .i64 x0.Entry.Seq, .int .i64 x0.Entry.Cmd.Kind, .int .i64 x0.Entry.Cmd.Who, p0_3, p0_4, p0_5] : List Value).toArray 29 (0, 0)), Mem.one g_4 (.cells ([.int .i64 0, .int .i64 0, .int .i64 0, .int .i64 0, .int .i64 0, .int .i64 0, .bool false, .int .i64 0, .int .i64 0, .int .i64 0, .int .i64 0, .slice none 0 0, .int .i64 0, .int .i64 0, .slice none 0 0, .slice none 0 0, .int .i64 0, .int .i64 0, .int .i64 0, .int .i64 0, .int .i64 0, .slice none 0 0, .slice none 0 0, .slice none 0 0] : List Value).toArray 29 (0, 0)), M_30, M_119, M_124] Z := hS
        replace hm : Fr 118 a [(7, p7_7), (8, .pointer (some ⟨g_2, 0, none⟩)), (16, .pointer (some ⟨g_4, 0, none⟩)), (17, .slice none 0 0), (19, .int .i64 t_36), (20, v_121), (21, v_126)] := hm.keep [7, 8, 16, 17, 19, 20, 21]
        exact x_then_n (hJ_j_53 x_118 x_123 H _ _ ⟨v_121, v_126, N_117, M_119, M_124, hm, (Sep.sel hS [0, 1, 2, 3, 4, 5] (by decide)), le_117, ho_122, ho_127⟩)
    clear hKJ_22
    by_cases hc_171 : x_25 = true
    · rw [if_pos hc_171] at H
      refine c_cond_t hm rfl hc_171 ?_
      refine wp_region_lit ?_
      refine s_fieldAddr hm rfl Try.underlying29 rfl ti23 rfl rfl ?_
      clear hm a; intro a hm
      refine s_load hm rfl rfl (hS.load_one (p := 1) rfl Try.underlying23 rfl rfl) ?_
      clear hm a; intro a hm
      refine s_move hm rfl rfl ?_
      clear hm a; intro a hm
      refine s_move hm rfl rfl ?_
      clear hm a; intro a hm
      obtain ⟨t_172, et_172, H⟩ := Option.bind_eq_some_iff.1 H
      refine s_indexOwn hm rfl Try.underlying23 ti3 rfl rfl rfl hr_18 et_172 ?_
      intro g_173 cur_174 hM_175
      clear hm a; intro a hm
      obtain ⟨w_176, M_177, hs', hS', ho_178⟩ := Own.stored (P := Try.prog) (p := 3) (t := 3) (o := 0) (nv := .int .i64 x4) (vs := [.int .i64 x4]) (u' := x4) hS rfl hr_18 hM_175 et_172 ti3 rfl rfl rfl (by intro u hu; simp only [List.mem_cons, List.not_mem_nil, or_false] at hu; rcases hu with rfl <;> rfl) (fun cs hk => by obtain rfl := (show cs = [_] from hk); rfl)
      refine s_store hm rfl rfl hs' ?_
      replace hS : Sep w0 w_176 [N_24, Mem.one g_2 (.cells ([.int .i64 x0.Kind, .int .i64 x1, .int .i64 x3, .int .i64 x0.View, .int .i64 x0.Inst, .int .i64 x0.Len, .bool x0.Has, .int .i64 x0.Members, .int .i64 x0.Source, .int .i64 x0.At, .int .i64 x0.Total, p0_0, .int .i64 (w64 (x0.Hop + 1)), .int .i64 (w64 (x0.Seq + (mn (mx x5 0) t_5))), v_17, p0_2, .int .i64 x0.Index, .int .i64 x0.Entry.Sess, .int .i64 x0.Entry.Seq, .int .i64 x0.Entry.Cmd.Kind, .int .i64 x0.Entry.Cmd.Who, p0_3, p0_4, p0_5] : List Value).toArray 29 (0, 0)), Mem.one g_4 (.cells ([.int .i64 0, .int .i64 0, .int .i64 0, .int .i64 0, .int .i64 0, .int .i64 0, .bool false, .int .i64 0, .int .i64 0, .int .i64 0, .int .i64 0, .slice none 0 0, .int .i64 0, .int .i64 0, .slice none 0 0, .slice none 0 0, .int .i64 0, .int .i64 0, .int .i64 0, .int .i64 0, .int .i64 0, .slice none 0 0, .slice none 0 0, .slice none 0 0] : List Value).toArray 29 (0, 0)), M_177] Z := hS'
      clear hs' hS'
      refine wpList_nil ?_
      replace hm : Fr 118 a [(6, p6_6), (7, p7_7), (8, .pointer (some ⟨g_2, 0, none⟩)), (16, .pointer (some ⟨g_4, 0, none⟩)), (17, .slice none 0 0), (18, p0_2)] := hm.keep [6, 7, 8, 16, 17, 18]
      replace hS : Sep w0 w_176 [N_24, Mem.one g_2 (.cells ([.int .i64 x0.Kind, .int .i64 x1, .int .i64 x3, .int .i64 x0.View, .int .i64 x0.Inst, .int .i64 x0.Len, .bool x0.Has, .int .i64 x0.Members, .int .i64 x0.Source, .int .i64 x0.At, .int .i64 x0.Total, p0_0, .int .i64 (w64 (x0.Hop + 1)), .int .i64 (w64 (x0.Seq + (mn (mx x5 0) t_5))), v_17, p0_2, .int .i64 x0.Index, .int .i64 x0.Entry.Sess, .int .i64 x0.Entry.Seq, .int .i64 x0.Entry.Cmd.Kind, .int .i64 x0.Entry.Cmd.Who, p0_3, p0_4, p0_5] : List Value).toArray 29 (0, 0)), Mem.one g_4 (.cells ([.int .i64 0, .int .i64 0, .int .i64 0, .int .i64 0, .int .i64 0, .int .i64 0, .bool false, .int .i64 0, .int .i64 0, .int .i64 0, .int .i64 0, .slice none 0 0, .int .i64 0, .int .i64 0, .slice none 0 0, .slice none 0 0, .int .i64 0, .int .i64 0, .int .i64 0, .int .i64 0, .int .i64 0, .slice none 0 0, .slice none 0 0, .slice none 0 0] : List Value).toArray 29 (0, 0)), M_177] Z := hS
      replace hm : Fr 118 a [(6, p6_6), (7, p7_7), (8, .pointer (some ⟨g_2, 0, none⟩)), (16, .pointer (some ⟨g_4, 0, none⟩)), (17, .slice none 0 0), (18, p0_2)] := hm.keep [6, 7, 8, 16, 17, 18]
      exact x_then_n (hJ_j_35 (t_13.set (x2).toNat x4) H _ _ ⟨v_17, N_24, M_177, hm, (Sep.sel hS [0, 1, 2, 3] (by decide)), (Mem.le.refl _), ho_178⟩)
    · rw [if_neg hc_171] at H
      refine c_cond_f hm rfl (Bool.eq_false_iff.2 hc_171) ?_
      refine wp_skip ?_
      replace hS : Sep w0 w_26 [N_24, Mem.one g_2 (.cells ([.int .i64 x0.Kind, .int .i64 x1, .int .i64 x3, .int .i64 x0.View, .int .i64 x0.Inst, .int .i64 x0.Len, .bool x0.Has, .int .i64 x0.Members, .int .i64 x0.Source, .int .i64 x0.At, .int .i64 x0.Total, p0_0, .int .i64 (w64 (x0.Hop + 1)), .int .i64 (w64 (x0.Seq + (mn (mx x5 0) t_5))), v_17, p0_2, .int .i64 x0.Index, .int .i64 x0.Entry.Sess, .int .i64 x0.Entry.Seq, .int .i64 x0.Entry.Cmd.Kind, .int .i64 x0.Entry.Cmd.Who, p0_3, p0_4, p0_5] : List Value).toArray 29 (0, 0)), Mem.one g_4 (.cells ([.int .i64 0, .int .i64 0, .int .i64 0, .int .i64 0, .int .i64 0, .int .i64 0, .bool false, .int .i64 0, .int .i64 0, .int .i64 0, .int .i64 0, .slice none 0 0, .int .i64 0, .int .i64 0, .slice none 0 0, .slice none 0 0, .int .i64 0, .int .i64 0, .int .i64 0, .int .i64 0, .int .i64 0, .slice none 0 0, .slice none 0 0, .slice none 0 0] : List Value).toArray 29 (0, 0)), M_19] Z := hS
      replace hm : Fr 118 a [(6, p6_6), (7, p7_7), (8, .pointer (some ⟨g_2, 0, none⟩)), (16, .pointer (some ⟨g_4, 0, none⟩)), (17, .slice none 0 0), (18, p0_2)] := hm.keep [6, 7, 8, 16, 17, 18]
      exact x_then_n (hJ_j_35 t_13 H _ _ ⟨v_17, N_24, M_19, hm, (Sep.sel hS [0, 1, 2, 3] (by decide)), (Mem.le.refl _), hr_18⟩)
  clear hKJ_23
  refine wp_region_lit ?_
  refine s_move hm rfl rfl ?_
  clear hm a; intro a hm
  refine s_cmp (b := decide (x2 ≥ 0)) hm rfl rfl rfl (.inr (.inr (.inr (.inr (.inr ⟨rfl, rfl⟩))))) ?_
  clear hm a; intro a hm
  refine s_move hm rfl rfl ?_
  clear hm a; intro a hm
  by_cases hc_179 : x2 ≥ 0
  · rw [if_pos hc_179] at H
    refine s_on hm rfl rfl (decide_eq_true hc_179) ?_
    refine s_move hm rfl rfl ?_
    clear hm a; intro a hm
    refine s_on hm rfl rfl (decide_eq_true hc_179) ?_
    refine s_fieldAddr hm rfl Try.underlying29 rfl ti23 rfl rfl ?_
    clear hm a; intro a hm
    refine s_on hm rfl rfl (decide_eq_true hc_179) ?_
    refine s_load hm rfl rfl (hS.load_one (p := 1) rfl Try.underlying23 rfl rfl) ?_
    clear hm a; intro a hm
    refine s_on hm rfl rfl (decide_eq_true hc_179) ?_
    refine s_lenO hm rfl Try.underlying23 rfl hr_18 ?_
    clear hm a; intro a hm
    refine s_on hm rfl rfl (decide_eq_true hc_179) ?_
    refine s_cmp (b := decide (x2 < (t_13.length : Int))) hm rfl rfl rfl (.inr (.inr (.inl ⟨rfl, rfl⟩))) ?_
    clear hm a; intro a hm
    refine s_pick_t hm rfl rfl (decide_eq_true hc_179) rfl ?_
    clear hm a; intro a hm
    refine wpList_nil ?_
    replace hm : Fr 118 a [(2, .int .i64 x2), (4, .int .i64 x4), (6, p6_6), (7, p7_7), (8, .pointer (some ⟨g_2, 0, none⟩)), (16, .pointer (some ⟨g_4, 0, none⟩)), (17, .slice none 0 0), (18, p0_2), (58, .bool (decide (x2 < (t_13.length : Int))))] := hm.keep [2, 4, 6, 7, 8, 16, 17, 18, 58]
    replace hS : Sep w0 w_21 [N_16, Mem.one g_2 (.cells ([.int .i64 x0.Kind, .int .i64 x1, .int .i64 x3, .int .i64 x0.View, .int .i64 x0.Inst, .int .i64 x0.Len, .bool x0.Has, .int .i64 x0.Members, .int .i64 x0.Source, .int .i64 x0.At, .int .i64 x0.Total, p0_0, .int .i64 (w64 (x0.Hop + 1)), .int .i64 (w64 (x0.Seq + (mn (mx x5 0) t_5))), v_17, p0_2, .int .i64 x0.Index, .int .i64 x0.Entry.Sess, .int .i64 x0.Entry.Seq, .int .i64 x0.Entry.Cmd.Kind, .int .i64 x0.Entry.Cmd.Who, p0_3, p0_4, p0_5] : List Value).toArray 29 (0, 0)), Mem.one g_4 (.cells ([.int .i64 0, .int .i64 0, .int .i64 0, .int .i64 0, .int .i64 0, .int .i64 0, .bool false, .int .i64 0, .int .i64 0, .int .i64 0, .int .i64 0, .slice none 0 0, .int .i64 0, .int .i64 0, .slice none 0 0, .slice none 0 0, .int .i64 0, .int .i64 0, .int .i64 0, .int .i64 0, .int .i64 0, .slice none 0 0, .slice none 0 0, .slice none 0 0] : List Value).toArray 29 (0, 0)), M_19] Z := hS
    replace hm : Fr 118 a [(2, .int .i64 x2), (4, .int .i64 x4), (6, p6_6), (7, p7_7), (8, .pointer (some ⟨g_2, 0, none⟩)), (16, .pointer (some ⟨g_4, 0, none⟩)), (17, .slice none 0 0), (18, p0_2), (58, .bool (decide (x2 < (t_13.length : Int))))] := hm.keep [2, 4, 6, 7, 8, 16, 17, 18, 58]
    exact x_then_n (hJ_j_27 (decide (x2 < (t_13.length : Int))) H _ _ ⟨N_16, hm, (Sep.sel hS [0, 1, 2, 3] (by decide)), (Mem.le.refl _)⟩)
  · rw [if_neg hc_179] at H
    refine s_off hm rfl rfl rfl (decide_eq_false hc_179) ?_
    clear hm a; intro a hm
    refine s_off hm rfl rfl rfl (decide_eq_false hc_179) ?_
    clear hm a; intro a hm
    refine s_off hm rfl rfl rfl (decide_eq_false hc_179) ?_
    clear hm a; intro a hm
    refine s_off hm rfl rfl rfl (decide_eq_false hc_179) ?_
    clear hm a; intro a hm
    refine s_off hm rfl rfl rfl (decide_eq_false hc_179) ?_
    clear hm a; intro a hm
    refine s_pick_f hm rfl rfl (decide_eq_false hc_179) rfl ?_
    clear hm a; intro a hm
    refine wpList_nil ?_
    replace hm : Fr 118 a [(2, .int .i64 x2), (4, .int .i64 x4), (6, p6_6), (7, p7_7), (8, .pointer (some ⟨g_2, 0, none⟩)), (16, .pointer (some ⟨g_4, 0, none⟩)), (17, .slice none 0 0), (18, p0_2), (58, .bool false)] := hm.keep [2, 4, 6, 7, 8, 16, 17, 18, 58]
    replace hS : Sep w0 w_21 [N_16, Mem.one g_2 (.cells ([.int .i64 x0.Kind, .int .i64 x1, .int .i64 x3, .int .i64 x0.View, .int .i64 x0.Inst, .int .i64 x0.Len, .bool x0.Has, .int .i64 x0.Members, .int .i64 x0.Source, .int .i64 x0.At, .int .i64 x0.Total, p0_0, .int .i64 (w64 (x0.Hop + 1)), .int .i64 (w64 (x0.Seq + (mn (mx x5 0) t_5))), v_17, p0_2, .int .i64 x0.Index, .int .i64 x0.Entry.Sess, .int .i64 x0.Entry.Seq, .int .i64 x0.Entry.Cmd.Kind, .int .i64 x0.Entry.Cmd.Who, p0_3, p0_4, p0_5] : List Value).toArray 29 (0, 0)), Mem.one g_4 (.cells ([.int .i64 0, .int .i64 0, .int .i64 0, .int .i64 0, .int .i64 0, .int .i64 0, .bool false, .int .i64 0, .int .i64 0, .int .i64 0, .int .i64 0, .slice none 0 0, .int .i64 0, .int .i64 0, .slice none 0 0, .slice none 0 0, .int .i64 0, .int .i64 0, .int .i64 0, .int .i64 0, .int .i64 0, .slice none 0 0, .slice none 0 0, .slice none 0 0] : List Value).toArray 29 (0, 0)), M_19] Z := hS
    replace hm : Fr 118 a [(2, .int .i64 x2), (4, .int .i64 x4), (6, p6_6), (7, p7_7), (8, .pointer (some ⟨g_2, 0, none⟩)), (16, .pointer (some ⟨g_4, 0, none⟩)), (17, .slice none 0 0), (18, p0_2), (58, .bool false)] := hm.keep [2, 4, 6, 7, 8, 16, 17, 18, 58]
    exact x_then_n (hJ_j_27 false H _ _ ⟨N_16, hm, (Sep.sel hS [0, 1, 2, 3] (by decide)), (Mem.le.refl _)⟩)

set_option maxHeartbeats 4000000 in
set_option maxRecDepth 20000 in
theorem bits_Mul64.calls (x0 : Int) (x1 : Int) (r : Int × Int) (w0 w : World) (Z A : Mem) (hA : A.le Z) (hS : Sep w0 w [] Z)
    (H : bits_Mul64.f x0 x1 = some r) :
    Calls Try.prog 79 [.int .u64 x0, .int .u64 x1].toArray w (Ret fun v w' => ∃ (N : Mem), v = .tuple [.int .u64 r.1, .int .u64 r.2].toArray ∧ Sep w0 w' [N] Z) := by
  unfold bits_Mul64.f at H
  refine f_enter _ Try.func79 rfl Try.ntmps79 rfl fun a hm => ?_
  replace hm : Fr 51 a [(0, .int .u64 x0), (1, .int .u64 x1)] := hm
  replace hS := hS.start
  replace hS : Sep w0 w [Mem.no] Z := hS
  refine wp_seq ?_
  refine wp_region_lit ?_
  refine s_assign hm rfl rfl ?_
  clear hm a; intro a hm
  refine s_assign hm rfl rfl ?_
  clear hm a; intro a hm
  refine wpList_nil ?_
  replace hm : Fr 51 a [(0, .int .u64 x0), (1, .int .u64 x1), (4, .int .u64 0), (5, .int .u64 0)] := hm.keep [0, 1, 4, 5]
  refine x_then_n ?_
  refine wp_seq ?_
  refine wp_region_lit ?_
  refine s_move hm rfl rfl ?_
  clear hm a; intro a hm
  refine s_bits (i := x0) (j := 4294967295) (r := band .u64 x0 4294967295) hm rfl rfl rfl (.inl ⟨rfl, rfl⟩) ?_
  clear hm a; intro a hm
  refine s_assign hm rfl rfl ?_
  clear hm a; intro a hm
  refine wpList_nil ?_
  replace hm : Fr 51 a [(0, .int .u64 x0), (1, .int .u64 x1), (4, .int .u64 0), (5, .int .u64 0), (6, .int .u64 (band .u64 x0 4294967295))] := hm.keep [0, 1, 4, 5, 6]
  refine x_then_n ?_
  refine wp_seq ?_
  refine wp_region_lit ?_
  refine s_move hm rfl rfl ?_
  clear hm a; intro a hm
  refine s_shift (r := shr .u64 x0 32) hm rfl rfl rfl (by decide) (.inr ⟨rfl, rfl⟩) ?_
  clear hm a; intro a hm
  refine s_assign hm rfl rfl ?_
  clear hm a; intro a hm
  refine wpList_nil ?_
  replace hm : Fr 51 a [(0, .int .u64 x0), (1, .int .u64 x1), (4, .int .u64 0), (5, .int .u64 0), (6, .int .u64 (band .u64 x0 4294967295)), (7, .int .u64 (shr .u64 x0 32))] := hm.keep [0, 1, 4, 5, 6, 7]
  refine x_then_n ?_
  refine wp_seq ?_
  refine wp_region_lit ?_
  refine s_move hm rfl rfl ?_
  clear hm a; intro a hm
  refine s_bits (i := x1) (j := 4294967295) (r := band .u64 x1 4294967295) hm rfl rfl rfl (.inl ⟨rfl, rfl⟩) ?_
  clear hm a; intro a hm
  refine s_assign hm rfl rfl ?_
  clear hm a; intro a hm
  refine wpList_nil ?_
  replace hm : Fr 51 a [(0, .int .u64 x0), (1, .int .u64 x1), (4, .int .u64 0), (5, .int .u64 0), (6, .int .u64 (band .u64 x0 4294967295)), (7, .int .u64 (shr .u64 x0 32)), (8, .int .u64 (band .u64 x1 4294967295))] := hm.keep [0, 1, 4, 5, 6, 7, 8]
  refine x_then_n ?_
  refine wp_seq ?_
  refine wp_region_lit ?_
  refine s_move hm rfl rfl ?_
  clear hm a; intro a hm
  refine s_shift (r := shr .u64 x1 32) hm rfl rfl rfl (by decide) (.inr ⟨rfl, rfl⟩) ?_
  clear hm a; intro a hm
  refine s_assign hm rfl rfl ?_
  clear hm a; intro a hm
  refine wpList_nil ?_
  replace hm : Fr 51 a [(0, .int .u64 x0), (1, .int .u64 x1), (4, .int .u64 0), (5, .int .u64 0), (6, .int .u64 (band .u64 x0 4294967295)), (7, .int .u64 (shr .u64 x0 32)), (8, .int .u64 (band .u64 x1 4294967295)), (9, .int .u64 (shr .u64 x1 32))] := hm.keep [0, 1, 4, 5, 6, 7, 8, 9]
  refine x_then_n ?_
  refine wp_seq ?_
  refine wp_region_lit ?_
  refine s_move hm rfl rfl ?_
  clear hm a; intro a hm
  refine s_move hm rfl rfl ?_
  clear hm a; intro a hm
  refine s_arith (r := wu64 ((band .u64 x0 4294967295) * (band .u64 x1 4294967295))) hm rfl rfl rfl (.inr (.inr ⟨rfl, rfl⟩)) ?_
  clear hm a; intro a hm
  refine s_assign hm rfl rfl ?_
  clear hm a; intro a hm
  refine wpList_nil ?_
  replace hm : Fr 51 a [(0, .int .u64 x0), (1, .int .u64 x1), (4, .int .u64 0), (5, .int .u64 0), (6, .int .u64 (band .u64 x0 4294967295)), (7, .int .u64 (shr .u64 x0 32)), (8, .int .u64 (band .u64 x1 4294967295)), (9, .int .u64 (shr .u64 x1 32)), (10, .int .u64 (wu64 ((band .u64 x0 4294967295) * (band .u64 x1 4294967295))))] := hm.keep [0, 1, 4, 5, 6, 7, 8, 9, 10]
  refine x_then_n ?_
  refine wp_seq ?_
  refine wp_region_lit ?_
  refine s_move hm rfl rfl ?_
  clear hm a; intro a hm
  refine s_move hm rfl rfl ?_
  clear hm a; intro a hm
  refine s_arith (r := wu64 ((shr .u64 x0 32) * (band .u64 x1 4294967295))) hm rfl rfl rfl (.inr (.inr ⟨rfl, rfl⟩)) ?_
  clear hm a; intro a hm
  refine s_move hm rfl rfl ?_
  clear hm a; intro a hm
  refine s_shift (r := shr .u64 (wu64 ((band .u64 x0 4294967295) * (band .u64 x1 4294967295))) 32) hm rfl rfl rfl (by decide) (.inr ⟨rfl, rfl⟩) ?_
  clear hm a; intro a hm
  refine s_arith (r := wu64 ((wu64 ((shr .u64 x0 32) * (band .u64 x1 4294967295))) + (shr .u64 (wu64 ((band .u64 x0 4294967295) * (band .u64 x1 4294967295))) 32))) hm rfl rfl rfl (.inl ⟨rfl, rfl⟩) ?_
  clear hm a; intro a hm
  refine s_assign hm rfl rfl ?_
  clear hm a; intro a hm
  refine wpList_nil ?_
  replace hm : Fr 51 a [(0, .int .u64 x0), (1, .int .u64 x1), (4, .int .u64 0), (5, .int .u64 0), (6, .int .u64 (band .u64 x0 4294967295)), (7, .int .u64 (shr .u64 x0 32)), (9, .int .u64 (shr .u64 x1 32)), (11, .int .u64 (wu64 ((wu64 ((shr .u64 x0 32) * (band .u64 x1 4294967295))) + (shr .u64 (wu64 ((band .u64 x0 4294967295) * (band .u64 x1 4294967295))) 32))))] := hm.keep [0, 1, 4, 5, 6, 7, 9, 11]
  refine x_then_n ?_
  refine wp_seq ?_
  refine wp_region_lit ?_
  refine s_move hm rfl rfl ?_
  clear hm a; intro a hm
  refine s_bits (i := wu64 ((wu64 ((shr .u64 x0 32) * (band .u64 x1 4294967295))) + (shr .u64 (wu64 ((band .u64 x0 4294967295) * (band .u64 x1 4294967295))) 32))) (j := 4294967295) (r := band .u64 (wu64 ((wu64 ((shr .u64 x0 32) * (band .u64 x1 4294967295))) + (shr .u64 (wu64 ((band .u64 x0 4294967295) * (band .u64 x1 4294967295))) 32))) 4294967295) hm rfl rfl rfl (.inl ⟨rfl, rfl⟩) ?_
  clear hm a; intro a hm
  refine s_assign hm rfl rfl ?_
  clear hm a; intro a hm
  refine wpList_nil ?_
  replace hm : Fr 51 a [(0, .int .u64 x0), (1, .int .u64 x1), (4, .int .u64 0), (5, .int .u64 0), (6, .int .u64 (band .u64 x0 4294967295)), (7, .int .u64 (shr .u64 x0 32)), (9, .int .u64 (shr .u64 x1 32)), (11, .int .u64 (wu64 ((wu64 ((shr .u64 x0 32) * (band .u64 x1 4294967295))) + (shr .u64 (wu64 ((band .u64 x0 4294967295) * (band .u64 x1 4294967295))) 32)))), (12, .int .u64 (band .u64 (wu64 ((wu64 ((shr .u64 x0 32) * (band .u64 x1 4294967295))) + (shr .u64 (wu64 ((band .u64 x0 4294967295) * (band .u64 x1 4294967295))) 32))) 4294967295))] := hm.keep [0, 1, 4, 5, 6, 7, 9, 11, 12]
  refine x_then_n ?_
  refine wp_seq ?_
  refine wp_region_lit ?_
  refine s_move hm rfl rfl ?_
  clear hm a; intro a hm
  refine s_shift (r := shr .u64 (wu64 ((wu64 ((shr .u64 x0 32) * (band .u64 x1 4294967295))) + (shr .u64 (wu64 ((band .u64 x0 4294967295) * (band .u64 x1 4294967295))) 32))) 32) hm rfl rfl rfl (by decide) (.inr ⟨rfl, rfl⟩) ?_
  clear hm a; intro a hm
  refine s_assign hm rfl rfl ?_
  clear hm a; intro a hm
  refine wpList_nil ?_
  replace hm : Fr 51 a [(0, .int .u64 x0), (1, .int .u64 x1), (4, .int .u64 0), (5, .int .u64 0), (6, .int .u64 (band .u64 x0 4294967295)), (7, .int .u64 (shr .u64 x0 32)), (9, .int .u64 (shr .u64 x1 32)), (12, .int .u64 (band .u64 (wu64 ((wu64 ((shr .u64 x0 32) * (band .u64 x1 4294967295))) + (shr .u64 (wu64 ((band .u64 x0 4294967295) * (band .u64 x1 4294967295))) 32))) 4294967295)), (13, .int .u64 (shr .u64 (wu64 ((wu64 ((shr .u64 x0 32) * (band .u64 x1 4294967295))) + (shr .u64 (wu64 ((band .u64 x0 4294967295) * (band .u64 x1 4294967295))) 32))) 32))] := hm.keep [0, 1, 4, 5, 6, 7, 9, 12, 13]
  refine x_then_n ?_
  refine wp_seq ?_
  refine wp_region_lit ?_
  refine s_move hm rfl rfl ?_
  clear hm a; intro a hm
  refine s_move hm rfl rfl ?_
  clear hm a; intro a hm
  refine s_move hm rfl rfl ?_
  clear hm a; intro a hm
  refine s_arith (r := wu64 ((band .u64 x0 4294967295) * (shr .u64 x1 32))) hm rfl rfl rfl (.inr (.inr ⟨rfl, rfl⟩)) ?_
  clear hm a; intro a hm
  refine s_arith (r := wu64 ((band .u64 (wu64 ((wu64 ((shr .u64 x0 32) * (band .u64 x1 4294967295))) + (shr .u64 (wu64 ((band .u64 x0 4294967295) * (band .u64 x1 4294967295))) 32))) 4294967295) + (wu64 ((band .u64 x0 4294967295) * (shr .u64 x1 32))))) hm rfl rfl rfl (.inl ⟨rfl, rfl⟩) ?_
  clear hm a; intro a hm
  refine s_assign hm rfl rfl ?_
  clear hm a; intro a hm
  refine wpList_nil ?_
  replace hm : Fr 51 a [(0, .int .u64 x0), (1, .int .u64 x1), (4, .int .u64 0), (5, .int .u64 0), (7, .int .u64 (shr .u64 x0 32)), (9, .int .u64 (shr .u64 x1 32)), (12, .int .u64 (wu64 ((band .u64 (wu64 ((wu64 ((shr .u64 x0 32) * (band .u64 x1 4294967295))) + (shr .u64 (wu64 ((band .u64 x0 4294967295) * (band .u64 x1 4294967295))) 32))) 4294967295) + (wu64 ((band .u64 x0 4294967295) * (shr .u64 x1 32)))))), (13, .int .u64 (shr .u64 (wu64 ((wu64 ((shr .u64 x0 32) * (band .u64 x1 4294967295))) + (shr .u64 (wu64 ((band .u64 x0 4294967295) * (band .u64 x1 4294967295))) 32))) 32))] := hm.keep [0, 1, 4, 5, 7, 9, 12, 13]
  refine x_then_n ?_
  refine wp_seq ?_
  refine wp_region_lit ?_
  refine s_move hm rfl rfl ?_
  clear hm a; intro a hm
  refine s_move hm rfl rfl ?_
  clear hm a; intro a hm
  refine s_arith (r := wu64 ((shr .u64 x0 32) * (shr .u64 x1 32))) hm rfl rfl rfl (.inr (.inr ⟨rfl, rfl⟩)) ?_
  clear hm a; intro a hm
  refine s_move hm rfl rfl ?_
  clear hm a; intro a hm
  refine s_arith (r := wu64 ((wu64 ((shr .u64 x0 32) * (shr .u64 x1 32))) + (shr .u64 (wu64 ((wu64 ((shr .u64 x0 32) * (band .u64 x1 4294967295))) + (shr .u64 (wu64 ((band .u64 x0 4294967295) * (band .u64 x1 4294967295))) 32))) 32))) hm rfl rfl rfl (.inl ⟨rfl, rfl⟩) ?_
  clear hm a; intro a hm
  refine s_move hm rfl rfl ?_
  clear hm a; intro a hm
  refine s_shift (r := shr .u64 (wu64 ((band .u64 (wu64 ((wu64 ((shr .u64 x0 32) * (band .u64 x1 4294967295))) + (shr .u64 (wu64 ((band .u64 x0 4294967295) * (band .u64 x1 4294967295))) 32))) 4294967295) + (wu64 ((band .u64 x0 4294967295) * (shr .u64 x1 32))))) 32) hm rfl rfl rfl (by decide) (.inr ⟨rfl, rfl⟩) ?_
  clear hm a; intro a hm
  refine s_arith (r := wu64 ((wu64 ((wu64 ((shr .u64 x0 32) * (shr .u64 x1 32))) + (shr .u64 (wu64 ((wu64 ((shr .u64 x0 32) * (band .u64 x1 4294967295))) + (shr .u64 (wu64 ((band .u64 x0 4294967295) * (band .u64 x1 4294967295))) 32))) 32))) + (shr .u64 (wu64 ((band .u64 (wu64 ((wu64 ((shr .u64 x0 32) * (band .u64 x1 4294967295))) + (shr .u64 (wu64 ((band .u64 x0 4294967295) * (band .u64 x1 4294967295))) 32))) 4294967295) + (wu64 ((band .u64 x0 4294967295) * (shr .u64 x1 32))))) 32))) hm rfl rfl rfl (.inl ⟨rfl, rfl⟩) ?_
  clear hm a; intro a hm
  refine s_assign hm rfl rfl ?_
  clear hm a; intro a hm
  refine wpList_nil ?_
  replace hm : Fr 51 a [(0, .int .u64 x0), (1, .int .u64 x1), (4, .int .u64 (wu64 ((wu64 ((wu64 ((shr .u64 x0 32) * (shr .u64 x1 32))) + (shr .u64 (wu64 ((wu64 ((shr .u64 x0 32) * (band .u64 x1 4294967295))) + (shr .u64 (wu64 ((band .u64 x0 4294967295) * (band .u64 x1 4294967295))) 32))) 32))) + (shr .u64 (wu64 ((band .u64 (wu64 ((wu64 ((shr .u64 x0 32) * (band .u64 x1 4294967295))) + (shr .u64 (wu64 ((band .u64 x0 4294967295) * (band .u64 x1 4294967295))) 32))) 4294967295) + (wu64 ((band .u64 x0 4294967295) * (shr .u64 x1 32))))) 32)))), (5, .int .u64 0)] := hm.keep [0, 1, 4, 5]
  refine x_then_n ?_
  refine wp_seq ?_
  refine wp_region_lit ?_
  refine s_move hm rfl rfl ?_
  clear hm a; intro a hm
  refine s_move hm rfl rfl ?_
  clear hm a; intro a hm
  refine s_arith (r := wu64 (x0 * x1)) hm rfl rfl rfl (.inr (.inr ⟨rfl, rfl⟩)) ?_
  clear hm a; intro a hm
  refine s_assign hm rfl rfl ?_
  clear hm a; intro a hm
  refine wpList_nil ?_
  replace hm : Fr 51 a [(4, .int .u64 (wu64 ((wu64 ((wu64 ((shr .u64 x0 32) * (shr .u64 x1 32))) + (shr .u64 (wu64 ((wu64 ((shr .u64 x0 32) * (band .u64 x1 4294967295))) + (shr .u64 (wu64 ((band .u64 x0 4294967295) * (band .u64 x1 4294967295))) 32))) 32))) + (shr .u64 (wu64 ((band .u64 (wu64 ((wu64 ((shr .u64 x0 32) * (band .u64 x1 4294967295))) + (shr .u64 (wu64 ((band .u64 x0 4294967295) * (band .u64 x1 4294967295))) 32))) 4294967295) + (wu64 ((band .u64 x0 4294967295) * (shr .u64 x1 32))))) 32)))), (5, .int .u64 (wu64 (x0 * x1)))] := hm.keep [4, 5]
  refine x_then_n ?_
  refine wp_ret ?_
  obtain rfl := Option.some.inj H
  exact f_ret hm (rs := [.tmp 4, .tmp 5]) rfl (.tmp rfl (.tmp rfl .nil)) ⟨_, rfl, Mem.no, rfl, (Sep.sel hS [0] (by decide))⟩

set_option maxHeartbeats 4000000 in
set_option maxRecDepth 20000 in
theorem bits_Mul.calls (x0 : Int) (x1 : Int) (r : Int × Int) (w0 w : World) (Z A : Mem) (hA : A.le Z) (hS : Sep w0 w [] Z)
    (H : bits_Mul.f x0 x1 = some r) :
    Calls Try.prog 74 [.int .u64 x0, .int .u64 x1].toArray w (Ret fun v w' => ∃ (N : Mem), v = .tuple [.int .u64 r.1, .int .u64 r.2].toArray ∧ Sep w0 w' [N] Z) := by
  unfold bits_Mul.f at H
  refine f_enter _ Try.func74 rfl Try.ntmps74 rfl fun a hm => ?_
  replace hm : Fr 30 a [(0, .int .u64 x0), (1, .int .u64 x1)] := hm
  replace hS := hS.start
  replace hS : Sep w0 w [Mem.no] Z := hS
  refine wp_seq ?_
  refine wp_region_lit ?_
  refine s_assign hm rfl rfl ?_
  clear hm a; intro a hm
  refine s_assign hm rfl rfl ?_
  clear hm a; intro a hm
  refine wpList_nil ?_
  replace hm : Fr 30 a [(0, .int .u64 x0), (1, .int .u64 x1), (4, .int .u64 0), (5, .int .u64 0)] := hm.keep [0, 1, 4, 5]
  refine x_then_n ?_
  refine c_seq fun KJ_1 hKJ_1 => ?_
  refine c_cond_f hm rfl rfl ?_
  refine wp_skip ?_
  refine x_then_n (hKJ_1 _ _ ?_)
  refine wp_seq ?_
  refine wp_region_lit ?_
  refine s_move hm rfl rfl ?_
  clear hm a; intro a hm
  refine s_move hm rfl rfl ?_
  clear hm a; intro a hm
  obtain ⟨t_2, et_2, H⟩ := Option.bind_eq_some_iff.1 H
  refine s_call hm rfl Try.call79 rfl (bits_Mul64.calls x0 x1 t_2 w0 _ _ _ (Mem.le.refl _) (hS.enter [] (by decide))  et_2) ?_
  rintro _ w_3 ⟨N_4, rfl, hS'⟩
  clear hm a; intro a hm
  obtain ⟨N_5, hS'', le_5, ln_5⟩ := hS.call [] (by decide) rfl (l' := []) (ow := []) rfl hS'
  replace hS : Sep w0 w_3 [N_5] Z := hS''
  clear hS' hS''
  refine s_move hm rfl rfl ?_
  clear hm a; intro a hm
  refine s_extract hm rfl rfl rfl ?_
  clear hm a; intro a hm
  refine s_extract hm rfl rfl rfl ?_
  clear hm a; intro a hm
  refine s_assign hm rfl rfl ?_
  clear hm a; intro a hm
  refine s_assign hm rfl rfl ?_
  clear hm a; intro a hm
  refine wpList_nil ?_
  replace hm : Fr 30 a [(4, .int .u64 0), (5, .int .u64 0), (8, .int .u64 t_2.1), (9, .int .u64 t_2.2)] := hm.keep [4, 5, 8, 9]
  refine x_then_n ?_
  refine wp_seq ?_
  refine wp_region_lit ?_
  refine s_move hm rfl rfl ?_
  clear hm a; intro a hm
  refine s_move hm rfl rfl ?_
  clear hm a; intro a hm
  refine s_assign hm rfl rfl ?_
  clear hm a; intro a hm
  refine s_assign hm rfl rfl ?_
  clear hm a; intro a hm
  refine wpList_nil ?_
  replace hm : Fr 30 a [(4, .int .u64 t_2.1), (5, .int .u64 t_2.2)] := hm.keep [4, 5]
  refine x_then_n ?_
  refine wp_ret ?_
  obtain rfl := Option.some.inj H
  exact f_ret hm (rs := [.tmp 4, .tmp 5]) rfl (.tmp rfl (.tmp rfl .nil)) ⟨_, rfl, N_5, rfl, (Sep.sel hS [0] (by decide))⟩

set_option maxHeartbeats 4000000 in
set_option maxRecDepth 20000 in
theorem slices_Repeat_sint_int.calls (K : Nat) (x0 : List Int) (p0_0 : Value) (x1 : Int) (r : (List Int)) (w0 w : World) (Z A : Mem) (hA : A.le Z) (hS : Sep w0 w [] Z) (hp0_0 : Rd (Kd.int .i64) A p0_0 x0)
    (H : slices_Repeat_sint_int.f K x0 x1 = some r) :
    Calls Try.prog 67 [p0_0, .int .i64 x1].toArray w (Ret fun v w' => ∃ (u0 : Value) (N : Mem) (M0 : Mem), v = u0 ∧ Sep w0 w' [N, M0] Z ∧ Own (Kd.int .i64) 3 M0 Mem.no u0 r) := by
  unfold slices_Repeat_sint_int.f at H
  refine f_enter _ Try.func67 rfl Try.ntmps67 rfl fun a hm => ?_
  replace hm : Fr 48 a [(0, p0_0), (1, .int .i64 x1)] := hm
  replace hS := hS.start
  replace hS : Sep w0 w [Mem.no] Z := hS
  refine wp_seq ?_
  refine wp_region_lit ?_
  refine s_assign hm rfl rfl ?_
  clear hm a; intro a hm
  refine wpList_nil ?_
  replace hm : Fr 48 a [(0, p0_0), (1, .int .i64 x1), (4, .slice none 0 0)] := hm.keep [0, 1, 4]
  refine x_then_n ?_
  refine c_seq fun KJ_1 hKJ_1 => ?_
  refine wp_seq ?_
  refine wp_region_lit ?_
  refine s_move hm rfl rfl ?_
  clear hm a; intro a hm
  refine s_cmp (b := decide (x1 < 0)) hm rfl rfl rfl (.inr (.inr (.inl ⟨rfl, rfl⟩))) ?_
  clear hm a; intro a hm
  refine wpList_nil ?_
  replace hm : Fr 48 a [(0, p0_0), (1, .int .i64 x1), (4, .slice none 0 0), (10, .bool (decide (x1 < 0)))] := hm.keep [0, 1, 4, 10]
  refine x_then_n ?_
  by_cases hc_2 : x1 < 0
  · rw [if_pos hc_2] at H
    cases H
  · rw [if_neg hc_2] at H
    refine c_cond_f hm rfl (decide_eq_false hc_2) ?_
    refine wp_skip ?_
    refine x_then_n (hKJ_1 _ _ ?_)
    refine wp_seq ?_
    refine wp_region_lit ?_
    refine s_move hm rfl rfl ?_
    clear hm a; intro a hm
    refine s_len hm rfl Try.underlying23 rfl hp0_0 ?_
    clear hm a; intro a hm
    refine s_conv (wu64 (x0.length : Int)) hm rfl Try.underlying3 Try.underlying38 rfl rfl ?_
    clear hm a; intro a hm
    refine s_move hm rfl rfl ?_
    clear hm a; intro a hm
    refine s_conv (wu64 x1) hm rfl Try.underlying3 Try.underlying38 rfl rfl ?_
    clear hm a; intro a hm
    obtain ⟨t_3, et_3, H⟩ := Option.bind_eq_some_iff.1 H
    refine s_call hm rfl Try.call74 rfl (bits_Mul.calls (wu64 (x0.length : Int)) (wu64 x1) t_3 w0 _ _ _ (Mem.le.refl _) (hS.enter [] (by decide))  et_3) ?_
    rintro _ w_4 ⟨N_5, rfl, hS'⟩
    clear hm a; intro a hm
    obtain ⟨N_6, hS'', le_6, ln_6⟩ := hS.call [] (by decide) rfl (l' := []) (ow := []) rfl hS'
    replace hS : Sep w0 w_4 [N_6] Z := hS''
    clear hS' hS''
    refine s_move hm rfl rfl ?_
    clear hm a; intro a hm
    refine s_extract hm rfl rfl rfl ?_
    clear hm a; intro a hm
    refine s_extract hm rfl rfl rfl ?_
    clear hm a; intro a hm
    refine s_assign hm rfl rfl ?_
    clear hm a; intro a hm
    refine s_assign hm rfl rfl ?_
    clear hm a; intro a hm
    refine wpList_nil ?_
    replace hm : Fr 48 a [(0, p0_0), (4, .slice none 0 0), (5, .int .u64 t_3.1), (6, .int .u64 t_3.2)] := hm.keep [0, 4, 5, 6]
    refine x_then_n ?_
    refine c_seq fun KJ_7 hKJ_7 => ?_
    refine c_seq fun KJ_8 hKJ_8 => ?_
    have hJ_j_12 : ∀ (x_10 : Bool), slices_Repeat_sint_int.J1 K t_3 x0 x_10 = some r → ∀ (a : Act) (w_11 : World), (∃ (N_9 : Mem), Fr 48 a [(0, p0_0), (4, .slice none 0 0), (6, .int .u64 t_3.2), (26, .bool x_10)] ∧ Sep w0 w_11 [N_9] Z ∧ N_6.le N_9) → KJ_8 a w_11 := by
      clear H hm hS a
      rintro x_10 H a w_11 ⟨N_9, hm, hS, le_9⟩
      unfold slices_Repeat_sint_int.J1 at H
      refine hKJ_8 _ _ ?_
      by_cases hc_13 : x_10 = true
      · rw [if_pos hc_13] at H
        cases H
      · rw [if_neg hc_13] at H
        refine c_cond_f hm rfl (Bool.eq_false_iff.2 hc_13) ?_
        refine wp_skip ?_
        refine x_then_n (hKJ_7 _ _ ?_)
        refine wp_seq ?_
        refine wp_region_lit ?_
        refine s_move hm rfl rfl ?_
        clear hm a; intro a hm
        refine s_conv (w64 t_3.2) hm rfl Try.underlying38 Try.underlying3 rfl rfl ?_
        clear hm a; intro a hm
        obtain ⟨t_14, et_14, H⟩ := Option.bind_eq_some_iff.1 H
        refine s_make (kd := (Kd.int .i64)) (I := Mem.no) 17592186044416 hm rfl rfl Try.underlying23 ti3 rfl rfl rfl rfl hS (show (Kd.int .i64).K _ _ [.int .i64 0] from rfl) et_14 ?_
        intro w_15 v_16 M_17 hS' ho_18
        clear hm a; intro a hm
        replace hS : Sep w0 w_15 [N_9, M_17] Z := hS'
        clear hS'
        refine s_assign hm rfl rfl ?_
        clear hm a; intro a hm
        refine wpList_nil ?_
        replace hm : Fr 48 a [(0, p0_0), (4, .slice none 0 0), (7, v_16)] := hm.keep [0, 4, 7]
        refine x_then_n ?_
        refine wp_seq ?_
        refine wp_region_lit ?_
        refine s_move hm rfl rfl ?_
        clear hm a; intro a hm
        refine s_move hm rfl rfl ?_
        clear hm a; intro a hm
        refine s_copyP (J := Mem.no) (I' := Mem.no) (p := 1) hm rfl Try.underlying23 ti3 rfl rfl rfl ho_18 ho_18.piece0 (by first | omega | (skip; omega)) (Src.flat (flat_int .i64) (hp0_0.src (hA.trans hS.old))) (Mem.le.refl _) (Mem.le.refl _) hS rfl ?_
        intro w_20 M_21 hS' ho_22
        clear hm a; intro a hm
        replace hS : Sep w0 w_20 [N_9, M_21] Z := hS'
        clear hS'
        refine s_assign hm rfl rfl ?_
        clear hm a; intro a hm
        refine wpList_nil ?_
        replace hm : Fr 48 a [(4, .slice none 0 0), (7, v_16), (8, .int .i64 ((min x0.length t_14.length : Nat) : Int))] := hm.keep [4, 7, 8]
        refine x_then_n ?_
        refine c_seq fun KJ_23 hKJ_23 => ?_
        have hJ_j_31 : ∀ (x_25 : List Int), slices_Repeat_sint_int.J2 K x_25 = some r → ∀ (a : Act) (w_30 : World), (∃ (v_28 : Value) (N_24 : Mem) (M_26 : Mem), Fr 48 a [(4, .slice none 0 0), (7, v_28)] ∧ Sep w0 w_30 [N_24, M_26] Z ∧ N_9.le N_24 ∧ Own (Kd.int .i64) 3 M_26 Mem.no v_28 x_25) → KJ_23 a w_30 := by
          clear H hm hS a
          rintro x_25 H a w_30 ⟨v_28, N_24, M_26, hm, hS, le_24, ho_29⟩
          unfold slices_Repeat_sint_int.J2 at H
          refine hKJ_23 _ _ ?_
          refine wp_seq ?_
          refine wp_region_lit ?_
          refine s_move hm rfl rfl ?_
          clear hm a; intro a hm
          refine s_assign hm rfl rfl ?_
          clear hm a; intro a hm
          refine wpList_nil ?_
          replace hm : Fr 48 a [(4, v_28)] := hm.keep [4]
          refine x_then_n ?_
          refine wp_ret ?_
          obtain rfl := Option.some.inj H
          exact f_ret hm (rs := [.tmp 4]) rfl (.tmp rfl .nil) ⟨_, rfl, v_28, N_24, M_26, rfl, (Sep.sel hS [0, 1] (by decide)), ho_29⟩
        clear hKJ_23
        replace hS : Sep w0 w_20 [N_9, M_21] Z := hS
        replace hm : Fr 48 a [(4, .slice none 0 0), (7, v_16), (8, .int .i64 ((min x0.length t_14.length : Nat) : Int))] := hm.keep [4, 7, 8]
        refine c_block ?_
        refine c_loop (fun k_39 a w_39 => ∃ (x_33 : List Int) (x_38 : Int) (v_36 : Value) (N_32 : Mem) (M_34 : Mem), slices_Repeat_sint_int.L1 K (fun v => slices_Repeat_sint_int.J2 K v) k_39 (x_33, x_38) = some r ∧ Fr 48 a [(4, .slice none 0 0), (7, v_36), (8, .int .i64 x_38)] ∧ Sep w0 w_39 [N_32, M_34] Z ∧ N_9.le N_32 ∧ Own (Kd.int .i64) 3 M_34 Mem.no v_36 x_33) K ⟨(cpy t_14 0 t_14.length x0), ((min x0.length t_14.length : Nat) : Int), v_16, N_9, M_21, H, hm, (Sep.sel hS [0, 1] (by decide)), (Mem.le.refl _), ho_22⟩ (fun a w h => by obtain ⟨_, _, _, _, _, H, _⟩ := h; cases (show (none : Option ((List Int))) = some r from H)) ?_
        clear hm hS a H
        rintro k_39 a w_39 KL_39 hKL_39 ⟨x_33, x_38, v_36, N_32, M_34, H, hm, hS, le_32, ho_37⟩
        replace H : slices_Repeat_sint_int.B1 K (fun v => slices_Repeat_sint_int.J2 K v) (slices_Repeat_sint_int.L1 K (fun v => slices_Repeat_sint_int.J2 K v) k_39) x_33 x_38 = some r := H
        unfold slices_Repeat_sint_int.B1 at H
        refine c_seq fun KJ_41 hKJ_41 => ?_
        refine wp_seq ?_
        refine wp_region_lit ?_
        refine s_move hm rfl rfl ?_
        clear hm a; intro a hm
        refine s_move hm rfl rfl ?_
        clear hm a; intro a hm
        refine s_lenO hm rfl Try.underlying23 rfl ho_37 ?_
        clear hm a; intro a hm
        refine s_cmp (b := decide (x_38 < (x_33.length : Int))) hm rfl rfl rfl (.inr (.inr (.inl ⟨rfl, rfl⟩))) ?_
        clear hm a; intro a hm
        refine wpList_nil ?_
        replace hm : Fr 48 a [(4, .slice none 0 0), (7, v_36), (8, .int .i64 x_38), (37, .bool (decide (x_38 < (x_33.length : Int))))] := hm.keep [4, 7, 8, 37]
        refine x_then_n ?_
        by_cases hc_42 : x_38 < (x_33.length : Int)
        · rw [if_pos hc_42] at H
          refine c_cond_t hm rfl (decide_eq_true hc_42) ?_
          refine wp_skip ?_
          refine x_then_n (hKJ_41 _ _ ?_)
          refine c_block ?_
          refine h_begin (S := fun w => Sep w0 w [N_32, Mem.no] Z) 10 (by kernel_rfl) rfl [false, false, false, false, false, false, false, false, false, false].toArray rfl hS fun w_43 hS => ?_
          replace hS : Sep w0 w_43 [N_32, M_34] Z := hS
          refine h_take 0 [true, false, false, false, false, false, false, false, false, false].toArray rfl (by kernel_rfl) (by kernel_rfl) (by kernel_rfl) (fun _ _ _ _ h => h) rfl rfl rfl rfl hm (hS.sub (.cons (Mem.le.refl _) (.cons (Mem.no_le _) (Sub.nil _)))) (v := .int .i64 x_38) (fun w hS => r_move hm rfl) ?_
          clear hm a; intro a hm
          refine h_take 1 [true, true, false, false, false, false, false, false, false, false].toArray rfl (by kernel_rfl) (by kernel_rfl) (by kernel_rfl) (fun _ _ _ _ h => h) rfl rfl rfl rfl hm (hS.sub (.cons (Mem.le.refl _) (.cons (Mem.no_le _) (Sub.nil _)))) (v := v_36) (fun w hS => r_move hm rfl) ?_
          clear hm a; intro a hm
          refine h_take 2 [true, true, true, false, false, false, false, false, false, false].toArray rfl (by kernel_rfl) (by kernel_rfl) (by kernel_rfl) (fun _ _ _ _ h => h) rfl rfl rfl rfl hm (hS.sub (.cons (Mem.le.refl _) (.cons (Mem.no_le _) (Sub.nil _)))) (v := .int .i64 x_38) (fun w hS => r_move hm rfl) ?_
          clear hm a; intro a hm
          obtain ⟨u_44, eu_44, H⟩ := Option.bind_eq_some_iff.1 H
          refine h_takeE 3 [true, true, true, true, false, false, false, false, false, false].toArray rfl (by kernel_rfl) (by kernel_rfl) (by kernel_rfl) (fun _ _ _ _ h => h) rfl rfl rfl rfl hm (hS.sub (.cons (Mem.le.refl _) (.cons (Mem.no_le _) (Sub.nil _)))) (f := fun v => v) (r_piece hm Try.underlying23 ti3 rfl rfl ho_37 (ho_37.room) rfl rfl (must_some eu_44)) ?_
          intro v_45 hq_46
          clear hm a; intro a hm
          refine h_take 4 [true, true, true, true, true, false, false, false, false, false].toArray rfl (by kernel_rfl) (by kernel_rfl) (by kernel_rfl) (fun _ _ _ _ h => h) rfl rfl rfl rfl hm (hS.sub (.cons (Mem.le.refl _) (.cons (Mem.no_le _) (Sub.nil _)))) (v := v_36) (fun w hS => r_move hm rfl) ?_
          clear hm a; intro a hm
          refine h_take 5 [true, true, true, true, true, true, false, false, false, false].toArray rfl (by kernel_rfl) (by kernel_rfl) (by kernel_rfl) (fun _ _ _ _ h => h) rfl rfl rfl rfl hm (hS.sub (.cons (Mem.le.refl _) (.cons (Mem.no_le _) (Sub.nil _)))) (v := .int .i64 x_38) (fun w hS => r_move hm rfl) ?_
          clear hm a; intro a hm
          refine h_takeE 6 [true, true, true, true, true, true, true, false, false, false].toArray rfl (by kernel_rfl) (by kernel_rfl) (by kernel_rfl) (fun _ _ _ _ h => h) rfl rfl rfl rfl hm (hS.sub (.cons (Mem.le.refl _) (.cons (Mem.no_le _) (Sub.nil _)))) (f := fun v => v) (r_piece hm Try.underlying23 ti3 rfl rfl ho_37 (ho_37.room) rfl rfl (by have := (must_some eu_44); (try simp only [List.length_append, List.length_take, List.length_drop]); omega)) ?_
          intro v_47 hq_48
          clear hm a; intro a hm
          refine h_event 7 [true, true, true, true, true, true, true, true, false, false].toArray rfl (by kernel_rfl) rfl ?_
          refine s_copyP (J := Mem.no) (I' := Mem.no) (p := 1) hm rfl Try.underlying23 ti3 rfl rfl rfl ho_37 hq_46 (by first | omega | (have := (must_some eu_44); omega)) (Src.flat (flat_int .i64) (ho_37.srcP (hS.own 1) (by simpa using hq_48) (by have := (must_some eu_44); omega))) (Mem.le.refl _) (Mem.le.refl _) hS rfl ?_
          intro w_49 M_50 hS' ho_51
          clear hm a; intro a hm
          replace hS : Sep w0 w_49 [N_32, M_50] Z := hS'
          clear hS'
          refine wpList_nil ?_
          refine x_then_n ⟨(hS.sub (.cons (Mem.le.refl _) (.cons (Mem.no_le _) (Sub.nil _)))), ?_⟩
          refine h_take 8 [true, true, true, true, true, true, true, true, true, false].toArray rfl (by kernel_rfl) (by kernel_rfl) (by kernel_rfl) (fun _ _ _ _ h => h) rfl rfl rfl rfl hm (hS.sub (.cons (Mem.le.refl _) (.cons (Mem.no_le _) (Sub.nil _)))) (v := .int .i64 (w64 (x_38 + ((min (x_33.take (x_38).toNat).length (((x_33.length : Int)).toNat - (x_38).toNat) : Nat) : Int)))) (fun w hS => r_arith (r := w64 (x_38 + ((min (x_33.take (x_38).toNat).length (((x_33.length : Int)).toNat - (x_38).toNat) : Nat) : Int))) hm rfl rfl (.inl ⟨rfl, rfl⟩)) ?_
          clear hm a; intro a hm
          refine h_take 9 [true, true, true, true, true, true, true, true, true, true].toArray rfl (by kernel_rfl) (by kernel_rfl) (by kernel_rfl) (fun _ _ _ _ h => h) rfl rfl rfl rfl hm (hS.sub (.cons (Mem.le.refl _) (.cons (Mem.no_le _) (Sub.nil _)))) (v := .int .i64 (w64 (x_38 + ((min (x_33.take (x_38).toNat).length (((x_33.length : Int)).toNat - (x_38).toNat) : Nat) : Int)))) (fun w hS => r_assign hm rfl) ?_
          clear hm a; intro a hm
          refine h_done (by kernel_rfl) ?_
          replace hm : Fr 48 a [(4, .slice none 0 0), (7, v_36), (8, .int .i64 (w64 (x_38 + ((min (x_33.take (x_38).toNat).length (((x_33.length : Int)).toNat - (x_38).toNat) : Nat) : Int))))] := hm.keep [4, 7, 8]
          refine x_block_n ?_
          refine x_then_n (hKL_39 _ _ ?_)
          replace hS : Sep w0 w_49 [N_32, M_50] Z := hS
          replace hm : Fr 48 a [(4, .slice none 0 0), (7, v_36), (8, .int .i64 (w64 (x_38 + ((min (x_33.take (x_38).toNat).length (((x_33.length : Int)).toNat - (x_38).toNat) : Nat) : Int))))] := hm.keep [4, 7, 8]
          exact ⟨(cpy x_33 (x_38).toNat (((x_33.length : Int)).toNat - (x_38).toNat) (x_33.take (x_38).toNat)), w64 (x_38 + ((min (x_33.take (x_38).toNat).length (((x_33.length : Int)).toNat - (x_38).toNat) : Nat) : Int)), v_36, N_32, M_50, H, hm, (Sep.sel hS [0, 1] (by decide)), le_32, ho_51⟩
        · rw [if_neg hc_42] at H
          refine c_cond_f hm rfl (decide_eq_false hc_42) ?_
          refine wp_exit (x_then_x (x_then_x (x_block_t ?_)))
          replace hS : Sep w0 w_39 [N_32, M_34] Z := hS
          replace hm : Fr 48 a [(4, .slice none 0 0), (7, v_36)] := hm.keep [4, 7]
          exact x_then_n (hJ_j_31 x_33 H _ _ ⟨v_36, N_32, M_34, hm, (Sep.sel hS [0, 1] (by decide)), le_32, ho_37⟩)
    clear hKJ_8
    refine wp_region_lit ?_
    refine s_move hm rfl rfl ?_
    clear hm a; intro a hm
    refine s_cmp (b := decide (t_3.1 > 0)) hm rfl rfl rfl (.inr (.inr (.inr (.inr (.inl ⟨rfl, rfl⟩))))) ?_
    clear hm a; intro a hm
    refine s_move hm rfl rfl ?_
    clear hm a; intro a hm
    by_cases hc_52 : t_3.1 > 0
    · rw [if_pos hc_52] at H
      refine s_off hm rfl rfl rfl (decide_eq_true hc_52) ?_
      clear hm a; intro a hm
      refine s_off hm rfl rfl rfl (decide_eq_true hc_52) ?_
      clear hm a; intro a hm
      refine s_pick_t hm rfl rfl (decide_eq_true hc_52) rfl ?_
      clear hm a; intro a hm
      refine wpList_nil ?_
      replace hm : Fr 48 a [(0, p0_0), (4, .slice none 0 0), (6, .int .u64 t_3.2), (26, .bool true)] := hm.keep [0, 4, 6, 26]
      replace hS : Sep w0 w_4 [N_6] Z := hS
      replace hm : Fr 48 a [(0, p0_0), (4, .slice none 0 0), (6, .int .u64 t_3.2), (26, .bool true)] := hm.keep [0, 4, 6, 26]
      exact x_then_n (hJ_j_12 true H _ _ ⟨N_6, hm, (Sep.sel hS [0] (by decide)), (Mem.le.refl _)⟩)
    · rw [if_neg hc_52] at H
      refine s_on hm rfl rfl (decide_eq_false hc_52) ?_
      refine s_move hm rfl rfl ?_
      clear hm a; intro a hm
      refine s_on hm rfl rfl (decide_eq_false hc_52) ?_
      refine s_cmp (b := decide (t_3.2 > 9223372036854775807)) hm rfl rfl rfl (.inr (.inr (.inr (.inr (.inl ⟨rfl, rfl⟩))))) ?_
      clear hm a; intro a hm
      refine s_pick_f hm rfl rfl (decide_eq_false hc_52) rfl ?_
      clear hm a; intro a hm
      refine wpList_nil ?_
      replace hm : Fr 48 a [(0, p0_0), (4, .slice none 0 0), (6, .int .u64 t_3.2), (26, .bool (decide (t_3.2 > 9223372036854775807)))] := hm.keep [0, 4, 6, 26]
      replace hS : Sep w0 w_4 [N_6] Z := hS
      replace hm : Fr 48 a [(0, p0_0), (4, .slice none 0 0), (6, .int .u64 t_3.2), (26, .bool (decide (t_3.2 > 9223372036854775807)))] := hm.keep [0, 4, 6, 26]
      exact x_then_n (hJ_j_12 (decide (t_3.2 > 9223372036854775807)) H _ _ ⟨N_6, hm, (Sep.sel hS [0] (by decide)), (Mem.le.refl _)⟩)

set_option maxHeartbeats 4000000 in
set_option maxRecDepth 20000 in
theorem tokn_First.calls (K : Nat) (x0 : Int) (x1 : Int) (x2 : Int) (r : api_Msg) (w0 w : World) (Z A : Mem) (hA : A.le Z) (hS : Sep w0 w [] Z)
    (H : tokn_First.f K x0 x1 x2 = some r) :
    Calls Try.prog 40 [.int .i64 x0, .int .i64 x1, .int .i64 x2].toArray w (Ret fun v w' => ∃ (u0 : Value) (u1 : Value) (u2 : Value) (u3 : Value) (u4 : Value) (u5 : Value) (N : Mem) (M0 : Mem) (M1 : Mem) (M2 : Mem) (M3 : Mem) (M4 : Mem) (M5 : Mem), v = .agg [.int .i64 r.Kind, .int .i64 r.From, .int .i64 r.To, .int .i64 r.View, .int .i64 r.Inst, .int .i64 r.Len, .bool r.Has, .int .i64 r.Members, .int .i64 r.Source, .int .i64 r.At, .int .i64 r.Total, u0, .int .i64 r.Hop, .int .i64 r.Seq, u1, u2, .int .i64 r.Index, .int .i64 r.Entry.Sess, .int .i64 r.Entry.Seq, .int .i64 r.Entry.Cmd.Kind, .int .i64 r.Entry.Cmd.Who, u3, u4, u5].toArray ∧ Sep w0 w' [N, M0, M1, M2, M3, M4, M5] Z ∧ Own Kd.u8 5 M0 Mem.no u0 r.Data ∧ Own (Kd.int .i64) 3 M1 Mem.no u1 r.Have ∧ Own (Kd.int .i64) 3 M2 Mem.no u2 r.Need ∧ Own Kd.u8 5 M3 Mem.no u3 r.Entry.Cmd.Key ∧ Own Kd.u8 5 M4 Mem.no u4 r.Entry.Cmd.Val ∧ Own Kd.u8 5 M5 Mem.no u5 r.Entry.Cmd.Old) := by
  unfold tokn_First.f at H
  refine f_enter _ Try.func40 rfl Try.ntmps40 rfl fun a hm => ?_
  replace hm : Fr 17 a [(0, .int .i64 x0), (1, .int .i64 x1), (2, .int .i64 x2)] := hm
  replace hS := hS.start
  replace hS : Sep w0 w [Mem.no] Z := hS
  refine wp_seq ?_
  refine wp_region_lit ?_
  refine v_alloc hm rfl ti29 hS ?_
  intro w_1 g_2 hS'
  clear hm a; intro a hm
  replace hS : Sep w0 w_1 [Mem.no, Mem.one g_2 (.cells ([.int .i64 0, .int .i64 0, .int .i64 0, .int .i64 0, .int .i64 0, .int .i64 0, .bool false, .int .i64 0, .int .i64 0, .int .i64 0, .int .i64 0, .slice none 0 0, .int .i64 0, .int .i64 0, .slice none 0 0, .slice none 0 0, .int .i64 0, .int .i64 0, .int .i64 0, .int .i64 0, .int .i64 0, .slice none 0 0, .slice none 0 0, .slice none 0 0] : List Value).toArray 29 (0, 0))] Z := hS'
  clear hS'
  refine wpList_nil ?_
  replace hm : Fr 17 a [(0, .int .i64 x0), (1, .int .i64 x1), (2, .int .i64 x2), (6, .pointer (some ⟨g_2, 0, none⟩))] := hm.keep [0, 1, 2, 6]
  refine x_then_n ?_
  refine wp_seq ?_
  refine wp_region_lit ?_
  refine s_move hm rfl rfl ?_
  clear hm a; intro a hm
  refine s_max hm rfl rfl rfl ?_
  clear hm a; intro a hm
  refine s_min hm rfl rfl rfl ?_
  clear hm a; intro a hm
  refine s_assign hm rfl rfl ?_
  clear hm a; intro a hm
  refine wpList_nil ?_
  replace hm : Fr 17 a [(0, .int .i64 x0), (1, .int .i64 (mn (mx x1 1) 7)), (2, .int .i64 x2), (6, .pointer (some ⟨g_2, 0, none⟩))] := hm.keep [0, 1, 2, 6]
  refine x_then_n ?_
  refine wp_seq ?_
  refine wp_region_lit ?_
  refine s_move hm rfl rfl ?_
  clear hm a; intro a hm
  refine s_move hm rfl rfl ?_
  clear hm a; intro a hm
  refine s_move hm rfl rfl ?_
  clear hm a; intro a hm
  have hq_7 : Reps (Kd.int .i64) Mem.no ([x2] : List Int) _ := ((Reps.one (d := (Kd.int .i64)) (x := x2) (show (Kd.int .i64).K _ _ [.int .i64 x2] from rfl)).append (Reps.nil (Kd.int .i64) _))
  refine s_buildSlice hm rfl Try.underlying23 ti3 rfl rfl rfl (.cons rfl .nil) rfl rfl rfl hS hq_7 rfl ?_
  intro w_3 v_4 M_5 hS' ho_6
  clear hm a; intro a hm
  replace hS : Sep w0 w_3 [Mem.no, Mem.one g_2 (.cells ([.int .i64 0, .int .i64 0, .int .i64 0, .int .i64 0, .int .i64 0, .int .i64 0, .bool false, .int .i64 0, .int .i64 0, .int .i64 0, .int .i64 0, .slice none 0 0, .int .i64 0, .int .i64 0, .slice none 0 0, .slice none 0 0, .int .i64 0, .int .i64 0, .int .i64 0, .int .i64 0, .int .i64 0, .slice none 0 0, .slice none 0 0, .slice none 0 0] : List Value).toArray 29 (0, 0)), M_5] Z := hS'
  clear hS' hq_7
  refine s_move hm rfl rfl ?_
  clear hm a; intro a hm
  obtain ⟨t_9, et_9, H⟩ := Option.bind_eq_some_iff.1 H
  refine s_call hm rfl Try.call67 rfl (slices_Repeat_sint_int.calls K ([x2] : List Int) _ (mn (mx x1 1) 7) t_9 w0 _ _ _ (Mem.le.refl _) (hS.enter [] (by decide)) (ho_6.rd (hS.own_zed [] 1 (by decide)) (Mem.no_le _)) et_9) ?_
  rintro v_13 w_10 ⟨_, N_11, M_15, rfl, hS', hr_14⟩
  clear hm a; intro a hm
  obtain ⟨N_12, hS'', le_12, ln_12⟩ := hS.call [] (by decide) rfl (l' := []) (ow := [M_15]) rfl hS'
  replace hS : Sep w0 w_10 [N_12, Mem.one g_2 (.cells ([.int .i64 0, .int .i64 0, .int .i64 0, .int .i64 0, .int .i64 0, .int .i64 0, .bool false, .int .i64 0, .int .i64 0, .int .i64 0, .int .i64 0, .slice none 0 0, .int .i64 0, .int .i64 0, .slice none 0 0, .slice none 0 0, .int .i64 0, .int .i64 0, .int .i64 0, .int .i64 0, .int .i64 0, .slice none 0 0, .slice none 0 0, .slice none 0 0] : List Value).toArray 29 (0, 0)), M_5, M_15] Z := hS''
  clear hS' hS''
  refine s_build hm rfl ti29 pl29 rfl (.cons rfl (.cons rfl (.cons rfl (.cons rfl (.cons hr_14.cells .nil))))) (cs := [.int .i64 7, .int .i64 0, .int .i64 0, .int .i64 x0, .int .i64 0, .int .i64 0, .bool false, .int .i64 0, .int .i64 0, .int .i64 0, .int .i64 0, .slice none 0 0, .int .i64 1, .int .i64 x2, v_13, .slice none 0 0, .int .i64 0, .int .i64 0, .int .i64 0, .int .i64 0, .int .i64 0, .slice none 0 0, .slice none 0 0, .slice none 0 0]) (by kernel_rfl) ?_
  clear hm a; intro a hm
  obtain ⟨w_17, hs', hS'⟩ := hS.store (P := Try.prog) (p := 1) (o := 0) (t := 29) (v := .agg ([.int .i64 7, .int .i64 0, .int .i64 0, .int .i64 x0, .int .i64 0, .int .i64 0, .bool false, .int .i64 0, .int .i64 0, .int .i64 0, .int .i64 0, .slice none 0 0, .int .i64 1, .int .i64 x2, v_13, .slice none 0 0, .int .i64 0, .int .i64 0, .int .i64 0, .int .i64 0, .int .i64 0, .slice none 0 0, .slice none 0 0, .slice none 0 0] : List Value).toArray) (vs := [.int .i64 7, .int .i64 0, .int .i64 0, .int .i64 x0, .int .i64 0, .int .i64 0, .bool false, .int .i64 0, .int .i64 0, .int .i64 0, .int .i64 0, .slice none 0 0, .int .i64 1, .int .i64 x2, v_13, .slice none 0 0, .int .i64 0, .int .i64 0, .int .i64 0, .int .i64 0, .int .i64 0, .slice none 0 0, .slice none 0 0, .slice none 0 0]) rfl ti29 rfl rfl rfl (by intro u hu; simp only [List.mem_cons, List.not_mem_nil, or_false] at hu; rcases hu with rfl | rfl | rfl | rfl | rfl | rfl | rfl | rfl | rfl | rfl | rfl | rfl | rfl | rfl | rfl | rfl | rfl | rfl | rfl | rfl | rfl | rfl | rfl | rfl <;> first | rfl | exact hr_14.one)
  refine s_store hm rfl rfl hs' ?_
  replace hS : Sep w0 w_17 [N_12, Mem.one g_2 (.cells ([.int .i64 7, .int .i64 0, .int .i64 0, .int .i64 x0, .int .i64 0, .int .i64 0, .bool false, .int .i64 0, .int .i64 0, .int .i64 0, .int .i64 0, .slice none 0 0, .int .i64 1, .int .i64 x2, v_13, .slice none 0 0, .int .i64 0, .int .i64 0, .int .i64 0, .int .i64 0, .int .i64 0, .slice none 0 0, .slice none 0 0, .slice none 0 0] : List Value).toArray 29 (0, 0)), M_5, M_15] Z := hS'
  clear hs' hS'
  refine wpList_nil ?_
  replace hm : Fr 17 a [(6, .pointer (some ⟨g_2, 0, none⟩))] := hm.keep [6]
  refine x_then_n ?_
  refine wp_ret ?_
  have hS' := hS.room
  replace hS : Sep w0 w_17 [N_12, Mem.one g_2 (.cells ([.int .i64 7, .int .i64 0, .int .i64 0, .int .i64 x0, .int .i64 0, .int .i64 0, .bool false, .int .i64 0, .int .i64 0, .int .i64 0, .int .i64 0, .slice none 0 0, .int .i64 1, .int .i64 x2, v_13, .slice none 0 0, .int .i64 0, .int .i64 0, .int .i64 0, .int .i64 0, .int .i64 0, .slice none 0 0, .slice none 0 0, .slice none 0 0] : List Value).toArray 29 (0, 0)), M_5, M_15, Mem.no] Z := hS'
  clear hS'
  replace hS : Sep w0 w_17 [N_12, Mem.one g_2 (.cells ([.int .i64 7, .int .i64 0, .int .i64 0, .int .i64 x0, .int .i64 0, .int .i64 0, .bool false, .int .i64 0, .int .i64 0, .int .i64 0, .int .i64 0, .slice none 0 0, .int .i64 1, .int .i64 x2, v_13, .slice none 0 0, .int .i64 0, .int .i64 0, .int .i64 0, .int .i64 0, .int .i64 0, .slice none 0 0, .slice none 0 0, .slice none 0 0] : List Value).toArray 29 (0, 0)), M_5, M_15, Mem.no] Z := hS
  have hS' := hS.room
  replace hS : Sep w0 w_17 [N_12, Mem.one g_2 (.cells ([.int .i64 7, .int .i64 0, .int .i64 0, .int .i64 x0, .int .i64 0, .int .i64 0, .bool false, .int .i64 0, .int .i64 0, .int .i64 0, .int .i64 0, .slice none 0 0, .int .i64 1, .int .i64 x2, v_13, .slice none 0 0, .int .i64 0, .int .i64 0, .int .i64 0, .int .i64 0, .int .i64 0, .slice none 0 0, .slice none 0 0, .slice none 0 0] : List Value).toArray 29 (0, 0)), M_5, M_15, Mem.no, Mem.no] Z := hS'
  clear hS'
  replace hS : Sep w0 w_17 [N_12, Mem.one g_2 (.cells ([.int .i64 7, .int .i64 0, .int .i64 0, .int .i64 x0, .int .i64 0, .int .i64 0, .bool false, .int .i64 0, .int .i64 0, .int .i64 0, .int .i64 0, .slice none 0 0, .int .i64 1, .int .i64 x2, v_13, .slice none 0 0, .int .i64 0, .int .i64 0, .int .i64 0, .int .i64 0, .int .i64 0, .slice none 0 0, .slice none 0 0, .slice none 0 0] : List Value).toArray 29 (0, 0)), M_5, M_15, Mem.no, Mem.no] Z := hS
  have hS' := hS.room
  replace hS : Sep w0 w_17 [N_12, Mem.one g_2 (.cells ([.int .i64 7, .int .i64 0, .int .i64 0, .int .i64 x0, .int .i64 0, .int .i64 0, .bool false, .int .i64 0, .int .i64 0, .int .i64 0, .int .i64 0, .slice none 0 0, .int .i64 1, .int .i64 x2, v_13, .slice none 0 0, .int .i64 0, .int .i64 0, .int .i64 0, .int .i64 0, .int .i64 0, .slice none 0 0, .slice none 0 0, .slice none 0 0] : List Value).toArray 29 (0, 0)), M_5, M_15, Mem.no, Mem.no, Mem.no] Z := hS'
  clear hS'
  replace hS : Sep w0 w_17 [N_12, Mem.one g_2 (.cells ([.int .i64 7, .int .i64 0, .int .i64 0, .int .i64 x0, .int .i64 0, .int .i64 0, .bool false, .int .i64 0, .int .i64 0, .int .i64 0, .int .i64 0, .slice none 0 0, .int .i64 1, .int .i64 x2, v_13, .slice none 0 0, .int .i64 0, .int .i64 0, .int .i64 0, .int .i64 0, .int .i64 0, .slice none 0 0, .slice none 0 0, .slice none 0 0] : List Value).toArray 29 (0, 0)), M_5, M_15, Mem.no, Mem.no, Mem.no] Z := hS
  have hS' := hS.room
  replace hS : Sep w0 w_17 [N_12, Mem.one g_2 (.cells ([.int .i64 7, .int .i64 0, .int .i64 0, .int .i64 x0, .int .i64 0, .int .i64 0, .bool false, .int .i64 0, .int .i64 0, .int .i64 0, .int .i64 0, .slice none 0 0, .int .i64 1, .int .i64 x2, v_13, .slice none 0 0, .int .i64 0, .int .i64 0, .int .i64 0, .int .i64 0, .int .i64 0, .slice none 0 0, .slice none 0 0, .slice none 0 0] : List Value).toArray 29 (0, 0)), M_5, M_15, Mem.no, Mem.no, Mem.no, Mem.no] Z := hS'
  clear hS'
  replace hS : Sep w0 w_17 [N_12, Mem.one g_2 (.cells ([.int .i64 7, .int .i64 0, .int .i64 0, .int .i64 x0, .int .i64 0, .int .i64 0, .bool false, .int .i64 0, .int .i64 0, .int .i64 0, .int .i64 0, .slice none 0 0, .int .i64 1, .int .i64 x2, v_13, .slice none 0 0, .int .i64 0, .int .i64 0, .int .i64 0, .int .i64 0, .int .i64 0, .slice none 0 0, .slice none 0 0, .slice none 0 0] : List Value).toArray 29 (0, 0)), M_5, M_15, Mem.no, Mem.no, Mem.no, Mem.no] Z := hS
  have hS' := hS.room
  replace hS : Sep w0 w_17 [N_12, Mem.one g_2 (.cells ([.int .i64 7, .int .i64 0, .int .i64 0, .int .i64 x0, .int .i64 0, .int .i64 0, .bool false, .int .i64 0, .int .i64 0, .int .i64 0, .int .i64 0, .slice none 0 0, .int .i64 1, .int .i64 x2, v_13, .slice none 0 0, .int .i64 0, .int .i64 0, .int .i64 0, .int .i64 0, .int .i64 0, .slice none 0 0, .slice none 0 0, .slice none 0 0] : List Value).toArray 29 (0, 0)), M_5, M_15, Mem.no, Mem.no, Mem.no, Mem.no, Mem.no] Z := hS'
  clear hS'
  replace hS : Sep w0 w_17 [N_12, Mem.one g_2 (.cells ([.int .i64 7, .int .i64 0, .int .i64 0, .int .i64 x0, .int .i64 0, .int .i64 0, .bool false, .int .i64 0, .int .i64 0, .int .i64 0, .int .i64 0, .slice none 0 0, .int .i64 1, .int .i64 x2, v_13, .slice none 0 0, .int .i64 0, .int .i64 0, .int .i64 0, .int .i64 0, .int .i64 0, .slice none 0 0, .slice none 0 0, .slice none 0 0] : List Value).toArray 29 (0, 0)), M_5, M_15, Mem.no, Mem.no, Mem.no, Mem.no, Mem.no] Z := hS
  obtain rfl := Option.some.inj H
  exact f_ret hm (rs := [.cell 6 29]) rfl (.cell rfl (hS.load_agg (p := 1) (us := [.int .i64 7, .int .i64 0, .int .i64 0, .int .i64 x0, .int .i64 0, .int .i64 0, .bool false, .int .i64 0, .int .i64 0, .int .i64 0, .int .i64 0, .slice none 0 0, .int .i64 1, .int .i64 x2, v_13, .slice none 0 0, .int .i64 0, .int .i64 0, .int .i64 0, .int .i64 0, .int .i64 0, .slice none 0 0, .slice none 0 0, .slice none 0 0]) rfl Try.underlying29 rfl ti29 rfl rfl) .nil) ⟨_, rfl, .slice none 0 0, v_13, .slice none 0 0, .slice none 0 0, .slice none 0 0, .slice none 0 0, N_12, Mem.no, M_15, Mem.no, Mem.no, Mem.no, Mem.no, rfl, (Sep.sel hS [0, 4, 3, 5, 6, 7, 8] (by decide)), (Own.nil Kd.u8 5 Mem.no), hr_14, (Own.nil (Kd.int .i64) 3 Mem.no), (Own.nil Kd.u8 5 Mem.no), (Own.nil Kd.u8 5 Mem.no), (Own.nil Kd.u8 5 Mem.no)⟩


end Go.Proofs
