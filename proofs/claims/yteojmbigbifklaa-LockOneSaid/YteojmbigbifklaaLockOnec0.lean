/- What the calls do: each function once. -/
import Derived.Test.YteojmbigbifklaaFacts
namespace Go.Proofs
open Go.Gp
set_option linter.unusedVariables false
set_option maxHeartbeats 4000000 in
theorem slices_Clone_sint_int.calls (x0 : List Int) (p0_0 : Value) (r : List Int) (w0 w : World) (Z A : Mem) (hA : A.le Z) (hS : Sep w0 w [] Z) (hp0_0 : Rd (Kd.int .i64) A p0_0 x0)
    (H : slices_Clone_sint_int.f x0 = some r) :
    Calls Try.prog 39 [p0_0].toArray w (Ret fun v w' => ∃ (u0 : Value) (N : Mem) (M0 : Mem), v = u0 ∧ Sep w0 w' [N, M0] Z ∧ Own (Kd.int .i64) 3 M0 Mem.no u0 r) := by
  unfold slices_Clone_sint_int.f at H
  refine f_enter _ Try.func39 rfl Try.ntmps39 rfl fun a hm => ?_
  replace hm : Fr 8 a [(0, p0_0)] := hm
  replace hS := hS.start
  replace hS : Sep w0 w [Mem.no] Z := hS
  refine wp_seq ?_
  refine wp_region_lit ?_
  refine s_assign hm rfl rfl ?_
  clear hm a; intro a hm
  refine wpList_nil ?_
  replace hm : Fr 8 a [(0, p0_0)] := hm.keep [0]
  refine x_then_n ?_
  refine c_seq fun KJ hKJ => ?_
  refine wp_seq ?_
  refine wp_region_lit ?_
  refine s_move hm rfl rfl ?_
  clear hm a; intro a hm
  refine s_slNil hm rfl Try.underlying22 rfl hp0_0 fun b hb => ?_
  clear hm a; intro a hm
  refine wpList_nil ?_
  refine x_then_n ?_
  cases b with
  | true =>
    have hx := hb rfl
    subst hx
    refine c_cond_t hm rfl rfl ?_
    refine wp_seq ?_
    refine wp_region_lit ?_
    refine s_assign hm rfl rfl ?_
    clear hm a; intro a hm
    refine wpList_nil ?_
    replace hm : Fr 8 a [(2, .slice none 0 0)] := hm.keep [2]
    refine x_then_n ?_
    refine wp_ret (x_then_r ?_)
    obtain rfl := (app_some H).2
    replace hS := hS.room
    exact f_ret hm (rs := [.tmp 2]) rfl (.tmp rfl .nil) ⟨_, rfl, _, Mem.no, Mem.no, rfl, hS, Own.nil _ _ _⟩
  | false =>
    refine c_cond_f hm rfl rfl ?_
    refine wp_skip ?_
    refine x_then_n (hKJ _ _ ?_)
    refine wp_seq ?_
    refine wp_region_lit ?_
    have hq5 : Reps (Kd.int .i64) Mem.no ([] : List Int) _ := (Reps.nil (Kd.int .i64) _)
    refine s_buildSlice hm rfl Try.underlying22 ti3 rfl rfl rfl .nil rfl rfl rfl hS hq5 rfl ?_
    intro w1 v2 M3 hS' ho4
    clear hm a; intro a hm
    replace hS : Sep w0 w1 [Mem.no, M3] Z := hS'
    clear hS' hq5
    refine s_move hm rfl rfl ?_
    clear hm a; intro a hm
    refine s_append (J := Mem.no) (I' := Mem.no) (p := 1) 17592186044416 hm rfl rfl rfl Try.underlying22 ti3 rfl rfl rfl rfl hS rfl ho4 (Src.flat (flat_int .i64) (hp0_0.src (hA.trans hS.old))) (Mem.le.refl _) (Mem.le.refl _) H ?_
    intro w8 v9 M10 hS' ho11
    clear hm a; intro a hm
    refine s_assign hm rfl rfl ?_
    clear hm a; intro a hm
    refine wpList_nil ?_
    replace hm : Fr 8 a [(2, v9)] := hm.keep [2]
    refine x_then_n ?_
    refine wp_ret ?_
    exact f_ret hm (rs := [.tmp 2]) rfl (.tmp rfl .nil) ⟨_, rfl, _, Mem.no, M10, rfl, hS', ho11⟩

set_option maxHeartbeats 4000000 in
set_option maxRecDepth 20000 in
theorem slices_Index_sint_int.calls (K : Nat) (x0 : List Int) (p0_0 : Value) (x1 : Int) (r : Int) (w0 w : World) (Z A : Mem) (hA : A.le Z) (hS : Sep w0 w [] Z) (hp0_0 : Rd (Kd.int .i64) A p0_0 x0)
    (H : slices_Index_sint_int.f K x0 x1 = some r) :
    Calls Try.prog 40 [p0_0, .int .i64 x1].toArray w (Ret fun v w' => ∃ (N : Mem), v = .int .i64 r ∧ Sep w0 w' [N] Z) := by
  unfold slices_Index_sint_int.f at H
  refine f_enter _ Try.func40 rfl Try.ntmps40 rfl fun a hm => ?_
  replace hm : Fr 19 a [(0, p0_0), (1, .int .i64 x1)] := hm
  replace hS := hS.start
  replace hS : Sep w0 w [Mem.no] Z := hS
  refine wp_seq ?_
  refine wp_region_lit ?_
  refine s_assign hm rfl rfl ?_
  clear hm a; intro a hm
  refine wpList_nil ?_
  replace hm : Fr 19 a [(0, p0_0), (1, .int .i64 x1), (4, .int .i64 0)] := hm.keep [0, 1, 4]
  refine x_then_n ?_
  refine c_seq fun KJ_1 hKJ_1 => ?_
  refine wp_seq ?_
  refine wp_region_lit ?_
  refine s_move hm rfl rfl ?_
  clear hm a; intro a hm
  refine s_len hm rfl Try.underlying22 rfl hp0_0 ?_
  clear hm a; intro a hm
  refine s_move hm rfl rfl ?_
  clear hm a; intro a hm
  refine wpList_nil ?_
  replace hm : Fr 19 a [(0, p0_0), (1, .int .i64 x1), (4, .int .i64 0), (7, .int .i64 (x0.length : Int)), (8, .int .i64 0)] := hm.keep [0, 1, 4, 7, 8]
  refine x_then_n ?_
  have hJ_j_4 : slices_Index_sint_int.J1 K = some r → ∀ (a : Act) (w_3 : World), (∃ (N_2 : Mem), Fr 19 a [(4, .int .i64 0)] ∧ Sep w0 w_3 [N_2] Z ∧ Mem.no.le N_2) → KJ_1 a w_3 := by
    clear H hm hS a
    rintro H a w_3 ⟨N_2, hm, hS, le_2⟩
    unfold slices_Index_sint_int.J1 at H
    refine hKJ_1 _ _ ?_
    refine wp_seq ?_
    refine wp_region_lit ?_
    refine s_assign hm rfl rfl ?_
    clear hm a; intro a hm
    refine wpList_nil ?_
    replace hm : Fr 19 a [(4, .int .i64 (-1))] := hm.keep [4]
    refine x_then_n ?_
    refine wp_ret ?_
    obtain rfl := Option.some.inj H
    exact f_ret hm (rs := [.tmp 4]) rfl (.tmp rfl .nil) ⟨_, rfl, N_2, rfl, (Sep.sel hS [0] (by decide))⟩
  clear hKJ_1
  replace hS : Sep w0 w [Mem.no] Z := hS
  replace hm : Fr 19 a [(0, p0_0), (1, .int .i64 x1), (4, .int .i64 0), (7, .int .i64 (x0.length : Int)), (8, .int .i64 0)] := hm.keep [0, 1, 4, 7, 8]
  refine c_block ?_
  refine c_loop (fun k_7 a w_7 => ∃ (x_6 : Int) (N_5 : Mem), slices_Index_sint_int.L1 K x0 x1 (fun v => slices_Index_sint_int.J1 K) k_7 x_6 = some r ∧ Fr 19 a [(0, p0_0), (1, .int .i64 x1), (4, .int .i64 0), (7, .int .i64 (x0.length : Int)), (8, .int .i64 x_6)] ∧ Sep w0 w_7 [N_5] Z ∧ Mem.no.le N_5) K ⟨0, Mem.no, H, hm, (Sep.sel hS [0] (by decide)), (Mem.le.refl _)⟩ (fun a w h => by obtain ⟨_, _, H, _⟩ := h; cases (show (none : Option (Int)) = some r from H)) ?_
  clear hm hS a H
  rintro k_7 a w_7 KL_7 hKL_7 ⟨x_6, N_5, H, hm, hS, le_5⟩
  replace H : slices_Index_sint_int.B1 K x0 x1 (fun v => slices_Index_sint_int.J1 K) (slices_Index_sint_int.L1 K x0 x1 (fun v => slices_Index_sint_int.J1 K) k_7) x_6 = some r := H
  unfold slices_Index_sint_int.B1 at H
  refine wp_seq ?_
  refine wp_region_lit ?_
  refine s_cmp (b := decide (x_6 < (x0.length : Int))) hm rfl rfl rfl (.inr (.inr (.inl ⟨rfl, rfl⟩))) ?_
  clear hm a; intro a hm
  refine wpList_nil ?_
  replace hm : Fr 19 a [(0, p0_0), (1, .int .i64 x1), (4, .int .i64 0), (7, .int .i64 (x0.length : Int)), (8, .int .i64 x_6), (9, .bool (decide (x_6 < (x0.length : Int))))] := hm.keep [0, 1, 4, 7, 8, 9]
  refine x_then_n ?_
  refine c_seq fun KJ_9 hKJ_9 => ?_
  by_cases hc_10 : x_6 < (x0.length : Int)
  · rw [if_pos hc_10] at H
    refine c_cond_t hm rfl (decide_eq_true hc_10) ?_
    refine wp_skip ?_
    refine x_then_n (hKJ_9 _ _ ?_)
    refine c_seq fun KJ_11 hKJ_11 => ?_
    refine c_block ?_
    refine wp_seq ?_
    refine wp_region_lit ?_
    refine s_move hm rfl rfl ?_
    clear hm a; intro a hm
    refine s_assign hm rfl rfl ?_
    clear hm a; intro a hm
    refine wpList_nil ?_
    replace hm : Fr 19 a [(0, p0_0), (1, .int .i64 x1), (4, .int .i64 0), (5, .int .i64 x_6), (7, .int .i64 (x0.length : Int)), (8, .int .i64 x_6)] := hm.keep [0, 1, 4, 5, 7, 8]
    refine x_then_n ?_
    refine wp_seq ?_
    refine wp_region_lit ?_
    refine s_move hm rfl rfl ?_
    clear hm a; intro a hm
    refine s_move hm rfl rfl ?_
    clear hm a; intro a hm
    refine s_move hm rfl rfl ?_
    clear hm a; intro a hm
    obtain ⟨t_12, et_12, H⟩ := Option.bind_eq_some_iff.1 H
    refine v_index hm rfl Try.underlying22 ti3 rfl rfl rfl hp0_0 (hA.trans hS.old) et_12 ?_
    intro ad_13 cs_14 hk_15 hc_16
    obtain rfl := (show cs_14 = [.int .i64 t_12] from hk_15)
    clear hm a; intro a hm
    refine s_load hm rfl rfl (el_one (o := 0) hc_16 Try.underlying3 rfl rfl) ?_
    clear hm a; intro a hm
    refine s_cmp (b := (x1 == t_12)) hm rfl rfl rfl (.inl ⟨rfl, rfl⟩) ?_
    clear hm a; intro a hm
    refine wpList_nil ?_
    replace hm : Fr 19 a [(0, p0_0), (1, .int .i64 x1), (4, .int .i64 0), (5, .int .i64 x_6), (7, .int .i64 (x0.length : Int)), (8, .int .i64 x_6), (16, .bool (x1 == t_12))] := hm.keep [0, 1, 4, 5, 7, 8, 16]
    refine x_then_n ?_
    by_cases hc_17 : x1 = t_12
    · rw [if_pos hc_17] at H
      refine c_cond_t hm rfl (beq_iff_eq.2 hc_17) ?_
      refine wp_seq ?_
      refine wp_region_lit ?_
      refine s_move hm rfl rfl ?_
      clear hm a; intro a hm
      refine s_assign hm rfl rfl ?_
      clear hm a; intro a hm
      refine wpList_nil ?_
      replace hm : Fr 19 a [(0, p0_0), (1, .int .i64 x1), (4, .int .i64 x_6), (7, .int .i64 (x0.length : Int)), (8, .int .i64 x_6)] := hm.keep [0, 1, 4, 7, 8]
      refine x_then_n ?_
      refine wp_ret (x_block_r (x_then_r (x_then_r (x_block_r (x_then_r ?_)))))
      obtain rfl := Option.some.inj H
      exact f_ret hm (rs := [.tmp 4]) rfl (.tmp rfl .nil) ⟨_, rfl, N_5, rfl, (Sep.sel hS [0] (by decide))⟩
    · rw [if_neg hc_17] at H
      refine c_cond_f hm rfl (beq_eq_false_iff_ne.2 hc_17) ?_
      refine wp_skip ?_
      refine x_block_n ?_
      refine x_then_n (hKJ_11 _ _ ?_)
      refine wp_region_lit ?_
      refine s_arith (r := w64 (x_6 + 1)) hm rfl rfl rfl (.inl ⟨rfl, rfl⟩) ?_
      clear hm a; intro a hm
      refine s_move hm rfl rfl ?_
      clear hm a; intro a hm
      refine wpList_nil ?_
      replace hm : Fr 19 a [(0, p0_0), (1, .int .i64 x1), (4, .int .i64 0), (7, .int .i64 (x0.length : Int)), (8, .int .i64 (w64 (x_6 + 1)))] := hm.keep [0, 1, 4, 7, 8]
      refine x_then_n (hKL_7 _ _ ?_)
      replace hS : Sep w0 w_7 [N_5] Z := hS
      replace hm : Fr 19 a [(0, p0_0), (1, .int .i64 x1), (4, .int .i64 0), (7, .int .i64 (x0.length : Int)), (8, .int .i64 (w64 (x_6 + 1)))] := hm.keep [0, 1, 4, 7, 8]
      exact ⟨w64 (x_6 + 1), N_5, H, hm, (Sep.sel hS [0] (by decide)), le_5⟩
  · rw [if_neg hc_10] at H
    refine c_cond_f hm rfl (decide_eq_false hc_10) ?_
    refine wp_exit (x_then_x (x_then_x (x_block_t ?_)))
    replace hS : Sep w0 w_7 [N_5] Z := hS
    replace hm : Fr 19 a [(4, .int .i64 0)] := hm.keep [4]
    exact x_then_n (hJ_j_4  H _ _ ⟨N_5, hm, (Sep.sel hS [0] (by decide)), le_5⟩)

set_option maxHeartbeats 4000000 in
set_option maxRecDepth 20000 in
theorem slices_Delete_sint_int.calls (x0 : List Int) (p0_0 : Value) (M0_0 : Mem) (x1 : Int) (x2 : Int) (r : (List Int)) (w0 w : World) (Z A : Mem) (hA : A.le Z) (hS : Sep w0 w [M0_0] Z) (hp0_0 : Own (Kd.int .i64) 3 M0_0 Mem.no p0_0 x0)
    (H : slices_Delete_sint_int.f x0 x1 x2 = some r) :
    Calls Try.prog 41 [p0_0, .int .i64 x1, .int .i64 x2].toArray w (Ret fun v w' => ∃ (u0 : Value) (N : Mem) (M0 : Mem), v = u0 ∧ Sep w0 w' [N, Mem.no, M0] Z ∧ Own (Kd.int .i64) 3 M0 Mem.no u0 r) := by
  unfold slices_Delete_sint_int.f at H
  refine f_enter _ Try.func41 rfl Try.ntmps41 rfl fun a hm => ?_
  replace hm : Fr 33 a [(0, p0_0), (1, .int .i64 x1), (2, .int .i64 x2)] := hm
  replace hS := hS.start
  replace hS : Sep w0 w [Mem.no, M0_0] Z := hS
  refine wp_seq ?_
  refine wp_region_lit ?_
  refine s_assign hm rfl rfl ?_
  clear hm a; intro a hm
  refine wpList_nil ?_
  replace hm : Fr 33 a [(0, p0_0), (1, .int .i64 x1), (2, .int .i64 x2), (6, .slice none 0 0)] := hm.keep [0, 1, 2, 6]
  refine x_then_n ?_
  refine wp_seq ?_
  refine wp_region_lit ?_
  refine s_move hm rfl rfl ?_
  clear hm a; intro a hm
  refine s_move hm rfl rfl ?_
  clear hm a; intro a hm
  refine s_move hm rfl rfl ?_
  clear hm a; intro a hm
  refine s_move hm rfl rfl ?_
  clear hm a; intro a hm
  refine s_lenO hm rfl Try.underlying22 rfl hp0_0 ?_
  clear hm a; intro a hm
  obtain ⟨u_1, eu_1, H⟩ := Option.bind_eq_some_iff.1 H
  refine s_slice3 hm rfl Try.underlying22 ti3 rfl rfl rfl rfl hp0_0 (must_some eu_1) ?_
  intro v_2
  clear hm a; intro a hm
  refine wpList_nil ?_
  replace hm : Fr 33 a [(0, p0_0), (1, .int .i64 x1), (2, .int .i64 x2), (6, .slice none 0 0)] := hm.keep [0, 1, 2, 6]
  refine x_then_n ?_
  refine c_seq fun KJ_3 hKJ_3 => ?_
  refine wp_seq ?_
  refine wp_region_lit ?_
  refine s_move hm rfl rfl ?_
  clear hm a; intro a hm
  refine s_move hm rfl rfl ?_
  clear hm a; intro a hm
  refine s_cmp (b := (x1 == x2)) hm rfl rfl rfl (.inl ⟨rfl, rfl⟩) ?_
  clear hm a; intro a hm
  refine wpList_nil ?_
  replace hm : Fr 33 a [(0, p0_0), (1, .int .i64 x1), (2, .int .i64 x2), (6, .slice none 0 0), (16, .bool (x1 == x2))] := hm.keep [0, 1, 2, 6, 16]
  refine x_then_n ?_
  by_cases hc_4 : x1 = x2
  · rw [if_pos hc_4] at H
    refine c_cond_t hm rfl (beq_iff_eq.2 hc_4) ?_
    refine wp_seq ?_
    refine wp_region_lit ?_
    refine s_move hm rfl rfl ?_
    clear hm a; intro a hm
    refine s_assign hm rfl rfl ?_
    clear hm a; intro a hm
    refine wpList_nil ?_
    replace hm : Fr 33 a [(0, p0_0), (1, .int .i64 x1), (2, .int .i64 x2), (6, p0_0)] := hm.keep [0, 1, 2, 6]
    refine x_then_n ?_
    refine wp_ret (x_then_r ?_)
    obtain rfl := Option.some.inj H
    exact f_ret hm (rs := [.tmp 6]) rfl (.tmp rfl .nil) ⟨_, rfl, p0_0, Mem.no, M0_0, rfl, (Sep.sel hS [0, 1000, 1] (by decide)), hp0_0⟩
  · rw [if_neg hc_4] at H
    refine c_cond_f hm rfl (beq_eq_false_iff_ne.2 hc_4) ?_
    refine wp_skip ?_
    refine x_then_n (hKJ_3 _ _ ?_)
    refine wp_seq ?_
    refine wp_region_lit ?_
    refine s_move hm rfl rfl ?_
    clear hm a; intro a hm
    refine s_lenO hm rfl Try.underlying22 rfl hp0_0 ?_
    clear hm a; intro a hm
    refine s_assign hm rfl rfl ?_
    clear hm a; intro a hm
    refine wpList_nil ?_
    replace hm : Fr 33 a [(0, p0_0), (1, .int .i64 x1), (2, .int .i64 x2), (6, .slice none 0 0), (7, .int .i64 (x0.length : Int))] := hm.keep [0, 1, 2, 6, 7]
    refine x_then_n ?_
    refine c_seq fun KJ_5 hKJ_5 => ?_
    refine h_begin (S := fun w => Sep w0 w [Mem.no, Mem.no] Z) 8 (by kernel_rfl) rfl [false, false, false, false, false, false, false, false].toArray rfl hS fun w_6 hS => ?_
    replace hS : Sep w0 w_6 [Mem.no, M0_0] Z := hS
    refine h_take 0 [true, false, false, false, false, false, false, false].toArray rfl (by kernel_rfl) (by kernel_rfl) (by kernel_rfl) (fun _ _ _ _ h => h) rfl rfl rfl rfl hm (hS.sub (.cons (Mem.le.refl _) (.cons (Mem.no_le _) (Sub.nil _)))) (v := p0_0) (fun w hS => r_move hm rfl) ?_
    clear hm a; intro a hm
    refine h_take 1 [true, true, false, false, false, false, false, false].toArray rfl (by kernel_rfl) (by kernel_rfl) (by kernel_rfl) (fun _ _ _ _ h => h) rfl rfl rfl rfl hm (hS.sub (.cons (Mem.le.refl _) (.cons (Mem.no_le _) (Sub.nil _)))) (v := .int .i64 x1) (fun w hS => r_move hm rfl) ?_
    clear hm a; intro a hm
    refine h_takeE 2 [true, true, true, false, false, false, false, false].toArray rfl (by kernel_rfl) (by kernel_rfl) (by kernel_rfl) (fun _ _ _ _ h => h) rfl rfl rfl rfl hm (hS.sub (.cons (Mem.le.refl _) (.cons (Mem.no_le _) (Sub.nil _)))) (f := fun v => v) (r_piece hm Try.underlying22 ti3 rfl rfl hp0_0 (hp0_0.room) rfl rfl (by have := (must_some eu_1); (try simp only [List.length_append, List.length_take, List.length_drop]); omega)) ?_
    intro v_7 hq_8
    clear hm a; intro a hm
    refine h_take 3 [true, true, true, true, false, false, false, false].toArray rfl (by kernel_rfl) (by kernel_rfl) (by kernel_rfl) (fun _ _ _ _ h => h) rfl rfl rfl rfl hm (hS.sub (.cons (Mem.le.refl _) (.cons (Mem.no_le _) (Sub.nil _)))) (v := p0_0) (fun w hS => r_move hm rfl) ?_
    clear hm a; intro a hm
    refine h_take 4 [true, true, true, true, true, false, false, false].toArray rfl (by kernel_rfl) (by kernel_rfl) (by kernel_rfl) (fun _ _ _ _ h => h) rfl rfl rfl rfl hm (hS.sub (.cons (Mem.le.refl _) (.cons (Mem.no_le _) (Sub.nil _)))) (v := .int .i64 x2) (fun w hS => r_move hm rfl) ?_
    clear hm a; intro a hm
    refine h_takeE 5 [true, true, true, true, true, true, false, false].toArray rfl (by kernel_rfl) (by kernel_rfl) (by kernel_rfl) (fun _ _ _ _ h => h) rfl rfl rfl rfl hm (hS.sub (.cons (Mem.le.refl _) (.cons (Mem.no_le _) (Sub.nil _)))) (f := fun v => v) (r_piece hm Try.underlying22 ti3 rfl rfl hp0_0 (hp0_0.room) rfl rfl (by have := (must_some eu_1); (try simp only [List.length_append, List.length_take, List.length_drop]); omega)) ?_
    intro v_9 hq_10
    clear hm a; intro a hm
    refine h_event 6 [true, true, true, true, true, true, true, false].toArray rfl (by kernel_rfl) rfl ?_
    refine s_appendP (p := 1) hm rfl Try.underlying22 ti3 rfl rfl rfl hp0_0 (by simpa using hq_8) hq_10 (by have := (must_some eu_1); omega) (by have := (must_some eu_1); omega) hS rfl ?_
    intro w_11 v_12 M_13 hS' ho_14 hr_15
    clear hm a; intro a hm
    replace hS : Sep w0 w_11 [Mem.no, M_13] Z := hS'
    clear hS'
    refine wpList_nil ?_
    refine x_then_n ⟨(hS.sub (.cons (Mem.le.refl _) (.cons (Mem.no_le _) (Sub.nil _)))), ?_⟩
    refine h_take 7 [true, true, true, true, true, true, true, true].toArray rfl (by kernel_rfl) (by kernel_rfl) (by kernel_rfl) (fun _ _ _ _ h => h) rfl rfl rfl rfl hm (hS.sub (.cons (Mem.le.refl _) (.cons (Mem.no_le _) (Sub.nil _)))) (v := v_12) (fun w hS => r_assign hm rfl) ?_
    clear hm a; intro a hm
    refine h_done (by kernel_rfl) ?_
    replace hm : Fr 33 a [(0, v_12), (6, .slice none 0 0), (7, .int .i64 (x0.length : Int))] := hm.keep [0, 6, 7]
    refine x_then_n (hKJ_5 _ _ ?_)
    refine wp_seq ?_
    refine wp_region_lit ?_
    refine s_move hm rfl rfl ?_
    clear hm a; intro a hm
    refine s_move hm rfl rfl ?_
    clear hm a; intro a hm
    refine s_lenO hm rfl Try.underlying22 rfl ho_14 ?_
    clear hm a; intro a hm
    refine s_move hm rfl rfl ?_
    clear hm a; intro a hm
    refine s_piece hm rfl Try.underlying22 ti3 rfl rfl ho_14 (hr_15) rfl rfl (by have := (must_some eu_1); (try simp only [List.length_append, List.length_take, List.length_drop]); omega) ?_
    intro v_17 hq_18
    clear hm a; intro a hm
    refine s_clearP (p := 1) hm Try.underlying22 ti3 rfl (by intro u hu; simp only [List.mem_cons, List.not_mem_nil, or_false] at hu; rcases hu with rfl <;> rfl) rfl ho_14 hq_18 (Nat.le_of_eq (Int.toNat_natCast _).symm) hS rfl ?_
    intro w_19 M_20 hS' ho_21
    replace hS : Sep w0 w_19 [Mem.no, M_20] Z := hS'
    clear hS'
    refine wpList_nil ?_
    replace hm : Fr 33 a [(0, v_12), (6, .slice none 0 0)] := hm.keep [0, 6]
    refine x_then_n ?_
    refine wp_seq ?_
    refine wp_region_lit ?_
    refine s_move hm rfl rfl ?_
    clear hm a; intro a hm
    refine s_assign hm rfl rfl ?_
    clear hm a; intro a hm
    refine wpList_nil ?_
    replace hm : Fr 33 a [(6, v_12)] := hm.keep [6]
    refine x_then_n ?_
    refine wp_ret ?_
    obtain rfl := Option.some.inj H
    exact f_ret hm (rs := [.tmp 6]) rfl (.tmp rfl .nil) ⟨_, rfl, v_12, Mem.no, M_20, rfl, (Sep.sel hS [0, 1000, 1] (by decide)), ho_21⟩

set_option maxHeartbeats 4000000 in
set_option maxRecDepth 20000 in
theorem lock_Free.calls (K : Nat) (x0 : List Int) (p0_0 : Value) (x1 : Int) (r : (List Int) × api_Result) (w0 w : World) (Z A : Mem) (hA : A.le Z) (hS : Sep w0 w [] Z) (hp0_0 : Rd (Kd.int .i64) A p0_0 x0)
    (H : lock_Free.f K x0 x1 = some r) :
    Calls Try.prog 12 [p0_0, .int .i64 x1].toArray w (Ret fun v w' => ∃ (u0 : Value) (u1 : Value) (N : Mem) (M0 : Mem) (M1 : Mem), v = .tuple [u0, .agg [.int .i64 r.2.Err, u1, .int .i64 r.2.N].toArray].toArray ∧ Sep w0 w' [N, M0, M1] Z ∧ Own (Kd.int .i64) 3 M0 Mem.no u0 r.1 ∧ Own Kd.u8 5 M1 Mem.no u1 r.2.Val) := by
  unfold lock_Free.f at H
  refine f_enter _ Try.func12 rfl Try.ntmps12 rfl fun a hm => ?_
  replace hm : Fr 30 a [(0, p0_0), (1, .int .i64 x1)] := hm
  replace hS := hS.start
  replace hS : Sep w0 w [Mem.no] Z := hS
  refine wp_seq ?_
  refine wp_region_lit ?_
  refine s_assign hm rfl rfl ?_
  clear hm a; intro a hm
  refine v_alloc hm rfl ti28 hS ?_
  intro w_1 g_2 hS'
  clear hm a; intro a hm
  replace hS : Sep w0 w_1 [Mem.no, Mem.one g_2 (.cells ([.int .i64 0, .slice none 0 0, .int .i64 0] : List Value).toArray 28 (0, 0))] Z := hS'
  clear hS'
  refine wpList_nil ?_
  replace hm : Fr 30 a [(0, p0_0), (1, .int .i64 x1), (4, .slice none 0 0), (5, .pointer (some ⟨g_2, 0, none⟩))] := hm.keep [0, 1, 4, 5]
  refine x_then_n ?_
  refine wp_seq ?_
  refine wp_region_lit ?_
  refine s_move hm rfl rfl ?_
  clear hm a; intro a hm
  obtain ⟨t_3, et_3, H⟩ := Option.bind_eq_some_iff.1 H
  refine s_call hm rfl Try.call39 rfl (slices_Clone_sint_int.calls x0 _ t_3 w0 _ _ _ (Mem.le.refl _) (hS.enter [] (by decide)) (hp0_0.mono (hA.trans (hS.le_zed []))) et_3) ?_
  rintro v_7 w_4 ⟨_, N_5, M_9, rfl, hS', hr_8⟩
  clear hm a; intro a hm
  obtain ⟨N_6, hS'', le_6, ln_6⟩ := hS.call [] (by decide) rfl (l' := []) (ow := [M_9]) rfl hS'
  replace hS : Sep w0 w_4 [N_6, Mem.one g_2 (.cells ([.int .i64 0, .slice none 0 0, .int .i64 0] : List Value).toArray 28 (0, 0)), M_9] Z := hS''
  clear hS' hS''
  refine s_assign hm rfl rfl ?_
  clear hm a; intro a hm
  refine wpList_nil ?_
  replace hm : Fr 30 a [(0, v_7), (1, .int .i64 x1), (4, .slice none 0 0), (5, .pointer (some ⟨g_2, 0, none⟩))] := hm.keep [0, 1, 4, 5]
  refine x_then_n ?_
  refine wp_seq ?_
  refine wp_region_lit ?_
  refine s_move hm rfl rfl ?_
  clear hm a; intro a hm
  refine s_move hm rfl rfl ?_
  clear hm a; intro a hm
  obtain ⟨t_11, et_11, H⟩ := Option.bind_eq_some_iff.1 H
  refine s_call hm rfl Try.call40 rfl (slices_Index_sint_int.calls K t_3 _ x1 t_11 w0 _ _ _ (Mem.le.refl _) (hS.enter [] (by decide)) (hr_8.rd (hS.own_zed [] 1 (by decide)) (Mem.no_le _)) et_11) ?_
  rintro _ w_12 ⟨N_13, rfl, hS'⟩
  clear hm a; intro a hm
  obtain ⟨N_14, hS'', le_14, ln_14⟩ := hS.call [] (by decide) rfl (l' := []) (ow := []) rfl hS'
  replace hS : Sep w0 w_12 [N_14, Mem.one g_2 (.cells ([.int .i64 0, .slice none 0 0, .int .i64 0] : List Value).toArray 28 (0, 0)), M_9] Z := hS''
  clear hS' hS''
  refine s_assign hm rfl rfl ?_
  clear hm a; intro a hm
  refine wpList_nil ?_
  replace hm : Fr 30 a [(0, v_7), (4, .slice none 0 0), (5, .pointer (some ⟨g_2, 0, none⟩)), (6, .int .i64 t_11)] := hm.keep [0, 4, 5, 6]
  refine x_then_n ?_
  refine c_seq fun KJ_15 hKJ_15 => ?_
  refine wp_seq ?_
  refine wp_region_lit ?_
  refine s_move hm rfl rfl ?_
  clear hm a; intro a hm
  refine s_cmp (b := decide (t_11 < 0)) hm rfl rfl rfl (.inr (.inr (.inl ⟨rfl, rfl⟩))) ?_
  clear hm a; intro a hm
  refine wpList_nil ?_
  replace hm : Fr 30 a [(0, v_7), (4, .slice none 0 0), (5, .pointer (some ⟨g_2, 0, none⟩)), (6, .int .i64 t_11), (13, .bool (decide (t_11 < 0)))] := hm.keep [0, 4, 5, 6, 13]
  refine x_then_n ?_
  by_cases hc_16 : t_11 < 0
  · rw [if_pos hc_16] at H
    refine c_cond_t hm rfl (decide_eq_true hc_16) ?_
    refine wp_seq ?_
    refine wp_region_lit ?_
    refine s_move hm rfl rfl ?_
    clear hm a; intro a hm
    refine s_build hm rfl ti28 pl28 rfl (.cons rfl .nil) (cs := [.int .i64 5, .slice none 0 0, .int .i64 0]) rfl ?_
    clear hm a; intro a hm
    refine s_assign hm rfl rfl ?_
    clear hm a; intro a hm
    obtain ⟨w_17, hs', hS'⟩ := hS.store (P := Try.prog) (p := 1) (o := 0) (t := 28) (v := .agg ([.int .i64 5, .slice none 0 0, .int .i64 0] : List Value).toArray) (vs := [.int .i64 5, .slice none 0 0, .int .i64 0]) rfl ti28 rfl rfl rfl (by intro u hu; simp only [List.mem_cons, List.not_mem_nil, or_false] at hu; rcases hu with rfl | rfl | rfl <;> rfl)
    refine s_store hm rfl rfl hs' ?_
    replace hS : Sep w0 w_17 [N_14, Mem.one g_2 (.cells ([.int .i64 5, .slice none 0 0, .int .i64 0] : List Value).toArray 28 (0, 0)), M_9] Z := hS'
    clear hs' hS'
    refine wpList_nil ?_
    replace hm : Fr 30 a [(0, v_7), (4, v_7), (5, .pointer (some ⟨g_2, 0, none⟩)), (6, .int .i64 t_11)] := hm.keep [0, 4, 5, 6]
    refine x_then_n ?_
    refine wp_ret (x_then_r ?_)
    have hS' := hS.room
    replace hS : Sep w0 w_17 [N_14, Mem.one g_2 (.cells ([.int .i64 5, .slice none 0 0, .int .i64 0] : List Value).toArray 28 (0, 0)), M_9, Mem.no] Z := hS'
    clear hS'
    replace hS : Sep w0 w_17 [N_14, Mem.one g_2 (.cells ([.int .i64 5, .slice none 0 0, .int .i64 0] : List Value).toArray 28 (0, 0)), M_9, Mem.no] Z := hS
    obtain rfl := Option.some.inj H
    exact f_ret hm (rs := [.tmp 4, .cell 5 28]) rfl (.tmp rfl (.cell rfl (hS.load_agg (p := 1) (us := [.int .i64 5, .slice none 0 0, .int .i64 0]) rfl Try.underlying28 rfl ti28 rfl rfl) .nil)) ⟨_, rfl, v_7, .slice none 0 0, N_14, M_9, Mem.no, rfl, (Sep.sel hS [0, 2, 3] (by decide)), hr_8, (Own.nil Kd.u8 5 Mem.no)⟩
  · rw [if_neg hc_16] at H
    refine c_cond_f hm rfl (decide_eq_false hc_16) ?_
    refine wp_skip ?_
    refine x_then_n (hKJ_15 _ _ ?_)
    refine wp_seq ?_
    refine wp_region_lit ?_
    refine s_move hm rfl rfl ?_
    clear hm a; intro a hm
    refine s_move hm rfl rfl ?_
    clear hm a; intro a hm
    refine s_move hm rfl rfl ?_
    clear hm a; intro a hm
    refine s_arith (r := w64 (t_11 + 1)) hm rfl rfl rfl (.inl ⟨rfl, rfl⟩) ?_
    clear hm a; intro a hm
    obtain ⟨t_19, et_19, H⟩ := Option.bind_eq_some_iff.1 H
    refine s_call hm rfl Try.call41 rfl (slices_Delete_sint_int.calls t_3 _ _ t_11 (w64 (t_11 + 1)) t_19 w0 _ _ _ (Mem.le.refl _) (hS.enter [1] (by decide)) hr_8 et_19) ?_
    rintro v_23 w_20 ⟨_, N_21, M_25, rfl, hS', hr_24⟩
    clear hm a; intro a hm
    obtain ⟨N_22, hS'', le_22, ln_22⟩ := hS.call [1] (by decide) rfl (l' := [Mem.no]) (ow := [M_25]) rfl hS'
    replace hS : Sep w0 w_20 [N_22, Mem.one g_2 (.cells ([.int .i64 0, .slice none 0 0, .int .i64 0] : List Value).toArray 28 (0, 0)), Mem.no, M_25] Z := hS''
    clear hS' hS''
    refine s_assign hm rfl rfl ?_
    clear hm a; intro a hm
    refine wpList_nil ?_
    replace hm : Fr 30 a [(0, v_23), (4, .slice none 0 0), (5, .pointer (some ⟨g_2, 0, none⟩))] := hm.keep [0, 4, 5]
    refine x_then_n ?_
    refine c_seq fun KJ_27 hKJ_27 => ?_
    refine wp_seq ?_
    refine wp_region_lit ?_
    refine s_move hm rfl rfl ?_
    clear hm a; intro a hm
    refine s_lenO hm rfl Try.underlying22 rfl hr_24 ?_
    clear hm a; intro a hm
    refine s_cmp (b := ((t_19.length : Int) == 0)) hm rfl rfl rfl (.inl ⟨rfl, rfl⟩) ?_
    clear hm a; intro a hm
    refine wpList_nil ?_
    replace hm : Fr 30 a [(0, v_23), (4, .slice none 0 0), (5, .pointer (some ⟨g_2, 0, none⟩)), (23, .bool ((t_19.length : Int) == 0))] := hm.keep [0, 4, 5, 23]
    refine x_then_n ?_
    by_cases hc_28 : (t_19.length : Int) = 0
    · rw [if_pos hc_28] at H
      refine c_cond_t hm rfl (beq_iff_eq.2 hc_28) ?_
      refine wp_seq ?_
      refine wp_region_lit ?_
      refine s_build hm rfl ti28 pl28 rfl (.cons rfl .nil) (cs := [.int .i64 0, .slice none 0 0, .int .i64 (-1)]) rfl ?_
      clear hm a; intro a hm
      refine s_assign hm rfl rfl ?_
      clear hm a; intro a hm
      obtain ⟨w_29, hs', hS'⟩ := hS.store (P := Try.prog) (p := 1) (o := 0) (t := 28) (v := .agg ([.int .i64 0, .slice none 0 0, .int .i64 (-1)] : List Value).toArray) (vs := [.int .i64 0, .slice none 0 0, .int .i64 (-1)]) rfl ti28 rfl rfl rfl (by intro u hu; simp only [List.mem_cons, List.not_mem_nil, or_false] at hu; rcases hu with rfl | rfl | rfl <;> rfl)
      refine s_store hm rfl rfl hs' ?_
      replace hS : Sep w0 w_29 [N_22, Mem.one g_2 (.cells ([.int .i64 0, .slice none 0 0, .int .i64 (-1)] : List Value).toArray 28 (0, 0)), Mem.no, M_25] Z := hS'
      clear hs' hS'
      refine wpList_nil ?_
      replace hm : Fr 30 a [(0, v_23), (4, .slice none 0 0), (5, .pointer (some ⟨g_2, 0, none⟩))] := hm.keep [0, 4, 5]
      refine x_then_n ?_
      refine wp_ret (x_then_r ?_)
      have hS' := hS.room
      replace hS : Sep w0 w_29 [N_22, Mem.one g_2 (.cells ([.int .i64 0, .slice none 0 0, .int .i64 (-1)] : List Value).toArray 28 (0, 0)), Mem.no, M_25, Mem.no] Z := hS'
      clear hS'
      have hS' := hS.room
      replace hS : Sep w0 w_29 [N_22, Mem.one g_2 (.cells ([.int .i64 0, .slice none 0 0, .int .i64 (-1)] : List Value).toArray 28 (0, 0)), Mem.no, M_25, Mem.no, Mem.no] Z := hS'
      clear hS'
      replace hS : Sep w0 w_29 [N_22, Mem.one g_2 (.cells ([.int .i64 0, .slice none 0 0, .int .i64 (-1)] : List Value).toArray 28 (0, 0)), Mem.no, M_25, Mem.no, Mem.no] Z := hS
      obtain rfl := Option.some.inj H
      exact f_ret hm (rs := [.tmp 4, .cell 5 28]) rfl (.tmp rfl (.cell rfl (hS.load_agg (p := 1) (us := [.int .i64 0, .slice none 0 0, .int .i64 (-1)]) rfl Try.underlying28 rfl ti28 rfl rfl) .nil)) ⟨_, rfl, .slice none 0 0, .slice none 0 0, N_22, Mem.no, Mem.no, rfl, (Sep.sel hS [0, 4, 5] (by decide)), (Own.nil (Kd.int .i64) 3 Mem.no), (Own.nil Kd.u8 5 Mem.no)⟩
    · rw [if_neg hc_28] at H
      refine c_cond_f hm rfl (beq_eq_false_iff_ne.2 hc_28) ?_
      refine wp_skip ?_
      refine x_then_n (hKJ_27 _ _ ?_)
      refine c_seq fun KJ_32 hKJ_32 => ?_
      refine h_begin (S := fun w => Sep w0 w [N_22, Mem.no, Mem.no, M_25] Z) 7 (by kernel_rfl) rfl [false, false, false, false, false, false, false].toArray rfl hS fun w_33 hS => ?_
      replace hS : Sep w0 w_33 [N_22, Mem.one g_2 (.cells ([.int .i64 0, .slice none 0 0, .int .i64 0] : List Value).toArray 28 (0, 0)), Mem.no, M_25] Z := hS
      refine h_take 0 [true, false, false, false, false, false, false].toArray rfl (by kernel_rfl) (by kernel_rfl) (by kernel_rfl) (fun _ _ _ _ h => h) rfl rfl rfl rfl hm (hS.sub (.cons (Mem.le.refl _) (.cons (Mem.no_le _) (.cons (Mem.no_le _) (.cons (Mem.le.refl _) (Sub.nil _)))))) (v := v_23) (fun w hS => r_move hm rfl) ?_
      clear hm a; intro a hm
      refine h_take 1 [true, true, false, false, false, false, false].toArray rfl (by kernel_rfl) (by kernel_rfl) (by kernel_rfl) (fun _ _ _ _ h => h) rfl rfl rfl rfl hm (hS.sub (.cons (Mem.le.refl _) (.cons (Mem.no_le _) (.cons (Mem.no_le _) (.cons (Mem.le.refl _) (Sub.nil _)))))) (v := v_23) (fun w hS => r_move hm rfl) ?_
      clear hm a; intro a hm
      obtain ⟨t_34, et_34, H⟩ := Option.bind_eq_some_iff.1 H
      refine h_takeE 2 [true, true, true, false, false, false, false].toArray rfl (by kernel_rfl) (by kernel_rfl) (by kernel_rfl) (fun _ _ _ _ h => h) rfl rfl rfl rfl hm (hS.sub (.cons (Mem.le.refl _) (.cons (Mem.no_le _) (.cons (Mem.no_le _) (.cons (Mem.le.refl _) (Sub.nil _)))))) (f := fun ad => .pointer (some ad)) (r_indexO hm Try.underlying22 ti3 rfl rfl rfl hr_24 et_34) ?_
      rintro ad_35 ⟨cs_36, hk_37, hc_38⟩
      obtain rfl := (show cs_36 = [.int .i64 t_34] from hk_37)
      clear hm a; intro a hm
      refine h_take 3 [true, true, true, true, false, false, false].toArray rfl (by kernel_rfl) (by kernel_rfl) (by kernel_rfl) (fun _ _ _ _ h => h) rfl rfl rfl rfl hm (hS.sub (.cons (Mem.le.refl _) (.cons (Mem.no_le _) (.cons (Mem.no_le _) (.cons (Mem.le.refl _) (Sub.nil _)))))) (v := .int .i64 t_34) (fun w hS => r_load hm rfl (el_one (o := 0) (fun j c h => Mem.cell_le (hS.own 3) (hc_38 j c h)) Try.underlying3 rfl rfl)) ?_
      clear hm a; intro a hm
      refine h_take 4 [true, true, true, true, true, false, false].toArray rfl (by kernel_rfl) (by kernel_rfl) (by kernel_rfl) (fun _ _ _ _ h => h) rfl rfl rfl rfl hm (hS.sub (.cons (Mem.le.refl _) (.cons (Mem.no_le _) (.cons (Mem.no_le _) (.cons (Mem.le.refl _) (Sub.nil _)))))) (v := .agg ([.int .i64 0, .slice none 0 0, .int .i64 t_34] : List Value).toArray) (fun w hS => r_build hm ti28 pl28 rfl (.cons rfl .nil) (cs := [.int .i64 0, .slice none 0 0, .int .i64 t_34]) rfl) ?_
      clear hm a; intro a hm
      refine h_take 5 [true, true, true, true, true, true, false].toArray rfl (by kernel_rfl) (by kernel_rfl) (by kernel_rfl) (fun _ _ _ _ h => h) rfl rfl rfl rfl hm (hS.sub (.cons (Mem.le.refl _) (.cons (Mem.no_le _) (.cons (Mem.no_le _) (.cons (Mem.le.refl _) (Sub.nil _)))))) (v := v_23) (fun w hS => r_assign hm rfl) ?_
      clear hm a; intro a hm
      refine h_event 6 [true, true, true, true, true, true, true].toArray rfl (by kernel_rfl) rfl ?_
      obtain ⟨w_39, hs', hS'⟩ := hS.store (P := Try.prog) (p := 1) (o := 0) (t := 28) (v := .agg ([.int .i64 0, .slice none 0 0, .int .i64 t_34] : List Value).toArray) (vs := [.int .i64 0, .slice none 0 0, .int .i64 t_34]) rfl ti28 rfl rfl rfl (by intro u hu; simp only [List.mem_cons, List.not_mem_nil, or_false] at hu; rcases hu with rfl | rfl | rfl <;> rfl)
      refine s_store hm rfl rfl hs' ?_
      replace hS : Sep w0 w_39 [N_22, Mem.one g_2 (.cells ([.int .i64 0, .slice none 0 0, .int .i64 t_34] : List Value).toArray 28 (0, 0)), Mem.no, M_25] Z := hS'
      clear hs' hS'
      refine wpList_nil ?_
      refine x_then_n ⟨(hS.sub (.cons (Mem.le.refl _) (.cons (Mem.no_le _) (.cons (Mem.no_le _) (.cons (Mem.le.refl _) (Sub.nil _)))))), ?_⟩
      refine h_done (by kernel_rfl) ?_
      replace hm : Fr 30 a [(4, v_23), (5, .pointer (some ⟨g_2, 0, none⟩))] := hm.keep [4, 5]
      refine x_then_n (hKJ_32 _ _ ?_)
      refine wp_ret ?_
      have hS' := hS.room
      replace hS : Sep w0 w_39 [N_22, Mem.one g_2 (.cells ([.int .i64 0, .slice none 0 0, .int .i64 t_34] : List Value).toArray 28 (0, 0)), Mem.no, M_25, Mem.no] Z := hS'
      clear hS'
      replace hS : Sep w0 w_39 [N_22, Mem.one g_2 (.cells ([.int .i64 0, .slice none 0 0, .int .i64 t_34] : List Value).toArray 28 (0, 0)), Mem.no, M_25, Mem.no] Z := hS
      obtain rfl := Option.some.inj H
      exact f_ret hm (rs := [.tmp 4, .cell 5 28]) rfl (.tmp rfl (.cell rfl (hS.load_agg (p := 1) (us := [.int .i64 0, .slice none 0 0, .int .i64 t_34]) rfl Try.underlying28 rfl ti28 rfl rfl) .nil)) ⟨_, rfl, v_23, .slice none 0 0, N_22, M_25, Mem.no, rfl, (Sep.sel hS [0, 3, 4] (by decide)), hr_24, (Own.nil Kd.u8 5 Mem.no)⟩

set_option maxHeartbeats 4000000 in
theorem slices_Clip_sint_int.calls (v : Value) (w : World) (hf : ∃ A l c, v = .slice A l c ∧ l ≤ c) : Calls Try.prog 42 [v].toArray w (Ret fun u w' => w = w' ∧ Clipped v u) := by
  obtain ⟨A, l, c, rfl, hlc⟩ := hf
  refine f_enter _ Try.func42 rfl Try.ntmps42 rfl fun a hm => ?_
  replace hm : Fr 9 a [(0, .slice A l c)] := hm
  refine wp_seq ?_
  refine wp_region_lit ?_
  refine s_assign hm rfl rfl ?_
  clear hm a; intro a hm
  refine wpList_nil ?_
  refine x_then_n ?_
  refine wp_seq ?_
  refine wp_region_lit ?_
  refine s_move hm rfl rfl ?_
  clear hm a; intro a hm
  refine s_move hm rfl rfl ?_
  clear hm a; intro a hm
  refine s_lenV hm rfl Try.underlying22 rfl ?_
  clear hm a; intro a hm
  refine s_move hm rfl rfl ?_
  clear hm a; intro a hm
  refine s_lenV hm rfl Try.underlying22 rfl ?_
  clear hm a; intro a hm
  refine s_clip hm rfl Try.underlying22 ti3 rfl rfl rfl hlc ?_
  clear hm a; intro a hm
  refine s_assign hm rfl rfl ?_
  clear hm a; intro a hm
  refine wpList_nil ?_
  refine x_then_n ?_
  refine wp_ret ?_
  exact f_ret hm (rs := [.tmp 2]) rfl (.tmp rfl .nil) ⟨_, rfl, rfl, A, l, c, rfl, rfl⟩

set_option maxHeartbeats 4000000 in
set_option maxRecDepth 20000 in
theorem slices_Contains_sint_int.calls (K : Nat) (x0 : List Int) (p0_0 : Value) (x1 : Int) (r : Bool) (w0 w : World) (Z A : Mem) (hA : A.le Z) (hS : Sep w0 w [] Z) (hp0_0 : Rd (Kd.int .i64) A p0_0 x0)
    (H : slices_Contains_sint_int.f K x0 x1 = some r) :
    Calls Try.prog 43 [p0_0, .int .i64 x1].toArray w (Ret fun v w' => ∃ (N : Mem), v = .bool r ∧ Sep w0 w' [N] Z) := by
  unfold slices_Contains_sint_int.f at H
  refine f_enter _ Try.func43 rfl Try.ntmps43 rfl fun a hm => ?_
  replace hm : Fr 9 a [(0, p0_0), (1, .int .i64 x1)] := hm
  replace hS := hS.start
  replace hS : Sep w0 w [Mem.no] Z := hS
  refine wp_seq ?_
  refine wp_region_lit ?_
  refine s_assign hm rfl rfl ?_
  clear hm a; intro a hm
  refine wpList_nil ?_
  replace hm : Fr 9 a [(0, p0_0), (1, .int .i64 x1), (4, .bool false)] := hm.keep [0, 1, 4]
  refine x_then_n ?_
  refine wp_seq ?_
  refine wp_region_lit ?_
  refine s_move hm rfl rfl ?_
  clear hm a; intro a hm
  refine s_move hm rfl rfl ?_
  clear hm a; intro a hm
  obtain ⟨t_1, et_1, H⟩ := Option.bind_eq_some_iff.1 H
  refine s_call hm rfl Try.call40 rfl (slices_Index_sint_int.calls K x0 _ x1 t_1 w0 _ _ _ (Mem.le.refl _) (hS.enter [] (by decide)) (hp0_0.mono (hA.trans (hS.le_zed []))) et_1) ?_
  rintro _ w_2 ⟨N_3, rfl, hS'⟩
  clear hm a; intro a hm
  obtain ⟨N_4, hS'', le_4, ln_4⟩ := hS.call [] (by decide) rfl (l' := []) (ow := []) rfl hS'
  replace hS : Sep w0 w_2 [N_4] Z := hS''
  clear hS' hS''
  refine s_cmp (b := decide (t_1 ≥ 0)) hm rfl rfl rfl (.inr (.inr (.inr (.inr (.inr ⟨rfl, rfl⟩))))) ?_
  clear hm a; intro a hm
  refine s_assign hm rfl rfl ?_
  clear hm a; intro a hm
  refine wpList_nil ?_
  replace hm : Fr 9 a [(4, .bool (decide (t_1 ≥ 0)))] := hm.keep [4]
  refine x_then_n ?_
  refine wp_ret ?_
  obtain rfl := Option.some.inj H
  exact f_ret hm (rs := [.tmp 4]) rfl (.tmp rfl .nil) ⟨_, rfl, N_4, rfl, (Sep.sel hS [0] (by decide))⟩

set_option maxHeartbeats 4000000 in
set_option maxRecDepth 20000 in
theorem lock_Take.calls (K : Nat) (x0 : List Int) (p0_0 : Value) (x1 : Int) (r : (List Int) × api_Result) (w0 w : World) (Z A : Mem) (hA : A.le Z) (hS : Sep w0 w [] Z) (hp0_0 : Rd (Kd.int .i64) A p0_0 x0)
    (H : lock_Take.f K x0 x1 = some r) :
    Calls Try.prog 13 [p0_0, .int .i64 x1].toArray w (Ret fun v w' => ∃ (u0 : Value) (u1 : Value) (N : Mem) (M0 : Mem) (M1 : Mem), v = .tuple [u0, .agg [.int .i64 r.2.Err, u1, .int .i64 r.2.N].toArray].toArray ∧ Sep w0 w' [N, M0, M1] Z ∧ Own (Kd.int .i64) 3 M0 Mem.no u0 r.1 ∧ Own Kd.u8 5 M1 Mem.no u1 r.2.Val) := by
  unfold lock_Take.f at H
  refine f_enter _ Try.func13 rfl Try.ntmps13 rfl fun a hm => ?_
  replace hm : Fr 28 a [(0, p0_0), (1, .int .i64 x1)] := hm
  replace hS := hS.start
  replace hS : Sep w0 w [Mem.no] Z := hS
  refine wp_seq ?_
  refine wp_region_lit ?_
  refine s_assign hm rfl rfl ?_
  clear hm a; intro a hm
  refine v_alloc hm rfl ti28 hS ?_
  intro w_1 g_2 hS'
  clear hm a; intro a hm
  replace hS : Sep w0 w_1 [Mem.no, Mem.one g_2 (.cells ([.int .i64 0, .slice none 0 0, .int .i64 0] : List Value).toArray 28 (0, 0))] Z := hS'
  clear hS'
  refine wpList_nil ?_
  replace hm : Fr 28 a [(0, p0_0), (1, .int .i64 x1), (4, .slice none 0 0), (5, .pointer (some ⟨g_2, 0, none⟩))] := hm.keep [0, 1, 4, 5]
  refine x_then_n ?_
  refine wp_seq ?_
  refine wp_region_lit ?_
  refine s_move hm rfl rfl ?_
  clear hm a; intro a hm
  obtain ⟨t_3, et_3, H⟩ := Option.bind_eq_some_iff.1 H
  refine s_call hm rfl Try.call39 rfl (slices_Clone_sint_int.calls x0 _ t_3 w0 _ _ _ (Mem.le.refl _) (hS.enter [] (by decide)) (hp0_0.mono (hA.trans (hS.le_zed []))) et_3) ?_
  rintro v_7 w_4 ⟨_, N_5, M_9, rfl, hS', hr_8⟩
  clear hm a; intro a hm
  obtain ⟨N_6, hS'', le_6, ln_6⟩ := hS.call [] (by decide) rfl (l' := []) (ow := [M_9]) rfl hS'
  replace hS : Sep w0 w_4 [N_6, Mem.one g_2 (.cells ([.int .i64 0, .slice none 0 0, .int .i64 0] : List Value).toArray 28 (0, 0)), M_9] Z := hS''
  clear hS' hS''
  refine s_call hm rfl Try.call42 rfl (slices_Clip_sint_int.calls _ _ hr_8.slform) ?_
  rintro v_11 _ ⟨rfl, hk_12⟩
  clear hm a; intro a hm
  refine s_assign hm rfl rfl ?_
  clear hm a; intro a hm
  refine wpList_nil ?_
  replace hm : Fr 28 a [(0, v_11), (1, .int .i64 x1), (4, .slice none 0 0), (5, .pointer (some ⟨g_2, 0, none⟩))] := hm.keep [0, 1, 4, 5]
  refine x_then_n ?_
  refine c_seq fun KJ_14 hKJ_14 => ?_
  refine c_block ?_
  refine wp_seq ?_
  refine wp_region_lit ?_
  refine s_move hm rfl rfl ?_
  clear hm a; intro a hm
  refine s_move hm rfl rfl ?_
  clear hm a; intro a hm
  obtain ⟨t_15, et_15, H⟩ := Option.bind_eq_some_iff.1 H
  refine s_call hm rfl Try.call43 rfl (slices_Contains_sint_int.calls K t_3 _ x1 t_15 w0 _ _ _ (Mem.le.refl _) (hS.enter [] (by decide)) ((hr_8.clip hk_12).rd (hS.own_zed [] 1 (by decide)) (Mem.no_le _)) et_15) ?_
  rintro _ w_16 ⟨N_17, rfl, hS'⟩
  clear hm a; intro a hm
  obtain ⟨N_18, hS'', le_18, ln_18⟩ := hS.call [] (by decide) rfl (l' := []) (ow := []) rfl hS'
  replace hS : Sep w0 w_16 [N_18, Mem.one g_2 (.cells ([.int .i64 0, .slice none 0 0, .int .i64 0] : List Value).toArray 28 (0, 0)), M_9] Z := hS''
  clear hS' hS''
  refine s_assign hm rfl rfl ?_
  clear hm a; intro a hm
  refine wpList_nil ?_
  replace hm : Fr 28 a [(0, v_11), (1, .int .i64 x1), (4, .slice none 0 0), (5, .pointer (some ⟨g_2, 0, none⟩)), (9, .bool t_15)] := hm.keep [0, 1, 4, 5, 9]
  refine x_then_n ?_
  by_cases hc_19 : t_15 = true
  · rw [if_pos hc_19] at H
    refine c_cond_t hm rfl hc_19 ?_
    refine wp_seq ?_
    refine wp_region_lit ?_
    refine s_move hm rfl rfl ?_
    clear hm a; intro a hm
    refine s_build hm rfl ti28 pl28 rfl (.cons rfl .nil) (cs := [.int .i64 6, .slice none 0 0, .int .i64 0]) rfl ?_
    clear hm a; intro a hm
    refine s_assign hm rfl rfl ?_
    clear hm a; intro a hm
    obtain ⟨w_20, hs', hS'⟩ := hS.store (P := Try.prog) (p := 1) (o := 0) (t := 28) (v := .agg ([.int .i64 6, .slice none 0 0, .int .i64 0] : List Value).toArray) (vs := [.int .i64 6, .slice none 0 0, .int .i64 0]) rfl ti28 rfl rfl rfl (by intro u hu; simp only [List.mem_cons, List.not_mem_nil, or_false] at hu; rcases hu with rfl | rfl | rfl <;> rfl)
    refine s_store hm rfl rfl hs' ?_
    replace hS : Sep w0 w_20 [N_18, Mem.one g_2 (.cells ([.int .i64 6, .slice none 0 0, .int .i64 0] : List Value).toArray 28 (0, 0)), M_9] Z := hS'
    clear hs' hS'
    refine wpList_nil ?_
    replace hm : Fr 28 a [(0, v_11), (1, .int .i64 x1), (4, v_11), (5, .pointer (some ⟨g_2, 0, none⟩))] := hm.keep [0, 1, 4, 5]
    refine x_then_n ?_
    refine wp_ret (x_block_r (x_then_r ?_))
    have hS' := hS.room
    replace hS : Sep w0 w_20 [N_18, Mem.one g_2 (.cells ([.int .i64 6, .slice none 0 0, .int .i64 0] : List Value).toArray 28 (0, 0)), M_9, Mem.no] Z := hS'
    clear hS'
    replace hS : Sep w0 w_20 [N_18, Mem.one g_2 (.cells ([.int .i64 6, .slice none 0 0, .int .i64 0] : List Value).toArray 28 (0, 0)), M_9, Mem.no] Z := hS
    obtain rfl := Option.some.inj H
    exact f_ret hm (rs := [.tmp 4, .cell 5 28]) rfl (.tmp rfl (.cell rfl (hS.load_agg (p := 1) (us := [.int .i64 6, .slice none 0 0, .int .i64 0]) rfl Try.underlying28 rfl ti28 rfl rfl) .nil)) ⟨_, rfl, v_11, .slice none 0 0, N_18, M_9, Mem.no, rfl, (Sep.sel hS [0, 2, 3] (by decide)), (hr_8.clip hk_12), (Own.nil Kd.u8 5 Mem.no)⟩
  · rw [if_neg hc_19] at H
    refine c_cond_f hm rfl (Bool.eq_false_iff.2 hc_19) ?_
    refine wp_seq ?_
    refine wp_region_lit ?_
    refine s_move hm rfl rfl ?_
    clear hm a; intro a hm
    refine s_lenO hm rfl Try.underlying22 rfl (hr_8.clip hk_12) ?_
    clear hm a; intro a hm
    refine s_cmp (b := decide ((t_3.length : Int) ≥ 5)) hm rfl rfl rfl (.inr (.inr (.inr (.inr (.inr ⟨rfl, rfl⟩))))) ?_
    clear hm a; intro a hm
    refine s_assign hm rfl rfl ?_
    clear hm a; intro a hm
    refine wpList_nil ?_
    replace hm : Fr 28 a [(0, v_11), (1, .int .i64 x1), (4, .slice none 0 0), (5, .pointer (some ⟨g_2, 0, none⟩)), (15, .bool (decide ((t_3.length : Int) ≥ 5)))] := hm.keep [0, 1, 4, 5, 15]
    refine x_then_n ?_
    by_cases hc_22 : (t_3.length : Int) ≥ 5
    · rw [if_pos hc_22] at H
      refine c_cond_t hm rfl (decide_eq_true hc_22) ?_
      refine wp_seq ?_
      refine wp_region_lit ?_
      refine s_move hm rfl rfl ?_
      clear hm a; intro a hm
      refine s_build hm rfl ti28 pl28 rfl (.cons rfl .nil) (cs := [.int .i64 3, .slice none 0 0, .int .i64 0]) rfl ?_
      clear hm a; intro a hm
      refine s_assign hm rfl rfl ?_
      clear hm a; intro a hm
      obtain ⟨w_23, hs', hS'⟩ := hS.store (P := Try.prog) (p := 1) (o := 0) (t := 28) (v := .agg ([.int .i64 3, .slice none 0 0, .int .i64 0] : List Value).toArray) (vs := [.int .i64 3, .slice none 0 0, .int .i64 0]) rfl ti28 rfl rfl rfl (by intro u hu; simp only [List.mem_cons, List.not_mem_nil, or_false] at hu; rcases hu with rfl | rfl | rfl <;> rfl)
      refine s_store hm rfl rfl hs' ?_
      replace hS : Sep w0 w_23 [N_18, Mem.one g_2 (.cells ([.int .i64 3, .slice none 0 0, .int .i64 0] : List Value).toArray 28 (0, 0)), M_9] Z := hS'
      clear hs' hS'
      refine wpList_nil ?_
      replace hm : Fr 28 a [(0, v_11), (1, .int .i64 x1), (4, v_11), (5, .pointer (some ⟨g_2, 0, none⟩))] := hm.keep [0, 1, 4, 5]
      refine x_then_n ?_
      refine wp_ret (x_block_r (x_then_r ?_))
      have hS' := hS.room
      replace hS : Sep w0 w_23 [N_18, Mem.one g_2 (.cells ([.int .i64 3, .slice none 0 0, .int .i64 0] : List Value).toArray 28 (0, 0)), M_9, Mem.no] Z := hS'
      clear hS'
      replace hS : Sep w0 w_23 [N_18, Mem.one g_2 (.cells ([.int .i64 3, .slice none 0 0, .int .i64 0] : List Value).toArray 28 (0, 0)), M_9, Mem.no] Z := hS
      obtain rfl := Option.some.inj H
      exact f_ret hm (rs := [.tmp 4, .cell 5 28]) rfl (.tmp rfl (.cell rfl (hS.load_agg (p := 1) (us := [.int .i64 3, .slice none 0 0, .int .i64 0]) rfl Try.underlying28 rfl ti28 rfl rfl) .nil)) ⟨_, rfl, v_11, .slice none 0 0, N_18, M_9, Mem.no, rfl, (Sep.sel hS [0, 2, 3] (by decide)), (hr_8.clip hk_12), (Own.nil Kd.u8 5 Mem.no)⟩
    · rw [if_neg hc_22] at H
      refine c_cond_f hm rfl (decide_eq_false hc_22) ?_
      refine wp_skip ?_
      refine x_block_n ?_
      refine x_then_n (hKJ_14 _ _ ?_)
      refine wp_seq ?_
      refine wp_region_lit ?_
      refine s_move hm rfl rfl ?_
      clear hm a; intro a hm
      refine s_move hm rfl rfl ?_
      clear hm a; intro a hm
      have hq_29 : Reps (Kd.int .i64) Mem.no ([x1] : List Int) _ := ((Reps.one (d := (Kd.int .i64)) (x := x1) (show (Kd.int .i64).K _ _ [.int .i64 x1] from rfl)).append (Reps.nil (Kd.int .i64) _))
      refine s_buildSlice hm rfl Try.underlying22 ti3 rfl rfl rfl (.cons rfl .nil) rfl rfl rfl hS hq_29 rfl ?_
      intro w_25 v_26 M_27 hS' ho_28
      clear hm a; intro a hm
      replace hS : Sep w0 w_25 [N_18, Mem.one g_2 (.cells ([.int .i64 0, .slice none 0 0, .int .i64 0] : List Value).toArray 28 (0, 0)), M_9, M_27] Z := hS'
      clear hS' hq_29
      obtain ⟨t_31, et_31, H⟩ := Option.bind_eq_some_iff.1 H
      refine s_append (J := Mem.no) (I' := Mem.no) (p := 2) 17592186044416 hm rfl rfl rfl Try.underlying22 ti3 rfl rfl rfl rfl hS rfl (hr_8.clip hk_12) (Src.flat (flat_int .i64) (ho_28.src (hS.own 3))) (Mem.le.refl _) (Mem.le.refl _) et_31 ?_
      intro w_32 v_33 M_34 hS' ho_35
      clear hm a; intro a hm
      replace hS : Sep w0 w_32 [N_18, Mem.one g_2 (.cells ([.int .i64 0, .slice none 0 0, .int .i64 0] : List Value).toArray 28 (0, 0)), M_34, M_27] Z := hS'
      clear hS'
      refine s_move hm rfl rfl ?_
      clear hm a; intro a hm
      refine s_lenO hm rfl Try.underlying22 rfl (hr_8.clip hk_12) ?_
      clear hm a; intro a hm
      refine s_build hm rfl ti28 pl28 rfl (.cons rfl .nil) (cs := [.int .i64 0, .slice none 0 0, .int .i64 (t_3.length : Int)]) rfl ?_
      clear hm a; intro a hm
      refine s_assign hm rfl rfl ?_
      clear hm a; intro a hm
      obtain ⟨w_37, hs', hS'⟩ := hS.store (P := Try.prog) (p := 1) (o := 0) (t := 28) (v := .agg ([.int .i64 0, .slice none 0 0, .int .i64 (t_3.length : Int)] : List Value).toArray) (vs := [.int .i64 0, .slice none 0 0, .int .i64 (t_3.length : Int)]) rfl ti28 rfl rfl rfl (by intro u hu; simp only [List.mem_cons, List.not_mem_nil, or_false] at hu; rcases hu with rfl | rfl | rfl <;> rfl)
      refine s_store hm rfl rfl hs' ?_
      replace hS : Sep w0 w_37 [N_18, Mem.one g_2 (.cells ([.int .i64 0, .slice none 0 0, .int .i64 (t_3.length : Int)] : List Value).toArray 28 (0, 0)), M_34, M_27] Z := hS'
      clear hs' hS'
      refine wpList_nil ?_
      replace hm : Fr 28 a [(4, v_33), (5, .pointer (some ⟨g_2, 0, none⟩))] := hm.keep [4, 5]
      refine x_then_n ?_
      refine wp_ret ?_
      have hS' := hS.room
      replace hS : Sep w0 w_37 [N_18, Mem.one g_2 (.cells ([.int .i64 0, .slice none 0 0, .int .i64 (t_3.length : Int)] : List Value).toArray 28 (0, 0)), M_34, M_27, Mem.no] Z := hS'
      clear hS'
      replace hS : Sep w0 w_37 [N_18, Mem.one g_2 (.cells ([.int .i64 0, .slice none 0 0, .int .i64 (t_3.length : Int)] : List Value).toArray 28 (0, 0)), M_34, M_27, Mem.no] Z := hS
      obtain rfl := Option.some.inj H
      exact f_ret hm (rs := [.tmp 4, .cell 5 28]) rfl (.tmp rfl (.cell rfl (hS.load_agg (p := 1) (us := [.int .i64 0, .slice none 0 0, .int .i64 (t_3.length : Int)]) rfl Try.underlying28 rfl ti28 rfl rfl) .nil)) ⟨_, rfl, v_33, .slice none 0 0, N_18, M_34, Mem.no, rfl, (Sep.sel hS [0, 2, 4] (by decide)), ho_35, (Own.nil Kd.u8 5 Mem.no)⟩

set_option maxHeartbeats 4000000 in
set_option maxRecDepth 20000 in
theorem hocketref1_SameInts.calls (K : Nat) (x0 : List Int) (p0_0 : Value) (x1 : List Int) (p1_1 : Value) (r : Bool) (w0 w : World) (Z A : Mem) (hA : A.le Z) (hS : Sep w0 w [] Z) (hp0_0 : Rd (Kd.int .i64) A p0_0 x0) (hp1_1 : Rd (Kd.int .i64) A p1_1 x1)
    (H : hocketref1_SameInts.f K x0 x1 = some r) :
    Calls Try.prog 14 [p0_0, p1_1].toArray w (Ret fun v w' => ∃ (N : Mem), v = .bool r ∧ Sep w0 w' [N] Z) := by
  unfold hocketref1_SameInts.f at H
  refine f_enter _ Try.func14 rfl Try.ntmps14 rfl fun a hm => ?_
  replace hm : Fr 26 a [(0, p0_0), (1, p1_1)] := hm
  replace hS := hS.start
  replace hS : Sep w0 w [Mem.no] Z := hS
  refine wp_seq ?_
  refine wp_region_lit ?_
  refine s_assign hm rfl rfl ?_
  clear hm a; intro a hm
  refine wpList_nil ?_
  replace hm : Fr 26 a [(0, p0_0), (1, p1_1), (4, .bool false)] := hm.keep [0, 1, 4]
  refine x_then_n ?_
  refine c_seq fun KJ_1 hKJ_1 => ?_
  refine wp_seq ?_
  refine wp_region_lit ?_
  refine s_move hm rfl rfl ?_
  clear hm a; intro a hm
  refine s_len hm rfl Try.underlying22 rfl hp0_0 ?_
  clear hm a; intro a hm
  refine s_move hm rfl rfl ?_
  clear hm a; intro a hm
  refine s_len hm rfl Try.underlying22 rfl hp1_1 ?_
  clear hm a; intro a hm
  refine s_cmp (b := ((x0.length : Int) != (x1.length : Int))) hm rfl rfl rfl (.inr (.inl ⟨rfl, rfl⟩)) ?_
  clear hm a; intro a hm
  refine wpList_nil ?_
  replace hm : Fr 26 a [(0, p0_0), (1, p1_1), (4, .bool false), (10, .bool ((x0.length : Int) != (x1.length : Int)))] := hm.keep [0, 1, 4, 10]
  refine x_then_n ?_
  by_cases hc_2 : (x0.length : Int) = (x1.length : Int)
  · rw [if_pos hc_2] at H
    refine c_cond_f hm rfl (bne_eq_false_iff_eq.2 hc_2) ?_
    refine wp_skip ?_
    refine x_then_n (hKJ_1 _ _ ?_)
    refine c_seq fun KJ_3 hKJ_3 => ?_
    refine wp_seq ?_
    refine wp_region_lit ?_
    refine s_assign hm rfl rfl ?_
    clear hm a; intro a hm
    refine wpList_nil ?_
    replace hm : Fr 26 a [(0, p0_0), (1, p1_1), (4, .bool false), (5, .int .i64 0)] := hm.keep [0, 1, 4, 5]
    refine x_then_n ?_
    have hJ_j_6 : hocketref1_SameInts.J1 K = some r → ∀ (a : Act) (w_5 : World), (∃ (N_4 : Mem), Fr 26 a [(4, .bool false)] ∧ Sep w0 w_5 [N_4] Z ∧ Mem.no.le N_4) → KJ_3 a w_5 := by
      clear H hm hS a
      rintro H a w_5 ⟨N_4, hm, hS, le_4⟩
      unfold hocketref1_SameInts.J1 at H
      refine hKJ_3 _ _ ?_
      refine wp_seq ?_
      refine wp_region_lit ?_
      refine s_assign hm rfl rfl ?_
      clear hm a; intro a hm
      refine wpList_nil ?_
      replace hm : Fr 26 a [(4, .bool true)] := hm.keep [4]
      refine x_then_n ?_
      refine wp_ret ?_
      obtain rfl := Option.some.inj H
      exact f_ret hm (rs := [.tmp 4]) rfl (.tmp rfl .nil) ⟨_, rfl, N_4, rfl, (Sep.sel hS [0] (by decide))⟩
    clear hKJ_3
    replace hS : Sep w0 w [Mem.no] Z := hS
    replace hm : Fr 26 a [(0, p0_0), (1, p1_1), (4, .bool false), (5, .int .i64 0)] := hm.keep [0, 1, 4, 5]
    refine c_block ?_
    refine c_loop (fun k_9 a w_9 => ∃ (x_8 : Int) (N_7 : Mem), hocketref1_SameInts.L1 K x0 x1 (fun v => hocketref1_SameInts.J1 K) k_9 x_8 = some r ∧ Fr 26 a [(0, p0_0), (1, p1_1), (4, .bool false), (5, .int .i64 x_8)] ∧ Sep w0 w_9 [N_7] Z ∧ Mem.no.le N_7) K ⟨0, Mem.no, H, hm, (Sep.sel hS [0] (by decide)), (Mem.le.refl _)⟩ (fun a w h => by obtain ⟨_, _, H, _⟩ := h; cases (show (none : Option (Bool)) = some r from H)) ?_
    clear hm hS a H
    rintro k_9 a w_9 KL_9 hKL_9 ⟨x_8, N_7, H, hm, hS, le_7⟩
    replace H : hocketref1_SameInts.B1 K x0 x1 (fun v => hocketref1_SameInts.J1 K) (hocketref1_SameInts.L1 K x0 x1 (fun v => hocketref1_SameInts.J1 K) k_9) x_8 = some r := H
    unfold hocketref1_SameInts.B1 at H
    refine c_seq fun KJ_11 hKJ_11 => ?_
    refine wp_seq ?_
    refine wp_region_lit ?_
    refine s_move hm rfl rfl ?_
    clear hm a; intro a hm
    refine s_move hm rfl rfl ?_
    clear hm a; intro a hm
    refine s_len hm rfl Try.underlying22 rfl hp0_0 ?_
    clear hm a; intro a hm
    refine s_cmp (b := decide (x_8 < (x0.length : Int))) hm rfl rfl rfl (.inr (.inr (.inl ⟨rfl, rfl⟩))) ?_
    clear hm a; intro a hm
    refine wpList_nil ?_
    replace hm : Fr 26 a [(0, p0_0), (1, p1_1), (4, .bool false), (5, .int .i64 x_8), (14, .bool (decide (x_8 < (x0.length : Int))))] := hm.keep [0, 1, 4, 5, 14]
    refine x_then_n ?_
    by_cases hc_12 : x_8 < (x0.length : Int)
    · rw [if_pos hc_12] at H
      refine c_cond_t hm rfl (decide_eq_true hc_12) ?_
      refine wp_skip ?_
      refine x_then_n (hKJ_11 _ _ ?_)
      refine c_seq fun KJ_13 hKJ_13 => ?_
      refine c_block ?_
      refine c_seq fun KJ_14 hKJ_14 => ?_
      refine h_begin (S := fun w => Sep w0 w [N_7] Z) 9 (by kernel_rfl) rfl [false, false, false, false, false, false, false, false, false].toArray rfl hS fun w_15 hS => ?_
      replace hS : Sep w0 w_15 [N_7] Z := hS
      refine h_take 0 [true, false, false, false, false, false, false, false, false].toArray rfl (by kernel_rfl) (by kernel_rfl) (by kernel_rfl) (fun _ _ _ _ h => h) rfl rfl rfl rfl hm (hS.sub (.cons (Mem.le.refl _) (Sub.nil _))) (v := p0_0) (fun w hS => r_move hm rfl) ?_
      clear hm a; intro a hm
      refine h_take 1 [true, true, false, false, false, false, false, false, false].toArray rfl (by kernel_rfl) (by kernel_rfl) (by kernel_rfl) (fun _ _ _ _ h => h) rfl rfl rfl rfl hm (hS.sub (.cons (Mem.le.refl _) (Sub.nil _))) (v := .int .i64 x_8) (fun w hS => r_move hm rfl) ?_
      clear hm a; intro a hm
      obtain ⟨t_16, et_16, H⟩ := Option.bind_eq_some_iff.1 H
      refine h_takeE 2 [true, true, true, false, false, false, false, false, false].toArray rfl (by kernel_rfl) (by kernel_rfl) (by kernel_rfl) (fun _ _ _ _ h => h) rfl rfl rfl rfl hm (hS.sub (.cons (Mem.le.refl _) (Sub.nil _))) (f := fun ad => .pointer (some ad)) (r_index hm Try.underlying22 ti3 rfl rfl rfl hp0_0 et_16) ?_
      rintro ad_17 ⟨cs_18, hk_19, hc_20⟩
      obtain rfl := (show cs_18 = [.int .i64 t_16] from hk_19)
      clear hm a; intro a hm
      refine h_take 3 [true, true, true, true, false, false, false, false, false].toArray rfl (by kernel_rfl) (by kernel_rfl) (by kernel_rfl) (fun _ _ _ _ h => h) rfl rfl rfl rfl hm (hS.sub (.cons (Mem.le.refl _) (Sub.nil _))) (v := .int .i64 t_16) (fun w hS => r_load hm rfl (el_one (o := 0) (fun j c h => Mem.cell_le (hA.trans hS.old) (hc_20 j c h)) Try.underlying3 rfl rfl)) ?_
      clear hm a; intro a hm
      refine h_take 4 [true, true, true, true, true, false, false, false, false].toArray rfl (by kernel_rfl) (by kernel_rfl) (by kernel_rfl) (fun _ _ _ _ h => h) rfl rfl rfl rfl hm (hS.sub (.cons (Mem.le.refl _) (Sub.nil _))) (v := p1_1) (fun w hS => r_move hm rfl) ?_
      clear hm a; intro a hm
      refine h_take 5 [true, true, true, true, true, true, false, false, false].toArray rfl (by kernel_rfl) (by kernel_rfl) (by kernel_rfl) (fun _ _ _ _ h => h) rfl rfl rfl rfl hm (hS.sub (.cons (Mem.le.refl _) (Sub.nil _))) (v := .int .i64 x_8) (fun w hS => r_move hm rfl) ?_
      clear hm a; intro a hm
      obtain ⟨t_21, et_21, H⟩ := Option.bind_eq_some_iff.1 H
      refine h_takeE 6 [true, true, true, true, true, true, true, false, false].toArray rfl (by kernel_rfl) (by kernel_rfl) (by kernel_rfl) (fun _ _ _ _ h => h) rfl rfl rfl rfl hm (hS.sub (.cons (Mem.le.refl _) (Sub.nil _))) (f := fun ad => .pointer (some ad)) (r_index hm Try.underlying22 ti3 rfl rfl rfl hp1_1 et_21) ?_
      rintro ad_22 ⟨cs_23, hk_24, hc_25⟩
      obtain rfl := (show cs_23 = [.int .i64 t_21] from hk_24)
      clear hm a; intro a hm
      refine h_take 7 [true, true, true, true, true, true, true, true, false].toArray rfl (by kernel_rfl) (by kernel_rfl) (by kernel_rfl) (fun _ _ _ _ h => h) rfl rfl rfl rfl hm (hS.sub (.cons (Mem.le.refl _) (Sub.nil _))) (v := .int .i64 t_21) (fun w hS => r_load hm rfl (el_one (o := 0) (fun j c h => Mem.cell_le (hA.trans hS.old) (hc_25 j c h)) Try.underlying3 rfl rfl)) ?_
      clear hm a; intro a hm
      refine h_take 8 [true, true, true, true, true, true, true, true, true].toArray rfl (by kernel_rfl) (by kernel_rfl) (by kernel_rfl) (fun _ _ _ _ h => h) rfl rfl rfl rfl hm (hS.sub (.cons (Mem.le.refl _) (Sub.nil _))) (v := .bool (t_16 != t_21)) (fun w hS => r_cmp (b := (t_16 != t_21)) hm rfl rfl (.inr (.inl ⟨rfl, rfl⟩))) ?_
      clear hm a; intro a hm
      refine h_done (by kernel_rfl) ?_
      replace hm : Fr 26 a [(0, p0_0), (1, p1_1), (4, .bool false), (5, .int .i64 x_8), (25, .bool (t_16 != t_21))] := hm.keep [0, 1, 4, 5, 25]
      refine x_then_n (hKJ_14 _ _ ?_)
      by_cases hc_26 : t_16 = t_21
      · rw [if_pos hc_26] at H
        refine c_cond_f hm rfl (bne_eq_false_iff_eq.2 hc_26) ?_
        refine wp_skip ?_
        refine x_block_n ?_
        refine x_then_n (hKJ_13 _ _ ?_)
        refine wp_region_lit ?_
        refine s_move hm rfl rfl ?_
        clear hm a; intro a hm
        refine s_arith (r := w64 (x_8 + 1)) hm rfl rfl rfl (.inl ⟨rfl, rfl⟩) ?_
        clear hm a; intro a hm
        refine s_assign hm rfl rfl ?_
        clear hm a; intro a hm
        refine wpList_nil ?_
        replace hm : Fr 26 a [(0, p0_0), (1, p1_1), (4, .bool false), (5, .int .i64 (w64 (x_8 + 1)))] := hm.keep [0, 1, 4, 5]
        refine x_then_n (hKL_9 _ _ ?_)
        replace hS : Sep w0 w_15 [N_7] Z := hS
        replace hm : Fr 26 a [(0, p0_0), (1, p1_1), (4, .bool false), (5, .int .i64 (w64 (x_8 + 1)))] := hm.keep [0, 1, 4, 5]
        exact ⟨w64 (x_8 + 1), N_7, H, hm, (Sep.sel hS [0] (by decide)), le_7⟩
      · rw [if_neg hc_26] at H
        refine c_cond_t hm rfl (bne_iff_ne.2 hc_26) ?_
        refine wp_seq ?_
        refine wp_region_lit ?_
        refine s_assign hm rfl rfl ?_
        clear hm a; intro a hm
        refine wpList_nil ?_
        replace hm : Fr 26 a [(0, p0_0), (1, p1_1), (4, .bool false), (5, .int .i64 x_8)] := hm.keep [0, 1, 4, 5]
        refine x_then_n ?_
        refine wp_ret (x_block_r (x_then_r (x_then_r (x_block_r (x_then_r ?_)))))
        obtain rfl := Option.some.inj H
        exact f_ret hm (rs := [.tmp 4]) rfl (.tmp rfl .nil) ⟨_, rfl, N_7, rfl, (Sep.sel hS [0] (by decide))⟩
    · rw [if_neg hc_12] at H
      refine c_cond_f hm rfl (decide_eq_false hc_12) ?_
      refine wp_exit (x_then_x (x_then_x (x_block_t ?_)))
      replace hS : Sep w0 w_9 [N_7] Z := hS
      replace hm : Fr 26 a [(4, .bool false)] := hm.keep [4]
      exact x_then_n (hJ_j_6  H _ _ ⟨N_7, hm, (Sep.sel hS [0] (by decide)), le_7⟩)
  · rw [if_neg hc_2] at H
    refine c_cond_t hm rfl (bne_iff_ne.2 hc_2) ?_
    refine wp_seq ?_
    refine wp_region_lit ?_
    refine s_assign hm rfl rfl ?_
    clear hm a; intro a hm
    refine wpList_nil ?_
    replace hm : Fr 26 a [(0, p0_0), (1, p1_1), (4, .bool false)] := hm.keep [0, 1, 4]
    refine x_then_n ?_
    refine wp_ret (x_then_r ?_)
    obtain rfl := Option.some.inj H
    exact f_ret hm (rs := [.tmp 4]) rfl (.tmp rfl .nil) ⟨_, rfl, Mem.no, rfl, (Sep.sel hS [0] (by decide))⟩

set_option maxHeartbeats 4000000 in
set_option maxRecDepth 20000 in
theorem lock_Owner.calls (x0 : List Int) (p0_0 : Value) (r : api_Result) (w0 w : World) (Z A : Mem) (hA : A.le Z) (hS : Sep w0 w [] Z) (hp0_0 : Rd (Kd.int .i64) A p0_0 x0)
    (H : lock_Owner.f x0 = some r) :
    Calls Try.prog 16 [p0_0].toArray w (Ret fun v w' => ∃ (u0 : Value) (N : Mem) (M0 : Mem), v = .agg [.int .i64 r.Err, u0, .int .i64 r.N].toArray ∧ Sep w0 w' [N, M0] Z ∧ Own Kd.u8 5 M0 Mem.no u0 r.Val) := by
  unfold lock_Owner.f at H
  refine f_enter _ Try.func16 rfl Try.ntmps16 rfl fun a hm => ?_
  replace hm : Fr 11 a [(0, p0_0)] := hm
  replace hS := hS.start
  replace hS : Sep w0 w [Mem.no] Z := hS
  refine wp_seq ?_
  refine wp_region_lit ?_
  refine v_alloc hm rfl ti28 hS ?_
  intro w_1 g_2 hS'
  clear hm a; intro a hm
  replace hS : Sep w0 w_1 [Mem.no, Mem.one g_2 (.cells ([.int .i64 0, .slice none 0 0, .int .i64 0] : List Value).toArray 28 (0, 0))] Z := hS'
  clear hS'
  refine wpList_nil ?_
  replace hm : Fr 11 a [(0, p0_0), (2, .pointer (some ⟨g_2, 0, none⟩))] := hm.keep [0, 2]
  refine x_then_n ?_
  refine c_seq fun KJ_3 hKJ_3 => ?_
  refine wp_seq ?_
  refine wp_region_lit ?_
  refine s_move hm rfl rfl ?_
  clear hm a; intro a hm
  refine s_len hm rfl Try.underlying22 rfl hp0_0 ?_
  clear hm a; intro a hm
  refine s_cmp (b := ((x0.length : Int) == 0)) hm rfl rfl rfl (.inl ⟨rfl, rfl⟩) ?_
  clear hm a; intro a hm
  refine wpList_nil ?_
  replace hm : Fr 11 a [(0, p0_0), (2, .pointer (some ⟨g_2, 0, none⟩)), (5, .bool ((x0.length : Int) == 0))] := hm.keep [0, 2, 5]
  refine x_then_n ?_
  by_cases hc_4 : (x0.length : Int) = 0
  · rw [if_pos hc_4] at H
    refine c_cond_t hm rfl (beq_iff_eq.2 hc_4) ?_
    refine wp_seq ?_
    refine wp_region_lit ?_
    refine s_build hm rfl ti28 pl28 rfl (.cons rfl .nil) (cs := [.int .i64 5, .slice none 0 0, .int .i64 0]) rfl ?_
    clear hm a; intro a hm
    obtain ⟨w_5, hs', hS'⟩ := hS.store (P := Try.prog) (p := 1) (o := 0) (t := 28) (v := .agg ([.int .i64 5, .slice none 0 0, .int .i64 0] : List Value).toArray) (vs := [.int .i64 5, .slice none 0 0, .int .i64 0]) rfl ti28 rfl rfl rfl (by intro u hu; simp only [List.mem_cons, List.not_mem_nil, or_false] at hu; rcases hu with rfl | rfl | rfl <;> rfl)
    refine s_store hm rfl rfl hs' ?_
    replace hS : Sep w0 w_5 [Mem.no, Mem.one g_2 (.cells ([.int .i64 5, .slice none 0 0, .int .i64 0] : List Value).toArray 28 (0, 0))] Z := hS'
    clear hs' hS'
    refine wpList_nil ?_
    replace hm : Fr 11 a [(0, p0_0), (2, .pointer (some ⟨g_2, 0, none⟩))] := hm.keep [0, 2]
    refine x_then_n ?_
    refine wp_ret (x_then_r ?_)
    have hS' := hS.room
    replace hS : Sep w0 w_5 [Mem.no, Mem.one g_2 (.cells ([.int .i64 5, .slice none 0 0, .int .i64 0] : List Value).toArray 28 (0, 0)), Mem.no] Z := hS'
    clear hS'
    replace hS : Sep w0 w_5 [Mem.no, Mem.one g_2 (.cells ([.int .i64 5, .slice none 0 0, .int .i64 0] : List Value).toArray 28 (0, 0)), Mem.no] Z := hS
    obtain rfl := Option.some.inj H
    exact f_ret hm (rs := [.cell 2 28]) rfl (.cell rfl (hS.load_agg (p := 1) (us := [.int .i64 5, .slice none 0 0, .int .i64 0]) rfl Try.underlying28 rfl ti28 rfl rfl) .nil) ⟨_, rfl, .slice none 0 0, Mem.no, Mem.no, rfl, (Sep.sel hS [0, 2] (by decide)), (Own.nil Kd.u8 5 Mem.no)⟩
  · rw [if_neg hc_4] at H
    refine c_cond_f hm rfl (beq_eq_false_iff_ne.2 hc_4) ?_
    refine wp_skip ?_
    refine x_then_n (hKJ_3 _ _ ?_)
    refine wp_seq ?_
    refine wp_region_lit ?_
    refine s_move hm rfl rfl ?_
    clear hm a; intro a hm
    obtain ⟨t_7, et_7, H⟩ := Option.bind_eq_some_iff.1 H
    refine v_index hm rfl Try.underlying22 ti3 rfl rfl rfl hp0_0 (hA.trans hS.old) et_7 ?_
    intro ad_8 cs_9 hk_10 hc_11
    obtain rfl := (show cs_9 = [.int .i64 t_7] from hk_10)
    clear hm a; intro a hm
    refine s_load hm rfl rfl (el_one (o := 0) hc_11 Try.underlying3 rfl rfl) ?_
    clear hm a; intro a hm
    refine s_build hm rfl ti28 pl28 rfl (.cons rfl .nil) (cs := [.int .i64 0, .slice none 0 0, .int .i64 t_7]) rfl ?_
    clear hm a; intro a hm
    obtain ⟨w_12, hs', hS'⟩ := hS.store (P := Try.prog) (p := 1) (o := 0) (t := 28) (v := .agg ([.int .i64 0, .slice none 0 0, .int .i64 t_7] : List Value).toArray) (vs := [.int .i64 0, .slice none 0 0, .int .i64 t_7]) rfl ti28 rfl rfl rfl (by intro u hu; simp only [List.mem_cons, List.not_mem_nil, or_false] at hu; rcases hu with rfl | rfl | rfl <;> rfl)
    refine s_store hm rfl rfl hs' ?_
    replace hS : Sep w0 w_12 [Mem.no, Mem.one g_2 (.cells ([.int .i64 0, .slice none 0 0, .int .i64 t_7] : List Value).toArray 28 (0, 0))] Z := hS'
    clear hs' hS'
    refine wpList_nil ?_
    replace hm : Fr 11 a [(2, .pointer (some ⟨g_2, 0, none⟩))] := hm.keep [2]
    refine x_then_n ?_
    refine wp_ret ?_
    have hS' := hS.room
    replace hS : Sep w0 w_12 [Mem.no, Mem.one g_2 (.cells ([.int .i64 0, .slice none 0 0, .int .i64 t_7] : List Value).toArray 28 (0, 0)), Mem.no] Z := hS'
    clear hS'
    replace hS : Sep w0 w_12 [Mem.no, Mem.one g_2 (.cells ([.int .i64 0, .slice none 0 0, .int .i64 t_7] : List Value).toArray 28 (0, 0)), Mem.no] Z := hS
    obtain rfl := Option.some.inj H
    exact f_ret hm (rs := [.cell 2 28]) rfl (.cell rfl (hS.load_agg (p := 1) (us := [.int .i64 0, .slice none 0 0, .int .i64 t_7]) rfl Try.underlying28 rfl ti28 rfl rfl) .nil) ⟨_, rfl, .slice none 0 0, Mem.no, Mem.no, rfl, (Sep.sel hS [0, 2] (by decide)), (Own.nil Kd.u8 5 Mem.no)⟩

set_option maxHeartbeats 4000000 in
set_option maxRecDepth 20000 in
theorem hocketlaw6_awake.calls (K : Nat) (r : Unit) (w0 w : World) (Z A : Mem) (hA : A.le Z) (hS : Sep w0 w [] Z)
    (H : hocketlaw6_awake.f K = some r) :
    Calls Try.prog 15 [].toArray w (Ret fun v w' => ∃ (N : Mem), v = .bool true ∧ Sep w0 w' [N] Z) := by
  unfold hocketlaw6_awake.f at H
  refine f_enter _ Try.func15 rfl Try.ntmps15 rfl fun a hm => ?_
  replace hm : Fr 61 a [] := hm
  replace hS := hS.start
  replace hS : Sep w0 w [Mem.no] Z := hS
  refine wp_seq ?_
  refine wp_region_lit ?_
  refine s_assign hm rfl rfl ?_
  clear hm a; intro a hm
  refine wpList_nil ?_
  replace hm : Fr 61 a [(0, .bool false)] := hm.keep [0]
  refine x_then_n ?_
  refine wp_seq ?_
  refine wp_region_lit ?_
  obtain ⟨t_1, et_1, H⟩ := Option.bind_eq_some_iff.1 H
  refine s_call hm rfl Try.call13 rfl (lock_Take.calls K ([] : List Int) _ 7 t_1 w0 _ _ _ (Mem.le.refl _) (hS.enter [] (by decide)) (Rd.nil _ _) et_1) ?_
  rintro _ w_2 ⟨v_5, v_9, N_3, M_7, M_11, rfl, hS', hr_6, hr_10⟩
  clear hm a; intro a hm
  obtain ⟨N_4, hS'', le_4, ln_4⟩ := hS.call [] (by decide) rfl (l' := []) (ow := [M_7, M_11]) rfl hS'
  replace hS : Sep w0 w_2 [N_4, M_7, M_11] Z := hS''
  clear hS' hS''
  refine s_move hm rfl rfl ?_
  clear hm a; intro a hm
  refine s_extract hm rfl rfl rfl ?_
  clear hm a; intro a hm
  refine s_extract hm rfl rfl rfl ?_
  clear hm a; intro a hm
  refine v_alloc hm rfl ti28 hS ?_
  intro w_13 g_14 hS'
  clear hm a; intro a hm
  replace hS : Sep w0 w_13 [N_4, M_7, M_11, Mem.one g_14 (.cells ([.int .i64 0, .slice none 0 0, .int .i64 0] : List Value).toArray 28 (0, 0))] Z := hS'
  clear hS'
  refine s_assign hm rfl rfl ?_
  clear hm a; intro a hm
  obtain ⟨w_15, hs', hS'⟩ := hS.store (P := Try.prog) (p := 3) (o := 0) (t := 28) (v := .agg ([.int .i64 t_1.2.Err, v_9, .int .i64 t_1.2.N] : List Value).toArray) (vs := [.int .i64 t_1.2.Err, v_9, .int .i64 t_1.2.N]) rfl ti28 rfl rfl rfl (by intro u hu; simp only [List.mem_cons, List.not_mem_nil, or_false] at hu; rcases hu with rfl | rfl | rfl <;> first | rfl | exact hr_10.one)
  refine s_store hm rfl rfl hs' ?_
  replace hS : Sep w0 w_15 [N_4, M_7, M_11, Mem.one g_14 (.cells ([.int .i64 t_1.2.Err, v_9, .int .i64 t_1.2.N] : List Value).toArray 28 (0, 0))] Z := hS'
  clear hs' hS'
  refine wpList_nil ?_
  replace hm : Fr 61 a [(0, .bool false), (1, v_5), (2, .pointer (some ⟨g_14, 0, none⟩))] := hm.keep [0, 1, 2]
  refine x_then_n ?_
  refine wp_seq ?_
  refine wp_region_lit ?_
  refine s_move hm rfl rfl ?_
  clear hm a; intro a hm
  obtain ⟨t_16, et_16, H⟩ := Option.bind_eq_some_iff.1 H
  refine s_call hm rfl Try.call13 rfl (lock_Take.calls K t_1.1 _ 3 t_16 w0 _ _ _ (Mem.le.refl _) (hS.enter [] (by decide)) (hr_6.rd (hS.own_zed [] 0 (by decide)) (Mem.no_le _)) et_16) ?_
  rintro _ w_17 ⟨v_20, v_24, N_18, M_22, M_26, rfl, hS', hr_21, hr_25⟩
  clear hm a; intro a hm
  obtain ⟨N_19, hS'', le_19, ln_19⟩ := hS.call [] (by decide) rfl (l' := []) (ow := [M_22, M_26]) rfl hS'
  replace hS : Sep w0 w_17 [N_19, M_7, M_11, Mem.one g_14 (.cells ([.int .i64 t_1.2.Err, v_9, .int .i64 t_1.2.N] : List Value).toArray 28 (0, 0)), M_22, M_26] Z := hS''
  clear hS' hS''
  refine s_move hm rfl rfl ?_
  clear hm a; intro a hm
  refine s_extract hm rfl rfl rfl ?_
  clear hm a; intro a hm
  refine s_extract hm rfl rfl rfl ?_
  clear hm a; intro a hm
  refine v_alloc hm rfl ti28 hS ?_
  intro w_28 g_29 hS'
  clear hm a; intro a hm
  replace hS : Sep w0 w_28 [N_19, M_7, M_11, Mem.one g_14 (.cells ([.int .i64 t_1.2.Err, v_9, .int .i64 t_1.2.N] : List Value).toArray 28 (0, 0)), M_22, M_26, Mem.one g_29 (.cells ([.int .i64 0, .slice none 0 0, .int .i64 0] : List Value).toArray 28 (0, 0))] Z := hS'
  clear hS'
  refine s_assign hm rfl rfl ?_
  clear hm a; intro a hm
  obtain ⟨w_30, hs', hS'⟩ := hS.store (P := Try.prog) (p := 6) (o := 0) (t := 28) (v := .agg ([.int .i64 t_16.2.Err, v_24, .int .i64 t_16.2.N] : List Value).toArray) (vs := [.int .i64 t_16.2.Err, v_24, .int .i64 t_16.2.N]) rfl ti28 rfl rfl rfl (by intro u hu; simp only [List.mem_cons, List.not_mem_nil, or_false] at hu; rcases hu with rfl | rfl | rfl <;> first | rfl | exact hr_25.one)
  refine s_store hm rfl rfl hs' ?_
  replace hS : Sep w0 w_30 [N_19, M_7, M_11, Mem.one g_14 (.cells ([.int .i64 t_1.2.Err, v_9, .int .i64 t_1.2.N] : List Value).toArray 28 (0, 0)), M_22, M_26, Mem.one g_29 (.cells ([.int .i64 t_16.2.Err, v_24, .int .i64 t_16.2.N] : List Value).toArray 28 (0, 0))] Z := hS'
  clear hs' hS'
  refine wpList_nil ?_
  replace hm : Fr 61 a [(0, .bool false), (1, v_20), (2, .pointer (some ⟨g_14, 0, none⟩)), (3, .pointer (some ⟨g_29, 0, none⟩))] := hm.keep [0, 1, 2, 3]
  refine x_then_n ?_
  refine wp_seq ?_
  refine wp_region_lit ?_
  refine s_move hm rfl rfl ?_
  clear hm a; intro a hm
  obtain ⟨t_31, et_31, H⟩ := Option.bind_eq_some_iff.1 H
  refine s_call hm rfl Try.call13 rfl (lock_Take.calls K t_16.1 _ 7 t_31 w0 _ _ _ (Mem.le.refl _) (hS.enter [] (by decide)) (hr_21.rd (hS.own_zed [] 3 (by decide)) (Mem.no_le _)) et_31) ?_
  rintro _ w_32 ⟨v_35, v_39, N_33, M_37, M_41, rfl, hS', hr_36, hr_40⟩
  clear hm a; intro a hm
  obtain ⟨N_34, hS'', le_34, ln_34⟩ := hS.call [] (by decide) rfl (l' := []) (ow := [M_37, M_41]) rfl hS'
  replace hS : Sep w0 w_32 [N_34, M_7, M_11, Mem.one g_14 (.cells ([.int .i64 t_1.2.Err, v_9, .int .i64 t_1.2.N] : List Value).toArray 28 (0, 0)), M_22, M_26, Mem.one g_29 (.cells ([.int .i64 t_16.2.Err, v_24, .int .i64 t_16.2.N] : List Value).toArray 28 (0, 0)), M_37, M_41] Z := hS''
  clear hS' hS''
  refine s_move hm rfl rfl ?_
  clear hm a; intro a hm
  refine s_extract hm rfl rfl rfl ?_
  clear hm a; intro a hm
  refine s_extract hm rfl rfl rfl ?_
  clear hm a; intro a hm
  refine v_alloc hm rfl ti28 hS ?_
  intro w_43 g_44 hS'
  clear hm a; intro a hm
  replace hS : Sep w0 w_43 [N_34, M_7, M_11, Mem.one g_14 (.cells ([.int .i64 t_1.2.Err, v_9, .int .i64 t_1.2.N] : List Value).toArray 28 (0, 0)), M_22, M_26, Mem.one g_29 (.cells ([.int .i64 t_16.2.Err, v_24, .int .i64 t_16.2.N] : List Value).toArray 28 (0, 0)), M_37, M_41, Mem.one g_44 (.cells ([.int .i64 0, .slice none 0 0, .int .i64 0] : List Value).toArray 28 (0, 0))] Z := hS'
  clear hS'
  refine s_assign hm rfl rfl ?_
  clear hm a; intro a hm
  obtain ⟨w_45, hs', hS'⟩ := hS.store (P := Try.prog) (p := 9) (o := 0) (t := 28) (v := .agg ([.int .i64 t_31.2.Err, v_39, .int .i64 t_31.2.N] : List Value).toArray) (vs := [.int .i64 t_31.2.Err, v_39, .int .i64 t_31.2.N]) rfl ti28 rfl rfl rfl (by intro u hu; simp only [List.mem_cons, List.not_mem_nil, or_false] at hu; rcases hu with rfl | rfl | rfl <;> first | rfl | exact hr_40.one)
  refine s_store hm rfl rfl hs' ?_
  replace hS : Sep w0 w_45 [N_34, M_7, M_11, Mem.one g_14 (.cells ([.int .i64 t_1.2.Err, v_9, .int .i64 t_1.2.N] : List Value).toArray 28 (0, 0)), M_22, M_26, Mem.one g_29 (.cells ([.int .i64 t_16.2.Err, v_24, .int .i64 t_16.2.N] : List Value).toArray 28 (0, 0)), M_37, M_41, Mem.one g_44 (.cells ([.int .i64 t_31.2.Err, v_39, .int .i64 t_31.2.N] : List Value).toArray 28 (0, 0))] Z := hS'
  clear hs' hS'
  refine wpList_nil ?_
  replace hm : Fr 61 a [(0, .bool false), (1, v_20), (2, .pointer (some ⟨g_14, 0, none⟩)), (3, .pointer (some ⟨g_29, 0, none⟩)), (5, .pointer (some ⟨g_44, 0, none⟩))] := hm.keep [0, 1, 2, 3, 5]
  refine x_then_n ?_
  refine wp_seq ?_
  refine wp_region_lit ?_
  refine s_move hm rfl rfl ?_
  clear hm a; intro a hm
  obtain ⟨t_46, et_46, H⟩ := Option.bind_eq_some_iff.1 H
  refine s_call hm rfl Try.call12 rfl (lock_Free.calls K t_16.1 _ 7 t_46 w0 _ _ _ (Mem.le.refl _) (hS.enter [] (by decide)) (hr_21.rd (hS.own_zed [] 3 (by decide)) (Mem.no_le _)) et_46) ?_
  rintro _ w_47 ⟨v_50, v_54, N_48, M_52, M_56, rfl, hS', hr_51, hr_55⟩
  clear hm a; intro a hm
  obtain ⟨N_49, hS'', le_49, ln_49⟩ := hS.call [] (by decide) rfl (l' := []) (ow := [M_52, M_56]) rfl hS'
  replace hS : Sep w0 w_47 [N_49, M_7, M_11, Mem.one g_14 (.cells ([.int .i64 t_1.2.Err, v_9, .int .i64 t_1.2.N] : List Value).toArray 28 (0, 0)), M_22, M_26, Mem.one g_29 (.cells ([.int .i64 t_16.2.Err, v_24, .int .i64 t_16.2.N] : List Value).toArray 28 (0, 0)), M_37, M_41, Mem.one g_44 (.cells ([.int .i64 t_31.2.Err, v_39, .int .i64 t_31.2.N] : List Value).toArray 28 (0, 0)), M_52, M_56] Z := hS''
  clear hS' hS''
  refine s_move hm rfl rfl ?_
  clear hm a; intro a hm
  refine s_extract hm rfl rfl rfl ?_
  clear hm a; intro a hm
  refine s_extract hm rfl rfl rfl ?_
  clear hm a; intro a hm
  refine v_alloc hm rfl ti28 hS ?_
  intro w_58 g_59 hS'
  clear hm a; intro a hm
  replace hS : Sep w0 w_58 [N_49, M_7, M_11, Mem.one g_14 (.cells ([.int .i64 t_1.2.Err, v_9, .int .i64 t_1.2.N] : List Value).toArray 28 (0, 0)), M_22, M_26, Mem.one g_29 (.cells ([.int .i64 t_16.2.Err, v_24, .int .i64 t_16.2.N] : List Value).toArray 28 (0, 0)), M_37, M_41, Mem.one g_44 (.cells ([.int .i64 t_31.2.Err, v_39, .int .i64 t_31.2.N] : List Value).toArray 28 (0, 0)), M_52, M_56, Mem.one g_59 (.cells ([.int .i64 0, .slice none 0 0, .int .i64 0] : List Value).toArray 28 (0, 0))] Z := hS'
  clear hS'
  refine s_assign hm rfl rfl ?_
  clear hm a; intro a hm
  obtain ⟨w_60, hs', hS'⟩ := hS.store (P := Try.prog) (p := 12) (o := 0) (t := 28) (v := .agg ([.int .i64 t_46.2.Err, v_54, .int .i64 t_46.2.N] : List Value).toArray) (vs := [.int .i64 t_46.2.Err, v_54, .int .i64 t_46.2.N]) rfl ti28 rfl rfl rfl (by intro u hu; simp only [List.mem_cons, List.not_mem_nil, or_false] at hu; rcases hu with rfl | rfl | rfl <;> first | rfl | exact hr_55.one)
  refine s_store hm rfl rfl hs' ?_
  replace hS : Sep w0 w_60 [N_49, M_7, M_11, Mem.one g_14 (.cells ([.int .i64 t_1.2.Err, v_9, .int .i64 t_1.2.N] : List Value).toArray 28 (0, 0)), M_22, M_26, Mem.one g_29 (.cells ([.int .i64 t_16.2.Err, v_24, .int .i64 t_16.2.N] : List Value).toArray 28 (0, 0)), M_37, M_41, Mem.one g_44 (.cells ([.int .i64 t_31.2.Err, v_39, .int .i64 t_31.2.N] : List Value).toArray 28 (0, 0)), M_52, M_56, Mem.one g_59 (.cells ([.int .i64 t_46.2.Err, v_54, .int .i64 t_46.2.N] : List Value).toArray 28 (0, 0))] Z := hS'
  clear hs' hS'
  refine wpList_nil ?_
  replace hm : Fr 61 a [(0, .bool false), (2, .pointer (some ⟨g_14, 0, none⟩)), (3, .pointer (some ⟨g_29, 0, none⟩)), (5, .pointer (some ⟨g_44, 0, none⟩)), (6, v_50), (7, .pointer (some ⟨g_59, 0, none⟩))] := hm.keep [0, 2, 3, 5, 6, 7]
  refine x_then_n ?_
  refine c_seq fun KJ_61 hKJ_61 => ?_
  refine wp_region_lit ?_
  refine s_fieldAddr hm rfl Try.underlying28 rfl ti3 rfl rfl ?_
  clear hm a; intro a hm
  refine s_load hm rfl rfl (hS.load_one (p := 3) rfl Try.underlying3 rfl rfl) ?_
  clear hm a; intro a hm
  refine s_cmp (b := (t_1.2.N == 0)) hm rfl rfl rfl (.inl ⟨rfl, rfl⟩) ?_
  clear hm a; intro a hm
  refine s_move hm rfl rfl ?_
  clear hm a; intro a hm
  by_cases hc_62 : t_1.2.N = 0
  · rw [if_pos hc_62] at H
    refine s_on hm rfl rfl (beq_iff_eq.2 hc_62) ?_
    refine s_fieldAddr hm rfl Try.underlying28 rfl ti3 rfl rfl ?_
    clear hm a; intro a hm
    refine s_on hm rfl rfl (beq_iff_eq.2 hc_62) ?_
    refine s_load hm rfl rfl (hS.load_one (p := 6) rfl Try.underlying3 rfl rfl) ?_
    clear hm a; intro a hm
    refine s_on hm rfl rfl (beq_iff_eq.2 hc_62) ?_
    refine s_cmp (b := (t_16.2.N == 1)) hm rfl rfl rfl (.inl ⟨rfl, rfl⟩) ?_
    clear hm a; intro a hm
    refine s_pick_t hm rfl rfl (beq_iff_eq.2 hc_62) rfl ?_
    clear hm a; intro a hm
    refine s_move hm rfl rfl ?_
    clear hm a; intro a hm
    by_cases hc_63 : t_16.2.N = 1
    · rw [if_pos hc_63] at H
      refine s_on hm rfl rfl (beq_iff_eq.2 hc_63) ?_
      refine s_fieldAddr hm rfl Try.underlying28 rfl ti23 rfl rfl ?_
      clear hm a; intro a hm
      refine s_on hm rfl rfl (beq_iff_eq.2 hc_63) ?_
      refine s_load hm rfl rfl (hS.load_one (p := 9) rfl Try.underlying23 rfl rfl) ?_
      clear hm a; intro a hm
      refine s_on hm rfl rfl (beq_iff_eq.2 hc_63) ?_
      refine s_cmp (b := (t_31.2.Err == 6)) hm rfl rfl rfl (.inl ⟨rfl, rfl⟩) ?_
      clear hm a; intro a hm
      refine s_pick_t hm rfl rfl (beq_iff_eq.2 hc_63) rfl ?_
      clear hm a; intro a hm
      refine s_move hm rfl rfl ?_
      clear hm a; intro a hm
      by_cases hc_64 : t_31.2.Err = 6
      · rw [if_pos hc_64] at H
        refine s_on hm rfl rfl (beq_iff_eq.2 hc_64) ?_
        refine s_fieldAddr hm rfl Try.underlying28 rfl ti3 rfl rfl ?_
        clear hm a; intro a hm
        refine s_on hm rfl rfl (beq_iff_eq.2 hc_64) ?_
        refine s_load hm rfl rfl (hS.load_one (p := 12) rfl Try.underlying3 rfl rfl) ?_
        clear hm a; intro a hm
        refine s_on hm rfl rfl (beq_iff_eq.2 hc_64) ?_
        refine s_cmp (b := (t_46.2.N == 3)) hm rfl rfl rfl (.inl ⟨rfl, rfl⟩) ?_
        clear hm a; intro a hm
        refine s_pick_t hm rfl rfl (beq_iff_eq.2 hc_64) rfl ?_
        clear hm a; intro a hm
        refine s_move hm rfl rfl ?_
        clear hm a; intro a hm
        by_cases hc_65 : t_46.2.N = 3
        · rw [if_pos hc_65] at H
          refine s_on hm rfl rfl (beq_iff_eq.2 hc_65) ?_
          refine s_move hm rfl rfl ?_
          clear hm a; intro a hm
          refine s_on hm rfl rfl (beq_iff_eq.2 hc_65) ?_
          have hq_70 : Reps (Kd.int .i64) Mem.no ([3] : List Int) _ := ((Reps.one (d := (Kd.int .i64)) (x := 3) (show (Kd.int .i64).K _ _ [.int .i64 3] from rfl)).append (Reps.nil (Kd.int .i64) _))
          refine s_buildSlice hm rfl Try.underlying22 ti3 rfl rfl rfl (.cons rfl .nil) rfl rfl rfl hS hq_70 rfl ?_
          intro w_66 v_67 M_68 hS' ho_69
          clear hm a; intro a hm
          replace hS : Sep w0 w_66 [N_49, M_7, M_11, Mem.one g_14 (.cells ([.int .i64 t_1.2.Err, v_9, .int .i64 t_1.2.N] : List Value).toArray 28 (0, 0)), M_22, M_26, Mem.one g_29 (.cells ([.int .i64 t_16.2.Err, v_24, .int .i64 t_16.2.N] : List Value).toArray 28 (0, 0)), M_37, M_41, Mem.one g_44 (.cells ([.int .i64 t_31.2.Err, v_39, .int .i64 t_31.2.N] : List Value).toArray 28 (0, 0)), M_52, M_56, Mem.one g_59 (.cells ([.int .i64 t_46.2.Err, v_54, .int .i64 t_46.2.N] : List Value).toArray 28 (0, 0)), M_68] Z := hS'
          clear hS' hq_70
          refine s_on hm rfl rfl (beq_iff_eq.2 hc_65) ?_
          obtain ⟨t_72, et_72, H⟩ := Option.bind_eq_some_iff.1 H
          refine s_call hm rfl Try.call14 rfl (hocketref1_SameInts.calls K t_46.1 _ ([3] : List Int) _ t_72 w0 _ _ _ (Mem.le.refl _) (hS.enter [] (by decide)) (hr_51.rd (hS.own_zed [] 9 (by decide)) (Mem.no_le _)) (ho_69.rd (hS.own_zed [] 12 (by decide)) (Mem.no_le _)) et_72) ?_
          rintro _ w_73 ⟨N_74, rfl, hS'⟩
          clear hm a; intro a hm
          obtain ⟨N_75, hS'', le_75, ln_75⟩ := hS.call [] (by decide) rfl (l' := []) (ow := []) rfl hS'
          replace hS : Sep w0 w_73 [N_75, M_7, M_11, Mem.one g_14 (.cells ([.int .i64 t_1.2.Err, v_9, .int .i64 t_1.2.N] : List Value).toArray 28 (0, 0)), M_22, M_26, Mem.one g_29 (.cells ([.int .i64 t_16.2.Err, v_24, .int .i64 t_16.2.N] : List Value).toArray 28 (0, 0)), M_37, M_41, Mem.one g_44 (.cells ([.int .i64 t_31.2.Err, v_39, .int .i64 t_31.2.N] : List Value).toArray 28 (0, 0)), M_52, M_56, Mem.one g_59 (.cells ([.int .i64 t_46.2.Err, v_54, .int .i64 t_46.2.N] : List Value).toArray 28 (0, 0)), M_68] Z := hS''
          clear hS' hS''
          refine s_pick_t hm rfl rfl (beq_iff_eq.2 hc_65) rfl ?_
          clear hm a; intro a hm
          refine s_move hm rfl rfl ?_
          clear hm a; intro a hm
          by_cases hc_76 : t_72 = true
          · rw [if_pos hc_76] at H
            refine s_on hm rfl rfl hc_76 ?_
            refine s_move hm rfl rfl ?_
            clear hm a; intro a hm
            refine s_on hm rfl rfl hc_76 ?_
            obtain ⟨t_77, et_77, H⟩ := Option.bind_eq_some_iff.1 H
            refine s_call hm rfl Try.call16 rfl (lock_Owner.calls t_46.1 _ t_77 w0 _ _ _ (Mem.le.refl _) (hS.enter [] (by decide)) (hr_51.rd (hS.own_zed [] 9 (by decide)) (Mem.no_le _)) et_77) ?_
            rintro _ w_78 ⟨v_81, N_79, M_83, rfl, hS', hr_82⟩
            clear hm a; intro a hm
            obtain ⟨N_80, hS'', le_80, ln_80⟩ := hS.call [] (by decide) rfl (l' := []) (ow := [M_83]) rfl hS'
            replace hS : Sep w0 w_78 [N_80, M_7, M_11, Mem.one g_14 (.cells ([.int .i64 t_1.2.Err, v_9, .int .i64 t_1.2.N] : List Value).toArray 28 (0, 0)), M_22, M_26, Mem.one g_29 (.cells ([.int .i64 t_16.2.Err, v_24, .int .i64 t_16.2.N] : List Value).toArray 28 (0, 0)), M_37, M_41, Mem.one g_44 (.cells ([.int .i64 t_31.2.Err, v_39, .int .i64 t_31.2.N] : List Value).toArray 28 (0, 0)), M_52, M_56, Mem.one g_59 (.cells ([.int .i64 t_46.2.Err, v_54, .int .i64 t_46.2.N] : List Value).toArray 28 (0, 0)), M_68, M_83] Z := hS''
            clear hS' hS''
            refine s_on hm rfl rfl hc_76 ?_
            refine s_field_one hm rfl Try.underlying28 rfl Try.underlying3 rfl rfl rfl ?_
            clear hm a; intro a hm
            refine s_on hm rfl rfl hc_76 ?_
            refine s_cmp (b := (t_77.N == 3)) hm rfl rfl rfl (.inl ⟨rfl, rfl⟩) ?_
            clear hm a; intro a hm
            refine s_pick_t hm rfl rfl hc_76 rfl ?_
            clear hm a; intro a hm
            refine s_move hm rfl rfl ?_
            clear hm a; intro a hm
            by_cases hc_85 : t_77.N = 3
            · rw [if_pos hc_85] at H
              refine s_on hm rfl rfl (beq_iff_eq.2 hc_85) ?_
              obtain ⟨t_86, et_86, H⟩ := Option.bind_eq_some_iff.1 H
              refine s_call hm rfl Try.call16 rfl (lock_Owner.calls ([] : List Int) _ t_86 w0 _ _ _ (Mem.le.refl _) (hS.enter [] (by decide)) (Rd.nil _ _) et_86) ?_
              rintro _ w_87 ⟨v_90, N_88, M_92, rfl, hS', hr_91⟩
              clear hm a; intro a hm
              obtain ⟨N_89, hS'', le_89, ln_89⟩ := hS.call [] (by decide) rfl (l' := []) (ow := [M_92]) rfl hS'
              replace hS : Sep w0 w_87 [N_89, M_7, M_11, Mem.one g_14 (.cells ([.int .i64 t_1.2.Err, v_9, .int .i64 t_1.2.N] : List Value).toArray 28 (0, 0)), M_22, M_26, Mem.one g_29 (.cells ([.int .i64 t_16.2.Err, v_24, .int .i64 t_16.2.N] : List Value).toArray 28 (0, 0)), M_37, M_41, Mem.one g_44 (.cells ([.int .i64 t_31.2.Err, v_39, .int .i64 t_31.2.N] : List Value).toArray 28 (0, 0)), M_52, M_56, Mem.one g_59 (.cells ([.int .i64 t_46.2.Err, v_54, .int .i64 t_46.2.N] : List Value).toArray 28 (0, 0)), M_68, M_83, M_92] Z := hS''
              clear hS' hS''
              refine s_on hm rfl rfl (beq_iff_eq.2 hc_85) ?_
              refine s_field_one hm rfl Try.underlying28 rfl Try.underlying23 rfl rfl rfl ?_
              clear hm a; intro a hm
              refine s_on hm rfl rfl (beq_iff_eq.2 hc_85) ?_
              refine s_cmp (b := (t_86.Err == 5)) hm rfl rfl rfl (.inl ⟨rfl, rfl⟩) ?_
              clear hm a; intro a hm
              refine s_pick_t hm rfl rfl (beq_iff_eq.2 hc_85) rfl ?_
              clear hm a; intro a hm
              refine s_assign hm rfl rfl ?_
              clear hm a; intro a hm
              refine wpList_nil ?_
              replace hm : Fr 61 a [(0, .bool (t_86.Err == 5))] := hm.keep [0]
              refine x_then_n (hKJ_61 _ _ ?_)
              refine wp_ret ?_
              by_cases hc_94 : t_86.Err = 5
              · rw [if_pos hc_94] at H
                exact f_ret hm (rs := [.tmp 0]) rfl (.tmp rfl .nil) ⟨_, rfl, N_89, (by rw [(beq_iff_eq.2 hc_94)]; rfl), (Sep.sel hS [0] (by decide))⟩
              · rw [if_neg hc_94] at H
                cases H
            · rw [if_neg hc_85] at H
              cases H
          · rw [if_neg hc_76] at H
            cases H
        · rw [if_neg hc_65] at H
          cases H
      · rw [if_neg hc_64] at H
        cases H
    · rw [if_neg hc_63] at H
      cases H
  · rw [if_neg hc_62] at H
    cases H

set_option maxHeartbeats 4000000 in
set_option maxRecDepth 20000 in
theorem hocketlaw6_LockOne.calls (K : Nat) (x0 : List Int) (p0_0 : Value) (r : Unit) (w0 w : World) (Z A : Mem) (hA : A.le Z) (hS : Sep w0 w [] Z) (hp0_0 : Rd (Kd.int .i64) A p0_0 x0)
    (H : hocketlaw6_LockOne.f K x0 = some r) :
    Calls Try.prog 7 [p0_0].toArray w (Ret fun v w' => ∃ (N : Mem), v = .bool true ∧ Sep w0 w' [N] Z) := by
  unfold hocketlaw6_LockOne.f at H
  refine f_enter _ Try.func7 rfl Try.ntmps7 rfl fun a hm => ?_
  replace hm : Fr 128 a [(0, p0_0)] := hm
  replace hS := hS.start
  replace hS : Sep w0 w [Mem.no] Z := hS
  refine wp_seq ?_
  refine wp_region_lit ?_
  refine s_assign hm rfl rfl ?_
  clear hm a; intro a hm
  refine wpList_nil ?_
  replace hm : Fr 128 a [(0, p0_0), (2, .bool false)] := hm.keep [0, 2]
  refine x_then_n ?_
  refine wp_seq ?_
  refine wp_region_lit ?_
  refine s_assign hm rfl rfl ?_
  clear hm a; intro a hm
  refine s_assign hm rfl rfl ?_
  clear hm a; intro a hm
  refine wpList_nil ?_
  replace hm : Fr 128 a [(0, p0_0), (2, .bool false), (3, .slice none 0 0), (4, .slice none 0 0)] := hm.keep [0, 2, 3, 4]
  refine x_then_n ?_
  refine c_seq fun KJ_1 hKJ_1 => ?_
  refine wp_seq ?_
  refine wp_region_lit ?_
  refine s_assign hm rfl rfl ?_
  clear hm a; intro a hm
  refine wpList_nil ?_
  replace hm : Fr 128 a [(0, p0_0), (2, .bool false), (3, .slice none 0 0), (4, .slice none 0 0), (5, .int .i64 0)] := hm.keep [0, 2, 3, 4, 5]
  refine x_then_n ?_
  have hJ_j_4 : hocketlaw6_LockOne.J1 K = some r → ∀ (a : Act) (w_3 : World), (∃ (N_2 : Mem), Fr 128 a [(2, .bool false)] ∧ Sep w0 w_3 [N_2] Z ∧ Mem.no.le N_2) → KJ_1 a w_3 := by
    clear H hm hS a
    rintro H a w_3 ⟨N_2, hm, hS, le_2⟩
    unfold hocketlaw6_LockOne.J1 at H
    refine hKJ_1 _ _ ?_
    refine wp_seq ?_
    refine wp_region_lit ?_
    obtain ⟨t_5, et_5, H⟩ := Option.bind_eq_some_iff.1 H
    refine s_call hm rfl Try.call15 rfl (hocketlaw6_awake.calls K  t_5 w0 _ _ _ (Mem.le.refl _) (hS.enter [] (by decide))  et_5) ?_
    rintro _ w_6 ⟨N_7, rfl, hS'⟩
    clear hm a; intro a hm
    obtain ⟨N_8, hS'', le_8, ln_8⟩ := hS.call [] (by decide) rfl (l' := []) (ow := []) rfl hS'
    replace hS : Sep w0 w_6 [N_8] Z := hS''
    clear hS' hS''
    refine s_assign hm rfl rfl ?_
    clear hm a; intro a hm
    refine wpList_nil ?_
    replace hm : Fr 128 a [(2, .bool true)] := hm.keep [2]
    refine x_then_n ?_
    refine wp_ret ?_
    exact f_ret hm (rs := [.tmp 2]) rfl (.tmp rfl .nil) ⟨_, rfl, N_8, rfl, (Sep.sel hS [0] (by decide))⟩
  clear hKJ_1
  have hS' := hS.room
  replace hS : Sep w0 w [Mem.no, Mem.no] Z := hS'
  clear hS'
  have hS' := hS.room
  replace hS : Sep w0 w [Mem.no, Mem.no, Mem.no] Z := hS'
  clear hS'
  replace hS : Sep w0 w [Mem.no, Mem.no, Mem.no] Z := hS
  replace hm : Fr 128 a [(0, p0_0), (2, .bool false), (3, .slice none 0 0), (4, .slice none 0 0), (5, .int .i64 0)] := hm.keep [0, 2, 3, 4, 5]
  refine c_block ?_
  refine c_loop (fun k_21 a w_21 => ∃ (x_10 : List Int) (x_15 : List Int) (x_20 : Int) (v_13 : Value) (v_18 : Value) (N_9 : Mem) (M_11 : Mem) (M_16 : Mem), hocketlaw6_LockOne.L1 K x0 (fun v => hocketlaw6_LockOne.J1 K) k_21 (x_10, x_15, x_20) = some r ∧ Fr 128 a [(0, p0_0), (2, .bool false), (3, v_13), (4, v_18), (5, .int .i64 x_20)] ∧ Sep w0 w_21 [N_9, M_11, M_16] Z ∧ Mem.no.le N_9 ∧ Own (Kd.int .i64) 3 M_11 Mem.no v_13 x_10 ∧ Own (Kd.int .i64) 3 M_16 Mem.no v_18 x_15) K ⟨([] : List Int), ([] : List Int), 0, .slice none 0 0, .slice none 0 0, Mem.no, Mem.no, Mem.no, H, hm, (Sep.sel hS [0, 1, 2] (by decide)), (Mem.le.refl _), (Own.nil (Kd.int .i64) 3 Mem.no), (Own.nil (Kd.int .i64) 3 Mem.no)⟩ (fun a w h => by obtain ⟨_, _, _, _, _, _, _, _, H, _⟩ := h; cases (show (none : Option (Unit)) = some r from H)) ?_
  clear hm hS a H
  rintro k_21 a w_21 KL_21 hKL_21 ⟨x_10, x_15, x_20, v_13, v_18, N_9, M_11, M_16, H, hm, hS, le_9, ho_14, ho_19⟩
  replace H : hocketlaw6_LockOne.B1 K x0 (fun v => hocketlaw6_LockOne.J1 K) (hocketlaw6_LockOne.L1 K x0 (fun v => hocketlaw6_LockOne.J1 K) k_21) x_10 x_15 x_20 = some r := H
  unfold hocketlaw6_LockOne.B1 at H
  refine c_seq fun KJ_25 hKJ_25 => ?_
  refine c_seq fun KJ_26 hKJ_26 => ?_
  have hJ_j_30 : ∀ (x_28 : Bool), hocketlaw6_LockOne.J2 K x0 x_20 x_15 x_10 (hocketlaw6_LockOne.L1 K x0 (fun v => hocketlaw6_LockOne.J1 K) k_21) (fun v => hocketlaw6_LockOne.J1 K) x_28 = some r → ∀ (a : Act) (w_29 : World), (∃ (N_27 : Mem), Fr 128 a [(0, p0_0), (2, .bool false), (3, v_13), (4, v_18), (5, .int .i64 x_20), (21, .bool x_28)] ∧ Sep w0 w_29 [N_27, M_11, M_16] Z ∧ N_9.le N_27) → KJ_26 a w_29 := by
    clear H hm hS a
    rintro x_28 H a w_29 ⟨N_27, hm, hS, le_27⟩
    unfold hocketlaw6_LockOne.J2 at H
    refine hKJ_26 _ _ ?_
    by_cases hc_31 : x_28 = true
    · rw [if_pos hc_31] at H
      refine c_cond_t hm rfl hc_31 ?_
      refine wp_skip ?_
      refine x_then_n (hKJ_25 _ _ ?_)
      refine c_seq fun KJ_32 hKJ_32 => ?_
      refine c_block ?_
      refine wp_seq ?_
      refine wp_region_lit ?_
      refine s_move hm rfl rfl ?_
      clear hm a; intro a hm
      refine s_move hm rfl rfl ?_
      clear hm a; intro a hm
      obtain ⟨t_33, et_33, H⟩ := Option.bind_eq_some_iff.1 H
      refine v_index hm rfl Try.underlying22 ti3 rfl rfl rfl hp0_0 (hA.trans hS.old) et_33 ?_
      intro ad_34 cs_35 hk_36 hc_37
      obtain rfl := (show cs_35 = [.int .i64 t_33] from hk_36)
      clear hm a; intro a hm
      refine s_load hm rfl rfl (el_one (o := 0) hc_37 Try.underlying3 rfl rfl) ?_
      clear hm a; intro a hm
      refine s_shift (r := shr .i64 t_33 1) hm rfl rfl rfl (by decide) (.inr ⟨rfl, rfl⟩) ?_
      clear hm a; intro a hm
      refine s_bits (i := shr .i64 t_33 1) (j := 7) (r := band .i64 (shr .i64 t_33 1) 7) hm rfl rfl rfl (.inl ⟨rfl, rfl⟩) ?_
      clear hm a; intro a hm
      refine s_assign hm rfl rfl ?_
      clear hm a; intro a hm
      refine wpList_nil ?_
      replace hm : Fr 128 a [(0, p0_0), (2, .bool false), (3, v_13), (4, v_18), (5, .int .i64 x_20), (6, .int .i64 (band .i64 (shr .i64 t_33 1) 7))] := hm.keep [0, 2, 3, 4, 5, 6]
      refine x_then_n ?_
      refine wp_seq ?_
      refine wp_region_lit ?_
      refine s_assign hm rfl rfl ?_
      clear hm a; intro a hm
      refine wpList_nil ?_
      replace hm : Fr 128 a [(0, p0_0), (2, .bool false), (3, v_13), (4, v_18), (5, .int .i64 x_20), (6, .int .i64 (band .i64 (shr .i64 t_33 1) 7)), (7, .int .i64 (-1))] := hm.keep [0, 2, 3, 4, 5, 6, 7]
      refine x_then_n ?_
      refine c_seq fun KJ_38 hKJ_38 => ?_
      refine wp_seq ?_
      refine wp_region_lit ?_
      refine s_move hm rfl rfl ?_
      clear hm a; intro a hm
      refine s_lenO hm rfl Try.underlying22 rfl ho_19 ?_
      clear hm a; intro a hm
      refine s_move hm rfl rfl ?_
      clear hm a; intro a hm
      refine wpList_nil ?_
      replace hm : Fr 128 a [(0, p0_0), (2, .bool false), (3, v_13), (4, v_18), (5, .int .i64 x_20), (6, .int .i64 (band .i64 (shr .i64 t_33 1) 7)), (7, .int .i64 (-1)), (31, .int .i64 (x_15.length : Int)), (32, .int .i64 0)] := hm.keep [0, 2, 3, 4, 5, 6, 7, 31, 32]
      refine x_then_n ?_
      have hJ_j_42 : ∀ (x_40 : Int), hocketlaw6_LockOne.J3 K x0 x_20 x_10 t_33 x_15 (hocketlaw6_LockOne.L1 K x0 (fun v => hocketlaw6_LockOne.J1 K) k_21) x_40 = some r → ∀ (a : Act) (w_41 : World), (∃ (N_39 : Mem), Fr 128 a [(0, p0_0), (2, .bool false), (3, v_13), (4, v_18), (5, .int .i64 x_20), (6, .int .i64 (band .i64 (shr .i64 t_33 1) 7)), (7, .int .i64 x_40)] ∧ Sep w0 w_41 [N_39, M_11, M_16] Z ∧ N_27.le N_39) → KJ_38 a w_41 := by
        clear H hm hS a
        rintro x_40 H a w_41 ⟨N_39, hm, hS, le_39⟩
        unfold hocketlaw6_LockOne.J3 at H
        refine hKJ_38 _ _ ?_
        refine c_seq fun KJ_43 hKJ_43 => ?_
        refine wp_seq ?_
        refine wp_region_lit ?_
        refine s_move hm rfl rfl ?_
        clear hm a; intro a hm
        refine s_move hm rfl rfl ?_
        clear hm a; intro a hm
        obtain ⟨t_44, et_44, H⟩ := Option.bind_eq_some_iff.1 H
        refine v_index hm rfl Try.underlying22 ti3 rfl rfl rfl hp0_0 (hA.trans hS.old) et_44 ?_
        intro ad_45 cs_46 hk_47 hc_48
        obtain rfl := (show cs_46 = [.int .i64 t_44] from hk_47)
        clear hm a; intro a hm
        refine s_load hm rfl rfl (el_one (o := 0) hc_48 Try.underlying3 rfl rfl) ?_
        clear hm a; intro a hm
        refine s_bits (i := t_44) (j := 1) (r := band .i64 t_44 1) hm rfl rfl rfl (.inl ⟨rfl, rfl⟩) ?_
        clear hm a; intro a hm
        refine s_cmp (b := ((band .i64 t_44 1) == 0)) hm rfl rfl rfl (.inl ⟨rfl, rfl⟩) ?_
        clear hm a; intro a hm
        refine wpList_nil ?_
        replace hm : Fr 128 a [(0, p0_0), (2, .bool false), (3, v_13), (4, v_18), (5, .int .i64 x_20), (6, .int .i64 (band .i64 (shr .i64 t_33 1) 7)), (7, .int .i64 x_40), (48, .bool ((band .i64 t_44 1) == 0))] := hm.keep [0, 2, 3, 4, 5, 6, 7, 48]
        refine x_then_n ?_
        have hJ_j_61 : ∀ (x_50 : List Int), ∀ (x_55 : List Int), hocketlaw6_LockOne.J4 K (hocketlaw6_LockOne.L1 K x0 (fun v => hocketlaw6_LockOne.J1 K) k_21) x_20 x_50 x_55 = some r → ∀ (a : Act) (w_60 : World), (∃ (v_53 : Value) (v_58 : Value) (N_49 : Mem) (M_51 : Mem) (M_56 : Mem), Fr 128 a [(0, p0_0), (2, .bool false), (3, v_53), (4, v_58), (5, .int .i64 x_20)] ∧ Sep w0 w_60 [N_49, Mem.no, Mem.no, M_51, M_56] Z ∧ N_39.le N_49 ∧ Own (Kd.int .i64) 3 M_51 Mem.no v_53 x_50 ∧ Own (Kd.int .i64) 3 M_56 Mem.no v_58 x_55) → KJ_43 a w_60 := by
          clear H hm hS a
          rintro x_50 x_55 H a w_60 ⟨v_53, v_58, N_49, M_51, M_56, hm, hS, le_49, ho_54, ho_59⟩
          unfold hocketlaw6_LockOne.J4 at H
          refine hKJ_43 _ _ ?_
          refine wp_seq ?_
          refine wp_region_lit ?_
          refine s_move hm rfl rfl ?_
          clear hm a; intro a hm
          obtain ⟨t_62, et_62, H⟩ := Option.bind_eq_some_iff.1 H
          refine s_call hm rfl Try.call16 rfl (lock_Owner.calls x_50 _ t_62 w0 _ _ _ (Mem.le.refl _) (hS.enter [] (by decide)) (ho_54.rd (hS.own_zed [] 2 (by decide)) (Mem.no_le _)) et_62) ?_
          rintro _ w_63 ⟨v_66, N_64, M_68, rfl, hS', hr_67⟩
          clear hm a; intro a hm
          obtain ⟨N_65, hS'', le_65, ln_65⟩ := hS.call [] (by decide) rfl (l' := []) (ow := [M_68]) rfl hS'
          replace hS : Sep w0 w_63 [N_65, Mem.no, Mem.no, M_51, M_56, M_68] Z := hS''
          clear hS' hS''
          refine v_alloc hm rfl ti28 hS ?_
          intro w_70 g_71 hS'
          clear hm a; intro a hm
          replace hS : Sep w0 w_70 [N_65, Mem.no, Mem.no, M_51, M_56, M_68, Mem.one g_71 (.cells ([.int .i64 0, .slice none 0 0, .int .i64 0] : List Value).toArray 28 (0, 0))] Z := hS'
          clear hS'
          obtain ⟨w_72, hs', hS'⟩ := hS.store (P := Try.prog) (p := 6) (o := 0) (t := 28) (v := .agg ([.int .i64 t_62.Err, v_66, .int .i64 t_62.N] : List Value).toArray) (vs := [.int .i64 t_62.Err, v_66, .int .i64 t_62.N]) rfl ti28 rfl rfl rfl (by intro u hu; simp only [List.mem_cons, List.not_mem_nil, or_false] at hu; rcases hu with rfl | rfl | rfl <;> first | rfl | exact hr_67.one)
          refine s_store hm rfl rfl hs' ?_
          replace hS : Sep w0 w_72 [N_65, Mem.no, Mem.no, M_51, M_56, M_68, Mem.one g_71 (.cells ([.int .i64 t_62.Err, v_66, .int .i64 t_62.N] : List Value).toArray 28 (0, 0))] Z := hS'
          clear hs' hS'
          refine wpList_nil ?_
          replace hm : Fr 128 a [(0, p0_0), (2, .bool false), (3, v_53), (4, v_58), (5, .int .i64 x_20), (13, .pointer (some ⟨g_71, 0, none⟩))] := hm.keep [0, 2, 3, 4, 5, 13]
          refine x_then_n ?_
          refine c_seq fun KJ_73 hKJ_73 => ?_
          have hJ_j_77 : ∀ (x_75 : Bool), hocketlaw6_LockOne.J5 K (hocketlaw6_LockOne.L1 K x0 (fun v => hocketlaw6_LockOne.J1 K) k_21) x_50 x_55 x_20 x_75 = some r → ∀ (a : Act) (w_76 : World), (∃ (N_74 : Mem), Fr 128 a [(0, p0_0), (2, .bool false), (3, v_53), (4, v_58), (5, .int .i64 x_20), (126, .bool x_75)] ∧ Sep w0 w_76 [N_74, Mem.no, Mem.no, M_51, M_56, Mem.no, Mem.no] Z ∧ N_65.le N_74) → KJ_73 a w_76 := by
            clear H hm hS a
            rintro x_75 H a w_76 ⟨N_74, hm, hS, le_74⟩
            unfold hocketlaw6_LockOne.J5 at H
            refine hKJ_73 _ _ ?_
            by_cases hc_78 : x_75 = true
            · rw [if_pos hc_78] at H
              cases H
            · rw [if_neg hc_78] at H
              refine c_cond_f hm rfl (Bool.eq_false_iff.2 hc_78) ?_
              refine wp_skip ?_
              refine x_block_n ?_
              refine x_then_n (hKJ_32 _ _ ?_)
              refine wp_region_lit ?_
              refine s_move hm rfl rfl ?_
              clear hm a; intro a hm
              refine s_arith (r := w64 (x_20 + 1)) hm rfl rfl rfl (.inl ⟨rfl, rfl⟩) ?_
              clear hm a; intro a hm
              refine s_assign hm rfl rfl ?_
              clear hm a; intro a hm
              refine wpList_nil ?_
              replace hm : Fr 128 a [(0, p0_0), (2, .bool false), (3, v_53), (4, v_58), (5, .int .i64 (w64 (x_20 + 1)))] := hm.keep [0, 2, 3, 4, 5]
              refine x_then_n (hKL_21 _ _ ?_)
              replace hS : Sep w0 w_76 [N_74, Mem.no, Mem.no, M_51, M_56, Mem.no, Mem.no] Z := hS
              replace hm : Fr 128 a [(0, p0_0), (2, .bool false), (3, v_53), (4, v_58), (5, .int .i64 (w64 (x_20 + 1)))] := hm.keep [0, 2, 3, 4, 5]
              exact ⟨x_50, x_55, w64 (x_20 + 1), v_53, v_58, N_74, M_51, M_56, H, hm, (Sep.sel hS [0, 3, 4] (by decide)), (le_9.trans (le_27.trans (le_39.trans (le_49.trans (le_65.trans le_74))))), ho_54, ho_59⟩
          clear hKJ_73
          refine h_begin (S := fun w => Sep w0 w [N_65, Mem.no, Mem.no, M_51, M_56, M_68, Mem.one g_71 (.cells ([.int .i64 t_62.Err, v_66, .int .i64 t_62.N] : List Value).toArray 28 (0, 0))] Z) 26 (by kernel_rfl) rfl [false, false, false, false, false, false, false, false, false, false, false, false, false, false, false, false, false, false, false, false, false, false, false, false, false, false].toArray rfl hS fun w_79 hS => ?_
          replace hS : Sep w0 w_79 [N_65, Mem.no, Mem.no, M_51, M_56, M_68, Mem.one g_71 (.cells ([.int .i64 t_62.Err, v_66, .int .i64 t_62.N] : List Value).toArray 28 (0, 0))] Z := hS
          refine h_take 0 [true, false, false, false, false, false, false, false, false, false, false, false, false, false, false, false, false, false, false, false, false, false, false, false, false, false].toArray rfl (by kernel_rfl) (by kernel_rfl) (by kernel_rfl) (fun _ _ _ _ h => h) rfl rfl rfl rfl hm (hS.sub (.cons (Mem.le.refl _) (.cons (Mem.no_le _) (.cons (Mem.no_le _) (.cons (Mem.le.refl _) (.cons (Mem.le.refl _) (.cons (Mem.le.refl _) (.cons (Mem.le.refl _) (Sub.nil _))))))))) (v := v_53) (fun w hS => r_move hm rfl) ?_
          clear hm a; intro a hm
          refine h_take 1 [true, true, false, false, false, false, false, false, false, false, false, false, false, false, false, false, false, false, false, false, false, false, false, false, false, false].toArray rfl (by kernel_rfl) (by kernel_rfl) (by kernel_rfl) (fun _ _ _ _ h => h) rfl rfl rfl rfl hm (hS.sub (.cons (Mem.le.refl _) (.cons (Mem.no_le _) (.cons (Mem.no_le _) (.cons (Mem.le.refl _) (.cons (Mem.le.refl _) (.cons (Mem.le.refl _) (.cons (Mem.le.refl _) (Sub.nil _))))))))) (v := v_58) (fun w hS => r_move hm rfl) ?_
          clear hm a; intro a hm
          refine h_event 2 [true, true, true, false, false, false, false, false, false, false, false, false, false, false, false, false, false, false, false, false, false, false, false, false, false, false].toArray rfl (by kernel_rfl) rfl ?_
          obtain ⟨t_80, et_80, H⟩ := Option.bind_eq_some_iff.1 H
          refine s_call hm rfl Try.call14 rfl (hocketref1_SameInts.calls K x_50 _ x_55 _ t_80 w0 _ _ _ (Mem.le.refl _) (hS.enter [] (by decide)) (ho_54.rd (hS.own_zed [] 2 (by decide)) (Mem.no_le _)) (ho_59.rd (hS.own_zed [] 3 (by decide)) (Mem.no_le _)) et_80) ?_
          rintro _ w_81 ⟨N_82, rfl, hS'⟩
          clear hm a; intro a hm
          obtain ⟨N_83, hS'', le_83, ln_83⟩ := hS.call [] (by decide) rfl (l' := []) (ow := []) rfl hS'
          replace hS : Sep w0 w_81 [N_83, Mem.no, Mem.no, M_51, M_56, M_68, Mem.one g_71 (.cells ([.int .i64 t_62.Err, v_66, .int .i64 t_62.N] : List Value).toArray 28 (0, 0))] Z := hS''
          clear hS' hS''
          refine wpList_nil ?_
          refine x_then_n ⟨(hS.sub (.cons le_83 (.cons (Mem.no_le _) (.cons (Mem.no_le _) (.cons (Mem.le.refl _) (.cons (Mem.le.refl _) (.cons (Mem.le.refl _) (.cons (Mem.le.refl _) (Sub.nil _))))))))), ?_⟩
          refine h_take 3 [true, true, true, true, false, false, false, false, false, false, false, false, false, false, false, false, false, false, false, false, false, false, false, false, false, false].toArray rfl (by kernel_rfl) (by kernel_rfl) (by kernel_rfl) (fun _ _ _ _ h => h) rfl rfl rfl rfl hm (hS.sub (.cons le_83 (.cons (Mem.no_le _) (.cons (Mem.no_le _) (.cons (Mem.le.refl _) (.cons (Mem.le.refl _) (.cons (Mem.le.refl _) (.cons (Mem.le.refl _) (Sub.nil _))))))))) (v := .bool (!t_80)) (fun w hS => r_not hm rfl) ?_
          clear hm a; intro a hm
          refine h_take 4 [true, true, true, true, true, false, false, false, false, false, false, false, false, false, false, false, false, false, false, false, false, false, false, false, false, false].toArray rfl (by kernel_rfl) (by kernel_rfl) (by kernel_rfl) (fun _ _ _ _ h => h) rfl rfl rfl rfl hm (hS.sub (.cons le_83 (.cons (Mem.no_le _) (.cons (Mem.no_le _) (.cons (Mem.le.refl _) (.cons (Mem.le.refl _) (.cons (Mem.le.refl _) (.cons (Mem.le.refl _) (Sub.nil _))))))))) (v := .bool (!t_80)) (fun w hS => r_move hm rfl) ?_
          clear hm a; intro a hm
          by_cases hc_84 : t_80 = true
          · rw [if_pos hc_84] at H
            refine h_take_on 5 [true, true, true, true, true, true, false, false, false, false, false, false, false, false, false, false, false, false, false, false, false, false, false, false, false, false].toArray rfl (by kernel_rfl) (by kernel_rfl) (by kernel_rfl) (fun _ _ _ _ h => h) rfl rfl rfl rfl (nf hc_84) rfl rfl hm (hS.sub (.cons le_83 (.cons (Mem.no_le _) (.cons (Mem.no_le _) (.cons (Mem.le.refl _) (.cons (Mem.le.refl _) (.cons (Mem.le.refl _) (.cons (Mem.le.refl _) (Sub.nil _))))))))) (v := v_58) (fun w hS => r_move hm rfl) ?_
            clear hm a; intro a hm
            refine h_take_on 6 [true, true, true, true, true, true, true, false, false, false, false, false, false, false, false, false, false, false, false, false, false, false, false, false, false, false].toArray rfl (by kernel_rfl) (by kernel_rfl) (by kernel_rfl) (fun _ _ _ _ h => h) rfl rfl rfl rfl (nf hc_84) rfl rfl hm (hS.sub (.cons le_83 (.cons (Mem.no_le _) (.cons (Mem.no_le _) (.cons (Mem.le.refl _) (.cons (Mem.le.refl _) (.cons (Mem.le.refl _) (.cons (Mem.le.refl _) (Sub.nil _))))))))) (v := .int .i64 (x_55.length : Int)) (fun w hS => r_lenO hm Try.underlying22 rfl ho_59) ?_
            clear hm a; intro a hm
            refine h_take_on 7 [true, true, true, true, true, true, true, true, false, false, false, false, false, false, false, false, false, false, false, false, false, false, false, false, false, false].toArray rfl (by kernel_rfl) (by kernel_rfl) (by kernel_rfl) (fun _ _ _ _ h => h) rfl rfl rfl rfl (nf hc_84) rfl rfl hm (hS.sub (.cons le_83 (.cons (Mem.no_le _) (.cons (Mem.no_le _) (.cons (Mem.le.refl _) (.cons (Mem.le.refl _) (.cons (Mem.le.refl _) (.cons (Mem.le.refl _) (Sub.nil _))))))))) (v := .bool (decide ((x_55.length : Int) > 0))) (fun w hS => r_cmp (b := decide ((x_55.length : Int) > 0)) hm rfl rfl (.inr (.inr (.inr (.inr (.inl ⟨rfl, rfl⟩)))))) ?_
            clear hm a; intro a hm
            refine h_take_on 8 [true, true, true, true, true, true, true, true, true, false, false, false, false, false, false, false, false, false, false, false, false, false, false, false, false, false].toArray rfl (by kernel_rfl) (by kernel_rfl) (by kernel_rfl) (fun _ _ _ _ h => h) rfl rfl rfl rfl (nf hc_84) rfl rfl hm (hS.sub (.cons le_83 (.cons (Mem.no_le _) (.cons (Mem.no_le _) (.cons (Mem.le.refl _) (.cons (Mem.le.refl _) (.cons (Mem.le.refl _) (.cons (Mem.le.refl _) (Sub.nil _))))))))) (v := .bool (decide ((x_55.length : Int) > 0))) (fun w hS => r_move hm rfl) ?_
            clear hm a; intro a hm
            by_cases hc_85 : (x_55.length : Int) > 0
            · rw [if_pos hc_85] at H
              refine h_take_on 9 [true, true, true, true, true, true, true, true, true, true, false, false, false, false, false, false, false, false, false, false, false, false, false, false, false, false].toArray rfl (by kernel_rfl) (by kernel_rfl) (by kernel_rfl) (fun _ _ _ _ h => h) rfl rfl rfl rfl (decide_eq_true hc_85) rfl rfl hm (hS.sub (.cons le_83 (.cons (Mem.no_le _) (.cons (Mem.no_le _) (.cons (Mem.le.refl _) (.cons (Mem.le.refl _) (.cons (Mem.le.refl _) (.cons (Mem.le.refl _) (Sub.nil _))))))))) (v := .pointer (some ⟨g_71, 2, none⟩)) (fun w hS => r_fieldAddr hm Try.underlying28 rfl ti3 rfl rfl rfl) ?_
              clear hm a; intro a hm
              refine h_take_on 10 [true, true, true, true, true, true, true, true, true, true, true, false, false, false, false, false, false, false, false, false, false, false, false, false, false, false].toArray rfl (by kernel_rfl) (by kernel_rfl) (by kernel_rfl) (fun _ _ _ _ h => h) rfl rfl rfl rfl (decide_eq_true hc_85) rfl rfl hm (hS.sub (.cons le_83 (.cons (Mem.no_le _) (.cons (Mem.no_le _) (.cons (Mem.le.refl _) (.cons (Mem.le.refl _) (.cons (Mem.le.refl _) (.cons (Mem.le.refl _) (Sub.nil _))))))))) (v := .int .i64 t_62.N) (fun w hS => r_load hm rfl (hS.load_one (p := 6) rfl Try.underlying3 rfl rfl)) ?_
              clear hm a; intro a hm
              refine h_take_on 11 [true, true, true, true, true, true, true, true, true, true, true, true, false, false, false, false, false, false, false, false, false, false, false, false, false, false].toArray rfl (by kernel_rfl) (by kernel_rfl) (by kernel_rfl) (fun _ _ _ _ h => h) rfl rfl rfl rfl (decide_eq_true hc_85) rfl rfl hm (hS.sub (.cons le_83 (.cons (Mem.no_le _) (.cons (Mem.no_le _) (.cons (Mem.le.refl _) (.cons (Mem.le.refl _) (.cons (Mem.le.refl _) (.cons (Mem.le.refl _) (Sub.nil _))))))))) (v := v_58) (fun w hS => r_move hm rfl) ?_
              clear hm a; intro a hm
              obtain ⟨t_86, et_86, H⟩ := Option.bind_eq_some_iff.1 H
              refine h_takeE_on 12 [true, true, true, true, true, true, true, true, true, true, true, true, true, false, false, false, false, false, false, false, false, false, false, false, false, false].toArray rfl (by kernel_rfl) (by kernel_rfl) (by kernel_rfl) (fun _ _ _ _ h => h) rfl rfl rfl rfl (decide_eq_true hc_85) rfl rfl hm (hS.sub (.cons le_83 (.cons (Mem.no_le _) (.cons (Mem.no_le _) (.cons (Mem.le.refl _) (.cons (Mem.le.refl _) (.cons (Mem.le.refl _) (.cons (Mem.le.refl _) (Sub.nil _))))))))) (f := fun ad => .pointer (some ad)) (r_indexO hm Try.underlying22 ti3 rfl rfl rfl ho_59 et_86) ?_
              rintro ad_87 ⟨cs_88, hk_89, hc_90⟩
              obtain rfl := (show cs_88 = [.int .i64 t_86] from hk_89)
              clear hm a; intro a hm
              refine h_take_on 13 [true, true, true, true, true, true, true, true, true, true, true, true, true, true, false, false, false, false, false, false, false, false, false, false, false, false].toArray rfl (by kernel_rfl) (by kernel_rfl) (by kernel_rfl) (fun _ _ _ _ h => h) rfl rfl rfl rfl (decide_eq_true hc_85) rfl rfl hm (hS.sub (.cons le_83 (.cons (Mem.no_le _) (.cons (Mem.no_le _) (.cons (Mem.le.refl _) (.cons (Mem.le.refl _) (.cons (Mem.le.refl _) (.cons (Mem.le.refl _) (Sub.nil _))))))))) (v := .int .i64 t_86) (fun w hS => r_load hm rfl (el_one (o := 0) (fun j c h => Mem.cell_le (hS.own 4) (hc_90 j c h)) Try.underlying3 rfl rfl)) ?_
              clear hm a; intro a hm
              refine h_take_on 14 [true, true, true, true, true, true, true, true, true, true, true, true, true, true, true, false, false, false, false, false, false, false, false, false, false, false].toArray rfl (by kernel_rfl) (by kernel_rfl) (by kernel_rfl) (fun _ _ _ _ h => h) rfl rfl rfl rfl (decide_eq_true hc_85) rfl rfl hm (hS.sub (.cons le_83 (.cons (Mem.no_le _) (.cons (Mem.no_le _) (.cons (Mem.le.refl _) (.cons (Mem.le.refl _) (.cons (Mem.le.refl _) (.cons (Mem.le.refl _) (Sub.nil _))))))))) (v := .bool (t_62.N != t_86)) (fun w hS => r_cmp (b := (t_62.N != t_86)) hm rfl rfl (.inr (.inl ⟨rfl, rfl⟩))) ?_
              clear hm a; intro a hm
              refine h_take_on 15 [true, true, true, true, true, true, true, true, true, true, true, true, true, true, true, true, false, false, false, false, false, false, false, false, false, false].toArray rfl (by kernel_rfl) (by kernel_rfl) (by kernel_rfl) (fun _ _ _ _ h => h) rfl rfl rfl rfl (nf hc_84) rfl rfl hm (hS.sub (.cons le_83 (.cons (Mem.no_le _) (.cons (Mem.no_le _) (.cons (Mem.le.refl _) (.cons (Mem.le.refl _) (.cons (Mem.le.refl _) (.cons (Mem.le.refl _) (Sub.nil _))))))))) (v := .bool (t_62.N != t_86)) (fun w hS => r_pick_t hm rfl (decide_eq_true hc_85) rfl) ?_
              clear hm a; intro a hm
              refine h_take 16 [true, true, true, true, true, true, true, true, true, true, true, true, true, true, true, true, true, false, false, false, false, false, false, false, false, false].toArray rfl (by kernel_rfl) (by kernel_rfl) (by kernel_rfl) (fun _ _ _ _ h => h) rfl rfl rfl rfl hm (hS.sub (.cons le_83 (.cons (Mem.no_le _) (.cons (Mem.no_le _) (.cons (Mem.le.refl _) (.cons (Mem.le.refl _) (.cons (Mem.le.refl _) (.cons (Mem.le.refl _) (Sub.nil _))))))))) (v := .bool (t_62.N != t_86)) (fun w hS => r_pick_f hm rfl (nf hc_84) rfl) ?_
              clear hm a; intro a hm
              refine h_take 17 [true, true, true, true, true, true, true, true, true, true, true, true, true, true, true, true, true, true, false, false, false, false, false, false, false, false].toArray rfl (by kernel_rfl) (by kernel_rfl) (by kernel_rfl) (fun _ _ _ _ h => h) rfl rfl rfl rfl hm (hS.sub (.cons le_83 (.cons (Mem.no_le _) (.cons (Mem.no_le _) (.cons (Mem.le.refl _) (.cons (Mem.le.refl _) (.cons (Mem.le.refl _) (.cons (Mem.le.refl _) (Sub.nil _))))))))) (v := .bool (t_62.N != t_86)) (fun w hS => r_move hm rfl) ?_
              clear hm a; intro a hm
              by_cases hc_91 : t_62.N = t_86
              · rw [if_pos hc_91] at H
                refine h_take_on 18 [true, true, true, true, true, true, true, true, true, true, true, true, true, true, true, true, true, true, true, false, false, false, false, false, false, false].toArray rfl (by kernel_rfl) (by kernel_rfl) (by kernel_rfl) (fun _ _ _ _ h => h) rfl rfl rfl rfl (bne_eq_false_iff_eq.2 hc_91) rfl rfl hm (hS.sub (.cons le_83 (.cons (Mem.no_le _) (.cons (Mem.no_le _) (.cons (Mem.le.refl _) (.cons (Mem.le.refl _) (.cons (Mem.le.refl _) (.cons (Mem.le.refl _) (Sub.nil _))))))))) (v := .pointer (some ⟨g_71, 0, none⟩)) (fun w hS => r_fieldAddr hm Try.underlying28 rfl ti23 rfl rfl rfl) ?_
                clear hm a; intro a hm
                refine h_take_on 19 [true, true, true, true, true, true, true, true, true, true, true, true, true, true, true, true, true, true, true, true, false, false, false, false, false, false].toArray rfl (by kernel_rfl) (by kernel_rfl) (by kernel_rfl) (fun _ _ _ _ h => h) rfl rfl rfl rfl (bne_eq_false_iff_eq.2 hc_91) rfl rfl hm (hS.sub (.cons le_83 (.cons (Mem.no_le _) (.cons (Mem.no_le _) (.cons (Mem.le.refl _) (.cons (Mem.le.refl _) (.cons (Mem.le.refl _) (.cons (Mem.le.refl _) (Sub.nil _))))))))) (v := .int .i64 t_62.Err) (fun w hS => r_load hm rfl (hS.load_one (p := 6) rfl Try.underlying23 rfl rfl)) ?_
                clear hm a; intro a hm
                refine h_take_on 20 [true, true, true, true, true, true, true, true, true, true, true, true, true, true, true, true, true, true, true, true, true, false, false, false, false, false].toArray rfl (by kernel_rfl) (by kernel_rfl) (by kernel_rfl) (fun _ _ _ _ h => h) rfl rfl rfl rfl (bne_eq_false_iff_eq.2 hc_91) rfl rfl hm (hS.sub (.cons le_83 (.cons (Mem.no_le _) (.cons (Mem.no_le _) (.cons (Mem.le.refl _) (.cons (Mem.le.refl _) (.cons (Mem.le.refl _) (.cons (Mem.le.refl _) (Sub.nil _))))))))) (v := .bool (t_62.Err == 0)) (fun w hS => r_cmp (b := (t_62.Err == 0)) hm rfl rfl (.inl ⟨rfl, rfl⟩)) ?_
                clear hm a; intro a hm
                refine h_take_on 21 [true, true, true, true, true, true, true, true, true, true, true, true, true, true, true, true, true, true, true, true, true, true, false, false, false, false].toArray rfl (by kernel_rfl) (by kernel_rfl) (by kernel_rfl) (fun _ _ _ _ h => h) rfl rfl rfl rfl (bne_eq_false_iff_eq.2 hc_91) rfl rfl hm (hS.sub (.cons le_83 (.cons (Mem.no_le _) (.cons (Mem.no_le _) (.cons (Mem.le.refl _) (.cons (Mem.le.refl _) (.cons (Mem.le.refl _) (.cons (Mem.le.refl _) (Sub.nil _))))))))) (v := v_58) (fun w hS => r_move hm rfl) ?_
                clear hm a; intro a hm
                refine h_take_on 22 [true, true, true, true, true, true, true, true, true, true, true, true, true, true, true, true, true, true, true, true, true, true, true, false, false, false].toArray rfl (by kernel_rfl) (by kernel_rfl) (by kernel_rfl) (fun _ _ _ _ h => h) rfl rfl rfl rfl (bne_eq_false_iff_eq.2 hc_91) rfl rfl hm (hS.sub (.cons le_83 (.cons (Mem.no_le _) (.cons (Mem.no_le _) (.cons (Mem.le.refl _) (.cons (Mem.le.refl _) (.cons (Mem.le.refl _) (.cons (Mem.le.refl _) (Sub.nil _))))))))) (v := .int .i64 (x_55.length : Int)) (fun w hS => r_lenO hm Try.underlying22 rfl ho_59) ?_
                clear hm a; intro a hm
                refine h_take_on 23 [true, true, true, true, true, true, true, true, true, true, true, true, true, true, true, true, true, true, true, true, true, true, true, true, false, false].toArray rfl (by kernel_rfl) (by kernel_rfl) (by kernel_rfl) (fun _ _ _ _ h => h) rfl rfl rfl rfl (bne_eq_false_iff_eq.2 hc_91) rfl rfl hm (hS.sub (.cons le_83 (.cons (Mem.no_le _) (.cons (Mem.no_le _) (.cons (Mem.le.refl _) (.cons (Mem.le.refl _) (.cons (Mem.le.refl _) (.cons (Mem.le.refl _) (Sub.nil _))))))))) (v := .bool (decide ((x_55.length : Int) > 0))) (fun w hS => r_cmp (b := decide ((x_55.length : Int) > 0)) hm rfl rfl (.inr (.inr (.inr (.inr (.inl ⟨rfl, rfl⟩)))))) ?_
                clear hm a; intro a hm
                refine h_take_on 24 [true, true, true, true, true, true, true, true, true, true, true, true, true, true, true, true, true, true, true, true, true, true, true, true, true, false].toArray rfl (by kernel_rfl) (by kernel_rfl) (by kernel_rfl) (fun _ _ _ _ h => h) rfl rfl rfl rfl (bne_eq_false_iff_eq.2 hc_91) rfl rfl hm (hS.sub (.cons le_83 (.cons (Mem.no_le _) (.cons (Mem.no_le _) (.cons (Mem.le.refl _) (.cons (Mem.le.refl _) (.cons (Mem.le.refl _) (.cons (Mem.le.refl _) (Sub.nil _))))))))) (v := .bool (!((t_62.Err == 0) == (decide ((x_55.length : Int) > 0))))) (fun w hS => r_beq (b := !((t_62.Err == 0) == (decide ((x_55.length : Int) > 0)))) hm Try.underlying4 rfl rfl (.inr ⟨rfl, rfl⟩)) ?_
                clear hm a; intro a hm
                refine h_take 25 [true, true, true, true, true, true, true, true, true, true, true, true, true, true, true, true, true, true, true, true, true, true, true, true, true, true].toArray rfl (by kernel_rfl) (by kernel_rfl) (by kernel_rfl) (fun _ _ _ _ h => h) rfl rfl rfl rfl hm (hS.sub (.cons le_83 (.cons (Mem.no_le _) (.cons (Mem.no_le _) (.cons (Mem.le.refl _) (.cons (Mem.le.refl _) (.cons (Mem.le.refl _) (.cons (Mem.le.refl _) (Sub.nil _))))))))) (v := .bool (!((t_62.Err == 0) == (decide ((x_55.length : Int) > 0))))) (fun w hS => r_pick_f hm rfl (bne_eq_false_iff_eq.2 hc_91) rfl) ?_
                clear hm a; intro a hm
                refine h_done (by kernel_rfl) ?_
                replace hm : Fr 128 a [(0, p0_0), (2, .bool false), (3, v_53), (4, v_58), (5, .int .i64 x_20), (126, .bool (!((t_62.Err == 0) == (decide ((x_55.length : Int) > 0)))))] := hm.keep [0, 2, 3, 4, 5, 126]
                replace hS : Sep w0 w_81 [N_83, Mem.no, Mem.no, M_51, M_56, M_68, Mem.one g_71 (.cells ([.int .i64 t_62.Err, v_66, .int .i64 t_62.N] : List Value).toArray 28 (0, 0))] Z := hS
                replace hm : Fr 128 a [(0, p0_0), (2, .bool false), (3, v_53), (4, v_58), (5, .int .i64 x_20), (126, .bool (!((t_62.Err == 0) == (decide ((x_55.length : Int) > 0)))))] := hm.keep [0, 2, 3, 4, 5, 126]
                exact x_then_n (hJ_j_77 (!((t_62.Err == 0) == (decide ((x_55.length : Int) > 0)))) H _ _ ⟨N_83, hm, (Sep.sel hS [0, 1000, 1001, 3, 4, 1004, 1005] (by decide)), le_83⟩)
              · rw [if_neg hc_91] at H
                refine h_take_off 18 [true, true, true, true, true, true, true, true, true, true, true, true, true, true, true, true, true, true, true, false, false, false, false, false, false, false].toArray rfl (by kernel_rfl) (by kernel_rfl) (by kernel_rfl) (fun _ _ _ _ h => h) rfl rfl rfl rfl (.inl (congrArg Value.bool (bne_iff_ne.2 hc_91))) rfl rfl hm (hS.sub (.cons le_83 (.cons (Mem.no_le _) (.cons (Mem.no_le _) (.cons (Mem.le.refl _) (.cons (Mem.le.refl _) (.cons (Mem.le.refl _) (.cons (Mem.le.refl _) (Sub.nil _))))))))) ?_
                clear hm a; intro a hm
                refine h_take_off 19 [true, true, true, true, true, true, true, true, true, true, true, true, true, true, true, true, true, true, true, true, false, false, false, false, false, false].toArray rfl (by kernel_rfl) (by kernel_rfl) (by kernel_rfl) (fun _ _ _ _ h => h) rfl rfl rfl rfl (.inl (congrArg Value.bool (bne_iff_ne.2 hc_91))) rfl rfl hm (hS.sub (.cons le_83 (.cons (Mem.no_le _) (.cons (Mem.no_le _) (.cons (Mem.le.refl _) (.cons (Mem.le.refl _) (.cons (Mem.le.refl _) (.cons (Mem.le.refl _) (Sub.nil _))))))))) ?_
                clear hm a; intro a hm
                refine h_take_off 20 [true, true, true, true, true, true, true, true, true, true, true, true, true, true, true, true, true, true, true, true, true, false, false, false, false, false].toArray rfl (by kernel_rfl) (by kernel_rfl) (by kernel_rfl) (fun _ _ _ _ h => h) rfl rfl rfl rfl (.inl (congrArg Value.bool (bne_iff_ne.2 hc_91))) rfl rfl hm (hS.sub (.cons le_83 (.cons (Mem.no_le _) (.cons (Mem.no_le _) (.cons (Mem.le.refl _) (.cons (Mem.le.refl _) (.cons (Mem.le.refl _) (.cons (Mem.le.refl _) (Sub.nil _))))))))) ?_
                clear hm a; intro a hm
                refine h_take_off 21 [true, true, true, true, true, true, true, true, true, true, true, true, true, true, true, true, true, true, true, true, true, true, false, false, false, false].toArray rfl (by kernel_rfl) (by kernel_rfl) (by kernel_rfl) (fun _ _ _ _ h => h) rfl rfl rfl rfl (.inl (congrArg Value.bool (bne_iff_ne.2 hc_91))) rfl rfl hm (hS.sub (.cons le_83 (.cons (Mem.no_le _) (.cons (Mem.no_le _) (.cons (Mem.le.refl _) (.cons (Mem.le.refl _) (.cons (Mem.le.refl _) (.cons (Mem.le.refl _) (Sub.nil _))))))))) ?_
                clear hm a; intro a hm
                refine h_take_off 22 [true, true, true, true, true, true, true, true, true, true, true, true, true, true, true, true, true, true, true, true, true, true, true, false, false, false].toArray rfl (by kernel_rfl) (by kernel_rfl) (by kernel_rfl) (fun _ _ _ _ h => h) rfl rfl rfl rfl (.inl (congrArg Value.bool (bne_iff_ne.2 hc_91))) rfl rfl hm (hS.sub (.cons le_83 (.cons (Mem.no_le _) (.cons (Mem.no_le _) (.cons (Mem.le.refl _) (.cons (Mem.le.refl _) (.cons (Mem.le.refl _) (.cons (Mem.le.refl _) (Sub.nil _))))))))) ?_
                clear hm a; intro a hm
                refine h_take_off 23 [true, true, true, true, true, true, true, true, true, true, true, true, true, true, true, true, true, true, true, true, true, true, true, true, false, false].toArray rfl (by kernel_rfl) (by kernel_rfl) (by kernel_rfl) (fun _ _ _ _ h => h) rfl rfl rfl rfl (.inl (congrArg Value.bool (bne_iff_ne.2 hc_91))) rfl rfl hm (hS.sub (.cons le_83 (.cons (Mem.no_le _) (.cons (Mem.no_le _) (.cons (Mem.le.refl _) (.cons (Mem.le.refl _) (.cons (Mem.le.refl _) (.cons (Mem.le.refl _) (Sub.nil _))))))))) ?_
                clear hm a; intro a hm
                refine h_take_off 24 [true, true, true, true, true, true, true, true, true, true, true, true, true, true, true, true, true, true, true, true, true, true, true, true, true, false].toArray rfl (by kernel_rfl) (by kernel_rfl) (by kernel_rfl) (fun _ _ _ _ h => h) rfl rfl rfl rfl (.inl (congrArg Value.bool (bne_iff_ne.2 hc_91))) rfl rfl hm (hS.sub (.cons le_83 (.cons (Mem.no_le _) (.cons (Mem.no_le _) (.cons (Mem.le.refl _) (.cons (Mem.le.refl _) (.cons (Mem.le.refl _) (.cons (Mem.le.refl _) (Sub.nil _))))))))) ?_
                clear hm a; intro a hm
                refine h_take 25 [true, true, true, true, true, true, true, true, true, true, true, true, true, true, true, true, true, true, true, true, true, true, true, true, true, true].toArray rfl (by kernel_rfl) (by kernel_rfl) (by kernel_rfl) (fun _ _ _ _ h => h) rfl rfl rfl rfl hm (hS.sub (.cons le_83 (.cons (Mem.no_le _) (.cons (Mem.no_le _) (.cons (Mem.le.refl _) (.cons (Mem.le.refl _) (.cons (Mem.le.refl _) (.cons (Mem.le.refl _) (Sub.nil _))))))))) (v := .bool true) (fun w hS => r_pick_t hm rfl (bne_iff_ne.2 hc_91) rfl) ?_
                clear hm a; intro a hm
                refine h_done (by kernel_rfl) ?_
                replace hm : Fr 128 a [(0, p0_0), (2, .bool false), (3, v_53), (4, v_58), (5, .int .i64 x_20), (126, .bool true)] := hm.keep [0, 2, 3, 4, 5, 126]
                replace hS : Sep w0 w_81 [N_83, Mem.no, Mem.no, M_51, M_56, M_68, Mem.one g_71 (.cells ([.int .i64 t_62.Err, v_66, .int .i64 t_62.N] : List Value).toArray 28 (0, 0))] Z := hS
                replace hm : Fr 128 a [(0, p0_0), (2, .bool false), (3, v_53), (4, v_58), (5, .int .i64 x_20), (126, .bool true)] := hm.keep [0, 2, 3, 4, 5, 126]
                exact x_then_n (hJ_j_77 true H _ _ ⟨N_83, hm, (Sep.sel hS [0, 1000, 1001, 3, 4, 1004, 1005] (by decide)), le_83⟩)
            · rw [if_neg hc_85] at H
              refine h_take_off 9 [true, true, true, true, true, true, true, true, true, true, false, false, false, false, false, false, false, false, false, false, false, false, false, false, false, false].toArray rfl (by kernel_rfl) (by kernel_rfl) (by kernel_rfl) (fun _ _ _ _ h => h) rfl rfl rfl rfl (.inl (congrArg Value.bool (decide_eq_false hc_85))) rfl rfl hm (hS.sub (.cons le_83 (.cons (Mem.no_le _) (.cons (Mem.no_le _) (.cons (Mem.le.refl _) (.cons (Mem.le.refl _) (.cons (Mem.le.refl _) (.cons (Mem.le.refl _) (Sub.nil _))))))))) ?_
              clear hm a; intro a hm
              refine h_take_off 10 [true, true, true, true, true, true, true, true, true, true, true, false, false, false, false, false, false, false, false, false, false, false, false, false, false, false].toArray rfl (by kernel_rfl) (by kernel_rfl) (by kernel_rfl) (fun _ _ _ _ h => h) rfl rfl rfl rfl (.inl (congrArg Value.bool (decide_eq_false hc_85))) rfl rfl hm (hS.sub (.cons le_83 (.cons (Mem.no_le _) (.cons (Mem.no_le _) (.cons (Mem.le.refl _) (.cons (Mem.le.refl _) (.cons (Mem.le.refl _) (.cons (Mem.le.refl _) (Sub.nil _))))))))) ?_
              clear hm a; intro a hm
              refine h_take_off 11 [true, true, true, true, true, true, true, true, true, true, true, true, false, false, false, false, false, false, false, false, false, false, false, false, false, false].toArray rfl (by kernel_rfl) (by kernel_rfl) (by kernel_rfl) (fun _ _ _ _ h => h) rfl rfl rfl rfl (.inl (congrArg Value.bool (decide_eq_false hc_85))) rfl rfl hm (hS.sub (.cons le_83 (.cons (Mem.no_le _) (.cons (Mem.no_le _) (.cons (Mem.le.refl _) (.cons (Mem.le.refl _) (.cons (Mem.le.refl _) (.cons (Mem.le.refl _) (Sub.nil _))))))))) ?_
              clear hm a; intro a hm
              refine h_take_off 12 [true, true, true, true, true, true, true, true, true, true, true, true, true, false, false, false, false, false, false, false, false, false, false, false, false, false].toArray rfl (by kernel_rfl) (by kernel_rfl) (by kernel_rfl) (fun _ _ _ _ h => h) rfl rfl rfl rfl (.inl (congrArg Value.bool (decide_eq_false hc_85))) rfl rfl hm (hS.sub (.cons le_83 (.cons (Mem.no_le _) (.cons (Mem.no_le _) (.cons (Mem.le.refl _) (.cons (Mem.le.refl _) (.cons (Mem.le.refl _) (.cons (Mem.le.refl _) (Sub.nil _))))))))) ?_
              clear hm a; intro a hm
              refine h_take_off 13 [true, true, true, true, true, true, true, true, true, true, true, true, true, true, false, false, false, false, false, false, false, false, false, false, false, false].toArray rfl (by kernel_rfl) (by kernel_rfl) (by kernel_rfl) (fun _ _ _ _ h => h) rfl rfl rfl rfl (.inl (congrArg Value.bool (decide_eq_false hc_85))) rfl rfl hm (hS.sub (.cons le_83 (.cons (Mem.no_le _) (.cons (Mem.no_le _) (.cons (Mem.le.refl _) (.cons (Mem.le.refl _) (.cons (Mem.le.refl _) (.cons (Mem.le.refl _) (Sub.nil _))))))))) ?_
              clear hm a; intro a hm
              refine h_take_off 14 [true, true, true, true, true, true, true, true, true, true, true, true, true, true, true, false, false, false, false, false, false, false, false, false, false, false].toArray rfl (by kernel_rfl) (by kernel_rfl) (by kernel_rfl) (fun _ _ _ _ h => h) rfl rfl rfl rfl (.inl (congrArg Value.bool (decide_eq_false hc_85))) rfl rfl hm (hS.sub (.cons le_83 (.cons (Mem.no_le _) (.cons (Mem.no_le _) (.cons (Mem.le.refl _) (.cons (Mem.le.refl _) (.cons (Mem.le.refl _) (.cons (Mem.le.refl _) (Sub.nil _))))))))) ?_
              clear hm a; intro a hm
              refine h_take_on 15 [true, true, true, true, true, true, true, true, true, true, true, true, true, true, true, true, false, false, false, false, false, false, false, false, false, false].toArray rfl (by kernel_rfl) (by kernel_rfl) (by kernel_rfl) (fun _ _ _ _ h => h) rfl rfl rfl rfl (nf hc_84) rfl rfl hm (hS.sub (.cons le_83 (.cons (Mem.no_le _) (.cons (Mem.no_le _) (.cons (Mem.le.refl _) (.cons (Mem.le.refl _) (.cons (Mem.le.refl _) (.cons (Mem.le.refl _) (Sub.nil _))))))))) (v := .bool false) (fun w hS => r_pick_f hm rfl (decide_eq_false hc_85) rfl) ?_
              clear hm a; intro a hm
              refine h_take 16 [true, true, true, true, true, true, true, true, true, true, true, true, true, true, true, true, true, false, false, false, false, false, false, false, false, false].toArray rfl (by kernel_rfl) (by kernel_rfl) (by kernel_rfl) (fun _ _ _ _ h => h) rfl rfl rfl rfl hm (hS.sub (.cons le_83 (.cons (Mem.no_le _) (.cons (Mem.no_le _) (.cons (Mem.le.refl _) (.cons (Mem.le.refl _) (.cons (Mem.le.refl _) (.cons (Mem.le.refl _) (Sub.nil _))))))))) (v := .bool false) (fun w hS => r_pick_f hm rfl (nf hc_84) rfl) ?_
              clear hm a; intro a hm
              refine h_take 17 [true, true, true, true, true, true, true, true, true, true, true, true, true, true, true, true, true, true, false, false, false, false, false, false, false, false].toArray rfl (by kernel_rfl) (by kernel_rfl) (by kernel_rfl) (fun _ _ _ _ h => h) rfl rfl rfl rfl hm (hS.sub (.cons le_83 (.cons (Mem.no_le _) (.cons (Mem.no_le _) (.cons (Mem.le.refl _) (.cons (Mem.le.refl _) (.cons (Mem.le.refl _) (.cons (Mem.le.refl _) (Sub.nil _))))))))) (v := .bool false) (fun w hS => r_move hm rfl) ?_
              clear hm a; intro a hm
              refine h_take_on 18 [true, true, true, true, true, true, true, true, true, true, true, true, true, true, true, true, true, true, true, false, false, false, false, false, false, false].toArray rfl (by kernel_rfl) (by kernel_rfl) (by kernel_rfl) (fun _ _ _ _ h => h) rfl rfl rfl rfl rfl rfl rfl hm (hS.sub (.cons le_83 (.cons (Mem.no_le _) (.cons (Mem.no_le _) (.cons (Mem.le.refl _) (.cons (Mem.le.refl _) (.cons (Mem.le.refl _) (.cons (Mem.le.refl _) (Sub.nil _))))))))) (v := .pointer (some ⟨g_71, 0, none⟩)) (fun w hS => r_fieldAddr hm Try.underlying28 rfl ti23 rfl rfl rfl) ?_
              clear hm a; intro a hm
              refine h_take_on 19 [true, true, true, true, true, true, true, true, true, true, true, true, true, true, true, true, true, true, true, true, false, false, false, false, false, false].toArray rfl (by kernel_rfl) (by kernel_rfl) (by kernel_rfl) (fun _ _ _ _ h => h) rfl rfl rfl rfl rfl rfl rfl hm (hS.sub (.cons le_83 (.cons (Mem.no_le _) (.cons (Mem.no_le _) (.cons (Mem.le.refl _) (.cons (Mem.le.refl _) (.cons (Mem.le.refl _) (.cons (Mem.le.refl _) (Sub.nil _))))))))) (v := .int .i64 t_62.Err) (fun w hS => r_load hm rfl (hS.load_one (p := 6) rfl Try.underlying23 rfl rfl)) ?_
              clear hm a; intro a hm
              refine h_take_on 20 [true, true, true, true, true, true, true, true, true, true, true, true, true, true, true, true, true, true, true, true, true, false, false, false, false, false].toArray rfl (by kernel_rfl) (by kernel_rfl) (by kernel_rfl) (fun _ _ _ _ h => h) rfl rfl rfl rfl rfl rfl rfl hm (hS.sub (.cons le_83 (.cons (Mem.no_le _) (.cons (Mem.no_le _) (.cons (Mem.le.refl _) (.cons (Mem.le.refl _) (.cons (Mem.le.refl _) (.cons (Mem.le.refl _) (Sub.nil _))))))))) (v := .bool (t_62.Err == 0)) (fun w hS => r_cmp (b := (t_62.Err == 0)) hm rfl rfl (.inl ⟨rfl, rfl⟩)) ?_
              clear hm a; intro a hm
              refine h_take_on 21 [true, true, true, true, true, true, true, true, true, true, true, true, true, true, true, true, true, true, true, true, true, true, false, false, false, false].toArray rfl (by kernel_rfl) (by kernel_rfl) (by kernel_rfl) (fun _ _ _ _ h => h) rfl rfl rfl rfl rfl rfl rfl hm (hS.sub (.cons le_83 (.cons (Mem.no_le _) (.cons (Mem.no_le _) (.cons (Mem.le.refl _) (.cons (Mem.le.refl _) (.cons (Mem.le.refl _) (.cons (Mem.le.refl _) (Sub.nil _))))))))) (v := v_58) (fun w hS => r_move hm rfl) ?_
              clear hm a; intro a hm
              refine h_take_on 22 [true, true, true, true, true, true, true, true, true, true, true, true, true, true, true, true, true, true, true, true, true, true, true, false, false, false].toArray rfl (by kernel_rfl) (by kernel_rfl) (by kernel_rfl) (fun _ _ _ _ h => h) rfl rfl rfl rfl rfl rfl rfl hm (hS.sub (.cons le_83 (.cons (Mem.no_le _) (.cons (Mem.no_le _) (.cons (Mem.le.refl _) (.cons (Mem.le.refl _) (.cons (Mem.le.refl _) (.cons (Mem.le.refl _) (Sub.nil _))))))))) (v := .int .i64 (x_55.length : Int)) (fun w hS => r_lenO hm Try.underlying22 rfl ho_59) ?_
              clear hm a; intro a hm
              refine h_take_on 23 [true, true, true, true, true, true, true, true, true, true, true, true, true, true, true, true, true, true, true, true, true, true, true, true, false, false].toArray rfl (by kernel_rfl) (by kernel_rfl) (by kernel_rfl) (fun _ _ _ _ h => h) rfl rfl rfl rfl rfl rfl rfl hm (hS.sub (.cons le_83 (.cons (Mem.no_le _) (.cons (Mem.no_le _) (.cons (Mem.le.refl _) (.cons (Mem.le.refl _) (.cons (Mem.le.refl _) (.cons (Mem.le.refl _) (Sub.nil _))))))))) (v := .bool (decide ((x_55.length : Int) > 0))) (fun w hS => r_cmp (b := decide ((x_55.length : Int) > 0)) hm rfl rfl (.inr (.inr (.inr (.inr (.inl ⟨rfl, rfl⟩)))))) ?_
              clear hm a; intro a hm
              refine h_take_on 24 [true, true, true, true, true, true, true, true, true, true, true, true, true, true, true, true, true, true, true, true, true, true, true, true, true, false].toArray rfl (by kernel_rfl) (by kernel_rfl) (by kernel_rfl) (fun _ _ _ _ h => h) rfl rfl rfl rfl rfl rfl rfl hm (hS.sub (.cons le_83 (.cons (Mem.no_le _) (.cons (Mem.no_le _) (.cons (Mem.le.refl _) (.cons (Mem.le.refl _) (.cons (Mem.le.refl _) (.cons (Mem.le.refl _) (Sub.nil _))))))))) (v := .bool (!((t_62.Err == 0) == (decide ((x_55.length : Int) > 0))))) (fun w hS => r_beq (b := !((t_62.Err == 0) == (decide ((x_55.length : Int) > 0)))) hm Try.underlying4 rfl rfl (.inr ⟨rfl, rfl⟩)) ?_
              clear hm a; intro a hm
              refine h_take 25 [true, true, true, true, true, true, true, true, true, true, true, true, true, true, true, true, true, true, true, true, true, true, true, true, true, true].toArray rfl (by kernel_rfl) (by kernel_rfl) (by kernel_rfl) (fun _ _ _ _ h => h) rfl rfl rfl rfl hm (hS.sub (.cons le_83 (.cons (Mem.no_le _) (.cons (Mem.no_le _) (.cons (Mem.le.refl _) (.cons (Mem.le.refl _) (.cons (Mem.le.refl _) (.cons (Mem.le.refl _) (Sub.nil _))))))))) (v := .bool (!((t_62.Err == 0) == (decide ((x_55.length : Int) > 0))))) (fun w hS => r_pick_f hm rfl rfl rfl) ?_
              clear hm a; intro a hm
              refine h_done (by kernel_rfl) ?_
              replace hm : Fr 128 a [(0, p0_0), (2, .bool false), (3, v_53), (4, v_58), (5, .int .i64 x_20), (126, .bool (!((t_62.Err == 0) == (decide ((x_55.length : Int) > 0)))))] := hm.keep [0, 2, 3, 4, 5, 126]
              replace hS : Sep w0 w_81 [N_83, Mem.no, Mem.no, M_51, M_56, M_68, Mem.one g_71 (.cells ([.int .i64 t_62.Err, v_66, .int .i64 t_62.N] : List Value).toArray 28 (0, 0))] Z := hS
              replace hm : Fr 128 a [(0, p0_0), (2, .bool false), (3, v_53), (4, v_58), (5, .int .i64 x_20), (126, .bool (!((t_62.Err == 0) == (decide ((x_55.length : Int) > 0)))))] := hm.keep [0, 2, 3, 4, 5, 126]
              exact x_then_n (hJ_j_77 (!((t_62.Err == 0) == (decide ((x_55.length : Int) > 0)))) H _ _ ⟨N_83, hm, (Sep.sel hS [0, 1000, 1001, 3, 4, 1004, 1005] (by decide)), le_83⟩)
          · rw [if_neg hc_84] at H
            refine h_take_off 5 [true, true, true, true, true, true, false, false, false, false, false, false, false, false, false, false, false, false, false, false, false, false, false, false, false, false].toArray rfl (by kernel_rfl) (by kernel_rfl) (by kernel_rfl) (fun _ _ _ _ h => h) rfl rfl rfl rfl (.inl (congrArg Value.bool (nt (Bool.eq_false_iff.2 hc_84)))) rfl rfl hm (hS.sub (.cons le_83 (.cons (Mem.no_le _) (.cons (Mem.no_le _) (.cons (Mem.le.refl _) (.cons (Mem.le.refl _) (.cons (Mem.le.refl _) (.cons (Mem.le.refl _) (Sub.nil _))))))))) ?_
            clear hm a; intro a hm
            refine h_take_off 6 [true, true, true, true, true, true, true, false, false, false, false, false, false, false, false, false, false, false, false, false, false, false, false, false, false, false].toArray rfl (by kernel_rfl) (by kernel_rfl) (by kernel_rfl) (fun _ _ _ _ h => h) rfl rfl rfl rfl (.inl (congrArg Value.bool (nt (Bool.eq_false_iff.2 hc_84)))) rfl rfl hm (hS.sub (.cons le_83 (.cons (Mem.no_le _) (.cons (Mem.no_le _) (.cons (Mem.le.refl _) (.cons (Mem.le.refl _) (.cons (Mem.le.refl _) (.cons (Mem.le.refl _) (Sub.nil _))))))))) ?_
            clear hm a; intro a hm
            refine h_take_off 7 [true, true, true, true, true, true, true, true, false, false, false, false, false, false, false, false, false, false, false, false, false, false, false, false, false, false].toArray rfl (by kernel_rfl) (by kernel_rfl) (by kernel_rfl) (fun _ _ _ _ h => h) rfl rfl rfl rfl (.inl (congrArg Value.bool (nt (Bool.eq_false_iff.2 hc_84)))) rfl rfl hm (hS.sub (.cons le_83 (.cons (Mem.no_le _) (.cons (Mem.no_le _) (.cons (Mem.le.refl _) (.cons (Mem.le.refl _) (.cons (Mem.le.refl _) (.cons (Mem.le.refl _) (Sub.nil _))))))))) ?_
            clear hm a; intro a hm
            refine h_take_off 8 [true, true, true, true, true, true, true, true, true, false, false, false, false, false, false, false, false, false, false, false, false, false, false, false, false, false].toArray rfl (by kernel_rfl) (by kernel_rfl) (by kernel_rfl) (fun _ _ _ _ h => h) rfl rfl rfl rfl (.inl (congrArg Value.bool (nt (Bool.eq_false_iff.2 hc_84)))) rfl rfl hm (hS.sub (.cons le_83 (.cons (Mem.no_le _) (.cons (Mem.no_le _) (.cons (Mem.le.refl _) (.cons (Mem.le.refl _) (.cons (Mem.le.refl _) (.cons (Mem.le.refl _) (Sub.nil _))))))))) ?_
            clear hm a; intro a hm
            refine h_take_off 9 [true, true, true, true, true, true, true, true, true, true, false, false, false, false, false, false, false, false, false, false, false, false, false, false, false, false].toArray rfl (by kernel_rfl) (by kernel_rfl) (by kernel_rfl) (fun _ _ _ _ h => h) rfl rfl rfl rfl (.inr rfl) rfl rfl hm (hS.sub (.cons le_83 (.cons (Mem.no_le _) (.cons (Mem.no_le _) (.cons (Mem.le.refl _) (.cons (Mem.le.refl _) (.cons (Mem.le.refl _) (.cons (Mem.le.refl _) (Sub.nil _))))))))) ?_
            clear hm a; intro a hm
            refine h_take_off 10 [true, true, true, true, true, true, true, true, true, true, true, false, false, false, false, false, false, false, false, false, false, false, false, false, false, false].toArray rfl (by kernel_rfl) (by kernel_rfl) (by kernel_rfl) (fun _ _ _ _ h => h) rfl rfl rfl rfl (.inr rfl) rfl rfl hm (hS.sub (.cons le_83 (.cons (Mem.no_le _) (.cons (Mem.no_le _) (.cons (Mem.le.refl _) (.cons (Mem.le.refl _) (.cons (Mem.le.refl _) (.cons (Mem.le.refl _) (Sub.nil _))))))))) ?_
            clear hm a; intro a hm
            refine h_take_off 11 [true, true, true, true, true, true, true, true, true, true, true, true, false, false, false, false, false, false, false, false, false, false, false, false, false, false].toArray rfl (by kernel_rfl) (by kernel_rfl) (by kernel_rfl) (fun _ _ _ _ h => h) rfl rfl rfl rfl (.inr rfl) rfl rfl hm (hS.sub (.cons le_83 (.cons (Mem.no_le _) (.cons (Mem.no_le _) (.cons (Mem.le.refl _) (.cons (Mem.le.refl _) (.cons (Mem.le.refl _) (.cons (Mem.le.refl _) (Sub.nil _))))))))) ?_
            clear hm a; intro a hm
            refine h_take_off 12 [true, true, true, true, true, true, true, true, true, true, true, true, true, false, false, false, false, false, false, false, false, false, false, false, false, false].toArray rfl (by kernel_rfl) (by kernel_rfl) (by kernel_rfl) (fun _ _ _ _ h => h) rfl rfl rfl rfl (.inr rfl) rfl rfl hm (hS.sub (.cons le_83 (.cons (Mem.no_le _) (.cons (Mem.no_le _) (.cons (Mem.le.refl _) (.cons (Mem.le.refl _) (.cons (Mem.le.refl _) (.cons (Mem.le.refl _) (Sub.nil _))))))))) ?_
            clear hm a; intro a hm
            refine h_take_off 13 [true, true, true, true, true, true, true, true, true, true, true, true, true, true, false, false, false, false, false, false, false, false, false, false, false, false].toArray rfl (by kernel_rfl) (by kernel_rfl) (by kernel_rfl) (fun _ _ _ _ h => h) rfl rfl rfl rfl (.inr rfl) rfl rfl hm (hS.sub (.cons le_83 (.cons (Mem.no_le _) (.cons (Mem.no_le _) (.cons (Mem.le.refl _) (.cons (Mem.le.refl _) (.cons (Mem.le.refl _) (.cons (Mem.le.refl _) (Sub.nil _))))))))) ?_
            clear hm a; intro a hm
            refine h_take_off 14 [true, true, true, true, true, true, true, true, true, true, true, true, true, true, true, false, false, false, false, false, false, false, false, false, false, false].toArray rfl (by kernel_rfl) (by kernel_rfl) (by kernel_rfl) (fun _ _ _ _ h => h) rfl rfl rfl rfl (.inr rfl) rfl rfl hm (hS.sub (.cons le_83 (.cons (Mem.no_le _) (.cons (Mem.no_le _) (.cons (Mem.le.refl _) (.cons (Mem.le.refl _) (.cons (Mem.le.refl _) (.cons (Mem.le.refl _) (Sub.nil _))))))))) ?_
            clear hm a; intro a hm
            refine h_take_off 15 [true, true, true, true, true, true, true, true, true, true, true, true, true, true, true, true, false, false, false, false, false, false, false, false, false, false].toArray rfl (by kernel_rfl) (by kernel_rfl) (by kernel_rfl) (fun _ _ _ _ h => h) rfl rfl rfl rfl (.inl (congrArg Value.bool (nt (Bool.eq_false_iff.2 hc_84)))) rfl rfl hm (hS.sub (.cons le_83 (.cons (Mem.no_le _) (.cons (Mem.no_le _) (.cons (Mem.le.refl _) (.cons (Mem.le.refl _) (.cons (Mem.le.refl _) (.cons (Mem.le.refl _) (Sub.nil _))))))))) ?_
            clear hm a; intro a hm
            refine h_take 16 [true, true, true, true, true, true, true, true, true, true, true, true, true, true, true, true, true, false, false, false, false, false, false, false, false, false].toArray rfl (by kernel_rfl) (by kernel_rfl) (by kernel_rfl) (fun _ _ _ _ h => h) rfl rfl rfl rfl hm (hS.sub (.cons le_83 (.cons (Mem.no_le _) (.cons (Mem.no_le _) (.cons (Mem.le.refl _) (.cons (Mem.le.refl _) (.cons (Mem.le.refl _) (.cons (Mem.le.refl _) (Sub.nil _))))))))) (v := .bool true) (fun w hS => r_pick_t hm rfl (nt (Bool.eq_false_iff.2 hc_84)) rfl) ?_
            clear hm a; intro a hm
            refine h_take 17 [true, true, true, true, true, true, true, true, true, true, true, true, true, true, true, true, true, true, false, false, false, false, false, false, false, false].toArray rfl (by kernel_rfl) (by kernel_rfl) (by kernel_rfl) (fun _ _ _ _ h => h) rfl rfl rfl rfl hm (hS.sub (.cons le_83 (.cons (Mem.no_le _) (.cons (Mem.no_le _) (.cons (Mem.le.refl _) (.cons (Mem.le.refl _) (.cons (Mem.le.refl _) (.cons (Mem.le.refl _) (Sub.nil _))))))))) (v := .bool true) (fun w hS => r_move hm rfl) ?_
            clear hm a; intro a hm
            refine h_take_off 18 [true, true, true, true, true, true, true, true, true, true, true, true, true, true, true, true, true, true, true, false, false, false, false, false, false, false].toArray rfl (by kernel_rfl) (by kernel_rfl) (by kernel_rfl) (fun _ _ _ _ h => h) rfl rfl rfl rfl (.inl (congrArg Value.bool rfl)) rfl rfl hm (hS.sub (.cons le_83 (.cons (Mem.no_le _) (.cons (Mem.no_le _) (.cons (Mem.le.refl _) (.cons (Mem.le.refl _) (.cons (Mem.le.refl _) (.cons (Mem.le.refl _) (Sub.nil _))))))))) ?_
            clear hm a; intro a hm
            refine h_take_off 19 [true, true, true, true, true, true, true, true, true, true, true, true, true, true, true, true, true, true, true, true, false, false, false, false, false, false].toArray rfl (by kernel_rfl) (by kernel_rfl) (by kernel_rfl) (fun _ _ _ _ h => h) rfl rfl rfl rfl (.inl (congrArg Value.bool rfl)) rfl rfl hm (hS.sub (.cons le_83 (.cons (Mem.no_le _) (.cons (Mem.no_le _) (.cons (Mem.le.refl _) (.cons (Mem.le.refl _) (.cons (Mem.le.refl _) (.cons (Mem.le.refl _) (Sub.nil _))))))))) ?_
            clear hm a; intro a hm
            refine h_take_off 20 [true, true, true, true, true, true, true, true, true, true, true, true, true, true, true, true, true, true, true, true, true, false, false, false, false, false].toArray rfl (by kernel_rfl) (by kernel_rfl) (by kernel_rfl) (fun _ _ _ _ h => h) rfl rfl rfl rfl (.inl (congrArg Value.bool rfl)) rfl rfl hm (hS.sub (.cons le_83 (.cons (Mem.no_le _) (.cons (Mem.no_le _) (.cons (Mem.le.refl _) (.cons (Mem.le.refl _) (.cons (Mem.le.refl _) (.cons (Mem.le.refl _) (Sub.nil _))))))))) ?_
            clear hm a; intro a hm
            refine h_take_off 21 [true, true, true, true, true, true, true, true, true, true, true, true, true, true, true, true, true, true, true, true, true, true, false, false, false, false].toArray rfl (by kernel_rfl) (by kernel_rfl) (by kernel_rfl) (fun _ _ _ _ h => h) rfl rfl rfl rfl (.inl (congrArg Value.bool rfl)) rfl rfl hm (hS.sub (.cons le_83 (.cons (Mem.no_le _) (.cons (Mem.no_le _) (.cons (Mem.le.refl _) (.cons (Mem.le.refl _) (.cons (Mem.le.refl _) (.cons (Mem.le.refl _) (Sub.nil _))))))))) ?_
            clear hm a; intro a hm
            refine h_take_off 22 [true, true, true, true, true, true, true, true, true, true, true, true, true, true, true, true, true, true, true, true, true, true, true, false, false, false].toArray rfl (by kernel_rfl) (by kernel_rfl) (by kernel_rfl) (fun _ _ _ _ h => h) rfl rfl rfl rfl (.inl (congrArg Value.bool rfl)) rfl rfl hm (hS.sub (.cons le_83 (.cons (Mem.no_le _) (.cons (Mem.no_le _) (.cons (Mem.le.refl _) (.cons (Mem.le.refl _) (.cons (Mem.le.refl _) (.cons (Mem.le.refl _) (Sub.nil _))))))))) ?_
            clear hm a; intro a hm
            refine h_take_off 23 [true, true, true, true, true, true, true, true, true, true, true, true, true, true, true, true, true, true, true, true, true, true, true, true, false, false].toArray rfl (by kernel_rfl) (by kernel_rfl) (by kernel_rfl) (fun _ _ _ _ h => h) rfl rfl rfl rfl (.inl (congrArg Value.bool rfl)) rfl rfl hm (hS.sub (.cons le_83 (.cons (Mem.no_le _) (.cons (Mem.no_le _) (.cons (Mem.le.refl _) (.cons (Mem.le.refl _) (.cons (Mem.le.refl _) (.cons (Mem.le.refl _) (Sub.nil _))))))))) ?_
            clear hm a; intro a hm
            refine h_take_off 24 [true, true, true, true, true, true, true, true, true, true, true, true, true, true, true, true, true, true, true, true, true, true, true, true, true, false].toArray rfl (by kernel_rfl) (by kernel_rfl) (by kernel_rfl) (fun _ _ _ _ h => h) rfl rfl rfl rfl (.inl (congrArg Value.bool rfl)) rfl rfl hm (hS.sub (.cons le_83 (.cons (Mem.no_le _) (.cons (Mem.no_le _) (.cons (Mem.le.refl _) (.cons (Mem.le.refl _) (.cons (Mem.le.refl _) (.cons (Mem.le.refl _) (Sub.nil _))))))))) ?_
            clear hm a; intro a hm
            refine h_take 25 [true, true, true, true, true, true, true, true, true, true, true, true, true, true, true, true, true, true, true, true, true, true, true, true, true, true].toArray rfl (by kernel_rfl) (by kernel_rfl) (by kernel_rfl) (fun _ _ _ _ h => h) rfl rfl rfl rfl hm (hS.sub (.cons le_83 (.cons (Mem.no_le _) (.cons (Mem.no_le _) (.cons (Mem.le.refl _) (.cons (Mem.le.refl _) (.cons (Mem.le.refl _) (.cons (Mem.le.refl _) (Sub.nil _))))))))) (v := .bool true) (fun w hS => r_pick_t hm rfl rfl rfl) ?_
            clear hm a; intro a hm
            refine h_done (by kernel_rfl) ?_
            replace hm : Fr 128 a [(0, p0_0), (2, .bool false), (3, v_53), (4, v_58), (5, .int .i64 x_20), (126, .bool true)] := hm.keep [0, 2, 3, 4, 5, 126]
            replace hS : Sep w0 w_81 [N_83, Mem.no, Mem.no, M_51, M_56, M_68, Mem.one g_71 (.cells ([.int .i64 t_62.Err, v_66, .int .i64 t_62.N] : List Value).toArray 28 (0, 0))] Z := hS
            replace hm : Fr 128 a [(0, p0_0), (2, .bool false), (3, v_53), (4, v_58), (5, .int .i64 x_20), (126, .bool true)] := hm.keep [0, 2, 3, 4, 5, 126]
            exact x_then_n (hJ_j_77 true H _ _ ⟨N_83, hm, (Sep.sel hS [0, 1000, 1001, 3, 4, 1004, 1005] (by decide)), le_83⟩)
        clear hKJ_43
        by_cases hc_92 : (band .i64 t_44 1) = 0
        · rw [if_pos hc_92] at H
          refine c_cond_t hm rfl (beq_iff_eq.2 hc_92) ?_
          refine wp_seq ?_
          refine wp_region_lit ?_
          refine s_move hm rfl rfl ?_
          clear hm a; intro a hm
          refine s_move hm rfl rfl ?_
          clear hm a; intro a hm
          obtain ⟨t_93, et_93, H⟩ := Option.bind_eq_some_iff.1 H
          refine s_call hm rfl Try.call13 rfl (lock_Take.calls K x_10 _ (band .i64 (shr .i64 t_33 1) 7) t_93 w0 _ _ _ (Mem.le.refl _) (hS.enter [] (by decide)) (ho_14.rd (hS.own_zed [] 0 (by decide)) (Mem.no_le _)) et_93) ?_
          rintro _ w_94 ⟨v_97, v_101, N_95, M_99, M_103, rfl, hS', hr_98, hr_102⟩
          clear hm a; intro a hm
          obtain ⟨N_96, hS'', le_96, ln_96⟩ := hS.call [] (by decide) rfl (l' := []) (ow := [M_99, M_103]) rfl hS'
          replace hS : Sep w0 w_94 [N_96, M_11, M_16, M_99, M_103] Z := hS''
          clear hS' hS''
          refine s_move hm rfl rfl ?_
          clear hm a; intro a hm
          refine s_extract hm rfl rfl rfl ?_
          clear hm a; intro a hm
          refine s_extract hm rfl rfl rfl ?_
          clear hm a; intro a hm
          refine v_alloc hm rfl ti28 hS ?_
          intro w_105 g_106 hS'
          clear hm a; intro a hm
          replace hS : Sep w0 w_105 [N_96, M_11, M_16, M_99, M_103, Mem.one g_106 (.cells ([.int .i64 0, .slice none 0 0, .int .i64 0] : List Value).toArray 28 (0, 0))] Z := hS'
          clear hS'
          refine s_assign hm rfl rfl ?_
          clear hm a; intro a hm
          obtain ⟨w_107, hs', hS'⟩ := hS.store (P := Try.prog) (p := 5) (o := 0) (t := 28) (v := .agg ([.int .i64 t_93.2.Err, v_101, .int .i64 t_93.2.N] : List Value).toArray) (vs := [.int .i64 t_93.2.Err, v_101, .int .i64 t_93.2.N]) rfl ti28 rfl rfl rfl (by intro u hu; simp only [List.mem_cons, List.not_mem_nil, or_false] at hu; rcases hu with rfl | rfl | rfl <;> first | rfl | exact hr_102.one)
          refine s_store hm rfl rfl hs' ?_
          replace hS : Sep w0 w_107 [N_96, M_11, M_16, M_99, M_103, Mem.one g_106 (.cells ([.int .i64 t_93.2.Err, v_101, .int .i64 t_93.2.N] : List Value).toArray 28 (0, 0))] Z := hS'
          clear hs' hS'
          refine wpList_nil ?_
          replace hm : Fr 128 a [(0, p0_0), (2, .bool false), (3, v_13), (4, v_18), (5, .int .i64 x_20), (6, .int .i64 (band .i64 (shr .i64 t_33 1) 7)), (7, .int .i64 x_40), (9, v_97), (10, .pointer (some ⟨g_106, 0, none⟩))] := hm.keep [0, 2, 3, 4, 5, 6, 7, 9, 10]
          refine x_then_n ?_
          refine c_seq fun KJ_108 hKJ_108 => ?_
          refine c_seq fun KJ_109 hKJ_109 => ?_
          have hJ_j_113 : ∀ (x_111 : Bool), hocketlaw6_LockOne.J6 K t_93 x_15 t_33 (hocketlaw6_LockOne.L1 K x0 (fun v => hocketlaw6_LockOne.J1 K) k_21) x_20 x_111 = some r → ∀ (a : Act) (w_112 : World), (∃ (N_110 : Mem), Fr 128 a [(0, p0_0), (2, .bool false), (3, v_13), (4, v_18), (5, .int .i64 x_20), (6, .int .i64 (band .i64 (shr .i64 t_33 1) 7)), (9, v_97), (10, .pointer (some ⟨g_106, 0, none⟩)), (65, .bool x_111)] ∧ Sep w0 w_112 [N_110, M_11, M_16, M_99, M_103, Mem.one g_106 (.cells ([.int .i64 t_93.2.Err, v_101, .int .i64 t_93.2.N] : List Value).toArray 28 (0, 0))] Z ∧ N_96.le N_110) → KJ_109 a w_112 := by
            clear H hm hS a
            rintro x_111 H a w_112 ⟨N_110, hm, hS, le_110⟩
            unfold hocketlaw6_LockOne.J6 at H
            refine hKJ_109 _ _ ?_
            by_cases hc_114 : x_111 = true
            · rw [if_pos hc_114] at H
              cases H
            · rw [if_neg hc_114] at H
              refine c_cond_f hm rfl (Bool.eq_false_iff.2 hc_114) ?_
              refine wp_skip ?_
              refine x_then_n (hKJ_108 _ _ ?_)
              refine c_seq fun KJ_115 hKJ_115 => ?_
              refine wp_seq ?_
              refine wp_region_lit ?_
              refine s_fieldAddr hm rfl Try.underlying28 rfl ti23 rfl rfl ?_
              clear hm a; intro a hm
              refine s_load hm rfl rfl (hS.load_one (p := 5) rfl Try.underlying23 rfl rfl) ?_
              clear hm a; intro a hm
              refine s_cmp (b := (t_93.2.Err == 0)) hm rfl rfl rfl (.inl ⟨rfl, rfl⟩) ?_
              clear hm a; intro a hm
              refine wpList_nil ?_
              replace hm : Fr 128 a [(0, p0_0), (2, .bool false), (3, v_13), (4, v_18), (5, .int .i64 x_20), (6, .int .i64 (band .i64 (shr .i64 t_33 1) 7)), (9, v_97), (68, .bool (t_93.2.Err == 0))] := hm.keep [0, 2, 3, 4, 5, 6, 9, 68]
              refine x_then_n ?_
              by_cases hc_116 : t_93.2.Err = 0
              · rw [if_pos hc_116] at H
                refine c_cond_t hm rfl (beq_iff_eq.2 hc_116) ?_
                refine wp_region_lit ?_
                refine s_move hm rfl rfl ?_
                clear hm a; intro a hm
                refine s_move hm rfl rfl ?_
                clear hm a; intro a hm
                have hq_121 : Reps (Kd.int .i64) Mem.no ([band .i64 (shr .i64 t_33 1) 7] : List Int) _ := ((Reps.one (d := (Kd.int .i64)) (x := band .i64 (shr .i64 t_33 1) 7) (show (Kd.int .i64).K _ _ [.int .i64 (band .i64 (shr .i64 t_33 1) 7)] from rfl)).append (Reps.nil (Kd.int .i64) _))
                refine s_buildSlice hm rfl Try.underlying22 ti3 rfl rfl rfl (.cons rfl .nil) rfl rfl rfl hS hq_121 rfl ?_
                intro w_117 v_118 M_119 hS' ho_120
                clear hm a; intro a hm
                replace hS : Sep w0 w_117 [N_110, M_11, M_16, M_99, M_103, Mem.one g_106 (.cells ([.int .i64 t_93.2.Err, v_101, .int .i64 t_93.2.N] : List Value).toArray 28 (0, 0)), M_119] Z := hS'
                clear hS' hq_121
                obtain ⟨t_123, et_123, H⟩ := Option.bind_eq_some_iff.1 H
                refine s_append (J := Mem.no) (I' := Mem.no) (p := 2) 17592186044416 hm rfl rfl rfl Try.underlying22 ti3 rfl rfl rfl rfl hS rfl ho_19 (Src.flat (flat_int .i64) (ho_120.src (hS.own 6))) (Mem.le.refl _) (Mem.le.refl _) et_123 ?_
                intro w_124 v_125 M_126 hS' ho_127
                clear hm a; intro a hm
                replace hS : Sep w0 w_124 [N_110, M_11, M_126, M_99, M_103, Mem.one g_106 (.cells ([.int .i64 t_93.2.Err, v_101, .int .i64 t_93.2.N] : List Value).toArray 28 (0, 0)), M_119] Z := hS'
                clear hS'
                refine s_assign hm rfl rfl ?_
                clear hm a; intro a hm
                refine wpList_nil ?_
                replace hm : Fr 128 a [(0, p0_0), (2, .bool false), (3, v_13), (4, v_125), (5, .int .i64 x_20), (9, v_97)] := hm.keep [0, 2, 3, 4, 5, 9]
                refine x_then_n (hKJ_115 _ _ ?_)
                refine wp_region_lit ?_
                refine s_move hm rfl rfl ?_
                clear hm a; intro a hm
                refine s_assign hm rfl rfl ?_
                clear hm a; intro a hm
                refine wpList_nil ?_
                replace hm : Fr 128 a [(0, p0_0), (2, .bool false), (3, v_97), (4, v_125), (5, .int .i64 x_20)] := hm.keep [0, 2, 3, 4, 5]
                replace hS : Sep w0 w_124 [N_110, M_11, M_126, M_99, M_103, Mem.one g_106 (.cells ([.int .i64 t_93.2.Err, v_101, .int .i64 t_93.2.N] : List Value).toArray 28 (0, 0)), M_119] Z := hS
                replace hm : Fr 128 a [(0, p0_0), (2, .bool false), (3, v_97), (4, v_125), (5, .int .i64 x_20)] := hm.keep [0, 2, 3, 4, 5]
                exact x_then_n (hJ_j_61 t_93.1 t_123 H _ _ ⟨v_97, v_125, N_110, M_99, M_126, hm, (Sep.sel hS [0, 1000, 1001, 3, 2] (by decide)), (le_96.trans le_110), hr_98, ho_127⟩)
              · rw [if_neg hc_116] at H
                refine c_cond_f hm rfl (beq_eq_false_iff_ne.2 hc_116) ?_
                refine wp_skip ?_
                refine x_then_n (hKJ_115 _ _ ?_)
                refine wp_region_lit ?_
                refine s_move hm rfl rfl ?_
                clear hm a; intro a hm
                refine s_assign hm rfl rfl ?_
                clear hm a; intro a hm
                refine wpList_nil ?_
                replace hm : Fr 128 a [(0, p0_0), (2, .bool false), (3, v_97), (4, v_18), (5, .int .i64 x_20)] := hm.keep [0, 2, 3, 4, 5]
                replace hS : Sep w0 w_112 [N_110, M_11, M_16, M_99, M_103, Mem.one g_106 (.cells ([.int .i64 t_93.2.Err, v_101, .int .i64 t_93.2.N] : List Value).toArray 28 (0, 0))] Z := hS
                replace hm : Fr 128 a [(0, p0_0), (2, .bool false), (3, v_97), (4, v_18), (5, .int .i64 x_20)] := hm.keep [0, 2, 3, 4, 5]
                exact x_then_n (hJ_j_61 t_93.1 x_15 H _ _ ⟨v_97, v_18, N_110, M_99, M_16, hm, (Sep.sel hS [0, 1000, 1001, 3, 2] (by decide)), (le_96.trans le_110), hr_98, ho_19⟩)
          clear hKJ_109
          refine wp_region_lit ?_
          refine s_fieldAddr hm rfl Try.underlying28 rfl ti23 rfl rfl ?_
          clear hm a; intro a hm
          refine s_load hm rfl rfl (hS.load_one (p := 5) rfl Try.underlying23 rfl rfl) ?_
          clear hm a; intro a hm
          refine s_cmp (b := (t_93.2.Err == 0)) hm rfl rfl rfl (.inl ⟨rfl, rfl⟩) ?_
          clear hm a; intro a hm
          refine s_move hm rfl rfl ?_
          clear hm a; intro a hm
          refine s_cmp (b := decide (x_40 < 0)) hm rfl rfl rfl (.inr (.inr (.inl ⟨rfl, rfl⟩))) ?_
          clear hm a; intro a hm
          refine s_move hm rfl rfl ?_
          clear hm a; intro a hm
          by_cases hc_129 : x_40 < 0
          · rw [if_pos hc_129] at H
            refine s_on hm rfl rfl (decide_eq_true hc_129) ?_
            refine s_move hm rfl rfl ?_
            clear hm a; intro a hm
            refine s_on hm rfl rfl (decide_eq_true hc_129) ?_
            refine s_lenO hm rfl Try.underlying22 rfl ho_19 ?_
            clear hm a; intro a hm
            refine s_on hm rfl rfl (decide_eq_true hc_129) ?_
            refine s_cmp (b := decide ((x_15.length : Int) < 5)) hm rfl rfl rfl (.inr (.inr (.inl ⟨rfl, rfl⟩))) ?_
            clear hm a; intro a hm
            refine s_pick_t hm rfl rfl (decide_eq_true hc_129) rfl ?_
            clear hm a; intro a hm
            refine s_beq (b := !((t_93.2.Err == 0) == (decide ((x_15.length : Int) < 5)))) hm rfl Try.underlying4 rfl rfl (.inr ⟨rfl, rfl⟩) ?_
            clear hm a; intro a hm
            refine wpList_nil ?_
            replace hm : Fr 128 a [(0, p0_0), (2, .bool false), (3, v_13), (4, v_18), (5, .int .i64 x_20), (6, .int .i64 (band .i64 (shr .i64 t_33 1) 7)), (9, v_97), (10, .pointer (some ⟨g_106, 0, none⟩)), (65, .bool (!((t_93.2.Err == 0) == (decide ((x_15.length : Int) < 5)))))] := hm.keep [0, 2, 3, 4, 5, 6, 9, 10, 65]
            replace hS : Sep w0 w_107 [N_96, M_11, M_16, M_99, M_103, Mem.one g_106 (.cells ([.int .i64 t_93.2.Err, v_101, .int .i64 t_93.2.N] : List Value).toArray 28 (0, 0))] Z := hS
            replace hm : Fr 128 a [(0, p0_0), (2, .bool false), (3, v_13), (4, v_18), (5, .int .i64 x_20), (6, .int .i64 (band .i64 (shr .i64 t_33 1) 7)), (9, v_97), (10, .pointer (some ⟨g_106, 0, none⟩)), (65, .bool (!((t_93.2.Err == 0) == (decide ((x_15.length : Int) < 5)))))] := hm.keep [0, 2, 3, 4, 5, 6, 9, 10, 65]
            exact x_then_n (hJ_j_113 (!((t_93.2.Err == 0) == (decide ((x_15.length : Int) < 5)))) H _ _ ⟨N_96, hm, (Sep.sel hS [0, 1, 2, 3, 4, 5] (by decide)), (Mem.le.refl _)⟩)
          · rw [if_neg hc_129] at H
            refine s_off hm rfl rfl rfl (decide_eq_false hc_129) ?_
            clear hm a; intro a hm
            refine s_off hm rfl rfl rfl (decide_eq_false hc_129) ?_
            clear hm a; intro a hm
            refine s_off hm rfl rfl rfl (decide_eq_false hc_129) ?_
            clear hm a; intro a hm
            refine s_pick_f hm rfl rfl (decide_eq_false hc_129) rfl ?_
            clear hm a; intro a hm
            refine s_beq (b := !((t_93.2.Err == 0) == false)) hm rfl Try.underlying4 rfl rfl (.inr ⟨rfl, rfl⟩) ?_
            clear hm a; intro a hm
            refine wpList_nil ?_
            replace hm : Fr 128 a [(0, p0_0), (2, .bool false), (3, v_13), (4, v_18), (5, .int .i64 x_20), (6, .int .i64 (band .i64 (shr .i64 t_33 1) 7)), (9, v_97), (10, .pointer (some ⟨g_106, 0, none⟩)), (65, .bool (!((t_93.2.Err == 0) == false)))] := hm.keep [0, 2, 3, 4, 5, 6, 9, 10, 65]
            replace hS : Sep w0 w_107 [N_96, M_11, M_16, M_99, M_103, Mem.one g_106 (.cells ([.int .i64 t_93.2.Err, v_101, .int .i64 t_93.2.N] : List Value).toArray 28 (0, 0))] Z := hS
            replace hm : Fr 128 a [(0, p0_0), (2, .bool false), (3, v_13), (4, v_18), (5, .int .i64 x_20), (6, .int .i64 (band .i64 (shr .i64 t_33 1) 7)), (9, v_97), (10, .pointer (some ⟨g_106, 0, none⟩)), (65, .bool (!((t_93.2.Err == 0) == false)))] := hm.keep [0, 2, 3, 4, 5, 6, 9, 10, 65]
            exact x_then_n (hJ_j_113 (!((t_93.2.Err == 0) == false)) H _ _ ⟨N_96, hm, (Sep.sel hS [0, 1, 2, 3, 4, 5] (by decide)), (Mem.le.refl _)⟩)
        · rw [if_neg hc_92] at H
          refine c_cond_f hm rfl (beq_eq_false_iff_ne.2 hc_92) ?_
          refine wp_seq ?_
          refine wp_region_lit ?_
          refine s_move hm rfl rfl ?_
          clear hm a; intro a hm
          refine s_move hm rfl rfl ?_
          clear hm a; intro a hm
          obtain ⟨t_130, et_130, H⟩ := Option.bind_eq_some_iff.1 H
          refine s_call hm rfl Try.call12 rfl (lock_Free.calls K x_10 _ (band .i64 (shr .i64 t_33 1) 7) t_130 w0 _ _ _ (Mem.le.refl _) (hS.enter [] (by decide)) (ho_14.rd (hS.own_zed [] 0 (by decide)) (Mem.no_le _)) et_130) ?_
          rintro _ w_131 ⟨v_134, v_138, N_132, M_136, M_140, rfl, hS', hr_135, hr_139⟩
          clear hm a; intro a hm
          obtain ⟨N_133, hS'', le_133, ln_133⟩ := hS.call [] (by decide) rfl (l' := []) (ow := [M_136, M_140]) rfl hS'
          replace hS : Sep w0 w_131 [N_133, M_11, M_16, M_136, M_140] Z := hS''
          clear hS' hS''
          refine s_move hm rfl rfl ?_
          clear hm a; intro a hm
          refine s_extract hm rfl rfl rfl ?_
          clear hm a; intro a hm
          refine s_extract hm rfl rfl rfl ?_
          clear hm a; intro a hm
          refine v_alloc hm rfl ti28 hS ?_
          intro w_142 g_143 hS'
          clear hm a; intro a hm
          replace hS : Sep w0 w_142 [N_133, M_11, M_16, M_136, M_140, Mem.one g_143 (.cells ([.int .i64 0, .slice none 0 0, .int .i64 0] : List Value).toArray 28 (0, 0))] Z := hS'
          clear hS'
          refine s_assign hm rfl rfl ?_
          clear hm a; intro a hm
          obtain ⟨w_144, hs', hS'⟩ := hS.store (P := Try.prog) (p := 5) (o := 0) (t := 28) (v := .agg ([.int .i64 t_130.2.Err, v_138, .int .i64 t_130.2.N] : List Value).toArray) (vs := [.int .i64 t_130.2.Err, v_138, .int .i64 t_130.2.N]) rfl ti28 rfl rfl rfl (by intro u hu; simp only [List.mem_cons, List.not_mem_nil, or_false] at hu; rcases hu with rfl | rfl | rfl <;> first | rfl | exact hr_139.one)
          refine s_store hm rfl rfl hs' ?_
          replace hS : Sep w0 w_144 [N_133, M_11, M_16, M_136, M_140, Mem.one g_143 (.cells ([.int .i64 t_130.2.Err, v_138, .int .i64 t_130.2.N] : List Value).toArray 28 (0, 0))] Z := hS'
          clear hs' hS'
          refine wpList_nil ?_
          replace hm : Fr 128 a [(0, p0_0), (2, .bool false), (3, v_13), (4, v_18), (5, .int .i64 x_20), (7, .int .i64 x_40), (11, v_134), (12, .pointer (some ⟨g_143, 0, none⟩))] := hm.keep [0, 2, 3, 4, 5, 7, 11, 12]
          refine x_then_n ?_
          refine c_seq fun KJ_145 hKJ_145 => ?_
          refine wp_seq ?_
          refine wp_region_lit ?_
          refine s_fieldAddr hm rfl Try.underlying28 rfl ti23 rfl rfl ?_
          clear hm a; intro a hm
          refine s_load hm rfl rfl (hS.load_one (p := 5) rfl Try.underlying23 rfl rfl) ?_
          clear hm a; intro a hm
          refine s_cmp (b := (t_130.2.Err == 0)) hm rfl rfl rfl (.inl ⟨rfl, rfl⟩) ?_
          clear hm a; intro a hm
          refine s_move hm rfl rfl ?_
          clear hm a; intro a hm
          refine s_cmp (b := decide (x_40 ≥ 0)) hm rfl rfl rfl (.inr (.inr (.inr (.inr (.inr ⟨rfl, rfl⟩))))) ?_
          clear hm a; intro a hm
          refine s_beq (b := !((t_130.2.Err == 0) == (decide (x_40 ≥ 0)))) hm rfl Try.underlying4 rfl rfl (.inr ⟨rfl, rfl⟩) ?_
          clear hm a; intro a hm
          refine wpList_nil ?_
          replace hm : Fr 128 a [(0, p0_0), (2, .bool false), (3, v_13), (4, v_18), (5, .int .i64 x_20), (7, .int .i64 x_40), (11, v_134), (85, .bool (!((t_130.2.Err == 0) == (decide (x_40 ≥ 0)))))] := hm.keep [0, 2, 3, 4, 5, 7, 11, 85]
          refine x_then_n ?_
          by_cases hc_146 : (t_130.2.Err == 0) = (decide (x_40 ≥ 0))
          · rw [if_pos hc_146] at H
            refine c_cond_f hm rfl (nf (beq_iff_eq.2 hc_146)) ?_
            refine wp_skip ?_
            refine x_then_n (hKJ_145 _ _ ?_)
            refine c_seq fun KJ_147 hKJ_147 => ?_
            refine wp_seq ?_
            refine wp_region_lit ?_
            refine s_move hm rfl rfl ?_
            clear hm a; intro a hm
            refine s_cmp (b := decide (x_40 ≥ 0)) hm rfl rfl rfl (.inr (.inr (.inr (.inr (.inr ⟨rfl, rfl⟩))))) ?_
            clear hm a; intro a hm
            refine wpList_nil ?_
            replace hm : Fr 128 a [(0, p0_0), (2, .bool false), (3, v_13), (4, v_18), (5, .int .i64 x_20), (7, .int .i64 x_40), (11, v_134), (87, .bool (decide (x_40 ≥ 0)))] := hm.keep [0, 2, 3, 4, 5, 7, 11, 87]
            refine x_then_n ?_
            by_cases hc_148 : x_40 ≥ 0
            · rw [if_pos hc_148] at H
              refine c_cond_t hm rfl (decide_eq_true hc_148) ?_
              obtain ⟨N_149, hS', le_149, lo_149⟩ := hS.freeze 1 rfl
              replace hS : Sep w0 w_144 [N_149, M_11, Mem.no, M_136, M_140, Mem.one g_143 (.cells ([.int .i64 t_130.2.Err, v_138, .int .i64 t_130.2.N] : List Value).toArray 28 (0, 0))] Z := hS'
              clear hS'
              refine h_begin (S := fun w => Sep w0 w [N_149, M_11, Mem.no, M_136, M_140, Mem.one g_143 (.cells ([.int .i64 t_130.2.Err, v_138, .int .i64 t_130.2.N] : List Value).toArray 28 (0, 0))] Z) 11 (by kernel_rfl) rfl [false, false, false, false, false, false, false, false, false, false, false].toArray rfl hS fun w_150 hS => ?_
              replace hS : Sep w0 w_150 [N_149, M_11, Mem.no, M_136, M_140, Mem.one g_143 (.cells ([.int .i64 t_130.2.Err, v_138, .int .i64 t_130.2.N] : List Value).toArray 28 (0, 0))] Z := hS
              refine h_take 1 [false, true, false, false, false, false, false, false, false, false, false].toArray rfl (by kernel_rfl) (by kernel_rfl) (by kernel_rfl) (fun _ _ _ _ h => h) rfl rfl rfl rfl hm (hS.sub (.cons (Mem.le.refl _) (.cons (Mem.le.refl _) (.cons (Mem.no_le _) (.cons (Mem.le.refl _) (.cons (Mem.le.refl _) (.cons (Mem.le.refl _) (Sub.nil _)))))))) (v := v_18) (fun w hS => r_move hm rfl) ?_
              clear hm a; intro a hm
              refine h_take 2 [false, true, true, false, false, false, false, false, false, false, false].toArray rfl (by kernel_rfl) (by kernel_rfl) (by kernel_rfl) (fun _ _ _ _ h => h) rfl rfl rfl rfl hm (hS.sub (.cons (Mem.le.refl _) (.cons (Mem.le.refl _) (.cons (Mem.no_le _) (.cons (Mem.le.refl _) (.cons (Mem.le.refl _) (.cons (Mem.le.refl _) (Sub.nil _)))))))) (v := .int .i64 x_40) (fun w hS => r_move hm rfl) ?_
              clear hm a; intro a hm
              obtain ⟨t_151, et_151, H⟩ := Option.bind_eq_some_iff.1 H
              refine h_takeE 3 [false, true, true, true, false, false, false, false, false, false, false].toArray rfl (by kernel_rfl) (by kernel_rfl) (by kernel_rfl) (fun _ _ _ _ h => h) rfl rfl rfl rfl hm (hS.sub (.cons (Mem.le.refl _) (.cons (Mem.le.refl _) (.cons (Mem.no_le _) (.cons (Mem.le.refl _) (.cons (Mem.le.refl _) (.cons (Mem.le.refl _) (Sub.nil _)))))))) (f := fun v => v) (r_slice hm Try.underlying22 ti3 rfl rfl (ho_19.rd lo_149 (Mem.no_le _)) rfl rfl et_151) ?_
              intro v_152 hr_153
              clear hm a; intro a hm
              refine h_take 5 [false, true, true, true, false, true, false, false, false, false, false].toArray rfl (by kernel_rfl) (by kernel_rfl) (by kernel_rfl) (fun _ _ _ _ h => h) rfl rfl rfl rfl hm (hS.sub (.cons (Mem.le.refl _) (.cons (Mem.le.refl _) (.cons (Mem.no_le _) (.cons (Mem.le.refl _) (.cons (Mem.le.refl _) (.cons (Mem.le.refl _) (Sub.nil _)))))))) (v := v_18) (fun w hS => r_move hm rfl) ?_
              clear hm a; intro a hm
              refine h_take 6 [false, true, true, true, false, true, true, false, false, false, false].toArray rfl (by kernel_rfl) (by kernel_rfl) (by kernel_rfl) (fun _ _ _ _ h => h) rfl rfl rfl rfl hm (hS.sub (.cons (Mem.le.refl _) (.cons (Mem.le.refl _) (.cons (Mem.no_le _) (.cons (Mem.le.refl _) (.cons (Mem.le.refl _) (.cons (Mem.le.refl _) (Sub.nil _)))))))) (v := .int .i64 x_40) (fun w hS => r_move hm rfl) ?_
              clear hm a; intro a hm
              refine h_take 7 [false, true, true, true, false, true, true, true, false, false, false].toArray rfl (by kernel_rfl) (by kernel_rfl) (by kernel_rfl) (fun _ _ _ _ h => h) rfl rfl rfl rfl hm (hS.sub (.cons (Mem.le.refl _) (.cons (Mem.le.refl _) (.cons (Mem.no_le _) (.cons (Mem.le.refl _) (.cons (Mem.le.refl _) (.cons (Mem.le.refl _) (Sub.nil _)))))))) (v := .int .i64 (w64 (x_40 + 1))) (fun w hS => r_arith (r := w64 (x_40 + 1)) hm rfl rfl (.inl ⟨rfl, rfl⟩)) ?_
              clear hm a; intro a hm
              obtain ⟨t_154, et_154, H⟩ := Option.bind_eq_some_iff.1 H
              refine h_takeE 8 [false, true, true, true, false, true, true, true, true, false, false].toArray rfl (by kernel_rfl) (by kernel_rfl) (by kernel_rfl) (fun _ _ _ _ h => h) rfl rfl rfl rfl hm (hS.sub (.cons (Mem.le.refl _) (.cons (Mem.le.refl _) (.cons (Mem.no_le _) (.cons (Mem.le.refl _) (.cons (Mem.le.refl _) (.cons (Mem.le.refl _) (Sub.nil _)))))))) (f := fun v => v) (r_slice hm Try.underlying22 ti3 rfl rfl (ho_19.rd lo_149 (Mem.no_le _)) rfl rfl et_154) ?_
              intro v_155 hr_156
              clear hm a; intro a hm
              refine h_event 0 [true, true, true, true, false, true, true, true, true, false, false].toArray rfl (by kernel_rfl) rfl ?_
              have hq_161 : Reps (Kd.int .i64) Mem.no ([] : List Int) _ := (Reps.nil (Kd.int .i64) _)
              refine s_buildSlice hm rfl Try.underlying22 ti3 rfl rfl rfl .nil rfl rfl rfl hS hq_161 rfl ?_
              intro w_157 v_158 M_159 hS' ho_160
              clear hm a; intro a hm
              replace hS : Sep w0 w_157 [N_149, M_11, Mem.no, M_136, M_140, Mem.one g_143 (.cells ([.int .i64 t_130.2.Err, v_138, .int .i64 t_130.2.N] : List Value).toArray 28 (0, 0)), M_159] Z := hS'
              clear hS' hq_161
              refine wpList_nil ?_
              refine x_then_n ⟨(hS.sub (.cons (Mem.le.refl _) (.cons (Mem.le.refl _) (.cons (Mem.no_le _) (.cons (Mem.le.refl _) (.cons (Mem.le.refl _) (.cons (Mem.le.refl _) (Sub.nil _)))))))), ?_⟩
              refine h_event 4 [true, true, true, true, true, true, true, true, true, false, false].toArray rfl (by kernel_rfl) rfl ?_
              obtain ⟨t_163, et_163, H⟩ := Option.bind_eq_some_iff.1 H
              refine s_append (J := Mem.no) (I' := Mem.no) (p := 6) 17592186044416 hm rfl rfl rfl Try.underlying22 ti3 rfl rfl rfl rfl hS rfl ho_160 (Src.flat (flat_int .i64) (hr_153.src ((Mem.le.refl _).trans (hS.own 0)))) (Mem.le.refl _) (Mem.le.refl _) et_163 ?_
              intro w_164 v_165 M_166 hS' ho_167
              clear hm a; intro a hm
              replace hS : Sep w0 w_164 [N_149, M_11, Mem.no, M_136, M_140, Mem.one g_143 (.cells ([.int .i64 t_130.2.Err, v_138, .int .i64 t_130.2.N] : List Value).toArray 28 (0, 0)), M_166] Z := hS'
              clear hS'
              refine wpList_nil ?_
              refine x_then_n ⟨(hS.sub (.cons (Mem.le.refl _) (.cons (Mem.le.refl _) (.cons (Mem.no_le _) (.cons (Mem.le.refl _) (.cons (Mem.le.refl _) (.cons (Mem.le.refl _) (Sub.nil _)))))))), ?_⟩
              refine h_event 9 [true, true, true, true, true, true, true, true, true, true, false].toArray rfl (by kernel_rfl) rfl ?_
              obtain ⟨t_169, et_169, H⟩ := Option.bind_eq_some_iff.1 H
              refine s_append (J := Mem.no) (I' := Mem.no) (p := 6) 17592186044416 hm rfl rfl rfl Try.underlying22 ti3 rfl rfl rfl rfl hS rfl ho_167 (Src.flat (flat_int .i64) (hr_156.src ((Mem.le.refl _).trans (hS.own 0)))) (Mem.le.refl _) (Mem.le.refl _) et_169 ?_
              intro w_170 v_171 M_172 hS' ho_173
              clear hm a; intro a hm
              replace hS : Sep w0 w_170 [N_149, M_11, Mem.no, M_136, M_140, Mem.one g_143 (.cells ([.int .i64 t_130.2.Err, v_138, .int .i64 t_130.2.N] : List Value).toArray 28 (0, 0)), M_172] Z := hS'
              clear hS'
              refine wpList_nil ?_
              refine x_then_n ⟨(hS.sub (.cons (Mem.le.refl _) (.cons (Mem.le.refl _) (.cons (Mem.no_le _) (.cons (Mem.le.refl _) (.cons (Mem.le.refl _) (.cons (Mem.le.refl _) (Sub.nil _)))))))), ?_⟩
              refine h_take 10 [true, true, true, true, true, true, true, true, true, true, true].toArray rfl (by kernel_rfl) (by kernel_rfl) (by kernel_rfl) (fun _ _ _ _ h => h) rfl rfl rfl rfl hm (hS.sub (.cons (Mem.le.refl _) (.cons (Mem.le.refl _) (.cons (Mem.no_le _) (.cons (Mem.le.refl _) (.cons (Mem.le.refl _) (.cons (Mem.le.refl _) (Sub.nil _)))))))) (v := v_171) (fun w hS => r_assign hm rfl) ?_
              clear hm a; intro a hm
              refine h_done (by kernel_rfl) ?_
              replace hm : Fr 128 a [(0, p0_0), (2, .bool false), (3, v_13), (4, v_171), (5, .int .i64 x_20), (11, v_134)] := hm.keep [0, 2, 3, 4, 5, 11]
              refine x_then_n (hKJ_147 _ _ ?_)
              refine wp_region_lit ?_
              refine s_move hm rfl rfl ?_
              clear hm a; intro a hm
              refine s_assign hm rfl rfl ?_
              clear hm a; intro a hm
              refine wpList_nil ?_
              replace hm : Fr 128 a [(0, p0_0), (2, .bool false), (3, v_134), (4, v_171), (5, .int .i64 x_20)] := hm.keep [0, 2, 3, 4, 5]
              replace hS : Sep w0 w_170 [N_149, M_11, Mem.no, M_136, M_140, Mem.one g_143 (.cells ([.int .i64 t_130.2.Err, v_138, .int .i64 t_130.2.N] : List Value).toArray 28 (0, 0)), M_172] Z := hS
              replace hm : Fr 128 a [(0, p0_0), (2, .bool false), (3, v_134), (4, v_171), (5, .int .i64 x_20)] := hm.keep [0, 2, 3, 4, 5]
              exact x_then_n (hJ_j_61 t_130.1 t_169 H _ _ ⟨v_134, v_171, N_149, M_136, M_172, hm, (Sep.sel hS [0, 1000, 1001, 3, 6] (by decide)), (le_133.trans le_149), hr_135, ho_173⟩)
            · rw [if_neg hc_148] at H
              refine c_cond_f hm rfl (decide_eq_false hc_148) ?_
              refine wp_skip ?_
              refine x_then_n (hKJ_147 _ _ ?_)
              refine wp_region_lit ?_
              refine s_move hm rfl rfl ?_
              clear hm a; intro a hm
              refine s_assign hm rfl rfl ?_
              clear hm a; intro a hm
              refine wpList_nil ?_
              replace hm : Fr 128 a [(0, p0_0), (2, .bool false), (3, v_134), (4, v_18), (5, .int .i64 x_20)] := hm.keep [0, 2, 3, 4, 5]
              replace hS : Sep w0 w_144 [N_133, M_11, M_16, M_136, M_140, Mem.one g_143 (.cells ([.int .i64 t_130.2.Err, v_138, .int .i64 t_130.2.N] : List Value).toArray 28 (0, 0))] Z := hS
              replace hm : Fr 128 a [(0, p0_0), (2, .bool false), (3, v_134), (4, v_18), (5, .int .i64 x_20)] := hm.keep [0, 2, 3, 4, 5]
              exact x_then_n (hJ_j_61 t_130.1 x_15 H _ _ ⟨v_134, v_18, N_133, M_136, M_16, hm, (Sep.sel hS [0, 1000, 1001, 3, 2] (by decide)), le_133, hr_135, ho_19⟩)
          · rw [if_neg hc_146] at H
            cases H
      clear hKJ_38
      replace hS : Sep w0 w_29 [N_27, M_11, M_16] Z := hS
      replace hm : Fr 128 a [(0, p0_0), (2, .bool false), (3, v_13), (4, v_18), (5, .int .i64 x_20), (6, .int .i64 (band .i64 (shr .i64 t_33 1) 7)), (7, .int .i64 (-1)), (31, .int .i64 (x_15.length : Int)), (32, .int .i64 0)] := hm.keep [0, 2, 3, 4, 5, 6, 7, 31, 32]
      refine c_block ?_
      refine c_loop (fun k_178 a w_178 => ∃ (x_176 : Int) (x_177 : Int) (N_175 : Mem), hocketlaw6_LockOne.L2 K x_15 t_33 (fun v => hocketlaw6_LockOne.J3 K x0 x_20 x_10 t_33 x_15 (hocketlaw6_LockOne.L1 K x0 (fun v => hocketlaw6_LockOne.J1 K) k_21) v) k_178 (x_176, x_177) = some r ∧ Fr 128 a [(0, p0_0), (2, .bool false), (3, v_13), (4, v_18), (5, .int .i64 x_20), (6, .int .i64 (band .i64 (shr .i64 t_33 1) 7)), (7, .int .i64 x_176), (31, .int .i64 (x_15.length : Int)), (32, .int .i64 x_177)] ∧ Sep w0 w_178 [N_175, M_11, M_16] Z ∧ N_27.le N_175) K ⟨(-1), 0, N_27, H, hm, (Sep.sel hS [0, 1, 2] (by decide)), (Mem.le.refl _)⟩ (fun a w h => by obtain ⟨_, _, _, H, _⟩ := h; cases (show (none : Option (Unit)) = some r from H)) ?_
      clear hm hS a H
      rintro k_178 a w_178 KL_178 hKL_178 ⟨x_176, x_177, N_175, H, hm, hS, le_175⟩
      replace H : hocketlaw6_LockOne.B2 K x_15 t_33 (fun v => hocketlaw6_LockOne.J3 K x0 x_20 x_10 t_33 x_15 (hocketlaw6_LockOne.L1 K x0 (fun v => hocketlaw6_LockOne.J1 K) k_21) v) (hocketlaw6_LockOne.L2 K x_15 t_33 (fun v => hocketlaw6_LockOne.J3 K x0 x_20 x_10 t_33 x_15 (hocketlaw6_LockOne.L1 K x0 (fun v => hocketlaw6_LockOne.J1 K) k_21) v) k_178) x_176 x_177 = some r := H
      unfold hocketlaw6_LockOne.B2 at H
      refine wp_seq ?_
      refine wp_region_lit ?_
      refine s_cmp (b := decide (x_177 < (x_15.length : Int))) hm rfl rfl rfl (.inr (.inr (.inl ⟨rfl, rfl⟩))) ?_
      clear hm a; intro a hm
      refine wpList_nil ?_
      replace hm : Fr 128 a [(0, p0_0), (2, .bool false), (3, v_13), (4, v_18), (5, .int .i64 x_20), (6, .int .i64 (band .i64 (shr .i64 t_33 1) 7)), (7, .int .i64 x_176), (31, .int .i64 (x_15.length : Int)), (32, .int .i64 x_177), (33, .bool (decide (x_177 < (x_15.length : Int))))] := hm.keep [0, 2, 3, 4, 5, 6, 7, 31, 32, 33]
      refine x_then_n ?_
      refine c_seq fun KJ_180 hKJ_180 => ?_
      by_cases hc_181 : x_177 < (x_15.length : Int)
      · rw [if_pos hc_181] at H
        refine c_cond_t hm rfl (decide_eq_true hc_181) ?_
        refine wp_skip ?_
        refine x_then_n (hKJ_180 _ _ ?_)
        refine c_seq fun KJ_182 hKJ_182 => ?_
        refine c_block ?_
        refine wp_seq ?_
        refine wp_region_lit ?_
        refine s_move hm rfl rfl ?_
        clear hm a; intro a hm
        refine s_assign hm rfl rfl ?_
        clear hm a; intro a hm
        refine wpList_nil ?_
        replace hm : Fr 128 a [(0, p0_0), (2, .bool false), (3, v_13), (4, v_18), (5, .int .i64 x_20), (6, .int .i64 (band .i64 (shr .i64 t_33 1) 7)), (7, .int .i64 x_176), (8, .int .i64 x_177), (31, .int .i64 (x_15.length : Int)), (32, .int .i64 x_177)] := hm.keep [0, 2, 3, 4, 5, 6, 7, 8, 31, 32]
        refine x_then_n ?_
        refine wp_seq ?_
        refine wp_region_lit ?_
        refine s_move hm rfl rfl ?_
        clear hm a; intro a hm
        refine s_move hm rfl rfl ?_
        clear hm a; intro a hm
        obtain ⟨t_183, et_183, H⟩ := Option.bind_eq_some_iff.1 H
        refine v_indexO hm rfl Try.underlying22 ti3 rfl rfl rfl ho_19 (hS.own 2) et_183 ?_
        intro ad_184 cs_185 hk_186 hc_187
        obtain rfl := (show cs_185 = [.int .i64 t_183] from hk_186)
        clear hm a; intro a hm
        refine s_load hm rfl rfl (el_one (o := 0) hc_187 Try.underlying3 rfl rfl) ?_
        clear hm a; intro a hm
        refine s_move hm rfl rfl ?_
        clear hm a; intro a hm
        refine s_cmp (b := (t_183 == (band .i64 (shr .i64 t_33 1) 7))) hm rfl rfl rfl (.inl ⟨rfl, rfl⟩) ?_
        clear hm a; intro a hm
        refine wpList_nil ?_
        replace hm : Fr 128 a [(0, p0_0), (2, .bool false), (3, v_13), (4, v_18), (5, .int .i64 x_20), (6, .int .i64 (band .i64 (shr .i64 t_33 1) 7)), (7, .int .i64 x_176), (8, .int .i64 x_177), (31, .int .i64 (x_15.length : Int)), (32, .int .i64 x_177), (40, .bool (t_183 == (band .i64 (shr .i64 t_33 1) 7)))] := hm.keep [0, 2, 3, 4, 5, 6, 7, 8, 31, 32, 40]
        refine x_then_n ?_
        by_cases hc_188 : t_183 = (band .i64 (shr .i64 t_33 1) 7)
        · rw [if_pos hc_188] at H
          refine c_cond_t hm rfl (beq_iff_eq.2 hc_188) ?_
          refine wp_region_lit ?_
          refine s_move hm rfl rfl ?_
          clear hm a; intro a hm
          refine s_assign hm rfl rfl ?_
          clear hm a; intro a hm
          refine wpList_nil ?_
          replace hm : Fr 128 a [(0, p0_0), (2, .bool false), (3, v_13), (4, v_18), (5, .int .i64 x_20), (6, .int .i64 (band .i64 (shr .i64 t_33 1) 7)), (7, .int .i64 x_177), (31, .int .i64 (x_15.length : Int)), (32, .int .i64 x_177)] := hm.keep [0, 2, 3, 4, 5, 6, 7, 31, 32]
          refine x_block_n ?_
          refine x_then_n (hKJ_182 _ _ ?_)
          refine wp_region_lit ?_
          refine s_arith (r := w64 (x_177 + 1)) hm rfl rfl rfl (.inl ⟨rfl, rfl⟩) ?_
          clear hm a; intro a hm
          refine s_move hm rfl rfl ?_
          clear hm a; intro a hm
          refine wpList_nil ?_
          replace hm : Fr 128 a [(0, p0_0), (2, .bool false), (3, v_13), (4, v_18), (5, .int .i64 x_20), (6, .int .i64 (band .i64 (shr .i64 t_33 1) 7)), (7, .int .i64 x_177), (31, .int .i64 (x_15.length : Int)), (32, .int .i64 (w64 (x_177 + 1)))] := hm.keep [0, 2, 3, 4, 5, 6, 7, 31, 32]
          refine x_then_n (hKL_178 _ _ ?_)
          replace hS : Sep w0 w_178 [N_175, M_11, M_16] Z := hS
          replace hm : Fr 128 a [(0, p0_0), (2, .bool false), (3, v_13), (4, v_18), (5, .int .i64 x_20), (6, .int .i64 (band .i64 (shr .i64 t_33 1) 7)), (7, .int .i64 x_177), (31, .int .i64 (x_15.length : Int)), (32, .int .i64 (w64 (x_177 + 1)))] := hm.keep [0, 2, 3, 4, 5, 6, 7, 31, 32]
          exact ⟨x_177, w64 (x_177 + 1), N_175, H, hm, (Sep.sel hS [0, 1, 2] (by decide)), le_175⟩
        · rw [if_neg hc_188] at H
          refine c_cond_f hm rfl (beq_eq_false_iff_ne.2 hc_188) ?_
          refine wp_skip ?_
          refine x_block_n ?_
          refine x_then_n (hKJ_182 _ _ ?_)
          refine wp_region_lit ?_
          refine s_arith (r := w64 (x_177 + 1)) hm rfl rfl rfl (.inl ⟨rfl, rfl⟩) ?_
          clear hm a; intro a hm
          refine s_move hm rfl rfl ?_
          clear hm a; intro a hm
          refine wpList_nil ?_
          replace hm : Fr 128 a [(0, p0_0), (2, .bool false), (3, v_13), (4, v_18), (5, .int .i64 x_20), (6, .int .i64 (band .i64 (shr .i64 t_33 1) 7)), (7, .int .i64 x_176), (31, .int .i64 (x_15.length : Int)), (32, .int .i64 (w64 (x_177 + 1)))] := hm.keep [0, 2, 3, 4, 5, 6, 7, 31, 32]
          refine x_then_n (hKL_178 _ _ ?_)
          replace hS : Sep w0 w_178 [N_175, M_11, M_16] Z := hS
          replace hm : Fr 128 a [(0, p0_0), (2, .bool false), (3, v_13), (4, v_18), (5, .int .i64 x_20), (6, .int .i64 (band .i64 (shr .i64 t_33 1) 7)), (7, .int .i64 x_176), (31, .int .i64 (x_15.length : Int)), (32, .int .i64 (w64 (x_177 + 1)))] := hm.keep [0, 2, 3, 4, 5, 6, 7, 31, 32]
          exact ⟨x_176, w64 (x_177 + 1), N_175, H, hm, (Sep.sel hS [0, 1, 2] (by decide)), le_175⟩
      · rw [if_neg hc_181] at H
        refine c_cond_f hm rfl (decide_eq_false hc_181) ?_
        refine wp_exit (x_then_x (x_then_x (x_block_t ?_)))
        replace hS : Sep w0 w_178 [N_175, M_11, M_16] Z := hS
        replace hm : Fr 128 a [(0, p0_0), (2, .bool false), (3, v_13), (4, v_18), (5, .int .i64 x_20), (6, .int .i64 (band .i64 (shr .i64 t_33 1) 7)), (7, .int .i64 x_176)] := hm.keep [0, 2, 3, 4, 5, 6, 7]
        exact x_then_n (hJ_j_42 x_176 H _ _ ⟨N_175, hm, (Sep.sel hS [0, 1, 2] (by decide)), le_175⟩)
    · rw [if_neg hc_31] at H
      refine c_cond_f hm rfl (Bool.eq_false_iff.2 hc_31) ?_
      refine wp_exit (x_then_x (x_then_x (x_block_t ?_)))
      replace hS : Sep w0 w_29 [N_27, M_11, M_16] Z := hS
      replace hm : Fr 128 a [(2, .bool false)] := hm.keep [2]
      exact x_then_n (hJ_j_4  H _ _ ⟨N_27, hm, (Sep.sel hS [0] (by decide)), (le_9.trans le_27)⟩)
  clear hKJ_26
  refine wp_region_lit ?_
  refine s_move hm rfl rfl ?_
  clear hm a; intro a hm
  refine s_move hm rfl rfl ?_
  clear hm a; intro a hm
  refine s_len hm rfl Try.underlying22 rfl hp0_0 ?_
  clear hm a; intro a hm
  refine s_cmp (b := decide (x_20 < (x0.length : Int))) hm rfl rfl rfl (.inr (.inr (.inl ⟨rfl, rfl⟩))) ?_
  clear hm a; intro a hm
  refine s_move hm rfl rfl ?_
  clear hm a; intro a hm
  by_cases hc_189 : x_20 < (x0.length : Int)
  · rw [if_pos hc_189] at H
    refine s_on hm rfl rfl (decide_eq_true hc_189) ?_
    refine s_move hm rfl rfl ?_
    clear hm a; intro a hm
    refine s_on hm rfl rfl (decide_eq_true hc_189) ?_
    refine s_cmp (b := decide (x_20 < 60)) hm rfl rfl rfl (.inr (.inr (.inl ⟨rfl, rfl⟩))) ?_
    clear hm a; intro a hm
    refine s_pick_t hm rfl rfl (decide_eq_true hc_189) rfl ?_
    clear hm a; intro a hm
    refine wpList_nil ?_
    replace hm : Fr 128 a [(0, p0_0), (2, .bool false), (3, v_13), (4, v_18), (5, .int .i64 x_20), (21, .bool (decide (x_20 < 60)))] := hm.keep [0, 2, 3, 4, 5, 21]
    replace hS : Sep w0 w_21 [N_9, M_11, M_16] Z := hS
    replace hm : Fr 128 a [(0, p0_0), (2, .bool false), (3, v_13), (4, v_18), (5, .int .i64 x_20), (21, .bool (decide (x_20 < 60)))] := hm.keep [0, 2, 3, 4, 5, 21]
    exact x_then_n (hJ_j_30 (decide (x_20 < 60)) H _ _ ⟨N_9, hm, (Sep.sel hS [0, 1, 2] (by decide)), (Mem.le.refl _)⟩)
  · rw [if_neg hc_189] at H
    refine s_off hm rfl rfl rfl (decide_eq_false hc_189) ?_
    clear hm a; intro a hm
    refine s_off hm rfl rfl rfl (decide_eq_false hc_189) ?_
    clear hm a; intro a hm
    refine s_pick_f hm rfl rfl (decide_eq_false hc_189) rfl ?_
    clear hm a; intro a hm
    refine wpList_nil ?_
    replace hm : Fr 128 a [(0, p0_0), (2, .bool false), (3, v_13), (4, v_18), (5, .int .i64 x_20), (21, .bool false)] := hm.keep [0, 2, 3, 4, 5, 21]
    replace hS : Sep w0 w_21 [N_9, M_11, M_16] Z := hS
    replace hm : Fr 128 a [(0, p0_0), (2, .bool false), (3, v_13), (4, v_18), (5, .int .i64 x_20), (21, .bool false)] := hm.keep [0, 2, 3, 4, 5, 21]
    exact x_then_n (hJ_j_30 false H _ _ ⟨N_9, hm, (Sep.sel hS [0, 1, 2] (by decide)), (Mem.le.refl _)⟩)


end Go.Proofs
