/- What the calls do: each function once. -/
import Derived.Test.YteojmbigbifklaaFacts
namespace Go.Proofs
open Go.Gp
set_option linter.unusedVariables false
set_option maxHeartbeats 4000000 in
theorem slices_Clone_sint_int.calls (x0 : List Int) (p0_0 : Value) (r : List Int) (w0 w : World) (Z A : Mem) (hA : A.le Z) (hS : Sep w0 w [] Z) (hp0_0 : Rd (Kd.int .i64) A p0_0 x0)
    (H : slices_Clone_sint_int.f x0 = some r) :
    Calls Try.prog 39 [p0_0].toArray w (Ret fun v w' => ∃ (u0 : Value) (N : Mem) (M0 : Mem), v = u0 ∧ Sep w0 w' [N, M0] Z ∧ Own (Kd.int .i64) 3 M0 Mem.no u0 r) := by
  unfold slices_Clone_sint_int.f at H
  refine f_enter _ Try.func39 rfl Try.ntmps39 rfl fun a hm => ?_
  replace hm : Fr 8 a [(0, p0_0)] := hm
  replace hS := hS.start
  replace hS : Sep w0 w [Mem.no] Z := hS
  refine wp_seq ?_
  refine wp_region_lit ?_
  refine s_assign hm rfl rfl ?_
  clear hm a; intro a hm
  refine wpList_nil ?_
  replace hm : Fr 8 a [(0, p0_0)] := hm.keep [0]
  refine x_then_n ?_
  refine c_seq fun KJ hKJ => ?_
  refine wp_seq ?_
  refine wp_region_lit ?_
  refine s_move hm rfl rfl ?_
  clear hm a; intro a hm
  refine s_slNil hm rfl Try.underlying22 rfl hp0_0 fun b hb => ?_
  clear hm a; intro a hm
  refine wpList_nil ?_
  refine x_then_n ?_
  cases b with
  | true =>
    have hx := hb rfl
    subst hx
    refine c_cond_t hm rfl rfl ?_
    refine wp_seq ?_
    refine wp_region_lit ?_
    refine s_assign hm rfl rfl ?_
    clear hm a; intro a hm
    refine wpList_nil ?_
    replace hm : Fr 8 a [(2, .slice none 0 0)] := hm.keep [2]
    refine x_then_n ?_
    refine wp_ret (x_then_r ?_)
    obtain rfl := (app_some H).2
    replace hS := hS.room
    exact f_ret hm (rs := [.tmp 2]) rfl (.tmp rfl .nil) ⟨_, rfl, _, Mem.no, Mem.no, rfl, hS, Own.nil _ _ _⟩
  | false =>
    refine c_cond_f hm rfl rfl ?_
    refine wp_skip ?_
    refine x_then_n (hKJ _ _ ?_)
    refine wp_seq ?_
    refine wp_region_lit ?_
    have hq5 : Reps (Kd.int .i64) Mem.no ([] : List Int) _ := (Reps.nil (Kd.int .i64) _)
    refine s_buildSlice hm rfl Try.underlying22 ti3 rfl rfl rfl .nil rfl rfl rfl hS hq5 rfl ?_
    intro w1 v2 M3 hS' ho4
    clear hm a; intro a hm
    replace hS : Sep w0 w1 [Mem.no, M3] Z := hS'
    clear hS' hq5
    refine s_move hm rfl rfl ?_
    clear hm a; intro a hm
    refine s_append (J := Mem.no) (I' := Mem.no) (p := 1) 17592186044416 hm rfl rfl rfl Try.underlying22 ti3 rfl rfl rfl rfl hS rfl ho4 (Src.flat (flat_int .i64) (hp0_0.src (hA.trans hS.old))) (Mem.le.refl _) (Mem.le.refl _) H ?_
    intro w8 v9 M10 hS' ho11
    clear hm a; intro a hm
    refine s_assign hm rfl rfl ?_
    clear hm a; intro a hm
    refine wpList_nil ?_
    replace hm : Fr 8 a [(2, v9)] := hm.keep [2]
    refine x_then_n ?_
    refine wp_ret ?_
    exact f_ret hm (rs := [.tmp 2]) rfl (.tmp rfl .nil) ⟨_, rfl, _, Mem.no, M10, rfl, hS', ho11⟩

set_option maxHeartbeats 4000000 in
set_option maxRecDepth 20000 in
theorem slices_Index_sint_int.calls (K : Nat) (x0 : List Int) (p0_0 : Value) (x1 : Int) (r : Int) (w0 w : World) (Z A : Mem) (hA : A.le Z) (hS : Sep w0 w [] Z) (hp0_0 : Rd (Kd.int .i64) A p0_0 x0)
    (H : slices_Index_sint_int.f K x0 x1 = some r) :
    Calls Try.prog 40 [p0_0, .int .i64 x1].toArray w (Ret fun v w' => ∃ (N : Mem), v = .int .i64 r ∧ Sep w0 w' [N] Z) := by
  unfold slices_Index_sint_int.f at H
  refine f_enter _ Try.func40 rfl Try.ntmps40 rfl fun a hm => ?_
  replace hm : Fr 19 a [(0, p0_0), (1, .int .i64 x1)] := hm
  replace hS := hS.start
  replace hS : Sep w0 w [Mem.no] Z := hS
  refine wp_seq ?_
  refine wp_region_lit ?_
  refine s_assign hm rfl rfl ?_
  clear hm a; intro a hm
  refine wpList_nil ?_
  replace hm : Fr 19 a [(0, p0_0), (1, .int .i64 x1), (4, .int .i64 0)] := hm.keep [0, 1, 4]
  refine x_then_n ?_
  refine c_seq fun KJ_1 hKJ_1 => ?_
  refine wp_seq ?_
  refine wp_region_lit ?_
  refine s_move hm rfl rfl ?_
  clear hm a; intro a hm
  refine s_len hm rfl Try.underlying22 rfl hp0_0 ?_
  clear hm a; intro a hm
  refine s_move hm rfl rfl ?_
  clear hm a; intro a hm
  refine wpList_nil ?_
  replace hm : Fr 19 a [(0, p0_0), (1, .int .i64 x1), (4, .int .i64 0), (7, .int .i64 (x0.length : Int)), (8, .int .i64 0)] := hm.keep [0, 1, 4, 7, 8]
  refine x_then_n ?_
  have hJ_j_4 : slices_Index_sint_int.J1 K = some r → ∀ (a : Act) (w_3 : World), (∃ (N_2 : Mem), Fr 19 a [(4, .int .i64 0)] ∧ Sep w0 w_3 [N_2] Z ∧ Mem.no.le N_2) → KJ_1 a w_3 := by
    clear H hm hS a
    rintro H a w_3 ⟨N_2, hm, hS, le_2⟩
    unfold slices_Index_sint_int.J1 at H
    refine hKJ_1 _ _ ?_
    refine wp_seq ?_
    refine wp_region_lit ?_
    refine s_assign hm rfl rfl ?_
    clear hm a; intro a hm
    refine wpList_nil ?_
    replace hm : Fr 19 a [(4, .int .i64 (-1))] := hm.keep [4]
    refine x_then_n ?_
    refine wp_ret ?_
    obtain rfl := Option.some.inj H
    exact f_ret hm (rs := [.tmp 4]) rfl (.tmp rfl .nil) ⟨_, rfl, N_2, rfl, (Sep.sel hS [0] (by decide))⟩
  clear hKJ_1
  replace hS : Sep w0 w [Mem.no] Z := hS
  replace hm : Fr 19 a [(0, p0_0), (1, .int .i64 x1), (4, .int .i64 0), (7, .int .i64 (x0.length : Int)), (8, .int .i64 0)] := hm.keep [0, 1, 4, 7, 8]
  refine c_block ?_
  refine c_loop (fun k_7 a w_7 => ∃ (x_6 : Int) (N_5 : Mem), slices_Index_sint_int.L1 K x0 x1 (fun v => slices_Index_sint_int.J1 K) k_7 x_6 = some r ∧ Fr 19 a [(0, p0_0), (1, .int .i64 x1), (4, .int .i64 0), (7, .int .i64 (x0.length : Int)), (8, .int .i64 x_6)] ∧ Sep w0 w_7 [N_5] Z ∧ Mem.no.le N_5) K ⟨0, Mem.no, H, hm, (Sep.sel hS [0] (by decide)), (Mem.le.refl _)⟩ (fun a w h => by obtain ⟨_, _, H, _⟩ := h; cases (show (none : Option (Int)) = some r from H)) ?_
  clear hm hS a H
  rintro k_7 a w_7 KL_7 hKL_7 ⟨x_6, N_5, H, hm, hS, le_5⟩
  replace H : slices_Index_sint_int.B1 K x0 x1 (fun v => slices_Index_sint_int.J1 K) (slices_Index_sint_int.L1 K x0 x1 (fun v => slices_Index_sint_int.J1 K) k_7) x_6 = some r := H
  unfold slices_Index_sint_int.B1 at H
  refine wp_seq ?_
  refine wp_region_lit ?_
  refine s_cmp (b := decide (x_6 < (x0.length : Int))) hm rfl rfl rfl (.inr (.inr (.inl ⟨rfl, rfl⟩))) ?_
  clear hm a; intro a hm
  refine wpList_nil ?_
  replace hm : Fr 19 a [(0, p0_0), (1, .int .i64 x1), (4, .int .i64 0), (7, .int .i64 (x0.length : Int)), (8, .int .i64 x_6), (9, .bool (decide (x_6 < (x0.length : Int))))] := hm.keep [0, 1, 4, 7, 8, 9]
  refine x_then_n ?_
  refine c_seq fun KJ_9 hKJ_9 => ?_
  by_cases hc_10 : x_6 < (x0.length : Int)
  · rw [if_pos hc_10] at H
    refine c_cond_t hm rfl (decide_eq_true hc_10) ?_
    refine wp_skip ?_
    refine x_then_n (hKJ_9 _ _ ?_)
    refine c_seq fun KJ_11 hKJ_11 => ?_
    refine c_block ?_
    refine wp_seq ?_
    refine wp_region_lit ?_
    refine s_move hm rfl rfl ?_
    clear hm a; intro a hm
    refine s_assign hm rfl rfl ?_
    clear hm a; intro a hm
    refine wpList_nil ?_
    replace hm : Fr 19 a [(0, p0_0), (1, .int .i64 x1), (4, .int .i64 0), (5, .int .i64 x_6), (7, .int .i64 (x0.length : Int)), (8, .int .i64 x_6)] := hm.keep [0, 1, 4, 5, 7, 8]
    refine x_then_n ?_
    refine wp_seq ?_
    refine wp_region_lit ?_
    refine s_move hm rfl rfl ?_
    clear hm a; intro a hm
    refine s_move hm rfl rfl ?_
    clear hm a; intro a hm
    refine s_move hm rfl rfl ?_
    clear hm a; intro a hm
    obtain ⟨t_12, et_12, H⟩ := Option.bind_eq_some_iff.1 H
    refine v_index hm rfl Try.underlying22 ti3 rfl rfl rfl hp0_0 (hA.trans hS.old) et_12 ?_
    intro ad_13 cs_14 hk_15 hc_16
    obtain rfl := (show cs_14 = [.int .i64 t_12] from hk_15)
    clear hm a; intro a hm
    refine s_load hm rfl rfl (el_one (o := 0) hc_16 Try.underlying3 rfl rfl) ?_
    clear hm a; intro a hm
    refine s_cmp (b := (x1 == t_12)) hm rfl rfl rfl (.inl ⟨rfl, rfl⟩) ?_
    clear hm a; intro a hm
    refine wpList_nil ?_
    replace hm : Fr 19 a [(0, p0_0), (1, .int .i64 x1), (4, .int .i64 0), (5, .int .i64 x_6), (7, .int .i64 (x0.length : Int)), (8, .int .i64 x_6), (16, .bool (x1 == t_12))] := hm.keep [0, 1, 4, 5, 7, 8, 16]
    refine x_then_n ?_
    by_cases hc_17 : x1 = t_12
    · rw [if_pos hc_17] at H
      refine c_cond_t hm rfl (beq_iff_eq.2 hc_17) ?_
      refine wp_seq ?_
      refine wp_region_lit ?_
      refine s_move hm rfl rfl ?_
      clear hm a; intro a hm
      refine s_assign hm rfl rfl ?_
      clear hm a; intro a hm
      refine wpList_nil ?_
      replace hm : Fr 19 a [(0, p0_0), (1, .int .i64 x1), (4, .int .i64 x_6), (7, .int .i64 (x0.length : Int)), (8, .int .i64 x_6)] := hm.keep [0, 1, 4, 7, 8]
      refine x_then_n ?_
      refine wp_ret (x_block_r (x_then_r (x_then_r (x_block_r (x_then_r ?_)))))
      obtain rfl := Option.some.inj H
      exact f_ret hm (rs := [.tmp 4]) rfl (.tmp rfl .nil) ⟨_, rfl, N_5, rfl, (Sep.sel hS [0] (by decide))⟩
    · rw [if_neg hc_17] at H
      refine c_cond_f hm rfl (beq_eq_false_iff_ne.2 hc_17) ?_
      refine wp_skip ?_
      refine x_block_n ?_
      refine x_then_n (hKJ_11 _ _ ?_)
      refine wp_region_lit ?_
      refine s_arith (r := w64 (x_6 + 1)) hm rfl rfl rfl (.inl ⟨rfl, rfl⟩) ?_
      clear hm a; intro a hm
      refine s_move hm rfl rfl ?_
      clear hm a; intro a hm
      refine wpList_nil ?_
      replace hm : Fr 19 a [(0, p0_0), (1, .int .i64 x1), (4, .int .i64 0), (7, .int .i64 (x0.length : Int)), (8, .int .i64 (w64 (x_6 + 1)))] := hm.keep [0, 1, 4, 7, 8]
      refine x_then_n (hKL_7 _ _ ?_)
      replace hS : Sep w0 w_7 [N_5] Z := hS
      replace hm : Fr 19 a [(0, p0_0), (1, .int .i64 x1), (4, .int .i64 0), (7, .int .i64 (x0.length : Int)), (8, .int .i64 (w64 (x_6 + 1)))] := hm.keep [0, 1, 4, 7, 8]
      exact ⟨w64 (x_6 + 1), N_5, H, hm, (Sep.sel hS [0] (by decide)), le_5⟩
  · rw [if_neg hc_10] at H
    refine c_cond_f hm rfl (decide_eq_false hc_10) ?_
    refine wp_exit (x_then_x (x_then_x (x_block_t ?_)))
    replace hS : Sep w0 w_7 [N_5] Z := hS
    replace hm : Fr 19 a [(4, .int .i64 0)] := hm.keep [4]
    exact x_then_n (hJ_j_4  H _ _ ⟨N_5, hm, (Sep.sel hS [0] (by decide)), le_5⟩)

set_option maxHeartbeats 4000000 in
set_option maxRecDepth 20000 in
theorem slices_Delete_sint_int.calls (x0 : List Int) (p0_0 : Value) (M0_0 : Mem) (x1 : Int) (x2 : Int) (r : (List Int)) (w0 w : World) (Z A : Mem) (hA : A.le Z) (hS : Sep w0 w [M0_0] Z) (hp0_0 : Own (Kd.int .i64) 3 M0_0 Mem.no p0_0 x0)
    (H : slices_Delete_sint_int.f x0 x1 x2 = some r) :
    Calls Try.prog 41 [p0_0, .int .i64 x1, .int .i64 x2].toArray w (Ret fun v w' => ∃ (u0 : Value) (N : Mem) (M0 : Mem), v = u0 ∧ Sep w0 w' [N, Mem.no, M0] Z ∧ Own (Kd.int .i64) 3 M0 Mem.no u0 r) := by
  unfold slices_Delete_sint_int.f at H
  refine f_enter _ Try.func41 rfl Try.ntmps41 rfl fun a hm => ?_
  replace hm : Fr 33 a [(0, p0_0), (1, .int .i64 x1), (2, .int .i64 x2)] := hm
  replace hS := hS.start
  replace hS : Sep w0 w [Mem.no, M0_0] Z := hS
  refine wp_seq ?_
  refine wp_region_lit ?_
  refine s_assign hm rfl rfl ?_
  clear hm a; intro a hm
  refine wpList_nil ?_
  replace hm : Fr 33 a [(0, p0_0), (1, .int .i64 x1), (2, .int .i64 x2), (6, .slice none 0 0)] := hm.keep [0, 1, 2, 6]
  refine x_then_n ?_
  refine wp_seq ?_
  refine wp_region_lit ?_
  refine s_move hm rfl rfl ?_
  clear hm a; intro a hm
  refine s_move hm rfl rfl ?_
  clear hm a; intro a hm
  refine s_move hm rfl rfl ?_
  clear hm a; intro a hm
  refine s_move hm rfl rfl ?_
  clear hm a; intro a hm
  refine s_lenO hm rfl Try.underlying22 rfl hp0_0 ?_
  clear hm a; intro a hm
  obtain ⟨u_1, eu_1, H⟩ := Option.bind_eq_some_iff.1 H
  refine s_slice3 hm rfl Try.underlying22 ti3 rfl rfl rfl rfl hp0_0 (must_some eu_1) ?_
  intro v_2
  clear hm a; intro a hm
  refine wpList_nil ?_
  replace hm : Fr 33 a [(0, p0_0), (1, .int .i64 x1), (2, .int .i64 x2), (6, .slice none 0 0)] := hm.keep [0, 1, 2, 6]
  refine x_then_n ?_
  refine c_seq fun KJ_3 hKJ_3 => ?_
  refine wp_seq ?_
  refine wp_region_lit ?_
  refine s_move hm rfl rfl ?_
  clear hm a; intro a hm
  refine s_move hm rfl rfl ?_
  clear hm a; intro a hm
  refine s_cmp (b := (x1 == x2)) hm rfl rfl rfl (.inl ⟨rfl, rfl⟩) ?_
  clear hm a; intro a hm
  refine wpList_nil ?_
  replace hm : Fr 33 a [(0, p0_0), (1, .int .i64 x1), (2, .int .i64 x2), (6, .slice none 0 0), (16, .bool (x1 == x2))] := hm.keep [0, 1, 2, 6, 16]
  refine x_then_n ?_
  by_cases hc_4 : x1 = x2
  · rw [if_pos hc_4] at H
    refine c_cond_t hm rfl (beq_iff_eq.2 hc_4) ?_
    refine wp_seq ?_
    refine wp_region_lit ?_
    refine s_move hm rfl rfl ?_
    clear hm a; intro a hm
    refine s_assign hm rfl rfl ?_
    clear hm a; intro a hm
    refine wpList_nil ?_
    replace hm : Fr 33 a [(0, p0_0), (1, .int .i64 x1), (2, .int .i64 x2), (6, p0_0)] := hm.keep [0, 1, 2, 6]
    refine x_then_n ?_
    refine wp_ret (x_then_r ?_)
    obtain rfl := Option.some.inj H
    exact f_ret hm (rs := [.tmp 6]) rfl (.tmp rfl .nil) ⟨_, rfl, p0_0, Mem.no, M0_0, rfl, (Sep.sel hS [0, 1000, 1] (by decide)), hp0_0⟩
  · rw [if_neg hc_4] at H
    refine c_cond_f hm rfl (beq_eq_false_iff_ne.2 hc_4) ?_
    refine wp_skip ?_
    refine x_then_n (hKJ_3 _ _ ?_)
    refine wp_seq ?_
    refine wp_region_lit ?_
    refine s_move hm rfl rfl ?_
    clear hm a; intro a hm
    refine s_lenO hm rfl Try.underlying22 rfl hp0_0 ?_
    clear hm a; intro a hm
    refine s_assign hm rfl rfl ?_
    clear hm a; intro a hm
    refine wpList_nil ?_
    replace hm : Fr 33 a [(0, p0_0), (1, .int .i64 x1), (2, .int .i64 x2), (6, .slice none 0 0), (7, .int .i64 (x0.length : Int))] := hm.keep [0, 1, 2, 6, 7]
    refine x_then_n ?_
    refine c_seq fun KJ_5 hKJ_5 => ?_
    refine h_begin (S := fun w => Sep w0 w [Mem.no, Mem.no] Z) 8 (by kernel_rfl) rfl [false, false, false, false, false, false, false, false].toArray rfl hS fun w_6 hS => ?_
    replace hS : Sep w0 w_6 [Mem.no, M0_0] Z := hS
    refine h_take 0 [true, false, false, false, false, false, false, false].toArray rfl (by kernel_rfl) (by kernel_rfl) (by kernel_rfl) (fun _ _ _ _ h => h) rfl rfl rfl rfl hm (hS.sub (.cons (Mem.le.refl _) (.cons (Mem.no_le _) (Sub.nil _)))) (v := p0_0) (fun w hS => r_move hm rfl) ?_
    clear hm a; intro a hm
    refine h_take 1 [true, true, false, false, false, false, false, false].toArray rfl (by kernel_rfl) (by kernel_rfl) (by kernel_rfl) (fun _ _ _ _ h => h) rfl rfl rfl rfl hm (hS.sub (.cons (Mem.le.refl _) (.cons (Mem.no_le _) (Sub.nil _)))) (v := .int .i64 x1) (fun w hS => r_move hm rfl) ?_
    clear hm a; intro a hm
    refine h_takeE 2 [true, true, true, false, false, false, false, false].toArray rfl (by kernel_rfl) (by kernel_rfl) (by kernel_rfl) (fun _ _ _ _ h => h) rfl rfl rfl rfl hm (hS.sub (.cons (Mem.le.refl _) (.cons (Mem.no_le _) (Sub.nil _)))) (f := fun v => v) (r_piece hm Try.underlying22 ti3 rfl rfl hp0_0 (hp0_0.room) rfl rfl (by have := (must_some eu_1); (try simp only [List.length_append, List.length_take, List.length_drop]); omega)) ?_
    intro v_7 hq_8
    clear hm a; intro a hm
    refine h_take 3 [true, true, true, true, false, false, false, false].toArray rfl (by kernel_rfl) (by kernel_rfl) (by kernel_rfl) (fun _ _ _ _ h => h) rfl rfl rfl rfl hm (hS.sub (.cons (Mem.le.refl _) (.cons (Mem.no_le _) (Sub.nil _)))) (v := p0_0) (fun w hS => r_move hm rfl) ?_
    clear hm a; intro a hm
    refine h_take 4 [true, true, true, true, true, false, false, false].toArray rfl (by kernel_rfl) (by kernel_rfl) (by kernel_rfl) (fun _ _ _ _ h => h) rfl rfl rfl rfl hm (hS.sub (.cons (Mem.le.refl _) (.cons (Mem.no_le _) (Sub.nil _)))) (v := .int .i64 x2) (fun w hS => r_move hm rfl) ?_
    clear hm a; intro a hm
    refine h_takeE 5 [true, true, true, true, true, true, false, false].toArray rfl (by kernel_rfl) (by kernel_rfl) (by kernel_rfl) (fun _ _ _ _ h => h) rfl rfl rfl rfl hm (hS.sub (.cons (Mem.le.refl _) (.cons (Mem.no_le _) (Sub.nil _)))) (f := fun v => v) (r_piece hm Try.underlying22 ti3 rfl rfl hp0_0 (hp0_0.room) rfl rfl (by have := (must_some eu_1); (try simp only [List.length_append, List.length_take, List.length_drop]); omega)) ?_
    intro v_9 hq_10
    clear hm a; intro a hm
    refine h_event 6 [true, true, true, true, true, true, true, false].toArray rfl (by kernel_rfl) rfl ?_
    refine s_appendP (p := 1) hm rfl Try.underlying22 ti3 rfl rfl rfl hp0_0 (by simpa using hq_8) hq_10 (by have := (must_some eu_1); omega) (by have := (must_some eu_1); omega) hS rfl ?_
    intro w_11 v_12 M_13 hS' ho_14 hr_15
    clear hm a; intro a hm
    replace hS : Sep w0 w_11 [Mem.no, M_13] Z := hS'
    clear hS'
    refine wpList_nil ?_
    refine x_then_n ⟨(hS.sub (.cons (Mem.le.refl _) (.cons (Mem.no_le _) (Sub.nil _)))), ?_⟩
    refine h_take 7 [true, true, true, true, true, true, true, true].toArray rfl (by kernel_rfl) (by kernel_rfl) (by kernel_rfl) (fun _ _ _ _ h => h) rfl rfl rfl rfl hm (hS.sub (.cons (Mem.le.refl _) (.cons (Mem.no_le _) (Sub.nil _)))) (v := v_12) (fun w hS => r_assign hm rfl) ?_
    clear hm a; intro a hm
    refine h_done (by kernel_rfl) ?_
    replace hm : Fr 33 a [(0, v_12), (6, .slice none 0 0), (7, .int .i64 (x0.length : Int))] := hm.keep [0, 6, 7]
    refine x_then_n (hKJ_5 _ _ ?_)
    refine wp_seq ?_
    refine wp_region_lit ?_
    refine s_move hm rfl rfl ?_
    clear hm a; intro a hm
    refine s_move hm rfl rfl ?_
    clear hm a; intro a hm
    refine s_lenO hm rfl Try.underlying22 rfl ho_14 ?_
    clear hm a; intro a hm
    refine s_move hm rfl rfl ?_
    clear hm a; intro a hm
    refine s_piece hm rfl Try.underlying22 ti3 rfl rfl ho_14 (hr_15) rfl rfl (by have := (must_some eu_1); (try simp only [List.length_append, List.length_take, List.length_drop]); omega) ?_
    intro v_17 hq_18
    clear hm a; intro a hm
    refine s_clearP (p := 1) hm Try.underlying22 ti3 rfl (by intro u hu; simp only [List.mem_cons, List.not_mem_nil, or_false] at hu; rcases hu with rfl <;> rfl) rfl ho_14 hq_18 (Nat.le_of_eq (Int.toNat_natCast _).symm) hS rfl ?_
    intro w_19 M_20 hS' ho_21
    replace hS : Sep w0 w_19 [Mem.no, M_20] Z := hS'
    clear hS'
    refine wpList_nil ?_
    replace hm : Fr 33 a [(0, v_12), (6, .slice none 0 0)] := hm.keep [0, 6]
    refine x_then_n ?_
    refine wp_seq ?_
    refine wp_region_lit ?_
    refine s_move hm rfl rfl ?_
    clear hm a; intro a hm
    refine s_assign hm rfl rfl ?_
    clear hm a; intro a hm
    refine wpList_nil ?_
    replace hm : Fr 33 a [(6, v_12)] := hm.keep [6]
    refine x_then_n ?_
    refine wp_ret ?_
    obtain rfl := Option.some.inj H
    exact f_ret hm (rs := [.tmp 6]) rfl (.tmp rfl .nil) ⟨_, rfl, v_12, Mem.no, M_20, rfl, (Sep.sel hS [0, 1000, 1] (by decide)), ho_21⟩

set_option maxHeartbeats 4000000 in
set_option maxRecDepth 20000 in
theorem lock_Free.calls (K : Nat) (x0 : List Int) (p0_0 : Value) (x1 : Int) (r : (List Int) × api_Result) (w0 w : World) (Z A : Mem) (hA : A.le Z) (hS : Sep w0 w [] Z) (hp0_0 : Rd (Kd.int .i64) A p0_0 x0)
    (H : lock_Free.f K x0 x1 = some r) :
    Calls Try.prog 12 [p0_0, .int .i64 x1].toArray w (Ret fun v w' => ∃ (u0 : Value) (u1 : Value) (N : Mem) (M0 : Mem) (M1 : Mem), v = .tuple [u0, .agg [.int .i64 r.2.Err, u1, .int .i64 r.2.N].toArray].toArray ∧ Sep w0 w' [N, M0, M1] Z ∧ Own (Kd.int .i64) 3 M0 Mem.no u0 r.1 ∧ Own Kd.u8 5 M1 Mem.no u1 r.2.Val) := by
  unfold lock_Free.f at H
  refine f_enter _ Try.func12 rfl Try.ntmps12 rfl fun a hm => ?_
  replace hm : Fr 30 a [(0, p0_0), (1, .int .i64 x1)] := hm
  replace hS := hS.start
  replace hS : Sep w0 w [Mem.no] Z := hS
  refine wp_seq ?_
  refine wp_region_lit ?_
  refine s_assign hm rfl rfl ?_
  clear hm a; intro a hm
  refine v_alloc hm rfl ti28 hS ?_
  intro w_1 g_2 hS'
  clear hm a; intro a hm
  replace hS : Sep w0 w_1 [Mem.no, Mem.one g_2 (.cells ([.int .i64 0, .slice none 0 0, .int .i64 0] : List Value).toArray 28 (0, 0))] Z := hS'
  clear hS'
  refine wpList_nil ?_
  replace hm : Fr 30 a [(0, p0_0), (1, .int .i64 x1), (4, .slice none 0 0), (5, .pointer (some ⟨g_2, 0, none⟩))] := hm.keep [0, 1, 4, 5]
  refine x_then_n ?_
  refine wp_seq ?_
  refine wp_region_lit ?_
  refine s_move hm rfl rfl ?_
  clear hm a; intro a hm
  obtain ⟨t_3, et_3, H⟩ := Option.bind_eq_some_iff.1 H
  refine s_call hm rfl Try.call39 rfl (slices_Clone_sint_int.calls x0 _ t_3 w0 _ _ _ (Mem.le.refl _) (hS.enter [] (by decide)) (hp0_0.mono (hA.trans (hS.le_zed []))) et_3) ?_
  rintro v_7 w_4 ⟨_, N_5, M_9, rfl, hS', hr_8⟩
  clear hm a; intro a hm
  obtain ⟨N_6, hS'', le_6, ln_6⟩ := hS.call [] (by decide) rfl (l' := []) (ow := [M_9]) rfl hS'
  replace hS : Sep w0 w_4 [N_6, Mem.one g_2 (.cells ([.int .i64 0, .slice none 0 0, .int .i64 0] : List Value).toArray 28 (0, 0)), M_9] Z := hS''
  clear hS' hS''
  refine s_assign hm rfl rfl ?_
  clear hm a; intro a hm
  refine wpList_nil ?_
  replace hm : Fr 30 a [(0, v_7), (1, .int .i64 x1), (4, .slice none 0 0), (5, .pointer (some ⟨g_2, 0, none⟩))] := hm.keep [0, 1, 4, 5]
  refine x_then_n ?_
  refine wp_seq ?_
  refine wp_region_lit ?_
  refine s_move hm rfl rfl ?_
  clear hm a; intro a hm
  refine s_move hm rfl rfl ?_
  clear hm a; intro a hm
  obtain ⟨t_11, et_11, H⟩ := Option.bind_eq_some_iff.1 H
  refine s_call hm rfl Try.call40 rfl (slices_Index_sint_int.calls K t_3 _ x1 t_11 w0 _ _ _ (Mem.le.refl _) (hS.enter [] (by decide)) (hr_8.rd (hS.own_zed [] 1 (by decide)) (Mem.no_le _)) et_11) ?_
  rintro _ w_12 ⟨N_13, rfl, hS'⟩
  clear hm a; intro a hm
  obtain ⟨N_14, hS'', le_14, ln_14⟩ := hS.call [] (by decide) rfl (l' := []) (ow := []) rfl hS'
  replace hS : Sep w0 w_12 [N_14, Mem.one g_2 (.cells ([.int .i64 0, .slice none 0 0, .int .i64 0] : List Value).toArray 28 (0, 0)), M_9] Z := hS''
  clear hS' hS''
  refine s_assign hm rfl rfl ?_
  clear hm a; intro a hm
  refine wpList_nil ?_
  replace hm : Fr 30 a [(0, v_7), (4, .slice none 0 0), (5, .pointer (some ⟨g_2, 0, none⟩)), (6, .int .i64 t_11)] := hm.keep [0, 4, 5, 6]
  refine x_then_n ?_
  refine c_seq fun KJ_15 hKJ_15 => ?_
  refine wp_seq ?_
  refine wp_region_lit ?_
  refine s_move hm rfl rfl ?_
  clear hm a; intro a hm
  refine s_cmp (b := decide (t_11 < 0)) hm rfl rfl rfl (.inr (.inr (.inl ⟨rfl, rfl⟩))) ?_
  clear hm a; intro a hm
  refine wpList_nil ?_
  replace hm : Fr 30 a [(0, v_7), (4, .slice none 0 0), (5, .pointer (some ⟨g_2, 0, none⟩)), (6, .int .i64 t_11), (13, .bool (decide (t_11 < 0)))] := hm.keep [0, 4, 5, 6, 13]
  refine x_then_n ?_
  by_cases hc_16 : t_11 < 0
  · rw [if_pos hc_16] at H
    refine c_cond_t hm rfl (decide_eq_true hc_16) ?_
    refine wp_seq ?_
    refine wp_region_lit ?_
    refine s_move hm rfl rfl ?_
    clear hm a; intro a hm
    refine s_build hm rfl ti28 pl28 rfl (.cons rfl .nil) (cs := [.int .i64 5, .slice none 0 0, .int .i64 0]) rfl ?_
    clear hm a; intro a hm
    refine s_assign hm rfl rfl ?_
    clear hm a; intro a hm
    obtain ⟨w_17, hs', hS'⟩ := hS.store (P := Try.prog) (p := 1) (o := 0) (t := 28) (v := .agg ([.int .i64 5, .slice none 0 0, .int .i64 0] : List Value).toArray) (vs := [.int .i64 5, .slice none 0 0, .int .i64 0]) rfl ti28 rfl rfl rfl (by intro u hu; simp only [List.mem_cons, List.not_mem_nil, or_false] at hu; rcases hu with rfl | rfl | rfl <;> rfl)
    refine s_store hm rfl rfl hs' ?_
    replace hS : Sep w0 w_17 [N_14, Mem.one g_2 (.cells ([.int .i64 5, .slice none 0 0, .int .i64 0] : List Value).toArray 28 (0, 0)), M_9] Z := hS'
    clear hs' hS'
    refine wpList_nil ?_
    replace hm : Fr 30 a [(0, v_7), (4, v_7), (5, .pointer (some ⟨g_2, 0, none⟩)), (6, .int .i64 t_11)] := hm.keep [0, 4, 5, 6]
    refine x_then_n ?_
    refine wp_ret (x_then_r ?_)
    have hS' := hS.room
    replace hS : Sep w0 w_17 [N_14, Mem.one g_2 (.cells ([.int .i64 5, .slice none 0 0, .int .i64 0] : List Value).toArray 28 (0, 0)), M_9, Mem.no] Z := hS'
    clear hS'
    replace hS : Sep w0 w_17 [N_14, Mem.one g_2 (.cells ([.int .i64 5, .slice none 0 0, .int .i64 0] : List Value).toArray 28 (0, 0)), M_9, Mem.no] Z := hS
    obtain rfl := Option.some.inj H
    exact f_ret hm (rs := [.tmp 4, .cell 5 28]) rfl (.tmp rfl (.cell rfl (hS.load_agg (p := 1) (us := [.int .i64 5, .slice none 0 0, .int .i64 0]) rfl Try.underlying28 rfl ti28 rfl rfl) .nil)) ⟨_, rfl, v_7, .slice none 0 0, N_14, M_9, Mem.no, rfl, (Sep.sel hS [0, 2, 3] (by decide)), hr_8, (Own.nil Kd.u8 5 Mem.no)⟩
  · rw [if_neg hc_16] at H
    refine c_cond_f hm rfl (decide_eq_false hc_16) ?_
    refine wp_skip ?_
    refine x_then_n (hKJ_15 _ _ ?_)
    refine wp_seq ?_
    refine wp_region_lit ?_
    refine s_move hm rfl rfl ?_
    clear hm a; intro a hm
    refine s_move hm rfl rfl ?_
    clear hm a; intro a hm
    refine s_move hm rfl rfl ?_
    clear hm a; intro a hm
    refine s_arith (r := w64 (t_11 + 1)) hm rfl rfl rfl (.inl ⟨rfl, rfl⟩) ?_
    clear hm a; intro a hm
    obtain ⟨t_19, et_19, H⟩ := Option.bind_eq_some_iff.1 H
    refine s_call hm rfl Try.call41 rfl (slices_Delete_sint_int.calls t_3 _ _ t_11 (w64 (t_11 + 1)) t_19 w0 _ _ _ (Mem.le.refl _) (hS.enter [1] (by decide)) hr_8 et_19) ?_
    rintro v_23 w_20 ⟨_, N_21, M_25, rfl, hS', hr_24⟩
    clear hm a; intro a hm
    obtain ⟨N_22, hS'', le_22, ln_22⟩ := hS.call [1] (by decide) rfl (l' := [Mem.no]) (ow := [M_25]) rfl hS'
    replace hS : Sep w0 w_20 [N_22, Mem.one g_2 (.cells ([.int .i64 0, .slice none 0 0, .int .i64 0] : List Value).toArray 28 (0, 0)), Mem.no, M_25] Z := hS''
    clear hS' hS''
    refine s_assign hm rfl rfl ?_
    clear hm a; intro a hm
    refine wpList_nil ?_
    replace hm : Fr 30 a [(0, v_23), (4, .slice none 0 0), (5, .pointer (some ⟨g_2, 0, none⟩))] := hm.keep [0, 4, 5]
    refine x_then_n ?_
    refine c_seq fun KJ_27 hKJ_27 => ?_
    refine wp_seq ?_
    refine wp_region_lit ?_
    refine s_move hm rfl rfl ?_
    clear hm a; intro a hm
    refine s_lenO hm rfl Try.underlying22 rfl hr_24 ?_
    clear hm a; intro a hm
    refine s_cmp (b := ((t_19.length : Int) == 0)) hm rfl rfl rfl (.inl ⟨rfl, rfl⟩) ?_
    clear hm a; intro a hm
    refine wpList_nil ?_
    replace hm : Fr 30 a [(0, v_23), (4, .slice none 0 0), (5, .pointer (some ⟨g_2, 0, none⟩)), (23, .bool ((t_19.length : Int) == 0))] := hm.keep [0, 4, 5, 23]
    refine x_then_n ?_
    by_cases hc_28 : (t_19.length : Int) = 0
    · rw [if_pos hc_28] at H
      refine c_cond_t hm rfl (beq_iff_eq.2 hc_28) ?_
      refine wp_seq ?_
      refine wp_region_lit ?_
      refine s_build hm rfl ti28 pl28 rfl (.cons rfl .nil) (cs := [.int .i64 0, .slice none 0 0, .int .i64 (-1)]) rfl ?_
      clear hm a; intro a hm
      refine s_assign hm rfl rfl ?_
      clear hm a; intro a hm
      obtain ⟨w_29, hs', hS'⟩ := hS.store (P := Try.prog) (p := 1) (o := 0) (t := 28) (v := .agg ([.int .i64 0, .slice none 0 0, .int .i64 (-1)] : List Value).toArray) (vs := [.int .i64 0, .slice none 0 0, .int .i64 (-1)]) rfl ti28 rfl rfl rfl (by intro u hu; simp only [List.mem_cons, List.not_mem_nil, or_false] at hu; rcases hu with rfl | rfl | rfl <;> rfl)
      refine s_store hm rfl rfl hs' ?_
      replace hS : Sep w0 w_29 [N_22, Mem.one g_2 (.cells ([.int .i64 0, .slice none 0 0, .int .i64 (-1)] : List Value).toArray 28 (0, 0)), Mem.no, M_25] Z := hS'
      clear hs' hS'
      refine wpList_nil ?_
      replace hm : Fr 30 a [(0, v_23), (4, .slice none 0 0), (5, .pointer (some ⟨g_2, 0, none⟩))] := hm.keep [0, 4, 5]
      refine x_then_n ?_
      refine wp_ret (x_then_r ?_)
      have hS' := hS.room
      replace hS : Sep w0 w_29 [N_22, Mem.one g_2 (.cells ([.int .i64 0, .slice none 0 0, .int .i64 (-1)] : List Value).toArray 28 (0, 0)), Mem.no, M_25, Mem.no] Z := hS'
      clear hS'
      have hS' := hS.room
      replace hS : Sep w0 w_29 [N_22, Mem.one g_2 (.cells ([.int .i64 0, .slice none 0 0, .int .i64 (-1)] : List Value).toArray 28 (0, 0)), Mem.no, M_25, Mem.no, Mem.no] Z := hS'
      clear hS'
      replace hS : Sep w0 w_29 [N_22, Mem.one g_2 (.cells ([.int .i64 0, .slice none 0 0, .int .i64 (-1)] : List Value).toArray 28 (0, 0)), Mem.no, M_25, Mem.no, Mem.no] Z := hS
      obtain rfl := Option.some.inj H
      exact f_ret hm (rs := [.tmp 4, .cell 5 28]) rfl (.tmp rfl (.cell rfl (hS.load_agg (p := 1) (us := [.int .i64 0, .slice none 0 0, .int .i64 (-1)]) rfl Try.underlying28 rfl ti28 rfl rfl) .nil)) ⟨_, rfl, .slice none 0 0, .slice none 0 0, N_22, Mem.no, Mem.no, rfl, (Sep.sel hS [0, 4, 5] (by decide)), (Own.nil (Kd.int .i64) 3 Mem.no), (Own.nil Kd.u8 5 Mem.no)⟩
    · rw [if_neg hc_28] at H
      refine c_cond_f hm rfl (beq_eq_false_iff_ne.2 hc_28) ?_
      refine wp_skip ?_
      refine x_then_n (hKJ_27 _ _ ?_)
      refine c_seq fun KJ_32 hKJ_32 => ?_
      refine h_begin (S := fun w => Sep w0 w [N_22, Mem.no, Mem.no, M_25] Z) 7 (by kernel_rfl) rfl [false, false, false, false, false, false, false].toArray rfl hS fun w_33 hS => ?_
      replace hS : Sep w0 w_33 [N_22, Mem.one g_2 (.cells ([.int .i64 0, .slice none 0 0, .int .i64 0] : List Value).toArray 28 (0, 0)), Mem.no, M_25] Z := hS
      refine h_take 0 [true, false, false, false, false, false, false].toArray rfl (by kernel_rfl) (by kernel_rfl) (by kernel_rfl) (fun _ _ _ _ h => h) rfl rfl rfl rfl hm (hS.sub (.cons (Mem.le.refl _) (.cons (Mem.no_le _) (.cons (Mem.no_le _) (.cons (Mem.le.refl _) (Sub.nil _)))))) (v := v_23) (fun w hS => r_move hm rfl) ?_
      clear hm a; intro a hm
      refine h_take 1 [true, true, false, false, false, false, false].toArray rfl (by kernel_rfl) (by kernel_rfl) (by kernel_rfl) (fun _ _ _ _ h => h) rfl rfl rfl rfl hm (hS.sub (.cons (Mem.le.refl _) (.cons (Mem.no_le _) (.cons (Mem.no_le _) (.cons (Mem.le.refl _) (Sub.nil _)))))) (v := v_23) (fun w hS => r_move hm rfl) ?_
      clear hm a; intro a hm
      obtain ⟨t_34, et_34, H⟩ := Option.bind_eq_some_iff.1 H
      refine h_takeE 2 [true, true, true, false, false, false, false].toArray rfl (by kernel_rfl) (by kernel_rfl) (by kernel_rfl) (fun _ _ _ _ h => h) rfl rfl rfl rfl hm (hS.sub (.cons (Mem.le.refl _) (.cons (Mem.no_le _) (.cons (Mem.no_le _) (.cons (Mem.le.refl _) (Sub.nil _)))))) (f := fun ad => .pointer (some ad)) (r_indexO hm Try.underlying22 ti3 rfl rfl rfl hr_24 et_34) ?_
      rintro ad_35 ⟨cs_36, hk_37, hc_38⟩
      obtain rfl := (show cs_36 = [.int .i64 t_34] from hk_37)
      clear hm a; intro a hm
      refine h_take 3 [true, true, true, true, false, false, false].toArray rfl (by kernel_rfl) (by kernel_rfl) (by kernel_rfl) (fun _ _ _ _ h => h) rfl rfl rfl rfl hm (hS.sub (.cons (Mem.le.refl _) (.cons (Mem.no_le _) (.cons (Mem.no_le _) (.cons (Mem.le.refl _) (Sub.nil _)))))) (v := .int .i64 t_34) (fun w hS => r_load hm rfl (el_one (o := 0) (fun j c h => Mem.cell_le (hS.own 3) (hc_38 j c h)) Try.underlying3 rfl rfl)) ?_
      clear hm a; intro a hm
      refine h_take 4 [true, true, true, true, true, false, false].toArray rfl (by kernel_rfl) (by kernel_rfl) (by kernel_rfl) (fun _ _ _ _ h => h) rfl rfl rfl rfl hm (hS.sub (.cons (Mem.le.refl _) (.cons (Mem.no_le _) (.cons (Mem.no_le _) (.cons (Mem.le.refl _) (Sub.nil _)))))) (v := .agg ([.int .i64 0, .slice none 0 0, .int .i64 t_34] : List Value).toArray) (fun w hS => r_build hm ti28 pl28 rfl (.cons rfl .nil) (cs := [.int .i64 0, .slice none 0 0, .int .i64 t_34]) rfl) ?_
      clear hm a; intro a hm
      refine h_take 5 [true, true, true, true, true, true, false].toArray rfl (by kernel_rfl) (by kernel_rfl) (by kernel_rfl) (fun _ _ _ _ h => h) rfl rfl rfl rfl hm (hS.sub (.cons (Mem.le.refl _) (.cons (Mem.no_le _) (.cons (Mem.no_le _) (.cons (Mem.le.refl _) (Sub.nil _)))))) (v := v_23) (fun w hS => r_assign hm rfl) ?_
      clear hm a; intro a hm
      refine h_event 6 [true, true, true, true, true, true, true].toArray rfl (by kernel_rfl) rfl ?_
      obtain ⟨w_39, hs', hS'⟩ := hS.store (P := Try.prog) (p := 1) (o := 0) (t := 28) (v := .agg ([.int .i64 0, .slice none 0 0, .int .i64 t_34] : List Value).toArray) (vs := [.int .i64 0, .slice none 0 0, .int .i64 t_34]) rfl ti28 rfl rfl rfl (by intro u hu; simp only [List.mem_cons, List.not_mem_nil, or_false] at hu; rcases hu with rfl | rfl | rfl <;> rfl)
      refine s_store hm rfl rfl hs' ?_
      replace hS : Sep w0 w_39 [N_22, Mem.one g_2 (.cells ([.int .i64 0, .slice none 0 0, .int .i64 t_34] : List Value).toArray 28 (0, 0)), Mem.no, M_25] Z := hS'
      clear hs' hS'
      refine wpList_nil ?_
      refine x_then_n ⟨(hS.sub (.cons (Mem.le.refl _) (.cons (Mem.no_le _) (.cons (Mem.no_le _) (.cons (Mem.le.refl _) (Sub.nil _)))))), ?_⟩
      refine h_done (by kernel_rfl) ?_
      replace hm : Fr 30 a [(4, v_23), (5, .pointer (some ⟨g_2, 0, none⟩))] := hm.keep [4, 5]
      refine x_then_n (hKJ_32 _ _ ?_)
      refine wp_ret ?_
      have hS' := hS.room
      replace hS : Sep w0 w_39 [N_22, Mem.one g_2 (.cells ([.int .i64 0, .slice none 0 0, .int .i64 t_34] : List Value).toArray 28 (0, 0)), Mem.no, M_25, Mem.no] Z := hS'
      clear hS'
      replace hS : Sep w0 w_39 [N_22, Mem.one g_2 (.cells ([.int .i64 0, .slice none 0 0, .int .i64 t_34] : List Value).toArray 28 (0, 0)), Mem.no, M_25, Mem.no] Z := hS
      obtain rfl := Option.some.inj H
      exact f_ret hm (rs := [.tmp 4, .cell 5 28]) rfl (.tmp rfl (.cell rfl (hS.load_agg (p := 1) (us := [.int .i64 0, .slice none 0 0, .int .i64 t_34]) rfl Try.underlying28 rfl ti28 rfl rfl) .nil)) ⟨_, rfl, v_23, .slice none 0 0, N_22, M_25, Mem.no, rfl, (Sep.sel hS [0, 3, 4] (by decide)), hr_24, (Own.nil Kd.u8 5 Mem.no)⟩

set_option maxHeartbeats 4000000 in
theorem slices_Clip_sint_int.calls (v : Value) (w : World) (hf : ∃ A l c, v = .slice A l c ∧ l ≤ c) : Calls Try.prog 42 [v].toArray w (Ret fun u w' => w = w' ∧ Clipped v u) := by
  obtain ⟨A, l, c, rfl, hlc⟩ := hf
  refine f_enter _ Try.func42 rfl Try.ntmps42 rfl fun a hm => ?_
  replace hm : Fr 9 a [(0, .slice A l c)] := hm
  refine wp_seq ?_
  refine wp_region_lit ?_
  refine s_assign hm rfl rfl ?_
  clear hm a; intro a hm
  refine wpList_nil ?_
  refine x_then_n ?_
  refine wp_seq ?_
  refine wp_region_lit ?_
  refine s_move hm rfl rfl ?_
  clear hm a; intro a hm
  refine s_move hm rfl rfl ?_
  clear hm a; intro a hm
  refine s_lenV hm rfl Try.underlying22 rfl ?_
  clear hm a; intro a hm
  refine s_move hm rfl rfl ?_
  clear hm a; intro a hm
  refine s_lenV hm rfl Try.underlying22 rfl ?_
  clear hm a; intro a hm
  refine s_clip hm rfl Try.underlying22 ti3 rfl rfl rfl hlc ?_
  clear hm a; intro a hm
  refine s_assign hm rfl rfl ?_
  clear hm a; intro a hm
  refine wpList_nil ?_
  refine x_then_n ?_
  refine wp_ret ?_
  exact f_ret hm (rs := [.tmp 2]) rfl (.tmp rfl .nil) ⟨_, rfl, rfl, A, l, c, rfl, rfl⟩

set_option maxHeartbeats 4000000 in
set_option maxRecDepth 20000 in
theorem slices_Contains_sint_int.calls (K : Nat) (x0 : List Int) (p0_0 : Value) (x1 : Int) (r : Bool) (w0 w : World) (Z A : Mem) (hA : A.le Z) (hS : Sep w0 w [] Z) (hp0_0 : Rd (Kd.int .i64) A p0_0 x0)
    (H : slices_Contains_sint_int.f K x0 x1 = some r) :
    Calls Try.prog 43 [p0_0, .int .i64 x1].toArray w (Ret fun v w' => ∃ (N : Mem), v = .bool r ∧ Sep w0 w' [N] Z) := by
  unfold slices_Contains_sint_int.f at H
  refine f_enter _ Try.func43 rfl Try.ntmps43 rfl fun a hm => ?_
  replace hm : Fr 9 a [(0, p0_0), (1, .int .i64 x1)] := hm
  replace hS := hS.start
  replace hS : Sep w0 w [Mem.no] Z := hS
  refine wp_seq ?_
  refine wp_region_lit ?_
  refine s_assign hm rfl rfl ?_
  clear hm a; intro a hm
  refine wpList_nil ?_
  replace hm : Fr 9 a [(0, p0_0), (1, .int .i64 x1), (4, .bool false)] := hm.keep [0, 1, 4]
  refine x_then_n ?_
  refine wp_seq ?_
  refine wp_region_lit ?_
  refine s_move hm rfl rfl ?_
  clear hm a; intro a hm
  refine s_move hm rfl rfl ?_
  clear hm a; intro a hm
  obtain ⟨t_1, et_1, H⟩ := Option.bind_eq_some_iff.1 H
  refine s_call hm rfl Try.call40 rfl (slices_Index_sint_int.calls K x0 _ x1 t_1 w0 _ _ _ (Mem.le.refl _) (hS.enter [] (by decide)) (hp0_0.mono (hA.trans (hS.le_zed []))) et_1) ?_
  rintro _ w_2 ⟨N_3, rfl, hS'⟩
  clear hm a; intro a hm
  obtain ⟨N_4, hS'', le_4, ln_4⟩ := hS.call [] (by decide) rfl (l' := []) (ow := []) rfl hS'
  replace hS : Sep w0 w_2 [N_4] Z := hS''
  clear hS' hS''
  refine s_cmp (b := decide (t_1 ≥ 0)) hm rfl rfl rfl (.inr (.inr (.inr (.inr (.inr ⟨rfl, rfl⟩))))) ?_
  clear hm a; intro a hm
  refine s_assign hm rfl rfl ?_
  clear hm a; intro a hm
  refine wpList_nil ?_
  replace hm : Fr 9 a [(4, .bool (decide (t_1 ≥ 0)))] := hm.keep [4]
  refine x_then_n ?_
  refine wp_ret ?_
  obtain rfl := Option.some.inj H
  exact f_ret hm (rs := [.tmp 4]) rfl (.tmp rfl .nil) ⟨_, rfl, N_4, rfl, (Sep.sel hS [0] (by decide))⟩

set_option maxHeartbeats 4000000 in
set_option maxRecDepth 20000 in
theorem lock_Take.calls (K : Nat) (x0 : List Int) (p0_0 : Value) (x1 : Int) (r : (List Int) × api_Result) (w0 w : World) (Z A : Mem) (hA : A.le Z) (hS : Sep w0 w [] Z) (hp0_0 : Rd (Kd.int .i64) A p0_0 x0)
    (H : lock_Take.f K x0 x1 = some r) :
    Calls Try.prog 13 [p0_0, .int .i64 x1].toArray w (Ret fun v w' => ∃ (u0 : Value) (u1 : Value) (N : Mem) (M0 : Mem) (M1 : Mem), v = .tuple [u0, .agg [.int .i64 r.2.Err, u1, .int .i64 r.2.N].toArray].toArray ∧ Sep w0 w' [N, M0, M1] Z ∧ Own (Kd.int .i64) 3 M0 Mem.no u0 r.1 ∧ Own Kd.u8 5 M1 Mem.no u1 r.2.Val) := by
  unfold lock_Take.f at H
  refine f_enter _ Try.func13 rfl Try.ntmps13 rfl fun a hm => ?_
  replace hm : Fr 28 a [(0, p0_0), (1, .int .i64 x1)] := hm
  replace hS := hS.start
  replace hS : Sep w0 w [Mem.no] Z := hS
  refine wp_seq ?_
  refine wp_region_lit ?_
  refine s_assign hm rfl rfl ?_
  clear hm a; intro a hm
  refine v_alloc hm rfl ti28 hS ?_
  intro w_1 g_2 hS'
  clear hm a; intro a hm
  replace hS : Sep w0 w_1 [Mem.no, Mem.one g_2 (.cells ([.int .i64 0, .slice none 0 0, .int .i64 0] : List Value).toArray 28 (0, 0))] Z := hS'
  clear hS'
  refine wpList_nil ?_
  replace hm : Fr 28 a [(0, p0_0), (1, .int .i64 x1), (4, .slice none 0 0), (5, .pointer (some ⟨g_2, 0, none⟩))] := hm.keep [0, 1, 4, 5]
  refine x_then_n ?_
  refine wp_seq ?_
  refine wp_region_lit ?_
  refine s_move hm rfl rfl ?_
  clear hm a; intro a hm
  obtain ⟨t_3, et_3, H⟩ := Option.bind_eq_some_iff.1 H
  refine s_call hm rfl Try.call39 rfl (slices_Clone_sint_int.calls x0 _ t_3 w0 _ _ _ (Mem.le.refl _) (hS.enter [] (by decide)) (hp0_0.mono (hA.trans (hS.le_zed []))) et_3) ?_
  rintro v_7 w_4 ⟨_, N_5, M_9, rfl, hS', hr_8⟩
  clear hm a; intro a hm
  obtain ⟨N_6, hS'', le_6, ln_6⟩ := hS.call [] (by decide) rfl (l' := []) (ow := [M_9]) rfl hS'
  replace hS : Sep w0 w_4 [N_6, Mem.one g_2 (.cells ([.int .i64 0, .slice none 0 0, .int .i64 0] : List Value).toArray 28 (0, 0)), M_9] Z := hS''
  clear hS' hS''
  refine s_call hm rfl Try.call42 rfl (slices_Clip_sint_int.calls _ _ hr_8.slform) ?_
  rintro v_11 _ ⟨rfl, hk_12⟩
  clear hm a; intro a hm
  refine s_assign hm rfl rfl ?_
  clear hm a; intro a hm
  refine wpList_nil ?_
  replace hm : Fr 28 a [(0, v_11), (1, .int .i64 x1), (4, .slice none 0 0), (5, .pointer (some ⟨g_2, 0, none⟩))] := hm.keep [0, 1, 4, 5]
  refine x_then_n ?_
  refine c_seq fun KJ_14 hKJ_14 => ?_
  refine c_block ?_
  refine wp_seq ?_
  refine wp_region_lit ?_
  refine s_move hm rfl rfl ?_
  clear hm a; intro a hm
  refine s_move hm rfl rfl ?_
  clear hm a; intro a hm
  obtain ⟨t_15, et_15, H⟩ := Option.bind_eq_some_iff.1 H
  refine s_call hm rfl Try.call43 rfl (slices_Contains_sint_int.calls K t_3 _ x1 t_15 w0 _ _ _ (Mem.le.refl _) (hS.enter [] (by decide)) ((hr_8.clip hk_12).rd (hS.own_zed [] 1 (by decide)) (Mem.no_le _)) et_15) ?_
  rintro _ w_16 ⟨N_17, rfl, hS'⟩
  clear hm a; intro a hm
  obtain ⟨N_18, hS'', le_18, ln_18⟩ := hS.call [] (by decide) rfl (l' := []) (ow := []) rfl hS'
  replace hS : Sep w0 w_16 [N_18, Mem.one g_2 (.cells ([.int .i64 0, .slice none 0 0, .int .i64 0] : List Value).toArray 28 (0, 0)), M_9] Z := hS''
  clear hS' hS''
  refine s_assign hm rfl rfl ?_
  clear hm a; intro a hm
  refine wpList_nil ?_
  replace hm : Fr 28 a [(0, v_11), (1, .int .i64 x1), (4, .slice none 0 0), (5, .pointer (some ⟨g_2, 0, none⟩)), (9, .bool t_15)] := hm.keep [0, 1, 4, 5, 9]
  refine x_then_n ?_
  by_cases hc_19 : t_15 = true
  · rw [if_pos hc_19] at H
    refine c_cond_t hm rfl hc_19 ?_
    refine wp_seq ?_
    refine wp_region_lit ?_
    refine s_move hm rfl rfl ?_
    clear hm a; intro a hm
    refine s_build hm rfl ti28 pl28 rfl (.cons rfl .nil) (cs := [.int .i64 6, .slice none 0 0, .int .i64 0]) rfl ?_
    clear hm a; intro a hm
    refine s_assign hm rfl rfl ?_
    clear hm a; intro a hm
    obtain ⟨w_20, hs', hS'⟩ := hS.store (P := Try.prog) (p := 1) (o := 0) (t := 28) (v := .agg ([.int .i64 6, .slice none 0 0, .int .i64 0] : List Value).toArray) (vs := [.int .i64 6, .slice none 0 0, .int .i64 0]) rfl ti28 rfl rfl rfl (by intro u hu; simp only [List.mem_cons, List.not_mem_nil, or_false] at hu; rcases hu with rfl | rfl | rfl <;> rfl)
    refine s_store hm rfl rfl hs' ?_
    replace hS : Sep w0 w_20 [N_18, Mem.one g_2 (.cells ([.int .i64 6, .slice none 0 0, .int .i64 0] : List Value).toArray 28 (0, 0)), M_9] Z := hS'
    clear hs' hS'
    refine wpList_nil ?_
    replace hm : Fr 28 a [(0, v_11), (1, .int .i64 x1), (4, v_11), (5, .pointer (some ⟨g_2, 0, none⟩))] := hm.keep [0, 1, 4, 5]
    refine x_then_n ?_
    refine wp_ret (x_block_r (x_then_r ?_))
    have hS' := hS.room
    replace hS : Sep w0 w_20 [N_18, Mem.one g_2 (.cells ([.int .i64 6, .slice none 0 0, .int .i64 0] : List Value).toArray 28 (0, 0)), M_9, Mem.no] Z := hS'
    clear hS'
    replace hS : Sep w0 w_20 [N_18, Mem.one g_2 (.cells ([.int .i64 6, .slice none 0 0, .int .i64 0] : List Value).toArray 28 (0, 0)), M_9, Mem.no] Z := hS
    obtain rfl := Option.some.inj H
    exact f_ret hm (rs := [.tmp 4, .cell 5 28]) rfl (.tmp rfl (.cell rfl (hS.load_agg (p := 1) (us := [.int .i64 6, .slice none 0 0, .int .i64 0]) rfl Try.underlying28 rfl ti28 rfl rfl) .nil)) ⟨_, rfl, v_11, .slice none 0 0, N_18, M_9, Mem.no, rfl, (Sep.sel hS [0, 2, 3] (by decide)), (hr_8.clip hk_12), (Own.nil Kd.u8 5 Mem.no)⟩
  · rw [if_neg hc_19] at H
    refine c_cond_f hm rfl (Bool.eq_false_iff.2 hc_19) ?_
    refine wp_seq ?_
    refine wp_region_lit ?_
    refine s_move hm rfl rfl ?_
    clear hm a; intro a hm
    refine s_lenO hm rfl Try.underlying22 rfl (hr_8.clip hk_12) ?_
    clear hm a; intro a hm
    refine s_cmp (b := decide ((t_3.length : Int) ≥ 5)) hm rfl rfl rfl (.inr (.inr (.inr (.inr (.inr ⟨rfl, rfl⟩))))) ?_
    clear hm a; intro a hm
    refine s_assign hm rfl rfl ?_
    clear hm a; intro a hm
    refine wpList_nil ?_
    replace hm : Fr 28 a [(0, v_11), (1, .int .i64 x1), (4, .slice none 0 0), (5, .pointer (some ⟨g_2, 0, none⟩)), (15, .bool (decide ((t_3.length : Int) ≥ 5)))] := hm.keep [0, 1, 4, 5, 15]
    refine x_then_n ?_
    by_cases hc_22 : (t_3.length : Int) ≥ 5
    · rw [if_pos hc_22] at H
      refine c_cond_t hm rfl (decide_eq_true hc_22) ?_
      refine wp_seq ?_
      refine wp_region_lit ?_
      refine s_move hm rfl rfl ?_
      clear hm a; intro a hm
      refine s_build hm rfl ti28 pl28 rfl (.cons rfl .nil) (cs := [.int .i64 3, .slice none 0 0, .int .i64 0]) rfl ?_
      clear hm a; intro a hm
      refine s_assign hm rfl rfl ?_
      clear hm a; intro a hm
      obtain ⟨w_23, hs', hS'⟩ := hS.store (P := Try.prog) (p := 1) (o := 0) (t := 28) (v := .agg ([.int .i64 3, .slice none 0 0, .int .i64 0] : List Value).toArray) (vs := [.int .i64 3, .slice none 0 0, .int .i64 0]) rfl ti28 rfl rfl rfl (by intro u hu; simp only [List.mem_cons, List.not_mem_nil, or_false] at hu; rcases hu with rfl | rfl | rfl <;> rfl)
      refine s_store hm rfl rfl hs' ?_
      replace hS : Sep w0 w_23 [N_18, Mem.one g_2 (.cells ([.int .i64 3, .slice none 0 0, .int .i64 0] : List Value).toArray 28 (0, 0)), M_9] Z := hS'
      clear hs' hS'
      refine wpList_nil ?_
      replace hm : Fr 28 a [(0, v_11), (1, .int .i64 x1), (4, v_11), (5, .pointer (some ⟨g_2, 0, none⟩))] := hm.keep [0, 1, 4, 5]
      refine x_then_n ?_
      refine wp_ret (x_block_r (x_then_r ?_))
      have hS' := hS.room
      replace hS : Sep w0 w_23 [N_18, Mem.one g_2 (.cells ([.int .i64 3, .slice none 0 0, .int .i64 0] : List Value).toArray 28 (0, 0)), M_9, Mem.no] Z := hS'
      clear hS'
      replace hS : Sep w0 w_23 [N_18, Mem.one g_2 (.cells ([.int .i64 3, .slice none 0 0, .int .i64 0] : List Value).toArray 28 (0, 0)), M_9, Mem.no] Z := hS
      obtain rfl := Option.some.inj H
      exact f_ret hm (rs := [.tmp 4, .cell 5 28]) rfl (.tmp rfl (.cell rfl (hS.load_agg (p := 1) (us := [.int .i64 3, .slice none 0 0, .int .i64 0]) rfl Try.underlying28 rfl ti28 rfl rfl) .nil)) ⟨_, rfl, v_11, .slice none 0 0, N_18, M_9, Mem.no, rfl, (Sep.sel hS [0, 2, 3] (by decide)), (hr_8.clip hk_12), (Own.nil Kd.u8 5 Mem.no)⟩
    · rw [if_neg hc_22] at H
      refine c_cond_f hm rfl (decide_eq_false hc_22) ?_
      refine wp_skip ?_
      refine x_block_n ?_
      refine x_then_n (hKJ_14 _ _ ?_)
      refine wp_seq ?_
      refine wp_region_lit ?_
      refine s_move hm rfl rfl ?_
      clear hm a; intro a hm
      refine s_move hm rfl rfl ?_
      clear hm a; intro a hm
      have hq_29 : Reps (Kd.int .i64) Mem.no ([x1] : List Int) _ := ((Reps.one (d := (Kd.int .i64)) (x := x1) (show (Kd.int .i64).K _ _ [.int .i64 x1] from rfl)).append (Reps.nil (Kd.int .i64) _))
      refine s_buildSlice hm rfl Try.underlying22 ti3 rfl rfl rfl (.cons rfl .nil) rfl rfl rfl hS hq_29 rfl ?_
      intro w_25 v_26 M_27 hS' ho_28
      clear hm a; intro a hm
      replace hS : Sep w0 w_25 [N_18, Mem.one g_2 (.cells ([.int .i64 0, .slice none 0 0, .int .i64 0] : List Value).toArray 28 (0, 0)), M_9, M_27] Z := hS'
      clear hS' hq_29
      obtain ⟨t_31, et_31, H⟩ := Option.bind_eq_some_iff.1 H
      refine s_append (J := Mem.no) (I' := Mem.no) (p := 2) 17592186044416 hm rfl rfl rfl Try.underlying22 ti3 rfl rfl rfl rfl hS rfl (hr_8.clip hk_12) (Src.flat (flat_int .i64) (ho_28.src (hS.own 3))) (Mem.le.refl _) (Mem.le.refl _) et_31 ?_
      intro w_32 v_33 M_34 hS' ho_35
      clear hm a; intro a hm
      replace hS : Sep w0 w_32 [N_18, Mem.one g_2 (.cells ([.int .i64 0, .slice none 0 0, .int .i64 0] : List Value).toArray 28 (0, 0)), M_34, M_27] Z := hS'
      clear hS'
      refine s_move hm rfl rfl ?_
      clear hm a; intro a hm
      refine s_lenO hm rfl Try.underlying22 rfl (hr_8.clip hk_12) ?_
      clear hm a; intro a hm
      refine s_build hm rfl ti28 pl28 rfl (.cons rfl .nil) (cs := [.int .i64 0, .slice none 0 0, .int .i64 (t_3.length : Int)]) rfl ?_
      clear hm a; intro a hm
      refine s_assign hm rfl rfl ?_
      clear hm a; intro a hm
      obtain ⟨w_37, hs', hS'⟩ := hS.store (P := Try.prog) (p := 1) (o := 0) (t := 28) (v := .agg ([.int .i64 0, .slice none 0 0, .int .i64 (t_3.length : Int)] : List Value).toArray) (vs := [.int .i64 0, .slice none 0 0, .int .i64 (t_3.length : Int)]) rfl ti28 rfl rfl rfl (by intro u hu; simp only [List.mem_cons, List.not_mem_nil, or_false] at hu; rcases hu with rfl | rfl | rfl <;> rfl)
      refine s_store hm rfl rfl hs' ?_
      replace hS : Sep w0 w_37 [N_18, Mem.one g_2 (.cells ([.int .i64 0, .slice none 0 0, .int .i64 (t_3.length : Int)] : List Value).toArray 28 (0, 0)), M_34, M_27] Z := hS'
      clear hs' hS'
      refine wpList_nil ?_
      replace hm : Fr 28 a [(4, v_33), (5, .pointer (some ⟨g_2, 0, none⟩))] := hm.keep [4, 5]
      refine x_then_n ?_
      refine wp_ret ?_
      have hS' := hS.room
      replace hS : Sep w0 w_37 [N_18, Mem.one g_2 (.cells ([.int .i64 0, .slice none 0 0, .int .i64 (t_3.length : Int)] : List Value).toArray 28 (0, 0)), M_34, M_27, Mem.no] Z := hS'
      clear hS'
      replace hS : Sep w0 w_37 [N_18, Mem.one g_2 (.cells ([.int .i64 0, .slice none 0 0, .int .i64 (t_3.length : Int)] : List Value).toArray 28 (0, 0)), M_34, M_27, Mem.no] Z := hS
      obtain rfl := Option.some.inj H
      exact f_ret hm (rs := [.tmp 4, .cell 5 28]) rfl (.tmp rfl (.cell rfl (hS.load_agg (p := 1) (us := [.int .i64 0, .slice none 0 0, .int .i64 (t_3.length : Int)]) rfl Try.underlying28 rfl ti28 rfl rfl) .nil)) ⟨_, rfl, v_33, .slice none 0 0, N_18, M_34, Mem.no, rfl, (Sep.sel hS [0, 2, 4] (by decide)), ho_35, (Own.nil Kd.u8 5 Mem.no)⟩

set_option maxHeartbeats 4000000 in
set_option maxRecDepth 20000 in
theorem hocketref1_SameInts.calls (K : Nat) (x0 : List Int) (p0_0 : Value) (x1 : List Int) (p1_1 : Value) (r : Bool) (w0 w : World) (Z A : Mem) (hA : A.le Z) (hS : Sep w0 w [] Z) (hp0_0 : Rd (Kd.int .i64) A p0_0 x0) (hp1_1 : Rd (Kd.int .i64) A p1_1 x1)
    (H : hocketref1_SameInts.f K x0 x1 = some r) :
    Calls Try.prog 14 [p0_0, p1_1].toArray w (Ret fun v w' => ∃ (N : Mem), v = .bool r ∧ Sep w0 w' [N] Z) := by
  unfold hocketref1_SameInts.f at H
  refine f_enter _ Try.func14 rfl Try.ntmps14 rfl fun a hm => ?_
  replace hm : Fr 26 a [(0, p0_0), (1, p1_1)] := hm
  replace hS := hS.start
  replace hS : Sep w0 w [Mem.no] Z := hS
  refine wp_seq ?_
  refine wp_region_lit ?_
  refine s_assign hm rfl rfl ?_
  clear hm a; intro a hm
  refine wpList_nil ?_
  replace hm : Fr 26 a [(0, p0_0), (1, p1_1), (4, .bool false)] := hm.keep [0, 1, 4]
  refine x_then_n ?_
  refine c_seq fun KJ_1 hKJ_1 => ?_
  refine wp_seq ?_
  refine wp_region_lit ?_
  refine s_move hm rfl rfl ?_
  clear hm a; intro a hm
  refine s_len hm rfl Try.underlying22 rfl hp0_0 ?_
  clear hm a; intro a hm
  refine s_move hm rfl rfl ?_
  clear hm a; intro a hm
  refine s_len hm rfl Try.underlying22 rfl hp1_1 ?_
  clear hm a; intro a hm
  refine s_cmp (b := ((x0.length : Int) != (x1.length : Int))) hm rfl rfl rfl (.inr (.inl ⟨rfl, rfl⟩)) ?_
  clear hm a; intro a hm
  refine wpList_nil ?_
  replace hm : Fr 26 a [(0, p0_0), (1, p1_1), (4, .bool false), (10, .bool ((x0.length : Int) != (x1.length : Int)))] := hm.keep [0, 1, 4, 10]
  refine x_then_n ?_
  by_cases hc_2 : (x0.length : Int) = (x1.length : Int)
  · rw [if_pos hc_2] at H
    refine c_cond_f hm rfl (bne_eq_false_iff_eq.2 hc_2) ?_
    refine wp_skip ?_
    refine x_then_n (hKJ_1 _ _ ?_)
    refine c_seq fun KJ_3 hKJ_3 => ?_
    refine wp_seq ?_
    refine wp_region_lit ?_
    refine s_assign hm rfl rfl ?_
    clear hm a; intro a hm
    refine wpList_nil ?_
    replace hm : Fr 26 a [(0, p0_0), (1, p1_1), (4, .bool false), (5, .int .i64 0)] := hm.keep [0, 1, 4, 5]
    refine x_then_n ?_
    have hJ_j_6 : hocketref1_SameInts.J1 K = some r → ∀ (a : Act) (w_5 : World), (∃ (N_4 : Mem), Fr 26 a [(4, .bool false)] ∧ Sep w0 w_5 [N_4] Z ∧ Mem.no.le N_4) → KJ_3 a w_5 := by
      clear H hm hS a
      rintro H a w_5 ⟨N_4, hm, hS, le_4⟩
      unfold hocketref1_SameInts.J1 at H
      refine hKJ_3 _ _ ?_
      refine wp_seq ?_
      refine wp_region_lit ?_
      refine s_assign hm rfl rfl ?_
      clear hm a; intro a hm
      refine wpList_nil ?_
      replace hm : Fr 26 a [(4, .bool true)] := hm.keep [4]
      refine x_then_n ?_
      refine wp_ret ?_
      obtain rfl := Option.some.inj H
      exact f_ret hm (rs := [.tmp 4]) rfl (.tmp rfl .nil) ⟨_, rfl, N_4, rfl, (Sep.sel hS [0] (by decide))⟩
    clear hKJ_3
    replace hS : Sep w0 w [Mem.no] Z := hS
    replace hm : Fr 26 a [(0, p0_0), (1, p1_1), (4, .bool false), (5, .int .i64 0)] := hm.keep [0, 1, 4, 5]
    refine c_block ?_
    refine c_loop (fun k_9 a w_9 => ∃ (x_8 : Int) (N_7 : Mem), hocketref1_SameInts.L1 K x0 x1 (fun v => hocketref1_SameInts.J1 K) k_9 x_8 = some r ∧ Fr 26 a [(0, p0_0), (1, p1_1), (4, .bool false), (5, .int .i64 x_8)] ∧ Sep w0 w_9 [N_7] Z ∧ Mem.no.le N_7) K ⟨0, Mem.no, H, hm, (Sep.sel hS [0] (by decide)), (Mem.le.refl _)⟩ (fun a w h => by obtain ⟨_, _, H, _⟩ := h; cases (show (none : Option (Bool)) = some r from H)) ?_
    clear hm hS a H
    rintro k_9 a w_9 KL_9 hKL_9 ⟨x_8, N_7, H, hm, hS, le_7⟩
    replace H : hocketref1_SameInts.B1 K x0 x1 (fun v => hocketref1_SameInts.J1 K) (hocketref1_SameInts.L1 K x0 x1 (fun v => hocketref1_SameInts.J1 K) k_9) x_8 = some r := H
    unfold hocketref1_SameInts.B1 at H
    refine c_seq fun KJ_11 hKJ_11 => ?_
    refine wp_seq ?_
    refine wp_region_lit ?_
    refine s_move hm rfl rfl ?_
    clear hm a; intro a hm
    refine s_move hm rfl rfl ?_
    clear hm a; intro a hm
    refine s_len hm rfl Try.underlying22 rfl hp0_0 ?_
    clear hm a; intro a hm
    refine s_cmp (b := decide (x_8 < (x0.length : Int))) hm rfl rfl rfl (.inr (.inr (.inl ⟨rfl, rfl⟩))) ?_
    clear hm a; intro a hm
    refine wpList_nil ?_
    replace hm : Fr 26 a [(0, p0_0), (1, p1_1), (4, .bool false), (5, .int .i64 x_8), (14, .bool (decide (x_8 < (x0.length : Int))))] := hm.keep [0, 1, 4, 5, 14]
    refine x_then_n ?_
    by_cases hc_12 : x_8 < (x0.length : Int)
    · rw [if_pos hc_12] at H
      refine c_cond_t hm rfl (decide_eq_true hc_12) ?_
      refine wp_skip ?_
      refine x_then_n (hKJ_11 _ _ ?_)
      refine c_seq fun KJ_13 hKJ_13 => ?_
      refine c_block ?_
      refine c_seq fun KJ_14 hKJ_14 => ?_
      refine h_begin (S := fun w => Sep w0 w [N_7] Z) 9 (by kernel_rfl) rfl [false, false, false, false, false, false, false, false, false].toArray rfl hS fun w_15 hS => ?_
      replace hS : Sep w0 w_15 [N_7] Z := hS
      refine h_take 0 [true, false, false, false, false, false, false, false, false].toArray rfl (by kernel_rfl) (by kernel_rfl) (by kernel_rfl) (fun _ _ _ _ h => h) rfl rfl rfl rfl hm (hS.sub (.cons (Mem.le.refl _) (Sub.nil _))) (v := p0_0) (fun w hS => r_move hm rfl) ?_
      clear hm a; intro a hm
      refine h_take 1 [true, true, false, false, false, false, false, false, false].toArray rfl (by kernel_rfl) (by kernel_rfl) (by kernel_rfl) (fun _ _ _ _ h => h) rfl rfl rfl rfl hm (hS.sub (.cons (Mem.le.refl _) (Sub.nil _))) (v := .int .i64 x_8) (fun w hS => r_move hm rfl) ?_
      clear hm a; intro a hm
      obtain ⟨t_16, et_16, H⟩ := Option.bind_eq_some_iff.1 H
      refine h_takeE 2 [true, true, true, false, false, false, false, false, false].toArray rfl (by kernel_rfl) (by kernel_rfl) (by kernel_rfl) (fun _ _ _ _ h => h) rfl rfl rfl rfl hm (hS.sub (.cons (Mem.le.refl _) (Sub.nil _))) (f := fun ad => .pointer (some ad)) (r_index hm Try.underlying22 ti3 rfl rfl rfl hp0_0 et_16) ?_
      rintro ad_17 ⟨cs_18, hk_19, hc_20⟩
      obtain rfl := (show cs_18 = [.int .i64 t_16] from hk_19)
      clear hm a; intro a hm
      refine h_take 3 [true, true, true, true, false, false, false, false, false].toArray rfl (by kernel_rfl) (by kernel_rfl) (by kernel_rfl) (fun _ _ _ _ h => h) rfl rfl rfl rfl hm (hS.sub (.cons (Mem.le.refl _) (Sub.nil _))) (v := .int .i64 t_16) (fun w hS => r_load hm rfl (el_one (o := 0) (fun j c h => Mem.cell_le (hA.trans hS.old) (hc_20 j c h)) Try.underlying3 rfl rfl)) ?_
      clear hm a; intro a hm
      refine h_take 4 [true, true, true, true, true, false, false, false, false].toArray rfl (by kernel_rfl) (by kernel_rfl) (by kernel_rfl) (fun _ _ _ _ h => h) rfl rfl rfl rfl hm (hS.sub (.cons (Mem.le.refl _) (Sub.nil _))) (v := p1_1) (fun w hS => r_move hm rfl) ?_
      clear hm a; intro a hm
      refine h_take 5 [true, true, true, true, true, true, false, false, false].toArray rfl (by kernel_rfl) (by kernel_rfl) (by kernel_rfl) (fun _ _ _ _ h => h) rfl rfl rfl rfl hm (hS.sub (.cons (Mem.le.refl _) (Sub.nil _))) (v := .int .i64 x_8) (fun w hS => r_move hm rfl) ?_
      clear hm a; intro a hm
      obtain ⟨t_21, et_21, H⟩ := Option.bind_eq_some_iff.1 H
      refine h_takeE 6 [true, true, true, true, true, true, true, false, false].toArray rfl (by kernel_rfl) (by kernel_rfl) (by kernel_rfl) (fun _ _ _ _ h => h) rfl rfl rfl rfl hm (hS.sub (.cons (Mem.le.refl _) (Sub.nil _))) (f := fun ad => .pointer (some ad)) (r_index hm Try.underlying22 ti3 rfl rfl rfl hp1_1 et_21) ?_
      rintro ad_22 ⟨cs_23, hk_24, hc_25⟩
      obtain rfl := (show cs_23 = [.int .i64 t_21] from hk_24)
      clear hm a; intro a hm
      refine h_take 7 [true, true, true, true, true, true, true, true, false].toArray rfl (by kernel_rfl) (by kernel_rfl) (by kernel_rfl) (fun _ _ _ _ h => h) rfl rfl rfl rfl hm (hS.sub (.cons (Mem.le.refl _) (Sub.nil _))) (v := .int .i64 t_21) (fun w hS => r_load hm rfl (el_one (o := 0) (fun j c h => Mem.cell_le (hA.trans hS.old) (hc_25 j c h)) Try.underlying3 rfl rfl)) ?_
      clear hm a; intro a hm
      refine h_take 8 [true, true, true, true, true, true, true, true, true].toArray rfl (by kernel_rfl) (by kernel_rfl) (by kernel_rfl) (fun _ _ _ _ h => h) rfl rfl rfl rfl hm (hS.sub (.cons (Mem.le.refl _) (Sub.nil _))) (v := .bool (t_16 != t_21)) (fun w hS => r_cmp (b := (t_16 != t_21)) hm rfl rfl (.inr (.inl ⟨rfl, rfl⟩))) ?_
      clear hm a; intro a hm
      refine h_done (by kernel_rfl) ?_
      replace hm : Fr 26 a [(0, p0_0), (1, p1_1), (4, .bool false), (5, .int .i64 x_8), (25, .bool (t_16 != t_21))] := hm.keep [0, 1, 4, 5, 25]
      refine x_then_n (hKJ_14 _ _ ?_)
      by_cases hc_26 : t_16 = t_21
      · rw [if_pos hc_26] at H
        refine c_cond_f hm rfl (bne_eq_false_iff_eq.2 hc_26) ?_
        refine wp_skip ?_
        refine x_block_n ?_
        refine x_then_n (hKJ_13 _ _ ?_)
        refine wp_region_lit ?_
        refine s_move hm rfl rfl ?_
        clear hm a; intro a hm
        refine s_arith (r := w64 (x_8 + 1)) hm rfl rfl rfl (.inl ⟨rfl, rfl⟩) ?_
        clear hm a; intro a hm
        refine s_assign hm rfl rfl ?_
        clear hm a; intro a hm
        refine wpList_nil ?_
        replace hm : Fr 26 a [(0, p0_0), (1, p1_1), (4, .bool false), (5, .int .i64 (w64 (x_8 + 1)))] := hm.keep [0, 1, 4, 5]
        refine x_then_n (hKL_9 _ _ ?_)
        replace hS : Sep w0 w_15 [N_7] Z := hS
        replace hm : Fr 26 a [(0, p0_0), (1, p1_1), (4, .bool false), (5, .int .i64 (w64 (x_8 + 1)))] := hm.keep [0, 1, 4, 5]
        exact ⟨w64 (x_8 + 1), N_7, H, hm, (Sep.sel hS [0] (by decide)), le_7⟩
      · rw [if_neg hc_26] at H
        refine c_cond_t hm rfl (bne_iff_ne.2 hc_26) ?_
        refine wp_seq ?_
        refine wp_region_lit ?_
        refine s_assign hm rfl rfl ?_
        clear hm a; intro a hm
        refine wpList_nil ?_
        replace hm : Fr 26 a [(0, p0_0), (1, p1_1), (4, .bool false), (5, .int .i64 x_8)] := hm.keep [0, 1, 4, 5]
        refine x_then_n ?_
        refine wp_ret (x_block_r (x_then_r (x_then_r (x_block_r (x_then_r ?_)))))
        obtain rfl := Option.some.inj H
        exact f_ret hm (rs := [.tmp 4]) rfl (.tmp rfl .nil) ⟨_, rfl, N_7, rfl, (Sep.sel hS [0] (by decide))⟩
    · rw [if_neg hc_12] at H
      refine c_cond_f hm rfl (decide_eq_false hc_12) ?_
      refine wp_exit (x_then_x (x_then_x (x_block_t ?_)))
      replace hS : Sep w0 w_9 [N_7] Z := hS
      replace hm : Fr 26 a [(4, .bool false)] := hm.keep [4]
      exact x_then_n (hJ_j_6  H _ _ ⟨N_7, hm, (Sep.sel hS [0] (by decide)), le_7⟩)
  · rw [if_neg hc_2] at H
    refine c_cond_t hm rfl (bne_iff_ne.2 hc_2) ?_
    refine wp_seq ?_
    refine wp_region_lit ?_
    refine s_assign hm rfl rfl ?_
    clear hm a; intro a hm
    refine wpList_nil ?_
    replace hm : Fr 26 a [(0, p0_0), (1, p1_1), (4, .bool false)] := hm.keep [0, 1, 4]
    refine x_then_n ?_
    refine wp_ret (x_then_r ?_)
    obtain rfl := Option.some.inj H
    exact f_ret hm (rs := [.tmp 4]) rfl (.tmp rfl .nil) ⟨_, rfl, Mem.no, rfl, (Sep.sel hS [0] (by decide))⟩

set_option maxHeartbeats 4000000 in
set_option maxRecDepth 20000 in
theorem lock_Owner.calls (x0 : List Int) (p0_0 : Value) (r : api_Result) (w0 w : World) (Z A : Mem) (hA : A.le Z) (hS : Sep w0 w [] Z) (hp0_0 : Rd (Kd.int .i64) A p0_0 x0)
    (H : lock_Owner.f x0 = some r) :
    Calls Try.prog 16 [p0_0].toArray w (Ret fun v w' => ∃ (u0 : Value) (N : Mem) (M0 : Mem), v = .agg [.int .i64 r.Err, u0, .int .i64 r.N].toArray ∧ Sep w0 w' [N, M0] Z ∧ Own Kd.u8 5 M0 Mem.no u0 r.Val) := by
  unfold lock_Owner.f at H
  refine f_enter _ Try.func16 rfl Try.ntmps16 rfl fun a hm => ?_
  replace hm : Fr 11 a [(0, p0_0)] := hm
  replace hS := hS.start
  replace hS : Sep w0 w [Mem.no] Z := hS
  refine wp_seq ?_
  refine wp_region_lit ?_
  refine v_alloc hm rfl ti28 hS ?_
  intro w_1 g_2 hS'
  clear hm a; intro a hm
  replace hS : Sep w0 w_1 [Mem.no, Mem.one g_2 (.cells ([.int .i64 0, .slice none 0 0, .int .i64 0] : List Value).toArray 28 (0, 0))] Z := hS'
  clear hS'
  refine wpList_nil ?_
  replace hm : Fr 11 a [(0, p0_0), (2, .pointer (some ⟨g_2, 0, none⟩))] := hm.keep [0, 2]
  refine x_then_n ?_
  refine c_seq fun KJ_3 hKJ_3 => ?_
  refine wp_seq ?_
  refine wp_region_lit ?_
  refine s_move hm rfl rfl ?_
  clear hm a; intro a hm
  refine s_len hm rfl Try.underlying22 rfl hp0_0 ?_
  clear hm a; intro a hm
  refine s_cmp (b := ((x0.length : Int) == 0)) hm rfl rfl rfl (.inl ⟨rfl, rfl⟩) ?_
  clear hm a; intro a hm
  refine wpList_nil ?_
  replace hm : Fr 11 a [(0, p0_0), (2, .pointer (some ⟨g_2, 0, none⟩)), (5, .bool ((x0.length : Int) == 0))] := hm.keep [0, 2, 5]
  refine x_then_n ?_
  by_cases hc_4 : (x0.length : Int) = 0
  · rw [if_pos hc_4] at H
    refine c_cond_t hm rfl (beq_iff_eq.2 hc_4) ?_
    refine wp_seq ?_
    refine wp_region_lit ?_
    refine s_build hm rfl ti28 pl28 rfl (.cons rfl .nil) (cs := [.int .i64 5, .slice none 0 0, .int .i64 0]) rfl ?_
    clear hm a; intro a hm
    obtain ⟨w_5, hs', hS'⟩ := hS.store (P := Try.prog) (p := 1) (o := 0) (t := 28) (v := .agg ([.int .i64 5, .slice none 0 0, .int .i64 0] : List Value).toArray) (vs := [.int .i64 5, .slice none 0 0, .int .i64 0]) rfl ti28 rfl rfl rfl (by intro u hu; simp only [List.mem_cons, List.not_mem_nil, or_false] at hu; rcases hu with rfl | rfl | rfl <;> rfl)
    refine s_store hm rfl rfl hs' ?_
    replace hS : Sep w0 w_5 [Mem.no, Mem.one g_2 (.cells ([.int .i64 5, .slice none 0 0, .int .i64 0] : List Value).toArray 28 (0, 0))] Z := hS'
    clear hs' hS'
    refine wpList_nil ?_
    replace hm : Fr 11 a [(0, p0_0), (2, .pointer (some ⟨g_2, 0, none⟩))] := hm.keep [0, 2]
    refine x_then_n ?_
    refine wp_ret (x_then_r ?_)
    have hS' := hS.room
    replace hS : Sep w0 w_5 [Mem.no, Mem.one g_2 (.cells ([.int .i64 5, .slice none 0 0, .int .i64 0] : List Value).toArray 28 (0, 0)), Mem.no] Z := hS'
    clear hS'
    replace hS : Sep w0 w_5 [Mem.no, Mem.one g_2 (.cells ([.int .i64 5, .slice none 0 0, .int .i64 0] : List Value).toArray 28 (0, 0)), Mem.no] Z := hS
    obtain rfl := Option.some.inj H
    exact f_ret hm (rs := [.cell 2 28]) rfl (.cell rfl (hS.load_agg (p := 1) (us := [.int .i64 5, .slice none 0 0, .int .i64 0]) rfl Try.underlying28 rfl ti28 rfl rfl) .nil) ⟨_, rfl, .slice none 0 0, Mem.no, Mem.no, rfl, (Sep.sel hS [0, 2] (by decide)), (Own.nil Kd.u8 5 Mem.no)⟩
  · rw [if_neg hc_4] at H
    refine c_cond_f hm rfl (beq_eq_false_iff_ne.2 hc_4) ?_
    refine wp_skip ?_
    refine x_then_n (hKJ_3 _ _ ?_)
    refine wp_seq ?_
    refine wp_region_lit ?_
    refine s_move hm rfl rfl ?_
    clear hm a; intro a hm
    obtain ⟨t_7, et_7, H⟩ := Option.bind_eq_some_iff.1 H
    refine v_index hm rfl Try.underlying22 ti3 rfl rfl rfl hp0_0 (hA.trans hS.old) et_7 ?_
    intro ad_8 cs_9 hk_10 hc_11
    obtain rfl := (show cs_9 = [.int .i64 t_7] from hk_10)
    clear hm a; intro a hm
    refine s_load hm rfl rfl (el_one (o := 0) hc_11 Try.underlying3 rfl rfl) ?_
    clear hm a; intro a hm
    refine s_build hm rfl ti28 pl28 rfl (.cons rfl .nil) (cs := [.int .i64 0, .slice none 0 0, .int .i64 t_7]) rfl ?_
    clear hm a; intro a hm
    obtain ⟨w_12, hs', hS'⟩ := hS.store (P := Try.prog) (p := 1) (o := 0) (t := 28) (v := .agg ([.int .i64 0, .slice none 0 0, .int .i64 t_7] : List Value).toArray) (vs := [.int .i64 0, .slice none 0 0, .int .i64 t_7]) rfl ti28 rfl rfl rfl (by intro u hu; simp only [List.mem_cons, List.not_mem_nil, or_false] at hu; rcases hu with rfl | rfl | rfl <;> rfl)
    refine s_store hm rfl rfl hs' ?_
    replace hS : Sep w0 w_12 [Mem.no, Mem.one g_2 (.cells ([.int .i64 0, .slice none 0 0, .int .i64 t_7] : List Value).toArray 28 (0, 0))] Z := hS'
    clear hs' hS'
    refine wpList_nil ?_
    replace hm : Fr 11 a [(2, .pointer (some ⟨g_2, 0, none⟩))] := hm.keep [2]
    refine x_then_n ?_
    refine wp_ret ?_
    have hS' := hS.room
    replace hS : Sep w0 w_12 [Mem.no, Mem.one g_2 (.cells ([.int .i64 0, .slice none 0 0, .int .i64 t_7] : List Value).toArray 28 (0, 0)), Mem.no] Z := hS'
    clear hS'
    replace hS : Sep w0 w_12 [Mem.no, Mem.one g_2 (.cells ([.int .i64 0, .slice none 0 0, .int .i64 t_7] : List Value).toArray 28 (0, 0)), Mem.no] Z := hS
    obtain rfl := Option.some.inj H
    exact f_ret hm (rs := [.cell 2 28]) rfl (.cell rfl (hS.load_agg (p := 1) (us := [.int .i64 0, .slice none 0 0, .int .i64 t_7]) rfl Try.underlying28 rfl ti28 rfl rfl) .nil) ⟨_, rfl, .slice none 0 0, Mem.no, Mem.no, rfl, (Sep.sel hS [0, 2] (by decide)), (Own.nil Kd.u8 5 Mem.no)⟩

set_option maxHeartbeats 4000000 in
set_option maxRecDepth 20000 in
theorem hocketlaw6_awake.calls (K : Nat) (r : Unit) (w0 w : World) (Z A : Mem) (hA : A.le Z) (hS : Sep w0 w [] Z)
    (H : hocketlaw6_awake.f K = some r) :
    Calls Try.prog 15 [].toArray w (Ret fun v w' => ∃ (N : Mem), v = .bool true ∧ Sep w0 w' [N] Z) := by
  unfold hocketlaw6_awake.f at H
  refine f_enter _ Try.func15 rfl Try.ntmps15 rfl fun a hm => ?_
  replace hm : Fr 61 a [] := hm
  replace hS := hS.start
  replace hS : Sep w0 w [Mem.no] Z := hS
  refine wp_seq ?_
  refine wp_region_lit ?_
  refine s_assign hm rfl rfl ?_
  clear hm a; intro a hm
  refine wpList_nil ?_
  replace hm : Fr 61 a [(0, .bool false)] := hm.keep [0]
  refine x_then_n ?_
  refine wp_seq ?_
  refine wp_region_lit ?_
  obtain ⟨t_1, et_1, H⟩ := Option.bind_eq_some_iff.1 H
  refine s_call hm rfl Try.call13 rfl (lock_Take.calls K ([] : List Int) _ 7 t_1 w0 _ _ _ (Mem.le.refl _) (hS.enter [] (by decide)) (Rd.nil _ _) et_1) ?_
  rintro _ w_2 ⟨v_5, v_9, N_3, M_7, M_11, rfl, hS', hr_6, hr_10⟩
  clear hm a; intro a hm
  obtain ⟨N_4, hS'', le_4, ln_4⟩ := hS.call [] (by decide) rfl (l' := []) (ow := [M_7, M_11]) rfl hS'
  replace hS : Sep w0 w_2 [N_4, M_7, M_11] Z := hS''
  clear hS' hS''
  refine s_move hm rfl rfl ?_
  clear hm a; intro a hm
  refine s_extract hm rfl rfl rfl ?_
  clear hm a; intro a hm
  refine s_extract hm rfl rfl rfl ?_
  clear hm a; intro a hm
  refine v_alloc hm rfl ti28 hS ?_
  intro w_13 g_14 hS'
  clear hm a; intro a hm
  replace hS : Sep w0 w_13 [N_4, M_7, M_11, Mem.one g_14 (.cells ([.int .i64 0, .slice none 0 0, .int .i64 0] : List Value).toArray 28 (0, 0))] Z := hS'
  clear hS'
  refine s_assign hm rfl rfl ?_
  clear hm a; intro a hm
  obtain ⟨w_15, hs', hS'⟩ := hS.store (P := Try.prog) (p := 3) (o := 0) (t := 28) (v := .agg ([.int .i64 t_1.2.Err, v_9, .int .i64 t_1.2.N] : List Value).toArray) (vs := [.int .i64 t_1.2.Err, v_9, .int .i64 t_1.2.N]) rfl ti28 rfl rfl rfl (by intro u hu; simp only [List.mem_cons, List.not_mem_nil, or_false] at hu; rcases hu with rfl | rfl | rfl <;> first | rfl | exact hr_10.one)
  refine s_store hm rfl rfl hs' ?_
  replace hS : Sep w0 w_15 [N_4, M_7, M_11, Mem.one g_14 (.cells ([.int .i64 t_1.2.Err, v_9, .int .i64 t_1.2.N] : List Value).toArray 28 (0, 0))] Z := hS'
  clear hs' hS'
  refine wpList_nil ?_
  replace hm : Fr 61 a [(0, .bool false), (1, v_5), (2, .pointer (some ⟨g_14, 0, none⟩))] := hm.keep [0, 1, 2]
  refine x_then_n ?_
  refine wp_seq ?_
  refine wp_region_lit ?_
  refine s_move hm rfl rfl ?_
  clear hm a; intro a hm
  obtain ⟨t_16, et_16, H⟩ := Option.bind_eq_some_iff.1 H
  refine s_call hm rfl Try.call13 rfl (lock_Take.calls K t_1.1 _ 3 t_16 w0 _ _ _ (Mem.le.refl _) (hS.enter [] (by decide)) (hr_6.rd (hS.own_zed [] 0 (by decide)) (Mem.no_le _)) et_16) ?_
  rintro _ w_17 ⟨v_20, v_24, N_18, M_22, M_26, rfl, hS', hr_21, hr_25⟩
  clear hm a; intro a hm
  obtain ⟨N_19, hS'', le_19, ln_19⟩ := hS.call [] (by decide) rfl (l' := []) (ow := [M_22, M_26]) rfl hS'
  replace hS : Sep w0 w_17 [N_19, M_7, M_11, Mem.one g_14 (.cells ([.int .i64 t_1.2.Err, v_9, .int .i64 t_1.2.N] : List Value).toArray 28 (0, 0)), M_22, M_26] Z := hS''
  clear hS' hS''
  refine s_move hm rfl rfl ?_
  clear hm a; intro a hm
  refine s_extract hm rfl rfl rfl ?_
  clear hm a; intro a hm
  refine s_extract hm rfl rfl rfl ?_
  clear hm a; intro a hm
  refine v_alloc hm rfl ti28 hS ?_
  intro w_28 g_29 hS'
  clear hm a; intro a hm
  replace hS : Sep w0 w_28 [N_19, M_7, M_11, Mem.one g_14 (.cells ([.int .i64 t_1.2.Err, v_9, .int .i64 t_1.2.N] : List Value).toArray 28 (0, 0)), M_22, M_26, Mem.one g_29 (.cells ([.int .i64 0, .slice none 0 0, .int .i64 0] : List Value).toArray 28 (0, 0))] Z := hS'
  clear hS'
  refine s_assign hm rfl rfl ?_
  clear hm a; intro a hm
  obtain ⟨w_30, hs', hS'⟩ := hS.store (P := Try.prog) (p := 6) (o := 0) (t := 28) (v := .agg ([.int .i64 t_16.2.Err, v_24, .int .i64 t_16.2.N] : List Value).toArray) (vs := [.int .i64 t_16.2.Err, v_24, .int .i64 t_16.2.N]) rfl ti28 rfl rfl rfl (by intro u hu; simp only [List.mem_cons, List.not_mem_nil, or_false] at hu; rcases hu with rfl | rfl | rfl <;> first | rfl | exact hr_25.one)
  refine s_store hm rfl rfl hs' ?_
  replace hS : Sep w0 w_30 [N_19, M_7, M_11, Mem.one g_14 (.cells ([.int .i64 t_1.2.Err, v_9, .int .i64 t_1.2.N] : List Value).toArray 28 (0, 0)), M_22, M_26, Mem.one g_29 (.cells ([.int .i64 t_16.2.Err, v_24, .int .i64 t_16.2.N] : List Value).toArray 28 (0, 0))] Z := hS'
  clear hs' hS'
  refine wpList_nil ?_
  replace hm : Fr 61 a [(0, .bool false), (1, v_20), (2, .pointer (some ⟨g_14, 0, none⟩)), (3, .pointer (some ⟨g_29, 0, none⟩))] := hm.keep [0, 1, 2, 3]
  refine x_then_n ?_
  refine wp_seq ?_
  refine wp_region_lit ?_
  refine s_move hm rfl rfl ?_
  clear hm a; intro a hm
  obtain ⟨t_31, et_31, H⟩ := Option.bind_eq_some_iff.1 H
  refine s_call hm rfl Try.call13 rfl (lock_Take.calls K t_16.1 _ 7 t_31 w0 _ _ _ (Mem.le.refl _) (hS.enter [] (by decide)) (hr_21.rd (hS.own_zed [] 3 (by decide)) (Mem.no_le _)) et_31) ?_
  rintro _ w_32 ⟨v_35, v_39, N_33, M_37, M_41, rfl, hS', hr_36, hr_40⟩
  clear hm a; intro a hm
  obtain ⟨N_34, hS'', le_34, ln_34⟩ := hS.call [] (by decide) rfl (l' := []) (ow := [M_37, M_41]) rfl hS'
  replace hS : Sep w0 w_32 [N_34, M_7, M_11, Mem.one g_14 (.cells ([.int .i64 t_1.2.Err, v_9, .int .i64 t_1.2.N] : List Value).toArray 28 (0, 0)), M_22, M_26, Mem.one g_29 (.cells ([.int .i64 t_16.2.Err, v_24, .int .i64 t_16.2.N] : List Value).toArray 28 (0, 0)), M_37, M_41] Z := hS''
  clear hS' hS''
  refine s_move hm rfl rfl ?_
  clear hm a; intro a hm
  refine s_extract hm rfl rfl rfl ?_
  clear hm a; intro a hm
  refine s_extract hm rfl rfl rfl ?_
  clear hm a; intro a hm
  refine v_alloc hm rfl ti28 hS ?_
  intro w_43 g_44 hS'
  clear hm a; intro a hm
  replace hS : Sep w0 w_43 [N_34, M_7, M_11, Mem.one g_14 (.cells ([.int .i64 t_1.2.Err, v_9, .int .i64 t_1.2.N] : List Value).toArray 28 (0, 0)), M_22, M_26, Mem.one g_29 (.cells ([.int .i64 t_16.2.Err, v_24, .int .i64 t_16.2.N] : List Value).toArray 28 (0, 0)), M_37, M_41, Mem.one g_44 (.cells ([.int .i64 0, .slice none 0 0, .int .i64 0] : List Value).toArray 28 (0, 0))] Z := hS'
  clear hS'
  refine s_assign hm rfl rfl ?_
  clear hm a; intro a hm
  obtain ⟨w_45, hs', hS'⟩ := hS.store (P := Try.prog) (p := 9) (o := 0) (t := 28) (v := .agg ([.int .i64 t_31.2.Err, v_39, .int .i64 t_31.2.N] : List Value).toArray) (vs := [.int .i64 t_31.2.Err, v_39, .int .i64 t_31.2.N]) rfl ti28 rfl rfl rfl (by intro u hu; simp only [List.mem_cons, List.not_mem_nil, or_false] at hu; rcases hu with rfl | rfl | rfl <;> first | rfl | exact hr_40.one)
  refine s_store hm rfl rfl hs' ?_
  replace hS : Sep w0 w_45 [N_34, M_7, M_11, Mem.one g_14 (.cells ([.int .i64 t_1.2.Err, v_9, .int .i64 t_1.2.N] : List Value).toArray 28 (0, 0)), M_22, M_26, Mem.one g_29 (.cells ([.int .i64 t_16.2.Err, v_24, .int .i64 t_16.2.N] : List Value).toArray 28 (0, 0)), M_37, M_41, Mem.one g_44 (.cells ([.int .i64 t_31.2.Err, v_39, .int .i64 t_31.2.N] : List Value).toArray 28 (0, 0))] Z := hS'
  clear hs' hS'
  refine wpList_nil ?_
  replace hm : Fr 61 a [(0, .bool false), (1, v_20), (2, .pointer (some ⟨g_14, 0, none⟩)), (3, .pointer (some ⟨g_29, 0, none⟩)), (5, .pointer (some ⟨g_44, 0, none⟩))] := hm.keep [0, 1, 2, 3, 5]
  refine x_then_n ?_
  refine wp_seq ?_
  refine wp_region_lit ?_
  refine s_move hm rfl rfl ?_
  clear hm a; intro a hm
  obtain ⟨t_46, et_46, H⟩ := Option.bind_eq_some_iff.1 H
  refine s_call hm rfl Try.call12 rfl (lock_Free.calls K t_16.1 _ 7 t_46 w0 _ _ _ (Mem.le.refl _) (hS.enter [] (by decide)) (hr_21.rd (hS.own_zed [] 3 (by decide)) (Mem.no_le _)) et_46) ?_
  rintro _ w_47 ⟨v_50, v_54, N_48, M_52, M_56, rfl, hS', hr_51, hr_55⟩
  clear hm a; intro a hm
  obtain ⟨N_49, hS'', le_49, ln_49⟩ := hS.call [] (by decide) rfl (l' := []) (ow := [M_52, M_56]) rfl hS'
  replace hS : Sep w0 w_47 [N_49, M_7, M_11, Mem.one g_14 (.cells ([.int .i64 t_1.2.Err, v_9, .int .i64 t_1.2.N] : List Value).toArray 28 (0, 0)), M_22, M_26, Mem.one g_29 (.cells ([.int .i64 t_16.2.Err, v_24, .int .i64 t_16.2.N] : List Value).toArray 28 (0, 0)), M_37, M_41, Mem.one g_44 (.cells ([.int .i64 t_31.2.Err, v_39, .int .i64 t_31.2.N] : List Value).toArray 28 (0, 0)), M_52, M_56] Z := hS''
  clear hS' hS''
  refine s_move hm rfl rfl ?_
  clear hm a; intro a hm
  refine s_extract hm rfl rfl rfl ?_
  clear hm a; intro a hm
  refine s_extract hm rfl rfl rfl ?_
  clear hm a; intro a hm
  refine v_alloc hm rfl ti28 hS ?_
  intro w_58 g_59 hS'
  clear hm a; intro a hm
  replace hS : Sep w0 w_58 [N_49, M_7, M_11, Mem.one g_14 (.cells ([.int .i64 t_1.2.Err, v_9, .int .i64 t_1.2.N] : List Value).toArray 28 (0, 0)), M_22, M_26, Mem.one g_29 (.cells ([.int .i64 t_16.2.Err, v_24, .int .i64 t_16.2.N] : List Value).toArray 28 (0, 0)), M_37, M_41, Mem.one g_44 (.cells ([.int .i64 t_31.2.Err, v_39, .int .i64 t_31.2.N] : List Value).toArray 28 (0, 0)), M_52, M_56, Mem.one g_59 (.cells ([.int .i64 0, .slice none 0 0, .int .i64 0] : List Value).toArray 28 (0, 0))] Z := hS'
  clear hS'
  refine s_assign hm rfl rfl ?_
  clear hm a; intro a hm
  obtain ⟨w_60, hs', hS'⟩ := hS.store (P := Try.prog) (p := 12) (o := 0) (t := 28) (v := .agg ([.int .i64 t_46.2.Err, v_54, .int .i64 t_46.2.N] : List Value).toArray) (vs := [.int .i64 t_46.2.Err, v_54, .int .i64 t_46.2.N]) rfl ti28 rfl rfl rfl (by intro u hu; simp only [List.mem_cons, List.not_mem_nil, or_false] at hu; rcases hu with rfl | rfl | rfl <;> first | rfl | exact hr_55.one)
  refine s_store hm rfl rfl hs' ?_
  replace hS : Sep w0 w_60 [N_49, M_7, M_11, Mem.one g_14 (.cells ([.int .i64 t_1.2.Err, v_9, .int .i64 t_1.2.N] : List Value).toArray 28 (0, 0)), M_22, M_26, Mem.one g_29 (.cells ([.int .i64 t_16.2.Err, v_24, .int .i64 t_16.2.N] : List Value).toArray 28 (0, 0)), M_37, M_41, Mem.one g_44 (.cells ([.int .i64 t_31.2.Err, v_39, .int .i64 t_31.2.N] : List Value).toArray 28 (0, 0)), M_52, M_56, Mem.one g_59 (.cells ([.int .i64 t_46.2.Err, v_54, .int .i64 t_46.2.N] : List Value).toArray 28 (0, 0))] Z := hS'
  clear hs' hS'
  refine wpList_nil ?_
  replace hm : Fr 61 a [(0, .bool false), (2, .pointer (some ⟨g_14, 0, none⟩)), (3, .pointer (some ⟨g_29, 0, none⟩)), (5, .pointer (some ⟨g_44, 0, none⟩)), (6, v_50), (7, .pointer (some ⟨g_59, 0, none⟩))] := hm.keep [0, 2, 3, 5, 6, 7]
  refine x_then_n ?_
  refine c_seq fun KJ_61 hKJ_61 => ?_
  refine wp_region_lit ?_
  refine s_fieldAddr hm rfl Try.underlying28 rfl ti3 rfl rfl ?_
  clear hm a; intro a hm
  refine s_load hm rfl rfl (hS.load_one (p := 3) rfl Try.underlying3 rfl rfl) ?_
  clear hm a; intro a hm
  refine s_cmp (b := (t_1.2.N == 0)) hm rfl rfl rfl (.inl ⟨rfl, rfl⟩) ?_
  clear hm a; intro a hm
  refine s_move hm rfl rfl ?_
  clear hm a; intro a hm
  by_cases hc_62 : t_1.2.N = 0
  · rw [if_pos hc_62] at H
    refine s_on hm rfl rfl (beq_iff_eq.2 hc_62) ?_
    refine s_fieldAddr hm rfl Try.underlying28 rfl ti3 rfl rfl ?_
    clear hm a; intro a hm
    refine s_on hm rfl rfl (beq_iff_eq.2 hc_62) ?_
    refine s_load hm rfl rfl (hS.load_one (p := 6) rfl Try.underlying3 rfl rfl) ?_
    clear hm a; intro a hm
    refine s_on hm rfl rfl (beq_iff_eq.2 hc_62) ?_
    refine s_cmp (b := (t_16.2.N == 1)) hm rfl rfl rfl (.inl ⟨rfl, rfl⟩) ?_
    clear hm a; intro a hm
    refine s_pick_t hm rfl rfl (beq_iff_eq.2 hc_62) rfl ?_
    clear hm a; intro a hm
    refine s_move hm rfl rfl ?_
    clear hm a; intro a hm
    by_cases hc_63 : t_16.2.N = 1
    · rw [if_pos hc_63] at H
      refine s_on hm rfl rfl (beq_iff_eq.2 hc_63) ?_
      refine s_fieldAddr hm rfl Try.underlying28 rfl ti23 rfl rfl ?_
      clear hm a; intro a hm
      refine s_on hm rfl rfl (beq_iff_eq.2 hc_63) ?_
      refine s_load hm rfl rfl (hS.load_one (p := 9) rfl Try.underlying23 rfl rfl) ?_
      clear hm a; intro a hm
      refine s_on hm rfl rfl (beq_iff_eq.2 hc_63) ?_
      refine s_cmp (b := (t_31.2.Err == 6)) hm rfl rfl rfl (.inl ⟨rfl, rfl⟩) ?_
      clear hm a; intro a hm
      refine s_pick_t hm rfl rfl (beq_iff_eq.2 hc_63) rfl ?_
      clear hm a; intro a hm
      refine s_move hm rfl rfl ?_
      clear hm a; intro a hm
      by_cases hc_64 : t_31.2.Err = 6
      · rw [if_pos hc_64] at H
        refine s_on hm rfl rfl (beq_iff_eq.2 hc_64) ?_
        refine s_fieldAddr hm rfl Try.underlying28 rfl ti3 rfl rfl ?_
        clear hm a; intro a hm
        refine s_on hm rfl rfl (beq_iff_eq.2 hc_64) ?_
        refine s_load hm rfl rfl (hS.load_one (p := 12) rfl Try.underlying3 rfl rfl) ?_
        clear hm a; intro a hm
        refine s_on hm rfl rfl (beq_iff_eq.2 hc_64) ?_
        refine s_cmp (b := (t_46.2.N == 3)) hm rfl rfl rfl (.inl ⟨rfl, rfl⟩) ?_
        clear hm a; intro a hm
        refine s_pick_t hm rfl rfl (beq_iff_eq.2 hc_64) rfl ?_
        clear hm a; intro a hm
        refine s_move hm rfl rfl ?_
        clear hm a; intro a hm
        by_cases hc_65 : t_46.2.N = 3
        · rw [if_pos hc_65] at H
          refine s_on hm rfl rfl (beq_iff_eq.2 hc_65) ?_
          refine s_move hm rfl rfl ?_
          clear hm a; intro a hm
          refine s_on hm rfl rfl (beq_iff_eq.2 hc_65) ?_
          have hq_70 : Reps (Kd.int .i64) Mem.no ([3] : List Int) _ := ((Reps.one (d := (Kd.int .i64)) (x := 3) (show (Kd.int .i64).K _ _ [.int .i64 3] from rfl)).append (Reps.nil (Kd.int .i64) _))
          refine s_buildSlice hm rfl Try.underlying22 ti3 rfl rfl rfl (.cons rfl .nil) rfl rfl rfl hS hq_70 rfl ?_
          intro w_66 v_67 M_68 hS' ho_69
          clear hm a; intro a hm
          replace hS : Sep w0 w_66 [N_49, M_7, M_11, Mem.one g_14 (.cells ([.int .i64 t_1.2.Err, v_9, .int .i64 t_1.2.N] : List Value).toArray 28 (0, 0)), M_22, M_26, Mem.one g_29 (.cells ([.int .i64 t_16.2.Err, v_24, .int .i64 t_16.2.N] : List Value).toArray 28 (0, 0)), M_37, M_41, Mem.one g_44 (.cells ([.int .i64 t_31.2.Err, v_39, .int .i64 t_31.2.N] : List Value).toArray 28 (0, 0)), M_52, M_56, Mem.one g_59 (.cells ([.int .i64 t_46.2.Err, v_54, .int .i64 t_46.2.N] : List Value).toArray 28 (0, 0)), M_68] Z := hS'
          clear hS' hq_70
          refine s_on hm rfl rfl (beq_iff_eq.2 hc_65) ?_
          obtain ⟨t_72, et_72, H⟩ := Option.bind_eq_some_iff.1 H
          refine s_call hm rfl Try.call14 rfl (hocketref1_SameInts.calls K t_46.1 _ ([3] : List Int) _ t_72 w0 _ _ _ (Mem.le.refl _) (hS.enter [] (by decide)) (hr_51.rd (hS.own_zed [] 9 (by decide)) (Mem.no_le _)) (ho_69.rd (hS.own_zed [] 12 (by decide)) (Mem.no_le _)) et_72) ?_
          rintro _ w_73 ⟨N_74, rfl, hS'⟩
          clear hm a; intro a hm
          obtain ⟨N_75, hS'', le_75, ln_75⟩ := hS.call [] (by decide) rfl (l' := []) (ow := []) rfl hS'
          replace hS : Sep w0 w_73 [N_75, M_7, M_11, Mem.one g_14 (.cells ([.int .i64 t_1.2.Err, v_9, .int .i64 t_1.2.N] : List Value).toArray 28 (0, 0)), M_22, M_26, Mem.one g_29 (.cells ([.int .i64 t_16.2.Err, v_24, .int .i64 t_16.2.N] : List Value).toArray 28 (0, 0)), M_37, M_41, Mem.one g_44 (.cells ([.int .i64 t_31.2.Err, v_39, .int .i64 t_31.2.N] : List Value).toArray 28 (0, 0)), M_52, M_56, Mem.one g_59 (.cells ([.int .i64 t_46.2.Err, v_54, .int .i64 t_46.2.N] : List Value).toArray 28 (0, 0)), M_68] Z := hS''
          clear hS' hS''
          refine s_pick_t hm rfl rfl (beq_iff_eq.2 hc_65) rfl ?_
          clear hm a; intro a hm
          refine s_move hm rfl rfl ?_
          clear hm a; intro a hm
          by_cases hc_76 : t_72 = true
          · rw [if_pos hc_76] at H
            refine s_on hm rfl rfl hc_76 ?_
            refine s_move hm rfl rfl ?_
            clear hm a; intro a hm
            refine s_on hm rfl rfl hc_76 ?_
            obtain ⟨t_77, et_77, H⟩ := Option.bind_eq_some_iff.1 H
            refine s_call hm rfl Try.call16 rfl (lock_Owner.calls t_46.1 _ t_77 w0 _ _ _ (Mem.le.refl _) (hS.enter [] (by decide)) (hr_51.rd (hS.own_zed [] 9 (by decide)) (Mem.no_le _)) et_77) ?_
            rintro _ w_78 ⟨v_81, N_79, M_83, rfl, hS', hr_82⟩
            clear hm a; intro a hm
            obtain ⟨N_80, hS'', le_80, ln_80⟩ := hS.call [] (by decide) rfl (l' := []) (ow := [M_83]) rfl hS'
            replace hS : Sep w0 w_78 [N_80, M_7, M_11, Mem.one g_14 (.cells ([.int .i64 t_1.2.Err, v_9, .int .i64 t_1.2.N] : List Value).toArray 28 (0, 0)), M_22, M_26, Mem.one g_29 (.cells ([.int .i64 t_16.2.Err, v_24, .int .i64 t_16.2.N] : List Value).toArray 28 (0, 0)), M_37, M_41, Mem.one g_44 (.cells ([.int .i64 t_31.2.Err, v_39, .int .i64 t_31.2.N] : List Value).toArray 28 (0, 0)), M_52, M_56, Mem.one g_59 (.cells ([.int .i64 t_46.2.Err, v_54, .int .i64 t_46.2.N] : List Value).toArray 28 (0, 0)), M_68, M_83] Z := hS''
            clear hS' hS''
            refine s_on hm rfl rfl hc_76 ?_
            refine s_field_one hm rfl Try.underlying28 rfl Try.underlying3 rfl rfl rfl ?_
            clear hm a; intro a hm
            refine s_on hm rfl rfl hc_76 ?_
            refine s_cmp (b := (t_77.N == 3)) hm rfl rfl rfl (.inl ⟨rfl, rfl⟩) ?_
            clear hm a; intro a hm
            refine s_pick_t hm rfl rfl hc_76 rfl ?_
            clear hm a; intro a hm
            refine s_move hm rfl rfl ?_
            clear hm a; intro a hm
            by_cases hc_85 : t_77.N = 3
            · rw [if_pos hc_85] at H
              refine s_on hm rfl rfl (beq_iff_eq.2 hc_85) ?_
              obtain ⟨t_86, et_86, H⟩ := Option.bind_eq_some_iff.1 H
              refine s_call hm rfl Try.call16 rfl (lock_Owner.calls ([] : List Int) _ t_86 w0 _ _ _ (Mem.le.refl _) (hS.enter [] (by decide)) (Rd.nil _ _) et_86) ?_
              rintro _ w_87 ⟨v_90, N_88, M_92, rfl, hS', hr_91⟩
              clear hm a; intro a hm
              obtain ⟨N_89, hS'', le_89, ln_89⟩ := hS.call [] (by decide) rfl (l' := []) (ow := [M_92]) rfl hS'
              replace hS : Sep w0 w_87 [N_89, M_7, M_11, Mem.one g_14 (.cells ([.int .i64 t_1.2.Err, v_9, .int .i64 t_1.2.N] : List Value).toArray 28 (0, 0)), M_22, M_26, Mem.one g_29 (.cells ([.int .i64 t_16.2.Err, v_24, .int .i64 t_16.2.N] : List Value).toArray 28 (0, 0)), M_37, M_41, Mem.one g_44 (.cells ([.int .i64 t_31.2.Err, v_39, .int .i64 t_31.2.N] : List Value).toArray 28 (0, 0)), M_52, M_56, Mem.one g_59 (.cells ([.int .i64 t_46.2.Err, v_54, .int .i64 t_46.2.N] : List Value).toArray 28 (0, 0)), M_68, M_83, M_92] Z := hS''
              clear hS' hS''
              refine s_on hm rfl rfl (beq_iff_eq.2 hc_85) ?_
              refine s_field_one hm rfl Try.underlying28 rfl Try.underlying23 rfl rfl rfl ?_
              clear hm a; intro a hm
              refine s_on hm rfl rfl (beq_iff_eq.2 hc_85) ?_
              refine s_cmp (b := (t_86.Err == 5)) hm rfl rfl rfl (.inl ⟨rfl, rfl⟩) ?_
              clear hm a; intro a hm
              refine s_pick_t hm rfl rfl (beq_iff_eq.2 hc_85) rfl ?_
              clear hm a; intro a hm
              refine s_assign hm rfl rfl ?_
              clear hm a; intro a hm
              refine wpList_nil ?_
              replace hm : Fr 61 a [(0, .bool (t_86.Err == 5))] := hm.keep [0]
              refine x_then_n (hKJ_61 _ _ ?_)
              refine wp_ret ?_
              by_cases hc_94 : t_86.Err = 5
              · rw [if_pos hc_94] at H
                exact f_ret hm (rs := [.tmp 0]) rfl (.tmp rfl .nil) ⟨_, rfl, N_89, (by rw [(beq_iff_eq.2 hc_94)]; rfl), (Sep.sel hS [0] (by decide))⟩
              · rw [if_neg hc_94] at H
                cases H
            · rw [if_neg hc_85] at H
              cases H
          · rw [if_neg hc_76] at H
            cases H
        · rw [if_neg hc_65] at H
          cases H
      · rw [if_neg hc_64] at H
        cases H
    · rw [if_neg hc_63] at H
      cases H
  · rw [if_neg hc_62] at H
    cases H

set_option maxHeartbeats 4000000 in
set_option maxRecDepth 20000 in
theorem hocketlaw6_LockOwn.calls (K : Nat) (x0 : List Int) (p0_0 : Value) (x1 : Int) (x2 : Int) (r : Unit) (w0 w : World) (Z A : Mem) (hA : A.le Z) (hS : Sep w0 w [] Z) (hp0_0 : Rd (Kd.int .i64) A p0_0 x0)
    (H : hocketlaw6_LockOwn.f K x0 x1 x2 = some r) :
    Calls Try.prog 5 [p0_0, .int .i64 x1, .int .i64 x2].toArray w (Ret fun v w' => ∃ (N : Mem), v = .bool true ∧ Sep w0 w' [N] Z) := by
  unfold hocketlaw6_LockOwn.f at H
  refine f_enter _ Try.func5 rfl Try.ntmps5 rfl fun a hm => ?_
  replace hm : Fr 91 a [(0, p0_0), (1, .int .i64 x1), (2, .int .i64 x2)] := hm
  replace hS := hS.start
  replace hS : Sep w0 w [Mem.no] Z := hS
  refine wp_seq ?_
  refine wp_region_lit ?_
  refine s_assign hm rfl rfl ?_
  clear hm a; intro a hm
  refine wpList_nil ?_
  replace hm : Fr 91 a [(0, p0_0), (1, .int .i64 x1), (2, .int .i64 x2), (6, .bool false)] := hm.keep [0, 1, 2, 6]
  refine x_then_n ?_
  refine wp_seq ?_
  refine wp_region_lit ?_
  refine s_assign hm rfl rfl ?_
  clear hm a; intro a hm
  refine wpList_nil ?_
  replace hm : Fr 91 a [(0, p0_0), (1, .int .i64 x1), (2, .int .i64 x2), (6, .bool false), (7, .slice none 0 0)] := hm.keep [0, 1, 2, 6, 7]
  refine x_then_n ?_
  refine c_seq fun KJ_1 hKJ_1 => ?_
  refine wp_seq ?_
  refine wp_region_lit ?_
  refine s_assign hm rfl rfl ?_
  clear hm a; intro a hm
  refine wpList_nil ?_
  replace hm : Fr 91 a [(0, p0_0), (1, .int .i64 x1), (2, .int .i64 x2), (6, .bool false), (7, .slice none 0 0), (8, .int .i64 0)] := hm.keep [0, 1, 2, 6, 7, 8]
  refine x_then_n ?_
  have hJ_j_9 : ∀ (x_3 : List Int), hocketlaw6_LockOwn.J1 K x1 x2 x_3 = some r → ∀ (a : Act) (w_8 : World), (∃ (v_6 : Value) (N_2 : Mem) (M_4 : Mem), Fr 91 a [(1, .int .i64 x1), (2, .int .i64 x2), (6, .bool false), (7, v_6)] ∧ Sep w0 w_8 [N_2, M_4] Z ∧ Mem.no.le N_2 ∧ Own (Kd.int .i64) 3 M_4 Mem.no v_6 x_3) → KJ_1 a w_8 := by
    clear H hm hS a
    rintro x_3 H a w_8 ⟨v_6, N_2, M_4, hm, hS, le_2, ho_7⟩
    unfold hocketlaw6_LockOwn.J1 at H
    refine hKJ_1 _ _ ?_
    refine wp_seq ?_
    refine wp_region_lit ?_
    have hq_14 : Reps (Kd.int .i64) Mem.no ([] : List Int) _ := (Reps.nil (Kd.int .i64) _)
    refine s_buildSlice hm rfl Try.underlying22 ti3 rfl rfl rfl .nil rfl rfl rfl hS hq_14 rfl ?_
    intro w_10 v_11 M_12 hS' ho_13
    clear hm a; intro a hm
    replace hS : Sep w0 w_10 [N_2, M_4, M_12] Z := hS'
    clear hS' hq_14
    refine s_move hm rfl rfl ?_
    clear hm a; intro a hm
    obtain ⟨t_16, et_16, H⟩ := Option.bind_eq_some_iff.1 H
    refine s_append (J := Mem.no) (I' := Mem.no) (p := 2) 17592186044416 hm rfl rfl rfl Try.underlying22 ti3 rfl rfl rfl rfl hS rfl ho_13 (Src.flat (flat_int .i64) (ho_7.src (hS.own 1))) (Mem.le.refl _) (Mem.le.refl _) et_16 ?_
    intro w_17 v_18 M_19 hS' ho_20
    clear hm a; intro a hm
    replace hS : Sep w0 w_17 [N_2, M_4, M_19] Z := hS'
    clear hS'
    refine s_assign hm rfl rfl ?_
    clear hm a; intro a hm
    refine wpList_nil ?_
    replace hm : Fr 91 a [(1, .int .i64 x1), (2, .int .i64 x2), (6, .bool false), (7, v_6), (9, v_18)] := hm.keep [1, 2, 6, 7, 9]
    refine x_then_n ?_
    refine wp_seq ?_
    refine wp_region_lit ?_
    refine s_move hm rfl rfl ?_
    clear hm a; intro a hm
    refine s_move hm rfl rfl ?_
    clear hm a; intro a hm
    refine s_bits (i := x1) (j := 15) (r := band .i64 x1 15) hm rfl rfl rfl (.inl ⟨rfl, rfl⟩) ?_
    clear hm a; intro a hm
    obtain ⟨t_22, et_22, H⟩ := Option.bind_eq_some_iff.1 H
    refine s_call hm rfl Try.call13 rfl (lock_Take.calls K x_3 _ (band .i64 x1 15) t_22 w0 _ _ _ (Mem.le.refl _) (hS.enter [] (by decide)) (ho_7.rd (hS.own_zed [] 0 (by decide)) (Mem.no_le _)) et_22) ?_
    rintro _ w_23 ⟨v_26, v_30, N_24, M_28, M_32, rfl, hS', hr_27, hr_31⟩
    clear hm a; intro a hm
    obtain ⟨N_25, hS'', le_25, ln_25⟩ := hS.call [] (by decide) rfl (l' := []) (ow := [M_28, M_32]) rfl hS'
    replace hS : Sep w0 w_23 [N_25, M_4, M_19, M_28, M_32] Z := hS''
    clear hS' hS''
    refine s_move hm rfl rfl ?_
    clear hm a; intro a hm
    refine s_extract hm rfl rfl rfl ?_
    clear hm a; intro a hm
    refine s_extract hm rfl rfl rfl ?_
    clear hm a; intro a hm
    refine v_alloc hm rfl ti28 hS ?_
    intro w_34 g_35 hS'
    clear hm a; intro a hm
    replace hS : Sep w0 w_34 [N_25, M_4, M_19, M_28, M_32, Mem.one g_35 (.cells ([.int .i64 0, .slice none 0 0, .int .i64 0] : List Value).toArray 28 (0, 0))] Z := hS'
    clear hS'
    refine s_assign hm rfl rfl ?_
    clear hm a; intro a hm
    obtain ⟨w_36, hs', hS'⟩ := hS.store (P := Try.prog) (p := 5) (o := 0) (t := 28) (v := .agg ([.int .i64 t_22.2.Err, v_30, .int .i64 t_22.2.N] : List Value).toArray) (vs := [.int .i64 t_22.2.Err, v_30, .int .i64 t_22.2.N]) rfl ti28 rfl rfl rfl (by intro u hu; simp only [List.mem_cons, List.not_mem_nil, or_false] at hu; rcases hu with rfl | rfl | rfl <;> first | rfl | exact hr_31.one)
    refine s_store hm rfl rfl hs' ?_
    replace hS : Sep w0 w_36 [N_25, M_4, M_19, M_28, M_32, Mem.one g_35 (.cells ([.int .i64 t_22.2.Err, v_30, .int .i64 t_22.2.N] : List Value).toArray 28 (0, 0))] Z := hS'
    clear hs' hS'
    refine wpList_nil ?_
    replace hm : Fr 91 a [(2, .int .i64 x2), (6, .bool false), (7, v_6), (9, v_18), (10, v_26)] := hm.keep [2, 6, 7, 9, 10]
    refine x_then_n ?_
    refine wp_seq ?_
    refine wp_region_lit ?_
    refine s_move hm rfl rfl ?_
    clear hm a; intro a hm
    refine s_move hm rfl rfl ?_
    clear hm a; intro a hm
    refine s_bits (i := x2) (j := 15) (r := band .i64 x2 15) hm rfl rfl rfl (.inl ⟨rfl, rfl⟩) ?_
    clear hm a; intro a hm
    obtain ⟨t_37, et_37, H⟩ := Option.bind_eq_some_iff.1 H
    refine s_call hm rfl Try.call12 rfl (lock_Free.calls K x_3 _ (band .i64 x2 15) t_37 w0 _ _ _ (Mem.le.refl _) (hS.enter [] (by decide)) (ho_7.rd (hS.own_zed [] 0 (by decide)) (Mem.no_le _)) et_37) ?_
    rintro _ w_38 ⟨v_41, v_45, N_39, M_43, M_47, rfl, hS', hr_42, hr_46⟩
    clear hm a; intro a hm
    obtain ⟨N_40, hS'', le_40, ln_40⟩ := hS.call [] (by decide) rfl (l' := []) (ow := [M_43, M_47]) rfl hS'
    replace hS : Sep w0 w_38 [N_40, M_4, M_19, M_28, M_32, Mem.one g_35 (.cells ([.int .i64 t_22.2.Err, v_30, .int .i64 t_22.2.N] : List Value).toArray 28 (0, 0)), M_43, M_47] Z := hS''
    clear hS' hS''
    refine s_move hm rfl rfl ?_
    clear hm a; intro a hm
    refine s_extract hm rfl rfl rfl ?_
    clear hm a; intro a hm
    refine s_extract hm rfl rfl rfl ?_
    clear hm a; intro a hm
    refine v_alloc hm rfl ti28 hS ?_
    intro w_49 g_50 hS'
    clear hm a; intro a hm
    replace hS : Sep w0 w_49 [N_40, M_4, M_19, M_28, M_32, Mem.one g_35 (.cells ([.int .i64 t_22.2.Err, v_30, .int .i64 t_22.2.N] : List Value).toArray 28 (0, 0)), M_43, M_47, Mem.one g_50 (.cells ([.int .i64 0, .slice none 0 0, .int .i64 0] : List Value).toArray 28 (0, 0))] Z := hS'
    clear hS'
    refine s_assign hm rfl rfl ?_
    clear hm a; intro a hm
    obtain ⟨w_51, hs', hS'⟩ := hS.store (P := Try.prog) (p := 8) (o := 0) (t := 28) (v := .agg ([.int .i64 t_37.2.Err, v_45, .int .i64 t_37.2.N] : List Value).toArray) (vs := [.int .i64 t_37.2.Err, v_45, .int .i64 t_37.2.N]) rfl ti28 rfl rfl rfl (by intro u hu; simp only [List.mem_cons, List.not_mem_nil, or_false] at hu; rcases hu with rfl | rfl | rfl <;> first | rfl | exact hr_46.one)
    refine s_store hm rfl rfl hs' ?_
    replace hS : Sep w0 w_51 [N_40, M_4, M_19, M_28, M_32, Mem.one g_35 (.cells ([.int .i64 t_22.2.Err, v_30, .int .i64 t_22.2.N] : List Value).toArray 28 (0, 0)), M_43, M_47, Mem.one g_50 (.cells ([.int .i64 t_37.2.Err, v_45, .int .i64 t_37.2.N] : List Value).toArray 28 (0, 0))] Z := hS'
    clear hs' hS'
    refine wpList_nil ?_
    replace hm : Fr 91 a [(6, .bool false), (7, v_6), (9, v_18), (10, v_26), (12, v_41)] := hm.keep [6, 7, 9, 10, 12]
    refine x_then_n ?_
    refine c_seq fun KJ_52 hKJ_52 => ?_
    refine wp_seq ?_
    refine wp_region_lit ?_
    refine s_move hm rfl rfl ?_
    clear hm a; intro a hm
    refine s_lenO hm rfl Try.underlying22 rfl hr_27 ?_
    clear hm a; intro a hm
    refine s_move hm rfl rfl ?_
    clear hm a; intro a hm
    refine wpList_nil ?_
    replace hm : Fr 91 a [(6, .bool false), (7, v_6), (9, v_18), (10, v_26), (12, v_41), (54, .int .i64 (t_22.1.length : Int)), (55, .int .i64 0)] := hm.keep [6, 7, 9, 10, 12, 54, 55]
    refine x_then_n ?_
    have hJ_j_60 : ∀ (x_54 : List Int), hocketlaw6_LockOwn.J2 K t_37 x_3 t_16 x_54 = some r → ∀ (a : Act) (w_59 : World), (∃ (v_57 : Value) (N_53 : Mem) (M_55 : Mem), Fr 91 a [(6, .bool false), (7, v_6), (9, v_18), (10, v_57), (12, v_41)] ∧ Sep w0 w_59 [N_53, M_4, M_19, M_55, Mem.no, Mem.no, M_43, Mem.no, Mem.no] Z ∧ N_40.le N_53 ∧ Own (Kd.int .i64) 3 M_55 Mem.no v_57 x_54) → KJ_52 a w_59 := by
      clear H hm hS a
      rintro x_54 H a w_59 ⟨v_57, N_53, M_55, hm, hS, le_53, ho_58⟩
      unfold hocketlaw6_LockOwn.J2 at H
      refine hKJ_52 _ _ ?_
      refine c_seq fun KJ_61 hKJ_61 => ?_
      refine wp_seq ?_
      refine wp_region_lit ?_
      refine s_move hm rfl rfl ?_
      clear hm a; intro a hm
      refine s_lenO hm rfl Try.underlying22 rfl hr_42 ?_
      clear hm a; intro a hm
      refine s_move hm rfl rfl ?_
      clear hm a; intro a hm
      refine wpList_nil ?_
      replace hm : Fr 91 a [(6, .bool false), (7, v_6), (9, v_18), (10, v_57), (12, v_41), (63, .int .i64 (t_37.1.length : Int)), (64, .int .i64 0)] := hm.keep [6, 7, 9, 10, 12, 63, 64]
      refine x_then_n ?_
      have hJ_j_69 : ∀ (x_63 : List Int), hocketlaw6_LockOwn.J3 K x_54 x_3 t_16 x_63 = some r → ∀ (a : Act) (w_68 : World), (∃ (v_66 : Value) (N_62 : Mem) (M_64 : Mem), Fr 91 a [(6, .bool false), (7, v_6), (9, v_18), (10, v_57), (12, v_66)] ∧ Sep w0 w_68 [N_62, M_4, M_19, M_55, Mem.no, Mem.no, M_64, Mem.no, Mem.no] Z ∧ N_53.le N_62 ∧ Own (Kd.int .i64) 3 M_64 Mem.no v_66 x_63) → KJ_61 a w_68 := by
        clear H hm hS a
        rintro x_63 H a w_68 ⟨v_66, N_62, M_64, hm, hS, le_62, ho_67⟩
        unfold hocketlaw6_LockOwn.J3 at H
        refine hKJ_61 _ _ ?_
        refine wp_seq ?_
        refine wp_region_lit ?_
        refine s_move hm rfl rfl ?_
        clear hm a; intro a hm
        have hq_74 : Reps (Kd.int .i64) Mem.no ([1] : List Int) _ := ((Reps.one (d := (Kd.int .i64)) (x := 1) (show (Kd.int .i64).K _ _ [.int .i64 1] from rfl)).append (Reps.nil (Kd.int .i64) _))
        refine s_buildSlice hm rfl Try.underlying22 ti3 rfl rfl rfl (.cons rfl .nil) rfl rfl rfl hS hq_74 rfl ?_
        intro w_70 v_71 M_72 hS' ho_73
        clear hm a; intro a hm
        replace hS : Sep w0 w_70 [N_62, M_4, M_19, M_55, Mem.no, Mem.no, M_64, Mem.no, Mem.no, M_72] Z := hS'
        clear hS' hq_74
        obtain ⟨t_76, et_76, H⟩ := Option.bind_eq_some_iff.1 H
        refine s_append (J := Mem.no) (I' := Mem.no) (p := 3) 17592186044416 hm rfl rfl rfl Try.underlying22 ti3 rfl rfl rfl rfl hS rfl ho_58 (Src.flat (flat_int .i64) (ho_73.src (hS.own 9))) (Mem.le.refl _) (Mem.le.refl _) et_76 ?_
        intro w_77 v_78 M_79 hS' ho_80
        clear hm a; intro a hm
        replace hS : Sep w0 w_77 [N_62, M_4, M_19, M_79, Mem.no, Mem.no, M_64, Mem.no, Mem.no, M_72] Z := hS'
        clear hS'
        refine s_assign hm rfl rfl ?_
        clear hm a; intro a hm
        refine wpList_nil ?_
        replace hm : Fr 91 a [(6, .bool false), (7, v_6), (9, v_18), (10, v_78), (12, v_66)] := hm.keep [6, 7, 9, 10, 12]
        refine x_then_n ?_
        refine wp_seq ?_
        refine wp_region_lit ?_
        refine s_move hm rfl rfl ?_
        clear hm a; intro a hm
        have hq_86 : Reps (Kd.int .i64) Mem.no ([2] : List Int) _ := ((Reps.one (d := (Kd.int .i64)) (x := 2) (show (Kd.int .i64).K _ _ [.int .i64 2] from rfl)).append (Reps.nil (Kd.int .i64) _))
        refine s_buildSlice hm rfl Try.underlying22 ti3 rfl rfl rfl (.cons rfl .nil) rfl rfl rfl hS hq_86 rfl ?_
        intro w_82 v_83 M_84 hS' ho_85
        clear hm a; intro a hm
        replace hS : Sep w0 w_82 [N_62, M_4, M_19, M_79, Mem.no, Mem.no, M_64, Mem.no, Mem.no, M_72, M_84] Z := hS'
        clear hS' hq_86
        obtain ⟨t_88, et_88, H⟩ := Option.bind_eq_some_iff.1 H
        refine s_append (J := Mem.no) (I' := Mem.no) (p := 6) 17592186044416 hm rfl rfl rfl Try.underlying22 ti3 rfl rfl rfl rfl hS rfl ho_67 (Src.flat (flat_int .i64) (ho_85.src (hS.own 10))) (Mem.le.refl _) (Mem.le.refl _) et_88 ?_
        intro w_89 v_90 M_91 hS' ho_92
        clear hm a; intro a hm
        replace hS : Sep w0 w_89 [N_62, M_4, M_19, M_79, Mem.no, Mem.no, M_91, Mem.no, Mem.no, M_72, M_84] Z := hS'
        clear hS'
        refine s_assign hm rfl rfl ?_
        clear hm a; intro a hm
        refine wpList_nil ?_
        replace hm : Fr 91 a [(6, .bool false), (7, v_6), (9, v_18), (10, v_78), (12, v_90)] := hm.keep [6, 7, 9, 10, 12]
        refine x_then_n ?_
        refine c_seq fun KJ_94 hKJ_94 => ?_
        refine wp_region_lit ?_
        refine s_move hm rfl rfl ?_
        clear hm a; intro a hm
        refine s_move hm rfl rfl ?_
        clear hm a; intro a hm
        obtain ⟨t_95, et_95, H⟩ := Option.bind_eq_some_iff.1 H
        refine s_call hm rfl Try.call14 rfl (hocketref1_SameInts.calls K x_3 _ t_16 _ t_95 w0 _ _ _ (Mem.le.refl _) (hS.enter [] (by decide)) (ho_7.rd (hS.own_zed [] 0 (by decide)) (Mem.no_le _)) (ho_20.rd (hS.own_zed [] 1 (by decide)) (Mem.no_le _)) et_95) ?_
        rintro _ w_96 ⟨N_97, rfl, hS'⟩
        clear hm a; intro a hm
        obtain ⟨N_98, hS'', le_98, ln_98⟩ := hS.call [] (by decide) rfl (l' := []) (ow := []) rfl hS'
        replace hS : Sep w0 w_96 [N_98, M_4, M_19, M_79, Mem.no, Mem.no, M_91, Mem.no, Mem.no, M_72, M_84] Z := hS''
        clear hS' hS''
        refine s_move hm rfl rfl ?_
        clear hm a; intro a hm
        by_cases hc_99 : t_95 = true
        · rw [if_pos hc_99] at H
          refine s_on hm rfl rfl hc_99 ?_
          refine s_move hm rfl rfl ?_
          clear hm a; intro a hm
          refine s_on hm rfl rfl hc_99 ?_
          refine s_lenO hm rfl Try.underlying22 rfl ho_80 ?_
          clear hm a; intro a hm
          refine s_on hm rfl rfl hc_99 ?_
          refine s_move hm rfl rfl ?_
          clear hm a; intro a hm
          refine s_on hm rfl rfl hc_99 ?_
          refine s_lenO hm rfl Try.underlying22 rfl ho_92 ?_
          clear hm a; intro a hm
          refine s_on hm rfl rfl hc_99 ?_
          refine s_arith (r := w64 ((t_76.length : Int) + (t_88.length : Int))) hm rfl rfl rfl (.inl ⟨rfl, rfl⟩) ?_
          clear hm a; intro a hm
          refine s_on hm rfl rfl hc_99 ?_
          refine s_cmp (b := decide ((w64 ((t_76.length : Int) + (t_88.length : Int))) ≥ 2)) hm rfl rfl rfl (.inr (.inr (.inr (.inr (.inr ⟨rfl, rfl⟩))))) ?_
          clear hm a; intro a hm
          refine s_pick_t hm rfl rfl hc_99 rfl ?_
          clear hm a; intro a hm
          refine s_move hm rfl rfl ?_
          clear hm a; intro a hm
          by_cases hc_100 : (w64 ((t_76.length : Int) + (t_88.length : Int))) ≥ 2
          · rw [if_pos hc_100] at H
            refine s_on hm rfl rfl (decide_eq_true hc_100) ?_
            obtain ⟨t_101, et_101, H⟩ := Option.bind_eq_some_iff.1 H
            refine s_call hm rfl Try.call15 rfl (hocketlaw6_awake.calls K  t_101 w0 _ _ _ (Mem.le.refl _) (hS.enter [] (by decide))  et_101) ?_
            rintro _ w_102 ⟨N_103, rfl, hS'⟩
            clear hm a; intro a hm
            obtain ⟨N_104, hS'', le_104, ln_104⟩ := hS.call [] (by decide) rfl (l' := []) (ow := []) rfl hS'
            replace hS : Sep w0 w_102 [N_104, M_4, M_19, M_79, Mem.no, Mem.no, M_91, Mem.no, Mem.no, M_72, M_84] Z := hS''
            clear hS' hS''
            refine s_pick_t hm rfl rfl (decide_eq_true hc_100) rfl ?_
            clear hm a; intro a hm
            refine s_assign hm rfl rfl ?_
            clear hm a; intro a hm
            refine wpList_nil ?_
            replace hm : Fr 91 a [(6, .bool true)] := hm.keep [6]
            refine x_then_n (hKJ_94 _ _ ?_)
            refine wp_ret ?_
            exact f_ret hm (rs := [.tmp 6]) rfl (.tmp rfl .nil) ⟨_, rfl, N_104, rfl, (Sep.sel hS [0] (by decide))⟩
          · rw [if_neg hc_100] at H
            cases H
        · rw [if_neg hc_99] at H
          cases H
      clear hKJ_61
      replace hS : Sep w0 w_59 [N_53, M_4, M_19, M_55, Mem.no, Mem.no, M_43, Mem.no, Mem.no] Z := hS
      replace hm : Fr 91 a [(6, .bool false), (7, v_6), (9, v_18), (10, v_57), (12, v_41), (63, .int .i64 (t_37.1.length : Int)), (64, .int .i64 0)] := hm.keep [6, 7, 9, 10, 12, 63, 64]
      refine c_block ?_
      refine c_loop (fun k_112 a w_112 => ∃ (x_106 : List Int) (x_111 : Int) (v_109 : Value) (N_105 : Mem) (M_107 : Mem), hocketlaw6_LockOwn.L1 K t_37 (fun v => hocketlaw6_LockOwn.J3 K x_54 x_3 t_16 v) k_112 (x_106, x_111) = some r ∧ Fr 91 a [(6, .bool false), (7, v_6), (9, v_18), (10, v_57), (12, v_109), (63, .int .i64 (t_37.1.length : Int)), (64, .int .i64 x_111)] ∧ Sep w0 w_112 [N_105, M_4, M_19, M_55, Mem.no, Mem.no, M_107, Mem.no, Mem.no] Z ∧ N_53.le N_105 ∧ Own (Kd.int .i64) 3 M_107 Mem.no v_109 x_106) K ⟨t_37.1, 0, v_41, N_53, M_43, H, hm, (Sep.sel hS [0, 1, 2, 3, 1003, 1004, 6, 1006, 1007] (by decide)), (Mem.le.refl _), hr_42⟩ (fun a w h => by obtain ⟨_, _, _, _, _, H, _⟩ := h; cases (show (none : Option (Unit)) = some r from H)) ?_
      clear hm hS a H
      rintro k_112 a w_112 KL_112 hKL_112 ⟨x_106, x_111, v_109, N_105, M_107, H, hm, hS, le_105, ho_110⟩
      replace H : hocketlaw6_LockOwn.B1 K t_37 (fun v => hocketlaw6_LockOwn.J3 K x_54 x_3 t_16 v) (hocketlaw6_LockOwn.L1 K t_37 (fun v => hocketlaw6_LockOwn.J3 K x_54 x_3 t_16 v) k_112) x_106 x_111 = some r := H
      unfold hocketlaw6_LockOwn.B1 at H
      refine wp_seq ?_
      refine wp_region_lit ?_
      refine s_cmp (b := decide (x_111 < (t_37.1.length : Int))) hm rfl rfl rfl (.inr (.inr (.inl ⟨rfl, rfl⟩))) ?_
      clear hm a; intro a hm
      refine wpList_nil ?_
      replace hm : Fr 91 a [(6, .bool false), (7, v_6), (9, v_18), (10, v_57), (12, v_109), (63, .int .i64 (t_37.1.length : Int)), (64, .int .i64 x_111), (65, .bool (decide (x_111 < (t_37.1.length : Int))))] := hm.keep [6, 7, 9, 10, 12, 63, 64, 65]
      refine x_then_n ?_
      refine c_seq fun KJ_114 hKJ_114 => ?_
      by_cases hc_115 : x_111 < (t_37.1.length : Int)
      · rw [if_pos hc_115] at H
        refine c_cond_t hm rfl (decide_eq_true hc_115) ?_
        refine wp_skip ?_
        refine x_then_n (hKJ_114 _ _ ?_)
        refine wp_seq ?_
        refine c_block ?_
        refine wp_seq ?_
        refine wp_region_lit ?_
        refine s_move hm rfl rfl ?_
        clear hm a; intro a hm
        refine s_assign hm rfl rfl ?_
        clear hm a; intro a hm
        refine wpList_nil ?_
        replace hm : Fr 91 a [(6, .bool false), (7, v_6), (9, v_18), (10, v_57), (12, v_109), (15, .int .i64 x_111), (63, .int .i64 (t_37.1.length : Int)), (64, .int .i64 x_111)] := hm.keep [6, 7, 9, 10, 12, 15, 63, 64]
        refine x_then_n ?_
        refine wp_region_lit ?_
        refine s_move hm rfl rfl ?_
        clear hm a; intro a hm
        refine s_move hm rfl rfl ?_
        clear hm a; intro a hm
        obtain ⟨t_116, et_116, H⟩ := Option.bind_eq_some_iff.1 H
        refine s_indexOwn hm rfl Try.underlying22 ti3 rfl rfl rfl ho_110 et_116 ?_
        intro g_117 cur_118 hM_119
        clear hm a; intro a hm
        obtain ⟨w_120, M_121, hs', hS', ho_122⟩ := Own.stored (P := Try.prog) (p := 6) (t := 3) (o := 0) (nv := .int .i64 777) (vs := [.int .i64 777]) (u' := 777) hS rfl ho_110 hM_119 et_116 ti3 rfl rfl rfl (by intro u hu; simp only [List.mem_cons, List.not_mem_nil, or_false] at hu; rcases hu with rfl <;> rfl) (fun cs hk => by obtain rfl := (show cs = [_] from hk); rfl)
        refine s_store hm rfl rfl hs' ?_
        replace hS : Sep w0 w_120 [N_105, M_4, M_19, M_55, Mem.no, Mem.no, M_121, Mem.no, Mem.no] Z := hS'
        clear hs' hS'
        refine wpList_nil ?_
        replace hm : Fr 91 a [(6, .bool false), (7, v_6), (9, v_18), (10, v_57), (12, v_109), (63, .int .i64 (t_37.1.length : Int)), (64, .int .i64 x_111)] := hm.keep [6, 7, 9, 10, 12, 63, 64]
        refine x_block_n ?_
        refine x_then_n ?_
        refine wp_region_lit ?_
        refine s_arith (r := w64 (x_111 + 1)) hm rfl rfl rfl (.inl ⟨rfl, rfl⟩) ?_
        clear hm a; intro a hm
        refine s_move hm rfl rfl ?_
        clear hm a; intro a hm
        refine wpList_nil ?_
        replace hm : Fr 91 a [(6, .bool false), (7, v_6), (9, v_18), (10, v_57), (12, v_109), (63, .int .i64 (t_37.1.length : Int)), (64, .int .i64 (w64 (x_111 + 1)))] := hm.keep [6, 7, 9, 10, 12, 63, 64]
        refine x_then_n (hKL_112 _ _ ?_)
        replace hS : Sep w0 w_120 [N_105, M_4, M_19, M_55, Mem.no, Mem.no, M_121, Mem.no, Mem.no] Z := hS
        replace hm : Fr 91 a [(6, .bool false), (7, v_6), (9, v_18), (10, v_57), (12, v_109), (63, .int .i64 (t_37.1.length : Int)), (64, .int .i64 (w64 (x_111 + 1)))] := hm.keep [6, 7, 9, 10, 12, 63, 64]
        exact ⟨(x_106.set (x_111).toNat 777), w64 (x_111 + 1), v_109, N_105, M_121, H, hm, (Sep.sel hS [0, 1, 2, 3, 1003, 1004, 6, 1006, 1007] (by decide)), le_105, ho_122⟩
      · rw [if_neg hc_115] at H
        refine c_cond_f hm rfl (decide_eq_false hc_115) ?_
        refine wp_exit (x_then_x (x_then_x (x_block_t ?_)))
        replace hS : Sep w0 w_112 [N_105, M_4, M_19, M_55, Mem.no, Mem.no, M_107, Mem.no, Mem.no] Z := hS
        replace hm : Fr 91 a [(6, .bool false), (7, v_6), (9, v_18), (10, v_57), (12, v_109)] := hm.keep [6, 7, 9, 10, 12]
        exact x_then_n (hJ_j_69 x_106 H _ _ ⟨v_109, N_105, M_107, hm, (Sep.sel hS [0, 1, 2, 3, 1003, 1004, 6, 1006, 1007] (by decide)), le_105, ho_110⟩)
    clear hKJ_52
    replace hS : Sep w0 w_51 [N_40, M_4, M_19, M_28, M_32, Mem.one g_35 (.cells ([.int .i64 t_22.2.Err, v_30, .int .i64 t_22.2.N] : List Value).toArray 28 (0, 0)), M_43, M_47, Mem.one g_50 (.cells ([.int .i64 t_37.2.Err, v_45, .int .i64 t_37.2.N] : List Value).toArray 28 (0, 0))] Z := hS
    replace hm : Fr 91 a [(6, .bool false), (7, v_6), (9, v_18), (10, v_26), (12, v_41), (54, .int .i64 (t_22.1.length : Int)), (55, .int .i64 0)] := hm.keep [6, 7, 9, 10, 12, 54, 55]
    refine c_block ?_
    refine c_loop (fun k_130 a w_130 => ∃ (x_124 : List Int) (x_129 : Int) (v_127 : Value) (N_123 : Mem) (M_125 : Mem), hocketlaw6_LockOwn.L2 K t_22 (fun v => hocketlaw6_LockOwn.J2 K t_37 x_3 t_16 v) k_130 (x_124, x_129) = some r ∧ Fr 91 a [(6, .bool false), (7, v_6), (9, v_18), (10, v_127), (12, v_41), (54, .int .i64 (t_22.1.length : Int)), (55, .int .i64 x_129)] ∧ Sep w0 w_130 [N_123, M_4, M_19, M_125, Mem.no, Mem.no, M_43, Mem.no, Mem.no] Z ∧ N_40.le N_123 ∧ Own (Kd.int .i64) 3 M_125 Mem.no v_127 x_124) K ⟨t_22.1, 0, v_26, N_40, M_28, H, hm, (Sep.sel hS [0, 1, 2, 3, 1003, 1004, 6, 1006, 1007] (by decide)), (Mem.le.refl _), hr_27⟩ (fun a w h => by obtain ⟨_, _, _, _, _, H, _⟩ := h; cases (show (none : Option (Unit)) = some r from H)) ?_
    clear hm hS a H
    rintro k_130 a w_130 KL_130 hKL_130 ⟨x_124, x_129, v_127, N_123, M_125, H, hm, hS, le_123, ho_128⟩
    replace H : hocketlaw6_LockOwn.B2 K t_22 (fun v => hocketlaw6_LockOwn.J2 K t_37 x_3 t_16 v) (hocketlaw6_LockOwn.L2 K t_22 (fun v => hocketlaw6_LockOwn.J2 K t_37 x_3 t_16 v) k_130) x_124 x_129 = some r := H
    unfold hocketlaw6_LockOwn.B2 at H
    refine wp_seq ?_
    refine wp_region_lit ?_
    refine s_cmp (b := decide (x_129 < (t_22.1.length : Int))) hm rfl rfl rfl (.inr (.inr (.inl ⟨rfl, rfl⟩))) ?_
    clear hm a; intro a hm
    refine wpList_nil ?_
    replace hm : Fr 91 a [(6, .bool false), (7, v_6), (9, v_18), (10, v_127), (12, v_41), (54, .int .i64 (t_22.1.length : Int)), (55, .int .i64 x_129), (56, .bool (decide (x_129 < (t_22.1.length : Int))))] := hm.keep [6, 7, 9, 10, 12, 54, 55, 56]
    refine x_then_n ?_
    refine c_seq fun KJ_132 hKJ_132 => ?_
    by_cases hc_133 : x_129 < (t_22.1.length : Int)
    · rw [if_pos hc_133] at H
      refine c_cond_t hm rfl (decide_eq_true hc_133) ?_
      refine wp_skip ?_
      refine x_then_n (hKJ_132 _ _ ?_)
      refine wp_seq ?_
      refine c_block ?_
      refine wp_seq ?_
      refine wp_region_lit ?_
      refine s_move hm rfl rfl ?_
      clear hm a; intro a hm
      refine s_assign hm rfl rfl ?_
      clear hm a; intro a hm
      refine wpList_nil ?_
      replace hm : Fr 91 a [(6, .bool false), (7, v_6), (9, v_18), (10, v_127), (12, v_41), (14, .int .i64 x_129), (54, .int .i64 (t_22.1.length : Int)), (55, .int .i64 x_129)] := hm.keep [6, 7, 9, 10, 12, 14, 54, 55]
      refine x_then_n ?_
      refine wp_region_lit ?_
      refine s_move hm rfl rfl ?_
      clear hm a; intro a hm
      refine s_move hm rfl rfl ?_
      clear hm a; intro a hm
      obtain ⟨t_134, et_134, H⟩ := Option.bind_eq_some_iff.1 H
      refine s_indexOwn hm rfl Try.underlying22 ti3 rfl rfl rfl ho_128 et_134 ?_
      intro g_135 cur_136 hM_137
      clear hm a; intro a hm
      obtain ⟨w_138, M_139, hs', hS', ho_140⟩ := Own.stored (P := Try.prog) (p := 3) (t := 3) (o := 0) (nv := .int .i64 777) (vs := [.int .i64 777]) (u' := 777) hS rfl ho_128 hM_137 et_134 ti3 rfl rfl rfl (by intro u hu; simp only [List.mem_cons, List.not_mem_nil, or_false] at hu; rcases hu with rfl <;> rfl) (fun cs hk => by obtain rfl := (show cs = [_] from hk); rfl)
      refine s_store hm rfl rfl hs' ?_
      replace hS : Sep w0 w_138 [N_123, M_4, M_19, M_139, Mem.no, Mem.no, M_43, Mem.no, Mem.no] Z := hS'
      clear hs' hS'
      refine wpList_nil ?_
      replace hm : Fr 91 a [(6, .bool false), (7, v_6), (9, v_18), (10, v_127), (12, v_41), (54, .int .i64 (t_22.1.length : Int)), (55, .int .i64 x_129)] := hm.keep [6, 7, 9, 10, 12, 54, 55]
      refine x_block_n ?_
      refine x_then_n ?_
      refine wp_region_lit ?_
      refine s_arith (r := w64 (x_129 + 1)) hm rfl rfl rfl (.inl ⟨rfl, rfl⟩) ?_
      clear hm a; intro a hm
      refine s_move hm rfl rfl ?_
      clear hm a; intro a hm
      refine wpList_nil ?_
      replace hm : Fr 91 a [(6, .bool false), (7, v_6), (9, v_18), (10, v_127), (12, v_41), (54, .int .i64 (t_22.1.length : Int)), (55, .int .i64 (w64 (x_129 + 1)))] := hm.keep [6, 7, 9, 10, 12, 54, 55]
      refine x_then_n (hKL_130 _ _ ?_)
      replace hS : Sep w0 w_138 [N_123, M_4, M_19, M_139, Mem.no, Mem.no, M_43, Mem.no, Mem.no] Z := hS
      replace hm : Fr 91 a [(6, .bool false), (7, v_6), (9, v_18), (10, v_127), (12, v_41), (54, .int .i64 (t_22.1.length : Int)), (55, .int .i64 (w64 (x_129 + 1)))] := hm.keep [6, 7, 9, 10, 12, 54, 55]
      exact ⟨(x_124.set (x_129).toNat 777), w64 (x_129 + 1), v_127, N_123, M_139, H, hm, (Sep.sel hS [0, 1, 2, 3, 1003, 1004, 6, 1006, 1007] (by decide)), le_123, ho_140⟩
    · rw [if_neg hc_133] at H
      refine c_cond_f hm rfl (decide_eq_false hc_133) ?_
      refine wp_exit (x_then_x (x_then_x (x_block_t ?_)))
      replace hS : Sep w0 w_130 [N_123, M_4, M_19, M_125, Mem.no, Mem.no, M_43, Mem.no, Mem.no] Z := hS
      replace hm : Fr 91 a [(6, .bool false), (7, v_6), (9, v_18), (10, v_127), (12, v_41)] := hm.keep [6, 7, 9, 10, 12]
      exact x_then_n (hJ_j_60 x_124 H _ _ ⟨v_127, N_123, M_125, hm, (Sep.sel hS [0, 1, 2, 3, 1003, 1004, 6, 1006, 1007] (by decide)), le_123, ho_128⟩)
  clear hKJ_1
  have hS' := hS.room
  replace hS : Sep w0 w [Mem.no, Mem.no] Z := hS'
  clear hS'
  replace hS : Sep w0 w [Mem.no, Mem.no] Z := hS
  replace hm : Fr 91 a [(0, p0_0), (1, .int .i64 x1), (2, .int .i64 x2), (6, .bool false), (7, .slice none 0 0), (8, .int .i64 0)] := hm.keep [0, 1, 2, 6, 7, 8]
  refine c_block ?_
  refine c_loop (fun k_148 a w_148 => ∃ (x_142 : List Int) (x_147 : Int) (v_145 : Value) (N_141 : Mem) (M_143 : Mem), hocketlaw6_LockOwn.L3 K x0 (fun v => hocketlaw6_LockOwn.J1 K x1 x2 v) k_148 (x_142, x_147) = some r ∧ Fr 91 a [(0, p0_0), (1, .int .i64 x1), (2, .int .i64 x2), (6, .bool false), (7, v_145), (8, .int .i64 x_147)] ∧ Sep w0 w_148 [N_141, M_143] Z ∧ Mem.no.le N_141 ∧ Own (Kd.int .i64) 3 M_143 Mem.no v_145 x_142) K ⟨([] : List Int), 0, .slice none 0 0, Mem.no, Mem.no, H, hm, (Sep.sel hS [0, 1] (by decide)), (Mem.le.refl _), (Own.nil (Kd.int .i64) 3 Mem.no)⟩ (fun a w h => by obtain ⟨_, _, _, _, _, H, _⟩ := h; cases (show (none : Option (Unit)) = some r from H)) ?_
  clear hm hS a H
  rintro k_148 a w_148 KL_148 hKL_148 ⟨x_142, x_147, v_145, N_141, M_143, H, hm, hS, le_141, ho_146⟩
  replace H : hocketlaw6_LockOwn.B3 K x0 (fun v => hocketlaw6_LockOwn.J1 K x1 x2 v) (hocketlaw6_LockOwn.L3 K x0 (fun v => hocketlaw6_LockOwn.J1 K x1 x2 v) k_148) x_142 x_147 = some r := H
  unfold hocketlaw6_LockOwn.B3 at H
  refine c_seq fun KJ_151 hKJ_151 => ?_
  refine c_seq fun KJ_152 hKJ_152 => ?_
  have hJ_j_156 : ∀ (x_154 : Bool), hocketlaw6_LockOwn.J4 K x0 x_147 x_142 (hocketlaw6_LockOwn.L3 K x0 (fun v => hocketlaw6_LockOwn.J1 K x1 x2 v) k_148) (fun v => hocketlaw6_LockOwn.J1 K x1 x2 v) x_154 = some r → ∀ (a : Act) (w_155 : World), (∃ (N_153 : Mem), Fr 91 a [(0, p0_0), (1, .int .i64 x1), (2, .int .i64 x2), (6, .bool false), (7, v_145), (8, .int .i64 x_147), (23, .bool x_154)] ∧ Sep w0 w_155 [N_153, M_143] Z ∧ N_141.le N_153) → KJ_152 a w_155 := by
    clear H hm hS a
    rintro x_154 H a w_155 ⟨N_153, hm, hS, le_153⟩
    unfold hocketlaw6_LockOwn.J4 at H
    refine hKJ_152 _ _ ?_
    by_cases hc_157 : x_154 = true
    · rw [if_pos hc_157] at H
      refine c_cond_t hm rfl hc_157 ?_
      refine wp_skip ?_
      refine x_then_n (hKJ_151 _ _ ?_)
      refine wp_seq ?_
      refine c_block ?_
      refine wp_region_lit ?_
      refine s_move hm rfl rfl ?_
      clear hm a; intro a hm
      refine s_move hm rfl rfl ?_
      clear hm a; intro a hm
      refine s_move hm rfl rfl ?_
      clear hm a; intro a hm
      obtain ⟨t_158, et_158, H⟩ := Option.bind_eq_some_iff.1 H
      refine v_index hm rfl Try.underlying22 ti3 rfl rfl rfl hp0_0 (hA.trans hS.old) et_158 ?_
      intro ad_159 cs_160 hk_161 hc_162
      obtain rfl := (show cs_160 = [.int .i64 t_158] from hk_161)
      clear hm a; intro a hm
      refine s_load hm rfl rfl (el_one (o := 0) hc_162 Try.underlying3 rfl rfl) ?_
      clear hm a; intro a hm
      refine s_bits (i := t_158) (j := 7) (r := band .i64 t_158 7) hm rfl rfl rfl (.inl ⟨rfl, rfl⟩) ?_
      clear hm a; intro a hm
      obtain ⟨t_163, et_163, H⟩ := Option.bind_eq_some_iff.1 H
      refine s_call hm rfl Try.call13 rfl (lock_Take.calls K x_142 _ (band .i64 t_158 7) t_163 w0 _ _ _ (Mem.le.refl _) (hS.enter [] (by decide)) (ho_146.rd (hS.own_zed [] 0 (by decide)) (Mem.no_le _)) et_163) ?_
      rintro _ w_164 ⟨v_167, v_171, N_165, M_169, M_173, rfl, hS', hr_168, hr_172⟩
      clear hm a; intro a hm
      obtain ⟨N_166, hS'', le_166, ln_166⟩ := hS.call [] (by decide) rfl (l' := []) (ow := [M_169, M_173]) rfl hS'
      replace hS : Sep w0 w_164 [N_166, M_143, M_169, M_173] Z := hS''
      clear hS' hS''
      refine s_move hm rfl rfl ?_
      clear hm a; intro a hm
      refine s_extract hm rfl rfl rfl ?_
      clear hm a; intro a hm
      refine s_extract hm rfl rfl rfl ?_
      clear hm a; intro a hm
      refine s_assign hm rfl rfl ?_
      clear hm a; intro a hm
      refine wpList_nil ?_
      replace hm : Fr 91 a [(0, p0_0), (1, .int .i64 x1), (2, .int .i64 x2), (6, .bool false), (7, v_167), (8, .int .i64 x_147)] := hm.keep [0, 1, 2, 6, 7, 8]
      refine x_block_n ?_
      refine x_then_n ?_
      refine wp_region_lit ?_
      refine s_move hm rfl rfl ?_
      clear hm a; intro a hm
      refine s_arith (r := w64 (x_147 + 1)) hm rfl rfl rfl (.inl ⟨rfl, rfl⟩) ?_
      clear hm a; intro a hm
      refine s_assign hm rfl rfl ?_
      clear hm a; intro a hm
      refine wpList_nil ?_
      replace hm : Fr 91 a [(0, p0_0), (1, .int .i64 x1), (2, .int .i64 x2), (6, .bool false), (7, v_167), (8, .int .i64 (w64 (x_147 + 1)))] := hm.keep [0, 1, 2, 6, 7, 8]
      refine x_then_n (hKL_148 _ _ ?_)
      replace hS : Sep w0 w_164 [N_166, M_143, M_169, M_173] Z := hS
      replace hm : Fr 91 a [(0, p0_0), (1, .int .i64 x1), (2, .int .i64 x2), (6, .bool false), (7, v_167), (8, .int .i64 (w64 (x_147 + 1)))] := hm.keep [0, 1, 2, 6, 7, 8]
      exact ⟨t_163.1, w64 (x_147 + 1), v_167, N_166, M_169, H, hm, (Sep.sel hS [0, 2] (by decide)), (le_141.trans (le_153.trans le_166)), hr_168⟩
    · rw [if_neg hc_157] at H
      refine c_cond_f hm rfl (Bool.eq_false_iff.2 hc_157) ?_
      refine wp_exit (x_then_x (x_then_x (x_block_t ?_)))
      replace hS : Sep w0 w_155 [N_153, M_143] Z := hS
      replace hm : Fr 91 a [(1, .int .i64 x1), (2, .int .i64 x2), (6, .bool false), (7, v_145)] := hm.keep [1, 2, 6, 7]
      exact x_then_n (hJ_j_9 x_142 H _ _ ⟨v_145, N_153, M_143, hm, (Sep.sel hS [0, 1] (by decide)), (le_141.trans le_153), ho_146⟩)
  clear hKJ_152
  refine wp_region_lit ?_
  refine s_move hm rfl rfl ?_
  clear hm a; intro a hm
  refine s_move hm rfl rfl ?_
  clear hm a; intro a hm
  refine s_len hm rfl Try.underlying22 rfl hp0_0 ?_
  clear hm a; intro a hm
  refine s_cmp (b := decide (x_147 < (x0.length : Int))) hm rfl rfl rfl (.inr (.inr (.inl ⟨rfl, rfl⟩))) ?_
  clear hm a; intro a hm
  refine s_move hm rfl rfl ?_
  clear hm a; intro a hm
  by_cases hc_175 : x_147 < (x0.length : Int)
  · rw [if_pos hc_175] at H
    refine s_on hm rfl rfl (decide_eq_true hc_175) ?_
    refine s_move hm rfl rfl ?_
    clear hm a; intro a hm
    refine s_on hm rfl rfl (decide_eq_true hc_175) ?_
    refine s_cmp (b := decide (x_147 < 20)) hm rfl rfl rfl (.inr (.inr (.inl ⟨rfl, rfl⟩))) ?_
    clear hm a; intro a hm
    refine s_pick_t hm rfl rfl (decide_eq_true hc_175) rfl ?_
    clear hm a; intro a hm
    refine wpList_nil ?_
    replace hm : Fr 91 a [(0, p0_0), (1, .int .i64 x1), (2, .int .i64 x2), (6, .bool false), (7, v_145), (8, .int .i64 x_147), (23, .bool (decide (x_147 < 20)))] := hm.keep [0, 1, 2, 6, 7, 8, 23]
    replace hS : Sep w0 w_148 [N_141, M_143] Z := hS
    replace hm : Fr 91 a [(0, p0_0), (1, .int .i64 x1), (2, .int .i64 x2), (6, .bool false), (7, v_145), (8, .int .i64 x_147), (23, .bool (decide (x_147 < 20)))] := hm.keep [0, 1, 2, 6, 7, 8, 23]
    exact x_then_n (hJ_j_156 (decide (x_147 < 20)) H _ _ ⟨N_141, hm, (Sep.sel hS [0, 1] (by decide)), (Mem.le.refl _)⟩)
  · rw [if_neg hc_175] at H
    refine s_off hm rfl rfl rfl (decide_eq_false hc_175) ?_
    clear hm a; intro a hm
    refine s_off hm rfl rfl rfl (decide_eq_false hc_175) ?_
    clear hm a; intro a hm
    refine s_pick_f hm rfl rfl (decide_eq_false hc_175) rfl ?_
    clear hm a; intro a hm
    refine wpList_nil ?_
    replace hm : Fr 91 a [(0, p0_0), (1, .int .i64 x1), (2, .int .i64 x2), (6, .bool false), (7, v_145), (8, .int .i64 x_147), (23, .bool false)] := hm.keep [0, 1, 2, 6, 7, 8, 23]
    replace hS : Sep w0 w_148 [N_141, M_143] Z := hS
    replace hm : Fr 91 a [(0, p0_0), (1, .int .i64 x1), (2, .int .i64 x2), (6, .bool false), (7, v_145), (8, .int .i64 x_147), (23, .bool false)] := hm.keep [0, 1, 2, 6, 7, 8, 23]
    exact x_then_n (hJ_j_156 false H _ _ ⟨N_141, hm, (Sep.sel hS [0, 1] (by decide)), (Mem.le.refl _)⟩)


end Go.Proofs
