/- What the calls do: each function once. -/
import Derived.Test.YteojmbigbifklaaFacts
namespace Go.Proofs
open Go.Gp
set_option linter.unusedVariables false
set_option maxHeartbeats 4000000 in
theorem slices_Clone_sint_int.calls (x0 : List Int) (p0_0 : Value) (r : List Int) (w0 w : World) (Z A : Mem) (hA : A.le Z) (hS : Sep w0 w [] Z) (hp0_0 : Rd (Kd.int .i64) A p0_0 x0)
    (H : slices_Clone_sint_int.f x0 = some r) :
    Calls Try.prog 39 [p0_0].toArray w (Ret fun v w' => ∃ (u0 : Value) (N : Mem) (M0 : Mem), v = u0 ∧ Sep w0 w' [N, M0] Z ∧ Own (Kd.int .i64) 3 M0 Mem.no u0 r) := by
  unfold slices_Clone_sint_int.f at H
  refine f_enter _ Try.func39 rfl Try.ntmps39 rfl fun a hm => ?_
  replace hm : Fr 8 a [(0, p0_0)] := hm
  replace hS := hS.start
  replace hS : Sep w0 w [Mem.no] Z := hS
  refine wp_seq ?_
  refine wp_region_lit ?_
  refine s_assign hm rfl rfl ?_
  clear hm a; intro a hm
  refine wpList_nil ?_
  replace hm : Fr 8 a [(0, p0_0)] := hm.keep [0]
  refine x_then_n ?_
  refine c_seq fun KJ hKJ => ?_
  refine wp_seq ?_
  refine wp_region_lit ?_
  refine s_move hm rfl rfl ?_
  clear hm a; intro a hm
  refine s_slNil hm rfl Try.underlying22 rfl hp0_0 fun b hb => ?_
  clear hm a; intro a hm
  refine wpList_nil ?_
  refine x_then_n ?_
  cases b with
  | true =>
    have hx := hb rfl
    subst hx
    refine c_cond_t hm rfl rfl ?_
    refine wp_seq ?_
    refine wp_region_lit ?_
    refine s_assign hm rfl rfl ?_
    clear hm a; intro a hm
    refine wpList_nil ?_
    replace hm : Fr 8 a [(2, .slice none 0 0)] := hm.keep [2]
    refine x_then_n ?_
    refine wp_ret (x_then_r ?_)
    obtain rfl := (app_some H).2
    replace hS := hS.room
    exact f_ret hm (rs := [.tmp 2]) rfl (.tmp rfl .nil) ⟨_, rfl, _, Mem.no, Mem.no, rfl, hS, Own.nil _ _ _⟩
  | false =>
    refine c_cond_f hm rfl rfl ?_
    refine wp_skip ?_
    refine x_then_n (hKJ _ _ ?_)
    refine wp_seq ?_
    refine wp_region_lit ?_
    have hq5 : Reps (Kd.int .i64) Mem.no ([] : List Int) _ := (Reps.nil (Kd.int .i64) _)
    refine s_buildSlice hm rfl Try.underlying22 ti3 rfl rfl rfl .nil rfl rfl rfl hS hq5 rfl ?_
    intro w1 v2 M3 hS' ho4
    clear hm a; intro a hm
    replace hS : Sep w0 w1 [Mem.no, M3] Z := hS'
    clear hS' hq5
    refine s_move hm rfl rfl ?_
    clear hm a; intro a hm
    refine s_append (J := Mem.no) (I' := Mem.no) (p := 1) 17592186044416 hm rfl rfl rfl Try.underlying22 ti3 rfl rfl rfl rfl hS rfl ho4 (Src.flat (flat_int .i64) (hp0_0.src (hA.trans hS.old))) (Mem.le.refl _) (Mem.le.refl _) H ?_
    intro w8 v9 M10 hS' ho11
    clear hm a; intro a hm
    refine s_assign hm rfl rfl ?_
    clear hm a; intro a hm
    refine wpList_nil ?_
    replace hm : Fr 8 a [(2, v9)] := hm.keep [2]
    refine x_then_n ?_
    refine wp_ret ?_
    exact f_ret hm (rs := [.tmp 2]) rfl (.tmp rfl .nil) ⟨_, rfl, _, Mem.no, M10, rfl, hS', ho11⟩

set_option maxHeartbeats 4000000 in
set_option maxRecDepth 20000 in
theorem slices_Index_sint_int.calls (K : Nat) (x0 : List Int) (p0_0 : Value) (x1 : Int) (r : Int) (w0 w : World) (Z A : Mem) (hA : A.le Z) (hS : Sep w0 w [] Z) (hp0_0 : Rd (Kd.int .i64) A p0_0 x0)
    (H : slices_Index_sint_int.f K x0 x1 = some r) :
    Calls Try.prog 40 [p0_0, .int .i64 x1].toArray w (Ret fun v w' => ∃ (N : Mem), v = .int .i64 r ∧ Sep w0 w' [N] Z) := by
  unfold slices_Index_sint_int.f at H
  refine f_enter _ Try.func40 rfl Try.ntmps40 rfl fun a hm => ?_
  replace hm : Fr 19 a [(0, p0_0), (1, .int .i64 x1)] := hm
  replace hS := hS.start
  replace hS : Sep w0 w [Mem.no] Z := hS
  refine wp_seq ?_
  refine wp_region_lit ?_
  refine s_assign hm rfl rfl ?_
  clear hm a; intro a hm
  refine wpList_nil ?_
  replace hm : Fr 19 a [(0, p0_0), (1, .int .i64 x1), (4, .int .i64 0)] := hm.keep [0, 1, 4]
  refine x_then_n ?_
  refine c_seq fun KJ_1 hKJ_1 => ?_
  refine wp_seq ?_
  refine wp_region_lit ?_
  refine s_move hm rfl rfl ?_
  clear hm a; intro a hm
  refine s_len hm rfl Try.underlying22 rfl hp0_0 ?_
  clear hm a; intro a hm
  refine s_move hm rfl rfl ?_
  clear hm a; intro a hm
  refine wpList_nil ?_
  replace hm : Fr 19 a [(0, p0_0), (1, .int .i64 x1), (4, .int .i64 0), (7, .int .i64 (x0.length : Int)), (8, .int .i64 0)] := hm.keep [0, 1, 4, 7, 8]
  refine x_then_n ?_
  have hJ_j_4 : slices_Index_sint_int.J1 K = some r → ∀ (a : Act) (w_3 : World), (∃ (N_2 : Mem), Fr 19 a [(4, .int .i64 0)] ∧ Sep w0 w_3 [N_2] Z ∧ Mem.no.le N_2) → KJ_1 a w_3 := by
    clear H hm hS a
    rintro H a w_3 ⟨N_2, hm, hS, le_2⟩
    unfold slices_Index_sint_int.J1 at H
    refine hKJ_1 _ _ ?_
    refine wp_seq ?_
    refine wp_region_lit ?_
    refine s_assign hm rfl rfl ?_
    clear hm a; intro a hm
    refine wpList_nil ?_
    replace hm : Fr 19 a [(4, .int .i64 (-1))] := hm.keep [4]
    refine x_then_n ?_
    refine wp_ret ?_
    obtain rfl := Option.some.inj H
    exact f_ret hm (rs := [.tmp 4]) rfl (.tmp rfl .nil) ⟨_, rfl, N_2, rfl, (Sep.sel hS [0] (by decide))⟩
  clear hKJ_1
  replace hS : Sep w0 w [Mem.no] Z := hS
  replace hm : Fr 19 a [(0, p0_0), (1, .int .i64 x1), (4, .int .i64 0), (7, .int .i64 (x0.length : Int)), (8, .int .i64 0)] := hm.keep [0, 1, 4, 7, 8]
  refine c_block ?_
  refine c_loop (fun k_7 a w_7 => ∃ (x_6 : Int) (N_5 : Mem), slices_Index_sint_int.L1 K x0 x1 (fun v => slices_Index_sint_int.J1 K) k_7 x_6 = some r ∧ Fr 19 a [(0, p0_0), (1, .int .i64 x1), (4, .int .i64 0), (7, .int .i64 (x0.length : Int)), (8, .int .i64 x_6)] ∧ Sep w0 w_7 [N_5] Z ∧ Mem.no.le N_5) K ⟨0, Mem.no, H, hm, (Sep.sel hS [0] (by decide)), (Mem.le.refl _)⟩ (fun a w h => by obtain ⟨_, _, H, _⟩ := h; cases (show (none : Option (Int)) = some r from H)) ?_
  clear hm hS a H
  rintro k_7 a w_7 KL_7 hKL_7 ⟨x_6, N_5, H, hm, hS, le_5⟩
  replace H : slices_Index_sint_int.B1 K x0 x1 (fun v => slices_Index_sint_int.J1 K) (slices_Index_sint_int.L1 K x0 x1 (fun v => slices_Index_sint_int.J1 K) k_7) x_6 = some r := H
  unfold slices_Index_sint_int.B1 at H
  refine wp_seq ?_
  refine wp_region_lit ?_
  refine s_cmp (b := decide (x_6 < (x0.length : Int))) hm rfl rfl rfl (.inr (.inr (.inl ⟨rfl, rfl⟩))) ?_
  clear hm a; intro a hm
  refine wpList_nil ?_
  replace hm : Fr 19 a [(0, p0_0), (1, .int .i64 x1), (4, .int .i64 0), (7, .int .i64 (x0.length : Int)), (8, .int .i64 x_6), (9, .bool (decide (x_6 < (x0.length : Int))))] := hm.keep [0, 1, 4, 7, 8, 9]
  refine x_then_n ?_
  refine c_seq fun KJ_9 hKJ_9 => ?_
  by_cases hc_10 : x_6 < (x0.length : Int)
  · rw [if_pos hc_10] at H
    refine c_cond_t hm rfl (decide_eq_true hc_10) ?_
    refine wp_skip ?_
    refine x_then_n (hKJ_9 _ _ ?_)
    refine c_seq fun KJ_11 hKJ_11 => ?_
    refine c_block ?_
    refine wp_seq ?_
    refine wp_region_lit ?_
    refine s_move hm rfl rfl ?_
    clear hm a; intro a hm
    refine s_assign hm rfl rfl ?_
    clear hm a; intro a hm
    refine wpList_nil ?_
    replace hm : Fr 19 a [(0, p0_0), (1, .int .i64 x1), (4, .int .i64 0), (5, .int .i64 x_6), (7, .int .i64 (x0.length : Int)), (8, .int .i64 x_6)] := hm.keep [0, 1, 4, 5, 7, 8]
    refine x_then_n ?_
    refine wp_seq ?_
    refine wp_region_lit ?_
    refine s_move hm rfl rfl ?_
    clear hm a; intro a hm
    refine s_move hm rfl rfl ?_
    clear hm a; intro a hm
    refine s_move hm rfl rfl ?_
    clear hm a; intro a hm
    obtain ⟨t_12, et_12, H⟩ := Option.bind_eq_some_iff.1 H
    refine v_index hm rfl Try.underlying22 ti3 rfl rfl rfl hp0_0 (hA.trans hS.old) et_12 ?_
    intro ad_13 cs_14 hk_15 hc_16
    obtain rfl := (show cs_14 = [.int .i64 t_12] from hk_15)
    clear hm a; intro a hm
    refine s_load hm rfl rfl (el_one (o := 0) hc_16 Try.underlying3 rfl rfl) ?_
    clear hm a; intro a hm
    refine s_cmp (b := (x1 == t_12)) hm rfl rfl rfl (.inl ⟨rfl, rfl⟩) ?_
    clear hm a; intro a hm
    refine wpList_nil ?_
    replace hm : Fr 19 a [(0, p0_0), (1, .int .i64 x1), (4, .int .i64 0), (5, .int .i64 x_6), (7, .int .i64 (x0.length : Int)), (8, .int .i64 x_6), (16, .bool (x1 == t_12))] := hm.keep [0, 1, 4, 5, 7, 8, 16]
    refine x_then_n ?_
    by_cases hc_17 : x1 = t_12
    · rw [if_pos hc_17] at H
      refine c_cond_t hm rfl (beq_iff_eq.2 hc_17) ?_
      refine wp_seq ?_
      refine wp_region_lit ?_
      refine s_move hm rfl rfl ?_
      clear hm a; intro a hm
      refine s_assign hm rfl rfl ?_
      clear hm a; intro a hm
      refine wpList_nil ?_
      replace hm : Fr 19 a [(0, p0_0), (1, .int .i64 x1), (4, .int .i64 x_6), (7, .int .i64 (x0.length : Int)), (8, .int .i64 x_6)] := hm.keep [0, 1, 4, 7, 8]
      refine x_then_n ?_
      refine wp_ret (x_block_r (x_then_r (x_then_r (x_block_r (x_then_r ?_)))))
      obtain rfl := Option.some.inj H
      exact f_ret hm (rs := [.tmp 4]) rfl (.tmp rfl .nil) ⟨_, rfl, N_5, rfl, (Sep.sel hS [0] (by decide))⟩
    · rw [if_neg hc_17] at H
      refine c_cond_f hm rfl (beq_eq_false_iff_ne.2 hc_17) ?_
      refine wp_skip ?_
      refine x_block_n ?_
      refine x_then_n (hKJ_11 _ _ ?_)
      refine wp_region_lit ?_
      refine s_arith (r := w64 (x_6 + 1)) hm rfl rfl rfl (.inl ⟨rfl, rfl⟩) ?_
      clear hm a; intro a hm
      refine s_move hm rfl rfl ?_
      clear hm a; intro a hm
      refine wpList_nil ?_
      replace hm : Fr 19 a [(0, p0_0), (1, .int .i64 x1), (4, .int .i64 0), (7, .int .i64 (x0.length : Int)), (8, .int .i64 (w64 (x_6 + 1)))] := hm.keep [0, 1, 4, 7, 8]
      refine x_then_n (hKL_7 _ _ ?_)
      replace hS : Sep w0 w_7 [N_5] Z := hS
      replace hm : Fr 19 a [(0, p0_0), (1, .int .i64 x1), (4, .int .i64 0), (7, .int .i64 (x0.length : Int)), (8, .int .i64 (w64 (x_6 + 1)))] := hm.keep [0, 1, 4, 7, 8]
      exact ⟨w64 (x_6 + 1), N_5, H, hm, (Sep.sel hS [0] (by decide)), le_5⟩
  · rw [if_neg hc_10] at H
    refine c_cond_f hm rfl (decide_eq_false hc_10) ?_
    refine wp_exit (x_then_x (x_then_x (x_block_t ?_)))
    replace hS : Sep w0 w_7 [N_5] Z := hS
    replace hm : Fr 19 a [(4, .int .i64 0)] := hm.keep [4]
    exact x_then_n (hJ_j_4  H _ _ ⟨N_5, hm, (Sep.sel hS [0] (by decide)), le_5⟩)

set_option maxHeartbeats 4000000 in
set_option maxRecDepth 20000 in
theorem slices_Delete_sint_int.calls (x0 : List Int) (p0_0 : Value) (M0_0 : Mem) (x1 : Int) (x2 : Int) (r : (List Int)) (w0 w : World) (Z A : Mem) (hA : A.le Z) (hS : Sep w0 w [M0_0] Z) (hp0_0 : Own (Kd.int .i64) 3 M0_0 Mem.no p0_0 x0)
    (H : slices_Delete_sint_int.f x0 x1 x2 = some r) :
    Calls Try.prog 41 [p0_0, .int .i64 x1, .int .i64 x2].toArray w (Ret fun v w' => ∃ (u0 : Value) (N : Mem) (M0 : Mem), v = u0 ∧ Sep w0 w' [N, Mem.no, M0] Z ∧ Own (Kd.int .i64) 3 M0 Mem.no u0 r) := by
  unfold slices_Delete_sint_int.f at H
  refine f_enter _ Try.func41 rfl Try.ntmps41 rfl fun a hm => ?_
  replace hm : Fr 33 a [(0, p0_0), (1, .int .i64 x1), (2, .int .i64 x2)] := hm
  replace hS := hS.start
  replace hS : Sep w0 w [Mem.no, M0_0] Z := hS
  refine wp_seq ?_
  refine wp_region_lit ?_
  refine s_assign hm rfl rfl ?_
  clear hm a; intro a hm
  refine wpList_nil ?_
  replace hm : Fr 33 a [(0, p0_0), (1, .int .i64 x1), (2, .int .i64 x2), (6, .slice none 0 0)] := hm.keep [0, 1, 2, 6]
  refine x_then_n ?_
  refine wp_seq ?_
  refine wp_region_lit ?_
  refine s_move hm rfl rfl ?_
  clear hm a; intro a hm
  refine s_move hm rfl rfl ?_
  clear hm a; intro a hm
  refine s_move hm rfl rfl ?_
  clear hm a; intro a hm
  refine s_move hm rfl rfl ?_
  clear hm a; intro a hm
  refine s_lenO hm rfl Try.underlying22 rfl hp0_0 ?_
  clear hm a; intro a hm
  obtain ⟨u_1, eu_1, H⟩ := Option.bind_eq_some_iff.1 H
  refine s_slice3 hm rfl Try.underlying22 ti3 rfl rfl rfl rfl hp0_0 (must_some eu_1) ?_
  intro v_2
  clear hm a; intro a hm
  refine wpList_nil ?_
  replace hm : Fr 33 a [(0, p0_0), (1, .int .i64 x1), (2, .int .i64 x2), (6, .slice none 0 0)] := hm.keep [0, 1, 2, 6]
  refine x_then_n ?_
  refine c_seq fun KJ_3 hKJ_3 => ?_
  refine wp_seq ?_
  refine wp_region_lit ?_
  refine s_move hm rfl rfl ?_
  clear hm a; intro a hm
  refine s_move hm rfl rfl ?_
  clear hm a; intro a hm
  refine s_cmp (b := (x1 == x2)) hm rfl rfl rfl (.inl ⟨rfl, rfl⟩) ?_
  clear hm a; intro a hm
  refine wpList_nil ?_
  replace hm : Fr 33 a [(0, p0_0), (1, .int .i64 x1), (2, .int .i64 x2), (6, .slice none 0 0), (16, .bool (x1 == x2))] := hm.keep [0, 1, 2, 6, 16]
  refine x_then_n ?_
  by_cases hc_4 : x1 = x2
  · rw [if_pos hc_4] at H
    refine c_cond_t hm rfl (beq_iff_eq.2 hc_4) ?_
    refine wp_seq ?_
    refine wp_region_lit ?_
    refine s_move hm rfl rfl ?_
    clear hm a; intro a hm
    refine s_assign hm rfl rfl ?_
    clear hm a; intro a hm
    refine wpList_nil ?_
    replace hm : Fr 33 a [(0, p0_0), (1, .int .i64 x1), (2, .int .i64 x2), (6, p0_0)] := hm.keep [0, 1, 2, 6]
    refine x_then_n ?_
    refine wp_ret (x_then_r ?_)
    obtain rfl := Option.some.inj H
    exact f_ret hm (rs := [.tmp 6]) rfl (.tmp rfl .nil) ⟨_, rfl, p0_0, Mem.no, M0_0, rfl, (Sep.sel hS [0, 1000, 1] (by decide)), hp0_0⟩
  · rw [if_neg hc_4] at H
    refine c_cond_f hm rfl (beq_eq_false_iff_ne.2 hc_4) ?_
    refine wp_skip ?_
    refine x_then_n (hKJ_3 _ _ ?_)
    refine wp_seq ?_
    refine wp_region_lit ?_
    refine s_move hm rfl rfl ?_
    clear hm a; intro a hm
    refine s_lenO hm rfl Try.underlying22 rfl hp0_0 ?_
    clear hm a; intro a hm
    refine s_assign hm rfl rfl ?_
    clear hm a; intro a hm
    refine wpList_nil ?_
    replace hm : Fr 33 a [(0, p0_0), (1, .int .i64 x1), (2, .int .i64 x2), (6, .slice none 0 0), (7, .int .i64 (x0.length : Int))] := hm.keep [0, 1, 2, 6, 7]
    refine x_then_n ?_
    refine c_seq fun KJ_5 hKJ_5 => ?_
    refine h_begin (S := fun w => Sep w0 w [Mem.no, Mem.no] Z) 8 (by kernel_rfl) rfl [false, false, false, false, false, false, false, false].toArray rfl hS fun w_6 hS => ?_
    replace hS : Sep w0 w_6 [Mem.no, M0_0] Z := hS
    refine h_take 0 [true, false, false, false, false, false, false, false].toArray rfl (by kernel_rfl) (by kernel_rfl) (by kernel_rfl) (fun _ _ _ _ h => h) rfl rfl rfl rfl hm (hS.sub (.cons (Mem.le.refl _) (.cons (Mem.no_le _) (Sub.nil _)))) (v := p0_0) (fun w hS => r_move hm rfl) ?_
    clear hm a; intro a hm
    refine h_take 1 [true, true, false, false, false, false, false, false].toArray rfl (by kernel_rfl) (by kernel_rfl) (by kernel_rfl) (fun _ _ _ _ h => h) rfl rfl rfl rfl hm (hS.sub (.cons (Mem.le.refl _) (.cons (Mem.no_le _) (Sub.nil _)))) (v := .int .i64 x1) (fun w hS => r_move hm rfl) ?_
    clear hm a; intro a hm
    refine h_takeE 2 [true, true, true, false, false, false, false, false].toArray rfl (by kernel_rfl) (by kernel_rfl) (by kernel_rfl) (fun _ _ _ _ h => h) rfl rfl rfl rfl hm (hS.sub (.cons (Mem.le.refl _) (.cons (Mem.no_le _) (Sub.nil _)))) (f := fun v => v) (r_piece hm Try.underlying22 ti3 rfl rfl hp0_0 (hp0_0.room) rfl rfl (by have := (must_some eu_1); (try simp only [List.length_append, List.length_take, List.length_drop]); omega)) ?_
    intro v_7 hq_8
    clear hm a; intro a hm
    refine h_take 3 [true, true, true, true, false, false, false, false].toArray rfl (by kernel_rfl) (by kernel_rfl) (by kernel_rfl) (fun _ _ _ _ h => h) rfl rfl rfl rfl hm (hS.sub (.cons (Mem.le.refl _) (.cons (Mem.no_le _) (Sub.nil _)))) (v := p0_0) (fun w hS => r_move hm rfl) ?_
    clear hm a; intro a hm
    refine h_take 4 [true, true, true, true, true, false, false, false].toArray rfl (by kernel_rfl) (by kernel_rfl) (by kernel_rfl) (fun _ _ _ _ h => h) rfl rfl rfl rfl hm (hS.sub (.cons (Mem.le.refl _) (.cons (Mem.no_le _) (Sub.nil _)))) (v := .int .i64 x2) (fun w hS => r_move hm rfl) ?_
    clear hm a; intro a hm
    refine h_takeE 5 [true, true, true, true, true, true, false, false].toArray rfl (by kernel_rfl) (by kernel_rfl) (by kernel_rfl) (fun _ _ _ _ h => h) rfl rfl rfl rfl hm (hS.sub (.cons (Mem.le.refl _) (.cons (Mem.no_le _) (Sub.nil _)))) (f := fun v => v) (r_piece hm Try.underlying22 ti3 rfl rfl hp0_0 (hp0_0.room) rfl rfl (by have := (must_some eu_1); (try simp only [List.length_append, List.length_take, List.length_drop]); omega)) ?_
    intro v_9 hq_10
    clear hm a; intro a hm
    refine h_event 6 [true, true, true, true, true, true, true, false].toArray rfl (by kernel_rfl) rfl ?_
    refine s_appendP (p := 1) hm rfl Try.underlying22 ti3 rfl rfl rfl hp0_0 (by simpa using hq_8) hq_10 (by have := (must_some eu_1); omega) (by have := (must_some eu_1); omega) hS rfl ?_
    intro w_11 v_12 M_13 hS' ho_14 hr_15
    clear hm a; intro a hm
    replace hS : Sep w0 w_11 [Mem.no, M_13] Z := hS'
    clear hS'
    refine wpList_nil ?_
    refine x_then_n ⟨(hS.sub (.cons (Mem.le.refl _) (.cons (Mem.no_le _) (Sub.nil _)))), ?_⟩
    refine h_take 7 [true, true, true, true, true, true, true, true].toArray rfl (by kernel_rfl) (by kernel_rfl) (by kernel_rfl) (fun _ _ _ _ h => h) rfl rfl rfl rfl hm (hS.sub (.cons (Mem.le.refl _) (.cons (Mem.no_le _) (Sub.nil _)))) (v := v_12) (fun w hS => r_assign hm rfl) ?_
    clear hm a; intro a hm
    refine h_done (by kernel_rfl) ?_
    replace hm : Fr 33 a [(0, v_12), (6, .slice none 0 0), (7, .int .i64 (x0.length : Int))] := hm.keep [0, 6, 7]
    refine x_then_n (hKJ_5 _ _ ?_)
    refine wp_seq ?_
    refine wp_region_lit ?_
    refine s_move hm rfl rfl ?_
    clear hm a; intro a hm
    refine s_move hm rfl rfl ?_
    clear hm a; intro a hm
    refine s_lenO hm rfl Try.underlying22 rfl ho_14 ?_
    clear hm a; intro a hm
    refine s_move hm rfl rfl ?_
    clear hm a; intro a hm
    refine s_piece hm rfl Try.underlying22 ti3 rfl rfl ho_14 (hr_15) rfl rfl (by have := (must_some eu_1); (try simp only [List.length_append, List.length_take, List.length_drop]); omega) ?_
    intro v_17 hq_18
    clear hm a; intro a hm
    refine s_clearP (p := 1) hm Try.underlying22 ti3 rfl (by intro u hu; simp only [List.mem_cons, List.not_mem_nil, or_false] at hu; rcases hu with rfl <;> rfl) rfl ho_14 hq_18 (Nat.le_of_eq (Int.toNat_natCast _).symm) hS rfl ?_
    intro w_19 M_20 hS' ho_21
    replace hS : Sep w0 w_19 [Mem.no, M_20] Z := hS'
    clear hS'
    refine wpList_nil ?_
    replace hm : Fr 33 a [(0, v_12), (6, .slice none 0 0)] := hm.keep [0, 6]
    refine x_then_n ?_
    refine wp_seq ?_
    refine wp_region_lit ?_
    refine s_move hm rfl rfl ?_
    clear hm a; intro a hm
    refine s_assign hm rfl rfl ?_
    clear hm a; intro a hm
    refine wpList_nil ?_
    replace hm : Fr 33 a [(6, v_12)] := hm.keep [6]
    refine x_then_n ?_
    refine wp_ret ?_
    obtain rfl := Option.some.inj H
    exact f_ret hm (rs := [.tmp 6]) rfl (.tmp rfl .nil) ⟨_, rfl, v_12, Mem.no, M_20, rfl, (Sep.sel hS [0, 1000, 1] (by decide)), ho_21⟩

set_option maxHeartbeats 4000000 in
set_option maxRecDepth 20000 in
theorem lock_Free.calls (K : Nat) (x0 : List Int) (p0_0 : Value) (x1 : Int) (r : (List Int) × api_Result) (w0 w : World) (Z A : Mem) (hA : A.le Z) (hS : Sep w0 w [] Z) (hp0_0 : Rd (Kd.int .i64) A p0_0 x0)
    (H : lock_Free.f K x0 x1 = some r) :
    Calls Try.prog 12 [p0_0, .int .i64 x1].toArray w (Ret fun v w' => ∃ (u0 : Value) (u1 : Value) (N : Mem) (M0 : Mem) (M1 : Mem), v = .tuple [u0, .agg [.int .i64 r.2.Err, u1, .int .i64 r.2.N].toArray].toArray ∧ Sep w0 w' [N, M0, M1] Z ∧ Own (Kd.int .i64) 3 M0 Mem.no u0 r.1 ∧ Own Kd.u8 5 M1 Mem.no u1 r.2.Val) := by
  unfold lock_Free.f at H
  refine f_enter _ Try.func12 rfl Try.ntmps12 rfl fun a hm => ?_
  replace hm : Fr 30 a [(0, p0_0), (1, .int .i64 x1)] := hm
  replace hS := hS.start
  replace hS : Sep w0 w [Mem.no] Z := hS
  refine wp_seq ?_
  refine wp_region_lit ?_
  refine s_assign hm rfl rfl ?_
  clear hm a; intro a hm
  refine v_alloc hm rfl ti28 hS ?_
  intro w_1 g_2 hS'
  clear hm a; intro a hm
  replace hS : Sep w0 w_1 [Mem.no, Mem.one g_2 (.cells ([.int .i64 0, .slice none 0 0, .int .i64 0] : List Value).toArray 28 (0, 0))] Z := hS'
  clear hS'
  refine wpList_nil ?_
  replace hm : Fr 30 a [(0, p0_0), (1, .int .i64 x1), (4, .slice none 0 0), (5, .pointer (some ⟨g_2, 0, none⟩))] := hm.keep [0, 1, 4, 5]
  refine x_then_n ?_
  refine wp_seq ?_
  refine wp_region_lit ?_
  refine s_move hm rfl rfl ?_
  clear hm a; intro a hm
  obtain ⟨t_3, et_3, H⟩ := Option.bind_eq_some_iff.1 H
  refine s_call hm rfl Try.call39 rfl (slices_Clone_sint_int.calls x0 _ t_3 w0 _ _ _ (Mem.le.refl _) (hS.enter [] (by decide)) (hp0_0.mono (hA.trans (hS.le_zed []))) et_3) ?_
  rintro v_7 w_4 ⟨_, N_5, M_9, rfl, hS', hr_8⟩
  clear hm a; intro a hm
  obtain ⟨N_6, hS'', le_6, ln_6⟩ := hS.call [] (by decide) rfl (l' := []) (ow := [M_9]) rfl hS'
  replace hS : Sep w0 w_4 [N_6, Mem.one g_2 (.cells ([.int .i64 0, .slice none 0 0, .int .i64 0] : List Value).toArray 28 (0, 0)), M_9] Z := hS''
  clear hS' hS''
  refine s_assign hm rfl rfl ?_
  clear hm a; intro a hm
  refine wpList_nil ?_
  replace hm : Fr 30 a [(0, v_7), (1, .int .i64 x1), (4, .slice none 0 0), (5, .pointer (some ⟨g_2, 0, none⟩))] := hm.keep [0, 1, 4, 5]
  refine x_then_n ?_
  refine wp_seq ?_
  refine wp_region_lit ?_
  refine s_move hm rfl rfl ?_
  clear hm a; intro a hm
  refine s_move hm rfl rfl ?_
  clear hm a; intro a hm
  obtain ⟨t_11, et_11, H⟩ := Option.bind_eq_some_iff.1 H
  refine s_call hm rfl Try.call40 rfl (slices_Index_sint_int.calls K t_3 _ x1 t_11 w0 _ _ _ (Mem.le.refl _) (hS.enter [] (by decide)) (hr_8.rd (hS.own_zed [] 1 (by decide)) (Mem.no_le _)) et_11) ?_
  rintro _ w_12 ⟨N_13, rfl, hS'⟩
  clear hm a; intro a hm
  obtain ⟨N_14, hS'', le_14, ln_14⟩ := hS.call [] (by decide) rfl (l' := []) (ow := []) rfl hS'
  replace hS : Sep w0 w_12 [N_14, Mem.one g_2 (.cells ([.int .i64 0, .slice none 0 0, .int .i64 0] : List Value).toArray 28 (0, 0)), M_9] Z := hS''
  clear hS' hS''
  refine s_assign hm rfl rfl ?_
  clear hm a; intro a hm
  refine wpList_nil ?_
  replace hm : Fr 30 a [(0, v_7), (4, .slice none 0 0), (5, .pointer (some ⟨g_2, 0, none⟩)), (6, .int .i64 t_11)] := hm.keep [0, 4, 5, 6]
  refine x_then_n ?_
  refine c_seq fun KJ_15 hKJ_15 => ?_
  refine wp_seq ?_
  refine wp_region_lit ?_
  refine s_move hm rfl rfl ?_
  clear hm a; intro a hm
  refine s_cmp (b := decide (t_11 < 0)) hm rfl rfl rfl (.inr (.inr (.inl ⟨rfl, rfl⟩))) ?_
  clear hm a; intro a hm
  refine wpList_nil ?_
  replace hm : Fr 30 a [(0, v_7), (4, .slice none 0 0), (5, .pointer (some ⟨g_2, 0, none⟩)), (6, .int .i64 t_11), (13, .bool (decide (t_11 < 0)))] := hm.keep [0, 4, 5, 6, 13]
  refine x_then_n ?_
  by_cases hc_16 : t_11 < 0
  · rw [if_pos hc_16] at H
    refine c_cond_t hm rfl (decide_eq_true hc_16) ?_
    refine wp_seq ?_
    refine wp_region_lit ?_
    refine s_move hm rfl rfl ?_
    clear hm a; intro a hm
    refine s_build hm rfl ti28 pl28 rfl (.cons rfl .nil) (cs := [.int .i64 5, .slice none 0 0, .int .i64 0]) rfl ?_
    clear hm a; intro a hm
    refine s_assign hm rfl rfl ?_
    clear hm a; intro a hm
    obtain ⟨w_17, hs', hS'⟩ := hS.store (P := Try.prog) (p := 1) (o := 0) (t := 28) (v := .agg ([.int .i64 5, .slice none 0 0, .int .i64 0] : List Value).toArray) (vs := [.int .i64 5, .slice none 0 0, .int .i64 0]) rfl ti28 rfl rfl rfl (by intro u hu; simp only [List.mem_cons, List.not_mem_nil, or_false] at hu; rcases hu with rfl | rfl | rfl <;> rfl)
    refine s_store hm rfl rfl hs' ?_
    replace hS : Sep w0 w_17 [N_14, Mem.one g_2 (.cells ([.int .i64 5, .slice none 0 0, .int .i64 0] : List Value).toArray 28 (0, 0)), M_9] Z := hS'
    clear hs' hS'
    refine wpList_nil ?_
    replace hm : Fr 30 a [(0, v_7), (4, v_7), (5, .pointer (some ⟨g_2, 0, none⟩)), (6, .int .i64 t_11)] := hm.keep [0, 4, 5, 6]
    refine x_then_n ?_
    refine wp_ret (x_then_r ?_)
    have hS' := hS.room
    replace hS : Sep w0 w_17 [N_14, Mem.one g_2 (.cells ([.int .i64 5, .slice none 0 0, .int .i64 0] : List Value).toArray 28 (0, 0)), M_9, Mem.no] Z := hS'
    clear hS'
    replace hS : Sep w0 w_17 [N_14, Mem.one g_2 (.cells ([.int .i64 5, .slice none 0 0, .int .i64 0] : List Value).toArray 28 (0, 0)), M_9, Mem.no] Z := hS
    obtain rfl := Option.some.inj H
    exact f_ret hm (rs := [.tmp 4, .cell 5 28]) rfl (.tmp rfl (.cell rfl (hS.load_agg (p := 1) (us := [.int .i64 5, .slice none 0 0, .int .i64 0]) rfl Try.underlying28 rfl ti28 rfl rfl) .nil)) ⟨_, rfl, v_7, .slice none 0 0, N_14, M_9, Mem.no, rfl, (Sep.sel hS [0, 2, 3] (by decide)), hr_8, (Own.nil Kd.u8 5 Mem.no)⟩
  · rw [if_neg hc_16] at H
    refine c_cond_f hm rfl (decide_eq_false hc_16) ?_
    refine wp_skip ?_
    refine x_then_n (hKJ_15 _ _ ?_)
    refine wp_seq ?_
    refine wp_region_lit ?_
    refine s_move hm rfl rfl ?_
    clear hm a; intro a hm
    refine s_move hm rfl rfl ?_
    clear hm a; intro a hm
    refine s_move hm rfl rfl ?_
    clear hm a; intro a hm
    refine s_arith (r := w64 (t_11 + 1)) hm rfl rfl rfl (.inl ⟨rfl, rfl⟩) ?_
    clear hm a; intro a hm
    obtain ⟨t_19, et_19, H⟩ := Option.bind_eq_some_iff.1 H
    refine s_call hm rfl Try.call41 rfl (slices_Delete_sint_int.calls t_3 _ _ t_11 (w64 (t_11 + 1)) t_19 w0 _ _ _ (Mem.le.refl _) (hS.enter [1] (by decide)) hr_8 et_19) ?_
    rintro v_23 w_20 ⟨_, N_21, M_25, rfl, hS', hr_24⟩
    clear hm a; intro a hm
    obtain ⟨N_22, hS'', le_22, ln_22⟩ := hS.call [1] (by decide) rfl (l' := [Mem.no]) (ow := [M_25]) rfl hS'
    replace hS : Sep w0 w_20 [N_22, Mem.one g_2 (.cells ([.int .i64 0, .slice none 0 0, .int .i64 0] : List Value).toArray 28 (0, 0)), Mem.no, M_25] Z := hS''
    clear hS' hS''
    refine s_assign hm rfl rfl ?_
    clear hm a; intro a hm
    refine wpList_nil ?_
    replace hm : Fr 30 a [(0, v_23), (4, .slice none 0 0), (5, .pointer (some ⟨g_2, 0, none⟩))] := hm.keep [0, 4, 5]
    refine x_then_n ?_
    refine c_seq fun KJ_27 hKJ_27 => ?_
    refine wp_seq ?_
    refine wp_region_lit ?_
    refine s_move hm rfl rfl ?_
    clear hm a; intro a hm
    refine s_lenO hm rfl Try.underlying22 rfl hr_24 ?_
    clear hm a; intro a hm
    refine s_cmp (b := ((t_19.length : Int) == 0)) hm rfl rfl rfl (.inl ⟨rfl, rfl⟩) ?_
    clear hm a; intro a hm
    refine wpList_nil ?_
    replace hm : Fr 30 a [(0, v_23), (4, .slice none 0 0), (5, .pointer (some ⟨g_2, 0, none⟩)), (23, .bool ((t_19.length : Int) == 0))] := hm.keep [0, 4, 5, 23]
    refine x_then_n ?_
    by_cases hc_28 : (t_19.length : Int) = 0
    · rw [if_pos hc_28] at H
      refine c_cond_t hm rfl (beq_iff_eq.2 hc_28) ?_
      refine wp_seq ?_
      refine wp_region_lit ?_
      refine s_build hm rfl ti28 pl28 rfl (.cons rfl .nil) (cs := [.int .i64 0, .slice none 0 0, .int .i64 (-1)]) rfl ?_
      clear hm a; intro a hm
      refine s_assign hm rfl rfl ?_
      clear hm a; intro a hm
      obtain ⟨w_29, hs', hS'⟩ := hS.store (P := Try.prog) (p := 1) (o := 0) (t := 28) (v := .agg ([.int .i64 0, .slice none 0 0, .int .i64 (-1)] : List Value).toArray) (vs := [.int .i64 0, .slice none 0 0, .int .i64 (-1)]) rfl ti28 rfl rfl rfl (by intro u hu; simp only [List.mem_cons, List.not_mem_nil, or_false] at hu; rcases hu with rfl | rfl | rfl <;> rfl)
      refine s_store hm rfl rfl hs' ?_
      replace hS : Sep w0 w_29 [N_22, Mem.one g_2 (.cells ([.int .i64 0, .slice none 0 0, .int .i64 (-1)] : List Value).toArray 28 (0, 0)), Mem.no, M_25] Z := hS'
      clear hs' hS'
      refine wpList_nil ?_
      replace hm : Fr 30 a [(0, v_23), (4, .slice none 0 0), (5, .pointer (some ⟨g_2, 0, none⟩))] := hm.keep [0, 4, 5]
      refine x_then_n ?_
      refine wp_ret (x_then_r ?_)
      have hS' := hS.room
      replace hS : Sep w0 w_29 [N_22, Mem.one g_2 (.cells ([.int .i64 0, .slice none 0 0, .int .i64 (-1)] : List Value).toArray 28 (0, 0)), Mem.no, M_25, Mem.no] Z := hS'
      clear hS'
      have hS' := hS.room
      replace hS : Sep w0 w_29 [N_22, Mem.one g_2 (.cells ([.int .i64 0, .slice none 0 0, .int .i64 (-1)] : List Value).toArray 28 (0, 0)), Mem.no, M_25, Mem.no, Mem.no] Z := hS'
      clear hS'
      replace hS : Sep w0 w_29 [N_22, Mem.one g_2 (.cells ([.int .i64 0, .slice none 0 0, .int .i64 (-1)] : List Value).toArray 28 (0, 0)), Mem.no, M_25, Mem.no, Mem.no] Z := hS
      obtain rfl := Option.some.inj H
      exact f_ret hm (rs := [.tmp 4, .cell 5 28]) rfl (.tmp rfl (.cell rfl (hS.load_agg (p := 1) (us := [.int .i64 0, .slice none 0 0, .int .i64 (-1)]) rfl Try.underlying28 rfl ti28 rfl rfl) .nil)) ⟨_, rfl, .slice none 0 0, .slice none 0 0, N_22, Mem.no, Mem.no, rfl, (Sep.sel hS [0, 4, 5] (by decide)), (Own.nil (Kd.int .i64) 3 Mem.no), (Own.nil Kd.u8 5 Mem.no)⟩
    · rw [if_neg hc_28] at H
      refine c_cond_f hm rfl (beq_eq_false_iff_ne.2 hc_28) ?_
      refine wp_skip ?_
      refine x_then_n (hKJ_27 _ _ ?_)
      refine c_seq fun KJ_32 hKJ_32 => ?_
      refine h_begin (S := fun w => Sep w0 w [N_22, Mem.no, Mem.no, M_25] Z) 7 (by kernel_rfl) rfl [false, false, false, false, false, false, false].toArray rfl hS fun w_33 hS => ?_
      replace hS : Sep w0 w_33 [N_22, Mem.one g_2 (.cells ([.int .i64 0, .slice none 0 0, .int .i64 0] : List Value).toArray 28 (0, 0)), Mem.no, M_25] Z := hS
      refine h_take 0 [true, false, false, false, false, false, false].toArray rfl (by kernel_rfl) (by kernel_rfl) (by kernel_rfl) (fun _ _ _ _ h => h) rfl rfl rfl rfl hm (hS.sub (.cons (Mem.le.refl _) (.cons (Mem.no_le _) (.cons (Mem.no_le _) (.cons (Mem.le.refl _) (Sub.nil _)))))) (v := v_23) (fun w hS => r_move hm rfl) ?_
      clear hm a; intro a hm
      refine h_take 1 [true, true, false, false, false, false, false].toArray rfl (by kernel_rfl) (by kernel_rfl) (by kernel_rfl) (fun _ _ _ _ h => h) rfl rfl rfl rfl hm (hS.sub (.cons (Mem.le.refl _) (.cons (Mem.no_le _) (.cons (Mem.no_le _) (.cons (Mem.le.refl _) (Sub.nil _)))))) (v := v_23) (fun w hS => r_move hm rfl) ?_
      clear hm a; intro a hm
      obtain ⟨t_34, et_34, H⟩ := Option.bind_eq_some_iff.1 H
      refine h_takeE 2 [true, true, true, false, false, false, false].toArray rfl (by kernel_rfl) (by kernel_rfl) (by kernel_rfl) (fun _ _ _ _ h => h) rfl rfl rfl rfl hm (hS.sub (.cons (Mem.le.refl _) (.cons (Mem.no_le _) (.cons (Mem.no_le _) (.cons (Mem.le.refl _) (Sub.nil _)))))) (f := fun ad => .pointer (some ad)) (r_indexO hm Try.underlying22 ti3 rfl rfl rfl hr_24 et_34) ?_
      rintro ad_35 ⟨cs_36, hk_37, hc_38⟩
      obtain rfl := (show cs_36 = [.int .i64 t_34] from hk_37)
      clear hm a; intro a hm
      refine h_take 3 [true, true, true, true, false, false, false].toArray rfl (by kernel_rfl) (by kernel_rfl) (by kernel_rfl) (fun _ _ _ _ h => h) rfl rfl rfl rfl hm (hS.sub (.cons (Mem.le.refl _) (.cons (Mem.no_le _) (.cons (Mem.no_le _) (.cons (Mem.le.refl _) (Sub.nil _)))))) (v := .int .i64 t_34) (fun w hS => r_load hm rfl (el_one (o := 0) (fun j c h => Mem.cell_le (hS.own 3) (hc_38 j c h)) Try.underlying3 rfl rfl)) ?_
      clear hm a; intro a hm
      refine h_take 4 [true, true, true, true, true, false, false].toArray rfl (by kernel_rfl) (by kernel_rfl) (by kernel_rfl) (fun _ _ _ _ h => h) rfl rfl rfl rfl hm (hS.sub (.cons (Mem.le.refl _) (.cons (Mem.no_le _) (.cons (Mem.no_le _) (.cons (Mem.le.refl _) (Sub.nil _)))))) (v := .agg ([.int .i64 0, .slice none 0 0, .int .i64 t_34] : List Value).toArray) (fun w hS => r_build hm ti28 pl28 rfl (.cons rfl .nil) (cs := [.int .i64 0, .slice none 0 0, .int .i64 t_34]) rfl) ?_
      clear hm a; intro a hm
      refine h_take 5 [true, true, true, true, true, true, false].toArray rfl (by kernel_rfl) (by kernel_rfl) (by kernel_rfl) (fun _ _ _ _ h => h) rfl rfl rfl rfl hm (hS.sub (.cons (Mem.le.refl _) (.cons (Mem.no_le _) (.cons (Mem.no_le _) (.cons (Mem.le.refl _) (Sub.nil _)))))) (v := v_23) (fun w hS => r_assign hm rfl) ?_
      clear hm a; intro a hm
      refine h_event 6 [true, true, true, true, true, true, true].toArray rfl (by kernel_rfl) rfl ?_
      obtain ⟨w_39, hs', hS'⟩ := hS.store (P := Try.prog) (p := 1) (o := 0) (t := 28) (v := .agg ([.int .i64 0, .slice none 0 0, .int .i64 t_34] : List Value).toArray) (vs := [.int .i64 0, .slice none 0 0, .int .i64 t_34]) rfl ti28 rfl rfl rfl (by intro u hu; simp only [List.mem_cons, List.not_mem_nil, or_false] at hu; rcases hu with rfl | rfl | rfl <;> rfl)
      refine s_store hm rfl rfl hs' ?_
      replace hS : Sep w0 w_39 [N_22, Mem.one g_2 (.cells ([.int .i64 0, .slice none 0 0, .int .i64 t_34] : List Value).toArray 28 (0, 0)), Mem.no, M_25] Z := hS'
      clear hs' hS'
      refine wpList_nil ?_
      refine x_then_n ⟨(hS.sub (.cons (Mem.le.refl _) (.cons (Mem.no_le _) (.cons (Mem.no_le _) (.cons (Mem.le.refl _) (Sub.nil _)))))), ?_⟩
      refine h_done (by kernel_rfl) ?_
      replace hm : Fr 30 a [(4, v_23), (5, .pointer (some ⟨g_2, 0, none⟩))] := hm.keep [4, 5]
      refine x_then_n (hKJ_32 _ _ ?_)
      refine wp_ret ?_
      have hS' := hS.room
      replace hS : Sep w0 w_39 [N_22, Mem.one g_2 (.cells ([.int .i64 0, .slice none 0 0, .int .i64 t_34] : List Value).toArray 28 (0, 0)), Mem.no, M_25, Mem.no] Z := hS'
      clear hS'
      replace hS : Sep w0 w_39 [N_22, Mem.one g_2 (.cells ([.int .i64 0, .slice none 0 0, .int .i64 t_34] : List Value).toArray 28 (0, 0)), Mem.no, M_25, Mem.no] Z := hS
      obtain rfl := Option.some.inj H
      exact f_ret hm (rs := [.tmp 4, .cell 5 28]) rfl (.tmp rfl (.cell rfl (hS.load_agg (p := 1) (us := [.int .i64 0, .slice none 0 0, .int .i64 t_34]) rfl Try.underlying28 rfl ti28 rfl rfl) .nil)) ⟨_, rfl, v_23, .slice none 0 0, N_22, M_25, Mem.no, rfl, (Sep.sel hS [0, 3, 4] (by decide)), hr_24, (Own.nil Kd.u8 5 Mem.no)⟩

set_option maxHeartbeats 4000000 in
theorem slices_Clip_sint_int.calls (v : Value) (w : World) (hf : ∃ A l c, v = .slice A l c ∧ l ≤ c) : Calls Try.prog 42 [v].toArray w (Ret fun u w' => w = w' ∧ Clipped v u) := by
  obtain ⟨A, l, c, rfl, hlc⟩ := hf
  refine f_enter _ Try.func42 rfl Try.ntmps42 rfl fun a hm => ?_
  replace hm : Fr 9 a [(0, .slice A l c)] := hm
  refine wp_seq ?_
  refine wp_region_lit ?_
  refine s_assign hm rfl rfl ?_
  clear hm a; intro a hm
  refine wpList_nil ?_
  refine x_then_n ?_
  refine wp_seq ?_
  refine wp_region_lit ?_
  refine s_move hm rfl rfl ?_
  clear hm a; intro a hm
  refine s_move hm rfl rfl ?_
  clear hm a; intro a hm
  refine s_lenV hm rfl Try.underlying22 rfl ?_
  clear hm a; intro a hm
  refine s_move hm rfl rfl ?_
  clear hm a; intro a hm
  refine s_lenV hm rfl Try.underlying22 rfl ?_
  clear hm a; intro a hm
  refine s_clip hm rfl Try.underlying22 ti3 rfl rfl rfl hlc ?_
  clear hm a; intro a hm
  refine s_assign hm rfl rfl ?_
  clear hm a; intro a hm
  refine wpList_nil ?_
  refine x_then_n ?_
  refine wp_ret ?_
  exact f_ret hm (rs := [.tmp 2]) rfl (.tmp rfl .nil) ⟨_, rfl, rfl, A, l, c, rfl, rfl⟩

set_option maxHeartbeats 4000000 in
set_option maxRecDepth 20000 in
theorem slices_Contains_sint_int.calls (K : Nat) (x0 : List Int) (p0_0 : Value) (x1 : Int) (r : Bool) (w0 w : World) (Z A : Mem) (hA : A.le Z) (hS : Sep w0 w [] Z) (hp0_0 : Rd (Kd.int .i64) A p0_0 x0)
    (H : slices_Contains_sint_int.f K x0 x1 = some r) :
    Calls Try.prog 43 [p0_0, .int .i64 x1].toArray w (Ret fun v w' => ∃ (N : Mem), v = .bool r ∧ Sep w0 w' [N] Z) := by
  unfold slices_Contains_sint_int.f at H
  refine f_enter _ Try.func43 rfl Try.ntmps43 rfl fun a hm => ?_
  replace hm : Fr 9 a [(0, p0_0), (1, .int .i64 x1)] := hm
  replace hS := hS.start
  replace hS : Sep w0 w [Mem.no] Z := hS
  refine wp_seq ?_
  refine wp_region_lit ?_
  refine s_assign hm rfl rfl ?_
  clear hm a; intro a hm
  refine wpList_nil ?_
  replace hm : Fr 9 a [(0, p0_0), (1, .int .i64 x1), (4, .bool false)] := hm.keep [0, 1, 4]
  refine x_then_n ?_
  refine wp_seq ?_
  refine wp_region_lit ?_
  refine s_move hm rfl rfl ?_
  clear hm a; intro a hm
  refine s_move hm rfl rfl ?_
  clear hm a; intro a hm
  obtain ⟨t_1, et_1, H⟩ := Option.bind_eq_some_iff.1 H
  refine s_call hm rfl Try.call40 rfl (slices_Index_sint_int.calls K x0 _ x1 t_1 w0 _ _ _ (Mem.le.refl _) (hS.enter [] (by decide)) (hp0_0.mono (hA.trans (hS.le_zed []))) et_1) ?_
  rintro _ w_2 ⟨N_3, rfl, hS'⟩
  clear hm a; intro a hm
  obtain ⟨N_4, hS'', le_4, ln_4⟩ := hS.call [] (by decide) rfl (l' := []) (ow := []) rfl hS'
  replace hS : Sep w0 w_2 [N_4] Z := hS''
  clear hS' hS''
  refine s_cmp (b := decide (t_1 ≥ 0)) hm rfl rfl rfl (.inr (.inr (.inr (.inr (.inr ⟨rfl, rfl⟩))))) ?_
  clear hm a; intro a hm
  refine s_assign hm rfl rfl ?_
  clear hm a; intro a hm
  refine wpList_nil ?_
  replace hm : Fr 9 a [(4, .bool (decide (t_1 ≥ 0)))] := hm.keep [4]
  refine x_then_n ?_
  refine wp_ret ?_
  obtain rfl := Option.some.inj H
  exact f_ret hm (rs := [.tmp 4]) rfl (.tmp rfl .nil) ⟨_, rfl, N_4, rfl, (Sep.sel hS [0] (by decide))⟩

set_option maxHeartbeats 4000000 in
set_option maxRecDepth 20000 in
theorem lock_Take.calls (K : Nat) (x0 : List Int) (p0_0 : Value) (x1 : Int) (r : (List Int) × api_Result) (w0 w : World) (Z A : Mem) (hA : A.le Z) (hS : Sep w0 w [] Z) (hp0_0 : Rd (Kd.int .i64) A p0_0 x0)
    (H : lock_Take.f K x0 x1 = some r) :
    Calls Try.prog 13 [p0_0, .int .i64 x1].toArray w (Ret fun v w' => ∃ (u0 : Value) (u1 : Value) (N : Mem) (M0 : Mem) (M1 : Mem), v = .tuple [u0, .agg [.int .i64 r.2.Err, u1, .int .i64 r.2.N].toArray].toArray ∧ Sep w0 w' [N, M0, M1] Z ∧ Own (Kd.int .i64) 3 M0 Mem.no u0 r.1 ∧ Own Kd.u8 5 M1 Mem.no u1 r.2.Val) := by
  unfold lock_Take.f at H
  refine f_enter _ Try.func13 rfl Try.ntmps13 rfl fun a hm => ?_
  replace hm : Fr 28 a [(0, p0_0), (1, .int .i64 x1)] := hm
  replace hS := hS.start
  replace hS : Sep w0 w [Mem.no] Z := hS
  refine wp_seq ?_
  refine wp_region_lit ?_
  refine s_assign hm rfl rfl ?_
  clear hm a; intro a hm
  refine v_alloc hm rfl ti28 hS ?_
  intro w_1 g_2 hS'
  clear hm a; intro a hm
  replace hS : Sep w0 w_1 [Mem.no, Mem.one g_2 (.cells ([.int .i64 0, .slice none 0 0, .int .i64 0] : List Value).toArray 28 (0, 0))] Z := hS'
  clear hS'
  refine wpList_nil ?_
  replace hm : Fr 28 a [(0, p0_0), (1, .int .i64 x1), (4, .slice none 0 0), (5, .pointer (some ⟨g_2, 0, none⟩))] := hm.keep [0, 1, 4, 5]
  refine x_then_n ?_
  refine wp_seq ?_
  refine wp_region_lit ?_
  refine s_move hm rfl rfl ?_
  clear hm a; intro a hm
  obtain ⟨t_3, et_3, H⟩ := Option.bind_eq_some_iff.1 H
  refine s_call hm rfl Try.call39 rfl (slices_Clone_sint_int.calls x0 _ t_3 w0 _ _ _ (Mem.le.refl _) (hS.enter [] (by decide)) (hp0_0.mono (hA.trans (hS.le_zed []))) et_3) ?_
  rintro v_7 w_4 ⟨_, N_5, M_9, rfl, hS', hr_8⟩
  clear hm a; intro a hm
  obtain ⟨N_6, hS'', le_6, ln_6⟩ := hS.call [] (by decide) rfl (l' := []) (ow := [M_9]) rfl hS'
  replace hS : Sep w0 w_4 [N_6, Mem.one g_2 (.cells ([.int .i64 0, .slice none 0 0, .int .i64 0] : List Value).toArray 28 (0, 0)), M_9] Z := hS''
  clear hS' hS''
  refine s_call hm rfl Try.call42 rfl (slices_Clip_sint_int.calls _ _ hr_8.slform) ?_
  rintro v_11 _ ⟨rfl, hk_12⟩
  clear hm a; intro a hm
  refine s_assign hm rfl rfl ?_
  clear hm a; intro a hm
  refine wpList_nil ?_
  replace hm : Fr 28 a [(0, v_11), (1, .int .i64 x1), (4, .slice none 0 0), (5, .pointer (some ⟨g_2, 0, none⟩))] := hm.keep [0, 1, 4, 5]
  refine x_then_n ?_
  refine c_seq fun KJ_14 hKJ_14 => ?_
  refine c_block ?_
  refine wp_seq ?_
  refine wp_region_lit ?_
  refine s_move hm rfl rfl ?_
  clear hm a; intro a hm
  refine s_move hm rfl rfl ?_
  clear hm a; intro a hm
  obtain ⟨t_15, et_15, H⟩ := Option.bind_eq_some_iff.1 H
  refine s_call hm rfl Try.call43 rfl (slices_Contains_sint_int.calls K t_3 _ x1 t_15 w0 _ _ _ (Mem.le.refl _) (hS.enter [] (by decide)) ((hr_8.clip hk_12).rd (hS.own_zed [] 1 (by decide)) (Mem.no_le _)) et_15) ?_
  rintro _ w_16 ⟨N_17, rfl, hS'⟩
  clear hm a; intro a hm
  obtain ⟨N_18, hS'', le_18, ln_18⟩ := hS.call [] (by decide) rfl (l' := []) (ow := []) rfl hS'
  replace hS : Sep w0 w_16 [N_18, Mem.one g_2 (.cells ([.int .i64 0, .slice none 0 0, .int .i64 0] : List Value).toArray 28 (0, 0)), M_9] Z := hS''
  clear hS' hS''
  refine s_assign hm rfl rfl ?_
  clear hm a; intro a hm
  refine wpList_nil ?_
  replace hm : Fr 28 a [(0, v_11), (1, .int .i64 x1), (4, .slice none 0 0), (5, .pointer (some ⟨g_2, 0, none⟩)), (9, .bool t_15)] := hm.keep [0, 1, 4, 5, 9]
  refine x_then_n ?_
  by_cases hc_19 : t_15 = true
  · rw [if_pos hc_19] at H
    refine c_cond_t hm rfl hc_19 ?_
    refine wp_seq ?_
    refine wp_region_lit ?_
    refine s_move hm rfl rfl ?_
    clear hm a; intro a hm
    refine s_build hm rfl ti28 pl28 rfl (.cons rfl .nil) (cs := [.int .i64 6, .slice none 0 0, .int .i64 0]) rfl ?_
    clear hm a; intro a hm
    refine s_assign hm rfl rfl ?_
    clear hm a; intro a hm
    obtain ⟨w_20, hs', hS'⟩ := hS.store (P := Try.prog) (p := 1) (o := 0) (t := 28) (v := .agg ([.int .i64 6, .slice none 0 0, .int .i64 0] : List Value).toArray) (vs := [.int .i64 6, .slice none 0 0, .int .i64 0]) rfl ti28 rfl rfl rfl (by intro u hu; simp only [List.mem_cons, List.not_mem_nil, or_false] at hu; rcases hu with rfl | rfl | rfl <;> rfl)
    refine s_store hm rfl rfl hs' ?_
    replace hS : Sep w0 w_20 [N_18, Mem.one g_2 (.cells ([.int .i64 6, .slice none 0 0, .int .i64 0] : List Value).toArray 28 (0, 0)), M_9] Z := hS'
    clear hs' hS'
    refine wpList_nil ?_
    replace hm : Fr 28 a [(0, v_11), (1, .int .i64 x1), (4, v_11), (5, .pointer (some ⟨g_2, 0, none⟩))] := hm.keep [0, 1, 4, 5]
    refine x_then_n ?_
    refine wp_ret (x_block_r (x_then_r ?_))
    have hS' := hS.room
    replace hS : Sep w0 w_20 [N_18, Mem.one g_2 (.cells ([.int .i64 6, .slice none 0 0, .int .i64 0] : List Value).toArray 28 (0, 0)), M_9, Mem.no] Z := hS'
    clear hS'
    replace hS : Sep w0 w_20 [N_18, Mem.one g_2 (.cells ([.int .i64 6, .slice none 0 0, .int .i64 0] : List Value).toArray 28 (0, 0)), M_9, Mem.no] Z := hS
    obtain rfl := Option.some.inj H
    exact f_ret hm (rs := [.tmp 4, .cell 5 28]) rfl (.tmp rfl (.cell rfl (hS.load_agg (p := 1) (us := [.int .i64 6, .slice none 0 0, .int .i64 0]) rfl Try.underlying28 rfl ti28 rfl rfl) .nil)) ⟨_, rfl, v_11, .slice none 0 0, N_18, M_9, Mem.no, rfl, (Sep.sel hS [0, 2, 3] (by decide)), (hr_8.clip hk_12), (Own.nil Kd.u8 5 Mem.no)⟩
  · rw [if_neg hc_19] at H
    refine c_cond_f hm rfl (Bool.eq_false_iff.2 hc_19) ?_
    refine wp_seq ?_
    refine wp_region_lit ?_
    refine s_move hm rfl rfl ?_
    clear hm a; intro a hm
    refine s_lenO hm rfl Try.underlying22 rfl (hr_8.clip hk_12) ?_
    clear hm a; intro a hm
    refine s_cmp (b := decide ((t_3.length : Int) ≥ 5)) hm rfl rfl rfl (.inr (.inr (.inr (.inr (.inr ⟨rfl, rfl⟩))))) ?_
    clear hm a; intro a hm
    refine s_assign hm rfl rfl ?_
    clear hm a; intro a hm
    refine wpList_nil ?_
    replace hm : Fr 28 a [(0, v_11), (1, .int .i64 x1), (4, .slice none 0 0), (5, .pointer (some ⟨g_2, 0, none⟩)), (15, .bool (decide ((t_3.length : Int) ≥ 5)))] := hm.keep [0, 1, 4, 5, 15]
    refine x_then_n ?_
    by_cases hc_22 : (t_3.length : Int) ≥ 5
    · rw [if_pos hc_22] at H
      refine c_cond_t hm rfl (decide_eq_true hc_22) ?_
      refine wp_seq ?_
      refine wp_region_lit ?_
      refine s_move hm rfl rfl ?_
      clear hm a; intro a hm
      refine s_build hm rfl ti28 pl28 rfl (.cons rfl .nil) (cs := [.int .i64 3, .slice none 0 0, .int .i64 0]) rfl ?_
      clear hm a; intro a hm
      refine s_assign hm rfl rfl ?_
      clear hm a; intro a hm
      obtain ⟨w_23, hs', hS'⟩ := hS.store (P := Try.prog) (p := 1) (o := 0) (t := 28) (v := .agg ([.int .i64 3, .slice none 0 0, .int .i64 0] : List Value).toArray) (vs := [.int .i64 3, .slice none 0 0, .int .i64 0]) rfl ti28 rfl rfl rfl (by intro u hu; simp only [List.mem_cons, List.not_mem_nil, or_false] at hu; rcases hu with rfl | rfl | rfl <;> rfl)
      refine s_store hm rfl rfl hs' ?_
      replace hS : Sep w0 w_23 [N_18, Mem.one g_2 (.cells ([.int .i64 3, .slice none 0 0, .int .i64 0] : List Value).toArray 28 (0, 0)), M_9] Z := hS'
      clear hs' hS'
      refine wpList_nil ?_
      replace hm : Fr 28 a [(0, v_11), (1, .int .i64 x1), (4, v_11), (5, .pointer (some ⟨g_2, 0, none⟩))] := hm.keep [0, 1, 4, 5]
      refine x_then_n ?_
      refine wp_ret (x_block_r (x_then_r ?_))
      have hS' := hS.room
      replace hS : Sep w0 w_23 [N_18, Mem.one g_2 (.cells ([.int .i64 3, .slice none 0 0, .int .i64 0] : List Value).toArray 28 (0, 0)), M_9, Mem.no] Z := hS'
      clear hS'
      replace hS : Sep w0 w_23 [N_18, Mem.one g_2 (.cells ([.int .i64 3, .slice none 0 0, .int .i64 0] : List Value).toArray 28 (0, 0)), M_9, Mem.no] Z := hS
      obtain rfl := Option.some.inj H
      exact f_ret hm (rs := [.tmp 4, .cell 5 28]) rfl (.tmp rfl (.cell rfl (hS.load_agg (p := 1) (us := [.int .i64 3, .slice none 0 0, .int .i64 0]) rfl Try.underlying28 rfl ti28 rfl rfl) .nil)) ⟨_, rfl, v_11, .slice none 0 0, N_18, M_9, Mem.no, rfl, (Sep.sel hS [0, 2, 3] (by decide)), (hr_8.clip hk_12), (Own.nil Kd.u8 5 Mem.no)⟩
    · rw [if_neg hc_22] at H
      refine c_cond_f hm rfl (decide_eq_false hc_22) ?_
      refine wp_skip ?_
      refine x_block_n ?_
      refine x_then_n (hKJ_14 _ _ ?_)
      refine wp_seq ?_
      refine wp_region_lit ?_
      refine s_move hm rfl rfl ?_
      clear hm a; intro a hm
      refine s_move hm rfl rfl ?_
      clear hm a; intro a hm
      have hq_29 : Reps (Kd.int .i64) Mem.no ([x1] : List Int) _ := ((Reps.one (d := (Kd.int .i64)) (x := x1) (show (Kd.int .i64).K _ _ [.int .i64 x1] from rfl)).append (Reps.nil (Kd.int .i64) _))
      refine s_buildSlice hm rfl Try.underlying22 ti3 rfl rfl rfl (.cons rfl .nil) rfl rfl rfl hS hq_29 rfl ?_
      intro w_25 v_26 M_27 hS' ho_28
      clear hm a; intro a hm
      replace hS : Sep w0 w_25 [N_18, Mem.one g_2 (.cells ([.int .i64 0, .slice none 0 0, .int .i64 0] : List Value).toArray 28 (0, 0)), M_9, M_27] Z := hS'
      clear hS' hq_29
      obtain ⟨t_31, et_31, H⟩ := Option.bind_eq_some_iff.1 H
      refine s_append (J := Mem.no) (I' := Mem.no) (p := 2) 17592186044416 hm rfl rfl rfl Try.underlying22 ti3 rfl rfl rfl rfl hS rfl (hr_8.clip hk_12) (Src.flat (flat_int .i64) (ho_28.src (hS.own 3))) (Mem.le.refl _) (Mem.le.refl _) et_31 ?_
      intro w_32 v_33 M_34 hS' ho_35
      clear hm a; intro a hm
      replace hS : Sep w0 w_32 [N_18, Mem.one g_2 (.cells ([.int .i64 0, .slice none 0 0, .int .i64 0] : List Value).toArray 28 (0, 0)), M_34, M_27] Z := hS'
      clear hS'
      refine s_move hm rfl rfl ?_
      clear hm a; intro a hm
      refine s_lenO hm rfl Try.underlying22 rfl (hr_8.clip hk_12) ?_
      clear hm a; intro a hm
      refine s_build hm rfl ti28 pl28 rfl (.cons rfl .nil) (cs := [.int .i64 0, .slice none 0 0, .int .i64 (t_3.length : Int)]) rfl ?_
      clear hm a; intro a hm
      refine s_assign hm rfl rfl ?_
      clear hm a; intro a hm
      obtain ⟨w_37, hs', hS'⟩ := hS.store (P := Try.prog) (p := 1) (o := 0) (t := 28) (v := .agg ([.int .i64 0, .slice none 0 0, .int .i64 (t_3.length : Int)] : List Value).toArray) (vs := [.int .i64 0, .slice none 0 0, .int .i64 (t_3.length : Int)]) rfl ti28 rfl rfl rfl (by intro u hu; simp only [List.mem_cons, List.not_mem_nil, or_false] at hu; rcases hu with rfl | rfl | rfl <;> rfl)
      refine s_store hm rfl rfl hs' ?_
      replace hS : Sep w0 w_37 [N_18, Mem.one g_2 (.cells ([.int .i64 0, .slice none 0 0, .int .i64 (t_3.length : Int)] : List Value).toArray 28 (0, 0)), M_34, M_27] Z := hS'
      clear hs' hS'
      refine wpList_nil ?_
      replace hm : Fr 28 a [(4, v_33), (5, .pointer (some ⟨g_2, 0, none⟩))] := hm.keep [4, 5]
      refine x_then_n ?_
      refine wp_ret ?_
      have hS' := hS.room
      replace hS : Sep w0 w_37 [N_18, Mem.one g_2 (.cells ([.int .i64 0, .slice none 0 0, .int .i64 (t_3.length : Int)] : List Value).toArray 28 (0, 0)), M_34, M_27, Mem.no] Z := hS'
      clear hS'
      replace hS : Sep w0 w_37 [N_18, Mem.one g_2 (.cells ([.int .i64 0, .slice none 0 0, .int .i64 (t_3.length : Int)] : List Value).toArray 28 (0, 0)), M_34, M_27, Mem.no] Z := hS
      obtain rfl := Option.some.inj H
      exact f_ret hm (rs := [.tmp 4, .cell 5 28]) rfl (.tmp rfl (.cell rfl (hS.load_agg (p := 1) (us := [.int .i64 0, .slice none 0 0, .int .i64 (t_3.length : Int)]) rfl Try.underlying28 rfl ti28 rfl rfl) .nil)) ⟨_, rfl, v_33, .slice none 0 0, N_18, M_34, Mem.no, rfl, (Sep.sel hS [0, 2, 4] (by decide)), ho_35, (Own.nil Kd.u8 5 Mem.no)⟩

set_option maxHeartbeats 4000000 in
set_option maxRecDepth 20000 in
theorem hocketref1_SameInts.calls (K : Nat) (x0 : List Int) (p0_0 : Value) (x1 : List Int) (p1_1 : Value) (r : Bool) (w0 w : World) (Z A : Mem) (hA : A.le Z) (hS : Sep w0 w [] Z) (hp0_0 : Rd (Kd.int .i64) A p0_0 x0) (hp1_1 : Rd (Kd.int .i64) A p1_1 x1)
    (H : hocketref1_SameInts.f K x0 x1 = some r) :
    Calls Try.prog 14 [p0_0, p1_1].toArray w (Ret fun v w' => ∃ (N : Mem), v = .bool r ∧ Sep w0 w' [N] Z) := by
  unfold hocketref1_SameInts.f at H
  refine f_enter _ Try.func14 rfl Try.ntmps14 rfl fun a hm => ?_
  replace hm : Fr 26 a [(0, p0_0), (1, p1_1)] := hm
  replace hS := hS.start
  replace hS : Sep w0 w [Mem.no] Z := hS
  refine wp_seq ?_
  refine wp_region_lit ?_
  refine s_assign hm rfl rfl ?_
  clear hm a; intro a hm
  refine wpList_nil ?_
  replace hm : Fr 26 a [(0, p0_0), (1, p1_1), (4, .bool false)] := hm.keep [0, 1, 4]
  refine x_then_n ?_
  refine c_seq fun KJ_1 hKJ_1 => ?_
  refine wp_seq ?_
  refine wp_region_lit ?_
  refine s_move hm rfl rfl ?_
  clear hm a; intro a hm
  refine s_len hm rfl Try.underlying22 rfl hp0_0 ?_
  clear hm a; intro a hm
  refine s_move hm rfl rfl ?_
  clear hm a; intro a hm
  refine s_len hm rfl Try.underlying22 rfl hp1_1 ?_
  clear hm a; intro a hm
  refine s_cmp (b := ((x0.length : Int) != (x1.length : Int))) hm rfl rfl rfl (.inr (.inl ⟨rfl, rfl⟩)) ?_
  clear hm a; intro a hm
  refine wpList_nil ?_
  replace hm : Fr 26 a [(0, p0_0), (1, p1_1), (4, .bool false), (10, .bool ((x0.length : Int) != (x1.length : Int)))] := hm.keep [0, 1, 4, 10]
  refine x_then_n ?_
  by_cases hc_2 : (x0.length : Int) = (x1.length : Int)
  · rw [if_pos hc_2] at H
    refine c_cond_f hm rfl (bne_eq_false_iff_eq.2 hc_2) ?_
    refine wp_skip ?_
    refine x_then_n (hKJ_1 _ _ ?_)
    refine c_seq fun KJ_3 hKJ_3 => ?_
    refine wp_seq ?_
    refine wp_region_lit ?_
    refine s_assign hm rfl rfl ?_
    clear hm a; intro a hm
    refine wpList_nil ?_
    replace hm : Fr 26 a [(0, p0_0), (1, p1_1), (4, .bool false), (5, .int .i64 0)] := hm.keep [0, 1, 4, 5]
    refine x_then_n ?_
    have hJ_j_6 : hocketref1_SameInts.J1 K = some r → ∀ (a : Act) (w_5 : World), (∃ (N_4 : Mem), Fr 26 a [(4, .bool false)] ∧ Sep w0 w_5 [N_4] Z ∧ Mem.no.le N_4) → KJ_3 a w_5 := by
      clear H hm hS a
      rintro H a w_5 ⟨N_4, hm, hS, le_4⟩
      unfold hocketref1_SameInts.J1 at H
      refine hKJ_3 _ _ ?_
      refine wp_seq ?_
      refine wp_region_lit ?_
      refine s_assign hm rfl rfl ?_
      clear hm a; intro a hm
      refine wpList_nil ?_
      replace hm : Fr 26 a [(4, .bool true)] := hm.keep [4]
      refine x_then_n ?_
      refine wp_ret ?_
      obtain rfl := Option.some.inj H
      exact f_ret hm (rs := [.tmp 4]) rfl (.tmp rfl .nil) ⟨_, rfl, N_4, rfl, (Sep.sel hS [0] (by decide))⟩
    clear hKJ_3
    replace hS : Sep w0 w [Mem.no] Z := hS
    replace hm : Fr 26 a [(0, p0_0), (1, p1_1), (4, .bool false), (5, .int .i64 0)] := hm.keep [0, 1, 4, 5]
    refine c_block ?_
    refine c_loop (fun k_9 a w_9 => ∃ (x_8 : Int) (N_7 : Mem), hocketref1_SameInts.L1 K x0 x1 (fun v => hocketref1_SameInts.J1 K) k_9 x_8 = some r ∧ Fr 26 a [(0, p0_0), (1, p1_1), (4, .bool false), (5, .int .i64 x_8)] ∧ Sep w0 w_9 [N_7] Z ∧ Mem.no.le N_7) K ⟨0, Mem.no, H, hm, (Sep.sel hS [0] (by decide)), (Mem.le.refl _)⟩ (fun a w h => by obtain ⟨_, _, H, _⟩ := h; cases (show (none : Option (Bool)) = some r from H)) ?_
    clear hm hS a H
    rintro k_9 a w_9 KL_9 hKL_9 ⟨x_8, N_7, H, hm, hS, le_7⟩
    replace H : hocketref1_SameInts.B1 K x0 x1 (fun v => hocketref1_SameInts.J1 K) (hocketref1_SameInts.L1 K x0 x1 (fun v => hocketref1_SameInts.J1 K) k_9) x_8 = some r := H
    unfold hocketref1_SameInts.B1 at H
    refine c_seq fun KJ_11 hKJ_11 => ?_
    refine wp_seq ?_
    refine wp_region_lit ?_
    refine s_move hm rfl rfl ?_
    clear hm a; intro a hm
    refine s_move hm rfl rfl ?_
    clear hm a; intro a hm
    refine s_len hm rfl Try.underlying22 rfl hp0_0 ?_
    clear hm a; intro a hm
    refine s_cmp (b := decide (x_8 < (x0.length : Int))) hm rfl rfl rfl (.inr (.inr (.inl ⟨rfl, rfl⟩))) ?_
    clear hm a; intro a hm
    refine wpList_nil ?_
    replace hm : Fr 26 a [(0, p0_0), (1, p1_1), (4, .bool false), (5, .int .i64 x_8), (14, .bool (decide (x_8 < (x0.length : Int))))] := hm.keep [0, 1, 4, 5, 14]
    refine x_then_n ?_
    by_cases hc_12 : x_8 < (x0.length : Int)
    · rw [if_pos hc_12] at H
      refine c_cond_t hm rfl (decide_eq_true hc_12) ?_
      refine wp_skip ?_
      refine x_then_n (hKJ_11 _ _ ?_)
      refine c_seq fun KJ_13 hKJ_13 => ?_
      refine c_block ?_
      refine c_seq fun KJ_14 hKJ_14 => ?_
      refine h_begin (S := fun w => Sep w0 w [N_7] Z) 9 (by kernel_rfl) rfl [false, false, false, false, false, false, false, false, false].toArray rfl hS fun w_15 hS => ?_
      replace hS : Sep w0 w_15 [N_7] Z := hS
      refine h_take 0 [true, false, false, false, false, false, false, false, false].toArray rfl (by kernel_rfl) (by kernel_rfl) (by kernel_rfl) (fun _ _ _ _ h => h) rfl rfl rfl rfl hm (hS.sub (.cons (Mem.le.refl _) (Sub.nil _))) (v := p0_0) (fun w hS => r_move hm rfl) ?_
      clear hm a; intro a hm
      refine h_take 1 [true, true, false, false, false, false, false, false, false].toArray rfl (by kernel_rfl) (by kernel_rfl) (by kernel_rfl) (fun _ _ _ _ h => h) rfl rfl rfl rfl hm (hS.sub (.cons (Mem.le.refl _) (Sub.nil _))) (v := .int .i64 x_8) (fun w hS => r_move hm rfl) ?_
      clear hm a; intro a hm
      obtain ⟨t_16, et_16, H⟩ := Option.bind_eq_some_iff.1 H
      refine h_takeE 2 [true, true, true, false, false, false, false, false, false].toArray rfl (by kernel_rfl) (by kernel_rfl) (by kernel_rfl) (fun _ _ _ _ h => h) rfl rfl rfl rfl hm (hS.sub (.cons (Mem.le.refl _) (Sub.nil _))) (f := fun ad => .pointer (some ad)) (r_index hm Try.underlying22 ti3 rfl rfl rfl hp0_0 et_16) ?_
      rintro ad_17 ⟨cs_18, hk_19, hc_20⟩
      obtain rfl := (show cs_18 = [.int .i64 t_16] from hk_19)
      clear hm a; intro a hm
      refine h_take 3 [true, true, true, true, false, false, false, false, false].toArray rfl (by kernel_rfl) (by kernel_rfl) (by kernel_rfl) (fun _ _ _ _ h => h) rfl rfl rfl rfl hm (hS.sub (.cons (Mem.le.refl _) (Sub.nil _))) (v := .int .i64 t_16) (fun w hS => r_load hm rfl (el_one (o := 0) (fun j c h => Mem.cell_le (hA.trans hS.old) (hc_20 j c h)) Try.underlying3 rfl rfl)) ?_
      clear hm a; intro a hm
      refine h_take 4 [true, true, true, true, true, false, false, false, false].toArray rfl (by kernel_rfl) (by kernel_rfl) (by kernel_rfl) (fun _ _ _ _ h => h) rfl rfl rfl rfl hm (hS.sub (.cons (Mem.le.refl _) (Sub.nil _))) (v := p1_1) (fun w hS => r_move hm rfl) ?_
      clear hm a; intro a hm
      refine h_take 5 [true, true, true, true, true, true, false, false, false].toArray rfl (by kernel_rfl) (by kernel_rfl) (by kernel_rfl) (fun _ _ _ _ h => h) rfl rfl rfl rfl hm (hS.sub (.cons (Mem.le.refl _) (Sub.nil _))) (v := .int .i64 x_8) (fun w hS => r_move hm rfl) ?_
      clear hm a; intro a hm
      obtain ⟨t_21, et_21, H⟩ := Option.bind_eq_some_iff.1 H
      refine h_takeE 6 [true, true, true, true, true, true, true, false, false].toArray rfl (by kernel_rfl) (by kernel_rfl) (by kernel_rfl) (fun _ _ _ _ h => h) rfl rfl rfl rfl hm (hS.sub (.cons (Mem.le.refl _) (Sub.nil _))) (f := fun ad => .pointer (some ad)) (r_index hm Try.underlying22 ti3 rfl rfl rfl hp1_1 et_21) ?_
      rintro ad_22 ⟨cs_23, hk_24, hc_25⟩
      obtain rfl := (show cs_23 = [.int .i64 t_21] from hk_24)
      clear hm a; intro a hm
      refine h_take 7 [true, true, true, true, true, true, true, true, false].toArray rfl (by kernel_rfl) (by kernel_rfl) (by kernel_rfl) (fun _ _ _ _ h => h) rfl rfl rfl rfl hm (hS.sub (.cons (Mem.le.refl _) (Sub.nil _))) (v := .int .i64 t_21) (fun w hS => r_load hm rfl (el_one (o := 0) (fun j c h => Mem.cell_le (hA.trans hS.old) (hc_25 j c h)) Try.underlying3 rfl rfl)) ?_
      clear hm a; intro a hm
      refine h_take 8 [true, true, true, true, true, true, true, true, true].toArray rfl (by kernel_rfl) (by kernel_rfl) (by kernel_rfl) (fun _ _ _ _ h => h) rfl rfl rfl rfl hm (hS.sub (.cons (Mem.le.refl _) (Sub.nil _))) (v := .bool (t_16 != t_21)) (fun w hS => r_cmp (b := (t_16 != t_21)) hm rfl rfl (.inr (.inl ⟨rfl, rfl⟩))) ?_
      clear hm a; intro a hm
      refine h_done (by kernel_rfl) ?_
      replace hm : Fr 26 a [(0, p0_0), (1, p1_1), (4, .bool false), (5, .int .i64 x_8), (25, .bool (t_16 != t_21))] := hm.keep [0, 1, 4, 5, 25]
      refine x_then_n (hKJ_14 _ _ ?_)
      by_cases hc_26 : t_16 = t_21
      · rw [if_pos hc_26] at H
        refine c_cond_f hm rfl (bne_eq_false_iff_eq.2 hc_26) ?_
        refine wp_skip ?_
        refine x_block_n ?_
        refine x_then_n (hKJ_13 _ _ ?_)
        refine wp_region_lit ?_
        refine s_move hm rfl rfl ?_
        clear hm a; intro a hm
        refine s_arith (r := w64 (x_8 + 1)) hm rfl rfl rfl (.inl ⟨rfl, rfl⟩) ?_
        clear hm a; intro a hm
        refine s_assign hm rfl rfl ?_
        clear hm a; intro a hm
        refine wpList_nil ?_
        replace hm : Fr 26 a [(0, p0_0), (1, p1_1), (4, .bool false), (5, .int .i64 (w64 (x_8 + 1)))] := hm.keep [0, 1, 4, 5]
        refine x_then_n (hKL_9 _ _ ?_)
        replace hS : Sep w0 w_15 [N_7] Z := hS
        replace hm : Fr 26 a [(0, p0_0), (1, p1_1), (4, .bool false), (5, .int .i64 (w64 (x_8 + 1)))] := hm.keep [0, 1, 4, 5]
        exact ⟨w64 (x_8 + 1), N_7, H, hm, (Sep.sel hS [0] (by decide)), le_7⟩
      · rw [if_neg hc_26] at H
        refine c_cond_t hm rfl (bne_iff_ne.2 hc_26) ?_
        refine wp_seq ?_
        refine wp_region_lit ?_
        refine s_assign hm rfl rfl ?_
        clear hm a; intro a hm
        refine wpList_nil ?_
        replace hm : Fr 26 a [(0, p0_0), (1, p1_1), (4, .bool false), (5, .int .i64 x_8)] := hm.keep [0, 1, 4, 5]
        refine x_then_n ?_
        refine wp_ret (x_block_r (x_then_r (x_then_r (x_block_r (x_then_r ?_)))))
        obtain rfl := Option.some.inj H
        exact f_ret hm (rs := [.tmp 4]) rfl (.tmp rfl .nil) ⟨_, rfl, N_7, rfl, (Sep.sel hS [0] (by decide))⟩
    · rw [if_neg hc_12] at H
      refine c_cond_f hm rfl (decide_eq_false hc_12) ?_
      refine wp_exit (x_then_x (x_then_x (x_block_t ?_)))
      replace hS : Sep w0 w_9 [N_7] Z := hS
      replace hm : Fr 26 a [(4, .bool false)] := hm.keep [4]
      exact x_then_n (hJ_j_6  H _ _ ⟨N_7, hm, (Sep.sel hS [0] (by decide)), le_7⟩)
  · rw [if_neg hc_2] at H
    refine c_cond_t hm rfl (bne_iff_ne.2 hc_2) ?_
    refine wp_seq ?_
    refine wp_region_lit ?_
    refine s_assign hm rfl rfl ?_
    clear hm a; intro a hm
    refine wpList_nil ?_
    replace hm : Fr 26 a [(0, p0_0), (1, p1_1), (4, .bool false)] := hm.keep [0, 1, 4]
    refine x_then_n ?_
    refine wp_ret (x_then_r ?_)
    obtain rfl := Option.some.inj H
    exact f_ret hm (rs := [.tmp 4]) rfl (.tmp rfl .nil) ⟨_, rfl, Mem.no, rfl, (Sep.sel hS [0] (by decide))⟩

set_option maxHeartbeats 4000000 in
set_option maxRecDepth 20000 in
theorem lock_Owner.calls (x0 : List Int) (p0_0 : Value) (r : api_Result) (w0 w : World) (Z A : Mem) (hA : A.le Z) (hS : Sep w0 w [] Z) (hp0_0 : Rd (Kd.int .i64) A p0_0 x0)
    (H : lock_Owner.f x0 = some r) :
    Calls Try.prog 16 [p0_0].toArray w (Ret fun v w' => ∃ (u0 : Value) (N : Mem) (M0 : Mem), v = .agg [.int .i64 r.Err, u0, .int .i64 r.N].toArray ∧ Sep w0 w' [N, M0] Z ∧ Own Kd.u8 5 M0 Mem.no u0 r.Val) := by
  unfold lock_Owner.f at H
  refine f_enter _ Try.func16 rfl Try.ntmps16 rfl fun a hm => ?_
  replace hm : Fr 11 a [(0, p0_0)] := hm
  replace hS := hS.start
  replace hS : Sep w0 w [Mem.no] Z := hS
  refine wp_seq ?_
  refine wp_region_lit ?_
  refine v_alloc hm rfl ti28 hS ?_
  intro w_1 g_2 hS'
  clear hm a; intro a hm
  replace hS : Sep w0 w_1 [Mem.no, Mem.one g_2 (.cells ([.int .i64 0, .slice none 0 0, .int .i64 0] : List Value).toArray 28 (0, 0))] Z := hS'
  clear hS'
  refine wpList_nil ?_
  replace hm : Fr 11 a [(0, p0_0), (2, .pointer (some ⟨g_2, 0, none⟩))] := hm.keep [0, 2]
  refine x_then_n ?_
  refine c_seq fun KJ_3 hKJ_3 => ?_
  refine wp_seq ?_
  refine wp_region_lit ?_
  refine s_move hm rfl rfl ?_
  clear hm a; intro a hm
  refine s_len hm rfl Try.underlying22 rfl hp0_0 ?_
  clear hm a; intro a hm
  refine s_cmp (b := ((x0.length : Int) == 0)) hm rfl rfl rfl (.inl ⟨rfl, rfl⟩) ?_
  clear hm a; intro a hm
  refine wpList_nil ?_
  replace hm : Fr 11 a [(0, p0_0), (2, .pointer (some ⟨g_2, 0, none⟩)), (5, .bool ((x0.length : Int) == 0))] := hm.keep [0, 2, 5]
  refine x_then_n ?_
  by_cases hc_4 : (x0.length : Int) = 0
  · rw [if_pos hc_4] at H
    refine c_cond_t hm rfl (beq_iff_eq.2 hc_4) ?_
    refine wp_seq ?_
    refine wp_region_lit ?_
    refine s_build hm rfl ti28 pl28 rfl (.cons rfl .nil) (cs := [.int .i64 5, .slice none 0 0, .int .i64 0]) rfl ?_
    clear hm a; intro a hm
    obtain ⟨w_5, hs', hS'⟩ := hS.store (P := Try.prog) (p := 1) (o := 0) (t := 28) (v := .agg ([.int .i64 5, .slice none 0 0, .int .i64 0] : List Value).toArray) (vs := [.int .i64 5, .slice none 0 0, .int .i64 0]) rfl ti28 rfl rfl rfl (by intro u hu; simp only [List.mem_cons, List.not_mem_nil, or_false] at hu; rcases hu with rfl | rfl | rfl <;> rfl)
    refine s_store hm rfl rfl hs' ?_
    replace hS : Sep w0 w_5 [Mem.no, Mem.one g_2 (.cells ([.int .i64 5, .slice none 0 0, .int .i64 0] : List Value).toArray 28 (0, 0))] Z := hS'
    clear hs' hS'
    refine wpList_nil ?_
    replace hm : Fr 11 a [(0, p0_0), (2, .pointer (some ⟨g_2, 0, none⟩))] := hm.keep [0, 2]
    refine x_then_n ?_
    refine wp_ret (x_then_r ?_)
    have hS' := hS.room
    replace hS : Sep w0 w_5 [Mem.no, Mem.one g_2 (.cells ([.int .i64 5, .slice none 0 0, .int .i64 0] : List Value).toArray 28 (0, 0)), Mem.no] Z := hS'
    clear hS'
    replace hS : Sep w0 w_5 [Mem.no, Mem.one g_2 (.cells ([.int .i64 5, .slice none 0 0, .int .i64 0] : List Value).toArray 28 (0, 0)), Mem.no] Z := hS
    obtain rfl := Option.some.inj H
    exact f_ret hm (rs := [.cell 2 28]) rfl (.cell rfl (hS.load_agg (p := 1) (us := [.int .i64 5, .slice none 0 0, .int .i64 0]) rfl Try.underlying28 rfl ti28 rfl rfl) .nil) ⟨_, rfl, .slice none 0 0, Mem.no, Mem.no, rfl, (Sep.sel hS [0, 2] (by decide)), (Own.nil Kd.u8 5 Mem.no)⟩
  · rw [if_neg hc_4] at H
    refine c_cond_f hm rfl (beq_eq_false_iff_ne.2 hc_4) ?_
    refine wp_skip ?_
    refine x_then_n (hKJ_3 _ _ ?_)
    refine wp_seq ?_
    refine wp_region_lit ?_
    refine s_move hm rfl rfl ?_
    clear hm a; intro a hm
    obtain ⟨t_7, et_7, H⟩ := Option.bind_eq_some_iff.1 H
    refine v_index hm rfl Try.underlying22 ti3 rfl rfl rfl hp0_0 (hA.trans hS.old) et_7 ?_
    intro ad_8 cs_9 hk_10 hc_11
    obtain rfl := (show cs_9 = [.int .i64 t_7] from hk_10)
    clear hm a; intro a hm
    refine s_load hm rfl rfl (el_one (o := 0) hc_11 Try.underlying3 rfl rfl) ?_
    clear hm a; intro a hm
    refine s_build hm rfl ti28 pl28 rfl (.cons rfl .nil) (cs := [.int .i64 0, .slice none 0 0, .int .i64 t_7]) rfl ?_
    clear hm a; intro a hm
    obtain ⟨w_12, hs', hS'⟩ := hS.store (P := Try.prog) (p := 1) (o := 0) (t := 28) (v := .agg ([.int .i64 0, .slice none 0 0, .int .i64 t_7] : List Value).toArray) (vs := [.int .i64 0, .slice none 0 0, .int .i64 t_7]) rfl ti28 rfl rfl rfl (by intro u hu; simp only [List.mem_cons, List.not_mem_nil, or_false] at hu; rcases hu with rfl | rfl | rfl <;> rfl)
    refine s_store hm rfl rfl hs' ?_
    replace hS : Sep w0 w_12 [Mem.no, Mem.one g_2 (.cells ([.int .i64 0, .slice none 0 0, .int .i64 t_7] : List Value).toArray 28 (0, 0))] Z := hS'
    clear hs' hS'
    refine wpList_nil ?_
    replace hm : Fr 11 a [(2, .pointer (some ⟨g_2, 0, none⟩))] := hm.keep [2]
    refine x_then_n ?_
    refine wp_ret ?_
    have hS' := hS.room
    replace hS : Sep w0 w_12 [Mem.no, Mem.one g_2 (.cells ([.int .i64 0, .slice none 0 0, .int .i64 t_7] : List Value).toArray 28 (0, 0)), Mem.no] Z := hS'
    clear hS'
    replace hS : Sep w0 w_12 [Mem.no, Mem.one g_2 (.cells ([.int .i64 0, .slice none 0 0, .int .i64 t_7] : List Value).toArray 28 (0, 0)), Mem.no] Z := hS
    obtain rfl := Option.some.inj H
    exact f_ret hm (rs := [.cell 2 28]) rfl (.cell rfl (hS.load_agg (p := 1) (us := [.int .i64 0, .slice none 0 0, .int .i64 t_7]) rfl Try.underlying28 rfl ti28 rfl rfl) .nil) ⟨_, rfl, .slice none 0 0, Mem.no, Mem.no, rfl, (Sep.sel hS [0, 2] (by decide)), (Own.nil Kd.u8 5 Mem.no)⟩

set_option maxHeartbeats 4000000 in
set_option maxRecDepth 20000 in
theorem hocketlaw6_awake.calls (K : Nat) (r : Unit) (w0 w : World) (Z A : Mem) (hA : A.le Z) (hS : Sep w0 w [] Z)
    (H : hocketlaw6_awake.f K = some r) :
    Calls Try.prog 15 [].toArray w (Ret fun v w' => ∃ (N : Mem), v = .bool true ∧ Sep w0 w' [N] Z) := by
  unfold hocketlaw6_awake.f at H
  refine f_enter _ Try.func15 rfl Try.ntmps15 rfl fun a hm => ?_
  replace hm : Fr 61 a [] := hm
  replace hS := hS.start
  replace hS : Sep w0 w [Mem.no] Z := hS
  refine wp_seq ?_
  refine wp_region_lit ?_
  refine s_assign hm rfl rfl ?_
  clear hm a; intro a hm
  refine wpList_nil ?_
  replace hm : Fr 61 a [(0, .bool false)] := hm.keep [0]
  refine x_then_n ?_
  refine wp_seq ?_
  refine wp_region_lit ?_
  obtain ⟨t_1, et_1, H⟩ := Option.bind_eq_some_iff.1 H
  refine s_call hm rfl Try.call13 rfl (lock_Take.calls K ([] : List Int) _ 7 t_1 w0 _ _ _ (Mem.le.refl _) (hS.enter [] (by decide)) (Rd.nil _ _) et_1) ?_
  rintro _ w_2 ⟨v_5, v_9, N_3, M_7, M_11, rfl, hS', hr_6, hr_10⟩
  clear hm a; intro a hm
  obtain ⟨N_4, hS'', le_4, ln_4⟩ := hS.call [] (by decide) rfl (l' := []) (ow := [M_7, M_11]) rfl hS'
  replace hS : Sep w0 w_2 [N_4, M_7, M_11] Z := hS''
  clear hS' hS''
  refine s_move hm rfl rfl ?_
  clear hm a; intro a hm
  refine s_extract hm rfl rfl rfl ?_
  clear hm a; intro a hm
  refine s_extract hm rfl rfl rfl ?_
  clear hm a; intro a hm
  refine v_alloc hm rfl ti28 hS ?_
  intro w_13 g_14 hS'
  clear hm a; intro a hm
  replace hS : Sep w0 w_13 [N_4, M_7, M_11, Mem.one g_14 (.cells ([.int .i64 0, .slice none 0 0, .int .i64 0] : List Value).toArray 28 (0, 0))] Z := hS'
  clear hS'
  refine s_assign hm rfl rfl ?_
  clear hm a; intro a hm
  obtain ⟨w_15, hs', hS'⟩ := hS.store (P := Try.prog) (p := 3) (o := 0) (t := 28) (v := .agg ([.int .i64 t_1.2.Err, v_9, .int .i64 t_1.2.N] : List Value).toArray) (vs := [.int .i64 t_1.2.Err, v_9, .int .i64 t_1.2.N]) rfl ti28 rfl rfl rfl (by intro u hu; simp only [List.mem_cons, List.not_mem_nil, or_false] at hu; rcases hu with rfl | rfl | rfl <;> first | rfl | exact hr_10.one)
  refine s_store hm rfl rfl hs' ?_
  replace hS : Sep w0 w_15 [N_4, M_7, M_11, Mem.one g_14 (.cells ([.int .i64 t_1.2.Err, v_9, .int .i64 t_1.2.N] : List Value).toArray 28 (0, 0))] Z := hS'
  clear hs' hS'
  refine wpList_nil ?_
  replace hm : Fr 61 a [(0, .bool false), (1, v_5), (2, .pointer (some ⟨g_14, 0, none⟩))] := hm.keep [0, 1, 2]
  refine x_then_n ?_
  refine wp_seq ?_
  refine wp_region_lit ?_
  refine s_move hm rfl rfl ?_
  clear hm a; intro a hm
  obtain ⟨t_16, et_16, H⟩ := Option.bind_eq_some_iff.1 H
  refine s_call hm rfl Try.call13 rfl (lock_Take.calls K t_1.1 _ 3 t_16 w0 _ _ _ (Mem.le.refl _) (hS.enter [] (by decide)) (hr_6.rd (hS.own_zed [] 0 (by decide)) (Mem.no_le _)) et_16) ?_
  rintro _ w_17 ⟨v_20, v_24, N_18, M_22, M_26, rfl, hS', hr_21, hr_25⟩
  clear hm a; intro a hm
  obtain ⟨N_19, hS'', le_19, ln_19⟩ := hS.call [] (by decide) rfl (l' := []) (ow := [M_22, M_26]) rfl hS'
  replace hS : Sep w0 w_17 [N_19, M_7, M_11, Mem.one g_14 (.cells ([.int .i64 t_1.2.Err, v_9, .int .i64 t_1.2.N] : List Value).toArray 28 (0, 0)), M_22, M_26] Z := hS''
  clear hS' hS''
  refine s_move hm rfl rfl ?_
  clear hm a; intro a hm
  refine s_extract hm rfl rfl rfl ?_
  clear hm a; intro a hm
  refine s_extract hm rfl rfl rfl ?_
  clear hm a; intro a hm
  refine v_alloc hm rfl ti28 hS ?_
  intro w_28 g_29 hS'
  clear hm a; intro a hm
  replace hS : Sep w0 w_28 [N_19, M_7, M_11, Mem.one g_14 (.cells ([.int .i64 t_1.2.Err, v_9, .int .i64 t_1.2.N] : List Value).toArray 28 (0, 0)), M_22, M_26, Mem.one g_29 (.cells ([.int .i64 0, .slice none 0 0, .int .i64 0] : List Value).toArray 28 (0, 0))] Z := hS'
  clear hS'
  refine s_assign hm rfl rfl ?_
  clear hm a; intro a hm
  obtain ⟨w_30, hs', hS'⟩ := hS.store (P := Try.prog) (p := 6) (o := 0) (t := 28) (v := .agg ([.int .i64 t_16.2.Err, v_24, .int .i64 t_16.2.N] : List Value).toArray) (vs := [.int .i64 t_16.2.Err, v_24, .int .i64 t_16.2.N]) rfl ti28 rfl rfl rfl (by intro u hu; simp only [List.mem_cons, List.not_mem_nil, or_false] at hu; rcases hu with rfl | rfl | rfl <;> first | rfl | exact hr_25.one)
  refine s_store hm rfl rfl hs' ?_
  replace hS : Sep w0 w_30 [N_19, M_7, M_11, Mem.one g_14 (.cells ([.int .i64 t_1.2.Err, v_9, .int .i64 t_1.2.N] : List Value).toArray 28 (0, 0)), M_22, M_26, Mem.one g_29 (.cells ([.int .i64 t_16.2.Err, v_24, .int .i64 t_16.2.N] : List Value).toArray 28 (0, 0))] Z := hS'
  clear hs' hS'
  refine wpList_nil ?_
  replace hm : Fr 61 a [(0, .bool false), (1, v_20), (2, .pointer (some ⟨g_14, 0, none⟩)), (3, .pointer (some ⟨g_29, 0, none⟩))] := hm.keep [0, 1, 2, 3]
  refine x_then_n ?_
  refine wp_seq ?_
  refine wp_region_lit ?_
  refine s_move hm rfl rfl ?_
  clear hm a; intro a hm
  obtain ⟨t_31, et_31, H⟩ := Option.bind_eq_some_iff.1 H
  refine s_call hm rfl Try.call13 rfl (lock_Take.calls K t_16.1 _ 7 t_31 w0 _ _ _ (Mem.le.refl _) (hS.enter [] (by decide)) (hr_21.rd (hS.own_zed [] 3 (by decide)) (Mem.no_le _)) et_31) ?_
  rintro _ w_32 ⟨v_35, v_39, N_33, M_37, M_41, rfl, hS', hr_36, hr_40⟩
  clear hm a; intro a hm
  obtain ⟨N_34, hS'', le_34, ln_34⟩ := hS.call [] (by decide) rfl (l' := []) (ow := [M_37, M_41]) rfl hS'
  replace hS : Sep w0 w_32 [N_34, M_7, M_11, Mem.one g_14 (.cells ([.int .i64 t_1.2.Err, v_9, .int .i64 t_1.2.N] : List Value).toArray 28 (0, 0)), M_22, M_26, Mem.one g_29 (.cells ([.int .i64 t_16.2.Err, v_24, .int .i64 t_16.2.N] : List Value).toArray 28 (0, 0)), M_37, M_41] Z := hS''
  clear hS' hS''
  refine s_move hm rfl rfl ?_
  clear hm a; intro a hm
  refine s_extract hm rfl rfl rfl ?_
  clear hm a; intro a hm
  refine s_extract hm rfl rfl rfl ?_
  clear hm a; intro a hm
  refine v_alloc hm rfl ti28 hS ?_
  intro w_43 g_44 hS'
  clear hm a; intro a hm
  replace hS : Sep w0 w_43 [N_34, M_7, M_11, Mem.one g_14 (.cells ([.int .i64 t_1.2.Err, v_9, .int .i64 t_1.2.N] : List Value).toArray 28 (0, 0)), M_22, M_26, Mem.one g_29 (.cells ([.int .i64 t_16.2.Err, v_24, .int .i64 t_16.2.N] : List Value).toArray 28 (0, 0)), M_37, M_41, Mem.one g_44 (.cells ([.int .i64 0, .slice none 0 0, .int .i64 0] : List Value).toArray 28 (0, 0))] Z := hS'
  clear hS'
  refine s_assign hm rfl rfl ?_
  clear hm a; intro a hm
  obtain ⟨w_45, hs', hS'⟩ := hS.store (P := Try.prog) (p := 9) (o := 0) (t := 28) (v := .agg ([.int .i64 t_31.2.Err, v_39, .int .i64 t_31.2.N] : List Value).toArray) (vs := [.int .i64 t_31.2.Err, v_39, .int .i64 t_31.2.N]) rfl ti28 rfl rfl rfl (by intro u hu; simp only [List.mem_cons, List.not_mem_nil, or_false] at hu; rcases hu with rfl | rfl | rfl <;> first | rfl | exact hr_40.one)
  refine s_store hm rfl rfl hs' ?_
  replace hS : Sep w0 w_45 [N_34, M_7, M_11, Mem.one g_14 (.cells ([.int .i64 t_1.2.Err, v_9, .int .i64 t_1.2.N] : List Value).toArray 28 (0, 0)), M_22, M_26, Mem.one g_29 (.cells ([.int .i64 t_16.2.Err, v_24, .int .i64 t_16.2.N] : List Value).toArray 28 (0, 0)), M_37, M_41, Mem.one g_44 (.cells ([.int .i64 t_31.2.Err, v_39, .int .i64 t_31.2.N] : List Value).toArray 28 (0, 0))] Z := hS'
  clear hs' hS'
  refine wpList_nil ?_
  replace hm : Fr 61 a [(0, .bool false), (1, v_20), (2, .pointer (some ⟨g_14, 0, none⟩)), (3, .pointer (some ⟨g_29, 0, none⟩)), (5, .pointer (some ⟨g_44, 0, none⟩))] := hm.keep [0, 1, 2, 3, 5]
  refine x_then_n ?_
  refine wp_seq ?_
  refine wp_region_lit ?_
  refine s_move hm rfl rfl ?_
  clear hm a; intro a hm
  obtain ⟨t_46, et_46, H⟩ := Option.bind_eq_some_iff.1 H
  refine s_call hm rfl Try.call12 rfl (lock_Free.calls K t_16.1 _ 7 t_46 w0 _ _ _ (Mem.le.refl _) (hS.enter [] (by decide)) (hr_21.rd (hS.own_zed [] 3 (by decide)) (Mem.no_le _)) et_46) ?_
  rintro _ w_47 ⟨v_50, v_54, N_48, M_52, M_56, rfl, hS', hr_51, hr_55⟩
  clear hm a; intro a hm
  obtain ⟨N_49, hS'', le_49, ln_49⟩ := hS.call [] (by decide) rfl (l' := []) (ow := [M_52, M_56]) rfl hS'
  replace hS : Sep w0 w_47 [N_49, M_7, M_11, Mem.one g_14 (.cells ([.int .i64 t_1.2.Err, v_9, .int .i64 t_1.2.N] : List Value).toArray 28 (0, 0)), M_22, M_26, Mem.one g_29 (.cells ([.int .i64 t_16.2.Err, v_24, .int .i64 t_16.2.N] : List Value).toArray 28 (0, 0)), M_37, M_41, Mem.one g_44 (.cells ([.int .i64 t_31.2.Err, v_39, .int .i64 t_31.2.N] : List Value).toArray 28 (0, 0)), M_52, M_56] Z := hS''
  clear hS' hS''
  refine s_move hm rfl rfl ?_
  clear hm a; intro a hm
  refine s_extract hm rfl rfl rfl ?_
  clear hm a; intro a hm
  refine s_extract hm rfl rfl rfl ?_
  clear hm a; intro a hm
  refine v_alloc hm rfl ti28 hS ?_
  intro w_58 g_59 hS'
  clear hm a; intro a hm
  replace hS : Sep w0 w_58 [N_49, M_7, M_11, Mem.one g_14 (.cells ([.int .i64 t_1.2.Err, v_9, .int .i64 t_1.2.N] : List Value).toArray 28 (0, 0)), M_22, M_26, Mem.one g_29 (.cells ([.int .i64 t_16.2.Err, v_24, .int .i64 t_16.2.N] : List Value).toArray 28 (0, 0)), M_37, M_41, Mem.one g_44 (.cells ([.int .i64 t_31.2.Err, v_39, .int .i64 t_31.2.N] : List Value).toArray 28 (0, 0)), M_52, M_56, Mem.one g_59 (.cells ([.int .i64 0, .slice none 0 0, .int .i64 0] : List Value).toArray 28 (0, 0))] Z := hS'
  clear hS'
  refine s_assign hm rfl rfl ?_
  clear hm a; intro a hm
  obtain ⟨w_60, hs', hS'⟩ := hS.store (P := Try.prog) (p := 12) (o := 0) (t := 28) (v := .agg ([.int .i64 t_46.2.Err, v_54, .int .i64 t_46.2.N] : List Value).toArray) (vs := [.int .i64 t_46.2.Err, v_54, .int .i64 t_46.2.N]) rfl ti28 rfl rfl rfl (by intro u hu; simp only [List.mem_cons, List.not_mem_nil, or_false] at hu; rcases hu with rfl | rfl | rfl <;> first | rfl | exact hr_55.one)
  refine s_store hm rfl rfl hs' ?_
  replace hS : Sep w0 w_60 [N_49, M_7, M_11, Mem.one g_14 (.cells ([.int .i64 t_1.2.Err, v_9, .int .i64 t_1.2.N] : List Value).toArray 28 (0, 0)), M_22, M_26, Mem.one g_29 (.cells ([.int .i64 t_16.2.Err, v_24, .int .i64 t_16.2.N] : List Value).toArray 28 (0, 0)), M_37, M_41, Mem.one g_44 (.cells ([.int .i64 t_31.2.Err, v_39, .int .i64 t_31.2.N] : List Value).toArray 28 (0, 0)), M_52, M_56, Mem.one g_59 (.cells ([.int .i64 t_46.2.Err, v_54, .int .i64 t_46.2.N] : List Value).toArray 28 (0, 0))] Z := hS'
  clear hs' hS'
  refine wpList_nil ?_
  replace hm : Fr 61 a [(0, .bool false), (2, .pointer (some ⟨g_14, 0, none⟩)), (3, .pointer (some ⟨g_29, 0, none⟩)), (5, .pointer (some ⟨g_44, 0, none⟩)), (6, v_50), (7, .pointer (some ⟨g_59, 0, none⟩))] := hm.keep [0, 2, 3, 5, 6, 7]
  refine x_then_n ?_
  refine c_seq fun KJ_61 hKJ_61 => ?_
  refine wp_region_lit ?_
  refine s_fieldAddr hm rfl Try.underlying28 rfl ti3 rfl rfl ?_
  clear hm a; intro a hm
  refine s_load hm rfl rfl (hS.load_one (p := 3) rfl Try.underlying3 rfl rfl) ?_
  clear hm a; intro a hm
  refine s_cmp (b := (t_1.2.N == 0)) hm rfl rfl rfl (.inl ⟨rfl, rfl⟩) ?_
  clear hm a; intro a hm
  refine s_move hm rfl rfl ?_
  clear hm a; intro a hm
  by_cases hc_62 : t_1.2.N = 0
  · rw [if_pos hc_62] at H
    refine s_on hm rfl rfl (beq_iff_eq.2 hc_62) ?_
    refine s_fieldAddr hm rfl Try.underlying28 rfl ti3 rfl rfl ?_
    clear hm a; intro a hm
    refine s_on hm rfl rfl (beq_iff_eq.2 hc_62) ?_
    refine s_load hm rfl rfl (hS.load_one (p := 6) rfl Try.underlying3 rfl rfl) ?_
    clear hm a; intro a hm
    refine s_on hm rfl rfl (beq_iff_eq.2 hc_62) ?_
    refine s_cmp (b := (t_16.2.N == 1)) hm rfl rfl rfl (.inl ⟨rfl, rfl⟩) ?_
    clear hm a; intro a hm
    refine s_pick_t hm rfl rfl (beq_iff_eq.2 hc_62) rfl ?_
    clear hm a; intro a hm
    refine s_move hm rfl rfl ?_
    clear hm a; intro a hm
    by_cases hc_63 : t_16.2.N = 1
    · rw [if_pos hc_63] at H
      refine s_on hm rfl rfl (beq_iff_eq.2 hc_63) ?_
      refine s_fieldAddr hm rfl Try.underlying28 rfl ti23 rfl rfl ?_
      clear hm a; intro a hm
      refine s_on hm rfl rfl (beq_iff_eq.2 hc_63) ?_
      refine s_load hm rfl rfl (hS.load_one (p := 9) rfl Try.underlying23 rfl rfl) ?_
      clear hm a; intro a hm
      refine s_on hm rfl rfl (beq_iff_eq.2 hc_63) ?_
      refine s_cmp (b := (t_31.2.Err == 6)) hm rfl rfl rfl (.inl ⟨rfl, rfl⟩) ?_
      clear hm a; intro a hm
      refine s_pick_t hm rfl rfl (beq_iff_eq.2 hc_63) rfl ?_
      clear hm a; intro a hm
      refine s_move hm rfl rfl ?_
      clear hm a; intro a hm
      by_cases hc_64 : t_31.2.Err = 6
      · rw [if_pos hc_64] at H
        refine s_on hm rfl rfl (beq_iff_eq.2 hc_64) ?_
        refine s_fieldAddr hm rfl Try.underlying28 rfl ti3 rfl rfl ?_
        clear hm a; intro a hm
        refine s_on hm rfl rfl (beq_iff_eq.2 hc_64) ?_
        refine s_load hm rfl rfl (hS.load_one (p := 12) rfl Try.underlying3 rfl rfl) ?_
        clear hm a; intro a hm
        refine s_on hm rfl rfl (beq_iff_eq.2 hc_64) ?_
        refine s_cmp (b := (t_46.2.N == 3)) hm rfl rfl rfl (.inl ⟨rfl, rfl⟩) ?_
        clear hm a; intro a hm
        refine s_pick_t hm rfl rfl (beq_iff_eq.2 hc_64) rfl ?_
        clear hm a; intro a hm
        refine s_move hm rfl rfl ?_
        clear hm a; intro a hm
        by_cases hc_65 : t_46.2.N = 3
        · rw [if_pos hc_65] at H
          refine s_on hm rfl rfl (beq_iff_eq.2 hc_65) ?_
          refine s_move hm rfl rfl ?_
          clear hm a; intro a hm
          refine s_on hm rfl rfl (beq_iff_eq.2 hc_65) ?_
          have hq_70 : Reps (Kd.int .i64) Mem.no ([3] : List Int) _ := ((Reps.one (d := (Kd.int .i64)) (x := 3) (show (Kd.int .i64).K _ _ [.int .i64 3] from rfl)).append (Reps.nil (Kd.int .i64) _))
          refine s_buildSlice hm rfl Try.underlying22 ti3 rfl rfl rfl (.cons rfl .nil) rfl rfl rfl hS hq_70 rfl ?_
          intro w_66 v_67 M_68 hS' ho_69
          clear hm a; intro a hm
          replace hS : Sep w0 w_66 [N_49, M_7, M_11, Mem.one g_14 (.cells ([.int .i64 t_1.2.Err, v_9, .int .i64 t_1.2.N] : List Value).toArray 28 (0, 0)), M_22, M_26, Mem.one g_29 (.cells ([.int .i64 t_16.2.Err, v_24, .int .i64 t_16.2.N] : List Value).toArray 28 (0, 0)), M_37, M_41, Mem.one g_44 (.cells ([.int .i64 t_31.2.Err, v_39, .int .i64 t_31.2.N] : List Value).toArray 28 (0, 0)), M_52, M_56, Mem.one g_59 (.cells ([.int .i64 t_46.2.Err, v_54, .int .i64 t_46.2.N] : List Value).toArray 28 (0, 0)), M_68] Z := hS'
          clear hS' hq_70
          refine s_on hm rfl rfl (beq_iff_eq.2 hc_65) ?_
          obtain ⟨t_72, et_72, H⟩ := Option.bind_eq_some_iff.1 H
          refine s_call hm rfl Try.call14 rfl (hocketref1_SameInts.calls K t_46.1 _ ([3] : List Int) _ t_72 w0 _ _ _ (Mem.le.refl _) (hS.enter [] (by decide)) (hr_51.rd (hS.own_zed [] 9 (by decide)) (Mem.no_le _)) (ho_69.rd (hS.own_zed [] 12 (by decide)) (Mem.no_le _)) et_72) ?_
          rintro _ w_73 ⟨N_74, rfl, hS'⟩
          clear hm a; intro a hm
          obtain ⟨N_75, hS'', le_75, ln_75⟩ := hS.call [] (by decide) rfl (l' := []) (ow := []) rfl hS'
          replace hS : Sep w0 w_73 [N_75, M_7, M_11, Mem.one g_14 (.cells ([.int .i64 t_1.2.Err, v_9, .int .i64 t_1.2.N] : List Value).toArray 28 (0, 0)), M_22, M_26, Mem.one g_29 (.cells ([.int .i64 t_16.2.Err, v_24, .int .i64 t_16.2.N] : List Value).toArray 28 (0, 0)), M_37, M_41, Mem.one g_44 (.cells ([.int .i64 t_31.2.Err, v_39, .int .i64 t_31.2.N] : List Value).toArray 28 (0, 0)), M_52, M_56, Mem.one g_59 (.cells ([.int .i64 t_46.2.Err, v_54, .int .i64 t_46.2.N] : List Value).toArray 28 (0, 0)), M_68] Z := hS''
          clear hS' hS''
          refine s_pick_t hm rfl rfl (beq_iff_eq.2 hc_65) rfl ?_
          clear hm a; intro a hm
          refine s_move hm rfl rfl ?_
          clear hm a; intro a hm
          by_cases hc_76 : t_72 = true
          · rw [if_pos hc_76] at H
            refine s_on hm rfl rfl hc_76 ?_
            refine s_move hm rfl rfl ?_
            clear hm a; intro a hm
            refine s_on hm rfl rfl hc_76 ?_
            obtain ⟨t_77, et_77, H⟩ := Option.bind_eq_some_iff.1 H
            refine s_call hm rfl Try.call16 rfl (lock_Owner.calls t_46.1 _ t_77 w0 _ _ _ (Mem.le.refl _) (hS.enter [] (by decide)) (hr_51.rd (hS.own_zed [] 9 (by decide)) (Mem.no_le _)) et_77) ?_
            rintro _ w_78 ⟨v_81, N_79, M_83, rfl, hS', hr_82⟩
            clear hm a; intro a hm
            obtain ⟨N_80, hS'', le_80, ln_80⟩ := hS.call [] (by decide) rfl (l' := []) (ow := [M_83]) rfl hS'
            replace hS : Sep w0 w_78 [N_80, M_7, M_11, Mem.one g_14 (.cells ([.int .i64 t_1.2.Err, v_9, .int .i64 t_1.2.N] : List Value).toArray 28 (0, 0)), M_22, M_26, Mem.one g_29 (.cells ([.int .i64 t_16.2.Err, v_24, .int .i64 t_16.2.N] : List Value).toArray 28 (0, 0)), M_37, M_41, Mem.one g_44 (.cells ([.int .i64 t_31.2.Err, v_39, .int .i64 t_31.2.N] : List Value).toArray 28 (0, 0)), M_52, M_56, Mem.one g_59 (.cells ([.int .i64 t_46.2.Err, v_54, .int .i64 t_46.2.N] : List Value).toArray 28 (0, 0)), M_68, M_83] Z := hS''
            clear hS' hS''
            refine s_on hm rfl rfl hc_76 ?_
            refine s_field_one hm rfl Try.underlying28 rfl Try.underlying3 rfl rfl rfl ?_
            clear hm a; intro a hm
            refine s_on hm rfl rfl hc_76 ?_
            refine s_cmp (b := (t_77.N == 3)) hm rfl rfl rfl (.inl ⟨rfl, rfl⟩) ?_
            clear hm a; intro a hm
            refine s_pick_t hm rfl rfl hc_76 rfl ?_
            clear hm a; intro a hm
            refine s_move hm rfl rfl ?_
            clear hm a; intro a hm
            by_cases hc_85 : t_77.N = 3
            · rw [if_pos hc_85] at H
              refine s_on hm rfl rfl (beq_iff_eq.2 hc_85) ?_
              obtain ⟨t_86, et_86, H⟩ := Option.bind_eq_some_iff.1 H
              refine s_call hm rfl Try.call16 rfl (lock_Owner.calls ([] : List Int) _ t_86 w0 _ _ _ (Mem.le.refl _) (hS.enter [] (by decide)) (Rd.nil _ _) et_86) ?_
              rintro _ w_87 ⟨v_90, N_88, M_92, rfl, hS', hr_91⟩
              clear hm a; intro a hm
              obtain ⟨N_89, hS'', le_89, ln_89⟩ := hS.call [] (by decide) rfl (l' := []) (ow := [M_92]) rfl hS'
              replace hS : Sep w0 w_87 [N_89, M_7, M_11, Mem.one g_14 (.cells ([.int .i64 t_1.2.Err, v_9, .int .i64 t_1.2.N] : List Value).toArray 28 (0, 0)), M_22, M_26, Mem.one g_29 (.cells ([.int .i64 t_16.2.Err, v_24, .int .i64 t_16.2.N] : List Value).toArray 28 (0, 0)), M_37, M_41, Mem.one g_44 (.cells ([.int .i64 t_31.2.Err, v_39, .int .i64 t_31.2.N] : List Value).toArray 28 (0, 0)), M_52, M_56, Mem.one g_59 (.cells ([.int .i64 t_46.2.Err, v_54, .int .i64 t_46.2.N] : List Value).toArray 28 (0, 0)), M_68, M_83, M_92] Z := hS''
              clear hS' hS''
              refine s_on hm rfl rfl (beq_iff_eq.2 hc_85) ?_
              refine s_field_one hm rfl Try.underlying28 rfl Try.underlying23 rfl rfl rfl ?_
              clear hm a; intro a hm
              refine s_on hm rfl rfl (beq_iff_eq.2 hc_85) ?_
              refine s_cmp (b := (t_86.Err == 5)) hm rfl rfl rfl (.inl ⟨rfl, rfl⟩) ?_
              clear hm a; intro a hm
              refine s_pick_t hm rfl rfl (beq_iff_eq.2 hc_85) rfl ?_
              clear hm a; intro a hm
              refine s_assign hm rfl rfl ?_
              clear hm a; intro a hm
              refine wpList_nil ?_
              replace hm : Fr 61 a [(0, .bool (t_86.Err == 5))] := hm.keep [0]
              refine x_then_n (hKJ_61 _ _ ?_)
              refine wp_ret ?_
              by_cases hc_94 : t_86.Err = 5
              · rw [if_pos hc_94] at H
                exact f_ret hm (rs := [.tmp 0]) rfl (.tmp rfl .nil) ⟨_, rfl, N_89, (by rw [(beq_iff_eq.2 hc_94)]; rfl), (Sep.sel hS [0] (by decide))⟩
              · rw [if_neg hc_94] at H
                cases H
            · rw [if_neg hc_85] at H
              cases H
          · rw [if_neg hc_76] at H
            cases H
        · rw [if_neg hc_65] at H
          cases H
      · rw [if_neg hc_64] at H
        cases H
    · rw [if_neg hc_63] at H
      cases H
  · rw [if_neg hc_62] at H
    cases H

set_option maxHeartbeats 4000000 in
set_option maxRecDepth 20000 in
theorem hocketref4_place.calls (K : Nat) (x0 : List Int) (p0_0 : Value) (x1 : Int) (r : Int) (w0 w : World) (Z A : Mem) (hA : A.le Z) (hS : Sep w0 w [] Z) (hp0_0 : Rd (Kd.int .i64) A p0_0 x0)
    (H : hocketref4_place.f K x0 x1 = some r) :
    Calls Try.prog 44 [p0_0, .int .i64 x1].toArray w (Ret fun v w' => ∃ (N : Mem), v = .int .i64 r ∧ Sep w0 w' [N] Z) := by
  unfold hocketref4_place.f at H
  refine f_enter _ Try.func44 rfl Try.ntmps44 rfl fun a hm => ?_
  replace hm : Fr 19 a [(0, p0_0), (1, .int .i64 x1)] := hm
  replace hS := hS.start
  replace hS : Sep w0 w [Mem.no] Z := hS
  refine wp_seq ?_
  refine wp_region_lit ?_
  refine s_assign hm rfl rfl ?_
  clear hm a; intro a hm
  refine wpList_nil ?_
  replace hm : Fr 19 a [(0, p0_0), (1, .int .i64 x1), (4, .int .i64 0)] := hm.keep [0, 1, 4]
  refine x_then_n ?_
  refine c_seq fun KJ_1 hKJ_1 => ?_
  refine wp_seq ?_
  refine wp_region_lit ?_
  refine s_assign hm rfl rfl ?_
  clear hm a; intro a hm
  refine wpList_nil ?_
  replace hm : Fr 19 a [(0, p0_0), (1, .int .i64 x1), (4, .int .i64 0), (5, .int .i64 0)] := hm.keep [0, 1, 4, 5]
  refine x_then_n ?_
  have hJ_j_4 : hocketref4_place.J1 K = some r → ∀ (a : Act) (w_3 : World), (∃ (N_2 : Mem), Fr 19 a [(4, .int .i64 0)] ∧ Sep w0 w_3 [N_2] Z ∧ Mem.no.le N_2) → KJ_1 a w_3 := by
    clear H hm hS a
    rintro H a w_3 ⟨N_2, hm, hS, le_2⟩
    unfold hocketref4_place.J1 at H
    refine hKJ_1 _ _ ?_
    refine wp_seq ?_
    refine wp_region_lit ?_
    refine s_assign hm rfl rfl ?_
    clear hm a; intro a hm
    refine wpList_nil ?_
    replace hm : Fr 19 a [(4, .int .i64 (-1))] := hm.keep [4]
    refine x_then_n ?_
    refine wp_ret ?_
    obtain rfl := Option.some.inj H
    exact f_ret hm (rs := [.tmp 4]) rfl (.tmp rfl .nil) ⟨_, rfl, N_2, rfl, (Sep.sel hS [0] (by decide))⟩
  clear hKJ_1
  replace hS : Sep w0 w [Mem.no] Z := hS
  replace hm : Fr 19 a [(0, p0_0), (1, .int .i64 x1), (4, .int .i64 0), (5, .int .i64 0)] := hm.keep [0, 1, 4, 5]
  refine c_block ?_
  refine c_loop (fun k_7 a w_7 => ∃ (x_6 : Int) (N_5 : Mem), hocketref4_place.L1 K x0 x1 (fun v => hocketref4_place.J1 K) k_7 x_6 = some r ∧ Fr 19 a [(0, p0_0), (1, .int .i64 x1), (4, .int .i64 0), (5, .int .i64 x_6)] ∧ Sep w0 w_7 [N_5] Z ∧ Mem.no.le N_5) K ⟨0, Mem.no, H, hm, (Sep.sel hS [0] (by decide)), (Mem.le.refl _)⟩ (fun a w h => by obtain ⟨_, _, H, _⟩ := h; cases (show (none : Option (Int)) = some r from H)) ?_
  clear hm hS a H
  rintro k_7 a w_7 KL_7 hKL_7 ⟨x_6, N_5, H, hm, hS, le_5⟩
  replace H : hocketref4_place.B1 K x0 x1 (fun v => hocketref4_place.J1 K) (hocketref4_place.L1 K x0 x1 (fun v => hocketref4_place.J1 K) k_7) x_6 = some r := H
  unfold hocketref4_place.B1 at H
  refine c_seq fun KJ_9 hKJ_9 => ?_
  refine wp_seq ?_
  refine wp_region_lit ?_
  refine s_move hm rfl rfl ?_
  clear hm a; intro a hm
  refine s_move hm rfl rfl ?_
  clear hm a; intro a hm
  refine s_len hm rfl Try.underlying22 rfl hp0_0 ?_
  clear hm a; intro a hm
  refine s_cmp (b := decide (x_6 < (x0.length : Int))) hm rfl rfl rfl (.inr (.inr (.inl ⟨rfl, rfl⟩))) ?_
  clear hm a; intro a hm
  refine wpList_nil ?_
  replace hm : Fr 19 a [(0, p0_0), (1, .int .i64 x1), (4, .int .i64 0), (5, .int .i64 x_6), (9, .bool (decide (x_6 < (x0.length : Int))))] := hm.keep [0, 1, 4, 5, 9]
  refine x_then_n ?_
  by_cases hc_10 : x_6 < (x0.length : Int)
  · rw [if_pos hc_10] at H
    refine c_cond_t hm rfl (decide_eq_true hc_10) ?_
    refine wp_skip ?_
    refine x_then_n (hKJ_9 _ _ ?_)
    refine c_seq fun KJ_11 hKJ_11 => ?_
    refine c_block ?_
    refine wp_seq ?_
    refine wp_region_lit ?_
    refine s_move hm rfl rfl ?_
    clear hm a; intro a hm
    refine s_move hm rfl rfl ?_
    clear hm a; intro a hm
    obtain ⟨t_12, et_12, H⟩ := Option.bind_eq_some_iff.1 H
    refine v_index hm rfl Try.underlying22 ti3 rfl rfl rfl hp0_0 (hA.trans hS.old) et_12 ?_
    intro ad_13 cs_14 hk_15 hc_16
    obtain rfl := (show cs_14 = [.int .i64 t_12] from hk_15)
    clear hm a; intro a hm
    refine s_load hm rfl rfl (el_one (o := 0) hc_16 Try.underlying3 rfl rfl) ?_
    clear hm a; intro a hm
    refine s_move hm rfl rfl ?_
    clear hm a; intro a hm
    refine s_cmp (b := (t_12 == x1)) hm rfl rfl rfl (.inl ⟨rfl, rfl⟩) ?_
    clear hm a; intro a hm
    refine wpList_nil ?_
    replace hm : Fr 19 a [(0, p0_0), (1, .int .i64 x1), (4, .int .i64 0), (5, .int .i64 x_6), (17, .bool (t_12 == x1))] := hm.keep [0, 1, 4, 5, 17]
    refine x_then_n ?_
    by_cases hc_17 : t_12 = x1
    · rw [if_pos hc_17] at H
      refine c_cond_t hm rfl (beq_iff_eq.2 hc_17) ?_
      refine wp_seq ?_
      refine wp_region_lit ?_
      refine s_move hm rfl rfl ?_
      clear hm a; intro a hm
      refine s_assign hm rfl rfl ?_
      clear hm a; intro a hm
      refine wpList_nil ?_
      replace hm : Fr 19 a [(0, p0_0), (1, .int .i64 x1), (4, .int .i64 x_6), (5, .int .i64 x_6)] := hm.keep [0, 1, 4, 5]
      refine x_then_n ?_
      refine wp_ret (x_block_r (x_then_r (x_then_r (x_block_r (x_then_r ?_)))))
      obtain rfl := Option.some.inj H
      exact f_ret hm (rs := [.tmp 4]) rfl (.tmp rfl .nil) ⟨_, rfl, N_5, rfl, (Sep.sel hS [0] (by decide))⟩
    · rw [if_neg hc_17] at H
      refine c_cond_f hm rfl (beq_eq_false_iff_ne.2 hc_17) ?_
      refine wp_skip ?_
      refine x_block_n ?_
      refine x_then_n (hKJ_11 _ _ ?_)
      refine wp_region_lit ?_
      refine s_move hm rfl rfl ?_
      clear hm a; intro a hm
      refine s_arith (r := w64 (x_6 + 1)) hm rfl rfl rfl (.inl ⟨rfl, rfl⟩) ?_
      clear hm a; intro a hm
      refine s_assign hm rfl rfl ?_
      clear hm a; intro a hm
      refine wpList_nil ?_
      replace hm : Fr 19 a [(0, p0_0), (1, .int .i64 x1), (4, .int .i64 0), (5, .int .i64 (w64 (x_6 + 1)))] := hm.keep [0, 1, 4, 5]
      refine x_then_n (hKL_7 _ _ ?_)
      replace hS : Sep w0 w_7 [N_5] Z := hS
      replace hm : Fr 19 a [(0, p0_0), (1, .int .i64 x1), (4, .int .i64 0), (5, .int .i64 (w64 (x_6 + 1)))] := hm.keep [0, 1, 4, 5]
      exact ⟨w64 (x_6 + 1), N_5, H, hm, (Sep.sel hS [0] (by decide)), le_5⟩
  · rw [if_neg hc_10] at H
    refine c_cond_f hm rfl (decide_eq_false hc_10) ?_
    refine wp_exit (x_then_x (x_then_x (x_block_t ?_)))
    replace hS : Sep w0 w_7 [N_5] Z := hS
    replace hm : Fr 19 a [(4, .int .i64 0)] := hm.keep [4]
    exact x_then_n (hJ_j_4  H _ _ ⟨N_5, hm, (Sep.sel hS [0] (by decide)), le_5⟩)

set_option maxHeartbeats 4000000 in
set_option maxRecDepth 20000 in
theorem hocketref4_bad.calls (x0 : Int) (r : api_Result) (w0 w : World) (Z A : Mem) (hA : A.le Z) (hS : Sep w0 w [] Z)
    (H : hocketref4_bad.f x0 = some r) :
    Calls Try.prog 45 [.int .i64 x0].toArray w (Ret fun v w' => ∃ (u0 : Value) (N : Mem) (M0 : Mem), v = .agg [.int .i64 r.Err, u0, .int .i64 r.N].toArray ∧ Sep w0 w' [N, M0] Z ∧ Own Kd.u8 5 M0 Mem.no u0 r.Val) := by
  unfold hocketref4_bad.f at H
  refine f_enter _ Try.func45 rfl Try.ntmps45 rfl fun a hm => ?_
  replace hm : Fr 5 a [(0, .int .i64 x0)] := hm
  replace hS := hS.start
  replace hS : Sep w0 w [Mem.no] Z := hS
  refine wp_seq ?_
  refine wp_region_lit ?_
  refine v_alloc hm rfl ti28 hS ?_
  intro w_1 g_2 hS'
  clear hm a; intro a hm
  replace hS : Sep w0 w_1 [Mem.no, Mem.one g_2 (.cells ([.int .i64 0, .slice none 0 0, .int .i64 0] : List Value).toArray 28 (0, 0))] Z := hS'
  clear hS'
  refine wpList_nil ?_
  replace hm : Fr 5 a [(0, .int .i64 x0), (2, .pointer (some ⟨g_2, 0, none⟩))] := hm.keep [0, 2]
  refine x_then_n ?_
  refine wp_seq ?_
  refine wp_region_lit ?_
  refine s_move hm rfl rfl ?_
  clear hm a; intro a hm
  refine s_build hm rfl ti28 pl28 rfl (.cons rfl .nil) (cs := [.int .i64 x0, .slice none 0 0, .int .i64 0]) rfl ?_
  clear hm a; intro a hm
  obtain ⟨w_3, hs', hS'⟩ := hS.store (P := Try.prog) (p := 1) (o := 0) (t := 28) (v := .agg ([.int .i64 x0, .slice none 0 0, .int .i64 0] : List Value).toArray) (vs := [.int .i64 x0, .slice none 0 0, .int .i64 0]) rfl ti28 rfl rfl rfl (by intro u hu; simp only [List.mem_cons, List.not_mem_nil, or_false] at hu; rcases hu with rfl | rfl | rfl <;> rfl)
  refine s_store hm rfl rfl hs' ?_
  replace hS : Sep w0 w_3 [Mem.no, Mem.one g_2 (.cells ([.int .i64 x0, .slice none 0 0, .int .i64 0] : List Value).toArray 28 (0, 0))] Z := hS'
  clear hs' hS'
  refine wpList_nil ?_
  replace hm : Fr 5 a [(2, .pointer (some ⟨g_2, 0, none⟩))] := hm.keep [2]
  refine x_then_n ?_
  refine wp_ret ?_
  have hS' := hS.room
  replace hS : Sep w0 w_3 [Mem.no, Mem.one g_2 (.cells ([.int .i64 x0, .slice none 0 0, .int .i64 0] : List Value).toArray 28 (0, 0)), Mem.no] Z := hS'
  clear hS'
  replace hS : Sep w0 w_3 [Mem.no, Mem.one g_2 (.cells ([.int .i64 x0, .slice none 0 0, .int .i64 0] : List Value).toArray 28 (0, 0)), Mem.no] Z := hS
  obtain rfl := Option.some.inj H
  exact f_ret hm (rs := [.cell 2 28]) rfl (.cell rfl (hS.load_agg (p := 1) (us := [.int .i64 x0, .slice none 0 0, .int .i64 0]) rfl Try.underlying28 rfl ti28 rfl rfl) .nil) ⟨_, rfl, .slice none 0 0, Mem.no, Mem.no, rfl, (Sep.sel hS [0, 2] (by decide)), (Own.nil Kd.u8 5 Mem.no)⟩

set_option maxHeartbeats 4000000 in
set_option maxRecDepth 20000 in
theorem hocketref4_Take.calls (K : Nat) (x0 : List Int) (p0_0 : Value) (x1 : Int) (r : (List Int) × api_Result) (w0 w : World) (Z A : Mem) (hA : A.le Z) (hS : Sep w0 w [] Z) (hp0_0 : Rd (Kd.int .i64) A p0_0 x0)
    (H : hocketref4_Take.f K x0 x1 = some r) :
    Calls Try.prog 17 [p0_0, .int .i64 x1].toArray w (Ret fun v w' => ∃ (u0 : Value) (u1 : Value) (N : Mem) (M0 : Mem) (M1 : Mem), v = .tuple [u0, .agg [.int .i64 r.2.Err, u1, .int .i64 r.2.N].toArray].toArray ∧ Sep w0 w' [N, M0, M1] Z ∧ Own (Kd.int .i64) 3 M0 Mem.no u0 r.1 ∧ Own Kd.u8 5 M1 Mem.no u1 r.2.Val) := by
  unfold hocketref4_Take.f at H
  refine f_enter _ Try.func17 rfl Try.ntmps17 rfl fun a hm => ?_
  replace hm : Fr 28 a [(0, p0_0), (1, .int .i64 x1)] := hm
  replace hS := hS.start
  replace hS : Sep w0 w [Mem.no] Z := hS
  refine wp_seq ?_
  refine wp_region_lit ?_
  refine s_assign hm rfl rfl ?_
  clear hm a; intro a hm
  refine v_alloc hm rfl ti28 hS ?_
  intro w_1 g_2 hS'
  clear hm a; intro a hm
  replace hS : Sep w0 w_1 [Mem.no, Mem.one g_2 (.cells ([.int .i64 0, .slice none 0 0, .int .i64 0] : List Value).toArray 28 (0, 0))] Z := hS'
  clear hS'
  refine wpList_nil ?_
  replace hm : Fr 28 a [(0, p0_0), (1, .int .i64 x1), (4, .slice none 0 0), (5, .pointer (some ⟨g_2, 0, none⟩))] := hm.keep [0, 1, 4, 5]
  refine x_then_n ?_
  refine wp_seq ?_
  refine wp_region_lit ?_
  have hq_7 : Reps (Kd.int .i64) Mem.no ([] : List Int) _ := (Reps.nil (Kd.int .i64) _)
  refine s_buildSlice hm rfl Try.underlying22 ti3 rfl rfl rfl .nil rfl rfl rfl hS hq_7 rfl ?_
  intro w_3 v_4 M_5 hS' ho_6
  clear hm a; intro a hm
  replace hS : Sep w0 w_3 [Mem.no, Mem.one g_2 (.cells ([.int .i64 0, .slice none 0 0, .int .i64 0] : List Value).toArray 28 (0, 0)), M_5] Z := hS'
  clear hS' hq_7
  refine s_move hm rfl rfl ?_
  clear hm a; intro a hm
  obtain ⟨t_9, et_9, H⟩ := Option.bind_eq_some_iff.1 H
  refine s_append (J := Mem.no) (I' := Mem.no) (p := 2) 17592186044416 hm rfl rfl rfl Try.underlying22 ti3 rfl rfl rfl rfl hS rfl ho_6 (Src.flat (flat_int .i64) (hp0_0.src (hA.trans hS.old))) (Mem.le.refl _) (Mem.le.refl _) et_9 ?_
  intro w_10 v_11 M_12 hS' ho_13
  clear hm a; intro a hm
  replace hS : Sep w0 w_10 [Mem.no, Mem.one g_2 (.cells ([.int .i64 0, .slice none 0 0, .int .i64 0] : List Value).toArray 28 (0, 0)), M_12] Z := hS'
  clear hS'
  refine s_assign hm rfl rfl ?_
  clear hm a; intro a hm
  refine wpList_nil ?_
  replace hm : Fr 28 a [(0, p0_0), (1, .int .i64 x1), (4, .slice none 0 0), (5, .pointer (some ⟨g_2, 0, none⟩)), (6, v_11)] := hm.keep [0, 1, 4, 5, 6]
  refine x_then_n ?_
  refine c_seq fun KJ_15 hKJ_15 => ?_
  refine wp_seq ?_
  refine wp_region_lit ?_
  refine s_move hm rfl rfl ?_
  clear hm a; intro a hm
  refine s_move hm rfl rfl ?_
  clear hm a; intro a hm
  obtain ⟨t_16, et_16, H⟩ := Option.bind_eq_some_iff.1 H
  refine s_call hm rfl Try.call44 rfl (hocketref4_place.calls K x0 _ x1 t_16 w0 _ _ _ (Mem.le.refl _) (hS.enter [] (by decide)) (hp0_0.mono (hA.trans (hS.le_zed []))) et_16) ?_
  rintro _ w_17 ⟨N_18, rfl, hS'⟩
  clear hm a; intro a hm
  obtain ⟨N_19, hS'', le_19, ln_19⟩ := hS.call [] (by decide) rfl (l' := []) (ow := []) rfl hS'
  replace hS : Sep w0 w_17 [N_19, Mem.one g_2 (.cells ([.int .i64 0, .slice none 0 0, .int .i64 0] : List Value).toArray 28 (0, 0)), M_12] Z := hS''
  clear hS' hS''
  refine s_cmp (b := decide (t_16 ≥ 0)) hm rfl rfl rfl (.inr (.inr (.inr (.inr (.inr ⟨rfl, rfl⟩))))) ?_
  clear hm a; intro a hm
  refine wpList_nil ?_
  replace hm : Fr 28 a [(0, p0_0), (1, .int .i64 x1), (4, .slice none 0 0), (5, .pointer (some ⟨g_2, 0, none⟩)), (6, v_11), (13, .bool (decide (t_16 ≥ 0)))] := hm.keep [0, 1, 4, 5, 6, 13]
  refine x_then_n ?_
  by_cases hc_20 : t_16 ≥ 0
  · rw [if_pos hc_20] at H
    refine c_cond_t hm rfl (decide_eq_true hc_20) ?_
    refine wp_seq ?_
    refine wp_region_lit ?_
    refine s_move hm rfl rfl ?_
    clear hm a; intro a hm
    obtain ⟨t_21, et_21, H⟩ := Option.bind_eq_some_iff.1 H
    refine s_call hm rfl Try.call45 rfl (hocketref4_bad.calls 6 t_21 w0 _ _ _ (Mem.le.refl _) (hS.enter [] (by decide))  et_21) ?_
    rintro _ w_22 ⟨v_25, N_23, M_27, rfl, hS', hr_26⟩
    clear hm a; intro a hm
    obtain ⟨N_24, hS'', le_24, ln_24⟩ := hS.call [] (by decide) rfl (l' := []) (ow := [M_27]) rfl hS'
    replace hS : Sep w0 w_22 [N_24, Mem.one g_2 (.cells ([.int .i64 0, .slice none 0 0, .int .i64 0] : List Value).toArray 28 (0, 0)), M_12, M_27] Z := hS''
    clear hS' hS''
    refine s_assign hm rfl rfl ?_
    clear hm a; intro a hm
    obtain ⟨w_29, hs', hS'⟩ := hS.store (P := Try.prog) (p := 1) (o := 0) (t := 28) (v := .agg ([.int .i64 t_21.Err, v_25, .int .i64 t_21.N] : List Value).toArray) (vs := [.int .i64 t_21.Err, v_25, .int .i64 t_21.N]) rfl ti28 rfl rfl rfl (by intro u hu; simp only [List.mem_cons, List.not_mem_nil, or_false] at hu; rcases hu with rfl | rfl | rfl <;> first | rfl | exact hr_26.one)
    refine s_store hm rfl rfl hs' ?_
    replace hS : Sep w0 w_29 [N_24, Mem.one g_2 (.cells ([.int .i64 t_21.Err, v_25, .int .i64 t_21.N] : List Value).toArray 28 (0, 0)), M_12, M_27] Z := hS'
    clear hs' hS'
    refine wpList_nil ?_
    replace hm : Fr 28 a [(0, p0_0), (1, .int .i64 x1), (4, v_11), (5, .pointer (some ⟨g_2, 0, none⟩)), (6, v_11)] := hm.keep [0, 1, 4, 5, 6]
    refine x_then_n ?_
    refine wp_ret (x_then_r ?_)
    obtain rfl := Option.some.inj H
    exact f_ret hm (rs := [.tmp 4, .cell 5 28]) rfl (.tmp rfl (.cell rfl (hS.load_agg (p := 1) (us := [.int .i64 t_21.Err, v_25, .int .i64 t_21.N]) rfl Try.underlying28 rfl ti28 rfl rfl) .nil)) ⟨_, rfl, v_11, v_25, N_24, M_12, M_27, rfl, (Sep.sel hS [0, 2, 3] (by decide)), ho_13, hr_26⟩
  · rw [if_neg hc_20] at H
    refine c_cond_f hm rfl (decide_eq_false hc_20) ?_
    refine wp_skip ?_
    refine x_then_n (hKJ_15 _ _ ?_)
    refine c_seq fun KJ_30 hKJ_30 => ?_
    refine wp_seq ?_
    refine wp_region_lit ?_
    refine s_move hm rfl rfl ?_
    clear hm a; intro a hm
    refine s_len hm rfl Try.underlying22 rfl hp0_0 ?_
    clear hm a; intro a hm
    refine s_cmp (b := decide ((x0.length : Int) ≥ 5)) hm rfl rfl rfl (.inr (.inr (.inr (.inr (.inr ⟨rfl, rfl⟩))))) ?_
    clear hm a; intro a hm
    refine wpList_nil ?_
    replace hm : Fr 28 a [(0, p0_0), (1, .int .i64 x1), (4, .slice none 0 0), (5, .pointer (some ⟨g_2, 0, none⟩)), (6, v_11), (18, .bool (decide ((x0.length : Int) ≥ 5)))] := hm.keep [0, 1, 4, 5, 6, 18]
    refine x_then_n ?_
    by_cases hc_31 : (x0.length : Int) ≥ 5
    · rw [if_pos hc_31] at H
      refine c_cond_t hm rfl (decide_eq_true hc_31) ?_
      refine wp_seq ?_
      refine wp_region_lit ?_
      refine s_move hm rfl rfl ?_
      clear hm a; intro a hm
      obtain ⟨t_32, et_32, H⟩ := Option.bind_eq_some_iff.1 H
      refine s_call hm rfl Try.call45 rfl (hocketref4_bad.calls 3 t_32 w0 _ _ _ (Mem.le.refl _) (hS.enter [] (by decide))  et_32) ?_
      rintro _ w_33 ⟨v_36, N_34, M_38, rfl, hS', hr_37⟩
      clear hm a; intro a hm
      obtain ⟨N_35, hS'', le_35, ln_35⟩ := hS.call [] (by decide) rfl (l' := []) (ow := [M_38]) rfl hS'
      replace hS : Sep w0 w_33 [N_35, Mem.one g_2 (.cells ([.int .i64 0, .slice none 0 0, .int .i64 0] : List Value).toArray 28 (0, 0)), M_12, M_38] Z := hS''
      clear hS' hS''
      refine s_assign hm rfl rfl ?_
      clear hm a; intro a hm
      obtain ⟨w_40, hs', hS'⟩ := hS.store (P := Try.prog) (p := 1) (o := 0) (t := 28) (v := .agg ([.int .i64 t_32.Err, v_36, .int .i64 t_32.N] : List Value).toArray) (vs := [.int .i64 t_32.Err, v_36, .int .i64 t_32.N]) rfl ti28 rfl rfl rfl (by intro u hu; simp only [List.mem_cons, List.not_mem_nil, or_false] at hu; rcases hu with rfl | rfl | rfl <;> first | rfl | exact hr_37.one)
      refine s_store hm rfl rfl hs' ?_
      replace hS : Sep w0 w_40 [N_35, Mem.one g_2 (.cells ([.int .i64 t_32.Err, v_36, .int .i64 t_32.N] : List Value).toArray 28 (0, 0)), M_12, M_38] Z := hS'
      clear hs' hS'
      refine wpList_nil ?_
      replace hm : Fr 28 a [(0, p0_0), (1, .int .i64 x1), (4, v_11), (5, .pointer (some ⟨g_2, 0, none⟩)), (6, v_11)] := hm.keep [0, 1, 4, 5, 6]
      refine x_then_n ?_
      refine wp_ret (x_then_r ?_)
      obtain rfl := Option.some.inj H
      exact f_ret hm (rs := [.tmp 4, .cell 5 28]) rfl (.tmp rfl (.cell rfl (hS.load_agg (p := 1) (us := [.int .i64 t_32.Err, v_36, .int .i64 t_32.N]) rfl Try.underlying28 rfl ti28 rfl rfl) .nil)) ⟨_, rfl, v_11, v_36, N_35, M_12, M_38, rfl, (Sep.sel hS [0, 2, 3] (by decide)), ho_13, hr_37⟩
    · rw [if_neg hc_31] at H
      refine c_cond_f hm rfl (decide_eq_false hc_31) ?_
      refine wp_skip ?_
      refine x_then_n (hKJ_30 _ _ ?_)
      refine wp_seq ?_
      refine wp_region_lit ?_
      refine s_move hm rfl rfl ?_
      clear hm a; intro a hm
      refine s_move hm rfl rfl ?_
      clear hm a; intro a hm
      have hq_45 : Reps (Kd.int .i64) Mem.no ([x1] : List Int) _ := ((Reps.one (d := (Kd.int .i64)) (x := x1) (show (Kd.int .i64).K _ _ [.int .i64 x1] from rfl)).append (Reps.nil (Kd.int .i64) _))
      refine s_buildSlice hm rfl Try.underlying22 ti3 rfl rfl rfl (.cons rfl .nil) rfl rfl rfl hS hq_45 rfl ?_
      intro w_41 v_42 M_43 hS' ho_44
      clear hm a; intro a hm
      replace hS : Sep w0 w_41 [N_19, Mem.one g_2 (.cells ([.int .i64 0, .slice none 0 0, .int .i64 0] : List Value).toArray 28 (0, 0)), M_12, M_43] Z := hS'
      clear hS' hq_45
      obtain ⟨t_47, et_47, H⟩ := Option.bind_eq_some_iff.1 H
      refine s_append (J := Mem.no) (I' := Mem.no) (p := 2) 17592186044416 hm rfl rfl rfl Try.underlying22 ti3 rfl rfl rfl rfl hS rfl ho_13 (Src.flat (flat_int .i64) (ho_44.src (hS.own 3))) (Mem.le.refl _) (Mem.le.refl _) et_47 ?_
      intro w_48 v_49 M_50 hS' ho_51
      clear hm a; intro a hm
      replace hS : Sep w0 w_48 [N_19, Mem.one g_2 (.cells ([.int .i64 0, .slice none 0 0, .int .i64 0] : List Value).toArray 28 (0, 0)), M_50, M_43] Z := hS'
      clear hS'
      refine s_move hm rfl rfl ?_
      clear hm a; intro a hm
      refine s_len hm rfl Try.underlying22 rfl hp0_0 ?_
      clear hm a; intro a hm
      refine s_build hm rfl ti28 pl28 rfl (.cons rfl .nil) (cs := [.int .i64 0, .slice none 0 0, .int .i64 (x0.length : Int)]) rfl ?_
      clear hm a; intro a hm
      refine s_assign hm rfl rfl ?_
      clear hm a; intro a hm
      obtain ⟨w_53, hs', hS'⟩ := hS.store (P := Try.prog) (p := 1) (o := 0) (t := 28) (v := .agg ([.int .i64 0, .slice none 0 0, .int .i64 (x0.length : Int)] : List Value).toArray) (vs := [.int .i64 0, .slice none 0 0, .int .i64 (x0.length : Int)]) rfl ti28 rfl rfl rfl (by intro u hu; simp only [List.mem_cons, List.not_mem_nil, or_false] at hu; rcases hu with rfl | rfl | rfl <;> rfl)
      refine s_store hm rfl rfl hs' ?_
      replace hS : Sep w0 w_53 [N_19, Mem.one g_2 (.cells ([.int .i64 0, .slice none 0 0, .int .i64 (x0.length : Int)] : List Value).toArray 28 (0, 0)), M_50, M_43] Z := hS'
      clear hs' hS'
      refine wpList_nil ?_
      replace hm : Fr 28 a [(4, v_49), (5, .pointer (some ⟨g_2, 0, none⟩))] := hm.keep [4, 5]
      refine x_then_n ?_
      refine wp_ret ?_
      have hS' := hS.room
      replace hS : Sep w0 w_53 [N_19, Mem.one g_2 (.cells ([.int .i64 0, .slice none 0 0, .int .i64 (x0.length : Int)] : List Value).toArray 28 (0, 0)), M_50, M_43, Mem.no] Z := hS'
      clear hS'
      replace hS : Sep w0 w_53 [N_19, Mem.one g_2 (.cells ([.int .i64 0, .slice none 0 0, .int .i64 (x0.length : Int)] : List Value).toArray 28 (0, 0)), M_50, M_43, Mem.no] Z := hS
      obtain rfl := Option.some.inj H
      exact f_ret hm (rs := [.tmp 4, .cell 5 28]) rfl (.tmp rfl (.cell rfl (hS.load_agg (p := 1) (us := [.int .i64 0, .slice none 0 0, .int .i64 (x0.length : Int)]) rfl Try.underlying28 rfl ti28 rfl rfl) .nil)) ⟨_, rfl, v_49, .slice none 0 0, N_19, M_50, Mem.no, rfl, (Sep.sel hS [0, 2, 4] (by decide)), ho_51, (Own.nil Kd.u8 5 Mem.no)⟩

set_option maxHeartbeats 4000000 in
set_option maxRecDepth 20000 in
theorem hocketref4_Free.calls (K : Nat) (x0 : List Int) (p0_0 : Value) (x1 : Int) (r : (List Int) × api_Result) (w0 w : World) (Z A : Mem) (hA : A.le Z) (hS : Sep w0 w [] Z) (hp0_0 : Rd (Kd.int .i64) A p0_0 x0)
    (H : hocketref4_Free.f K x0 x1 = some r) :
    Calls Try.prog 18 [p0_0, .int .i64 x1].toArray w (Ret fun v w' => ∃ (u0 : Value) (u1 : Value) (N : Mem) (M0 : Mem) (M1 : Mem), v = .tuple [u0, .agg [.int .i64 r.2.Err, u1, .int .i64 r.2.N].toArray].toArray ∧ Sep w0 w' [N, M0, M1] Z ∧ Own (Kd.int .i64) 3 M0 Mem.no u0 r.1 ∧ Own Kd.u8 5 M1 Mem.no u1 r.2.Val) := by
  unfold hocketref4_Free.f at H
  refine f_enter _ Try.func18 rfl Try.ntmps18 rfl fun a hm => ?_
  replace hm : Fr 36 a [(0, p0_0), (1, .int .i64 x1)] := hm
  replace hS := hS.start
  replace hS : Sep w0 w [Mem.no] Z := hS
  refine wp_seq ?_
  refine wp_region_lit ?_
  refine s_assign hm rfl rfl ?_
  clear hm a; intro a hm
  refine v_alloc hm rfl ti28 hS ?_
  intro w_1 g_2 hS'
  clear hm a; intro a hm
  replace hS : Sep w0 w_1 [Mem.no, Mem.one g_2 (.cells ([.int .i64 0, .slice none 0 0, .int .i64 0] : List Value).toArray 28 (0, 0))] Z := hS'
  clear hS'
  refine wpList_nil ?_
  replace hm : Fr 36 a [(0, p0_0), (1, .int .i64 x1), (4, .slice none 0 0), (5, .pointer (some ⟨g_2, 0, none⟩))] := hm.keep [0, 1, 4, 5]
  refine x_then_n ?_
  refine wp_seq ?_
  refine wp_region_lit ?_
  refine s_move hm rfl rfl ?_
  clear hm a; intro a hm
  refine s_move hm rfl rfl ?_
  clear hm a; intro a hm
  obtain ⟨t_3, et_3, H⟩ := Option.bind_eq_some_iff.1 H
  refine s_call hm rfl Try.call44 rfl (hocketref4_place.calls K x0 _ x1 t_3 w0 _ _ _ (Mem.le.refl _) (hS.enter [] (by decide)) (hp0_0.mono (hA.trans (hS.le_zed []))) et_3) ?_
  rintro _ w_4 ⟨N_5, rfl, hS'⟩
  clear hm a; intro a hm
  obtain ⟨N_6, hS'', le_6, ln_6⟩ := hS.call [] (by decide) rfl (l' := []) (ow := []) rfl hS'
  replace hS : Sep w0 w_4 [N_6, Mem.one g_2 (.cells ([.int .i64 0, .slice none 0 0, .int .i64 0] : List Value).toArray 28 (0, 0))] Z := hS''
  clear hS' hS''
  refine s_assign hm rfl rfl ?_
  clear hm a; intro a hm
  refine wpList_nil ?_
  replace hm : Fr 36 a [(0, p0_0), (4, .slice none 0 0), (5, .pointer (some ⟨g_2, 0, none⟩)), (6, .int .i64 t_3)] := hm.keep [0, 4, 5, 6]
  refine x_then_n ?_
  refine c_seq fun KJ_7 hKJ_7 => ?_
  refine wp_seq ?_
  refine wp_region_lit ?_
  refine s_move hm rfl rfl ?_
  clear hm a; intro a hm
  refine s_cmp (b := decide (t_3 < 0)) hm rfl rfl rfl (.inr (.inr (.inl ⟨rfl, rfl⟩))) ?_
  clear hm a; intro a hm
  refine wpList_nil ?_
  replace hm : Fr 36 a [(0, p0_0), (4, .slice none 0 0), (5, .pointer (some ⟨g_2, 0, none⟩)), (6, .int .i64 t_3), (12, .bool (decide (t_3 < 0)))] := hm.keep [0, 4, 5, 6, 12]
  refine x_then_n ?_
  by_cases hc_8 : t_3 < 0
  · rw [if_pos hc_8] at H
    refine c_cond_t hm rfl (decide_eq_true hc_8) ?_
    refine wp_seq ?_
    refine wp_region_lit ?_
    have hq_13 : Reps (Kd.int .i64) Mem.no ([] : List Int) _ := (Reps.nil (Kd.int .i64) _)
    refine s_buildSlice hm rfl Try.underlying22 ti3 rfl rfl rfl .nil rfl rfl rfl hS hq_13 rfl ?_
    intro w_9 v_10 M_11 hS' ho_12
    clear hm a; intro a hm
    replace hS : Sep w0 w_9 [N_6, Mem.one g_2 (.cells ([.int .i64 0, .slice none 0 0, .int .i64 0] : List Value).toArray 28 (0, 0)), M_11] Z := hS'
    clear hS' hq_13
    refine s_move hm rfl rfl ?_
    clear hm a; intro a hm
    obtain ⟨t_15, et_15, H⟩ := Option.bind_eq_some_iff.1 H
    refine s_append (J := Mem.no) (I' := Mem.no) (p := 2) 17592186044416 hm rfl rfl rfl Try.underlying22 ti3 rfl rfl rfl rfl hS rfl ho_12 (Src.flat (flat_int .i64) (hp0_0.src (hA.trans hS.old))) (Mem.le.refl _) (Mem.le.refl _) et_15 ?_
    intro w_16 v_17 M_18 hS' ho_19
    clear hm a; intro a hm
    replace hS : Sep w0 w_16 [N_6, Mem.one g_2 (.cells ([.int .i64 0, .slice none 0 0, .int .i64 0] : List Value).toArray 28 (0, 0)), M_18] Z := hS'
    clear hS'
    obtain ⟨t_21, et_21, H⟩ := Option.bind_eq_some_iff.1 H
    refine s_call hm rfl Try.call45 rfl (hocketref4_bad.calls 5 t_21 w0 _ _ _ (Mem.le.refl _) (hS.enter [] (by decide))  et_21) ?_
    rintro _ w_22 ⟨v_25, N_23, M_27, rfl, hS', hr_26⟩
    clear hm a; intro a hm
    obtain ⟨N_24, hS'', le_24, ln_24⟩ := hS.call [] (by decide) rfl (l' := []) (ow := [M_27]) rfl hS'
    replace hS : Sep w0 w_22 [N_24, Mem.one g_2 (.cells ([.int .i64 0, .slice none 0 0, .int .i64 0] : List Value).toArray 28 (0, 0)), M_18, M_27] Z := hS''
    clear hS' hS''
    refine s_assign hm rfl rfl ?_
    clear hm a; intro a hm
    obtain ⟨w_29, hs', hS'⟩ := hS.store (P := Try.prog) (p := 1) (o := 0) (t := 28) (v := .agg ([.int .i64 t_21.Err, v_25, .int .i64 t_21.N] : List Value).toArray) (vs := [.int .i64 t_21.Err, v_25, .int .i64 t_21.N]) rfl ti28 rfl rfl rfl (by intro u hu; simp only [List.mem_cons, List.not_mem_nil, or_false] at hu; rcases hu with rfl | rfl | rfl <;> first | rfl | exact hr_26.one)
    refine s_store hm rfl rfl hs' ?_
    replace hS : Sep w0 w_29 [N_24, Mem.one g_2 (.cells ([.int .i64 t_21.Err, v_25, .int .i64 t_21.N] : List Value).toArray 28 (0, 0)), M_18, M_27] Z := hS'
    clear hs' hS'
    refine wpList_nil ?_
    replace hm : Fr 36 a [(0, p0_0), (4, v_17), (5, .pointer (some ⟨g_2, 0, none⟩)), (6, .int .i64 t_3)] := hm.keep [0, 4, 5, 6]
    refine x_then_n ?_
    refine wp_ret (x_then_r ?_)
    obtain rfl := Option.some.inj H
    exact f_ret hm (rs := [.tmp 4, .cell 5 28]) rfl (.tmp rfl (.cell rfl (hS.load_agg (p := 1) (us := [.int .i64 t_21.Err, v_25, .int .i64 t_21.N]) rfl Try.underlying28 rfl ti28 rfl rfl) .nil)) ⟨_, rfl, v_17, v_25, N_24, M_18, M_27, rfl, (Sep.sel hS [0, 2, 3] (by decide)), ho_19, hr_26⟩
  · rw [if_neg hc_8] at H
    refine c_cond_f hm rfl (decide_eq_false hc_8) ?_
    refine wp_skip ?_
    refine x_then_n (hKJ_7 _ _ ?_)
    refine c_seq fun KJ_30 hKJ_30 => ?_
    refine h_begin (S := fun w => Sep w0 w [N_6, Mem.one g_2 (.cells ([.int .i64 0, .slice none 0 0, .int .i64 0] : List Value).toArray 28 (0, 0))] Z) 11 (by kernel_rfl) rfl [false, false, false, false, false, false, false, false, false, false, false].toArray rfl hS fun w_31 hS => ?_
    replace hS : Sep w0 w_31 [N_6, Mem.one g_2 (.cells ([.int .i64 0, .slice none 0 0, .int .i64 0] : List Value).toArray 28 (0, 0))] Z := hS
    refine h_take 1 [false, true, false, false, false, false, false, false, false, false, false].toArray rfl (by kernel_rfl) (by kernel_rfl) (by kernel_rfl) (fun _ _ _ _ h => h) rfl rfl rfl rfl hm (hS.sub (.cons (Mem.le.refl _) (.cons (Mem.le.refl _) (Sub.nil _)))) (v := p0_0) (fun w hS => r_move hm rfl) ?_
    clear hm a; intro a hm
    refine h_take 2 [false, true, true, false, false, false, false, false, false, false, false].toArray rfl (by kernel_rfl) (by kernel_rfl) (by kernel_rfl) (fun _ _ _ _ h => h) rfl rfl rfl rfl hm (hS.sub (.cons (Mem.le.refl _) (.cons (Mem.le.refl _) (Sub.nil _)))) (v := .int .i64 t_3) (fun w hS => r_move hm rfl) ?_
    clear hm a; intro a hm
    obtain ⟨t_32, et_32, H⟩ := Option.bind_eq_some_iff.1 H
    refine h_takeE 3 [false, true, true, true, false, false, false, false, false, false, false].toArray rfl (by kernel_rfl) (by kernel_rfl) (by kernel_rfl) (fun _ _ _ _ h => h) rfl rfl rfl rfl hm (hS.sub (.cons (Mem.le.refl _) (.cons (Mem.le.refl _) (Sub.nil _)))) (f := fun v => v) (r_slice hm Try.underlying22 ti3 rfl rfl hp0_0 rfl rfl et_32) ?_
    intro v_33 hr_34
    clear hm a; intro a hm
    refine h_take 5 [false, true, true, true, false, true, false, false, false, false, false].toArray rfl (by kernel_rfl) (by kernel_rfl) (by kernel_rfl) (fun _ _ _ _ h => h) rfl rfl rfl rfl hm (hS.sub (.cons (Mem.le.refl _) (.cons (Mem.le.refl _) (Sub.nil _)))) (v := p0_0) (fun w hS => r_move hm rfl) ?_
    clear hm a; intro a hm
    refine h_take 6 [false, true, true, true, false, true, true, false, false, false, false].toArray rfl (by kernel_rfl) (by kernel_rfl) (by kernel_rfl) (fun _ _ _ _ h => h) rfl rfl rfl rfl hm (hS.sub (.cons (Mem.le.refl _) (.cons (Mem.le.refl _) (Sub.nil _)))) (v := .int .i64 t_3) (fun w hS => r_move hm rfl) ?_
    clear hm a; intro a hm
    refine h_take 7 [false, true, true, true, false, true, true, true, false, false, false].toArray rfl (by kernel_rfl) (by kernel_rfl) (by kernel_rfl) (fun _ _ _ _ h => h) rfl rfl rfl rfl hm (hS.sub (.cons (Mem.le.refl _) (.cons (Mem.le.refl _) (Sub.nil _)))) (v := .int .i64 (w64 (t_3 + 1))) (fun w hS => r_arith (r := w64 (t_3 + 1)) hm rfl rfl (.inl ⟨rfl, rfl⟩)) ?_
    clear hm a; intro a hm
    obtain ⟨t_35, et_35, H⟩ := Option.bind_eq_some_iff.1 H
    refine h_takeE 8 [false, true, true, true, false, true, true, true, true, false, false].toArray rfl (by kernel_rfl) (by kernel_rfl) (by kernel_rfl) (fun _ _ _ _ h => h) rfl rfl rfl rfl hm (hS.sub (.cons (Mem.le.refl _) (.cons (Mem.le.refl _) (Sub.nil _)))) (f := fun v => v) (r_slice hm Try.underlying22 ti3 rfl rfl hp0_0 rfl rfl et_35) ?_
    intro v_36 hr_37
    clear hm a; intro a hm
    refine h_event 0 [true, true, true, true, false, true, true, true, true, false, false].toArray rfl (by kernel_rfl) rfl ?_
    have hq_42 : Reps (Kd.int .i64) Mem.no ([] : List Int) _ := (Reps.nil (Kd.int .i64) _)
    refine s_buildSlice hm rfl Try.underlying22 ti3 rfl rfl rfl .nil rfl rfl rfl hS hq_42 rfl ?_
    intro w_38 v_39 M_40 hS' ho_41
    clear hm a; intro a hm
    replace hS : Sep w0 w_38 [N_6, Mem.one g_2 (.cells ([.int .i64 0, .slice none 0 0, .int .i64 0] : List Value).toArray 28 (0, 0)), M_40] Z := hS'
    clear hS' hq_42
    refine wpList_nil ?_
    refine x_then_n ⟨(hS.sub (.cons (Mem.le.refl _) (.cons (Mem.le.refl _) (Sub.nil _)))), ?_⟩
    refine h_event 4 [true, true, true, true, true, true, true, true, true, false, false].toArray rfl (by kernel_rfl) rfl ?_
    obtain ⟨t_44, et_44, H⟩ := Option.bind_eq_some_iff.1 H
    refine s_append (J := Mem.no) (I' := Mem.no) (p := 2) 17592186044416 hm rfl rfl rfl Try.underlying22 ti3 rfl rfl rfl rfl hS rfl ho_41 (Src.flat (flat_int .i64) (hr_34.src (hA.trans hS.old))) (Mem.le.refl _) (Mem.le.refl _) et_44 ?_
    intro w_45 v_46 M_47 hS' ho_48
    clear hm a; intro a hm
    replace hS : Sep w0 w_45 [N_6, Mem.one g_2 (.cells ([.int .i64 0, .slice none 0 0, .int .i64 0] : List Value).toArray 28 (0, 0)), M_47] Z := hS'
    clear hS'
    refine wpList_nil ?_
    refine x_then_n ⟨(hS.sub (.cons (Mem.le.refl _) (.cons (Mem.le.refl _) (Sub.nil _)))), ?_⟩
    refine h_event 9 [true, true, true, true, true, true, true, true, true, true, false].toArray rfl (by kernel_rfl) rfl ?_
    obtain ⟨t_50, et_50, H⟩ := Option.bind_eq_some_iff.1 H
    refine s_append (J := Mem.no) (I' := Mem.no) (p := 2) 17592186044416 hm rfl rfl rfl Try.underlying22 ti3 rfl rfl rfl rfl hS rfl ho_48 (Src.flat (flat_int .i64) (hr_37.src (hA.trans hS.old))) (Mem.le.refl _) (Mem.le.refl _) et_50 ?_
    intro w_51 v_52 M_53 hS' ho_54
    clear hm a; intro a hm
    replace hS : Sep w0 w_51 [N_6, Mem.one g_2 (.cells ([.int .i64 0, .slice none 0 0, .int .i64 0] : List Value).toArray 28 (0, 0)), M_53] Z := hS'
    clear hS'
    refine wpList_nil ?_
    refine x_then_n ⟨(hS.sub (.cons (Mem.le.refl _) (.cons (Mem.le.refl _) (Sub.nil _)))), ?_⟩
    refine h_take 10 [true, true, true, true, true, true, true, true, true, true, true].toArray rfl (by kernel_rfl) (by kernel_rfl) (by kernel_rfl) (fun _ _ _ _ h => h) rfl rfl rfl rfl hm (hS.sub (.cons (Mem.le.refl _) (.cons (Mem.le.refl _) (Sub.nil _)))) (v := v_52) (fun w hS => r_assign hm rfl) ?_
    clear hm a; intro a hm
    refine h_done (by kernel_rfl) ?_
    replace hm : Fr 36 a [(4, .slice none 0 0), (5, .pointer (some ⟨g_2, 0, none⟩)), (7, v_52)] := hm.keep [4, 5, 7]
    refine x_then_n (hKJ_30 _ _ ?_)
    refine c_seq fun KJ_56 hKJ_56 => ?_
    refine wp_seq ?_
    refine wp_region_lit ?_
    refine s_move hm rfl rfl ?_
    clear hm a; intro a hm
    refine s_lenO hm rfl Try.underlying22 rfl ho_54 ?_
    clear hm a; intro a hm
    refine s_cmp (b := ((t_50.length : Int) == 0)) hm rfl rfl rfl (.inl ⟨rfl, rfl⟩) ?_
    clear hm a; intro a hm
    refine wpList_nil ?_
    replace hm : Fr 36 a [(4, .slice none 0 0), (5, .pointer (some ⟨g_2, 0, none⟩)), (7, v_52), (29, .bool ((t_50.length : Int) == 0))] := hm.keep [4, 5, 7, 29]
    refine x_then_n ?_
    by_cases hc_57 : (t_50.length : Int) = 0
    · rw [if_pos hc_57] at H
      refine c_cond_t hm rfl (beq_iff_eq.2 hc_57) ?_
      refine wp_seq ?_
      refine wp_region_lit ?_
      refine s_build hm rfl ti28 pl28 rfl (.cons rfl .nil) (cs := [.int .i64 0, .slice none 0 0, .int .i64 (-1)]) rfl ?_
      clear hm a; intro a hm
      refine s_assign hm rfl rfl ?_
      clear hm a; intro a hm
      obtain ⟨w_58, hs', hS'⟩ := hS.store (P := Try.prog) (p := 1) (o := 0) (t := 28) (v := .agg ([.int .i64 0, .slice none 0 0, .int .i64 (-1)] : List Value).toArray) (vs := [.int .i64 0, .slice none 0 0, .int .i64 (-1)]) rfl ti28 rfl rfl rfl (by intro u hu; simp only [List.mem_cons, List.not_mem_nil, or_false] at hu; rcases hu with rfl | rfl | rfl <;> rfl)
      refine s_store hm rfl rfl hs' ?_
      replace hS : Sep w0 w_58 [N_6, Mem.one g_2 (.cells ([.int .i64 0, .slice none 0 0, .int .i64 (-1)] : List Value).toArray 28 (0, 0)), M_53] Z := hS'
      clear hs' hS'
      refine wpList_nil ?_
      replace hm : Fr 36 a [(4, .slice none 0 0), (5, .pointer (some ⟨g_2, 0, none⟩)), (7, v_52)] := hm.keep [4, 5, 7]
      refine x_then_n ?_
      refine wp_ret (x_then_r ?_)
      have hS' := hS.room
      replace hS : Sep w0 w_58 [N_6, Mem.one g_2 (.cells ([.int .i64 0, .slice none 0 0, .int .i64 (-1)] : List Value).toArray 28 (0, 0)), M_53, Mem.no] Z := hS'
      clear hS'
      have hS' := hS.room
      replace hS : Sep w0 w_58 [N_6, Mem.one g_2 (.cells ([.int .i64 0, .slice none 0 0, .int .i64 (-1)] : List Value).toArray 28 (0, 0)), M_53, Mem.no, Mem.no] Z := hS'
      clear hS'
      replace hS : Sep w0 w_58 [N_6, Mem.one g_2 (.cells ([.int .i64 0, .slice none 0 0, .int .i64 (-1)] : List Value).toArray 28 (0, 0)), M_53, Mem.no, Mem.no] Z := hS
      obtain rfl := Option.some.inj H
      exact f_ret hm (rs := [.tmp 4, .cell 5 28]) rfl (.tmp rfl (.cell rfl (hS.load_agg (p := 1) (us := [.int .i64 0, .slice none 0 0, .int .i64 (-1)]) rfl Try.underlying28 rfl ti28 rfl rfl) .nil)) ⟨_, rfl, .slice none 0 0, .slice none 0 0, N_6, Mem.no, Mem.no, rfl, (Sep.sel hS [0, 3, 4] (by decide)), (Own.nil (Kd.int .i64) 3 Mem.no), (Own.nil Kd.u8 5 Mem.no)⟩
    · rw [if_neg hc_57] at H
      refine c_cond_f hm rfl (beq_eq_false_iff_ne.2 hc_57) ?_
      refine wp_skip ?_
      refine x_then_n (hKJ_56 _ _ ?_)
      refine c_seq fun KJ_61 hKJ_61 => ?_
      refine h_begin (S := fun w => Sep w0 w [N_6, Mem.no, M_53] Z) 7 (by kernel_rfl) rfl [false, false, false, false, false, false, false].toArray rfl hS fun w_62 hS => ?_
      replace hS : Sep w0 w_62 [N_6, Mem.one g_2 (.cells ([.int .i64 0, .slice none 0 0, .int .i64 0] : List Value).toArray 28 (0, 0)), M_53] Z := hS
      refine h_take 0 [true, false, false, false, false, false, false].toArray rfl (by kernel_rfl) (by kernel_rfl) (by kernel_rfl) (fun _ _ _ _ h => h) rfl rfl rfl rfl hm (hS.sub (.cons (Mem.le.refl _) (.cons (Mem.no_le _) (.cons (Mem.le.refl _) (Sub.nil _))))) (v := v_52) (fun w hS => r_move hm rfl) ?_
      clear hm a; intro a hm
      refine h_take 1 [true, true, false, false, false, false, false].toArray rfl (by kernel_rfl) (by kernel_rfl) (by kernel_rfl) (fun _ _ _ _ h => h) rfl rfl rfl rfl hm (hS.sub (.cons (Mem.le.refl _) (.cons (Mem.no_le _) (.cons (Mem.le.refl _) (Sub.nil _))))) (v := v_52) (fun w hS => r_move hm rfl) ?_
      clear hm a; intro a hm
      obtain ⟨t_63, et_63, H⟩ := Option.bind_eq_some_iff.1 H
      refine h_takeE 2 [true, true, true, false, false, false, false].toArray rfl (by kernel_rfl) (by kernel_rfl) (by kernel_rfl) (fun _ _ _ _ h => h) rfl rfl rfl rfl hm (hS.sub (.cons (Mem.le.refl _) (.cons (Mem.no_le _) (.cons (Mem.le.refl _) (Sub.nil _))))) (f := fun ad => .pointer (some ad)) (r_indexO hm Try.underlying22 ti3 rfl rfl rfl ho_54 et_63) ?_
      rintro ad_64 ⟨cs_65, hk_66, hc_67⟩
      obtain rfl := (show cs_65 = [.int .i64 t_63] from hk_66)
      clear hm a; intro a hm
      refine h_take 3 [true, true, true, true, false, false, false].toArray rfl (by kernel_rfl) (by kernel_rfl) (by kernel_rfl) (fun _ _ _ _ h => h) rfl rfl rfl rfl hm (hS.sub (.cons (Mem.le.refl _) (.cons (Mem.no_le _) (.cons (Mem.le.refl _) (Sub.nil _))))) (v := .int .i64 t_63) (fun w hS => r_load hm rfl (el_one (o := 0) (fun j c h => Mem.cell_le (hS.own 2) (hc_67 j c h)) Try.underlying3 rfl rfl)) ?_
      clear hm a; intro a hm
      refine h_take 4 [true, true, true, true, true, false, false].toArray rfl (by kernel_rfl) (by kernel_rfl) (by kernel_rfl) (fun _ _ _ _ h => h) rfl rfl rfl rfl hm (hS.sub (.cons (Mem.le.refl _) (.cons (Mem.no_le _) (.cons (Mem.le.refl _) (Sub.nil _))))) (v := .agg ([.int .i64 0, .slice none 0 0, .int .i64 t_63] : List Value).toArray) (fun w hS => r_build hm ti28 pl28 rfl (.cons rfl .nil) (cs := [.int .i64 0, .slice none 0 0, .int .i64 t_63]) rfl) ?_
      clear hm a; intro a hm
      refine h_take 5 [true, true, true, true, true, true, false].toArray rfl (by kernel_rfl) (by kernel_rfl) (by kernel_rfl) (fun _ _ _ _ h => h) rfl rfl rfl rfl hm (hS.sub (.cons (Mem.le.refl _) (.cons (Mem.no_le _) (.cons (Mem.le.refl _) (Sub.nil _))))) (v := v_52) (fun w hS => r_assign hm rfl) ?_
      clear hm a; intro a hm
      refine h_event 6 [true, true, true, true, true, true, true].toArray rfl (by kernel_rfl) rfl ?_
      obtain ⟨w_68, hs', hS'⟩ := hS.store (P := Try.prog) (p := 1) (o := 0) (t := 28) (v := .agg ([.int .i64 0, .slice none 0 0, .int .i64 t_63] : List Value).toArray) (vs := [.int .i64 0, .slice none 0 0, .int .i64 t_63]) rfl ti28 rfl rfl rfl (by intro u hu; simp only [List.mem_cons, List.not_mem_nil, or_false] at hu; rcases hu with rfl | rfl | rfl <;> rfl)
      refine s_store hm rfl rfl hs' ?_
      replace hS : Sep w0 w_68 [N_6, Mem.one g_2 (.cells ([.int .i64 0, .slice none 0 0, .int .i64 t_63] : List Value).toArray 28 (0, 0)), M_53] Z := hS'
      clear hs' hS'
      refine wpList_nil ?_
      refine x_then_n ⟨(hS.sub (.cons (Mem.le.refl _) (.cons (Mem.no_le _) (.cons (Mem.le.refl _) (Sub.nil _))))), ?_⟩
      refine h_done (by kernel_rfl) ?_
      replace hm : Fr 36 a [(4, v_52), (5, .pointer (some ⟨g_2, 0, none⟩))] := hm.keep [4, 5]
      refine x_then_n (hKJ_61 _ _ ?_)
      refine wp_ret ?_
      have hS' := hS.room
      replace hS : Sep w0 w_68 [N_6, Mem.one g_2 (.cells ([.int .i64 0, .slice none 0 0, .int .i64 t_63] : List Value).toArray 28 (0, 0)), M_53, Mem.no] Z := hS'
      clear hS'
      replace hS : Sep w0 w_68 [N_6, Mem.one g_2 (.cells ([.int .i64 0, .slice none 0 0, .int .i64 t_63] : List Value).toArray 28 (0, 0)), M_53, Mem.no] Z := hS
      obtain rfl := Option.some.inj H
      exact f_ret hm (rs := [.tmp 4, .cell 5 28]) rfl (.tmp rfl (.cell rfl (hS.load_agg (p := 1) (us := [.int .i64 0, .slice none 0 0, .int .i64 t_63]) rfl Try.underlying28 rfl ti28 rfl rfl) .nil)) ⟨_, rfl, v_52, .slice none 0 0, N_6, M_53, Mem.no, rfl, (Sep.sel hS [0, 2, 3] (by decide)), ho_54, (Own.nil Kd.u8 5 Mem.no)⟩

set_option maxHeartbeats 4000000 in
set_option maxRecDepth 20000 in
theorem hocketref4_SameResult.calls (x0 : api_Result) (p0_0 : Value) (x1 : api_Result) (p1_1 : Value) (r : Bool) (w0 w : World) (Z A : Mem) (hA : A.le Z) (hS : Sep w0 w [] Z) (hp0_0 : Rd Kd.u8 A p0_0 x0.Val) (hp1_1 : Rd Kd.u8 A p1_1 x1.Val)
    (H : hocketref4_SameResult.f x0 x1 = some r) :
    Calls Try.prog 19 [.agg ([.int .i64 x0.Err, p0_0, .int .i64 x0.N] : List Value).toArray, .agg ([.int .i64 x1.Err, p1_1, .int .i64 x1.N] : List Value).toArray].toArray w (Ret fun v w' => ∃ (N : Mem), v = .bool r ∧ Sep w0 w' [N] Z) := by
  unfold hocketref4_SameResult.f at H
  refine f_enter _ Try.func19 rfl Try.ntmps19 rfl fun a hm => ?_
  replace hm : Fr 26 a [(0, .agg ([.int .i64 x0.Err, p0_0, .int .i64 x0.N] : List Value).toArray), (1, .agg ([.int .i64 x1.Err, p1_1, .int .i64 x1.N] : List Value).toArray)] := hm
  replace hS := hS.start
  replace hS : Sep w0 w [Mem.no] Z := hS
  refine wp_seq ?_
  refine wp_region_lit ?_
  refine v_box (vs := [.int .i64 x0.Err, p0_0, .int .i64 x0.N]) hm rfl rfl rfl hS ?_
  intro w_1 g_2 hS'
  clear hm a; intro a hm
  replace hS : Sep w0 w_1 [Mem.no, Mem.one g_2 (.cells ([.int .i64 x0.Err, p0_0, .int .i64 x0.N] : List Value).toArray 28 (0, 0))] Z := hS'
  clear hS'
  refine v_box (vs := [.int .i64 x1.Err, p1_1, .int .i64 x1.N]) hm rfl rfl rfl hS ?_
  intro w_3 g_4 hS'
  clear hm a; intro a hm
  replace hS : Sep w0 w_3 [Mem.no, Mem.one g_2 (.cells ([.int .i64 x0.Err, p0_0, .int .i64 x0.N] : List Value).toArray 28 (0, 0)), Mem.one g_4 (.cells ([.int .i64 x1.Err, p1_1, .int .i64 x1.N] : List Value).toArray 28 (0, 0))] Z := hS'
  clear hS'
  refine s_assign hm rfl rfl ?_
  clear hm a; intro a hm
  refine wpList_nil ?_
  replace hm : Fr 26 a [(2, .pointer (some ⟨g_2, 0, none⟩)), (3, .pointer (some ⟨g_4, 0, none⟩)), (4, .bool false)] := hm.keep [2, 3, 4]
  refine x_then_n ?_
  refine c_seq fun KJ_5 hKJ_5 => ?_
  refine wp_region_lit ?_
  refine s_fieldAddr hm rfl Try.underlying28 rfl ti23 rfl rfl ?_
  clear hm a; intro a hm
  refine s_load hm rfl rfl (hS.load_one (p := 1) rfl Try.underlying23 rfl rfl) ?_
  clear hm a; intro a hm
  refine s_fieldAddr hm rfl Try.underlying28 rfl ti23 rfl rfl ?_
  clear hm a; intro a hm
  refine s_load hm rfl rfl (hS.load_one (p := 2) rfl Try.underlying23 rfl rfl) ?_
  clear hm a; intro a hm
  refine s_cmp (b := (x0.Err == x1.Err)) hm rfl rfl rfl (.inl ⟨rfl, rfl⟩) ?_
  clear hm a; intro a hm
  refine s_move hm rfl rfl ?_
  clear hm a; intro a hm
  by_cases hc_6 : x0.Err = x1.Err
  · rw [if_pos hc_6] at H
    refine s_on hm rfl rfl (beq_iff_eq.2 hc_6) ?_
    refine s_fieldAddr hm rfl Try.underlying28 rfl ti26 rfl rfl ?_
    clear hm a; intro a hm
    refine s_on hm rfl rfl (beq_iff_eq.2 hc_6) ?_
    refine s_load hm rfl rfl (hS.load_one (p := 1) rfl Try.underlying26 rfl rfl) ?_
    clear hm a; intro a hm
    refine s_on hm rfl rfl (beq_iff_eq.2 hc_6) ?_
    refine s_b2s hm rfl Try.underlying26 Try.underlying5 Try.underlying9 rfl hp0_0 (hA.trans hS.old) ?_
    clear hm a; intro a hm
    refine s_on hm rfl rfl (beq_iff_eq.2 hc_6) ?_
    refine s_fieldAddr hm rfl Try.underlying28 rfl ti26 rfl rfl ?_
    clear hm a; intro a hm
    refine s_on hm rfl rfl (beq_iff_eq.2 hc_6) ?_
    refine s_load hm rfl rfl (hS.load_one (p := 2) rfl Try.underlying26 rfl rfl) ?_
    clear hm a; intro a hm
    refine s_on hm rfl rfl (beq_iff_eq.2 hc_6) ?_
    refine s_b2s hm rfl Try.underlying26 Try.underlying5 Try.underlying9 rfl hp1_1 (hA.trans hS.old) ?_
    clear hm a; intro a hm
    refine s_on hm rfl rfl (beq_iff_eq.2 hc_6) ?_
    refine s_strEq (b := (x0.Val == x1.Val)) hm rfl rfl rfl (.inl ⟨rfl, rfl⟩) ?_
    clear hm a; intro a hm
    refine s_pick_t hm rfl rfl (beq_iff_eq.2 hc_6) rfl ?_
    clear hm a; intro a hm
    refine s_move hm rfl rfl ?_
    clear hm a; intro a hm
    by_cases hc_7 : x0.Val = x1.Val
    · rw [if_pos hc_7] at H
      refine s_on hm rfl rfl (beq_iff_eq.2 hc_7) ?_
      refine s_fieldAddr hm rfl Try.underlying28 rfl ti3 rfl rfl ?_
      clear hm a; intro a hm
      refine s_on hm rfl rfl (beq_iff_eq.2 hc_7) ?_
      refine s_load hm rfl rfl (hS.load_one (p := 1) rfl Try.underlying3 rfl rfl) ?_
      clear hm a; intro a hm
      refine s_on hm rfl rfl (beq_iff_eq.2 hc_7) ?_
      refine s_fieldAddr hm rfl Try.underlying28 rfl ti3 rfl rfl ?_
      clear hm a; intro a hm
      refine s_on hm rfl rfl (beq_iff_eq.2 hc_7) ?_
      refine s_load hm rfl rfl (hS.load_one (p := 2) rfl Try.underlying3 rfl rfl) ?_
      clear hm a; intro a hm
      refine s_on hm rfl rfl (beq_iff_eq.2 hc_7) ?_
      refine s_cmp (b := (x0.N == x1.N)) hm rfl rfl rfl (.inl ⟨rfl, rfl⟩) ?_
      clear hm a; intro a hm
      refine s_pick_t hm rfl rfl (beq_iff_eq.2 hc_7) rfl ?_
      clear hm a; intro a hm
      refine s_assign hm rfl rfl ?_
      clear hm a; intro a hm
      refine wpList_nil ?_
      replace hm : Fr 26 a [(4, .bool (x0.N == x1.N))] := hm.keep [4]
      refine x_then_n (hKJ_5 _ _ ?_)
      refine wp_ret ?_
      obtain rfl := Option.some.inj H
      exact f_ret hm (rs := [.tmp 4]) rfl (.tmp rfl .nil) ⟨_, rfl, Mem.no, rfl, (Sep.sel hS [0] (by decide))⟩
    · rw [if_neg hc_7] at H
      refine s_off hm rfl rfl rfl (beq_eq_false_iff_ne.2 hc_7) ?_
      clear hm a; intro a hm
      refine s_off hm rfl rfl rfl (beq_eq_false_iff_ne.2 hc_7) ?_
      clear hm a; intro a hm
      refine s_off hm rfl rfl rfl (beq_eq_false_iff_ne.2 hc_7) ?_
      clear hm a; intro a hm
      refine s_off hm rfl rfl rfl (beq_eq_false_iff_ne.2 hc_7) ?_
      clear hm a; intro a hm
      refine s_off hm rfl rfl rfl (beq_eq_false_iff_ne.2 hc_7) ?_
      clear hm a; intro a hm
      refine s_pick_f hm rfl rfl (beq_eq_false_iff_ne.2 hc_7) rfl ?_
      clear hm a; intro a hm
      refine s_assign hm rfl rfl ?_
      clear hm a; intro a hm
      refine wpList_nil ?_
      replace hm : Fr 26 a [(4, .bool false)] := hm.keep [4]
      refine x_then_n (hKJ_5 _ _ ?_)
      refine wp_ret ?_
      obtain rfl := Option.some.inj H
      exact f_ret hm (rs := [.tmp 4]) rfl (.tmp rfl .nil) ⟨_, rfl, Mem.no, rfl, (Sep.sel hS [0] (by decide))⟩
  · rw [if_neg hc_6] at H
    refine s_off hm rfl rfl rfl (beq_eq_false_iff_ne.2 hc_6) ?_
    clear hm a; intro a hm
    refine s_off hm rfl rfl rfl (beq_eq_false_iff_ne.2 hc_6) ?_
    clear hm a; intro a hm
    refine s_off hm rfl rfl rfl (beq_eq_false_iff_ne.2 hc_6) ?_
    clear hm a; intro a hm
    refine s_off hm rfl rfl rfl (beq_eq_false_iff_ne.2 hc_6) ?_
    clear hm a; intro a hm
    refine s_off hm rfl rfl rfl (beq_eq_false_iff_ne.2 hc_6) ?_
    clear hm a; intro a hm
    refine s_off hm rfl rfl rfl (beq_eq_false_iff_ne.2 hc_6) ?_
    clear hm a; intro a hm
    refine s_off hm rfl rfl rfl (beq_eq_false_iff_ne.2 hc_6) ?_
    clear hm a; intro a hm
    refine s_pick_f hm rfl rfl (beq_eq_false_iff_ne.2 hc_6) rfl ?_
    clear hm a; intro a hm
    refine s_move hm rfl rfl ?_
    clear hm a; intro a hm
    refine s_off hm rfl rfl rfl rfl ?_
    clear hm a; intro a hm
    refine s_off hm rfl rfl rfl rfl ?_
    clear hm a; intro a hm
    refine s_off hm rfl rfl rfl rfl ?_
    clear hm a; intro a hm
    refine s_off hm rfl rfl rfl rfl ?_
    clear hm a; intro a hm
    refine s_off hm rfl rfl rfl rfl ?_
    clear hm a; intro a hm
    refine s_pick_f hm rfl rfl rfl rfl ?_
    clear hm a; intro a hm
    refine s_assign hm rfl rfl ?_
    clear hm a; intro a hm
    refine wpList_nil ?_
    replace hm : Fr 26 a [(4, .bool false)] := hm.keep [4]
    refine x_then_n (hKJ_5 _ _ ?_)
    refine wp_ret ?_
    obtain rfl := Option.some.inj H
    exact f_ret hm (rs := [.tmp 4]) rfl (.tmp rfl .nil) ⟨_, rfl, Mem.no, rfl, (Sep.sel hS [0] (by decide))⟩

set_option maxHeartbeats 4000000 in
set_option maxRecDepth 20000 in
theorem hocketref4_Owner.calls (x0 : List Int) (p0_0 : Value) (r : api_Result) (w0 w : World) (Z A : Mem) (hA : A.le Z) (hS : Sep w0 w [] Z) (hp0_0 : Rd (Kd.int .i64) A p0_0 x0)
    (H : hocketref4_Owner.f x0 = some r) :
    Calls Try.prog 20 [p0_0].toArray w (Ret fun v w' => ∃ (u0 : Value) (N : Mem) (M0 : Mem), v = .agg [.int .i64 r.Err, u0, .int .i64 r.N].toArray ∧ Sep w0 w' [N, M0] Z ∧ Own Kd.u8 5 M0 Mem.no u0 r.Val) := by
  unfold hocketref4_Owner.f at H
  refine f_enter _ Try.func20 rfl Try.ntmps20 rfl fun a hm => ?_
  replace hm : Fr 11 a [(0, p0_0)] := hm
  replace hS := hS.start
  replace hS : Sep w0 w [Mem.no] Z := hS
  refine wp_seq ?_
  refine wp_region_lit ?_
  refine v_alloc hm rfl ti28 hS ?_
  intro w_1 g_2 hS'
  clear hm a; intro a hm
  replace hS : Sep w0 w_1 [Mem.no, Mem.one g_2 (.cells ([.int .i64 0, .slice none 0 0, .int .i64 0] : List Value).toArray 28 (0, 0))] Z := hS'
  clear hS'
  refine wpList_nil ?_
  replace hm : Fr 11 a [(0, p0_0), (2, .pointer (some ⟨g_2, 0, none⟩))] := hm.keep [0, 2]
  refine x_then_n ?_
  refine c_seq fun KJ_3 hKJ_3 => ?_
  refine wp_seq ?_
  refine wp_region_lit ?_
  refine s_move hm rfl rfl ?_
  clear hm a; intro a hm
  refine s_len hm rfl Try.underlying22 rfl hp0_0 ?_
  clear hm a; intro a hm
  refine s_cmp (b := ((x0.length : Int) == 0)) hm rfl rfl rfl (.inl ⟨rfl, rfl⟩) ?_
  clear hm a; intro a hm
  refine wpList_nil ?_
  replace hm : Fr 11 a [(0, p0_0), (2, .pointer (some ⟨g_2, 0, none⟩)), (5, .bool ((x0.length : Int) == 0))] := hm.keep [0, 2, 5]
  refine x_then_n ?_
  by_cases hc_4 : (x0.length : Int) = 0
  · rw [if_pos hc_4] at H
    refine c_cond_t hm rfl (beq_iff_eq.2 hc_4) ?_
    refine wp_seq ?_
    refine wp_region_lit ?_
    obtain ⟨t_5, et_5, H⟩ := Option.bind_eq_some_iff.1 H
    refine s_call hm rfl Try.call45 rfl (hocketref4_bad.calls 5 t_5 w0 _ _ _ (Mem.le.refl _) (hS.enter [] (by decide))  et_5) ?_
    rintro _ w_6 ⟨v_9, N_7, M_11, rfl, hS', hr_10⟩
    clear hm a; intro a hm
    obtain ⟨N_8, hS'', le_8, ln_8⟩ := hS.call [] (by decide) rfl (l' := []) (ow := [M_11]) rfl hS'
    replace hS : Sep w0 w_6 [N_8, Mem.one g_2 (.cells ([.int .i64 0, .slice none 0 0, .int .i64 0] : List Value).toArray 28 (0, 0)), M_11] Z := hS''
    clear hS' hS''
    obtain ⟨w_13, hs', hS'⟩ := hS.store (P := Try.prog) (p := 1) (o := 0) (t := 28) (v := .agg ([.int .i64 t_5.Err, v_9, .int .i64 t_5.N] : List Value).toArray) (vs := [.int .i64 t_5.Err, v_9, .int .i64 t_5.N]) rfl ti28 rfl rfl rfl (by intro u hu; simp only [List.mem_cons, List.not_mem_nil, or_false] at hu; rcases hu with rfl | rfl | rfl <;> first | rfl | exact hr_10.one)
    refine s_store hm rfl rfl hs' ?_
    replace hS : Sep w0 w_13 [N_8, Mem.one g_2 (.cells ([.int .i64 t_5.Err, v_9, .int .i64 t_5.N] : List Value).toArray 28 (0, 0)), M_11] Z := hS'
    clear hs' hS'
    refine wpList_nil ?_
    replace hm : Fr 11 a [(0, p0_0), (2, .pointer (some ⟨g_2, 0, none⟩))] := hm.keep [0, 2]
    refine x_then_n ?_
    refine wp_ret (x_then_r ?_)
    obtain rfl := Option.some.inj H
    exact f_ret hm (rs := [.cell 2 28]) rfl (.cell rfl (hS.load_agg (p := 1) (us := [.int .i64 t_5.Err, v_9, .int .i64 t_5.N]) rfl Try.underlying28 rfl ti28 rfl rfl) .nil) ⟨_, rfl, v_9, N_8, M_11, rfl, (Sep.sel hS [0, 2] (by decide)), hr_10⟩
  · rw [if_neg hc_4] at H
    refine c_cond_f hm rfl (beq_eq_false_iff_ne.2 hc_4) ?_
    refine wp_skip ?_
    refine x_then_n (hKJ_3 _ _ ?_)
    refine wp_seq ?_
    refine wp_region_lit ?_
    refine s_move hm rfl rfl ?_
    clear hm a; intro a hm
    obtain ⟨t_14, et_14, H⟩ := Option.bind_eq_some_iff.1 H
    refine v_index hm rfl Try.underlying22 ti3 rfl rfl rfl hp0_0 (hA.trans hS.old) et_14 ?_
    intro ad_15 cs_16 hk_17 hc_18
    obtain rfl := (show cs_16 = [.int .i64 t_14] from hk_17)
    clear hm a; intro a hm
    refine s_load hm rfl rfl (el_one (o := 0) hc_18 Try.underlying3 rfl rfl) ?_
    clear hm a; intro a hm
    refine s_build hm rfl ti28 pl28 rfl (.cons rfl .nil) (cs := [.int .i64 0, .slice none 0 0, .int .i64 t_14]) rfl ?_
    clear hm a; intro a hm
    obtain ⟨w_19, hs', hS'⟩ := hS.store (P := Try.prog) (p := 1) (o := 0) (t := 28) (v := .agg ([.int .i64 0, .slice none 0 0, .int .i64 t_14] : List Value).toArray) (vs := [.int .i64 0, .slice none 0 0, .int .i64 t_14]) rfl ti28 rfl rfl rfl (by intro u hu; simp only [List.mem_cons, List.not_mem_nil, or_false] at hu; rcases hu with rfl | rfl | rfl <;> rfl)
    refine s_store hm rfl rfl hs' ?_
    replace hS : Sep w0 w_19 [Mem.no, Mem.one g_2 (.cells ([.int .i64 0, .slice none 0 0, .int .i64 t_14] : List Value).toArray 28 (0, 0))] Z := hS'
    clear hs' hS'
    refine wpList_nil ?_
    replace hm : Fr 11 a [(2, .pointer (some ⟨g_2, 0, none⟩))] := hm.keep [2]
    refine x_then_n ?_
    refine wp_ret ?_
    have hS' := hS.room
    replace hS : Sep w0 w_19 [Mem.no, Mem.one g_2 (.cells ([.int .i64 0, .slice none 0 0, .int .i64 t_14] : List Value).toArray 28 (0, 0)), Mem.no] Z := hS'
    clear hS'
    replace hS : Sep w0 w_19 [Mem.no, Mem.one g_2 (.cells ([.int .i64 0, .slice none 0 0, .int .i64 t_14] : List Value).toArray 28 (0, 0)), Mem.no] Z := hS
    obtain rfl := Option.some.inj H
    exact f_ret hm (rs := [.cell 2 28]) rfl (.cell rfl (hS.load_agg (p := 1) (us := [.int .i64 0, .slice none 0 0, .int .i64 t_14]) rfl Try.underlying28 rfl ti28 rfl rfl) .nil) ⟨_, rfl, .slice none 0 0, Mem.no, Mem.no, rfl, (Sep.sel hS [0, 2] (by decide)), (Own.nil Kd.u8 5 Mem.no)⟩

set_option maxHeartbeats 4000000 in
set_option maxRecDepth 20000 in
theorem hocketlaw6_LockPlays.calls (K : Nat) (x0 : List Int) (p0_0 : Value) (x1 : List Int) (p1_1 : Value) (x2 : Bool) (r : Unit) (w0 w : World) (Z A : Mem) (hA : A.le Z) (hS : Sep w0 w [] Z) (hp0_0 : Rd (Kd.int .i64) A p0_0 x0) (hp1_1 : Rd (Kd.int .i64) A p1_1 x1)
    (H : hocketlaw6_LockPlays.f K x0 x1 x2 = some r) :
    Calls Try.prog 6 [p0_0, p1_1, .bool x2].toArray w (Ret fun v w' => ∃ (N : Mem), v = .bool true ∧ Sep w0 w' [N] Z) := by
  unfold hocketlaw6_LockPlays.f at H
  refine f_enter _ Try.func6 rfl Try.ntmps6 rfl fun a hm => ?_
  replace hm : Fr 110 a [(0, p0_0), (1, p1_1), (2, .bool x2)] := hm
  replace hS := hS.start
  replace hS : Sep w0 w [Mem.no] Z := hS
  refine wp_seq ?_
  refine wp_region_lit ?_
  refine s_assign hm rfl rfl ?_
  clear hm a; intro a hm
  refine wpList_nil ?_
  replace hm : Fr 110 a [(0, p0_0), (1, p1_1), (2, .bool x2), (6, .bool false)] := hm.keep [0, 1, 2, 6]
  refine x_then_n ?_
  refine c_seq fun KJ_1 hKJ_1 => ?_
  refine wp_seq ?_
  refine wp_region_lit ?_
  refine s_move hm rfl rfl ?_
  clear hm a; intro a hm
  refine s_len hm rfl Try.underlying22 rfl hp1_1 ?_
  clear hm a; intro a hm
  refine s_move hm rfl rfl ?_
  clear hm a; intro a hm
  refine wpList_nil ?_
  replace hm : Fr 110 a [(0, p0_0), (1, p1_1), (2, .bool x2), (6, .bool false), (15, .int .i64 (x1.length : Int)), (16, .int .i64 0)] := hm.keep [0, 1, 2, 6, 15, 16]
  refine x_then_n ?_
  have hJ_j_4 : hocketlaw6_LockPlays.J1 K x1 x0 x2 = some r → ∀ (a : Act) (w_3 : World), (∃ (N_2 : Mem), Fr 110 a [(0, p0_0), (1, p1_1), (2, .bool x2), (6, .bool false)] ∧ Sep w0 w_3 [N_2] Z ∧ Mem.no.le N_2) → KJ_1 a w_3 := by
    clear H hm hS a
    rintro H a w_3 ⟨N_2, hm, hS, le_2⟩
    unfold hocketlaw6_LockPlays.J1 at H
    refine hKJ_1 _ _ ?_
    refine c_seq fun KJ_5 hKJ_5 => ?_
    refine wp_seq ?_
    refine wp_region_lit ?_
    refine s_move hm rfl rfl ?_
    clear hm a; intro a hm
    refine s_len hm rfl Try.underlying22 rfl hp1_1 ?_
    clear hm a; intro a hm
    refine s_cmp (b := decide ((x1.length : Int) > 12)) hm rfl rfl rfl (.inr (.inr (.inr (.inr (.inl ⟨rfl, rfl⟩))))) ?_
    clear hm a; intro a hm
    refine wpList_nil ?_
    replace hm : Fr 110 a [(0, p0_0), (1, p1_1), (2, .bool x2), (6, .bool false), (41, .bool (decide ((x1.length : Int) > 12)))] := hm.keep [0, 1, 2, 6, 41]
    refine x_then_n ?_
    have hJ_j_11 : ∀ (x_7 : List Int), hocketlaw6_LockPlays.J2 K x0 x2 x_7 = some r → ∀ (a : Act) (w_10 : World), (∃ (v_8 : Value) (N_6 : Mem), Fr 110 a [(0, p0_0), (1, v_8), (2, .bool x2), (6, .bool false)] ∧ Sep w0 w_10 [N_6] Z ∧ N_2.le N_6 ∧ Rd (Kd.int .i64) A v_8 x_7) → KJ_5 a w_10 := by
      clear H hm hS a
      rintro x_7 H a w_10 ⟨v_8, N_6, hm, hS, le_6, hr_9⟩
      unfold hocketlaw6_LockPlays.J2 at H
      refine hKJ_5 _ _ ?_
      refine wp_seq ?_
      refine wp_region_lit ?_
      refine s_move hm rfl rfl ?_
      clear hm a; intro a hm
      refine s_assign hm rfl rfl ?_
      clear hm a; intro a hm
      refine wpList_nil ?_
      replace hm : Fr 110 a [(0, p0_0), (1, v_8), (2, .bool x2), (6, .bool false), (9, v_8)] := hm.keep [0, 1, 2, 6, 9]
      refine x_then_n ?_
      refine c_seq fun KJ_12 hKJ_12 => ?_
      refine wp_seq ?_
      refine wp_region_lit ?_
      refine s_assign hm rfl rfl ?_
      clear hm a; intro a hm
      refine wpList_nil ?_
      replace hm : Fr 110 a [(0, p0_0), (1, v_8), (2, .bool x2), (6, .bool false), (9, v_8), (10, .int .i64 0)] := hm.keep [0, 1, 2, 6, 9, 10]
      refine x_then_n ?_
      have hJ_j_15 : hocketlaw6_LockPlays.J3 K = some r → ∀ (a : Act) (w_14 : World), (∃ (N_13 : Mem), Fr 110 a [(6, .bool false)] ∧ Sep w0 w_14 [N_13] Z ∧ N_6.le N_13) → KJ_12 a w_14 := by
        clear H hm hS a
        rintro H a w_14 ⟨N_13, hm, hS, le_13⟩
        unfold hocketlaw6_LockPlays.J3 at H
        refine hKJ_12 _ _ ?_
        refine wp_seq ?_
        refine wp_region_lit ?_
        obtain ⟨t_16, et_16, H⟩ := Option.bind_eq_some_iff.1 H
        refine s_call hm rfl Try.call15 rfl (hocketlaw6_awake.calls K  t_16 w0 _ _ _ (Mem.le.refl _) (hS.enter [] (by decide))  et_16) ?_
        rintro _ w_17 ⟨N_18, rfl, hS'⟩
        clear hm a; intro a hm
        obtain ⟨N_19, hS'', le_19, ln_19⟩ := hS.call [] (by decide) rfl (l' := []) (ow := []) rfl hS'
        replace hS : Sep w0 w_17 [N_19] Z := hS''
        clear hS' hS''
        refine s_assign hm rfl rfl ?_
        clear hm a; intro a hm
        refine wpList_nil ?_
        replace hm : Fr 110 a [(6, .bool true)] := hm.keep [6]
        refine x_then_n ?_
        refine wp_ret ?_
        exact f_ret hm (rs := [.tmp 6]) rfl (.tmp rfl .nil) ⟨_, rfl, N_19, rfl, (Sep.sel hS [0] (by decide))⟩
      clear hKJ_12
      replace hS : Sep w0 w_10 [N_6] Z := hS
      replace hm : Fr 110 a [(0, p0_0), (1, v_8), (2, .bool x2), (6, .bool false), (9, v_8), (10, .int .i64 0)] := hm.keep [0, 1, 2, 6, 9, 10]
      refine c_block ?_
      refine c_loop (fun k_28 a w_28 => ∃ (x_21 : List Int) (x_24 : List Int) (x_27 : Int) (v_22 : Value) (v_25 : Value) (N_20 : Mem), hocketlaw6_LockPlays.L1 K x0 x2 (fun v => hocketlaw6_LockPlays.J3 K) k_28 (x_21, x_24, x_27) = some r ∧ Fr 110 a [(0, p0_0), (1, v_22), (2, .bool x2), (6, .bool false), (9, v_25), (10, .int .i64 x_27)] ∧ Sep w0 w_28 [N_20] Z ∧ N_6.le N_20 ∧ Rd (Kd.int .i64) (A.un N_20) v_22 x_21 ∧ Rd (Kd.int .i64) (A.un N_20) v_25 x_24) K ⟨x_7, x_7, 0, v_8, v_8, N_6, H, hm, (Sep.sel hS [0] (by decide)), (Mem.le.refl _), (hr_9.mono (Mem.le_un _ _)), (hr_9.mono (Mem.le_un _ _))⟩ (fun a w h => by obtain ⟨_, _, _, _, _, _, H, _⟩ := h; cases (show (none : Option (Unit)) = some r from H)) ?_
      clear hm hS a H
      rintro k_28 a w_28 KL_28 hKL_28 ⟨x_21, x_24, x_27, v_22, v_25, N_20, H, hm, hS, le_20, hr_23, hr_26⟩
      replace H : hocketlaw6_LockPlays.B1 K x0 x2 (fun v => hocketlaw6_LockPlays.J3 K) (hocketlaw6_LockPlays.L1 K x0 x2 (fun v => hocketlaw6_LockPlays.J3 K) k_28) x_21 x_24 x_27 = some r := H
      unfold hocketlaw6_LockPlays.B1 at H
      refine c_seq fun KJ_30 hKJ_30 => ?_
      refine c_seq fun KJ_31 hKJ_31 => ?_
      have hJ_j_35 : ∀ (x_33 : Bool), hocketlaw6_LockPlays.J4 K x0 x_27 x2 x_21 x_24 (hocketlaw6_LockPlays.L1 K x0 x2 (fun v => hocketlaw6_LockPlays.J3 K) k_28) (fun v => hocketlaw6_LockPlays.J3 K) x_33 = some r → ∀ (a : Act) (w_34 : World), (∃ (N_32 : Mem), Fr 110 a [(0, p0_0), (1, v_22), (2, .bool x2), (6, .bool false), (9, v_25), (10, .int .i64 x_27), (50, .bool x_33)] ∧ Sep w0 w_34 [N_32] Z ∧ N_20.le N_32) → KJ_31 a w_34 := by
        clear H hm hS a
        rintro x_33 H a w_34 ⟨N_32, hm, hS, le_32⟩
        unfold hocketlaw6_LockPlays.J4 at H
        refine hKJ_31 _ _ ?_
        by_cases hc_36 : x_33 = true
        · rw [if_pos hc_36] at H
          refine c_cond_t hm rfl hc_36 ?_
          refine wp_skip ?_
          refine x_then_n (hKJ_30 _ _ ?_)
          refine c_seq fun KJ_37 hKJ_37 => ?_
          refine c_block ?_
          refine wp_seq ?_
          refine wp_region_lit ?_
          refine s_move hm rfl rfl ?_
          clear hm a; intro a hm
          refine s_move hm rfl rfl ?_
          clear hm a; intro a hm
          obtain ⟨t_38, et_38, H⟩ := Option.bind_eq_some_iff.1 H
          refine v_index hm rfl Try.underlying22 ti3 rfl rfl rfl hp0_0 (hA.trans hS.old) et_38 ?_
          intro ad_39 cs_40 hk_41 hc_42
          obtain rfl := (show cs_40 = [.int .i64 t_38] from hk_41)
          clear hm a; intro a hm
          refine s_load hm rfl rfl (el_one (o := 0) hc_42 Try.underlying3 rfl rfl) ?_
          clear hm a; intro a hm
          refine s_shift (r := shr .i64 t_38 1) hm rfl rfl rfl (by decide) (.inr ⟨rfl, rfl⟩) ?_
          clear hm a; intro a hm
          refine s_assign hm rfl rfl ?_
          clear hm a; intro a hm
          refine wpList_nil ?_
          replace hm : Fr 110 a [(0, p0_0), (1, v_22), (2, .bool x2), (6, .bool false), (9, v_25), (10, .int .i64 x_27), (11, .int .i64 (shr .i64 t_38 1))] := hm.keep [0, 1, 2, 6, 9, 10, 11]
          refine x_then_n ?_
          refine c_seq fun KJ_43 hKJ_43 => ?_
          refine wp_seq ?_
          refine wp_region_lit ?_
          refine s_move hm rfl rfl ?_
          clear hm a; intro a hm
          refine wpList_nil ?_
          replace hm : Fr 110 a [(0, p0_0), (1, v_22), (2, .bool x2), (6, .bool false), (9, v_25), (10, .int .i64 x_27), (11, .int .i64 (shr .i64 t_38 1)), (58, .bool x2)] := hm.keep [0, 1, 2, 6, 9, 10, 11, 58]
          refine x_then_n ?_
          have hJ_j_47 : ∀ (x_45 : Int), hocketlaw6_LockPlays.J5 K x0 x_27 x_21 x_24 (hocketlaw6_LockPlays.L1 K x0 x2 (fun v => hocketlaw6_LockPlays.J3 K) k_28) x_45 = some r → ∀ (a : Act) (w_46 : World), (∃ (N_44 : Mem), Fr 110 a [(0, p0_0), (1, v_22), (2, .bool x2), (6, .bool false), (9, v_25), (10, .int .i64 x_27), (11, .int .i64 x_45)] ∧ Sep w0 w_46 [N_44] Z ∧ N_32.le N_44) → KJ_43 a w_46 := by
            clear H hm hS a
            rintro x_45 H a w_46 ⟨N_44, hm, hS, le_44⟩
            unfold hocketlaw6_LockPlays.J5 at H
            refine hKJ_43 _ _ ?_
            refine wp_seq ?_
            refine wp_region_lit ?_
            refine v_alloc hm rfl ti28 hS ?_
            intro w_48 g_49 hS'
            clear hm a; intro a hm
            replace hS : Sep w0 w_48 [N_44, Mem.one g_49 (.cells ([.int .i64 0, .slice none 0 0, .int .i64 0] : List Value).toArray 28 (0, 0))] Z := hS'
            clear hS'
            refine v_alloc hm rfl ti28 hS ?_
            intro w_50 g_51 hS'
            clear hm a; intro a hm
            replace hS : Sep w0 w_50 [N_44, Mem.one g_49 (.cells ([.int .i64 0, .slice none 0 0, .int .i64 0] : List Value).toArray 28 (0, 0)), Mem.one g_51 (.cells ([.int .i64 0, .slice none 0 0, .int .i64 0] : List Value).toArray 28 (0, 0))] Z := hS'
            clear hS'
            refine wpList_nil ?_
            replace hm : Fr 110 a [(0, p0_0), (1, v_22), (2, .bool x2), (6, .bool false), (9, v_25), (10, .int .i64 x_27), (11, .int .i64 x_45), (12, .pointer (some ⟨g_49, 0, none⟩)), (13, .pointer (some ⟨g_51, 0, none⟩))] := hm.keep [0, 1, 2, 6, 9, 10, 11, 12, 13]
            refine x_then_n ?_
            refine c_seq fun KJ_52 hKJ_52 => ?_
            refine wp_seq ?_
            refine wp_region_lit ?_
            refine s_move hm rfl rfl ?_
            clear hm a; intro a hm
            refine s_move hm rfl rfl ?_
            clear hm a; intro a hm
            obtain ⟨t_53, et_53, H⟩ := Option.bind_eq_some_iff.1 H
            refine v_index hm rfl Try.underlying22 ti3 rfl rfl rfl hp0_0 (hA.trans hS.old) et_53 ?_
            intro ad_54 cs_55 hk_56 hc_57
            obtain rfl := (show cs_55 = [.int .i64 t_53] from hk_56)
            clear hm a; intro a hm
            refine s_load hm rfl rfl (el_one (o := 0) hc_57 Try.underlying3 rfl rfl) ?_
            clear hm a; intro a hm
            refine s_bits (i := t_53) (j := 1) (r := band .i64 t_53 1) hm rfl rfl rfl (.inl ⟨rfl, rfl⟩) ?_
            clear hm a; intro a hm
            refine s_cmp (b := ((band .i64 t_53 1) == 0)) hm rfl rfl rfl (.inl ⟨rfl, rfl⟩) ?_
            clear hm a; intro a hm
            refine wpList_nil ?_
            replace hm : Fr 110 a [(0, p0_0), (1, v_22), (2, .bool x2), (6, .bool false), (9, v_25), (10, .int .i64 x_27), (11, .int .i64 x_45), (12, .pointer (some ⟨g_49, 0, none⟩)), (13, .pointer (some ⟨g_51, 0, none⟩)), (66, .bool ((band .i64 t_53 1) == 0))] := hm.keep [0, 1, 2, 6, 9, 10, 11, 12, 13, 66]
            refine x_then_n ?_
            have hJ_j_80 : ∀ (x_59 : List Int), ∀ (x_64 : List Int), ∀ (x_69 : api_Result), ∀ (x_74 : api_Result), hocketlaw6_LockPlays.J6 K (hocketlaw6_LockPlays.L1 K x0 x2 (fun v => hocketlaw6_LockPlays.J3 K) k_28) x_27 x_59 x_64 x_69 x_74 = some r → ∀ (a : Act) (w_79 : World), (∃ (v_62 : Value) (v_67 : Value) (v_72 : Value) (v_77 : Value) (N_58 : Mem) (M_60 : Mem) (M_65 : Mem) (M_70 : Mem) (M_75 : Mem), Fr 110 a [(0, p0_0), (1, v_62), (2, .bool x2), (6, .bool false), (9, v_67), (10, .int .i64 x_27), (12, .pointer (some ⟨g_49, 0, none⟩)), (13, .pointer (some ⟨g_51, 0, none⟩))] ∧ Sep w0 w_79 [N_58, Mem.one g_49 (.cells ([.int .i64 x_69.Err, v_72, .int .i64 x_69.N] : List Value).toArray 28 (0, 0)), Mem.one g_51 (.cells ([.int .i64 x_74.Err, v_77, .int .i64 x_74.N] : List Value).toArray 28 (0, 0)), M_60, M_65, M_70, M_75] Z ∧ N_44.le N_58 ∧ Own (Kd.int .i64) 3 M_60 Mem.no v_62 x_59 ∧ Own (Kd.int .i64) 3 M_65 Mem.no v_67 x_64 ∧ Own Kd.u8 5 M_70 Mem.no v_72 x_69.Val ∧ Own Kd.u8 5 M_75 Mem.no v_77 x_74.Val) → KJ_52 a w_79 := by
              clear H hm hS a
              rintro x_59 x_64 x_69 x_74 H a w_79 ⟨v_62, v_67, v_72, v_77, N_58, M_60, M_65, M_70, M_75, hm, hS, le_58, ho_63, ho_68, ho_73, ho_78⟩
              unfold hocketlaw6_LockPlays.J6 at H
              refine hKJ_52 _ _ ?_
              refine c_seq fun KJ_81 hKJ_81 => ?_
              have hJ_j_85 : ∀ (x_83 : Bool), hocketlaw6_LockPlays.J7 K (hocketlaw6_LockPlays.L1 K x0 x2 (fun v => hocketlaw6_LockPlays.J3 K) k_28) x_59 x_64 x_27 x_83 = some r → ∀ (a : Act) (w_84 : World), (∃ (N_82 : Mem), Fr 110 a [(0, p0_0), (1, v_62), (2, .bool x2), (6, .bool false), (9, v_67), (10, .int .i64 x_27), (108, .bool x_83)] ∧ Sep w0 w_84 [N_82, Mem.no, Mem.no, M_60, M_65, Mem.no, Mem.no] Z ∧ N_58.le N_82) → KJ_81 a w_84 := by
                clear H hm hS a
                rintro x_83 H a w_84 ⟨N_82, hm, hS, le_82⟩
                unfold hocketlaw6_LockPlays.J7 at H
                refine hKJ_81 _ _ ?_
                by_cases hc_86 : x_83 = true
                · rw [if_pos hc_86] at H
                  cases H
                · rw [if_neg hc_86] at H
                  refine c_cond_f hm rfl (Bool.eq_false_iff.2 hc_86) ?_
                  refine wp_skip ?_
                  refine x_block_n ?_
                  refine x_then_n (hKJ_37 _ _ ?_)
                  refine wp_region_lit ?_
                  refine s_move hm rfl rfl ?_
                  clear hm a; intro a hm
                  refine s_arith (r := w64 (x_27 + 1)) hm rfl rfl rfl (.inl ⟨rfl, rfl⟩) ?_
                  clear hm a; intro a hm
                  refine s_assign hm rfl rfl ?_
                  clear hm a; intro a hm
                  refine wpList_nil ?_
                  replace hm : Fr 110 a [(0, p0_0), (1, v_62), (2, .bool x2), (6, .bool false), (9, v_67), (10, .int .i64 (w64 (x_27 + 1)))] := hm.keep [0, 1, 2, 6, 9, 10]
                  refine x_then_n (hKL_28 _ _ ?_)
                  obtain ⟨N_87, hS', le_87, lo_87⟩ := hS.freeze 2 rfl
                  replace hS : Sep w0 w_84 [N_87, Mem.no, Mem.no, Mem.no, M_65, Mem.no, Mem.no] Z := hS'
                  clear hS'
                  obtain ⟨N_88, hS', le_88, lo_88⟩ := hS.freeze 3 rfl
                  replace hS : Sep w0 w_84 [N_88, Mem.no, Mem.no, Mem.no, Mem.no, Mem.no, Mem.no] Z := hS'
                  clear hS'
                  replace hS : Sep w0 w_84 [N_88, Mem.no, Mem.no, Mem.no, Mem.no, Mem.no, Mem.no] Z := hS
                  replace hm : Fr 110 a [(0, p0_0), (1, v_62), (2, .bool x2), (6, .bool false), (9, v_67), (10, .int .i64 (w64 (x_27 + 1)))] := hm.keep [0, 1, 2, 6, 9, 10]
                  exact ⟨x_59, x_64, w64 (x_27 + 1), v_62, v_67, N_88, H, hm, (Sep.sel hS [0] (by decide)), (le_20.trans (le_32.trans (le_44.trans (le_58.trans (le_82.trans (le_87.trans le_88)))))), ((ho_63.rd lo_87 (Mem.no_le _)).mono (le_88.trans (hS.sndA hA))), ((ho_68.rd lo_88 (Mem.no_le _)).mono ((Mem.le.refl _).trans (hS.sndA hA)))⟩
              clear hKJ_81
              refine wp_region_lit ?_
              refine s_load hm rfl rfl (hS.load_agg (p := 1) (us := [.int .i64 x_69.Err, v_72, .int .i64 x_69.N]) rfl Try.underlying28 rfl ti28 rfl rfl) ?_
              clear hm a; intro a hm
              refine s_load hm rfl rfl (hS.load_agg (p := 2) (us := [.int .i64 x_74.Err, v_77, .int .i64 x_74.N]) rfl Try.underlying28 rfl ti28 rfl rfl) ?_
              clear hm a; intro a hm
              obtain ⟨t_89, et_89, H⟩ := Option.bind_eq_some_iff.1 H
              refine s_call hm rfl Try.call19 rfl (hocketref4_SameResult.calls x_69 _ x_74 _ t_89 w0 _ _ _ (Mem.le.refl _) (hS.enter [] (by decide)) (ho_73.rd (hS.own_zed [] 4 (by decide)) (Mem.no_le _)) (ho_78.rd (hS.own_zed [] 5 (by decide)) (Mem.no_le _)) et_89) ?_
              rintro _ w_90 ⟨N_91, rfl, hS'⟩
              clear hm a; intro a hm
              obtain ⟨N_92, hS'', le_92, ln_92⟩ := hS.call [] (by decide) rfl (l' := []) (ow := []) rfl hS'
              replace hS : Sep w0 w_90 [N_92, Mem.one g_49 (.cells ([.int .i64 x_69.Err, v_72, .int .i64 x_69.N] : List Value).toArray 28 (0, 0)), Mem.one g_51 (.cells ([.int .i64 x_74.Err, v_77, .int .i64 x_74.N] : List Value).toArray 28 (0, 0)), M_60, M_65, M_70, M_75] Z := hS''
              clear hS' hS''
              refine s_not hm rfl rfl ?_
              clear hm a; intro a hm
              refine s_move hm rfl rfl ?_
              clear hm a; intro a hm
              by_cases hc_93 : t_89 = true
              · rw [if_pos hc_93] at H
                refine s_on hm rfl rfl (nf hc_93) ?_
                refine s_move hm rfl rfl ?_
                clear hm a; intro a hm
                refine s_on hm rfl rfl (nf hc_93) ?_
                refine s_move hm rfl rfl ?_
                clear hm a; intro a hm
                refine s_on hm rfl rfl (nf hc_93) ?_
                obtain ⟨t_94, et_94, H⟩ := Option.bind_eq_some_iff.1 H
                refine s_call hm rfl Try.call14 rfl (hocketref1_SameInts.calls K x_59 _ x_64 _ t_94 w0 _ _ _ (Mem.le.refl _) (hS.enter [] (by decide)) (ho_63.rd (hS.own_zed [] 2 (by decide)) (Mem.no_le _)) (ho_68.rd (hS.own_zed [] 3 (by decide)) (Mem.no_le _)) et_94) ?_
                rintro _ w_95 ⟨N_96, rfl, hS'⟩
                clear hm a; intro a hm
                obtain ⟨N_97, hS'', le_97, ln_97⟩ := hS.call [] (by decide) rfl (l' := []) (ow := []) rfl hS'
                replace hS : Sep w0 w_95 [N_97, Mem.one g_49 (.cells ([.int .i64 x_69.Err, v_72, .int .i64 x_69.N] : List Value).toArray 28 (0, 0)), Mem.one g_51 (.cells ([.int .i64 x_74.Err, v_77, .int .i64 x_74.N] : List Value).toArray 28 (0, 0)), M_60, M_65, M_70, M_75] Z := hS''
                clear hS' hS''
                refine s_on hm rfl rfl (nf hc_93) ?_
                refine s_not hm rfl rfl ?_
                clear hm a; intro a hm
                refine s_pick_f hm rfl rfl (nf hc_93) rfl ?_
                clear hm a; intro a hm
                refine s_move hm rfl rfl ?_
                clear hm a; intro a hm
                by_cases hc_98 : t_94 = true
                · rw [if_pos hc_98] at H
                  refine s_on hm rfl rfl (nf hc_98) ?_
                  refine s_move hm rfl rfl ?_
                  clear hm a; intro a hm
                  refine s_on hm rfl rfl (nf hc_98) ?_
                  obtain ⟨t_99, et_99, H⟩ := Option.bind_eq_some_iff.1 H
                  refine s_call hm rfl Try.call16 rfl (lock_Owner.calls x_59 _ t_99 w0 _ _ _ (Mem.le.refl _) (hS.enter [] (by decide)) (ho_63.rd (hS.own_zed [] 2 (by decide)) (Mem.no_le _)) et_99) ?_
                  rintro _ w_100 ⟨v_103, N_101, M_105, rfl, hS', hr_104⟩
                  clear hm a; intro a hm
                  obtain ⟨N_102, hS'', le_102, ln_102⟩ := hS.call [] (by decide) rfl (l' := []) (ow := [M_105]) rfl hS'
                  replace hS : Sep w0 w_100 [N_102, Mem.one g_49 (.cells ([.int .i64 x_69.Err, v_72, .int .i64 x_69.N] : List Value).toArray 28 (0, 0)), Mem.one g_51 (.cells ([.int .i64 x_74.Err, v_77, .int .i64 x_74.N] : List Value).toArray 28 (0, 0)), M_60, M_65, M_70, M_75, M_105] Z := hS''
                  clear hS' hS''
                  refine s_on hm rfl rfl (nf hc_98) ?_
                  refine s_move hm rfl rfl ?_
                  clear hm a; intro a hm
                  refine s_on hm rfl rfl (nf hc_98) ?_
                  obtain ⟨t_107, et_107, H⟩ := Option.bind_eq_some_iff.1 H
                  refine s_call hm rfl Try.call20 rfl (hocketref4_Owner.calls x_64 _ t_107 w0 _ _ _ (Mem.le.refl _) (hS.enter [] (by decide)) (ho_68.rd (hS.own_zed [] 3 (by decide)) (Mem.no_le _)) et_107) ?_
                  rintro _ w_108 ⟨v_111, N_109, M_113, rfl, hS', hr_112⟩
                  clear hm a; intro a hm
                  obtain ⟨N_110, hS'', le_110, ln_110⟩ := hS.call [] (by decide) rfl (l' := []) (ow := [M_113]) rfl hS'
                  replace hS : Sep w0 w_108 [N_110, Mem.one g_49 (.cells ([.int .i64 x_69.Err, v_72, .int .i64 x_69.N] : List Value).toArray 28 (0, 0)), Mem.one g_51 (.cells ([.int .i64 x_74.Err, v_77, .int .i64 x_74.N] : List Value).toArray 28 (0, 0)), M_60, M_65, M_70, M_75, M_105, M_113] Z := hS''
                  clear hS' hS''
                  refine s_on hm rfl rfl (nf hc_98) ?_
                  obtain ⟨t_115, et_115, H⟩ := Option.bind_eq_some_iff.1 H
                  refine s_call hm rfl Try.call19 rfl (hocketref4_SameResult.calls t_99 _ t_107 _ t_115 w0 _ _ _ (Mem.le.refl _) (hS.enter [] (by decide)) (hr_104.rd (hS.own_zed [] 6 (by decide)) (Mem.no_le _)) (hr_112.rd (hS.own_zed [] 7 (by decide)) (Mem.no_le _)) et_115) ?_
                  rintro _ w_116 ⟨N_117, rfl, hS'⟩
                  clear hm a; intro a hm
                  obtain ⟨N_118, hS'', le_118, ln_118⟩ := hS.call [] (by decide) rfl (l' := []) (ow := []) rfl hS'
                  replace hS : Sep w0 w_116 [N_118, Mem.one g_49 (.cells ([.int .i64 x_69.Err, v_72, .int .i64 x_69.N] : List Value).toArray 28 (0, 0)), Mem.one g_51 (.cells ([.int .i64 x_74.Err, v_77, .int .i64 x_74.N] : List Value).toArray 28 (0, 0)), M_60, M_65, M_70, M_75, M_105, M_113] Z := hS''
                  clear hS' hS''
                  refine s_on hm rfl rfl (nf hc_98) ?_
                  refine s_not hm rfl rfl ?_
                  clear hm a; intro a hm
                  refine s_pick_f hm rfl rfl (nf hc_98) rfl ?_
                  clear hm a; intro a hm
                  refine wpList_nil ?_
                  replace hm : Fr 110 a [(0, p0_0), (1, v_62), (2, .bool x2), (6, .bool false), (9, v_67), (10, .int .i64 x_27), (108, .bool (!t_115))] := hm.keep [0, 1, 2, 6, 9, 10, 108]
                  replace hS : Sep w0 w_116 [N_118, Mem.one g_49 (.cells ([.int .i64 x_69.Err, v_72, .int .i64 x_69.N] : List Value).toArray 28 (0, 0)), Mem.one g_51 (.cells ([.int .i64 x_74.Err, v_77, .int .i64 x_74.N] : List Value).toArray 28 (0, 0)), M_60, M_65, M_70, M_75, M_105, M_113] Z := hS
                  replace hm : Fr 110 a [(0, p0_0), (1, v_62), (2, .bool x2), (6, .bool false), (9, v_67), (10, .int .i64 x_27), (108, .bool (!t_115))] := hm.keep [0, 1, 2, 6, 9, 10, 108]
                  exact x_then_n (hJ_j_85 (!t_115) H _ _ ⟨N_118, hm, (Sep.sel hS [0, 1000, 1001, 3, 4, 1004, 1005] (by decide)), (le_92.trans (le_97.trans (le_102.trans (le_110.trans le_118))))⟩)
                · rw [if_neg hc_98] at H
                  refine s_off hm rfl rfl rfl (nt (Bool.eq_false_iff.2 hc_98)) ?_
                  clear hm a; intro a hm
                  refine s_off hm rfl rfl rfl (nt (Bool.eq_false_iff.2 hc_98)) ?_
                  clear hm a; intro a hm
                  refine s_off hm rfl rfl rfl (nt (Bool.eq_false_iff.2 hc_98)) ?_
                  clear hm a; intro a hm
                  refine s_off hm rfl rfl rfl (nt (Bool.eq_false_iff.2 hc_98)) ?_
                  clear hm a; intro a hm
                  refine s_off hm rfl rfl rfl (nt (Bool.eq_false_iff.2 hc_98)) ?_
                  clear hm a; intro a hm
                  refine s_off hm rfl rfl rfl (nt (Bool.eq_false_iff.2 hc_98)) ?_
                  clear hm a; intro a hm
                  refine s_pick_t hm rfl rfl (nt (Bool.eq_false_iff.2 hc_98)) rfl ?_
                  clear hm a; intro a hm
                  refine wpList_nil ?_
                  replace hm : Fr 110 a [(0, p0_0), (1, v_62), (2, .bool x2), (6, .bool false), (9, v_67), (10, .int .i64 x_27), (108, .bool true)] := hm.keep [0, 1, 2, 6, 9, 10, 108]
                  replace hS : Sep w0 w_95 [N_97, Mem.one g_49 (.cells ([.int .i64 x_69.Err, v_72, .int .i64 x_69.N] : List Value).toArray 28 (0, 0)), Mem.one g_51 (.cells ([.int .i64 x_74.Err, v_77, .int .i64 x_74.N] : List Value).toArray 28 (0, 0)), M_60, M_65, M_70, M_75] Z := hS
                  replace hm : Fr 110 a [(0, p0_0), (1, v_62), (2, .bool x2), (6, .bool false), (9, v_67), (10, .int .i64 x_27), (108, .bool true)] := hm.keep [0, 1, 2, 6, 9, 10, 108]
                  exact x_then_n (hJ_j_85 true H _ _ ⟨N_97, hm, (Sep.sel hS [0, 1000, 1001, 3, 4, 1004, 1005] (by decide)), (le_92.trans le_97)⟩)
              · rw [if_neg hc_93] at H
                refine s_off hm rfl rfl rfl (nt (Bool.eq_false_iff.2 hc_93)) ?_
                clear hm a; intro a hm
                refine s_off hm rfl rfl rfl (nt (Bool.eq_false_iff.2 hc_93)) ?_
                clear hm a; intro a hm
                refine s_off hm rfl rfl rfl (nt (Bool.eq_false_iff.2 hc_93)) ?_
                clear hm a; intro a hm
                refine s_off hm rfl rfl rfl (nt (Bool.eq_false_iff.2 hc_93)) ?_
                clear hm a; intro a hm
                refine s_pick_t hm rfl rfl (nt (Bool.eq_false_iff.2 hc_93)) rfl ?_
                clear hm a; intro a hm
                refine s_move hm rfl rfl ?_
                clear hm a; intro a hm
                refine s_off hm rfl rfl rfl rfl ?_
                clear hm a; intro a hm
                refine s_off hm rfl rfl rfl rfl ?_
                clear hm a; intro a hm
                refine s_off hm rfl rfl rfl rfl ?_
                clear hm a; intro a hm
                refine s_off hm rfl rfl rfl rfl ?_
                clear hm a; intro a hm
                refine s_off hm rfl rfl rfl rfl ?_
                clear hm a; intro a hm
                refine s_off hm rfl rfl rfl rfl ?_
                clear hm a; intro a hm
                refine s_pick_t hm rfl rfl rfl rfl ?_
                clear hm a; intro a hm
                refine wpList_nil ?_
                replace hm : Fr 110 a [(0, p0_0), (1, v_62), (2, .bool x2), (6, .bool false), (9, v_67), (10, .int .i64 x_27), (108, .bool true)] := hm.keep [0, 1, 2, 6, 9, 10, 108]
                replace hS : Sep w0 w_90 [N_92, Mem.one g_49 (.cells ([.int .i64 x_69.Err, v_72, .int .i64 x_69.N] : List Value).toArray 28 (0, 0)), Mem.one g_51 (.cells ([.int .i64 x_74.Err, v_77, .int .i64 x_74.N] : List Value).toArray 28 (0, 0)), M_60, M_65, M_70, M_75] Z := hS
                replace hm : Fr 110 a [(0, p0_0), (1, v_62), (2, .bool x2), (6, .bool false), (9, v_67), (10, .int .i64 x_27), (108, .bool true)] := hm.keep [0, 1, 2, 6, 9, 10, 108]
                exact x_then_n (hJ_j_85 true H _ _ ⟨N_92, hm, (Sep.sel hS [0, 1000, 1001, 3, 4, 1004, 1005] (by decide)), le_92⟩)
            clear hKJ_52
            by_cases hc_119 : (band .i64 t_53 1) = 0
            · rw [if_pos hc_119] at H
              refine c_cond_t hm rfl (beq_iff_eq.2 hc_119) ?_
              refine wp_seq ?_
              refine wp_region_lit ?_
              refine s_move hm rfl rfl ?_
              clear hm a; intro a hm
              refine s_move hm rfl rfl ?_
              clear hm a; intro a hm
              obtain ⟨t_120, et_120, H⟩ := Option.bind_eq_some_iff.1 H
              refine s_call hm rfl Try.call13 rfl (lock_Take.calls K x_21 _ x_45 t_120 w0 _ _ _ (Mem.le.refl _) (hS.enter [] (by decide)) (hr_23.mono (Mem.un_le (hA.trans (hS.le_zed [])) ((le_32.trans le_44).trans (hS.new_zed [])))) et_120) ?_
              rintro _ w_121 ⟨v_124, v_128, N_122, M_126, M_130, rfl, hS', hr_125, hr_129⟩
              clear hm a; intro a hm
              obtain ⟨N_123, hS'', le_123, ln_123⟩ := hS.call [] (by decide) rfl (l' := []) (ow := [M_126, M_130]) rfl hS'
              replace hS : Sep w0 w_121 [N_123, Mem.one g_49 (.cells ([.int .i64 0, .slice none 0 0, .int .i64 0] : List Value).toArray 28 (0, 0)), Mem.one g_51 (.cells ([.int .i64 0, .slice none 0 0, .int .i64 0] : List Value).toArray 28 (0, 0)), M_126, M_130] Z := hS''
              clear hS' hS''
              refine s_move hm rfl rfl ?_
              clear hm a; intro a hm
              refine s_extract hm rfl rfl rfl ?_
              clear hm a; intro a hm
              refine s_extract hm rfl rfl rfl ?_
              clear hm a; intro a hm
              refine s_assign hm rfl rfl ?_
              clear hm a; intro a hm
              obtain ⟨w_132, hs', hS'⟩ := hS.store (P := Try.prog) (p := 1) (o := 0) (t := 28) (v := .agg ([.int .i64 t_120.2.Err, v_128, .int .i64 t_120.2.N] : List Value).toArray) (vs := [.int .i64 t_120.2.Err, v_128, .int .i64 t_120.2.N]) rfl ti28 rfl rfl rfl (by intro u hu; simp only [List.mem_cons, List.not_mem_nil, or_false] at hu; rcases hu with rfl | rfl | rfl <;> first | rfl | exact hr_129.one)
              refine s_store hm rfl rfl hs' ?_
              replace hS : Sep w0 w_132 [N_123, Mem.one g_49 (.cells ([.int .i64 t_120.2.Err, v_128, .int .i64 t_120.2.N] : List Value).toArray 28 (0, 0)), Mem.one g_51 (.cells ([.int .i64 0, .slice none 0 0, .int .i64 0] : List Value).toArray 28 (0, 0)), M_126, M_130] Z := hS'
              clear hs' hS'
              refine wpList_nil ?_
              replace hm : Fr 110 a [(0, p0_0), (1, v_124), (2, .bool x2), (6, .bool false), (9, v_25), (10, .int .i64 x_27), (11, .int .i64 x_45), (12, .pointer (some ⟨g_49, 0, none⟩)), (13, .pointer (some ⟨g_51, 0, none⟩))] := hm.keep [0, 1, 2, 6, 9, 10, 11, 12, 13]
              refine x_then_n ?_
              refine wp_region_lit ?_
              refine s_move hm rfl rfl ?_
              clear hm a; intro a hm
              refine s_move hm rfl rfl ?_
              clear hm a; intro a hm
              obtain ⟨t_133, et_133, H⟩ := Option.bind_eq_some_iff.1 H
              refine s_call hm rfl Try.call17 rfl (hocketref4_Take.calls K x_24 _ x_45 t_133 w0 _ _ _ (Mem.le.refl _) (hS.enter [] (by decide)) (hr_26.mono (Mem.un_le (hA.trans (hS.le_zed [])) ((le_32.trans (le_44.trans le_123)).trans (hS.new_zed [])))) et_133) ?_
              rintro _ w_134 ⟨v_137, v_141, N_135, M_139, M_143, rfl, hS', hr_138, hr_142⟩
              clear hm a; intro a hm
              obtain ⟨N_136, hS'', le_136, ln_136⟩ := hS.call [] (by decide) rfl (l' := []) (ow := [M_139, M_143]) rfl hS'
              replace hS : Sep w0 w_134 [N_136, Mem.one g_49 (.cells ([.int .i64 t_120.2.Err, v_128, .int .i64 t_120.2.N] : List Value).toArray 28 (0, 0)), Mem.one g_51 (.cells ([.int .i64 0, .slice none 0 0, .int .i64 0] : List Value).toArray 28 (0, 0)), M_126, M_130, M_139, M_143] Z := hS''
              clear hS' hS''
              refine s_move hm rfl rfl ?_
              clear hm a; intro a hm
              refine s_extract hm rfl rfl rfl ?_
              clear hm a; intro a hm
              refine s_extract hm rfl rfl rfl ?_
              clear hm a; intro a hm
              refine s_assign hm rfl rfl ?_
              clear hm a; intro a hm
              obtain ⟨w_145, hs', hS'⟩ := hS.store (P := Try.prog) (p := 2) (o := 0) (t := 28) (v := .agg ([.int .i64 t_133.2.Err, v_141, .int .i64 t_133.2.N] : List Value).toArray) (vs := [.int .i64 t_133.2.Err, v_141, .int .i64 t_133.2.N]) rfl ti28 rfl rfl rfl (by intro u hu; simp only [List.mem_cons, List.not_mem_nil, or_false] at hu; rcases hu with rfl | rfl | rfl <;> first | rfl | exact hr_142.one)
              refine s_store hm rfl rfl hs' ?_
              replace hS : Sep w0 w_145 [N_136, Mem.one g_49 (.cells ([.int .i64 t_120.2.Err, v_128, .int .i64 t_120.2.N] : List Value).toArray 28 (0, 0)), Mem.one g_51 (.cells ([.int .i64 t_133.2.Err, v_141, .int .i64 t_133.2.N] : List Value).toArray 28 (0, 0)), M_126, M_130, M_139, M_143] Z := hS'
              clear hs' hS'
              refine wpList_nil ?_
              replace hm : Fr 110 a [(0, p0_0), (1, v_124), (2, .bool x2), (6, .bool false), (9, v_137), (10, .int .i64 x_27), (12, .pointer (some ⟨g_49, 0, none⟩)), (13, .pointer (some ⟨g_51, 0, none⟩))] := hm.keep [0, 1, 2, 6, 9, 10, 12, 13]
              replace hS : Sep w0 w_145 [N_136, Mem.one g_49 (.cells ([.int .i64 t_120.2.Err, v_128, .int .i64 t_120.2.N] : List Value).toArray 28 (0, 0)), Mem.one g_51 (.cells ([.int .i64 t_133.2.Err, v_141, .int .i64 t_133.2.N] : List Value).toArray 28 (0, 0)), M_126, M_130, M_139, M_143] Z := hS
              replace hm : Fr 110 a [(0, p0_0), (1, v_124), (2, .bool x2), (6, .bool false), (9, v_137), (10, .int .i64 x_27), (12, .pointer (some ⟨g_49, 0, none⟩)), (13, .pointer (some ⟨g_51, 0, none⟩))] := hm.keep [0, 1, 2, 6, 9, 10, 12, 13]
              exact x_then_n (hJ_j_80 t_120.1 t_133.1 t_120.2 t_133.2 H _ _ ⟨v_124, v_137, v_128, v_141, N_136, M_126, M_139, M_130, M_143, hm, (Sep.sel hS [0, 1, 2, 3, 5, 4, 6] (by decide)), (le_123.trans le_136), hr_125, hr_138, hr_129, hr_142⟩)
            · rw [if_neg hc_119] at H
              refine c_cond_f hm rfl (beq_eq_false_iff_ne.2 hc_119) ?_
              refine wp_seq ?_
              refine wp_region_lit ?_
              refine s_move hm rfl rfl ?_
              clear hm a; intro a hm
              refine s_move hm rfl rfl ?_
              clear hm a; intro a hm
              obtain ⟨t_146, et_146, H⟩ := Option.bind_eq_some_iff.1 H
              refine s_call hm rfl Try.call12 rfl (lock_Free.calls K x_21 _ x_45 t_146 w0 _ _ _ (Mem.le.refl _) (hS.enter [] (by decide)) (hr_23.mono (Mem.un_le (hA.trans (hS.le_zed [])) ((le_32.trans le_44).trans (hS.new_zed [])))) et_146) ?_
              rintro _ w_147 ⟨v_150, v_154, N_148, M_152, M_156, rfl, hS', hr_151, hr_155⟩
              clear hm a; intro a hm
              obtain ⟨N_149, hS'', le_149, ln_149⟩ := hS.call [] (by decide) rfl (l' := []) (ow := [M_152, M_156]) rfl hS'
              replace hS : Sep w0 w_147 [N_149, Mem.one g_49 (.cells ([.int .i64 0, .slice none 0 0, .int .i64 0] : List Value).toArray 28 (0, 0)), Mem.one g_51 (.cells ([.int .i64 0, .slice none 0 0, .int .i64 0] : List Value).toArray 28 (0, 0)), M_152, M_156] Z := hS''
              clear hS' hS''
              refine s_move hm rfl rfl ?_
              clear hm a; intro a hm
              refine s_extract hm rfl rfl rfl ?_
              clear hm a; intro a hm
              refine s_extract hm rfl rfl rfl ?_
              clear hm a; intro a hm
              refine s_assign hm rfl rfl ?_
              clear hm a; intro a hm
              obtain ⟨w_158, hs', hS'⟩ := hS.store (P := Try.prog) (p := 1) (o := 0) (t := 28) (v := .agg ([.int .i64 t_146.2.Err, v_154, .int .i64 t_146.2.N] : List Value).toArray) (vs := [.int .i64 t_146.2.Err, v_154, .int .i64 t_146.2.N]) rfl ti28 rfl rfl rfl (by intro u hu; simp only [List.mem_cons, List.not_mem_nil, or_false] at hu; rcases hu with rfl | rfl | rfl <;> first | rfl | exact hr_155.one)
              refine s_store hm rfl rfl hs' ?_
              replace hS : Sep w0 w_158 [N_149, Mem.one g_49 (.cells ([.int .i64 t_146.2.Err, v_154, .int .i64 t_146.2.N] : List Value).toArray 28 (0, 0)), Mem.one g_51 (.cells ([.int .i64 0, .slice none 0 0, .int .i64 0] : List Value).toArray 28 (0, 0)), M_152, M_156] Z := hS'
              clear hs' hS'
              refine wpList_nil ?_
              replace hm : Fr 110 a [(0, p0_0), (1, v_150), (2, .bool x2), (6, .bool false), (9, v_25), (10, .int .i64 x_27), (11, .int .i64 x_45), (12, .pointer (some ⟨g_49, 0, none⟩)), (13, .pointer (some ⟨g_51, 0, none⟩))] := hm.keep [0, 1, 2, 6, 9, 10, 11, 12, 13]
              refine x_then_n ?_
              refine wp_region_lit ?_
              refine s_move hm rfl rfl ?_
              clear hm a; intro a hm
              refine s_move hm rfl rfl ?_
              clear hm a; intro a hm
              obtain ⟨t_159, et_159, H⟩ := Option.bind_eq_some_iff.1 H
              refine s_call hm rfl Try.call18 rfl (hocketref4_Free.calls K x_24 _ x_45 t_159 w0 _ _ _ (Mem.le.refl _) (hS.enter [] (by decide)) (hr_26.mono (Mem.un_le (hA.trans (hS.le_zed [])) ((le_32.trans (le_44.trans le_149)).trans (hS.new_zed [])))) et_159) ?_
              rintro _ w_160 ⟨v_163, v_167, N_161, M_165, M_169, rfl, hS', hr_164, hr_168⟩
              clear hm a; intro a hm
              obtain ⟨N_162, hS'', le_162, ln_162⟩ := hS.call [] (by decide) rfl (l' := []) (ow := [M_165, M_169]) rfl hS'
              replace hS : Sep w0 w_160 [N_162, Mem.one g_49 (.cells ([.int .i64 t_146.2.Err, v_154, .int .i64 t_146.2.N] : List Value).toArray 28 (0, 0)), Mem.one g_51 (.cells ([.int .i64 0, .slice none 0 0, .int .i64 0] : List Value).toArray 28 (0, 0)), M_152, M_156, M_165, M_169] Z := hS''
              clear hS' hS''
              refine s_move hm rfl rfl ?_
              clear hm a; intro a hm
              refine s_extract hm rfl rfl rfl ?_
              clear hm a; intro a hm
              refine s_extract hm rfl rfl rfl ?_
              clear hm a; intro a hm
              refine s_assign hm rfl rfl ?_
              clear hm a; intro a hm
              obtain ⟨w_171, hs', hS'⟩ := hS.store (P := Try.prog) (p := 2) (o := 0) (t := 28) (v := .agg ([.int .i64 t_159.2.Err, v_167, .int .i64 t_159.2.N] : List Value).toArray) (vs := [.int .i64 t_159.2.Err, v_167, .int .i64 t_159.2.N]) rfl ti28 rfl rfl rfl (by intro u hu; simp only [List.mem_cons, List.not_mem_nil, or_false] at hu; rcases hu with rfl | rfl | rfl <;> first | rfl | exact hr_168.one)
              refine s_store hm rfl rfl hs' ?_
              replace hS : Sep w0 w_171 [N_162, Mem.one g_49 (.cells ([.int .i64 t_146.2.Err, v_154, .int .i64 t_146.2.N] : List Value).toArray 28 (0, 0)), Mem.one g_51 (.cells ([.int .i64 t_159.2.Err, v_167, .int .i64 t_159.2.N] : List Value).toArray 28 (0, 0)), M_152, M_156, M_165, M_169] Z := hS'
              clear hs' hS'
              refine wpList_nil ?_
              replace hm : Fr 110 a [(0, p0_0), (1, v_150), (2, .bool x2), (6, .bool false), (9, v_163), (10, .int .i64 x_27), (12, .pointer (some ⟨g_49, 0, none⟩)), (13, .pointer (some ⟨g_51, 0, none⟩))] := hm.keep [0, 1, 2, 6, 9, 10, 12, 13]
              replace hS : Sep w0 w_171 [N_162, Mem.one g_49 (.cells ([.int .i64 t_146.2.Err, v_154, .int .i64 t_146.2.N] : List Value).toArray 28 (0, 0)), Mem.one g_51 (.cells ([.int .i64 t_159.2.Err, v_167, .int .i64 t_159.2.N] : List Value).toArray 28 (0, 0)), M_152, M_156, M_165, M_169] Z := hS
              replace hm : Fr 110 a [(0, p0_0), (1, v_150), (2, .bool x2), (6, .bool false), (9, v_163), (10, .int .i64 x_27), (12, .pointer (some ⟨g_49, 0, none⟩)), (13, .pointer (some ⟨g_51, 0, none⟩))] := hm.keep [0, 1, 2, 6, 9, 10, 12, 13]
              exact x_then_n (hJ_j_80 t_146.1 t_159.1 t_146.2 t_159.2 H _ _ ⟨v_150, v_163, v_154, v_167, N_162, M_152, M_165, M_156, M_169, hm, (Sep.sel hS [0, 1, 2, 3, 5, 4, 6] (by decide)), (le_149.trans le_162), hr_151, hr_164, hr_155, hr_168⟩)
          clear hKJ_43
          by_cases hc_172 : x2 = true
          · rw [if_pos hc_172] at H
            refine c_cond_t hm rfl hc_172 ?_
            refine wp_region_lit ?_
            refine s_move hm rfl rfl ?_
            clear hm a; intro a hm
            refine s_bits (i := shr .i64 t_38 1) (j := 7) (r := band .i64 (shr .i64 t_38 1) 7) hm rfl rfl rfl (.inl ⟨rfl, rfl⟩) ?_
            clear hm a; intro a hm
            refine s_assign hm rfl rfl ?_
            clear hm a; intro a hm
            refine wpList_nil ?_
            replace hm : Fr 110 a [(0, p0_0), (1, v_22), (2, .bool x2), (6, .bool false), (9, v_25), (10, .int .i64 x_27), (11, .int .i64 (band .i64 (shr .i64 t_38 1) 7))] := hm.keep [0, 1, 2, 6, 9, 10, 11]
            replace hS : Sep w0 w_34 [N_32] Z := hS
            replace hm : Fr 110 a [(0, p0_0), (1, v_22), (2, .bool x2), (6, .bool false), (9, v_25), (10, .int .i64 x_27), (11, .int .i64 (band .i64 (shr .i64 t_38 1) 7))] := hm.keep [0, 1, 2, 6, 9, 10, 11]
            exact x_then_n (hJ_j_47 (band .i64 (shr .i64 t_38 1) 7) H _ _ ⟨N_32, hm, (Sep.sel hS [0] (by decide)), (Mem.le.refl _)⟩)
          · rw [if_neg hc_172] at H
            refine c_cond_f hm rfl (Bool.eq_false_iff.2 hc_172) ?_
            refine wp_skip ?_
            replace hS : Sep w0 w_34 [N_32] Z := hS
            replace hm : Fr 110 a [(0, p0_0), (1, v_22), (2, .bool x2), (6, .bool false), (9, v_25), (10, .int .i64 x_27), (11, .int .i64 (shr .i64 t_38 1))] := hm.keep [0, 1, 2, 6, 9, 10, 11]
            exact x_then_n (hJ_j_47 (shr .i64 t_38 1) H _ _ ⟨N_32, hm, (Sep.sel hS [0] (by decide)), (Mem.le.refl _)⟩)
        · rw [if_neg hc_36] at H
          refine c_cond_f hm rfl (Bool.eq_false_iff.2 hc_36) ?_
          refine wp_exit (x_then_x (x_then_x (x_block_t ?_)))
          replace hS : Sep w0 w_34 [N_32] Z := hS
          replace hm : Fr 110 a [(6, .bool false)] := hm.keep [6]
          exact x_then_n (hJ_j_15  H _ _ ⟨N_32, hm, (Sep.sel hS [0] (by decide)), (le_20.trans le_32)⟩)
      clear hKJ_31
      refine wp_region_lit ?_
      refine s_move hm rfl rfl ?_
      clear hm a; intro a hm
      refine s_move hm rfl rfl ?_
      clear hm a; intro a hm
      refine s_len hm rfl Try.underlying22 rfl hp0_0 ?_
      clear hm a; intro a hm
      refine s_cmp (b := decide (x_27 < (x0.length : Int))) hm rfl rfl rfl (.inr (.inr (.inl ⟨rfl, rfl⟩))) ?_
      clear hm a; intro a hm
      refine s_move hm rfl rfl ?_
      clear hm a; intro a hm
      by_cases hc_173 : x_27 < (x0.length : Int)
      · rw [if_pos hc_173] at H
        refine s_on hm rfl rfl (decide_eq_true hc_173) ?_
        refine s_move hm rfl rfl ?_
        clear hm a; intro a hm
        refine s_on hm rfl rfl (decide_eq_true hc_173) ?_
        refine s_cmp (b := decide (x_27 < 50)) hm rfl rfl rfl (.inr (.inr (.inl ⟨rfl, rfl⟩))) ?_
        clear hm a; intro a hm
        refine s_pick_t hm rfl rfl (decide_eq_true hc_173) rfl ?_
        clear hm a; intro a hm
        refine wpList_nil ?_
        replace hm : Fr 110 a [(0, p0_0), (1, v_22), (2, .bool x2), (6, .bool false), (9, v_25), (10, .int .i64 x_27), (50, .bool (decide (x_27 < 50)))] := hm.keep [0, 1, 2, 6, 9, 10, 50]
        replace hS : Sep w0 w_28 [N_20] Z := hS
        replace hm : Fr 110 a [(0, p0_0), (1, v_22), (2, .bool x2), (6, .bool false), (9, v_25), (10, .int .i64 x_27), (50, .bool (decide (x_27 < 50)))] := hm.keep [0, 1, 2, 6, 9, 10, 50]
        exact x_then_n (hJ_j_35 (decide (x_27 < 50)) H _ _ ⟨N_20, hm, (Sep.sel hS [0] (by decide)), (Mem.le.refl _)⟩)
      · rw [if_neg hc_173] at H
        refine s_off hm rfl rfl rfl (decide_eq_false hc_173) ?_
        clear hm a; intro a hm
        refine s_off hm rfl rfl rfl (decide_eq_false hc_173) ?_
        clear hm a; intro a hm
        refine s_pick_f hm rfl rfl (decide_eq_false hc_173) rfl ?_
        clear hm a; intro a hm
        refine wpList_nil ?_
        replace hm : Fr 110 a [(0, p0_0), (1, v_22), (2, .bool x2), (6, .bool false), (9, v_25), (10, .int .i64 x_27), (50, .bool false)] := hm.keep [0, 1, 2, 6, 9, 10, 50]
        replace hS : Sep w0 w_28 [N_20] Z := hS
        replace hm : Fr 110 a [(0, p0_0), (1, v_22), (2, .bool x2), (6, .bool false), (9, v_25), (10, .int .i64 x_27), (50, .bool false)] := hm.keep [0, 1, 2, 6, 9, 10, 50]
        exact x_then_n (hJ_j_35 false H _ _ ⟨N_20, hm, (Sep.sel hS [0] (by decide)), (Mem.le.refl _)⟩)
    clear hKJ_5
    by_cases hc_174 : (x1.length : Int) > 12
    · rw [if_pos hc_174] at H
      refine c_cond_t hm rfl (decide_eq_true hc_174) ?_
      refine wp_region_lit ?_
      refine s_assign hm rfl rfl ?_
      clear hm a; intro a hm
      refine wpList_nil ?_
      replace hm : Fr 110 a [(0, p0_0), (1, .slice none 0 0), (2, .bool x2), (6, .bool false)] := hm.keep [0, 1, 2, 6]
      replace hS : Sep w0 w_3 [N_2] Z := hS
      replace hm : Fr 110 a [(0, p0_0), (1, .slice none 0 0), (2, .bool x2), (6, .bool false)] := hm.keep [0, 1, 2, 6]
      exact x_then_n (hJ_j_11 ([] : List Int) H _ _ ⟨.slice none 0 0, N_2, hm, (Sep.sel hS [0] (by decide)), (Mem.le.refl _), (Rd.nil _ _)⟩)
    · rw [if_neg hc_174] at H
      refine c_cond_f hm rfl (decide_eq_false hc_174) ?_
      refine wp_skip ?_
      replace hS : Sep w0 w_3 [N_2] Z := hS
      replace hm : Fr 110 a [(0, p0_0), (1, p1_1), (2, .bool x2), (6, .bool false)] := hm.keep [0, 1, 2, 6]
      exact x_then_n (hJ_j_11 x1 H _ _ ⟨p1_1, N_2, hm, (Sep.sel hS [0] (by decide)), (Mem.le.refl _), hp1_1⟩)
  clear hKJ_1
  replace hS : Sep w0 w [Mem.no] Z := hS
  replace hm : Fr 110 a [(0, p0_0), (1, p1_1), (2, .bool x2), (6, .bool false), (15, .int .i64 (x1.length : Int)), (16, .int .i64 0)] := hm.keep [0, 1, 2, 6, 15, 16]
  refine c_block ?_
  refine c_loop (fun k_177 a w_177 => ∃ (x_176 : Int) (N_175 : Mem), hocketlaw6_LockPlays.L2 K x1 (fun v => hocketlaw6_LockPlays.J1 K x1 x0 x2) k_177 x_176 = some r ∧ Fr 110 a [(0, p0_0), (1, p1_1), (2, .bool x2), (6, .bool false), (15, .int .i64 (x1.length : Int)), (16, .int .i64 x_176)] ∧ Sep w0 w_177 [N_175] Z ∧ Mem.no.le N_175) K ⟨0, Mem.no, H, hm, (Sep.sel hS [0] (by decide)), (Mem.le.refl _)⟩ (fun a w h => by obtain ⟨_, _, H, _⟩ := h; cases (show (none : Option (Unit)) = some r from H)) ?_
  clear hm hS a H
  rintro k_177 a w_177 KL_177 hKL_177 ⟨x_176, N_175, H, hm, hS, le_175⟩
  replace H : hocketlaw6_LockPlays.B2 K x1 (fun v => hocketlaw6_LockPlays.J1 K x1 x0 x2) (hocketlaw6_LockPlays.L2 K x1 (fun v => hocketlaw6_LockPlays.J1 K x1 x0 x2) k_177) x_176 = some r := H
  unfold hocketlaw6_LockPlays.B2 at H
  refine wp_seq ?_
  refine wp_region_lit ?_
  refine s_cmp (b := decide (x_176 < (x1.length : Int))) hm rfl rfl rfl (.inr (.inr (.inl ⟨rfl, rfl⟩))) ?_
  clear hm a; intro a hm
  refine wpList_nil ?_
  replace hm : Fr 110 a [(0, p0_0), (1, p1_1), (2, .bool x2), (6, .bool false), (15, .int .i64 (x1.length : Int)), (16, .int .i64 x_176), (17, .bool (decide (x_176 < (x1.length : Int))))] := hm.keep [0, 1, 2, 6, 15, 16, 17]
  refine x_then_n ?_
  refine c_seq fun KJ_179 hKJ_179 => ?_
  by_cases hc_180 : x_176 < (x1.length : Int)
  · rw [if_pos hc_180] at H
    refine c_cond_t hm rfl (decide_eq_true hc_180) ?_
    refine wp_skip ?_
    refine x_then_n (hKJ_179 _ _ ?_)
    refine c_seq fun KJ_181 hKJ_181 => ?_
    refine c_block ?_
    refine wp_seq ?_
    refine wp_region_lit ?_
    refine s_move hm rfl rfl ?_
    clear hm a; intro a hm
    refine s_assign hm rfl rfl ?_
    clear hm a; intro a hm
    refine wpList_nil ?_
    replace hm : Fr 110 a [(0, p0_0), (1, p1_1), (2, .bool x2), (6, .bool false), (7, .int .i64 x_176), (15, .int .i64 (x1.length : Int)), (16, .int .i64 x_176)] := hm.keep [0, 1, 2, 6, 7, 15, 16]
    refine x_then_n ?_
    refine wp_seq ?_
    refine wp_region_lit ?_
    refine s_assign hm rfl rfl ?_
    clear hm a; intro a hm
    refine wpList_nil ?_
    replace hm : Fr 110 a [(0, p0_0), (1, p1_1), (2, .bool x2), (6, .bool false), (7, .int .i64 x_176), (8, .int .i64 0), (15, .int .i64 (x1.length : Int)), (16, .int .i64 x_176)] := hm.keep [0, 1, 2, 6, 7, 8, 15, 16]
    refine x_then_n ?_
    refine c_last fun KJ_182 hKJ_182 => ?_
    have hJ_j_185 : hocketlaw6_LockPlays.J8 K (hocketlaw6_LockPlays.L2 K x1 (fun v => hocketlaw6_LockPlays.J1 K x1 x0 x2) k_177) x_176 = some r → ∀ (a : Act) (w_184 : World), (∃ (N_183 : Mem), Fr 110 a [(0, p0_0), (1, p1_1), (2, .bool x2), (6, .bool false), (15, .int .i64 (x1.length : Int)), (16, .int .i64 x_176)] ∧ Sep w0 w_184 [N_183] Z ∧ N_175.le N_183) → KJ_182 a w_184 := by
      clear H hm hS a
      rintro H a w_184 ⟨N_183, hm, hS, le_183⟩
      unfold hocketlaw6_LockPlays.J8 at H
      refine hKJ_182 _ _ ?_
      refine x_block_n ?_
      refine x_then_n (hKJ_181 _ _ ?_)
      refine wp_region_lit ?_
      refine s_arith (r := w64 (x_176 + 1)) hm rfl rfl rfl (.inl ⟨rfl, rfl⟩) ?_
      clear hm a; intro a hm
      refine s_move hm rfl rfl ?_
      clear hm a; intro a hm
      refine wpList_nil ?_
      replace hm : Fr 110 a [(0, p0_0), (1, p1_1), (2, .bool x2), (6, .bool false), (15, .int .i64 (x1.length : Int)), (16, .int .i64 (w64 (x_176 + 1)))] := hm.keep [0, 1, 2, 6, 15, 16]
      refine x_then_n (hKL_177 _ _ ?_)
      replace hS : Sep w0 w_184 [N_183] Z := hS
      replace hm : Fr 110 a [(0, p0_0), (1, p1_1), (2, .bool x2), (6, .bool false), (15, .int .i64 (x1.length : Int)), (16, .int .i64 (w64 (x_176 + 1)))] := hm.keep [0, 1, 2, 6, 15, 16]
      exact ⟨w64 (x_176 + 1), N_183, H, hm, (Sep.sel hS [0] (by decide)), (le_175.trans le_183)⟩
    clear hKJ_182
    replace hS : Sep w0 w_177 [N_175] Z := hS
    replace hm : Fr 110 a [(0, p0_0), (1, p1_1), (2, .bool x2), (6, .bool false), (7, .int .i64 x_176), (8, .int .i64 0), (15, .int .i64 (x1.length : Int)), (16, .int .i64 x_176)] := hm.keep [0, 1, 2, 6, 7, 8, 15, 16]
    refine c_block ?_
    refine c_loop (fun k_188 a w_188 => ∃ (x_187 : Int) (N_186 : Mem), hocketlaw6_LockPlays.L3 K x_176 x1 (fun v => hocketlaw6_LockPlays.J8 K (hocketlaw6_LockPlays.L2 K x1 (fun v => hocketlaw6_LockPlays.J1 K x1 x0 x2) k_177) x_176) k_188 x_187 = some r ∧ Fr 110 a [(0, p0_0), (1, p1_1), (2, .bool x2), (6, .bool false), (7, .int .i64 x_176), (8, .int .i64 x_187), (15, .int .i64 (x1.length : Int)), (16, .int .i64 x_176)] ∧ Sep w0 w_188 [N_186] Z ∧ N_175.le N_186) K ⟨0, N_175, H, hm, (Sep.sel hS [0] (by decide)), (Mem.le.refl _)⟩ (fun a w h => by obtain ⟨_, _, H, _⟩ := h; cases (show (none : Option (Unit)) = some r from H)) ?_
    clear hm hS a H
    rintro k_188 a w_188 KL_188 hKL_188 ⟨x_187, N_186, H, hm, hS, le_186⟩
    replace H : hocketlaw6_LockPlays.B3 K x_176 x1 (fun v => hocketlaw6_LockPlays.J8 K (hocketlaw6_LockPlays.L2 K x1 (fun v => hocketlaw6_LockPlays.J1 K x1 x0 x2) k_177) x_176) (hocketlaw6_LockPlays.L3 K x_176 x1 (fun v => hocketlaw6_LockPlays.J8 K (hocketlaw6_LockPlays.L2 K x1 (fun v => hocketlaw6_LockPlays.J1 K x1 x0 x2) k_177) x_176) k_188) x_187 = some r := H
    unfold hocketlaw6_LockPlays.B3 at H
    refine c_seq fun KJ_190 hKJ_190 => ?_
    refine c_seq fun KJ_191 hKJ_191 => ?_
    have hJ_j_195 : ∀ (x_193 : Bool), hocketlaw6_LockPlays.J9 K x1 x_176 x_187 (hocketlaw6_LockPlays.L3 K x_176 x1 (fun v => hocketlaw6_LockPlays.J8 K (hocketlaw6_LockPlays.L2 K x1 (fun v => hocketlaw6_LockPlays.J1 K x1 x0 x2) k_177) x_176) k_188) (fun v => hocketlaw6_LockPlays.J8 K (hocketlaw6_LockPlays.L2 K x1 (fun v => hocketlaw6_LockPlays.J1 K x1 x0 x2) k_177) x_176) x_193 = some r → ∀ (a : Act) (w_194 : World), (∃ (N_192 : Mem), Fr 110 a [(0, p0_0), (1, p1_1), (2, .bool x2), (6, .bool false), (7, .int .i64 x_176), (8, .int .i64 x_187), (15, .int .i64 (x1.length : Int)), (16, .int .i64 x_176), (25, .bool x_193)] ∧ Sep w0 w_194 [N_192] Z ∧ N_186.le N_192) → KJ_191 a w_194 := by
      clear H hm hS a
      rintro x_193 H a w_194 ⟨N_192, hm, hS, le_192⟩
      unfold hocketlaw6_LockPlays.J9 at H
      refine hKJ_191 _ _ ?_
      by_cases hc_196 : x_193 = true
      · rw [if_pos hc_196] at H
        refine c_cond_t hm rfl hc_196 ?_
        refine wp_skip ?_
        refine x_then_n (hKJ_190 _ _ ?_)
        refine c_seq fun KJ_197 hKJ_197 => ?_
        refine c_block ?_
        refine c_seq fun KJ_198 hKJ_198 => ?_
        refine h_begin (S := fun w => Sep w0 w [N_192] Z) 9 (by kernel_rfl) rfl [false, false, false, false, false, false, false, false, false].toArray rfl hS fun w_199 hS => ?_
        replace hS : Sep w0 w_199 [N_192] Z := hS
        refine h_take 0 [true, false, false, false, false, false, false, false, false].toArray rfl (by kernel_rfl) (by kernel_rfl) (by kernel_rfl) (fun _ _ _ _ h => h) rfl rfl rfl rfl hm (hS.sub (.cons (Mem.le.refl _) (Sub.nil _))) (v := p1_1) (fun w hS => r_move hm rfl) ?_
        clear hm a; intro a hm
        refine h_take 1 [true, true, false, false, false, false, false, false, false].toArray rfl (by kernel_rfl) (by kernel_rfl) (by kernel_rfl) (fun _ _ _ _ h => h) rfl rfl rfl rfl hm (hS.sub (.cons (Mem.le.refl _) (Sub.nil _))) (v := .int .i64 x_176) (fun w hS => r_move hm rfl) ?_
        clear hm a; intro a hm
        obtain ⟨t_200, et_200, H⟩ := Option.bind_eq_some_iff.1 H
        refine h_takeE 2 [true, true, true, false, false, false, false, false, false].toArray rfl (by kernel_rfl) (by kernel_rfl) (by kernel_rfl) (fun _ _ _ _ h => h) rfl rfl rfl rfl hm (hS.sub (.cons (Mem.le.refl _) (Sub.nil _))) (f := fun ad => .pointer (some ad)) (r_index hm Try.underlying22 ti3 rfl rfl rfl hp1_1 et_200) ?_
        rintro ad_201 ⟨cs_202, hk_203, hc_204⟩
        obtain rfl := (show cs_202 = [.int .i64 t_200] from hk_203)
        clear hm a; intro a hm
        refine h_take 3 [true, true, true, true, false, false, false, false, false].toArray rfl (by kernel_rfl) (by kernel_rfl) (by kernel_rfl) (fun _ _ _ _ h => h) rfl rfl rfl rfl hm (hS.sub (.cons (Mem.le.refl _) (Sub.nil _))) (v := .int .i64 t_200) (fun w hS => r_load hm rfl (el_one (o := 0) (fun j c h => Mem.cell_le (hA.trans hS.old) (hc_204 j c h)) Try.underlying3 rfl rfl)) ?_
        clear hm a; intro a hm
        refine h_take 4 [true, true, true, true, true, false, false, false, false].toArray rfl (by kernel_rfl) (by kernel_rfl) (by kernel_rfl) (fun _ _ _ _ h => h) rfl rfl rfl rfl hm (hS.sub (.cons (Mem.le.refl _) (Sub.nil _))) (v := p1_1) (fun w hS => r_move hm rfl) ?_
        clear hm a; intro a hm
        refine h_take 5 [true, true, true, true, true, true, false, false, false].toArray rfl (by kernel_rfl) (by kernel_rfl) (by kernel_rfl) (fun _ _ _ _ h => h) rfl rfl rfl rfl hm (hS.sub (.cons (Mem.le.refl _) (Sub.nil _))) (v := .int .i64 x_187) (fun w hS => r_move hm rfl) ?_
        clear hm a; intro a hm
        obtain ⟨t_205, et_205, H⟩ := Option.bind_eq_some_iff.1 H
        refine h_takeE 6 [true, true, true, true, true, true, true, false, false].toArray rfl (by kernel_rfl) (by kernel_rfl) (by kernel_rfl) (fun _ _ _ _ h => h) rfl rfl rfl rfl hm (hS.sub (.cons (Mem.le.refl _) (Sub.nil _))) (f := fun ad => .pointer (some ad)) (r_index hm Try.underlying22 ti3 rfl rfl rfl hp1_1 et_205) ?_
        rintro ad_206 ⟨cs_207, hk_208, hc_209⟩
        obtain rfl := (show cs_207 = [.int .i64 t_205] from hk_208)
        clear hm a; intro a hm
        refine h_take 7 [true, true, true, true, true, true, true, true, false].toArray rfl (by kernel_rfl) (by kernel_rfl) (by kernel_rfl) (fun _ _ _ _ h => h) rfl rfl rfl rfl hm (hS.sub (.cons (Mem.le.refl _) (Sub.nil _))) (v := .int .i64 t_205) (fun w hS => r_load hm rfl (el_one (o := 0) (fun j c h => Mem.cell_le (hA.trans hS.old) (hc_209 j c h)) Try.underlying3 rfl rfl)) ?_
        clear hm a; intro a hm
        refine h_take 8 [true, true, true, true, true, true, true, true, true].toArray rfl (by kernel_rfl) (by kernel_rfl) (by kernel_rfl) (fun _ _ _ _ h => h) rfl rfl rfl rfl hm (hS.sub (.cons (Mem.le.refl _) (Sub.nil _))) (v := .bool (t_200 == t_205)) (fun w hS => r_cmp (b := (t_200 == t_205)) hm rfl rfl (.inl ⟨rfl, rfl⟩)) ?_
        clear hm a; intro a hm
        refine h_done (by kernel_rfl) ?_
        replace hm : Fr 110 a [(0, p0_0), (1, p1_1), (2, .bool x2), (6, .bool false), (7, .int .i64 x_176), (8, .int .i64 x_187), (15, .int .i64 (x1.length : Int)), (16, .int .i64 x_176), (36, .bool (t_200 == t_205))] := hm.keep [0, 1, 2, 6, 7, 8, 15, 16, 36]
        refine x_then_n (hKJ_198 _ _ ?_)
        by_cases hc_210 : t_200 = t_205
        · rw [if_pos hc_210] at H
          refine c_cond_t hm rfl (beq_iff_eq.2 hc_210) ?_
          refine wp_seq ?_
          refine wp_region_lit ?_
          obtain ⟨t_211, et_211, H⟩ := Option.bind_eq_some_iff.1 H
          refine s_call hm rfl Try.call15 rfl (hocketlaw6_awake.calls K  t_211 w0 _ _ _ (Mem.le.refl _) (hS.enter [] (by decide))  et_211) ?_
          rintro _ w_212 ⟨N_213, rfl, hS'⟩
          clear hm a; intro a hm
          obtain ⟨N_214, hS'', le_214, ln_214⟩ := hS.call [] (by decide) rfl (l' := []) (ow := []) rfl hS'
          replace hS : Sep w0 w_212 [N_214] Z := hS''
          clear hS' hS''
          refine s_assign hm rfl rfl ?_
          clear hm a; intro a hm
          refine wpList_nil ?_
          replace hm : Fr 110 a [(0, p0_0), (1, p1_1), (2, .bool x2), (6, .bool true), (7, .int .i64 x_176), (8, .int .i64 x_187), (15, .int .i64 (x1.length : Int)), (16, .int .i64 x_176)] := hm.keep [0, 1, 2, 6, 7, 8, 15, 16]
          refine x_then_n ?_
          refine wp_ret (x_block_r (x_then_r (x_then_r (x_block_r (x_then_r (x_block_r (x_then_r (x_then_r (x_block_r (x_then_r ?_))))))))))
          exact f_ret hm (rs := [.tmp 6]) rfl (.tmp rfl .nil) ⟨_, rfl, N_214, rfl, (Sep.sel hS [0] (by decide))⟩
        · rw [if_neg hc_210] at H
          refine c_cond_f hm rfl (beq_eq_false_iff_ne.2 hc_210) ?_
          refine wp_skip ?_
          refine x_block_n ?_
          refine x_then_n (hKJ_197 _ _ ?_)
          refine wp_region_lit ?_
          refine s_move hm rfl rfl ?_
          clear hm a; intro a hm
          refine s_arith (r := w64 (x_187 + 1)) hm rfl rfl rfl (.inl ⟨rfl, rfl⟩) ?_
          clear hm a; intro a hm
          refine s_assign hm rfl rfl ?_
          clear hm a; intro a hm
          refine wpList_nil ?_
          replace hm : Fr 110 a [(0, p0_0), (1, p1_1), (2, .bool x2), (6, .bool false), (7, .int .i64 x_176), (8, .int .i64 (w64 (x_187 + 1))), (15, .int .i64 (x1.length : Int)), (16, .int .i64 x_176)] := hm.keep [0, 1, 2, 6, 7, 8, 15, 16]
          refine x_then_n (hKL_188 _ _ ?_)
          replace hS : Sep w0 w_199 [N_192] Z := hS
          replace hm : Fr 110 a [(0, p0_0), (1, p1_1), (2, .bool x2), (6, .bool false), (7, .int .i64 x_176), (8, .int .i64 (w64 (x_187 + 1))), (15, .int .i64 (x1.length : Int)), (16, .int .i64 x_176)] := hm.keep [0, 1, 2, 6, 7, 8, 15, 16]
          exact ⟨w64 (x_187 + 1), N_192, H, hm, (Sep.sel hS [0] (by decide)), (le_186.trans le_192)⟩
      · rw [if_neg hc_196] at H
        refine c_cond_f hm rfl (Bool.eq_false_iff.2 hc_196) ?_
        refine wp_exit (x_then_x (x_then_x (x_block_t ?_)))
        replace hS : Sep w0 w_194 [N_192] Z := hS
        replace hm : Fr 110 a [(0, p0_0), (1, p1_1), (2, .bool x2), (6, .bool false), (15, .int .i64 (x1.length : Int)), (16, .int .i64 x_176)] := hm.keep [0, 1, 2, 6, 15, 16]
        exact x_then_n (hJ_j_185  H _ _ ⟨N_192, hm, (Sep.sel hS [0] (by decide)), (le_186.trans le_192)⟩)
    clear hKJ_191
    refine wp_region_lit ?_
    refine s_move hm rfl rfl ?_
    clear hm a; intro a hm
    refine s_move hm rfl rfl ?_
    clear hm a; intro a hm
    refine s_cmp (b := decide (x_187 < x_176)) hm rfl rfl rfl (.inr (.inr (.inl ⟨rfl, rfl⟩))) ?_
    clear hm a; intro a hm
    refine s_move hm rfl rfl ?_
    clear hm a; intro a hm
    by_cases hc_215 : x_187 < x_176
    · rw [if_pos hc_215] at H
      refine s_on hm rfl rfl (decide_eq_true hc_215) ?_
      refine s_move hm rfl rfl ?_
      clear hm a; intro a hm
      refine s_on hm rfl rfl (decide_eq_true hc_215) ?_
      refine s_cmp (b := decide (x_187 < 12)) hm rfl rfl rfl (.inr (.inr (.inl ⟨rfl, rfl⟩))) ?_
      clear hm a; intro a hm
      refine s_pick_t hm rfl rfl (decide_eq_true hc_215) rfl ?_
      clear hm a; intro a hm
      refine wpList_nil ?_
      replace hm : Fr 110 a [(0, p0_0), (1, p1_1), (2, .bool x2), (6, .bool false), (7, .int .i64 x_176), (8, .int .i64 x_187), (15, .int .i64 (x1.length : Int)), (16, .int .i64 x_176), (25, .bool (decide (x_187 < 12)))] := hm.keep [0, 1, 2, 6, 7, 8, 15, 16, 25]
      replace hS : Sep w0 w_188 [N_186] Z := hS
      replace hm : Fr 110 a [(0, p0_0), (1, p1_1), (2, .bool x2), (6, .bool false), (7, .int .i64 x_176), (8, .int .i64 x_187), (15, .int .i64 (x1.length : Int)), (16, .int .i64 x_176), (25, .bool (decide (x_187 < 12)))] := hm.keep [0, 1, 2, 6, 7, 8, 15, 16, 25]
      exact x_then_n (hJ_j_195 (decide (x_187 < 12)) H _ _ ⟨N_186, hm, (Sep.sel hS [0] (by decide)), (Mem.le.refl _)⟩)
    · rw [if_neg hc_215] at H
      refine s_off hm rfl rfl rfl (decide_eq_false hc_215) ?_
      clear hm a; intro a hm
      refine s_off hm rfl rfl rfl (decide_eq_false hc_215) ?_
      clear hm a; intro a hm
      refine s_pick_f hm rfl rfl (decide_eq_false hc_215) rfl ?_
      clear hm a; intro a hm
      refine wpList_nil ?_
      replace hm : Fr 110 a [(0, p0_0), (1, p1_1), (2, .bool x2), (6, .bool false), (7, .int .i64 x_176), (8, .int .i64 x_187), (15, .int .i64 (x1.length : Int)), (16, .int .i64 x_176), (25, .bool false)] := hm.keep [0, 1, 2, 6, 7, 8, 15, 16, 25]
      replace hS : Sep w0 w_188 [N_186] Z := hS
      replace hm : Fr 110 a [(0, p0_0), (1, p1_1), (2, .bool x2), (6, .bool false), (7, .int .i64 x_176), (8, .int .i64 x_187), (15, .int .i64 (x1.length : Int)), (16, .int .i64 x_176), (25, .bool false)] := hm.keep [0, 1, 2, 6, 7, 8, 15, 16, 25]
      exact x_then_n (hJ_j_195 false H _ _ ⟨N_186, hm, (Sep.sel hS [0] (by decide)), (Mem.le.refl _)⟩)
  · rw [if_neg hc_180] at H
    refine c_cond_f hm rfl (decide_eq_false hc_180) ?_
    refine wp_exit (x_then_x (x_then_x (x_block_t ?_)))
    replace hS : Sep w0 w_177 [N_175] Z := hS
    replace hm : Fr 110 a [(0, p0_0), (1, p1_1), (2, .bool x2), (6, .bool false)] := hm.keep [0, 1, 2, 6]
    exact x_then_n (hJ_j_4  H _ _ ⟨N_175, hm, (Sep.sel hS [0] (by decide)), le_175⟩)


end Go.Proofs
