/- What the calls do: each function once. -/
import Derived.Test.YteojmbigbifklaaFacts
namespace Go.Proofs
open Go.Gp
set_option linter.unusedVariables false
set_option maxHeartbeats 4000000 in
theorem slices_Clone_sint_int.calls (x0 : List Int) (p0_0 : Value) (r : List Int) (w0 w : World) (Z A : Mem) (hA : A.le Z) (hS : Sep w0 w [] Z) (hp0_0 : Rd (Kd.int .i64) A p0_0 x0)
    (H : slices_Clone_sint_int.f x0 = some r) :
    Calls Try.prog 39 [p0_0].toArray w (Ret fun v w' => ∃ (u0 : Value) (N : Mem) (M0 : Mem), v = u0 ∧ Sep w0 w' [N, M0] Z ∧ Own (Kd.int .i64) 3 M0 Mem.no u0 r) := by
  unfold slices_Clone_sint_int.f at H
  refine f_enter _ Try.func39 rfl Try.ntmps39 rfl fun a hm => ?_
  replace hm : Fr 8 a [(0, p0_0)] := hm
  replace hS := hS.start
  replace hS : Sep w0 w [Mem.no] Z := hS
  refine wp_seq ?_
  refine wp_region_lit ?_
  refine s_assign hm rfl rfl ?_
  clear hm a; intro a hm
  refine wpList_nil ?_
  replace hm : Fr 8 a [(0, p0_0)] := hm.keep [0]
  refine x_then_n ?_
  refine c_seq fun KJ hKJ => ?_
  refine wp_seq ?_
  refine wp_region_lit ?_
  refine s_move hm rfl rfl ?_
  clear hm a; intro a hm
  refine s_slNil hm rfl Try.underlying22 rfl hp0_0 fun b hb => ?_
  clear hm a; intro a hm
  refine wpList_nil ?_
  refine x_then_n ?_
  cases b with
  | true =>
    have hx := hb rfl
    subst hx
    refine c_cond_t hm rfl rfl ?_
    refine wp_seq ?_
    refine wp_region_lit ?_
    refine s_assign hm rfl rfl ?_
    clear hm a; intro a hm
    refine wpList_nil ?_
    replace hm : Fr 8 a [(2, .slice none 0 0)] := hm.keep [2]
    refine x_then_n ?_
    refine wp_ret (x_then_r ?_)
    obtain rfl := (app_some H).2
    replace hS := hS.room
    exact f_ret hm (rs := [.tmp 2]) rfl (.tmp rfl .nil) ⟨_, rfl, _, Mem.no, Mem.no, rfl, hS, Own.nil _ _ _⟩
  | false =>
    refine c_cond_f hm rfl rfl ?_
    refine wp_skip ?_
    refine x_then_n (hKJ _ _ ?_)
    refine wp_seq ?_
    refine wp_region_lit ?_
    have hq5 : Reps (Kd.int .i64) Mem.no ([] : List Int) _ := (Reps.nil (Kd.int .i64) _)
    refine s_buildSlice hm rfl Try.underlying22 ti3 rfl rfl rfl .nil rfl rfl rfl hS hq5 rfl ?_
    intro w1 v2 M3 hS' ho4
    clear hm a; intro a hm
    replace hS : Sep w0 w1 [Mem.no, M3] Z := hS'
    clear hS' hq5
    refine s_move hm rfl rfl ?_
    clear hm a; intro a hm
    refine s_append (J := Mem.no) (I' := Mem.no) (p := 1) 17592186044416 hm rfl rfl rfl Try.underlying22 ti3 rfl rfl rfl rfl hS rfl ho4 (Src.flat (flat_int .i64) (hp0_0.src (hA.trans hS.old))) (Mem.le.refl _) (Mem.le.refl _) H ?_
    intro w8 v9 M10 hS' ho11
    clear hm a; intro a hm
    refine s_assign hm rfl rfl ?_
    clear hm a; intro a hm
    refine wpList_nil ?_
    replace hm : Fr 8 a [(2, v9)] := hm.keep [2]
    refine x_then_n ?_
    refine wp_ret ?_
    exact f_ret hm (rs := [.tmp 2]) rfl (.tmp rfl .nil) ⟨_, rfl, _, Mem.no, M10, rfl, hS', ho11⟩

set_option maxHeartbeats 4000000 in
set_option maxRecDepth 20000 in
theorem slices_Index_sint_int.calls (K : Nat) (x0 : List Int) (p0_0 : Value) (x1 : Int) (r : Int) (w0 w : World) (Z A : Mem) (hA : A.le Z) (hS : Sep w0 w [] Z) (hp0_0 : Rd (Kd.int .i64) A p0_0 x0)
    (H : slices_Index_sint_int.f K x0 x1 = some r) :
    Calls Try.prog 40 [p0_0, .int .i64 x1].toArray w (Ret fun v w' => ∃ (N : Mem), v = .int .i64 r ∧ Sep w0 w' [N] Z) := by
  unfold slices_Index_sint_int.f at H
  refine f_enter _ Try.func40 rfl Try.ntmps40 rfl fun a hm => ?_
  replace hm : Fr 19 a [(0, p0_0), (1, .int .i64 x1)] := hm
  replace hS := hS.start
  replace hS : Sep w0 w [Mem.no] Z := hS
  refine wp_seq ?_
  refine wp_region_lit ?_
  refine s_assign hm rfl rfl ?_
  clear hm a; intro a hm
  refine wpList_nil ?_
  replace hm : Fr 19 a [(0, p0_0), (1, .int .i64 x1), (4, .int .i64 0)] := hm.keep [0, 1, 4]
  refine x_then_n ?_
  refine c_seq fun KJ_1 hKJ_1 => ?_
  refine wp_seq ?_
  refine wp_region_lit ?_
  refine s_move hm rfl rfl ?_
  clear hm a; intro a hm
  refine s_len hm rfl Try.underlying22 rfl hp0_0 ?_
  clear hm a; intro a hm
  refine s_move hm rfl rfl ?_
  clear hm a; intro a hm
  refine wpList_nil ?_
  replace hm : Fr 19 a [(0, p0_0), (1, .int .i64 x1), (4, .int .i64 0), (7, .int .i64 (x0.length : Int)), (8, .int .i64 0)] := hm.keep [0, 1, 4, 7, 8]
  refine x_then_n ?_
  have hJ_j_4 : slices_Index_sint_int.J1 K = some r → ∀ (a : Act) (w_3 : World), (∃ (N_2 : Mem), Fr 19 a [(4, .int .i64 0)] ∧ Sep w0 w_3 [N_2] Z ∧ Mem.no.le N_2) → KJ_1 a w_3 := by
    clear H hm hS a
    rintro H a w_3 ⟨N_2, hm, hS, le_2⟩
    unfold slices_Index_sint_int.J1 at H
    refine hKJ_1 _ _ ?_
    refine wp_seq ?_
    refine wp_region_lit ?_
    refine s_assign hm rfl rfl ?_
    clear hm a; intro a hm
    refine wpList_nil ?_
    replace hm : Fr 19 a [(4, .int .i64 (-1))] := hm.keep [4]
    refine x_then_n ?_
    refine wp_ret ?_
    obtain rfl := Option.some.inj H
    exact f_ret hm (rs := [.tmp 4]) rfl (.tmp rfl .nil) ⟨_, rfl, N_2, rfl, (Sep.sel hS [0] (by decide))⟩
  clear hKJ_1
  replace hS : Sep w0 w [Mem.no] Z := hS
  replace hm : Fr 19 a [(0, p0_0), (1, .int .i64 x1), (4, .int .i64 0), (7, .int .i64 (x0.length : Int)), (8, .int .i64 0)] := hm.keep [0, 1, 4, 7, 8]
  refine c_block ?_
  refine c_loop (fun k_7 a w_7 => ∃ (x_6 : Int) (N_5 : Mem), slices_Index_sint_int.L1 K x0 x1 (fun v => slices_Index_sint_int.J1 K) k_7 x_6 = some r ∧ Fr 19 a [(0, p0_0), (1, .int .i64 x1), (4, .int .i64 0), (7, .int .i64 (x0.length : Int)), (8, .int .i64 x_6)] ∧ Sep w0 w_7 [N_5] Z ∧ Mem.no.le N_5) K ⟨0, Mem.no, H, hm, (Sep.sel hS [0] (by decide)), (Mem.le.refl _)⟩ (fun a w h => by obtain ⟨_, _, H, _⟩ := h; cases (show (none : Option (Int)) = some r from H)) ?_
  clear hm hS a H
  rintro k_7 a w_7 KL_7 hKL_7 ⟨x_6, N_5, H, hm, hS, le_5⟩
  replace H : slices_Index_sint_int.B1 K x0 x1 (fun v => slices_Index_sint_int.J1 K) (slices_Index_sint_int.L1 K x0 x1 (fun v => slices_Index_sint_int.J1 K) k_7) x_6 = some r := H
  unfold slices_Index_sint_int.B1 at H
  refine wp_seq ?_
  refine wp_region_lit ?_
  refine s_cmp (b := decide (x_6 < (x0.length : Int))) hm rfl rfl rfl (.inr (.inr (.inl ⟨rfl, rfl⟩))) ?_
  clear hm a; intro a hm
  refine wpList_nil ?_
  replace hm : Fr 19 a [(0, p0_0), (1, .int .i64 x1), (4, .int .i64 0), (7, .int .i64 (x0.length : Int)), (8, .int .i64 x_6), (9, .bool (decide (x_6 < (x0.length : Int))))] := hm.keep [0, 1, 4, 7, 8, 9]
  refine x_then_n ?_
  refine c_seq fun KJ_9 hKJ_9 => ?_
  by_cases hc_10 : x_6 < (x0.length : Int)
  · rw [if_pos hc_10] at H
    refine c_cond_t hm rfl (decide_eq_true hc_10) ?_
    refine wp_skip ?_
    refine x_then_n (hKJ_9 _ _ ?_)
    refine c_seq fun KJ_11 hKJ_11 => ?_
    refine c_block ?_
    refine wp_seq ?_
    refine wp_region_lit ?_
    refine s_move hm rfl rfl ?_
    clear hm a; intro a hm
    refine s_assign hm rfl rfl ?_
    clear hm a; intro a hm
    refine wpList_nil ?_
    replace hm : Fr 19 a [(0, p0_0), (1, .int .i64 x1), (4, .int .i64 0), (5, .int .i64 x_6), (7, .int .i64 (x0.length : Int)), (8, .int .i64 x_6)] := hm.keep [0, 1, 4, 5, 7, 8]
    refine x_then_n ?_
    refine wp_seq ?_
    refine wp_region_lit ?_
    refine s_move hm rfl rfl ?_
    clear hm a; intro a hm
    refine s_move hm rfl rfl ?_
    clear hm a; intro a hm
    refine s_move hm rfl rfl ?_
    clear hm a; intro a hm
    obtain ⟨t_12, et_12, H⟩ := Option.bind_eq_some_iff.1 H
    refine v_index hm rfl Try.underlying22 ti3 rfl rfl rfl hp0_0 (hA.trans hS.old) et_12 ?_
    intro ad_13 cs_14 hk_15 hc_16
    obtain rfl := (show cs_14 = [.int .i64 t_12] from hk_15)
    clear hm a; intro a hm
    refine s_load hm rfl rfl (el_one (o := 0) hc_16 Try.underlying3 rfl rfl) ?_
    clear hm a; intro a hm
    refine s_cmp (b := (x1 == t_12)) hm rfl rfl rfl (.inl ⟨rfl, rfl⟩) ?_
    clear hm a; intro a hm
    refine wpList_nil ?_
    replace hm : Fr 19 a [(0, p0_0), (1, .int .i64 x1), (4, .int .i64 0), (5, .int .i64 x_6), (7, .int .i64 (x0.length : Int)), (8, .int .i64 x_6), (16, .bool (x1 == t_12))] := hm.keep [0, 1, 4, 5, 7, 8, 16]
    refine x_then_n ?_
    by_cases hc_17 : x1 = t_12
    · rw [if_pos hc_17] at H
      refine c_cond_t hm rfl (beq_iff_eq.2 hc_17) ?_
      refine wp_seq ?_
      refine wp_region_lit ?_
      refine s_move hm rfl rfl ?_
      clear hm a; intro a hm
      refine s_assign hm rfl rfl ?_
      clear hm a; intro a hm
      refine wpList_nil ?_
      replace hm : Fr 19 a [(0, p0_0), (1, .int .i64 x1), (4, .int .i64 x_6), (7, .int .i64 (x0.length : Int)), (8, .int .i64 x_6)] := hm.keep [0, 1, 4, 7, 8]
      refine x_then_n ?_
      refine wp_ret (x_block_r (x_then_r (x_then_r (x_block_r (x_then_r ?_)))))
      obtain rfl := Option.some.inj H
      exact f_ret hm (rs := [.tmp 4]) rfl (.tmp rfl .nil) ⟨_, rfl, N_5, rfl, (Sep.sel hS [0] (by decide))⟩
    · rw [if_neg hc_17] at H
      refine c_cond_f hm rfl (beq_eq_false_iff_ne.2 hc_17) ?_
      refine wp_skip ?_
      refine x_block_n ?_
      refine x_then_n (hKJ_11 _ _ ?_)
      refine wp_region_lit ?_
      refine s_arith (r := w64 (x_6 + 1)) hm rfl rfl rfl (.inl ⟨rfl, rfl⟩) ?_
      clear hm a; intro a hm
      refine s_move hm rfl rfl ?_
      clear hm a; intro a hm
      refine wpList_nil ?_
      replace hm : Fr 19 a [(0, p0_0), (1, .int .i64 x1), (4, .int .i64 0), (7, .int .i64 (x0.length : Int)), (8, .int .i64 (w64 (x_6 + 1)))] := hm.keep [0, 1, 4, 7, 8]
      refine x_then_n (hKL_7 _ _ ?_)
      replace hS : Sep w0 w_7 [N_5] Z := hS
      replace hm : Fr 19 a [(0, p0_0), (1, .int .i64 x1), (4, .int .i64 0), (7, .int .i64 (x0.length : Int)), (8, .int .i64 (w64 (x_6 + 1)))] := hm.keep [0, 1, 4, 7, 8]
      exact ⟨w64 (x_6 + 1), N_5, H, hm, (Sep.sel hS [0] (by decide)), le_5⟩
  · rw [if_neg hc_10] at H
    refine c_cond_f hm rfl (decide_eq_false hc_10) ?_
    refine wp_exit (x_then_x (x_then_x (x_block_t ?_)))
    replace hS : Sep w0 w_7 [N_5] Z := hS
    replace hm : Fr 19 a [(4, .int .i64 0)] := hm.keep [4]
    exact x_then_n (hJ_j_4  H _ _ ⟨N_5, hm, (Sep.sel hS [0] (by decide)), le_5⟩)

set_option maxHeartbeats 4000000 in
set_option maxRecDepth 20000 in
theorem slices_Delete_sint_int.calls (x0 : List Int) (p0_0 : Value) (M0_0 : Mem) (x1 : Int) (x2 : Int) (r : (List Int)) (w0 w : World) (Z A : Mem) (hA : A.le Z) (hS : Sep w0 w [M0_0] Z) (hp0_0 : Own (Kd.int .i64) 3 M0_0 Mem.no p0_0 x0)
    (H : slices_Delete_sint_int.f x0 x1 x2 = some r) :
    Calls Try.prog 41 [p0_0, .int .i64 x1, .int .i64 x2].toArray w (Ret fun v w' => ∃ (u0 : Value) (N : Mem) (M0 : Mem), v = u0 ∧ Sep w0 w' [N, Mem.no, M0] Z ∧ Own (Kd.int .i64) 3 M0 Mem.no u0 r) := by
  unfold slices_Delete_sint_int.f at H
  refine f_enter _ Try.func41 rfl Try.ntmps41 rfl fun a hm => ?_
  replace hm : Fr 33 a [(0, p0_0), (1, .int .i64 x1), (2, .int .i64 x2)] := hm
  replace hS := hS.start
  replace hS : Sep w0 w [Mem.no, M0_0] Z := hS
  refine wp_seq ?_
  refine wp_region_lit ?_
  refine s_assign hm rfl rfl ?_
  clear hm a; intro a hm
  refine wpList_nil ?_
  replace hm : Fr 33 a [(0, p0_0), (1, .int .i64 x1), (2, .int .i64 x2), (6, .slice none 0 0)] := hm.keep [0, 1, 2, 6]
  refine x_then_n ?_
  refine wp_seq ?_
  refine wp_region_lit ?_
  refine s_move hm rfl rfl ?_
  clear hm a; intro a hm
  refine s_move hm rfl rfl ?_
  clear hm a; intro a hm
  refine s_move hm rfl rfl ?_
  clear hm a; intro a hm
  refine s_move hm rfl rfl ?_
  clear hm a; intro a hm
  refine s_lenO hm rfl Try.underlying22 rfl hp0_0 ?_
  clear hm a; intro a hm
  obtain ⟨u_1, eu_1, H⟩ := Option.bind_eq_some_iff.1 H
  refine s_slice3 hm rfl Try.underlying22 ti3 rfl rfl rfl rfl hp0_0 (must_some eu_1) ?_
  intro v_2
  clear hm a; intro a hm
  refine wpList_nil ?_
  replace hm : Fr 33 a [(0, p0_0), (1, .int .i64 x1), (2, .int .i64 x2), (6, .slice none 0 0)] := hm.keep [0, 1, 2, 6]
  refine x_then_n ?_
  refine c_seq fun KJ_3 hKJ_3 => ?_
  refine wp_seq ?_
  refine wp_region_lit ?_
  refine s_move hm rfl rfl ?_
  clear hm a; intro a hm
  refine s_move hm rfl rfl ?_
  clear hm a; intro a hm
  refine s_cmp (b := (x1 == x2)) hm rfl rfl rfl (.inl ⟨rfl, rfl⟩) ?_
  clear hm a; intro a hm
  refine wpList_nil ?_
  replace hm : Fr 33 a [(0, p0_0), (1, .int .i64 x1), (2, .int .i64 x2), (6, .slice none 0 0), (16, .bool (x1 == x2))] := hm.keep [0, 1, 2, 6, 16]
  refine x_then_n ?_
  by_cases hc_4 : x1 = x2
  · rw [if_pos hc_4] at H
    refine c_cond_t hm rfl (beq_iff_eq.2 hc_4) ?_
    refine wp_seq ?_
    refine wp_region_lit ?_
    refine s_move hm rfl rfl ?_
    clear hm a; intro a hm
    refine s_assign hm rfl rfl ?_
    clear hm a; intro a hm
    refine wpList_nil ?_
    replace hm : Fr 33 a [(0, p0_0), (1, .int .i64 x1), (2, .int .i64 x2), (6, p0_0)] := hm.keep [0, 1, 2, 6]
    refine x_then_n ?_
    refine wp_ret (x_then_r ?_)
    obtain rfl := Option.some.inj H
    exact f_ret hm (rs := [.tmp 6]) rfl (.tmp rfl .nil) ⟨_, rfl, p0_0, Mem.no, M0_0, rfl, (Sep.sel hS [0, 1000, 1] (by decide)), hp0_0⟩
  · rw [if_neg hc_4] at H
    refine c_cond_f hm rfl (beq_eq_false_iff_ne.2 hc_4) ?_
    refine wp_skip ?_
    refine x_then_n (hKJ_3 _ _ ?_)
    refine wp_seq ?_
    refine wp_region_lit ?_
    refine s_move hm rfl rfl ?_
    clear hm a; intro a hm
    refine s_lenO hm rfl Try.underlying22 rfl hp0_0 ?_
    clear hm a; intro a hm
    refine s_assign hm rfl rfl ?_
    clear hm a; intro a hm
    refine wpList_nil ?_
    replace hm : Fr 33 a [(0, p0_0), (1, .int .i64 x1), (2, .int .i64 x2), (6, .slice none 0 0), (7, .int .i64 (x0.length : Int))] := hm.keep [0, 1, 2, 6, 7]
    refine x_then_n ?_
    refine c_seq fun KJ_5 hKJ_5 => ?_
    refine h_begin (S := fun w => Sep w0 w [Mem.no, Mem.no] Z) 8 (by kernel_rfl) rfl [false, false, false, false, false, false, false, false].toArray rfl hS fun w_6 hS => ?_
    replace hS : Sep w0 w_6 [Mem.no, M0_0] Z := hS
    refine h_take 0 [true, false, false, false, false, false, false, false].toArray rfl (by kernel_rfl) (by kernel_rfl) (by kernel_rfl) (fun _ _ _ _ h => h) rfl rfl rfl rfl hm (hS.sub (.cons (Mem.le.refl _) (.cons (Mem.no_le _) (Sub.nil _)))) (v := p0_0) (fun w hS => r_move hm rfl) ?_
    clear hm a; intro a hm
    refine h_take 1 [true, true, false, false, false, false, false, false].toArray rfl (by kernel_rfl) (by kernel_rfl) (by kernel_rfl) (fun _ _ _ _ h => h) rfl rfl rfl rfl hm (hS.sub (.cons (Mem.le.refl _) (.cons (Mem.no_le _) (Sub.nil _)))) (v := .int .i64 x1) (fun w hS => r_move hm rfl) ?_
    clear hm a; intro a hm
    refine h_takeE 2 [true, true, true, false, false, false, false, false].toArray rfl (by kernel_rfl) (by kernel_rfl) (by kernel_rfl) (fun _ _ _ _ h => h) rfl rfl rfl rfl hm (hS.sub (.cons (Mem.le.refl _) (.cons (Mem.no_le _) (Sub.nil _)))) (f := fun v => v) (r_piece hm Try.underlying22 ti3 rfl rfl hp0_0 (hp0_0.room) rfl rfl (by have := (must_some eu_1); (try simp only [List.length_append, List.length_take, List.length_drop]); omega)) ?_
    intro v_7 hq_8
    clear hm a; intro a hm
    refine h_take 3 [true, true, true, true, false, false, false, false].toArray rfl (by kernel_rfl) (by kernel_rfl) (by kernel_rfl) (fun _ _ _ _ h => h) rfl rfl rfl rfl hm (hS.sub (.cons (Mem.le.refl _) (.cons (Mem.no_le _) (Sub.nil _)))) (v := p0_0) (fun w hS => r_move hm rfl) ?_
    clear hm a; intro a hm
    refine h_take 4 [true, true, true, true, true, false, false, false].toArray rfl (by kernel_rfl) (by kernel_rfl) (by kernel_rfl) (fun _ _ _ _ h => h) rfl rfl rfl rfl hm (hS.sub (.cons (Mem.le.refl _) (.cons (Mem.no_le _) (Sub.nil _)))) (v := .int .i64 x2) (fun w hS => r_move hm rfl) ?_
    clear hm a; intro a hm
    refine h_takeE 5 [true, true, true, true, true, true, false, false].toArray rfl (by kernel_rfl) (by kernel_rfl) (by kernel_rfl) (fun _ _ _ _ h => h) rfl rfl rfl rfl hm (hS.sub (.cons (Mem.le.refl _) (.cons (Mem.no_le _) (Sub.nil _)))) (f := fun v => v) (r_piece hm Try.underlying22 ti3 rfl rfl hp0_0 (hp0_0.room) rfl rfl (by have := (must_some eu_1); (try simp only [List.length_append, List.length_take, List.length_drop]); omega)) ?_
    intro v_9 hq_10
    clear hm a; intro a hm
    refine h_event 6 [true, true, true, true, true, true, true, false].toArray rfl (by kernel_rfl) rfl ?_
    refine s_appendP (p := 1) hm rfl Try.underlying22 ti3 rfl rfl rfl hp0_0 (by simpa using hq_8) hq_10 (by have := (must_some eu_1); omega) (by have := (must_some eu_1); omega) hS rfl ?_
    intro w_11 v_12 M_13 hS' ho_14 hr_15
    clear hm a; intro a hm
    replace hS : Sep w0 w_11 [Mem.no, M_13] Z := hS'
    clear hS'
    refine wpList_nil ?_
    refine x_then_n ⟨(hS.sub (.cons (Mem.le.refl _) (.cons (Mem.no_le _) (Sub.nil _)))), ?_⟩
    refine h_take 7 [true, true, true, true, true, true, true, true].toArray rfl (by kernel_rfl) (by kernel_rfl) (by kernel_rfl) (fun _ _ _ _ h => h) rfl rfl rfl rfl hm (hS.sub (.cons (Mem.le.refl _) (.cons (Mem.no_le _) (Sub.nil _)))) (v := v_12) (fun w hS => r_assign hm rfl) ?_
    clear hm a; intro a hm
    refine h_done (by kernel_rfl) ?_
    replace hm : Fr 33 a [(0, v_12), (6, .slice none 0 0), (7, .int .i64 (x0.length : Int))] := hm.keep [0, 6, 7]
    refine x_then_n (hKJ_5 _ _ ?_)
    refine wp_seq ?_
    refine wp_region_lit ?_
    refine s_move hm rfl rfl ?_
    clear hm a; intro a hm
    refine s_move hm rfl rfl ?_
    clear hm a; intro a hm
    refine s_lenO hm rfl Try.underlying22 rfl ho_14 ?_
    clear hm a; intro a hm
    refine s_move hm rfl rfl ?_
    clear hm a; intro a hm
    refine s_piece hm rfl Try.underlying22 ti3 rfl rfl ho_14 (hr_15) rfl rfl (by have := (must_some eu_1); (try simp only [List.length_append, List.length_take, List.length_drop]); omega) ?_
    intro v_17 hq_18
    clear hm a; intro a hm
    refine s_clearP (p := 1) hm Try.underlying22 ti3 rfl (by intro u hu; simp only [List.mem_cons, List.not_mem_nil, or_false] at hu; rcases hu with rfl <;> rfl) rfl ho_14 hq_18 (Nat.le_of_eq (Int.toNat_natCast _).symm) hS rfl ?_
    intro w_19 M_20 hS' ho_21
    replace hS : Sep w0 w_19 [Mem.no, M_20] Z := hS'
    clear hS'
    refine wpList_nil ?_
    replace hm : Fr 33 a [(0, v_12), (6, .slice none 0 0)] := hm.keep [0, 6]
    refine x_then_n ?_
    refine wp_seq ?_
    refine wp_region_lit ?_
    refine s_move hm rfl rfl ?_
    clear hm a; intro a hm
    refine s_assign hm rfl rfl ?_
    clear hm a; intro a hm
    refine wpList_nil ?_
    replace hm : Fr 33 a [(6, v_12)] := hm.keep [6]
    refine x_then_n ?_
    refine wp_ret ?_
    obtain rfl := Option.some.inj H
    exact f_ret hm (rs := [.tmp 6]) rfl (.tmp rfl .nil) ⟨_, rfl, v_12, Mem.no, M_20, rfl, (Sep.sel hS [0, 1000, 1] (by decide)), ho_21⟩

set_option maxHeartbeats 4000000 in
set_option maxRecDepth 20000 in
theorem lock_Free.calls (K : Nat) (x0 : List Int) (p0_0 : Value) (x1 : Int) (r : (List Int) × api_Result) (w0 w : World) (Z A : Mem) (hA : A.le Z) (hS : Sep w0 w [] Z) (hp0_0 : Rd (Kd.int .i64) A p0_0 x0)
    (H : lock_Free.f K x0 x1 = some r) :
    Calls Try.prog 12 [p0_0, .int .i64 x1].toArray w (Ret fun v w' => ∃ (u0 : Value) (u1 : Value) (N : Mem) (M0 : Mem) (M1 : Mem), v = .tuple [u0, .agg [.int .i64 r.2.Err, u1, .int .i64 r.2.N].toArray].toArray ∧ Sep w0 w' [N, M0, M1] Z ∧ Own (Kd.int .i64) 3 M0 Mem.no u0 r.1 ∧ Own Kd.u8 5 M1 Mem.no u1 r.2.Val) := by
  unfold lock_Free.f at H
  refine f_enter _ Try.func12 rfl Try.ntmps12 rfl fun a hm => ?_
  replace hm : Fr 30 a [(0, p0_0), (1, .int .i64 x1)] := hm
  replace hS := hS.start
  replace hS : Sep w0 w [Mem.no] Z := hS
  refine wp_seq ?_
  refine wp_region_lit ?_
  refine s_assign hm rfl rfl ?_
  clear hm a; intro a hm
  refine v_alloc hm rfl ti28 hS ?_
  intro w_1 g_2 hS'
  clear hm a; intro a hm
  replace hS : Sep w0 w_1 [Mem.no, Mem.one g_2 (.cells ([.int .i64 0, .slice none 0 0, .int .i64 0] : List Value).toArray 28 (0, 0))] Z := hS'
  clear hS'
  refine wpList_nil ?_
  replace hm : Fr 30 a [(0, p0_0), (1, .int .i64 x1), (4, .slice none 0 0), (5, .pointer (some ⟨g_2, 0, none⟩))] := hm.keep [0, 1, 4, 5]
  refine x_then_n ?_
  refine wp_seq ?_
  refine wp_region_lit ?_
  refine s_move hm rfl rfl ?_
  clear hm a; intro a hm
  obtain ⟨t_3, et_3, H⟩ := Option.bind_eq_some_iff.1 H
  refine s_call hm rfl Try.call39 rfl (slices_Clone_sint_int.calls x0 _ t_3 w0 _ _ _ (Mem.le.refl _) (hS.enter [] (by decide)) (hp0_0.mono (hA.trans (hS.le_zed []))) et_3) ?_
  rintro v_7 w_4 ⟨_, N_5, M_9, rfl, hS', hr_8⟩
  clear hm a; intro a hm
  obtain ⟨N_6, hS'', le_6, ln_6⟩ := hS.call [] (by decide) rfl (l' := []) (ow := [M_9]) rfl hS'
  replace hS : Sep w0 w_4 [N_6, Mem.one g_2 (.cells ([.int .i64 0, .slice none 0 0, .int .i64 0] : List Value).toArray 28 (0, 0)), M_9] Z := hS''
  clear hS' hS''
  refine s_assign hm rfl rfl ?_
  clear hm a; intro a hm
  refine wpList_nil ?_
  replace hm : Fr 30 a [(0, v_7), (1, .int .i64 x1), (4, .slice none 0 0), (5, .pointer (some ⟨g_2, 0, none⟩))] := hm.keep [0, 1, 4, 5]
  refine x_then_n ?_
  refine wp_seq ?_
  refine wp_region_lit ?_
  refine s_move hm rfl rfl ?_
  clear hm a; intro a hm
  refine s_move hm rfl rfl ?_
  clear hm a; intro a hm
  obtain ⟨t_11, et_11, H⟩ := Option.bind_eq_some_iff.1 H
  refine s_call hm rfl Try.call40 rfl (slices_Index_sint_int.calls K t_3 _ x1 t_11 w0 _ _ _ (Mem.le.refl _) (hS.enter [] (by decide)) (hr_8.rd (hS.own_zed [] 1 (by decide)) (Mem.no_le _)) et_11) ?_
  rintro _ w_12 ⟨N_13, rfl, hS'⟩
  clear hm a; intro a hm
  obtain ⟨N_14, hS'', le_14, ln_14⟩ := hS.call [] (by decide) rfl (l' := []) (ow := []) rfl hS'
  replace hS : Sep w0 w_12 [N_14, Mem.one g_2 (.cells ([.int .i64 0, .slice none 0 0, .int .i64 0] : List Value).toArray 28 (0, 0)), M_9] Z := hS''
  clear hS' hS''
  refine s_assign hm rfl rfl ?_
  clear hm a; intro a hm
  refine wpList_nil ?_
  replace hm : Fr 30 a [(0, v_7), (4, .slice none 0 0), (5, .pointer (some ⟨g_2, 0, none⟩)), (6, .int .i64 t_11)] := hm.keep [0, 4, 5, 6]
  refine x_then_n ?_
  refine c_seq fun KJ_15 hKJ_15 => ?_
  refine wp_seq ?_
  refine wp_region_lit ?_
  refine s_move hm rfl rfl ?_
  clear hm a; intro a hm
  refine s_cmp (b := decide (t_11 < 0)) hm rfl rfl rfl (.inr (.inr (.inl ⟨rfl, rfl⟩))) ?_
  clear hm a; intro a hm
  refine wpList_nil ?_
  replace hm : Fr 30 a [(0, v_7), (4, .slice none 0 0), (5, .pointer (some ⟨g_2, 0, none⟩)), (6, .int .i64 t_11), (13, .bool (decide (t_11 < 0)))] := hm.keep [0, 4, 5, 6, 13]
  refine x_then_n ?_
  by_cases hc_16 : t_11 < 0
  · rw [if_pos hc_16] at H
    refine c_cond_t hm rfl (decide_eq_true hc_16) ?_
    refine wp_seq ?_
    refine wp_region_lit ?_
    refine s_move hm rfl rfl ?_
    clear hm a; intro a hm
    refine s_build hm rfl ti28 pl28 rfl (.cons rfl .nil) (cs := [.int .i64 5, .slice none 0 0, .int .i64 0]) rfl ?_
    clear hm a; intro a hm
    refine s_assign hm rfl rfl ?_
    clear hm a; intro a hm
    obtain ⟨w_17, hs', hS'⟩ := hS.store (P := Try.prog) (p := 1) (o := 0) (t := 28) (v := .agg ([.int .i64 5, .slice none 0 0, .int .i64 0] : List Value).toArray) (vs := [.int .i64 5, .slice none 0 0, .int .i64 0]) rfl ti28 rfl rfl rfl (by intro u hu; simp only [List.mem_cons, List.not_mem_nil, or_false] at hu; rcases hu with rfl | rfl | rfl <;> rfl)
    refine s_store hm rfl rfl hs' ?_
    replace hS : Sep w0 w_17 [N_14, Mem.one g_2 (.cells ([.int .i64 5, .slice none 0 0, .int .i64 0] : List Value).toArray 28 (0, 0)), M_9] Z := hS'
    clear hs' hS'
    refine wpList_nil ?_
    replace hm : Fr 30 a [(0, v_7), (4, v_7), (5, .pointer (some ⟨g_2, 0, none⟩)), (6, .int .i64 t_11)] := hm.keep [0, 4, 5, 6]
    refine x_then_n ?_
    refine wp_ret (x_then_r ?_)
    have hS' := hS.room
    replace hS : Sep w0 w_17 [N_14, Mem.one g_2 (.cells ([.int .i64 5, .slice none 0 0, .int .i64 0] : List Value).toArray 28 (0, 0)), M_9, Mem.no] Z := hS'
    clear hS'
    replace hS : Sep w0 w_17 [N_14, Mem.one g_2 (.cells ([.int .i64 5, .slice none 0 0, .int .i64 0] : List Value).toArray 28 (0, 0)), M_9, Mem.no] Z := hS
    obtain rfl := Option.some.inj H
    exact f_ret hm (rs := [.tmp 4, .cell 5 28]) rfl (.tmp rfl (.cell rfl (hS.load_agg (p := 1) (us := [.int .i64 5, .slice none 0 0, .int .i64 0]) rfl Try.underlying28 rfl ti28 rfl rfl) .nil)) ⟨_, rfl, v_7, .slice none 0 0, N_14, M_9, Mem.no, rfl, (Sep.sel hS [0, 2, 3] (by decide)), hr_8, (Own.nil Kd.u8 5 Mem.no)⟩
  · rw [if_neg hc_16] at H
    refine c_cond_f hm rfl (decide_eq_false hc_16) ?_
    refine wp_skip ?_
    refine x_then_n (hKJ_15 _ _ ?_)
    refine wp_seq ?_
    refine wp_region_lit ?_
    refine s_move hm rfl rfl ?_
    clear hm a; intro a hm
    refine s_move hm rfl rfl ?_
    clear hm a; intro a hm
    refine s_move hm rfl rfl ?_
    clear hm a; intro a hm
    refine s_arith (r := w64 (t_11 + 1)) hm rfl rfl rfl (.inl ⟨rfl, rfl⟩) ?_
    clear hm a; intro a hm
    obtain ⟨t_19, et_19, H⟩ := Option.bind_eq_some_iff.1 H
    refine s_call hm rfl Try.call41 rfl (slices_Delete_sint_int.calls t_3 _ _ t_11 (w64 (t_11 + 1)) t_19 w0 _ _ _ (Mem.le.refl _) (hS.enter [1] (by decide)) hr_8 et_19) ?_
    rintro v_23 w_20 ⟨_, N_21, M_25, rfl, hS', hr_24⟩
    clear hm a; intro a hm
    obtain ⟨N_22, hS'', le_22, ln_22⟩ := hS.call [1] (by decide) rfl (l' := [Mem.no]) (ow := [M_25]) rfl hS'
    replace hS : Sep w0 w_20 [N_22, Mem.one g_2 (.cells ([.int .i64 0, .slice none 0 0, .int .i64 0] : List Value).toArray 28 (0, 0)), Mem.no, M_25] Z := hS''
    clear hS' hS''
    refine s_assign hm rfl rfl ?_
    clear hm a; intro a hm
    refine wpList_nil ?_
    replace hm : Fr 30 a [(0, v_23), (4, .slice none 0 0), (5, .pointer (some ⟨g_2, 0, none⟩))] := hm.keep [0, 4, 5]
    refine x_then_n ?_
    refine c_seq fun KJ_27 hKJ_27 => ?_
    refine wp_seq ?_
    refine wp_region_lit ?_
    refine s_move hm rfl rfl ?_
    clear hm a; intro a hm
    refine s_lenO hm rfl Try.underlying22 rfl hr_24 ?_
    clear hm a; intro a hm
    refine s_cmp (b := ((t_19.length : Int) == 0)) hm rfl rfl rfl (.inl ⟨rfl, rfl⟩) ?_
    clear hm a; intro a hm
    refine wpList_nil ?_
    replace hm : Fr 30 a [(0, v_23), (4, .slice none 0 0), (5, .pointer (some ⟨g_2, 0, none⟩)), (23, .bool ((t_19.length : Int) == 0))] := hm.keep [0, 4, 5, 23]
    refine x_then_n ?_
    by_cases hc_28 : (t_19.length : Int) = 0
    · rw [if_pos hc_28] at H
      refine c_cond_t hm rfl (beq_iff_eq.2 hc_28) ?_
      refine wp_seq ?_
      refine wp_region_lit ?_
      refine s_build hm rfl ti28 pl28 rfl (.cons rfl .nil) (cs := [.int .i64 0, .slice none 0 0, .int .i64 (-1)]) rfl ?_
      clear hm a; intro a hm
      refine s_assign hm rfl rfl ?_
      clear hm a; intro a hm
      obtain ⟨w_29, hs', hS'⟩ := hS.store (P := Try.prog) (p := 1) (o := 0) (t := 28) (v := .agg ([.int .i64 0, .slice none 0 0, .int .i64 (-1)] : List Value).toArray) (vs := [.int .i64 0, .slice none 0 0, .int .i64 (-1)]) rfl ti28 rfl rfl rfl (by intro u hu; simp only [List.mem_cons, List.not_mem_nil, or_false] at hu; rcases hu with rfl | rfl | rfl <;> rfl)
      refine s_store hm rfl rfl hs' ?_
      replace hS : Sep w0 w_29 [N_22, Mem.one g_2 (.cells ([.int .i64 0, .slice none 0 0, .int .i64 (-1)] : List Value).toArray 28 (0, 0)), Mem.no, M_25] Z := hS'
      clear hs' hS'
      refine wpList_nil ?_
      replace hm : Fr 30 a [(0, v_23), (4, .slice none 0 0), (5, .pointer (some ⟨g_2, 0, none⟩))] := hm.keep [0, 4, 5]
      refine x_then_n ?_
      refine wp_ret (x_then_r ?_)
      have hS' := hS.room
      replace hS : Sep w0 w_29 [N_22, Mem.one g_2 (.cells ([.int .i64 0, .slice none 0 0, .int .i64 (-1)] : List Value).toArray 28 (0, 0)), Mem.no, M_25, Mem.no] Z := hS'
      clear hS'
      have hS' := hS.room
      replace hS : Sep w0 w_29 [N_22, Mem.one g_2 (.cells ([.int .i64 0, .slice none 0 0, .int .i64 (-1)] : List Value).toArray 28 (0, 0)), Mem.no, M_25, Mem.no, Mem.no] Z := hS'
      clear hS'
      replace hS : Sep w0 w_29 [N_22, Mem.one g_2 (.cells ([.int .i64 0, .slice none 0 0, .int .i64 (-1)] : List Value).toArray 28 (0, 0)), Mem.no, M_25, Mem.no, Mem.no] Z := hS
      obtain rfl := Option.some.inj H
      exact f_ret hm (rs := [.tmp 4, .cell 5 28]) rfl (.tmp rfl (.cell rfl (hS.load_agg (p := 1) (us := [.int .i64 0, .slice none 0 0, .int .i64 (-1)]) rfl Try.underlying28 rfl ti28 rfl rfl) .nil)) ⟨_, rfl, .slice none 0 0, .slice none 0 0, N_22, Mem.no, Mem.no, rfl, (Sep.sel hS [0, 4, 5] (by decide)), (Own.nil (Kd.int .i64) 3 Mem.no), (Own.nil Kd.u8 5 Mem.no)⟩
    · rw [if_neg hc_28] at H
      refine c_cond_f hm rfl (beq_eq_false_iff_ne.2 hc_28) ?_
      refine wp_skip ?_
      refine x_then_n (hKJ_27 _ _ ?_)
      refine c_seq fun KJ_32 hKJ_32 => ?_
      refine h_begin (S := fun w => Sep w0 w [N_22, Mem.no, Mem.no, M_25] Z) 7 (by kernel_rfl) rfl [false, false, false, false, false, false, false].toArray rfl hS fun w_33 hS => ?_
      replace hS : Sep w0 w_33 [N_22, Mem.one g_2 (.cells ([.int .i64 0, .slice none 0 0, .int .i64 0] : List Value).toArray 28 (0, 0)), Mem.no, M_25] Z := hS
      refine h_take 0 [true, false, false, false, false, false, false].toArray rfl (by kernel_rfl) (by kernel_rfl) (by kernel_rfl) (fun _ _ _ _ h => h) rfl rfl rfl rfl hm (hS.sub (.cons (Mem.le.refl _) (.cons (Mem.no_le _) (.cons (Mem.no_le _) (.cons (Mem.le.refl _) (Sub.nil _)))))) (v := v_23) (fun w hS => r_move hm rfl) ?_
      clear hm a; intro a hm
      refine h_take 1 [true, true, false, false, false, false, false].toArray rfl (by kernel_rfl) (by kernel_rfl) (by kernel_rfl) (fun _ _ _ _ h => h) rfl rfl rfl rfl hm (hS.sub (.cons (Mem.le.refl _) (.cons (Mem.no_le _) (.cons (Mem.no_le _) (.cons (Mem.le.refl _) (Sub.nil _)))))) (v := v_23) (fun w hS => r_move hm rfl) ?_
      clear hm a; intro a hm
      obtain ⟨t_34, et_34, H⟩ := Option.bind_eq_some_iff.1 H
      refine h_takeE 2 [true, true, true, false, false, false, false].toArray rfl (by kernel_rfl) (by kernel_rfl) (by kernel_rfl) (fun _ _ _ _ h => h) rfl rfl rfl rfl hm (hS.sub (.cons (Mem.le.refl _) (.cons (Mem.no_le _) (.cons (Mem.no_le _) (.cons (Mem.le.refl _) (Sub.nil _)))))) (f := fun ad => .pointer (some ad)) (r_indexO hm Try.underlying22 ti3 rfl rfl rfl hr_24 et_34) ?_
      rintro ad_35 ⟨cs_36, hk_37, hc_38⟩
      obtain rfl := (show cs_36 = [.int .i64 t_34] from hk_37)
      clear hm a; intro a hm
      refine h_take 3 [true, true, true, true, false, false, false].toArray rfl (by kernel_rfl) (by kernel_rfl) (by kernel_rfl) (fun _ _ _ _ h => h) rfl rfl rfl rfl hm (hS.sub (.cons (Mem.le.refl _) (.cons (Mem.no_le _) (.cons (Mem.no_le _) (.cons (Mem.le.refl _) (Sub.nil _)))))) (v := .int .i64 t_34) (fun w hS => r_load hm rfl (el_one (o := 0) (fun j c h => Mem.cell_le (hS.own 3) (hc_38 j c h)) Try.underlying3 rfl rfl)) ?_
      clear hm a; intro a hm
      refine h_take 4 [true, true, true, true, true, false, false].toArray rfl (by kernel_rfl) (by kernel_rfl) (by kernel_rfl) (fun _ _ _ _ h => h) rfl rfl rfl rfl hm (hS.sub (.cons (Mem.le.refl _) (.cons (Mem.no_le _) (.cons (Mem.no_le _) (.cons (Mem.le.refl _) (Sub.nil _)))))) (v := .agg ([.int .i64 0, .slice none 0 0, .int .i64 t_34] : List Value).toArray) (fun w hS => r_build hm ti28 pl28 rfl (.cons rfl .nil) (cs := [.int .i64 0, .slice none 0 0, .int .i64 t_34]) rfl) ?_
      clear hm a; intro a hm
      refine h_take 5 [true, true, true, true, true, true, false].toArray rfl (by kernel_rfl) (by kernel_rfl) (by kernel_rfl) (fun _ _ _ _ h => h) rfl rfl rfl rfl hm (hS.sub (.cons (Mem.le.refl _) (.cons (Mem.no_le _) (.cons (Mem.no_le _) (.cons (Mem.le.refl _) (Sub.nil _)))))) (v := v_23) (fun w hS => r_assign hm rfl) ?_
      clear hm a; intro a hm
      refine h_event 6 [true, true, true, true, true, true, true].toArray rfl (by kernel_rfl) rfl ?_
      obtain ⟨w_39, hs', hS'⟩ := hS.store (P := Try.prog) (p := 1) (o := 0) (t := 28) (v := .agg ([.int .i64 0, .slice none 0 0, .int .i64 t_34] : List Value).toArray) (vs := [.int .i64 0, .slice none 0 0, .int .i64 t_34]) rfl ti28 rfl rfl rfl (by intro u hu; simp only [List.mem_cons, List.not_mem_nil, or_false] at hu; rcases hu with rfl | rfl | rfl <;> rfl)
      refine s_store hm rfl rfl hs' ?_
      replace hS : Sep w0 w_39 [N_22, Mem.one g_2 (.cells ([.int .i64 0, .slice none 0 0, .int .i64 t_34] : List Value).toArray 28 (0, 0)), Mem.no, M_25] Z := hS'
      clear hs' hS'
      refine wpList_nil ?_
      refine x_then_n ⟨(hS.sub (.cons (Mem.le.refl _) (.cons (Mem.no_le _) (.cons (Mem.no_le _) (.cons (Mem.le.refl _) (Sub.nil _)))))), ?_⟩
      refine h_done (by kernel_rfl) ?_
      replace hm : Fr 30 a [(4, v_23), (5, .pointer (some ⟨g_2, 0, none⟩))] := hm.keep [4, 5]
      refine x_then_n (hKJ_32 _ _ ?_)
      refine wp_ret ?_
      have hS' := hS.room
      replace hS : Sep w0 w_39 [N_22, Mem.one g_2 (.cells ([.int .i64 0, .slice none 0 0, .int .i64 t_34] : List Value).toArray 28 (0, 0)), Mem.no, M_25, Mem.no] Z := hS'
      clear hS'
      replace hS : Sep w0 w_39 [N_22, Mem.one g_2 (.cells ([.int .i64 0, .slice none 0 0, .int .i64 t_34] : List Value).toArray 28 (0, 0)), Mem.no, M_25, Mem.no] Z := hS
      obtain rfl := Option.some.inj H
      exact f_ret hm (rs := [.tmp 4, .cell 5 28]) rfl (.tmp rfl (.cell rfl (hS.load_agg (p := 1) (us := [.int .i64 0, .slice none 0 0, .int .i64 t_34]) rfl Try.underlying28 rfl ti28 rfl rfl) .nil)) ⟨_, rfl, v_23, .slice none 0 0, N_22, M_25, Mem.no, rfl, (Sep.sel hS [0, 3, 4] (by decide)), hr_24, (Own.nil Kd.u8 5 Mem.no)⟩

set_option maxHeartbeats 4000000 in
theorem slices_Clip_sint_int.calls (v : Value) (w : World) (hf : ∃ A l c, v = .slice A l c ∧ l ≤ c) : Calls Try.prog 42 [v].toArray w (Ret fun u w' => w = w' ∧ Clipped v u) := by
  obtain ⟨A, l, c, rfl, hlc⟩ := hf
  refine f_enter _ Try.func42 rfl Try.ntmps42 rfl fun a hm => ?_
  replace hm : Fr 9 a [(0, .slice A l c)] := hm
  refine wp_seq ?_
  refine wp_region_lit ?_
  refine s_assign hm rfl rfl ?_
  clear hm a; intro a hm
  refine wpList_nil ?_
  refine x_then_n ?_
  refine wp_seq ?_
  refine wp_region_lit ?_
  refine s_move hm rfl rfl ?_
  clear hm a; intro a hm
  refine s_move hm rfl rfl ?_
  clear hm a; intro a hm
  refine s_lenV hm rfl Try.underlying22 rfl ?_
  clear hm a; intro a hm
  refine s_move hm rfl rfl ?_
  clear hm a; intro a hm
  refine s_lenV hm rfl Try.underlying22 rfl ?_
  clear hm a; intro a hm
  refine s_clip hm rfl Try.underlying22 ti3 rfl rfl rfl hlc ?_
  clear hm a; intro a hm
  refine s_assign hm rfl rfl ?_
  clear hm a; intro a hm
  refine wpList_nil ?_
  refine x_then_n ?_
  refine wp_ret ?_
  exact f_ret hm (rs := [.tmp 2]) rfl (.tmp rfl .nil) ⟨_, rfl, rfl, A, l, c, rfl, rfl⟩

set_option maxHeartbeats 4000000 in
set_option maxRecDepth 20000 in
theorem slices_Contains_sint_int.calls (K : Nat) (x0 : List Int) (p0_0 : Value) (x1 : Int) (r : Bool) (w0 w : World) (Z A : Mem) (hA : A.le Z) (hS : Sep w0 w [] Z) (hp0_0 : Rd (Kd.int .i64) A p0_0 x0)
    (H : slices_Contains_sint_int.f K x0 x1 = some r) :
    Calls Try.prog 43 [p0_0, .int .i64 x1].toArray w (Ret fun v w' => ∃ (N : Mem), v = .bool r ∧ Sep w0 w' [N] Z) := by
  unfold slices_Contains_sint_int.f at H
  refine f_enter _ Try.func43 rfl Try.ntmps43 rfl fun a hm => ?_
  replace hm : Fr 9 a [(0, p0_0), (1, .int .i64 x1)] := hm
  replace hS := hS.start
  replace hS : Sep w0 w [Mem.no] Z := hS
  refine wp_seq ?_
  refine wp_region_lit ?_
  refine s_assign hm rfl rfl ?_
  clear hm a; intro a hm
  refine wpList_nil ?_
  replace hm : Fr 9 a [(0, p0_0), (1, .int .i64 x1), (4, .bool false)] := hm.keep [0, 1, 4]
  refine x_then_n ?_
  refine wp_seq ?_
  refine wp_region_lit ?_
  refine s_move hm rfl rfl ?_
  clear hm a; intro a hm
  refine s_move hm rfl rfl ?_
  clear hm a; intro a hm
  obtain ⟨t_1, et_1, H⟩ := Option.bind_eq_some_iff.1 H
  refine s_call hm rfl Try.call40 rfl (slices_Index_sint_int.calls K x0 _ x1 t_1 w0 _ _ _ (Mem.le.refl _) (hS.enter [] (by decide)) (hp0_0.mono (hA.trans (hS.le_zed []))) et_1) ?_
  rintro _ w_2 ⟨N_3, rfl, hS'⟩
  clear hm a; intro a hm
  obtain ⟨N_4, hS'', le_4, ln_4⟩ := hS.call [] (by decide) rfl (l' := []) (ow := []) rfl hS'
  replace hS : Sep w0 w_2 [N_4] Z := hS''
  clear hS' hS''
  refine s_cmp (b := decide (t_1 ≥ 0)) hm rfl rfl rfl (.inr (.inr (.inr (.inr (.inr ⟨rfl, rfl⟩))))) ?_
  clear hm a; intro a hm
  refine s_assign hm rfl rfl ?_
  clear hm a; intro a hm
  refine wpList_nil ?_
  replace hm : Fr 9 a [(4, .bool (decide (t_1 ≥ 0)))] := hm.keep [4]
  refine x_then_n ?_
  refine wp_ret ?_
  obtain rfl := Option.some.inj H
  exact f_ret hm (rs := [.tmp 4]) rfl (.tmp rfl .nil) ⟨_, rfl, N_4, rfl, (Sep.sel hS [0] (by decide))⟩

set_option maxHeartbeats 4000000 in
set_option maxRecDepth 20000 in
theorem lock_Take.calls (K : Nat) (x0 : List Int) (p0_0 : Value) (x1 : Int) (r : (List Int) × api_Result) (w0 w : World) (Z A : Mem) (hA : A.le Z) (hS : Sep w0 w [] Z) (hp0_0 : Rd (Kd.int .i64) A p0_0 x0)
    (H : lock_Take.f K x0 x1 = some r) :
    Calls Try.prog 13 [p0_0, .int .i64 x1].toArray w (Ret fun v w' => ∃ (u0 : Value) (u1 : Value) (N : Mem) (M0 : Mem) (M1 : Mem), v = .tuple [u0, .agg [.int .i64 r.2.Err, u1, .int .i64 r.2.N].toArray].toArray ∧ Sep w0 w' [N, M0, M1] Z ∧ Own (Kd.int .i64) 3 M0 Mem.no u0 r.1 ∧ Own Kd.u8 5 M1 Mem.no u1 r.2.Val) := by
  unfold lock_Take.f at H
  refine f_enter _ Try.func13 rfl Try.ntmps13 rfl fun a hm => ?_
  replace hm : Fr 28 a [(0, p0_0), (1, .int .i64 x1)] := hm
  replace hS := hS.start
  replace hS : Sep w0 w [Mem.no] Z := hS
  refine wp_seq ?_
  refine wp_region_lit ?_
  refine s_assign hm rfl rfl ?_
  clear hm a; intro a hm
  refine v_alloc hm rfl ti28 hS ?_
  intro w_1 g_2 hS'
  clear hm a; intro a hm
  replace hS : Sep w0 w_1 [Mem.no, Mem.one g_2 (.cells ([.int .i64 0, .slice none 0 0, .int .i64 0] : List Value).toArray 28 (0, 0))] Z := hS'
  clear hS'
  refine wpList_nil ?_
  replace hm : Fr 28 a [(0, p0_0), (1, .int .i64 x1), (4, .slice none 0 0), (5, .pointer (some ⟨g_2, 0, none⟩))] := hm.keep [0, 1, 4, 5]
  refine x_then_n ?_
  refine wp_seq ?_
  refine wp_region_lit ?_
  refine s_move hm rfl rfl ?_
  clear hm a; intro a hm
  obtain ⟨t_3, et_3, H⟩ := Option.bind_eq_some_iff.1 H
  refine s_call hm rfl Try.call39 rfl (slices_Clone_sint_int.calls x0 _ t_3 w0 _ _ _ (Mem.le.refl _) (hS.enter [] (by decide)) (hp0_0.mono (hA.trans (hS.le_zed []))) et_3) ?_
  rintro v_7 w_4 ⟨_, N_5, M_9, rfl, hS', hr_8⟩
  clear hm a; intro a hm
  obtain ⟨N_6, hS'', le_6, ln_6⟩ := hS.call [] (by decide) rfl (l' := []) (ow := [M_9]) rfl hS'
  replace hS : Sep w0 w_4 [N_6, Mem.one g_2 (.cells ([.int .i64 0, .slice none 0 0, .int .i64 0] : List Value).toArray 28 (0, 0)), M_9] Z := hS''
  clear hS' hS''
  refine s_call hm rfl Try.call42 rfl (slices_Clip_sint_int.calls _ _ hr_8.slform) ?_
  rintro v_11 _ ⟨rfl, hk_12⟩
  clear hm a; intro a hm
  refine s_assign hm rfl rfl ?_
  clear hm a; intro a hm
  refine wpList_nil ?_
  replace hm : Fr 28 a [(0, v_11), (1, .int .i64 x1), (4, .slice none 0 0), (5, .pointer (some ⟨g_2, 0, none⟩))] := hm.keep [0, 1, 4, 5]
  refine x_then_n ?_
  refine c_seq fun KJ_14 hKJ_14 => ?_
  refine c_block ?_
  refine wp_seq ?_
  refine wp_region_lit ?_
  refine s_move hm rfl rfl ?_
  clear hm a; intro a hm
  refine s_move hm rfl rfl ?_
  clear hm a; intro a hm
  obtain ⟨t_15, et_15, H⟩ := Option.bind_eq_some_iff.1 H
  refine s_call hm rfl Try.call43 rfl (slices_Contains_sint_int.calls K t_3 _ x1 t_15 w0 _ _ _ (Mem.le.refl _) (hS.enter [] (by decide)) ((hr_8.clip hk_12).rd (hS.own_zed [] 1 (by decide)) (Mem.no_le _)) et_15) ?_
  rintro _ w_16 ⟨N_17, rfl, hS'⟩
  clear hm a; intro a hm
  obtain ⟨N_18, hS'', le_18, ln_18⟩ := hS.call [] (by decide) rfl (l' := []) (ow := []) rfl hS'
  replace hS : Sep w0 w_16 [N_18, Mem.one g_2 (.cells ([.int .i64 0, .slice none 0 0, .int .i64 0] : List Value).toArray 28 (0, 0)), M_9] Z := hS''
  clear hS' hS''
  refine s_assign hm rfl rfl ?_
  clear hm a; intro a hm
  refine wpList_nil ?_
  replace hm : Fr 28 a [(0, v_11), (1, .int .i64 x1), (4, .slice none 0 0), (5, .pointer (some ⟨g_2, 0, none⟩)), (9, .bool t_15)] := hm.keep [0, 1, 4, 5, 9]
  refine x_then_n ?_
  by_cases hc_19 : t_15 = true
  · rw [if_pos hc_19] at H
    refine c_cond_t hm rfl hc_19 ?_
    refine wp_seq ?_
    refine wp_region_lit ?_
    refine s_move hm rfl rfl ?_
    clear hm a; intro a hm
    refine s_build hm rfl ti28 pl28 rfl (.cons rfl .nil) (cs := [.int .i64 6, .slice none 0 0, .int .i64 0]) rfl ?_
    clear hm a; intro a hm
    refine s_assign hm rfl rfl ?_
    clear hm a; intro a hm
    obtain ⟨w_20, hs', hS'⟩ := hS.store (P := Try.prog) (p := 1) (o := 0) (t := 28) (v := .agg ([.int .i64 6, .slice none 0 0, .int .i64 0] : List Value).toArray) (vs := [.int .i64 6, .slice none 0 0, .int .i64 0]) rfl ti28 rfl rfl rfl (by intro u hu; simp only [List.mem_cons, List.not_mem_nil, or_false] at hu; rcases hu with rfl | rfl | rfl <;> rfl)
    refine s_store hm rfl rfl hs' ?_
    replace hS : Sep w0 w_20 [N_18, Mem.one g_2 (.cells ([.int .i64 6, .slice none 0 0, .int .i64 0] : List Value).toArray 28 (0, 0)), M_9] Z := hS'
    clear hs' hS'
    refine wpList_nil ?_
    replace hm : Fr 28 a [(0, v_11), (1, .int .i64 x1), (4, v_11), (5, .pointer (some ⟨g_2, 0, none⟩))] := hm.keep [0, 1, 4, 5]
    refine x_then_n ?_
    refine wp_ret (x_block_r (x_then_r ?_))
    have hS' := hS.room
    replace hS : Sep w0 w_20 [N_18, Mem.one g_2 (.cells ([.int .i64 6, .slice none 0 0, .int .i64 0] : List Value).toArray 28 (0, 0)), M_9, Mem.no] Z := hS'
    clear hS'
    replace hS : Sep w0 w_20 [N_18, Mem.one g_2 (.cells ([.int .i64 6, .slice none 0 0, .int .i64 0] : List Value).toArray 28 (0, 0)), M_9, Mem.no] Z := hS
    obtain rfl := Option.some.inj H
    exact f_ret hm (rs := [.tmp 4, .cell 5 28]) rfl (.tmp rfl (.cell rfl (hS.load_agg (p := 1) (us := [.int .i64 6, .slice none 0 0, .int .i64 0]) rfl Try.underlying28 rfl ti28 rfl rfl) .nil)) ⟨_, rfl, v_11, .slice none 0 0, N_18, M_9, Mem.no, rfl, (Sep.sel hS [0, 2, 3] (by decide)), (hr_8.clip hk_12), (Own.nil Kd.u8 5 Mem.no)⟩
  · rw [if_neg hc_19] at H
    refine c_cond_f hm rfl (Bool.eq_false_iff.2 hc_19) ?_
    refine wp_seq ?_
    refine wp_region_lit ?_
    refine s_move hm rfl rfl ?_
    clear hm a; intro a hm
    refine s_lenO hm rfl Try.underlying22 rfl (hr_8.clip hk_12) ?_
    clear hm a; intro a hm
    refine s_cmp (b := decide ((t_3.length : Int) ≥ 5)) hm rfl rfl rfl (.inr (.inr (.inr (.inr (.inr ⟨rfl, rfl⟩))))) ?_
    clear hm a; intro a hm
    refine s_assign hm rfl rfl ?_
    clear hm a; intro a hm
    refine wpList_nil ?_
    replace hm : Fr 28 a [(0, v_11), (1, .int .i64 x1), (4, .slice none 0 0), (5, .pointer (some ⟨g_2, 0, none⟩)), (15, .bool (decide ((t_3.length : Int) ≥ 5)))] := hm.keep [0, 1, 4, 5, 15]
    refine x_then_n ?_
    by_cases hc_22 : (t_3.length : Int) ≥ 5
    · rw [if_pos hc_22] at H
      refine c_cond_t hm rfl (decide_eq_true hc_22) ?_
      refine wp_seq ?_
      refine wp_region_lit ?_
      refine s_move hm rfl rfl ?_
      clear hm a; intro a hm
      refine s_build hm rfl ti28 pl28 rfl (.cons rfl .nil) (cs := [.int .i64 3, .slice none 0 0, .int .i64 0]) rfl ?_
      clear hm a; intro a hm
      refine s_assign hm rfl rfl ?_
      clear hm a; intro a hm
      obtain ⟨w_23, hs', hS'⟩ := hS.store (P := Try.prog) (p := 1) (o := 0) (t := 28) (v := .agg ([.int .i64 3, .slice none 0 0, .int .i64 0] : List Value).toArray) (vs := [.int .i64 3, .slice none 0 0, .int .i64 0]) rfl ti28 rfl rfl rfl (by intro u hu; simp only [List.mem_cons, List.not_mem_nil, or_false] at hu; rcases hu with rfl | rfl | rfl <;> rfl)
      refine s_store hm rfl rfl hs' ?_
      replace hS : Sep w0 w_23 [N_18, Mem.one g_2 (.cells ([.int .i64 3, .slice none 0 0, .int .i64 0] : List Value).toArray 28 (0, 0)), M_9] Z := hS'
      clear hs' hS'
      refine wpList_nil ?_
      replace hm : Fr 28 a [(0, v_11), (1, .int .i64 x1), (4, v_11), (5, .pointer (some ⟨g_2, 0, none⟩))] := hm.keep [0, 1, 4, 5]
      refine x_then_n ?_
      refine wp_ret (x_block_r (x_then_r ?_))
      have hS' := hS.room
      replace hS : Sep w0 w_23 [N_18, Mem.one g_2 (.cells ([.int .i64 3, .slice none 0 0, .int .i64 0] : List Value).toArray 28 (0, 0)), M_9, Mem.no] Z := hS'
      clear hS'
      replace hS : Sep w0 w_23 [N_18, Mem.one g_2 (.cells ([.int .i64 3, .slice none 0 0, .int .i64 0] : List Value).toArray 28 (0, 0)), M_9, Mem.no] Z := hS
      obtain rfl := Option.some.inj H
      exact f_ret hm (rs := [.tmp 4, .cell 5 28]) rfl (.tmp rfl (.cell rfl (hS.load_agg (p := 1) (us := [.int .i64 3, .slice none 0 0, .int .i64 0]) rfl Try.underlying28 rfl ti28 rfl rfl) .nil)) ⟨_, rfl, v_11, .slice none 0 0, N_18, M_9, Mem.no, rfl, (Sep.sel hS [0, 2, 3] (by decide)), (hr_8.clip hk_12), (Own.nil Kd.u8 5 Mem.no)⟩
    · rw [if_neg hc_22] at H
      refine c_cond_f hm rfl (decide_eq_false hc_22) ?_
      refine wp_skip ?_
      refine x_block_n ?_
      refine x_then_n (hKJ_14 _ _ ?_)
      refine wp_seq ?_
      refine wp_region_lit ?_
      refine s_move hm rfl rfl ?_
      clear hm a; intro a hm
      refine s_move hm rfl rfl ?_
      clear hm a; intro a hm
      have hq_29 : Reps (Kd.int .i64) Mem.no ([x1] : List Int) _ := ((Reps.one (d := (Kd.int .i64)) (x := x1) (show (Kd.int .i64).K _ _ [.int .i64 x1] from rfl)).append (Reps.nil (Kd.int .i64) _))
      refine s_buildSlice hm rfl Try.underlying22 ti3 rfl rfl rfl (.cons rfl .nil) rfl rfl rfl hS hq_29 rfl ?_
      intro w_25 v_26 M_27 hS' ho_28
      clear hm a; intro a hm
      replace hS : Sep w0 w_25 [N_18, Mem.one g_2 (.cells ([.int .i64 0, .slice none 0 0, .int .i64 0] : List Value).toArray 28 (0, 0)), M_9, M_27] Z := hS'
      clear hS' hq_29
      obtain ⟨t_31, et_31, H⟩ := Option.bind_eq_some_iff.1 H
      refine s_append (J := Mem.no) (I' := Mem.no) (p := 2) 17592186044416 hm rfl rfl rfl Try.underlying22 ti3 rfl rfl rfl rfl hS rfl (hr_8.clip hk_12) (Src.flat (flat_int .i64) (ho_28.src (hS.own 3))) (Mem.le.refl _) (Mem.le.refl _) et_31 ?_
      intro w_32 v_33 M_34 hS' ho_35
      clear hm a; intro a hm
      replace hS : Sep w0 w_32 [N_18, Mem.one g_2 (.cells ([.int .i64 0, .slice none 0 0, .int .i64 0] : List Value).toArray 28 (0, 0)), M_34, M_27] Z := hS'
      clear hS'
      refine s_move hm rfl rfl ?_
      clear hm a; intro a hm
      refine s_lenO hm rfl Try.underlying22 rfl (hr_8.clip hk_12) ?_
      clear hm a; intro a hm
      refine s_build hm rfl ti28 pl28 rfl (.cons rfl .nil) (cs := [.int .i64 0, .slice none 0 0, .int .i64 (t_3.length : Int)]) rfl ?_
      clear hm a; intro a hm
      refine s_assign hm rfl rfl ?_
      clear hm a; intro a hm
      obtain ⟨w_37, hs', hS'⟩ := hS.store (P := Try.prog) (p := 1) (o := 0) (t := 28) (v := .agg ([.int .i64 0, .slice none 0 0, .int .i64 (t_3.length : Int)] : List Value).toArray) (vs := [.int .i64 0, .slice none 0 0, .int .i64 (t_3.length : Int)]) rfl ti28 rfl rfl rfl (by intro u hu; simp only [List.mem_cons, List.not_mem_nil, or_false] at hu; rcases hu with rfl | rfl | rfl <;> rfl)
      refine s_store hm rfl rfl hs' ?_
      replace hS : Sep w0 w_37 [N_18, Mem.one g_2 (.cells ([.int .i64 0, .slice none 0 0, .int .i64 (t_3.length : Int)] : List Value).toArray 28 (0, 0)), M_34, M_27] Z := hS'
      clear hs' hS'
      refine wpList_nil ?_
      replace hm : Fr 28 a [(4, v_33), (5, .pointer (some ⟨g_2, 0, none⟩))] := hm.keep [4, 5]
      refine x_then_n ?_
      refine wp_ret ?_
      have hS' := hS.room
      replace hS : Sep w0 w_37 [N_18, Mem.one g_2 (.cells ([.int .i64 0, .slice none 0 0, .int .i64 (t_3.length : Int)] : List Value).toArray 28 (0, 0)), M_34, M_27, Mem.no] Z := hS'
      clear hS'
      replace hS : Sep w0 w_37 [N_18, Mem.one g_2 (.cells ([.int .i64 0, .slice none 0 0, .int .i64 (t_3.length : Int)] : List Value).toArray 28 (0, 0)), M_34, M_27, Mem.no] Z := hS
      obtain rfl := Option.some.inj H
      exact f_ret hm (rs := [.tmp 4, .cell 5 28]) rfl (.tmp rfl (.cell rfl (hS.load_agg (p := 1) (us := [.int .i64 0, .slice none 0 0, .int .i64 (t_3.length : Int)]) rfl Try.underlying28 rfl ti28 rfl rfl) .nil)) ⟨_, rfl, v_33, .slice none 0 0, N_18, M_34, Mem.no, rfl, (Sep.sel hS [0, 2, 4] (by decide)), ho_35, (Own.nil Kd.u8 5 Mem.no)⟩

set_option maxHeartbeats 4000000 in
set_option maxRecDepth 20000 in
theorem hocketref1_SameInts.calls (K : Nat) (x0 : List Int) (p0_0 : Value) (x1 : List Int) (p1_1 : Value) (r : Bool) (w0 w : World) (Z A : Mem) (hA : A.le Z) (hS : Sep w0 w [] Z) (hp0_0 : Rd (Kd.int .i64) A p0_0 x0) (hp1_1 : Rd (Kd.int .i64) A p1_1 x1)
    (H : hocketref1_SameInts.f K x0 x1 = some r) :
    Calls Try.prog 14 [p0_0, p1_1].toArray w (Ret fun v w' => ∃ (N : Mem), v = .bool r ∧ Sep w0 w' [N] Z) := by
  unfold hocketref1_SameInts.f at H
  refine f_enter _ Try.func14 rfl Try.ntmps14 rfl fun a hm => ?_
  replace hm : Fr 26 a [(0, p0_0), (1, p1_1)] := hm
  replace hS := hS.start
  replace hS : Sep w0 w [Mem.no] Z := hS
  refine wp_seq ?_
  refine wp_region_lit ?_
  refine s_assign hm rfl rfl ?_
  clear hm a; intro a hm
  refine wpList_nil ?_
  replace hm : Fr 26 a [(0, p0_0), (1, p1_1), (4, .bool false)] := hm.keep [0, 1, 4]
  refine x_then_n ?_
  refine c_seq fun KJ_1 hKJ_1 => ?_
  refine wp_seq ?_
  refine wp_region_lit ?_
  refine s_move hm rfl rfl ?_
  clear hm a; intro a hm
  refine s_len hm rfl Try.underlying22 rfl hp0_0 ?_
  clear hm a; intro a hm
  refine s_move hm rfl rfl ?_
  clear hm a; intro a hm
  refine s_len hm rfl Try.underlying22 rfl hp1_1 ?_
  clear hm a; intro a hm
  refine s_cmp (b := ((x0.length : Int) != (x1.length : Int))) hm rfl rfl rfl (.inr (.inl ⟨rfl, rfl⟩)) ?_
  clear hm a; intro a hm
  refine wpList_nil ?_
  replace hm : Fr 26 a [(0, p0_0), (1, p1_1), (4, .bool false), (10, .bool ((x0.length : Int) != (x1.length : Int)))] := hm.keep [0, 1, 4, 10]
  refine x_then_n ?_
  by_cases hc_2 : (x0.length : Int) = (x1.length : Int)
  · rw [if_pos hc_2] at H
    refine c_cond_f hm rfl (bne_eq_false_iff_eq.2 hc_2) ?_
    refine wp_skip ?_
    refine x_then_n (hKJ_1 _ _ ?_)
    refine c_seq fun KJ_3 hKJ_3 => ?_
    refine wp_seq ?_
    refine wp_region_lit ?_
    refine s_assign hm rfl rfl ?_
    clear hm a; intro a hm
    refine wpList_nil ?_
    replace hm : Fr 26 a [(0, p0_0), (1, p1_1), (4, .bool false), (5, .int .i64 0)] := hm.keep [0, 1, 4, 5]
    refine x_then_n ?_
    have hJ_j_6 : hocketref1_SameInts.J1 K = some r → ∀ (a : Act) (w_5 : World), (∃ (N_4 : Mem), Fr 26 a [(4, .bool false)] ∧ Sep w0 w_5 [N_4] Z ∧ Mem.no.le N_4) → KJ_3 a w_5 := by
      clear H hm hS a
      rintro H a w_5 ⟨N_4, hm, hS, le_4⟩
      unfold hocketref1_SameInts.J1 at H
      refine hKJ_3 _ _ ?_
      refine wp_seq ?_
      refine wp_region_lit ?_
      refine s_assign hm rfl rfl ?_
      clear hm a; intro a hm
      refine wpList_nil ?_
      replace hm : Fr 26 a [(4, .bool true)] := hm.keep [4]
      refine x_then_n ?_
      refine wp_ret ?_
      obtain rfl := Option.some.inj H
      exact f_ret hm (rs := [.tmp 4]) rfl (.tmp rfl .nil) ⟨_, rfl, N_4, rfl, (Sep.sel hS [0] (by decide))⟩
    clear hKJ_3
    replace hS : Sep w0 w [Mem.no] Z := hS
    replace hm : Fr 26 a [(0, p0_0), (1, p1_1), (4, .bool false), (5, .int .i64 0)] := hm.keep [0, 1, 4, 5]
    refine c_block ?_
    refine c_loop (fun k_9 a w_9 => ∃ (x_8 : Int) (N_7 : Mem), hocketref1_SameInts.L1 K x0 x1 (fun v => hocketref1_SameInts.J1 K) k_9 x_8 = some r ∧ Fr 26 a [(0, p0_0), (1, p1_1), (4, .bool false), (5, .int .i64 x_8)] ∧ Sep w0 w_9 [N_7] Z ∧ Mem.no.le N_7) K ⟨0, Mem.no, H, hm, (Sep.sel hS [0] (by decide)), (Mem.le.refl _)⟩ (fun a w h => by obtain ⟨_, _, H, _⟩ := h; cases (show (none : Option (Bool)) = some r from H)) ?_
    clear hm hS a H
    rintro k_9 a w_9 KL_9 hKL_9 ⟨x_8, N_7, H, hm, hS, le_7⟩
    replace H : hocketref1_SameInts.B1 K x0 x1 (fun v => hocketref1_SameInts.J1 K) (hocketref1_SameInts.L1 K x0 x1 (fun v => hocketref1_SameInts.J1 K) k_9) x_8 = some r := H
    unfold hocketref1_SameInts.B1 at H
    refine c_seq fun KJ_11 hKJ_11 => ?_
    refine wp_seq ?_
    refine wp_region_lit ?_
    refine s_move hm rfl rfl ?_
    clear hm a; intro a hm
    refine s_move hm rfl rfl ?_
    clear hm a; intro a hm
    refine s_len hm rfl Try.underlying22 rfl hp0_0 ?_
    clear hm a; intro a hm
    refine s_cmp (b := decide (x_8 < (x0.length : Int))) hm rfl rfl rfl (.inr (.inr (.inl ⟨rfl, rfl⟩))) ?_
    clear hm a; intro a hm
    refine wpList_nil ?_
    replace hm : Fr 26 a [(0, p0_0), (1, p1_1), (4, .bool false), (5, .int .i64 x_8), (14, .bool (decide (x_8 < (x0.length : Int))))] := hm.keep [0, 1, 4, 5, 14]
    refine x_then_n ?_
    by_cases hc_12 : x_8 < (x0.length : Int)
    · rw [if_pos hc_12] at H
      refine c_cond_t hm rfl (decide_eq_true hc_12) ?_
      refine wp_skip ?_
      refine x_then_n (hKJ_11 _ _ ?_)
      refine c_seq fun KJ_13 hKJ_13 => ?_
      refine c_block ?_
      refine c_seq fun KJ_14 hKJ_14 => ?_
      refine h_begin (S := fun w => Sep w0 w [N_7] Z) 9 (by kernel_rfl) rfl [false, false, false, false, false, false, false, false, false].toArray rfl hS fun w_15 hS => ?_
      replace hS : Sep w0 w_15 [N_7] Z := hS
      refine h_take 0 [true, false, false, false, false, false, false, false, false].toArray rfl (by kernel_rfl) (by kernel_rfl) (by kernel_rfl) (fun _ _ _ _ h => h) rfl rfl rfl rfl hm (hS.sub (.cons (Mem.le.refl _) (Sub.nil _))) (v := p0_0) (fun w hS => r_move hm rfl) ?_
      clear hm a; intro a hm
      refine h_take 1 [true, true, false, false, false, false, false, false, false].toArray rfl (by kernel_rfl) (by kernel_rfl) (by kernel_rfl) (fun _ _ _ _ h => h) rfl rfl rfl rfl hm (hS.sub (.cons (Mem.le.refl _) (Sub.nil _))) (v := .int .i64 x_8) (fun w hS => r_move hm rfl) ?_
      clear hm a; intro a hm
      obtain ⟨t_16, et_16, H⟩ := Option.bind_eq_some_iff.1 H
      refine h_takeE 2 [true, true, true, false, false, false, false, false, false].toArray rfl (by kernel_rfl) (by kernel_rfl) (by kernel_rfl) (fun _ _ _ _ h => h) rfl rfl rfl rfl hm (hS.sub (.cons (Mem.le.refl _) (Sub.nil _))) (f := fun ad => .pointer (some ad)) (r_index hm Try.underlying22 ti3 rfl rfl rfl hp0_0 et_16) ?_
      rintro ad_17 ⟨cs_18, hk_19, hc_20⟩
      obtain rfl := (show cs_18 = [.int .i64 t_16] from hk_19)
      clear hm a; intro a hm
      refine h_take 3 [true, true, true, true, false, false, false, false, false].toArray rfl (by kernel_rfl) (by kernel_rfl) (by kernel_rfl) (fun _ _ _ _ h => h) rfl rfl rfl rfl hm (hS.sub (.cons (Mem.le.refl _) (Sub.nil _))) (v := .int .i64 t_16) (fun w hS => r_load hm rfl (el_one (o := 0) (fun j c h => Mem.cell_le (hA.trans hS.old) (hc_20 j c h)) Try.underlying3 rfl rfl)) ?_
      clear hm a; intro a hm
      refine h_take 4 [true, true, true, true, true, false, false, false, false].toArray rfl (by kernel_rfl) (by kernel_rfl) (by kernel_rfl) (fun _ _ _ _ h => h) rfl rfl rfl rfl hm (hS.sub (.cons (Mem.le.refl _) (Sub.nil _))) (v := p1_1) (fun w hS => r_move hm rfl) ?_
      clear hm a; intro a hm
      refine h_take 5 [true, true, true, true, true, true, false, false, false].toArray rfl (by kernel_rfl) (by kernel_rfl) (by kernel_rfl) (fun _ _ _ _ h => h) rfl rfl rfl rfl hm (hS.sub (.cons (Mem.le.refl _) (Sub.nil _))) (v := .int .i64 x_8) (fun w hS => r_move hm rfl) ?_
      clear hm a; intro a hm
      obtain ⟨t_21, et_21, H⟩ := Option.bind_eq_some_iff.1 H
      refine h_takeE 6 [true, true, true, true, true, true, true, false, false].toArray rfl (by kernel_rfl) (by kernel_rfl) (by kernel_rfl) (fun _ _ _ _ h => h) rfl rfl rfl rfl hm (hS.sub (.cons (Mem.le.refl _) (Sub.nil _))) (f := fun ad => .pointer (some ad)) (r_index hm Try.underlying22 ti3 rfl rfl rfl hp1_1 et_21) ?_
      rintro ad_22 ⟨cs_23, hk_24, hc_25⟩
      obtain rfl := (show cs_23 = [.int .i64 t_21] from hk_24)
      clear hm a; intro a hm
      refine h_take 7 [true, true, true, true, true, true, true, true, false].toArray rfl (by kernel_rfl) (by kernel_rfl) (by kernel_rfl) (fun _ _ _ _ h => h) rfl rfl rfl rfl hm (hS.sub (.cons (Mem.le.refl _) (Sub.nil _))) (v := .int .i64 t_21) (fun w hS => r_load hm rfl (el_one (o := 0) (fun j c h => Mem.cell_le (hA.trans hS.old) (hc_25 j c h)) Try.underlying3 rfl rfl)) ?_
      clear hm a; intro a hm
      refine h_take 8 [true, true, true, true, true, true, true, true, true].toArray rfl (by kernel_rfl) (by kernel_rfl) (by kernel_rfl) (fun _ _ _ _ h => h) rfl rfl rfl rfl hm (hS.sub (.cons (Mem.le.refl _) (Sub.nil _))) (v := .bool (t_16 != t_21)) (fun w hS => r_cmp (b := (t_16 != t_21)) hm rfl rfl (.inr (.inl ⟨rfl, rfl⟩))) ?_
      clear hm a; intro a hm
      refine h_done (by kernel_rfl) ?_
      replace hm : Fr 26 a [(0, p0_0), (1, p1_1), (4, .bool false), (5, .int .i64 x_8), (25, .bool (t_16 != t_21))] := hm.keep [0, 1, 4, 5, 25]
      refine x_then_n (hKJ_14 _ _ ?_)
      by_cases hc_26 : t_16 = t_21
      · rw [if_pos hc_26] at H
        refine c_cond_f hm rfl (bne_eq_false_iff_eq.2 hc_26) ?_
        refine wp_skip ?_
        refine x_block_n ?_
        refine x_then_n (hKJ_13 _ _ ?_)
        refine wp_region_lit ?_
        refine s_move hm rfl rfl ?_
        clear hm a; intro a hm
        refine s_arith (r := w64 (x_8 + 1)) hm rfl rfl rfl (.inl ⟨rfl, rfl⟩) ?_
        clear hm a; intro a hm
        refine s_assign hm rfl rfl ?_
        clear hm a; intro a hm
        refine wpList_nil ?_
        replace hm : Fr 26 a [(0, p0_0), (1, p1_1), (4, .bool false), (5, .int .i64 (w64 (x_8 + 1)))] := hm.keep [0, 1, 4, 5]
        refine x_then_n (hKL_9 _ _ ?_)
        replace hS : Sep w0 w_15 [N_7] Z := hS
        replace hm : Fr 26 a [(0, p0_0), (1, p1_1), (4, .bool false), (5, .int .i64 (w64 (x_8 + 1)))] := hm.keep [0, 1, 4, 5]
        exact ⟨w64 (x_8 + 1), N_7, H, hm, (Sep.sel hS [0] (by decide)), le_7⟩
      · rw [if_neg hc_26] at H
        refine c_cond_t hm rfl (bne_iff_ne.2 hc_26) ?_
        refine wp_seq ?_
        refine wp_region_lit ?_
        refine s_assign hm rfl rfl ?_
        clear hm a; intro a hm
        refine wpList_nil ?_
        replace hm : Fr 26 a [(0, p0_0), (1, p1_1), (4, .bool false), (5, .int .i64 x_8)] := hm.keep [0, 1, 4, 5]
        refine x_then_n ?_
        refine wp_ret (x_block_r (x_then_r (x_then_r (x_block_r (x_then_r ?_)))))
        obtain rfl := Option.some.inj H
        exact f_ret hm (rs := [.tmp 4]) rfl (.tmp rfl .nil) ⟨_, rfl, N_7, rfl, (Sep.sel hS [0] (by decide))⟩
    · rw [if_neg hc_12] at H
      refine c_cond_f hm rfl (decide_eq_false hc_12) ?_
      refine wp_exit (x_then_x (x_then_x (x_block_t ?_)))
      replace hS : Sep w0 w_9 [N_7] Z := hS
      replace hm : Fr 26 a [(4, .bool false)] := hm.keep [4]
      exact x_then_n (hJ_j_6  H _ _ ⟨N_7, hm, (Sep.sel hS [0] (by decide)), le_7⟩)
  · rw [if_neg hc_2] at H
    refine c_cond_t hm rfl (bne_iff_ne.2 hc_2) ?_
    refine wp_seq ?_
    refine wp_region_lit ?_
    refine s_assign hm rfl rfl ?_
    clear hm a; intro a hm
    refine wpList_nil ?_
    replace hm : Fr 26 a [(0, p0_0), (1, p1_1), (4, .bool false)] := hm.keep [0, 1, 4]
    refine x_then_n ?_
    refine wp_ret (x_then_r ?_)
    obtain rfl := Option.some.inj H
    exact f_ret hm (rs := [.tmp 4]) rfl (.tmp rfl .nil) ⟨_, rfl, Mem.no, rfl, (Sep.sel hS [0] (by decide))⟩

set_option maxHeartbeats 4000000 in
set_option maxRecDepth 20000 in
theorem lock_Owner.calls (x0 : List Int) (p0_0 : Value) (r : api_Result) (w0 w : World) (Z A : Mem) (hA : A.le Z) (hS : Sep w0 w [] Z) (hp0_0 : Rd (Kd.int .i64) A p0_0 x0)
    (H : lock_Owner.f x0 = some r) :
    Calls Try.prog 16 [p0_0].toArray w (Ret fun v w' => ∃ (u0 : Value) (N : Mem) (M0 : Mem), v = .agg [.int .i64 r.Err, u0, .int .i64 r.N].toArray ∧ Sep w0 w' [N, M0] Z ∧ Own Kd.u8 5 M0 Mem.no u0 r.Val) := by
  unfold lock_Owner.f at H
  refine f_enter _ Try.func16 rfl Try.ntmps16 rfl fun a hm => ?_
  replace hm : Fr 11 a [(0, p0_0)] := hm
  replace hS := hS.start
  replace hS : Sep w0 w [Mem.no] Z := hS
  refine wp_seq ?_
  refine wp_region_lit ?_
  refine v_alloc hm rfl ti28 hS ?_
  intro w_1 g_2 hS'
  clear hm a; intro a hm
  replace hS : Sep w0 w_1 [Mem.no, Mem.one g_2 (.cells ([.int .i64 0, .slice none 0 0, .int .i64 0] : List Value).toArray 28 (0, 0))] Z := hS'
  clear hS'
  refine wpList_nil ?_
  replace hm : Fr 11 a [(0, p0_0), (2, .pointer (some ⟨g_2, 0, none⟩))] := hm.keep [0, 2]
  refine x_then_n ?_
  refine c_seq fun KJ_3 hKJ_3 => ?_
  refine wp_seq ?_
  refine wp_region_lit ?_
  refine s_move hm rfl rfl ?_
  clear hm a; intro a hm
  refine s_len hm rfl Try.underlying22 rfl hp0_0 ?_
  clear hm a; intro a hm
  refine s_cmp (b := ((x0.length : Int) == 0)) hm rfl rfl rfl (.inl ⟨rfl, rfl⟩) ?_
  clear hm a; intro a hm
  refine wpList_nil ?_
  replace hm : Fr 11 a [(0, p0_0), (2, .pointer (some ⟨g_2, 0, none⟩)), (5, .bool ((x0.length : Int) == 0))] := hm.keep [0, 2, 5]
  refine x_then_n ?_
  by_cases hc_4 : (x0.length : Int) = 0
  · rw [if_pos hc_4] at H
    refine c_cond_t hm rfl (beq_iff_eq.2 hc_4) ?_
    refine wp_seq ?_
    refine wp_region_lit ?_
    refine s_build hm rfl ti28 pl28 rfl (.cons rfl .nil) (cs := [.int .i64 5, .slice none 0 0, .int .i64 0]) rfl ?_
    clear hm a; intro a hm
    obtain ⟨w_5, hs', hS'⟩ := hS.store (P := Try.prog) (p := 1) (o := 0) (t := 28) (v := .agg ([.int .i64 5, .slice none 0 0, .int .i64 0] : List Value).toArray) (vs := [.int .i64 5, .slice none 0 0, .int .i64 0]) rfl ti28 rfl rfl rfl (by intro u hu; simp only [List.mem_cons, List.not_mem_nil, or_false] at hu; rcases hu with rfl | rfl | rfl <;> rfl)
    refine s_store hm rfl rfl hs' ?_
    replace hS : Sep w0 w_5 [Mem.no, Mem.one g_2 (.cells ([.int .i64 5, .slice none 0 0, .int .i64 0] : List Value).toArray 28 (0, 0))] Z := hS'
    clear hs' hS'
    refine wpList_nil ?_
    replace hm : Fr 11 a [(0, p0_0), (2, .pointer (some ⟨g_2, 0, none⟩))] := hm.keep [0, 2]
    refine x_then_n ?_
    refine wp_ret (x_then_r ?_)
    have hS' := hS.room
    replace hS : Sep w0 w_5 [Mem.no, Mem.one g_2 (.cells ([.int .i64 5, .slice none 0 0, .int .i64 0] : List Value).toArray 28 (0, 0)), Mem.no] Z := hS'
    clear hS'
    replace hS : Sep w0 w_5 [Mem.no, Mem.one g_2 (.cells ([.int .i64 5, .slice none 0 0, .int .i64 0] : List Value).toArray 28 (0, 0)), Mem.no] Z := hS
    obtain rfl := Option.some.inj H
    exact f_ret hm (rs := [.cell 2 28]) rfl (.cell rfl (hS.load_agg (p := 1) (us := [.int .i64 5, .slice none 0 0, .int .i64 0]) rfl Try.underlying28 rfl ti28 rfl rfl) .nil) ⟨_, rfl, .slice none 0 0, Mem.no, Mem.no, rfl, (Sep.sel hS [0, 2] (by decide)), (Own.nil Kd.u8 5 Mem.no)⟩
  · rw [if_neg hc_4] at H
    refine c_cond_f hm rfl (beq_eq_false_iff_ne.2 hc_4) ?_
    refine wp_skip ?_
    refine x_then_n (hKJ_3 _ _ ?_)
    refine wp_seq ?_
    refine wp_region_lit ?_
    refine s_move hm rfl rfl ?_
    clear hm a; intro a hm
    obtain ⟨t_7, et_7, H⟩ := Option.bind_eq_some_iff.1 H
    refine v_index hm rfl Try.underlying22 ti3 rfl rfl rfl hp0_0 (hA.trans hS.old) et_7 ?_
    intro ad_8 cs_9 hk_10 hc_11
    obtain rfl := (show cs_9 = [.int .i64 t_7] from hk_10)
    clear hm a; intro a hm
    refine s_load hm rfl rfl (el_one (o := 0) hc_11 Try.underlying3 rfl rfl) ?_
    clear hm a; intro a hm
    refine s_build hm rfl ti28 pl28 rfl (.cons rfl .nil) (cs := [.int .i64 0, .slice none 0 0, .int .i64 t_7]) rfl ?_
    clear hm a; intro a hm
    obtain ⟨w_12, hs', hS'⟩ := hS.store (P := Try.prog) (p := 1) (o := 0) (t := 28) (v := .agg ([.int .i64 0, .slice none 0 0, .int .i64 t_7] : List Value).toArray) (vs := [.int .i64 0, .slice none 0 0, .int .i64 t_7]) rfl ti28 rfl rfl rfl (by intro u hu; simp only [List.mem_cons, List.not_mem_nil, or_false] at hu; rcases hu with rfl | rfl | rfl <;> rfl)
    refine s_store hm rfl rfl hs' ?_
    replace hS : Sep w0 w_12 [Mem.no, Mem.one g_2 (.cells ([.int .i64 0, .slice none 0 0, .int .i64 t_7] : List Value).toArray 28 (0, 0))] Z := hS'
    clear hs' hS'
    refine wpList_nil ?_
    replace hm : Fr 11 a [(2, .pointer (some ⟨g_2, 0, none⟩))] := hm.keep [2]
    refine x_then_n ?_
    refine wp_ret ?_
    have hS' := hS.room
    replace hS : Sep w0 w_12 [Mem.no, Mem.one g_2 (.cells ([.int .i64 0, .slice none 0 0, .int .i64 t_7] : List Value).toArray 28 (0, 0)), Mem.no] Z := hS'
    clear hS'
    replace hS : Sep w0 w_12 [Mem.no, Mem.one g_2 (.cells ([.int .i64 0, .slice none 0 0, .int .i64 t_7] : List Value).toArray 28 (0, 0)), Mem.no] Z := hS
    obtain rfl := Option.some.inj H
    exact f_ret hm (rs := [.cell 2 28]) rfl (.cell rfl (hS.load_agg (p := 1) (us := [.int .i64 0, .slice none 0 0, .int .i64 t_7]) rfl Try.underlying28 rfl ti28 rfl rfl) .nil) ⟨_, rfl, .slice none 0 0, Mem.no, Mem.no, rfl, (Sep.sel hS [0, 2] (by decide)), (Own.nil Kd.u8 5 Mem.no)⟩

set_option maxHeartbeats 4000000 in
set_option maxRecDepth 20000 in
theorem hocketlaw6_awake.calls (K : Nat) (r : Unit) (w0 w : World) (Z A : Mem) (hA : A.le Z) (hS : Sep w0 w [] Z)
    (H : hocketlaw6_awake.f K = some r) :
    Calls Try.prog 15 [].toArray w (Ret fun v w' => ∃ (N : Mem), v = .bool true ∧ Sep w0 w' [N] Z) := by
  unfold hocketlaw6_awake.f at H
  refine f_enter _ Try.func15 rfl Try.ntmps15 rfl fun a hm => ?_
  replace hm : Fr 61 a [] := hm
  replace hS := hS.start
  replace hS : Sep w0 w [Mem.no] Z := hS
  refine wp_seq ?_
  refine wp_region_lit ?_
  refine s_assign hm rfl rfl ?_
  clear hm a; intro a hm
  refine wpList_nil ?_
  replace hm : Fr 61 a [(0, .bool false)] := hm.keep [0]
  refine x_then_n ?_
  refine wp_seq ?_
  refine wp_region_lit ?_
  obtain ⟨t_1, et_1, H⟩ := Option.bind_eq_some_iff.1 H
  refine s_call hm rfl Try.call13 rfl (lock_Take.calls K ([] : List Int) _ 7 t_1 w0 _ _ _ (Mem.le.refl _) (hS.enter [] (by decide)) (Rd.nil _ _) et_1) ?_
  rintro _ w_2 ⟨v_5, v_9, N_3, M_7, M_11, rfl, hS', hr_6, hr_10⟩
  clear hm a; intro a hm
  obtain ⟨N_4, hS'', le_4, ln_4⟩ := hS.call [] (by decide) rfl (l' := []) (ow := [M_7, M_11]) rfl hS'
  replace hS : Sep w0 w_2 [N_4, M_7, M_11] Z := hS''
  clear hS' hS''
  refine s_move hm rfl rfl ?_
  clear hm a; intro a hm
  refine s_extract hm rfl rfl rfl ?_
  clear hm a; intro a hm
  refine s_extract hm rfl rfl rfl ?_
  clear hm a; intro a hm
  refine v_alloc hm rfl ti28 hS ?_
  intro w_13 g_14 hS'
  clear hm a; intro a hm
  replace hS : Sep w0 w_13 [N_4, M_7, M_11, Mem.one g_14 (.cells ([.int .i64 0, .slice none 0 0, .int .i64 0] : List Value).toArray 28 (0, 0))] Z := hS'
  clear hS'
  refine s_assign hm rfl rfl ?_
  clear hm a; intro a hm
  obtain ⟨w_15, hs', hS'⟩ := hS.store (P := Try.prog) (p := 3) (o := 0) (t := 28) (v := .agg ([.int .i64 t_1.2.Err, v_9, .int .i64 t_1.2.N] : List Value).toArray) (vs := [.int .i64 t_1.2.Err, v_9, .int .i64 t_1.2.N]) rfl ti28 rfl rfl rfl (by intro u hu; simp only [List.mem_cons, List.not_mem_nil, or_false] at hu; rcases hu with rfl | rfl | rfl <;> first | rfl | exact hr_10.one)
  refine s_store hm rfl rfl hs' ?_
  replace hS : Sep w0 w_15 [N_4, M_7, M_11, Mem.one g_14 (.cells ([.int .i64 t_1.2.Err, v_9, .int .i64 t_1.2.N] : List Value).toArray 28 (0, 0))] Z := hS'
  clear hs' hS'
  refine wpList_nil ?_
  replace hm : Fr 61 a [(0, .bool false), (1, v_5), (2, .pointer (some ⟨g_14, 0, none⟩))] := hm.keep [0, 1, 2]
  refine x_then_n ?_
  refine wp_seq ?_
  refine wp_region_lit ?_
  refine s_move hm rfl rfl ?_
  clear hm a; intro a hm
  obtain ⟨t_16, et_16, H⟩ := Option.bind_eq_some_iff.1 H
  refine s_call hm rfl Try.call13 rfl (lock_Take.calls K t_1.1 _ 3 t_16 w0 _ _ _ (Mem.le.refl _) (hS.enter [] (by decide)) (hr_6.rd (hS.own_zed [] 0 (by decide)) (Mem.no_le _)) et_16) ?_
  rintro _ w_17 ⟨v_20, v_24, N_18, M_22, M_26, rfl, hS', hr_21, hr_25⟩
  clear hm a; intro a hm
  obtain ⟨N_19, hS'', le_19, ln_19⟩ := hS.call [] (by decide) rfl (l' := []) (ow := [M_22, M_26]) rfl hS'
  replace hS : Sep w0 w_17 [N_19, M_7, M_11, Mem.one g_14 (.cells ([.int .i64 t_1.2.Err, v_9, .int .i64 t_1.2.N] : List Value).toArray 28 (0, 0)), M_22, M_26] Z := hS''
  clear hS' hS''
  refine s_move hm rfl rfl ?_
  clear hm a; intro a hm
  refine s_extract hm rfl rfl rfl ?_
  clear hm a; intro a hm
  refine s_extract hm rfl rfl rfl ?_
  clear hm a; intro a hm
  refine v_alloc hm rfl ti28 hS ?_
  intro w_28 g_29 hS'
  clear hm a; intro a hm
  replace hS : Sep w0 w_28 [N_19, M_7, M_11, Mem.one g_14 (.cells ([.int .i64 t_1.2.Err, v_9, .int .i64 t_1.2.N] : List Value).toArray 28 (0, 0)), M_22, M_26, Mem.one g_29 (.cells ([.int .i64 0, .slice none 0 0, .int .i64 0] : List Value).toArray 28 (0, 0))] Z := hS'
  clear hS'
  refine s_assign hm rfl rfl ?_
  clear hm a; intro a hm
  obtain ⟨w_30, hs', hS'⟩ := hS.store (P := Try.prog) (p := 6) (o := 0) (t := 28) (v := .agg ([.int .i64 t_16.2.Err, v_24, .int .i64 t_16.2.N] : List Value).toArray) (vs := [.int .i64 t_16.2.Err, v_24, .int .i64 t_16.2.N]) rfl ti28 rfl rfl rfl (by intro u hu; simp only [List.mem_cons, List.not_mem_nil, or_false] at hu; rcases hu with rfl | rfl | rfl <;> first | rfl | exact hr_25.one)
  refine s_store hm rfl rfl hs' ?_
  replace hS : Sep w0 w_30 [N_19, M_7, M_11, Mem.one g_14 (.cells ([.int .i64 t_1.2.Err, v_9, .int .i64 t_1.2.N] : List Value).toArray 28 (0, 0)), M_22, M_26, Mem.one g_29 (.cells ([.int .i64 t_16.2.Err, v_24, .int .i64 t_16.2.N] : List Value).toArray 28 (0, 0))] Z := hS'
  clear hs' hS'
  refine wpList_nil ?_
  replace hm : Fr 61 a [(0, .bool false), (1, v_20), (2, .pointer (some ⟨g_14, 0, none⟩)), (3, .pointer (some ⟨g_29, 0, none⟩))] := hm.keep [0, 1, 2, 3]
  refine x_then_n ?_
  refine wp_seq ?_
  refine wp_region_lit ?_
  refine s_move hm rfl rfl ?_
  clear hm a; intro a hm
  obtain ⟨t_31, et_31, H⟩ := Option.bind_eq_some_iff.1 H
  refine s_call hm rfl Try.call13 rfl (lock_Take.calls K t_16.1 _ 7 t_31 w0 _ _ _ (Mem.le.refl _) (hS.enter [] (by decide)) (hr_21.rd (hS.own_zed [] 3 (by decide)) (Mem.no_le _)) et_31) ?_
  rintro _ w_32 ⟨v_35, v_39, N_33, M_37, M_41, rfl, hS', hr_36, hr_40⟩
  clear hm a; intro a hm
  obtain ⟨N_34, hS'', le_34, ln_34⟩ := hS.call [] (by decide) rfl (l' := []) (ow := [M_37, M_41]) rfl hS'
  replace hS : Sep w0 w_32 [N_34, M_7, M_11, Mem.one g_14 (.cells ([.int .i64 t_1.2.Err, v_9, .int .i64 t_1.2.N] : List Value).toArray 28 (0, 0)), M_22, M_26, Mem.one g_29 (.cells ([.int .i64 t_16.2.Err, v_24, .int .i64 t_16.2.N] : List Value).toArray 28 (0, 0)), M_37, M_41] Z := hS''
  clear hS' hS''
  refine s_move hm rfl rfl ?_
  clear hm a; intro a hm
  refine s_extract hm rfl rfl rfl ?_
  clear hm a; intro a hm
  refine s_extract hm rfl rfl rfl ?_
  clear hm a; intro a hm
  refine v_alloc hm rfl ti28 hS ?_
  intro w_43 g_44 hS'
  clear hm a; intro a hm
  replace hS : Sep w0 w_43 [N_34, M_7, M_11, Mem.one g_14 (.cells ([.int .i64 t_1.2.Err, v_9, .int .i64 t_1.2.N] : List Value).toArray 28 (0, 0)), M_22, M_26, Mem.one g_29 (.cells ([.int .i64 t_16.2.Err, v_24, .int .i64 t_16.2.N] : List Value).toArray 28 (0, 0)), M_37, M_41, Mem.one g_44 (.cells ([.int .i64 0, .slice none 0 0, .int .i64 0] : List Value).toArray 28 (0, 0))] Z := hS'
  clear hS'
  refine s_assign hm rfl rfl ?_
  clear hm a; intro a hm
  obtain ⟨w_45, hs', hS'⟩ := hS.store (P := Try.prog) (p := 9) (o := 0) (t := 28) (v := .agg ([.int .i64 t_31.2.Err, v_39, .int .i64 t_31.2.N] : List Value).toArray) (vs := [.int .i64 t_31.2.Err, v_39, .int .i64 t_31.2.N]) rfl ti28 rfl rfl rfl (by intro u hu; simp only [List.mem_cons, List.not_mem_nil, or_false] at hu; rcases hu with rfl | rfl | rfl <;> first | rfl | exact hr_40.one)
  refine s_store hm rfl rfl hs' ?_
  replace hS : Sep w0 w_45 [N_34, M_7, M_11, Mem.one g_14 (.cells ([.int .i64 t_1.2.Err, v_9, .int .i64 t_1.2.N] : List Value).toArray 28 (0, 0)), M_22, M_26, Mem.one g_29 (.cells ([.int .i64 t_16.2.Err, v_24, .int .i64 t_16.2.N] : List Value).toArray 28 (0, 0)), M_37, M_41, Mem.one g_44 (.cells ([.int .i64 t_31.2.Err, v_39, .int .i64 t_31.2.N] : List Value).toArray 28 (0, 0))] Z := hS'
  clear hs' hS'
  refine wpList_nil ?_
  replace hm : Fr 61 a [(0, .bool false), (1, v_20), (2, .pointer (some ⟨g_14, 0, none⟩)), (3, .pointer (some ⟨g_29, 0, none⟩)), (5, .pointer (some ⟨g_44, 0, none⟩))] := hm.keep [0, 1, 2, 3, 5]
  refine x_then_n ?_
  refine wp_seq ?_
  refine wp_region_lit ?_
  refine s_move hm rfl rfl ?_
  clear hm a; intro a hm
  obtain ⟨t_46, et_46, H⟩ := Option.bind_eq_some_iff.1 H
  refine s_call hm rfl Try.call12 rfl (lock_Free.calls K t_16.1 _ 7 t_46 w0 _ _ _ (Mem.le.refl _) (hS.enter [] (by decide)) (hr_21.rd (hS.own_zed [] 3 (by decide)) (Mem.no_le _)) et_46) ?_
  rintro _ w_47 ⟨v_50, v_54, N_48, M_52, M_56, rfl, hS', hr_51, hr_55⟩
  clear hm a; intro a hm
  obtain ⟨N_49, hS'', le_49, ln_49⟩ := hS.call [] (by decide) rfl (l' := []) (ow := [M_52, M_56]) rfl hS'
  replace hS : Sep w0 w_47 [N_49, M_7, M_11, Mem.one g_14 (.cells ([.int .i64 t_1.2.Err, v_9, .int .i64 t_1.2.N] : List Value).toArray 28 (0, 0)), M_22, M_26, Mem.one g_29 (.cells ([.int .i64 t_16.2.Err, v_24, .int .i64 t_16.2.N] : List Value).toArray 28 (0, 0)), M_37, M_41, Mem.one g_44 (.cells ([.int .i64 t_31.2.Err, v_39, .int .i64 t_31.2.N] : List Value).toArray 28 (0, 0)), M_52, M_56] Z := hS''
  clear hS' hS''
  refine s_move hm rfl rfl ?_
  clear hm a; intro a hm
  refine s_extract hm rfl rfl rfl ?_
  clear hm a; intro a hm
  refine s_extract hm rfl rfl rfl ?_
  clear hm a; intro a hm
  refine v_alloc hm rfl ti28 hS ?_
  intro w_58 g_59 hS'
  clear hm a; intro a hm
  replace hS : Sep w0 w_58 [N_49, M_7, M_11, Mem.one g_14 (.cells ([.int .i64 t_1.2.Err, v_9, .int .i64 t_1.2.N] : List Value).toArray 28 (0, 0)), M_22, M_26, Mem.one g_29 (.cells ([.int .i64 t_16.2.Err, v_24, .int .i64 t_16.2.N] : List Value).toArray 28 (0, 0)), M_37, M_41, Mem.one g_44 (.cells ([.int .i64 t_31.2.Err, v_39, .int .i64 t_31.2.N] : List Value).toArray 28 (0, 0)), M_52, M_56, Mem.one g_59 (.cells ([.int .i64 0, .slice none 0 0, .int .i64 0] : List Value).toArray 28 (0, 0))] Z := hS'
  clear hS'
  refine s_assign hm rfl rfl ?_
  clear hm a; intro a hm
  obtain ⟨w_60, hs', hS'⟩ := hS.store (P := Try.prog) (p := 12) (o := 0) (t := 28) (v := .agg ([.int .i64 t_46.2.Err, v_54, .int .i64 t_46.2.N] : List Value).toArray) (vs := [.int .i64 t_46.2.Err, v_54, .int .i64 t_46.2.N]) rfl ti28 rfl rfl rfl (by intro u hu; simp only [List.mem_cons, List.not_mem_nil, or_false] at hu; rcases hu with rfl | rfl | rfl <;> first | rfl | exact hr_55.one)
  refine s_store hm rfl rfl hs' ?_
  replace hS : Sep w0 w_60 [N_49, M_7, M_11, Mem.one g_14 (.cells ([.int .i64 t_1.2.Err, v_9, .int .i64 t_1.2.N] : List Value).toArray 28 (0, 0)), M_22, M_26, Mem.one g_29 (.cells ([.int .i64 t_16.2.Err, v_24, .int .i64 t_16.2.N] : List Value).toArray 28 (0, 0)), M_37, M_41, Mem.one g_44 (.cells ([.int .i64 t_31.2.Err, v_39, .int .i64 t_31.2.N] : List Value).toArray 28 (0, 0)), M_52, M_56, Mem.one g_59 (.cells ([.int .i64 t_46.2.Err, v_54, .int .i64 t_46.2.N] : List Value).toArray 28 (0, 0))] Z := hS'
  clear hs' hS'
  refine wpList_nil ?_
  replace hm : Fr 61 a [(0, .bool false), (2, .pointer (some ⟨g_14, 0, none⟩)), (3, .pointer (some ⟨g_29, 0, none⟩)), (5, .pointer (some ⟨g_44, 0, none⟩)), (6, v_50), (7, .pointer (some ⟨g_59, 0, none⟩))] := hm.keep [0, 2, 3, 5, 6, 7]
  refine x_then_n ?_
  refine c_seq fun KJ_61 hKJ_61 => ?_
  refine wp_region_lit ?_
  refine s_fieldAddr hm rfl Try.underlying28 rfl ti3 rfl rfl ?_
  clear hm a; intro a hm
  refine s_load hm rfl rfl (hS.load_one (p := 3) rfl Try.underlying3 rfl rfl) ?_
  clear hm a; intro a hm
  refine s_cmp (b := (t_1.2.N == 0)) hm rfl rfl rfl (.inl ⟨rfl, rfl⟩) ?_
  clear hm a; intro a hm
  refine s_move hm rfl rfl ?_
  clear hm a; intro a hm
  by_cases hc_62 : t_1.2.N = 0
  · rw [if_pos hc_62] at H
    refine s_on hm rfl rfl (beq_iff_eq.2 hc_62) ?_
    refine s_fieldAddr hm rfl Try.underlying28 rfl ti3 rfl rfl ?_
    clear hm a; intro a hm
    refine s_on hm rfl rfl (beq_iff_eq.2 hc_62) ?_
    refine s_load hm rfl rfl (hS.load_one (p := 6) rfl Try.underlying3 rfl rfl) ?_
    clear hm a; intro a hm
    refine s_on hm rfl rfl (beq_iff_eq.2 hc_62) ?_
    refine s_cmp (b := (t_16.2.N == 1)) hm rfl rfl rfl (.inl ⟨rfl, rfl⟩) ?_
    clear hm a; intro a hm
    refine s_pick_t hm rfl rfl (beq_iff_eq.2 hc_62) rfl ?_
    clear hm a; intro a hm
    refine s_move hm rfl rfl ?_
    clear hm a; intro a hm
    by_cases hc_63 : t_16.2.N = 1
    · rw [if_pos hc_63] at H
      refine s_on hm rfl rfl (beq_iff_eq.2 hc_63) ?_
      refine s_fieldAddr hm rfl Try.underlying28 rfl ti23 rfl rfl ?_
      clear hm a; intro a hm
      refine s_on hm rfl rfl (beq_iff_eq.2 hc_63) ?_
      refine s_load hm rfl rfl (hS.load_one (p := 9) rfl Try.underlying23 rfl rfl) ?_
      clear hm a; intro a hm
      refine s_on hm rfl rfl (beq_iff_eq.2 hc_63) ?_
      refine s_cmp (b := (t_31.2.Err == 6)) hm rfl rfl rfl (.inl ⟨rfl, rfl⟩) ?_
      clear hm a; intro a hm
      refine s_pick_t hm rfl rfl (beq_iff_eq.2 hc_63) rfl ?_
      clear hm a; intro a hm
      refine s_move hm rfl rfl ?_
      clear hm a; intro a hm
      by_cases hc_64 : t_31.2.Err = 6
      · rw [if_pos hc_64] at H
        refine s_on hm rfl rfl (beq_iff_eq.2 hc_64) ?_
        refine s_fieldAddr hm rfl Try.underlying28 rfl ti3 rfl rfl ?_
        clear hm a; intro a hm
        refine s_on hm rfl rfl (beq_iff_eq.2 hc_64) ?_
        refine s_load hm rfl rfl (hS.load_one (p := 12) rfl Try.underlying3 rfl rfl) ?_
        clear hm a; intro a hm
        refine s_on hm rfl rfl (beq_iff_eq.2 hc_64) ?_
        refine s_cmp (b := (t_46.2.N == 3)) hm rfl rfl rfl (.inl ⟨rfl, rfl⟩) ?_
        clear hm a; intro a hm
        refine s_pick_t hm rfl rfl (beq_iff_eq.2 hc_64) rfl ?_
        clear hm a; intro a hm
        refine s_move hm rfl rfl ?_
        clear hm a; intro a hm
        by_cases hc_65 : t_46.2.N = 3
        · rw [if_pos hc_65] at H
          refine s_on hm rfl rfl (beq_iff_eq.2 hc_65) ?_
          refine s_move hm rfl rfl ?_
          clear hm a; intro a hm
          refine s_on hm rfl rfl (beq_iff_eq.2 hc_65) ?_
          have hq_70 : Reps (Kd.int .i64) Mem.no ([3] : List Int) _ := ((Reps.one (d := (Kd.int .i64)) (x := 3) (show (Kd.int .i64).K _ _ [.int .i64 3] from rfl)).append (Reps.nil (Kd.int .i64) _))
          refine s_buildSlice hm rfl Try.underlying22 ti3 rfl rfl rfl (.cons rfl .nil) rfl rfl rfl hS hq_70 rfl ?_
          intro w_66 v_67 M_68 hS' ho_69
          clear hm a; intro a hm
          replace hS : Sep w0 w_66 [N_49, M_7, M_11, Mem.one g_14 (.cells ([.int .i64 t_1.2.Err, v_9, .int .i64 t_1.2.N] : List Value).toArray 28 (0, 0)), M_22, M_26, Mem.one g_29 (.cells ([.int .i64 t_16.2.Err, v_24, .int .i64 t_16.2.N] : List Value).toArray 28 (0, 0)), M_37, M_41, Mem.one g_44 (.cells ([.int .i64 t_31.2.Err, v_39, .int .i64 t_31.2.N] : List Value).toArray 28 (0, 0)), M_52, M_56, Mem.one g_59 (.cells ([.int .i64 t_46.2.Err, v_54, .int .i64 t_46.2.N] : List Value).toArray 28 (0, 0)), M_68] Z := hS'
          clear hS' hq_70
          refine s_on hm rfl rfl (beq_iff_eq.2 hc_65) ?_
          obtain ⟨t_72, et_72, H⟩ := Option.bind_eq_some_iff.1 H
          refine s_call hm rfl Try.call14 rfl (hocketref1_SameInts.calls K t_46.1 _ ([3] : List Int) _ t_72 w0 _ _ _ (Mem.le.refl _) (hS.enter [] (by decide)) (hr_51.rd (hS.own_zed [] 9 (by decide)) (Mem.no_le _)) (ho_69.rd (hS.own_zed [] 12 (by decide)) (Mem.no_le _)) et_72) ?_
          rintro _ w_73 ⟨N_74, rfl, hS'⟩
          clear hm a; intro a hm
          obtain ⟨N_75, hS'', le_75, ln_75⟩ := hS.call [] (by decide) rfl (l' := []) (ow := []) rfl hS'
          replace hS : Sep w0 w_73 [N_75, M_7, M_11, Mem.one g_14 (.cells ([.int .i64 t_1.2.Err, v_9, .int .i64 t_1.2.N] : List Value).toArray 28 (0, 0)), M_22, M_26, Mem.one g_29 (.cells ([.int .i64 t_16.2.Err, v_24, .int .i64 t_16.2.N] : List Value).toArray 28 (0, 0)), M_37, M_41, Mem.one g_44 (.cells ([.int .i64 t_31.2.Err, v_39, .int .i64 t_31.2.N] : List Value).toArray 28 (0, 0)), M_52, M_56, Mem.one g_59 (.cells ([.int .i64 t_46.2.Err, v_54, .int .i64 t_46.2.N] : List Value).toArray 28 (0, 0)), M_68] Z := hS''
          clear hS' hS''
          refine s_pick_t hm rfl rfl (beq_iff_eq.2 hc_65) rfl ?_
          clear hm a; intro a hm
          refine s_move hm rfl rfl ?_
          clear hm a; intro a hm
          by_cases hc_76 : t_72 = true
          · rw [if_pos hc_76] at H
            refine s_on hm rfl rfl hc_76 ?_
            refine s_move hm rfl rfl ?_
            clear hm a; intro a hm
            refine s_on hm rfl rfl hc_76 ?_
            obtain ⟨t_77, et_77, H⟩ := Option.bind_eq_some_iff.1 H
            refine s_call hm rfl Try.call16 rfl (lock_Owner.calls t_46.1 _ t_77 w0 _ _ _ (Mem.le.refl _) (hS.enter [] (by decide)) (hr_51.rd (hS.own_zed [] 9 (by decide)) (Mem.no_le _)) et_77) ?_
            rintro _ w_78 ⟨v_81, N_79, M_83, rfl, hS', hr_82⟩
            clear hm a; intro a hm
            obtain ⟨N_80, hS'', le_80, ln_80⟩ := hS.call [] (by decide) rfl (l' := []) (ow := [M_83]) rfl hS'
            replace hS : Sep w0 w_78 [N_80, M_7, M_11, Mem.one g_14 (.cells ([.int .i64 t_1.2.Err, v_9, .int .i64 t_1.2.N] : List Value).toArray 28 (0, 0)), M_22, M_26, Mem.one g_29 (.cells ([.int .i64 t_16.2.Err, v_24, .int .i64 t_16.2.N] : List Value).toArray 28 (0, 0)), M_37, M_41, Mem.one g_44 (.cells ([.int .i64 t_31.2.Err, v_39, .int .i64 t_31.2.N] : List Value).toArray 28 (0, 0)), M_52, M_56, Mem.one g_59 (.cells ([.int .i64 t_46.2.Err, v_54, .int .i64 t_46.2.N] : List Value).toArray 28 (0, 0)), M_68, M_83] Z := hS''
            clear hS' hS''
            refine s_on hm rfl rfl hc_76 ?_
            refine s_field_one hm rfl Try.underlying28 rfl Try.underlying3 rfl rfl rfl ?_
            clear hm a; intro a hm
            refine s_on hm rfl rfl hc_76 ?_
            refine s_cmp (b := (t_77.N == 3)) hm rfl rfl rfl (.inl ⟨rfl, rfl⟩) ?_
            clear hm a; intro a hm
            refine s_pick_t hm rfl rfl hc_76 rfl ?_
            clear hm a; intro a hm
            refine s_move hm rfl rfl ?_
            clear hm a; intro a hm
            by_cases hc_85 : t_77.N = 3
            · rw [if_pos hc_85] at H
              refine s_on hm rfl rfl (beq_iff_eq.2 hc_85) ?_
              obtain ⟨t_86, et_86, H⟩ := Option.bind_eq_some_iff.1 H
              refine s_call hm rfl Try.call16 rfl (lock_Owner.calls ([] : List Int) _ t_86 w0 _ _ _ (Mem.le.refl _) (hS.enter [] (by decide)) (Rd.nil _ _) et_86) ?_
              rintro _ w_87 ⟨v_90, N_88, M_92, rfl, hS', hr_91⟩
              clear hm a; intro a hm
              obtain ⟨N_89, hS'', le_89, ln_89⟩ := hS.call [] (by decide) rfl (l' := []) (ow := [M_92]) rfl hS'
              replace hS : Sep w0 w_87 [N_89, M_7, M_11, Mem.one g_14 (.cells ([.int .i64 t_1.2.Err, v_9, .int .i64 t_1.2.N] : List Value).toArray 28 (0, 0)), M_22, M_26, Mem.one g_29 (.cells ([.int .i64 t_16.2.Err, v_24, .int .i64 t_16.2.N] : List Value).toArray 28 (0, 0)), M_37, M_41, Mem.one g_44 (.cells ([.int .i64 t_31.2.Err, v_39, .int .i64 t_31.2.N] : List Value).toArray 28 (0, 0)), M_52, M_56, Mem.one g_59 (.cells ([.int .i64 t_46.2.Err, v_54, .int .i64 t_46.2.N] : List Value).toArray 28 (0, 0)), M_68, M_83, M_92] Z := hS''
              clear hS' hS''
              refine s_on hm rfl rfl (beq_iff_eq.2 hc_85) ?_
              refine s_field_one hm rfl Try.underlying28 rfl Try.underlying23 rfl rfl rfl ?_
              clear hm a; intro a hm
              refine s_on hm rfl rfl (beq_iff_eq.2 hc_85) ?_
              refine s_cmp (b := (t_86.Err == 5)) hm rfl rfl rfl (.inl ⟨rfl, rfl⟩) ?_
              clear hm a; intro a hm
              refine s_pick_t hm rfl rfl (beq_iff_eq.2 hc_85) rfl ?_
              clear hm a; intro a hm
              refine s_assign hm rfl rfl ?_
              clear hm a; intro a hm
              refine wpList_nil ?_
              replace hm : Fr 61 a [(0, .bool (t_86.Err == 5))] := hm.keep [0]
              refine x_then_n (hKJ_61 _ _ ?_)
              refine wp_ret ?_
              by_cases hc_94 : t_86.Err = 5
              · rw [if_pos hc_94] at H
                exact f_ret hm (rs := [.tmp 0]) rfl (.tmp rfl .nil) ⟨_, rfl, N_89, (by rw [(beq_iff_eq.2 hc_94)]; rfl), (Sep.sel hS [0] (by decide))⟩
              · rw [if_neg hc_94] at H
                cases H
            · rw [if_neg hc_85] at H
              cases H
          · rw [if_neg hc_76] at H
            cases H
        · rw [if_neg hc_65] at H
          cases H
      · rw [if_neg hc_64] at H
        cases H
    · rw [if_neg hc_63] at H
      cases H
  · rw [if_neg hc_62] at H
    cases H

set_option maxHeartbeats 4000000 in
set_option maxRecDepth 20000 in
theorem hocketlaw6_LockTurns.calls (K : Nat) (x0 : Int) (r : Unit) (w0 w : World) (Z A : Mem) (hA : A.le Z) (hS : Sep w0 w [] Z)
    (H : hocketlaw6_LockTurns.f K x0 = some r) :
    Calls Try.prog 4 [.int .i64 x0].toArray w (Ret fun v w' => ∃ (N : Mem), v = .bool true ∧ Sep w0 w' [N] Z) := by
  unfold hocketlaw6_LockTurns.f at H
  refine f_enter _ Try.func4 rfl Try.ntmps4 rfl fun a hm => ?_
  replace hm : Fr 90 a [(0, .int .i64 x0)] := hm
  replace hS := hS.start
  replace hS : Sep w0 w [Mem.no] Z := hS
  refine wp_seq ?_
  refine wp_region_lit ?_
  refine s_assign hm rfl rfl ?_
  clear hm a; intro a hm
  refine wpList_nil ?_
  replace hm : Fr 90 a [(0, .int .i64 x0), (2, .bool false)] := hm.keep [0, 2]
  refine x_then_n ?_
  refine wp_seq ?_
  refine wp_region_lit ?_
  refine s_move hm rfl rfl ?_
  clear hm a; intro a hm
  refine s_bits (i := x0) (j := 255) (r := band .i64 x0 255) hm rfl rfl rfl (.inl ⟨rfl, rfl⟩) ?_
  clear hm a; intro a hm
  refine s_div (r := Int.tmod (band .i64 x0 255) 5) hm rfl rfl rfl (by decide) (.inr ⟨rfl, rfl⟩) ?_
  clear hm a; intro a hm
  refine s_arith (r := w64 ((Int.tmod (band .i64 x0 255) 5) + 1)) hm rfl rfl rfl (.inl ⟨rfl, rfl⟩) ?_
  clear hm a; intro a hm
  refine s_assign hm rfl rfl ?_
  clear hm a; intro a hm
  refine wpList_nil ?_
  replace hm : Fr 90 a [(0, .int .i64 (w64 ((Int.tmod (band .i64 x0 255) 5) + 1))), (2, .bool false)] := hm.keep [0, 2]
  refine x_then_n ?_
  refine wp_seq ?_
  refine wp_region_lit ?_
  refine s_assign hm rfl rfl ?_
  clear hm a; intro a hm
  refine wpList_nil ?_
  replace hm : Fr 90 a [(0, .int .i64 (w64 ((Int.tmod (band .i64 x0 255) 5) + 1))), (2, .bool false), (3, .slice none 0 0)] := hm.keep [0, 2, 3]
  refine x_then_n ?_
  refine c_seq fun KJ_1 hKJ_1 => ?_
  refine wp_seq ?_
  refine wp_region_lit ?_
  refine s_assign hm rfl rfl ?_
  clear hm a; intro a hm
  refine wpList_nil ?_
  replace hm : Fr 90 a [(0, .int .i64 (w64 ((Int.tmod (band .i64 x0 255) 5) + 1))), (2, .bool false), (3, .slice none 0 0), (4, .int .i64 0)] := hm.keep [0, 2, 3, 4]
  refine x_then_n ?_
  have hJ_j_9 : ∀ (x_3 : List Int), hocketlaw6_LockTurns.J1 K x0 x_3 = some r → ∀ (a : Act) (w_8 : World), (∃ (v_6 : Value) (N_2 : Mem) (M_4 : Mem), Fr 90 a [(0, .int .i64 (w64 ((Int.tmod (band .i64 x0 255) 5) + 1))), (2, .bool false), (3, v_6)] ∧ Sep w0 w_8 [N_2, M_4] Z ∧ Mem.no.le N_2 ∧ Own (Kd.int .i64) 3 M_4 Mem.no v_6 x_3) → KJ_1 a w_8 := by
    clear H hm hS a
    rintro x_3 H a w_8 ⟨v_6, N_2, M_4, hm, hS, le_2, ho_7⟩
    unfold hocketlaw6_LockTurns.J1 at H
    refine hKJ_1 _ _ ?_
    refine c_seq fun KJ_10 hKJ_10 => ?_
    refine wp_seq ?_
    refine wp_region_lit ?_
    refine s_assign hm rfl rfl ?_
    clear hm a; intro a hm
    refine wpList_nil ?_
    replace hm : Fr 90 a [(0, .int .i64 (w64 ((Int.tmod (band .i64 x0 255) 5) + 1))), (2, .bool false), (3, v_6), (7, .int .i64 0)] := hm.keep [0, 2, 3, 7]
    refine x_then_n ?_
    have hJ_j_18 : ∀ (x_12 : List Int), hocketlaw6_LockTurns.J2 K x_12 = some r → ∀ (a : Act) (w_17 : World), (∃ (v_15 : Value) (N_11 : Mem) (M_13 : Mem), Fr 90 a [(2, .bool false), (3, v_15)] ∧ Sep w0 w_17 [N_11, Mem.no, M_13] Z ∧ N_2.le N_11 ∧ Own (Kd.int .i64) 3 M_13 Mem.no v_15 x_12) → KJ_10 a w_17 := by
      clear H hm hS a
      rintro x_12 H a w_17 ⟨v_15, N_11, M_13, hm, hS, le_11, ho_16⟩
      unfold hocketlaw6_LockTurns.J2 at H
      refine hKJ_10 _ _ ?_
      refine c_seq fun KJ_19 hKJ_19 => ?_
      refine wp_region_lit ?_
      refine s_move hm rfl rfl ?_
      clear hm a; intro a hm
      refine s_lenO hm rfl Try.underlying22 rfl ho_16 ?_
      clear hm a; intro a hm
      refine s_cmp (b := ((x_12.length : Int) == 0)) hm rfl rfl rfl (.inl ⟨rfl, rfl⟩) ?_
      clear hm a; intro a hm
      refine s_move hm rfl rfl ?_
      clear hm a; intro a hm
      by_cases hc_20 : (x_12.length : Int) = 0
      · rw [if_pos hc_20] at H
        refine s_on hm rfl rfl (beq_iff_eq.2 hc_20) ?_
        refine s_move hm rfl rfl ?_
        clear hm a; intro a hm
        refine s_on hm rfl rfl (beq_iff_eq.2 hc_20) ?_
        obtain ⟨t_21, et_21, H⟩ := Option.bind_eq_some_iff.1 H
        refine s_call hm rfl Try.call16 rfl (lock_Owner.calls x_12 _ t_21 w0 _ _ _ (Mem.le.refl _) (hS.enter [] (by decide)) (ho_16.rd (hS.own_zed [] 1 (by decide)) (Mem.no_le _)) et_21) ?_
        rintro _ w_22 ⟨v_25, N_23, M_27, rfl, hS', hr_26⟩
        clear hm a; intro a hm
        obtain ⟨N_24, hS'', le_24, ln_24⟩ := hS.call [] (by decide) rfl (l' := []) (ow := [M_27]) rfl hS'
        replace hS : Sep w0 w_22 [N_24, Mem.no, M_13, M_27] Z := hS''
        clear hS' hS''
        refine s_on hm rfl rfl (beq_iff_eq.2 hc_20) ?_
        refine s_field_one hm rfl Try.underlying28 rfl Try.underlying23 rfl rfl rfl ?_
        clear hm a; intro a hm
        refine s_on hm rfl rfl (beq_iff_eq.2 hc_20) ?_
        refine s_cmp (b := (t_21.Err == 5)) hm rfl rfl rfl (.inl ⟨rfl, rfl⟩) ?_
        clear hm a; intro a hm
        refine s_pick_t hm rfl rfl (beq_iff_eq.2 hc_20) rfl ?_
        clear hm a; intro a hm
        refine s_move hm rfl rfl ?_
        clear hm a; intro a hm
        by_cases hc_29 : t_21.Err = 5
        · rw [if_pos hc_29] at H
          refine s_on hm rfl rfl (beq_iff_eq.2 hc_29) ?_
          obtain ⟨t_30, et_30, H⟩ := Option.bind_eq_some_iff.1 H
          refine s_call hm rfl Try.call15 rfl (hocketlaw6_awake.calls K  t_30 w0 _ _ _ (Mem.le.refl _) (hS.enter [] (by decide))  et_30) ?_
          rintro _ w_31 ⟨N_32, rfl, hS'⟩
          clear hm a; intro a hm
          obtain ⟨N_33, hS'', le_33, ln_33⟩ := hS.call [] (by decide) rfl (l' := []) (ow := []) rfl hS'
          replace hS : Sep w0 w_31 [N_33, Mem.no, M_13, M_27] Z := hS''
          clear hS' hS''
          refine s_pick_t hm rfl rfl (beq_iff_eq.2 hc_29) rfl ?_
          clear hm a; intro a hm
          refine s_assign hm rfl rfl ?_
          clear hm a; intro a hm
          refine wpList_nil ?_
          replace hm : Fr 90 a [(2, .bool true)] := hm.keep [2]
          refine x_then_n (hKJ_19 _ _ ?_)
          refine wp_ret ?_
          exact f_ret hm (rs := [.tmp 2]) rfl (.tmp rfl .nil) ⟨_, rfl, N_33, rfl, (Sep.sel hS [0] (by decide))⟩
        · rw [if_neg hc_29] at H
          cases H
      · rw [if_neg hc_20] at H
        cases H
    clear hKJ_10
    replace hS : Sep w0 w_8 [N_2, M_4] Z := hS
    replace hm : Fr 90 a [(0, .int .i64 (w64 ((Int.tmod (band .i64 x0 255) 5) + 1))), (2, .bool false), (3, v_6), (7, .int .i64 0)] := hm.keep [0, 2, 3, 7]
    refine c_block ?_
    refine c_loop (fun k_41 a w_41 => ∃ (x_35 : List Int) (x_40 : Int) (v_38 : Value) (N_34 : Mem) (M_36 : Mem), hocketlaw6_LockTurns.L1 K x0 (fun v => hocketlaw6_LockTurns.J2 K v) k_41 (x_35, x_40) = some r ∧ Fr 90 a [(0, .int .i64 (w64 ((Int.tmod (band .i64 x0 255) 5) + 1))), (2, .bool false), (3, v_38), (7, .int .i64 x_40)] ∧ Sep w0 w_41 [N_34, Mem.no, M_36] Z ∧ N_2.le N_34 ∧ Own (Kd.int .i64) 3 M_36 Mem.no v_38 x_35) K ⟨x_3, 0, v_6, N_2, M_4, H, hm, (Sep.sel hS [0, 1000, 1] (by decide)), (Mem.le.refl _), ho_7⟩ (fun a w h => by obtain ⟨_, _, _, _, _, H, _⟩ := h; cases (show (none : Option (Unit)) = some r from H)) ?_
    clear hm hS a H
    rintro k_41 a w_41 KL_41 hKL_41 ⟨x_35, x_40, v_38, N_34, M_36, H, hm, hS, le_34, ho_39⟩
    replace H : hocketlaw6_LockTurns.B1 K x0 (fun v => hocketlaw6_LockTurns.J2 K v) (hocketlaw6_LockTurns.L1 K x0 (fun v => hocketlaw6_LockTurns.J2 K v) k_41) x_35 x_40 = some r := H
    unfold hocketlaw6_LockTurns.B1 at H
    refine c_seq fun KJ_43 hKJ_43 => ?_
    refine wp_seq ?_
    refine wp_region_lit ?_
    refine s_move hm rfl rfl ?_
    clear hm a; intro a hm
    refine s_move hm rfl rfl ?_
    clear hm a; intro a hm
    refine s_cmp (b := decide (x_40 < (w64 ((Int.tmod (band .i64 x0 255) 5) + 1)))) hm rfl rfl rfl (.inr (.inr (.inl ⟨rfl, rfl⟩))) ?_
    clear hm a; intro a hm
    refine wpList_nil ?_
    replace hm : Fr 90 a [(0, .int .i64 (w64 ((Int.tmod (band .i64 x0 255) 5) + 1))), (2, .bool false), (3, v_38), (7, .int .i64 x_40), (40, .bool (decide (x_40 < (w64 ((Int.tmod (band .i64 x0 255) 5) + 1)))))] := hm.keep [0, 2, 3, 7, 40]
    refine x_then_n ?_
    by_cases hc_44 : x_40 < (w64 ((Int.tmod (band .i64 x0 255) 5) + 1))
    · rw [if_pos hc_44] at H
      refine c_cond_t hm rfl (decide_eq_true hc_44) ?_
      refine wp_skip ?_
      refine x_then_n (hKJ_43 _ _ ?_)
      refine wp_seq ?_
      refine c_block ?_
      refine c_seq fun KJ_45 hKJ_45 => ?_
      refine wp_seq ?_
      refine wp_region_lit ?_
      refine s_move hm rfl rfl ?_
      clear hm a; intro a hm
      obtain ⟨t_46, et_46, H⟩ := Option.bind_eq_some_iff.1 H
      refine s_call hm rfl Try.call16 rfl (lock_Owner.calls x_35 _ t_46 w0 _ _ _ (Mem.le.refl _) (hS.enter [] (by decide)) (ho_39.rd (hS.own_zed [] 1 (by decide)) (Mem.no_le _)) et_46) ?_
      rintro _ w_47 ⟨v_50, N_48, M_52, rfl, hS', hr_51⟩
      clear hm a; intro a hm
      obtain ⟨N_49, hS'', le_49, ln_49⟩ := hS.call [] (by decide) rfl (l' := []) (ow := [M_52]) rfl hS'
      replace hS : Sep w0 w_47 [N_49, Mem.no, M_36, M_52] Z := hS''
      clear hS' hS''
      refine v_alloc hm rfl ti28 hS ?_
      intro w_54 g_55 hS'
      clear hm a; intro a hm
      replace hS : Sep w0 w_54 [N_49, Mem.no, M_36, M_52, Mem.one g_55 (.cells ([.int .i64 0, .slice none 0 0, .int .i64 0] : List Value).toArray 28 (0, 0))] Z := hS'
      clear hS'
      obtain ⟨w_56, hs', hS'⟩ := hS.store (P := Try.prog) (p := 4) (o := 0) (t := 28) (v := .agg ([.int .i64 t_46.Err, v_50, .int .i64 t_46.N] : List Value).toArray) (vs := [.int .i64 t_46.Err, v_50, .int .i64 t_46.N]) rfl ti28 rfl rfl rfl (by intro u hu; simp only [List.mem_cons, List.not_mem_nil, or_false] at hu; rcases hu with rfl | rfl | rfl <;> first | rfl | exact hr_51.one)
      refine s_store hm rfl rfl hs' ?_
      replace hS : Sep w0 w_56 [N_49, Mem.no, M_36, M_52, Mem.one g_55 (.cells ([.int .i64 t_46.Err, v_50, .int .i64 t_46.N] : List Value).toArray 28 (0, 0))] Z := hS'
      clear hs' hS'
      refine wpList_nil ?_
      replace hm : Fr 90 a [(0, .int .i64 (w64 ((Int.tmod (band .i64 x0 255) 5) + 1))), (2, .bool false), (3, v_38), (7, .int .i64 x_40), (8, .pointer (some ⟨g_55, 0, none⟩))] := hm.keep [0, 2, 3, 7, 8]
      refine x_then_n ?_
      refine c_seq fun KJ_57 hKJ_57 => ?_
      have hJ_j_61 : ∀ (x_59 : Bool), hocketlaw6_LockTurns.J3 K x_35 x_40 x0 (hocketlaw6_LockTurns.L1 K x0 (fun v => hocketlaw6_LockTurns.J2 K v) k_41) x_59 = some r → ∀ (a : Act) (w_60 : World), (∃ (N_58 : Mem), Fr 90 a [(0, .int .i64 (w64 ((Int.tmod (band .i64 x0 255) 5) + 1))), (2, .bool false), (3, v_38), (7, .int .i64 x_40), (54, .bool x_59)] ∧ Sep w0 w_60 [N_58, Mem.no, M_36, Mem.no, Mem.no] Z ∧ N_49.le N_58) → KJ_57 a w_60 := by
        clear H hm hS a
        rintro x_59 H a w_60 ⟨N_58, hm, hS, le_58⟩
        unfold hocketlaw6_LockTurns.J3 at H
        refine hKJ_57 _ _ ?_
        by_cases hc_62 : x_59 = true
        · rw [if_pos hc_62] at H
          cases H
        · rw [if_neg hc_62] at H
          refine c_cond_f hm rfl (Bool.eq_false_iff.2 hc_62) ?_
          refine wp_skip ?_
          refine x_then_n (hKJ_45 _ _ ?_)
          refine wp_seq ?_
          refine wp_region_lit ?_
          refine s_move hm rfl rfl ?_
          clear hm a; intro a hm
          refine s_move hm rfl rfl ?_
          clear hm a; intro a hm
          refine s_arith (r := w64 (100 + x_40)) hm rfl rfl rfl (.inl ⟨rfl, rfl⟩) ?_
          clear hm a; intro a hm
          obtain ⟨t_63, et_63, H⟩ := Option.bind_eq_some_iff.1 H
          refine s_call hm rfl Try.call12 rfl (lock_Free.calls K x_35 _ (w64 (100 + x_40)) t_63 w0 _ _ _ (Mem.le.refl _) (hS.enter [] (by decide)) (ho_39.rd (hS.own_zed [] 1 (by decide)) (Mem.no_le _)) et_63) ?_
          rintro _ w_64 ⟨v_67, v_71, N_65, M_69, M_73, rfl, hS', hr_68, hr_72⟩
          clear hm a; intro a hm
          obtain ⟨N_66, hS'', le_66, ln_66⟩ := hS.call [] (by decide) rfl (l' := []) (ow := [M_69, M_73]) rfl hS'
          replace hS : Sep w0 w_64 [N_66, Mem.no, M_36, Mem.no, Mem.no, M_69, M_73] Z := hS''
          clear hS' hS''
          refine s_move hm rfl rfl ?_
          clear hm a; intro a hm
          refine s_extract hm rfl rfl rfl ?_
          clear hm a; intro a hm
          refine s_extract hm rfl rfl rfl ?_
          clear hm a; intro a hm
          refine v_alloc hm rfl ti28 hS ?_
          intro w_75 g_76 hS'
          clear hm a; intro a hm
          replace hS : Sep w0 w_75 [N_66, Mem.no, M_36, Mem.no, Mem.no, M_69, M_73, Mem.one g_76 (.cells ([.int .i64 0, .slice none 0 0, .int .i64 0] : List Value).toArray 28 (0, 0))] Z := hS'
          clear hS'
          refine s_assign hm rfl rfl ?_
          clear hm a; intro a hm
          obtain ⟨w_77, hs', hS'⟩ := hS.store (P := Try.prog) (p := 7) (o := 0) (t := 28) (v := .agg ([.int .i64 t_63.2.Err, v_71, .int .i64 t_63.2.N] : List Value).toArray) (vs := [.int .i64 t_63.2.Err, v_71, .int .i64 t_63.2.N]) rfl ti28 rfl rfl rfl (by intro u hu; simp only [List.mem_cons, List.not_mem_nil, or_false] at hu; rcases hu with rfl | rfl | rfl <;> first | rfl | exact hr_72.one)
          refine s_store hm rfl rfl hs' ?_
          replace hS : Sep w0 w_77 [N_66, Mem.no, M_36, Mem.no, Mem.no, M_69, M_73, Mem.one g_76 (.cells ([.int .i64 t_63.2.Err, v_71, .int .i64 t_63.2.N] : List Value).toArray 28 (0, 0))] Z := hS'
          clear hs' hS'
          refine wpList_nil ?_
          replace hm : Fr 90 a [(0, .int .i64 (w64 ((Int.tmod (band .i64 x0 255) 5) + 1))), (2, .bool false), (3, v_38), (7, .int .i64 x_40), (9, v_67), (10, .pointer (some ⟨g_76, 0, none⟩))] := hm.keep [0, 2, 3, 7, 9, 10]
          refine x_then_n ?_
          refine wp_seq ?_
          refine wp_region_lit ?_
          refine s_move hm rfl rfl ?_
          clear hm a; intro a hm
          refine s_arith (r := w64 (101 + x_40)) hm rfl rfl rfl (.inl ⟨rfl, rfl⟩) ?_
          clear hm a; intro a hm
          refine s_assign hm rfl rfl ?_
          clear hm a; intro a hm
          refine wpList_nil ?_
          replace hm : Fr 90 a [(0, .int .i64 (w64 ((Int.tmod (band .i64 x0 255) 5) + 1))), (2, .bool false), (3, v_38), (7, .int .i64 x_40), (9, v_67), (10, .pointer (some ⟨g_76, 0, none⟩)), (11, .int .i64 (w64 (101 + x_40)))] := hm.keep [0, 2, 3, 7, 9, 10, 11]
          refine x_then_n ?_
          refine c_seq fun KJ_78 hKJ_78 => ?_
          refine wp_seq ?_
          refine wp_region_lit ?_
          refine s_move hm rfl rfl ?_
          clear hm a; intro a hm
          refine s_move hm rfl rfl ?_
          clear hm a; intro a hm
          refine s_arith (r := w64 ((w64 ((Int.tmod (band .i64 x0 255) 5) + 1)) - 1)) hm rfl rfl rfl (.inr (.inl ⟨rfl, rfl⟩)) ?_
          clear hm a; intro a hm
          refine s_cmp (b := (x_40 == (w64 ((w64 ((Int.tmod (band .i64 x0 255) 5) + 1)) - 1)))) hm rfl rfl rfl (.inl ⟨rfl, rfl⟩) ?_
          clear hm a; intro a hm
          refine wpList_nil ?_
          replace hm : Fr 90 a [(0, .int .i64 (w64 ((Int.tmod (band .i64 x0 255) 5) + 1))), (2, .bool false), (3, v_38), (7, .int .i64 x_40), (9, v_67), (10, .pointer (some ⟨g_76, 0, none⟩)), (11, .int .i64 (w64 (101 + x_40))), (67, .bool (x_40 == (w64 ((w64 ((Int.tmod (band .i64 x0 255) 5) + 1)) - 1))))] := hm.keep [0, 2, 3, 7, 9, 10, 11, 67]
          refine x_then_n ?_
          have hJ_j_82 : ∀ (x_80 : Int), hocketlaw6_LockTurns.J4 K t_63 (hocketlaw6_LockTurns.L1 K x0 (fun v => hocketlaw6_LockTurns.J2 K v) k_41) x_40 x_80 = some r → ∀ (a : Act) (w_81 : World), (∃ (N_79 : Mem), Fr 90 a [(0, .int .i64 (w64 ((Int.tmod (band .i64 x0 255) 5) + 1))), (2, .bool false), (3, v_38), (7, .int .i64 x_40), (9, v_67), (10, .pointer (some ⟨g_76, 0, none⟩)), (11, .int .i64 x_80)] ∧ Sep w0 w_81 [N_79, Mem.no, M_36, Mem.no, Mem.no, M_69, M_73, Mem.one g_76 (.cells ([.int .i64 t_63.2.Err, v_71, .int .i64 t_63.2.N] : List Value).toArray 28 (0, 0))] Z ∧ N_66.le N_79) → KJ_78 a w_81 := by
            clear H hm hS a
            rintro x_80 H a w_81 ⟨N_79, hm, hS, le_79⟩
            unfold hocketlaw6_LockTurns.J4 at H
            refine hKJ_78 _ _ ?_
            refine c_seq fun KJ_83 hKJ_83 => ?_
            refine c_seq fun KJ_84 hKJ_84 => ?_
            have hJ_j_88 : ∀ (x_86 : Bool), hocketlaw6_LockTurns.J5 K (hocketlaw6_LockTurns.L1 K x0 (fun v => hocketlaw6_LockTurns.J2 K v) k_41) t_63 x_40 x_86 = some r → ∀ (a : Act) (w_87 : World), (∃ (N_85 : Mem), Fr 90 a [(0, .int .i64 (w64 ((Int.tmod (band .i64 x0 255) 5) + 1))), (2, .bool false), (3, v_38), (7, .int .i64 x_40), (9, v_67), (76, .bool x_86)] ∧ Sep w0 w_87 [N_85, Mem.no, M_36, Mem.no, Mem.no, M_69, Mem.no, Mem.no] Z ∧ N_79.le N_85) → KJ_84 a w_87 := by
              clear H hm hS a
              rintro x_86 H a w_87 ⟨N_85, hm, hS, le_85⟩
              unfold hocketlaw6_LockTurns.J5 at H
              refine hKJ_84 _ _ ?_
              by_cases hc_89 : x_86 = true
              · rw [if_pos hc_89] at H
                cases H
              · rw [if_neg hc_89] at H
                refine c_cond_f hm rfl (Bool.eq_false_iff.2 hc_89) ?_
                refine wp_skip ?_
                refine x_then_n (hKJ_83 _ _ ?_)
                refine wp_region_lit ?_
                refine s_move hm rfl rfl ?_
                clear hm a; intro a hm
                refine s_assign hm rfl rfl ?_
                clear hm a; intro a hm
                refine wpList_nil ?_
                replace hm : Fr 90 a [(0, .int .i64 (w64 ((Int.tmod (band .i64 x0 255) 5) + 1))), (2, .bool false), (3, v_67), (7, .int .i64 x_40)] := hm.keep [0, 2, 3, 7]
                refine x_block_n ?_
                refine x_then_n ?_
                refine wp_region_lit ?_
                refine s_move hm rfl rfl ?_
                clear hm a; intro a hm
                refine s_arith (r := w64 (x_40 + 1)) hm rfl rfl rfl (.inl ⟨rfl, rfl⟩) ?_
                clear hm a; intro a hm
                refine s_assign hm rfl rfl ?_
                clear hm a; intro a hm
                refine wpList_nil ?_
                replace hm : Fr 90 a [(0, .int .i64 (w64 ((Int.tmod (band .i64 x0 255) 5) + 1))), (2, .bool false), (3, v_67), (7, .int .i64 (w64 (x_40 + 1)))] := hm.keep [0, 2, 3, 7]
                refine x_then_n (hKL_41 _ _ ?_)
                replace hS : Sep w0 w_87 [N_85, Mem.no, M_36, Mem.no, Mem.no, M_69, Mem.no, Mem.no] Z := hS
                replace hm : Fr 90 a [(0, .int .i64 (w64 ((Int.tmod (band .i64 x0 255) 5) + 1))), (2, .bool false), (3, v_67), (7, .int .i64 (w64 (x_40 + 1)))] := hm.keep [0, 2, 3, 7]
                exact ⟨t_63.1, w64 (x_40 + 1), v_67, N_85, M_69, H, hm, (Sep.sel hS [0, 1000, 5] (by decide)), (le_34.trans (le_49.trans (le_58.trans (le_66.trans (le_79.trans le_85))))), hr_68⟩
            clear hKJ_84
            refine wp_region_lit ?_
            refine s_fieldAddr hm rfl Try.underlying28 rfl ti23 rfl rfl ?_
            clear hm a; intro a hm
            refine s_load hm rfl rfl (hS.load_one (p := 7) rfl Try.underlying23 rfl rfl) ?_
            clear hm a; intro a hm
            refine s_cmp (b := (t_63.2.Err != 0)) hm rfl rfl rfl (.inr (.inl ⟨rfl, rfl⟩)) ?_
            clear hm a; intro a hm
            refine s_move hm rfl rfl ?_
            clear hm a; intro a hm
            by_cases hc_90 : t_63.2.Err = 0
            · rw [if_pos hc_90] at H
              refine s_on hm rfl rfl (bne_eq_false_iff_eq.2 hc_90) ?_
              refine s_fieldAddr hm rfl Try.underlying28 rfl ti3 rfl rfl ?_
              clear hm a; intro a hm
              refine s_on hm rfl rfl (bne_eq_false_iff_eq.2 hc_90) ?_
              refine s_load hm rfl rfl (hS.load_one (p := 7) rfl Try.underlying3 rfl rfl) ?_
              clear hm a; intro a hm
              refine s_on hm rfl rfl (bne_eq_false_iff_eq.2 hc_90) ?_
              refine s_move hm rfl rfl ?_
              clear hm a; intro a hm
              refine s_on hm rfl rfl (bne_eq_false_iff_eq.2 hc_90) ?_
              refine s_cmp (b := (t_63.2.N != x_80)) hm rfl rfl rfl (.inr (.inl ⟨rfl, rfl⟩)) ?_
              clear hm a; intro a hm
              refine s_pick_f hm rfl rfl (bne_eq_false_iff_eq.2 hc_90) rfl ?_
              clear hm a; intro a hm
              refine wpList_nil ?_
              replace hm : Fr 90 a [(0, .int .i64 (w64 ((Int.tmod (band .i64 x0 255) 5) + 1))), (2, .bool false), (3, v_38), (7, .int .i64 x_40), (9, v_67), (76, .bool (t_63.2.N != x_80))] := hm.keep [0, 2, 3, 7, 9, 76]
              replace hS : Sep w0 w_81 [N_79, Mem.no, M_36, Mem.no, Mem.no, M_69, M_73, Mem.one g_76 (.cells ([.int .i64 t_63.2.Err, v_71, .int .i64 t_63.2.N] : List Value).toArray 28 (0, 0))] Z := hS
              replace hm : Fr 90 a [(0, .int .i64 (w64 ((Int.tmod (band .i64 x0 255) 5) + 1))), (2, .bool false), (3, v_38), (7, .int .i64 x_40), (9, v_67), (76, .bool (t_63.2.N != x_80))] := hm.keep [0, 2, 3, 7, 9, 76]
              exact x_then_n (hJ_j_88 (t_63.2.N != x_80) H _ _ ⟨N_79, hm, (Sep.sel hS [0, 1000, 2, 1002, 1003, 5, 1005, 1006] (by decide)), (Mem.le.refl _)⟩)
            · rw [if_neg hc_90] at H
              refine s_off hm rfl rfl rfl (bne_iff_ne.2 hc_90) ?_
              clear hm a; intro a hm
              refine s_off hm rfl rfl rfl (bne_iff_ne.2 hc_90) ?_
              clear hm a; intro a hm
              refine s_off hm rfl rfl rfl (bne_iff_ne.2 hc_90) ?_
              clear hm a; intro a hm
              refine s_off hm rfl rfl rfl (bne_iff_ne.2 hc_90) ?_
              clear hm a; intro a hm
              refine s_pick_t hm rfl rfl (bne_iff_ne.2 hc_90) rfl ?_
              clear hm a; intro a hm
              refine wpList_nil ?_
              replace hm : Fr 90 a [(0, .int .i64 (w64 ((Int.tmod (band .i64 x0 255) 5) + 1))), (2, .bool false), (3, v_38), (7, .int .i64 x_40), (9, v_67), (76, .bool true)] := hm.keep [0, 2, 3, 7, 9, 76]
              replace hS : Sep w0 w_81 [N_79, Mem.no, M_36, Mem.no, Mem.no, M_69, M_73, Mem.one g_76 (.cells ([.int .i64 t_63.2.Err, v_71, .int .i64 t_63.2.N] : List Value).toArray 28 (0, 0))] Z := hS
              replace hm : Fr 90 a [(0, .int .i64 (w64 ((Int.tmod (band .i64 x0 255) 5) + 1))), (2, .bool false), (3, v_38), (7, .int .i64 x_40), (9, v_67), (76, .bool true)] := hm.keep [0, 2, 3, 7, 9, 76]
              exact x_then_n (hJ_j_88 true H _ _ ⟨N_79, hm, (Sep.sel hS [0, 1000, 2, 1002, 1003, 5, 1005, 1006] (by decide)), (Mem.le.refl _)⟩)
          clear hKJ_78
          by_cases hc_91 : x_40 = (w64 ((w64 ((Int.tmod (band .i64 x0 255) 5) + 1)) - 1))
          · rw [if_pos hc_91] at H
            refine c_cond_t hm rfl (beq_iff_eq.2 hc_91) ?_
            refine wp_region_lit ?_
            refine s_assign hm rfl rfl ?_
            clear hm a; intro a hm
            refine wpList_nil ?_
            replace hm : Fr 90 a [(0, .int .i64 (w64 ((Int.tmod (band .i64 x0 255) 5) + 1))), (2, .bool false), (3, v_38), (7, .int .i64 x_40), (9, v_67), (10, .pointer (some ⟨g_76, 0, none⟩)), (11, .int .i64 (-1))] := hm.keep [0, 2, 3, 7, 9, 10, 11]
            replace hS : Sep w0 w_77 [N_66, Mem.no, M_36, Mem.no, Mem.no, M_69, M_73, Mem.one g_76 (.cells ([.int .i64 t_63.2.Err, v_71, .int .i64 t_63.2.N] : List Value).toArray 28 (0, 0))] Z := hS
            replace hm : Fr 90 a [(0, .int .i64 (w64 ((Int.tmod (band .i64 x0 255) 5) + 1))), (2, .bool false), (3, v_38), (7, .int .i64 x_40), (9, v_67), (10, .pointer (some ⟨g_76, 0, none⟩)), (11, .int .i64 (-1))] := hm.keep [0, 2, 3, 7, 9, 10, 11]
            exact x_then_n (hJ_j_82 (-1) H _ _ ⟨N_66, hm, (Sep.sel hS [0, 1000, 2, 1002, 1003, 5, 6, 7] (by decide)), (Mem.le.refl _)⟩)
          · rw [if_neg hc_91] at H
            refine c_cond_f hm rfl (beq_eq_false_iff_ne.2 hc_91) ?_
            refine wp_skip ?_
            replace hS : Sep w0 w_77 [N_66, Mem.no, M_36, Mem.no, Mem.no, M_69, M_73, Mem.one g_76 (.cells ([.int .i64 t_63.2.Err, v_71, .int .i64 t_63.2.N] : List Value).toArray 28 (0, 0))] Z := hS
            replace hm : Fr 90 a [(0, .int .i64 (w64 ((Int.tmod (band .i64 x0 255) 5) + 1))), (2, .bool false), (3, v_38), (7, .int .i64 x_40), (9, v_67), (10, .pointer (some ⟨g_76, 0, none⟩)), (11, .int .i64 (w64 (101 + x_40)))] := hm.keep [0, 2, 3, 7, 9, 10, 11]
            exact x_then_n (hJ_j_82 (w64 (101 + x_40)) H _ _ ⟨N_66, hm, (Sep.sel hS [0, 1000, 2, 1002, 1003, 5, 6, 7] (by decide)), (Mem.le.refl _)⟩)
      clear hKJ_57
      refine wp_region_lit ?_
      refine s_fieldAddr hm rfl Try.underlying28 rfl ti23 rfl rfl ?_
      clear hm a; intro a hm
      refine s_load hm rfl rfl (hS.load_one (p := 4) rfl Try.underlying23 rfl rfl) ?_
      clear hm a; intro a hm
      refine s_cmp (b := (t_46.Err != 0)) hm rfl rfl rfl (.inr (.inl ⟨rfl, rfl⟩)) ?_
      clear hm a; intro a hm
      refine s_move hm rfl rfl ?_
      clear hm a; intro a hm
      by_cases hc_92 : t_46.Err = 0
      · rw [if_pos hc_92] at H
        refine s_on hm rfl rfl (bne_eq_false_iff_eq.2 hc_92) ?_
        refine s_fieldAddr hm rfl Try.underlying28 rfl ti3 rfl rfl ?_
        clear hm a; intro a hm
        refine s_on hm rfl rfl (bne_eq_false_iff_eq.2 hc_92) ?_
        refine s_load hm rfl rfl (hS.load_one (p := 4) rfl Try.underlying3 rfl rfl) ?_
        clear hm a; intro a hm
        refine s_on hm rfl rfl (bne_eq_false_iff_eq.2 hc_92) ?_
        refine s_move hm rfl rfl ?_
        clear hm a; intro a hm
        refine s_on hm rfl rfl (bne_eq_false_iff_eq.2 hc_92) ?_
        refine s_arith (r := w64 (100 + x_40)) hm rfl rfl rfl (.inl ⟨rfl, rfl⟩) ?_
        clear hm a; intro a hm
        refine s_on hm rfl rfl (bne_eq_false_iff_eq.2 hc_92) ?_
        refine s_cmp (b := (t_46.N != (w64 (100 + x_40)))) hm rfl rfl rfl (.inr (.inl ⟨rfl, rfl⟩)) ?_
        clear hm a; intro a hm
        refine s_pick_f hm rfl rfl (bne_eq_false_iff_eq.2 hc_92) rfl ?_
        clear hm a; intro a hm
        refine wpList_nil ?_
        replace hm : Fr 90 a [(0, .int .i64 (w64 ((Int.tmod (band .i64 x0 255) 5) + 1))), (2, .bool false), (3, v_38), (7, .int .i64 x_40), (54, .bool (t_46.N != (w64 (100 + x_40))))] := hm.keep [0, 2, 3, 7, 54]
        replace hS : Sep w0 w_56 [N_49, Mem.no, M_36, M_52, Mem.one g_55 (.cells ([.int .i64 t_46.Err, v_50, .int .i64 t_46.N] : List Value).toArray 28 (0, 0))] Z := hS
        replace hm : Fr 90 a [(0, .int .i64 (w64 ((Int.tmod (band .i64 x0 255) 5) + 1))), (2, .bool false), (3, v_38), (7, .int .i64 x_40), (54, .bool (t_46.N != (w64 (100 + x_40))))] := hm.keep [0, 2, 3, 7, 54]
        exact x_then_n (hJ_j_61 (t_46.N != (w64 (100 + x_40))) H _ _ ⟨N_49, hm, (Sep.sel hS [0, 1000, 2, 1002, 1003] (by decide)), (Mem.le.refl _)⟩)
      · rw [if_neg hc_92] at H
        refine s_off hm rfl rfl rfl (bne_iff_ne.2 hc_92) ?_
        clear hm a; intro a hm
        refine s_off hm rfl rfl rfl (bne_iff_ne.2 hc_92) ?_
        clear hm a; intro a hm
        refine s_off hm rfl rfl rfl (bne_iff_ne.2 hc_92) ?_
        clear hm a; intro a hm
        refine s_off hm rfl rfl rfl (bne_iff_ne.2 hc_92) ?_
        clear hm a; intro a hm
        refine s_off hm rfl rfl rfl (bne_iff_ne.2 hc_92) ?_
        clear hm a; intro a hm
        refine s_pick_t hm rfl rfl (bne_iff_ne.2 hc_92) rfl ?_
        clear hm a; intro a hm
        refine wpList_nil ?_
        replace hm : Fr 90 a [(0, .int .i64 (w64 ((Int.tmod (band .i64 x0 255) 5) + 1))), (2, .bool false), (3, v_38), (7, .int .i64 x_40), (54, .bool true)] := hm.keep [0, 2, 3, 7, 54]
        replace hS : Sep w0 w_56 [N_49, Mem.no, M_36, M_52, Mem.one g_55 (.cells ([.int .i64 t_46.Err, v_50, .int .i64 t_46.N] : List Value).toArray 28 (0, 0))] Z := hS
        replace hm : Fr 90 a [(0, .int .i64 (w64 ((Int.tmod (band .i64 x0 255) 5) + 1))), (2, .bool false), (3, v_38), (7, .int .i64 x_40), (54, .bool true)] := hm.keep [0, 2, 3, 7, 54]
        exact x_then_n (hJ_j_61 true H _ _ ⟨N_49, hm, (Sep.sel hS [0, 1000, 2, 1002, 1003] (by decide)), (Mem.le.refl _)⟩)
    · rw [if_neg hc_44] at H
      refine c_cond_f hm rfl (decide_eq_false hc_44) ?_
      refine wp_exit (x_then_x (x_then_x (x_block_t ?_)))
      replace hS : Sep w0 w_41 [N_34, Mem.no, M_36] Z := hS
      replace hm : Fr 90 a [(2, .bool false), (3, v_38)] := hm.keep [2, 3]
      exact x_then_n (hJ_j_18 x_35 H _ _ ⟨v_38, N_34, M_36, hm, (Sep.sel hS [0, 1000, 2] (by decide)), le_34, ho_39⟩)
  clear hKJ_1
  have hS' := hS.room
  replace hS : Sep w0 w [Mem.no, Mem.no] Z := hS'
  clear hS'
  replace hS : Sep w0 w [Mem.no, Mem.no] Z := hS
  replace hm : Fr 90 a [(0, .int .i64 (w64 ((Int.tmod (band .i64 x0 255) 5) + 1))), (2, .bool false), (3, .slice none 0 0), (4, .int .i64 0)] := hm.keep [0, 2, 3, 4]
  refine c_block ?_
  refine c_loop (fun k_100 a w_100 => ∃ (x_94 : List Int) (x_99 : Int) (v_97 : Value) (N_93 : Mem) (M_95 : Mem), hocketlaw6_LockTurns.L2 K x0 (fun v => hocketlaw6_LockTurns.J1 K x0 v) k_100 (x_94, x_99) = some r ∧ Fr 90 a [(0, .int .i64 (w64 ((Int.tmod (band .i64 x0 255) 5) + 1))), (2, .bool false), (3, v_97), (4, .int .i64 x_99)] ∧ Sep w0 w_100 [N_93, M_95] Z ∧ Mem.no.le N_93 ∧ Own (Kd.int .i64) 3 M_95 Mem.no v_97 x_94) K ⟨([] : List Int), 0, .slice none 0 0, Mem.no, Mem.no, H, hm, (Sep.sel hS [0, 1] (by decide)), (Mem.le.refl _), (Own.nil (Kd.int .i64) 3 Mem.no)⟩ (fun a w h => by obtain ⟨_, _, _, _, _, H, _⟩ := h; cases (show (none : Option (Unit)) = some r from H)) ?_
  clear hm hS a H
  rintro k_100 a w_100 KL_100 hKL_100 ⟨x_94, x_99, v_97, N_93, M_95, H, hm, hS, le_93, ho_98⟩
  replace H : hocketlaw6_LockTurns.B2 K x0 (fun v => hocketlaw6_LockTurns.J1 K x0 v) (hocketlaw6_LockTurns.L2 K x0 (fun v => hocketlaw6_LockTurns.J1 K x0 v) k_100) x_94 x_99 = some r := H
  unfold hocketlaw6_LockTurns.B2 at H
  refine c_seq fun KJ_103 hKJ_103 => ?_
  refine wp_seq ?_
  refine wp_region_lit ?_
  refine s_move hm rfl rfl ?_
  clear hm a; intro a hm
  refine s_move hm rfl rfl ?_
  clear hm a; intro a hm
  refine s_cmp (b := decide (x_99 < (w64 ((Int.tmod (band .i64 x0 255) 5) + 1)))) hm rfl rfl rfl (.inr (.inr (.inl ⟨rfl, rfl⟩))) ?_
  clear hm a; intro a hm
  refine wpList_nil ?_
  replace hm : Fr 90 a [(0, .int .i64 (w64 ((Int.tmod (band .i64 x0 255) 5) + 1))), (2, .bool false), (3, v_97), (4, .int .i64 x_99), (18, .bool (decide (x_99 < (w64 ((Int.tmod (band .i64 x0 255) 5) + 1)))))] := hm.keep [0, 2, 3, 4, 18]
  refine x_then_n ?_
  by_cases hc_104 : x_99 < (w64 ((Int.tmod (band .i64 x0 255) 5) + 1))
  · rw [if_pos hc_104] at H
    refine c_cond_t hm rfl (decide_eq_true hc_104) ?_
    refine wp_skip ?_
    refine x_then_n (hKJ_103 _ _ ?_)
    refine wp_seq ?_
    refine c_block ?_
    refine wp_seq ?_
    refine wp_region_lit ?_
    refine s_move hm rfl rfl ?_
    clear hm a; intro a hm
    refine s_move hm rfl rfl ?_
    clear hm a; intro a hm
    refine s_arith (r := w64 (100 + x_99)) hm rfl rfl rfl (.inl ⟨rfl, rfl⟩) ?_
    clear hm a; intro a hm
    obtain ⟨t_105, et_105, H⟩ := Option.bind_eq_some_iff.1 H
    refine s_call hm rfl Try.call13 rfl (lock_Take.calls K x_94 _ (w64 (100 + x_99)) t_105 w0 _ _ _ (Mem.le.refl _) (hS.enter [] (by decide)) (ho_98.rd (hS.own_zed [] 0 (by decide)) (Mem.no_le _)) et_105) ?_
    rintro _ w_106 ⟨v_109, v_113, N_107, M_111, M_115, rfl, hS', hr_110, hr_114⟩
    clear hm a; intro a hm
    obtain ⟨N_108, hS'', le_108, ln_108⟩ := hS.call [] (by decide) rfl (l' := []) (ow := [M_111, M_115]) rfl hS'
    replace hS : Sep w0 w_106 [N_108, M_95, M_111, M_115] Z := hS''
    clear hS' hS''
    refine s_move hm rfl rfl ?_
    clear hm a; intro a hm
    refine s_extract hm rfl rfl rfl ?_
    clear hm a; intro a hm
    refine s_extract hm rfl rfl rfl ?_
    clear hm a; intro a hm
    refine v_alloc hm rfl ti28 hS ?_
    intro w_117 g_118 hS'
    clear hm a; intro a hm
    replace hS : Sep w0 w_117 [N_108, M_95, M_111, M_115, Mem.one g_118 (.cells ([.int .i64 0, .slice none 0 0, .int .i64 0] : List Value).toArray 28 (0, 0))] Z := hS'
    clear hS'
    refine s_assign hm rfl rfl ?_
    clear hm a; intro a hm
    obtain ⟨w_119, hs', hS'⟩ := hS.store (P := Try.prog) (p := 4) (o := 0) (t := 28) (v := .agg ([.int .i64 t_105.2.Err, v_113, .int .i64 t_105.2.N] : List Value).toArray) (vs := [.int .i64 t_105.2.Err, v_113, .int .i64 t_105.2.N]) rfl ti28 rfl rfl rfl (by intro u hu; simp only [List.mem_cons, List.not_mem_nil, or_false] at hu; rcases hu with rfl | rfl | rfl <;> first | rfl | exact hr_114.one)
    refine s_store hm rfl rfl hs' ?_
    replace hS : Sep w0 w_119 [N_108, M_95, M_111, M_115, Mem.one g_118 (.cells ([.int .i64 t_105.2.Err, v_113, .int .i64 t_105.2.N] : List Value).toArray 28 (0, 0))] Z := hS'
    clear hs' hS'
    refine wpList_nil ?_
    replace hm : Fr 90 a [(0, .int .i64 (w64 ((Int.tmod (band .i64 x0 255) 5) + 1))), (2, .bool false), (3, v_97), (4, .int .i64 x_99), (5, v_109), (6, .pointer (some ⟨g_118, 0, none⟩))] := hm.keep [0, 2, 3, 4, 5, 6]
    refine x_then_n ?_
    refine c_seq fun KJ_120 hKJ_120 => ?_
    refine c_seq fun KJ_121 hKJ_121 => ?_
    have hJ_j_125 : ∀ (x_123 : Bool), hocketlaw6_LockTurns.J6 K (hocketlaw6_LockTurns.L2 K x0 (fun v => hocketlaw6_LockTurns.J1 K x0 v) k_100) t_105 x_99 x_123 = some r → ∀ (a : Act) (w_124 : World), (∃ (N_122 : Mem), Fr 90 a [(0, .int .i64 (w64 ((Int.tmod (band .i64 x0 255) 5) + 1))), (2, .bool false), (3, v_97), (4, .int .i64 x_99), (5, v_109), (36, .bool x_123)] ∧ Sep w0 w_124 [N_122, M_95, M_111, Mem.no, Mem.no] Z ∧ N_108.le N_122) → KJ_121 a w_124 := by
      clear H hm hS a
      rintro x_123 H a w_124 ⟨N_122, hm, hS, le_122⟩
      unfold hocketlaw6_LockTurns.J6 at H
      refine hKJ_121 _ _ ?_
      by_cases hc_126 : x_123 = true
      · rw [if_pos hc_126] at H
        cases H
      · rw [if_neg hc_126] at H
        refine c_cond_f hm rfl (Bool.eq_false_iff.2 hc_126) ?_
        refine wp_skip ?_
        refine x_then_n (hKJ_120 _ _ ?_)
        refine wp_region_lit ?_
        refine s_move hm rfl rfl ?_
        clear hm a; intro a hm
        refine s_assign hm rfl rfl ?_
        clear hm a; intro a hm
        refine wpList_nil ?_
        replace hm : Fr 90 a [(0, .int .i64 (w64 ((Int.tmod (band .i64 x0 255) 5) + 1))), (2, .bool false), (3, v_109), (4, .int .i64 x_99)] := hm.keep [0, 2, 3, 4]
        refine x_block_n ?_
        refine x_then_n ?_
        refine wp_region_lit ?_
        refine s_move hm rfl rfl ?_
        clear hm a; intro a hm
        refine s_arith (r := w64 (x_99 + 1)) hm rfl rfl rfl (.inl ⟨rfl, rfl⟩) ?_
        clear hm a; intro a hm
        refine s_assign hm rfl rfl ?_
        clear hm a; intro a hm
        refine wpList_nil ?_
        replace hm : Fr 90 a [(0, .int .i64 (w64 ((Int.tmod (band .i64 x0 255) 5) + 1))), (2, .bool false), (3, v_109), (4, .int .i64 (w64 (x_99 + 1)))] := hm.keep [0, 2, 3, 4]
        refine x_then_n (hKL_100 _ _ ?_)
        replace hS : Sep w0 w_124 [N_122, M_95, M_111, Mem.no, Mem.no] Z := hS
        replace hm : Fr 90 a [(0, .int .i64 (w64 ((Int.tmod (band .i64 x0 255) 5) + 1))), (2, .bool false), (3, v_109), (4, .int .i64 (w64 (x_99 + 1)))] := hm.keep [0, 2, 3, 4]
        exact ⟨t_105.1, w64 (x_99 + 1), v_109, N_122, M_111, H, hm, (Sep.sel hS [0, 2] (by decide)), (le_93.trans (le_108.trans le_122)), hr_110⟩
    clear hKJ_121
    refine wp_region_lit ?_
    refine s_fieldAddr hm rfl Try.underlying28 rfl ti23 rfl rfl ?_
    clear hm a; intro a hm
    refine s_load hm rfl rfl (hS.load_one (p := 4) rfl Try.underlying23 rfl rfl) ?_
    clear hm a; intro a hm
    refine s_cmp (b := (t_105.2.Err != 0)) hm rfl rfl rfl (.inr (.inl ⟨rfl, rfl⟩)) ?_
    clear hm a; intro a hm
    refine s_move hm rfl rfl ?_
    clear hm a; intro a hm
    by_cases hc_127 : t_105.2.Err = 0
    · rw [if_pos hc_127] at H
      refine s_on hm rfl rfl (bne_eq_false_iff_eq.2 hc_127) ?_
      refine s_fieldAddr hm rfl Try.underlying28 rfl ti3 rfl rfl ?_
      clear hm a; intro a hm
      refine s_on hm rfl rfl (bne_eq_false_iff_eq.2 hc_127) ?_
      refine s_load hm rfl rfl (hS.load_one (p := 4) rfl Try.underlying3 rfl rfl) ?_
      clear hm a; intro a hm
      refine s_on hm rfl rfl (bne_eq_false_iff_eq.2 hc_127) ?_
      refine s_move hm rfl rfl ?_
      clear hm a; intro a hm
      refine s_on hm rfl rfl (bne_eq_false_iff_eq.2 hc_127) ?_
      refine s_cmp (b := (t_105.2.N != x_99)) hm rfl rfl rfl (.inr (.inl ⟨rfl, rfl⟩)) ?_
      clear hm a; intro a hm
      refine s_pick_f hm rfl rfl (bne_eq_false_iff_eq.2 hc_127) rfl ?_
      clear hm a; intro a hm
      refine wpList_nil ?_
      replace hm : Fr 90 a [(0, .int .i64 (w64 ((Int.tmod (band .i64 x0 255) 5) + 1))), (2, .bool false), (3, v_97), (4, .int .i64 x_99), (5, v_109), (36, .bool (t_105.2.N != x_99))] := hm.keep [0, 2, 3, 4, 5, 36]
      replace hS : Sep w0 w_119 [N_108, M_95, M_111, M_115, Mem.one g_118 (.cells ([.int .i64 t_105.2.Err, v_113, .int .i64 t_105.2.N] : List Value).toArray 28 (0, 0))] Z := hS
      replace hm : Fr 90 a [(0, .int .i64 (w64 ((Int.tmod (band .i64 x0 255) 5) + 1))), (2, .bool false), (3, v_97), (4, .int .i64 x_99), (5, v_109), (36, .bool (t_105.2.N != x_99))] := hm.keep [0, 2, 3, 4, 5, 36]
      exact x_then_n (hJ_j_125 (t_105.2.N != x_99) H _ _ ⟨N_108, hm, (Sep.sel hS [0, 1, 2, 1002, 1003] (by decide)), (Mem.le.refl _)⟩)
    · rw [if_neg hc_127] at H
      refine s_off hm rfl rfl rfl (bne_iff_ne.2 hc_127) ?_
      clear hm a; intro a hm
      refine s_off hm rfl rfl rfl (bne_iff_ne.2 hc_127) ?_
      clear hm a; intro a hm
      refine s_off hm rfl rfl rfl (bne_iff_ne.2 hc_127) ?_
      clear hm a; intro a hm
      refine s_off hm rfl rfl rfl (bne_iff_ne.2 hc_127) ?_
      clear hm a; intro a hm
      refine s_pick_t hm rfl rfl (bne_iff_ne.2 hc_127) rfl ?_
      clear hm a; intro a hm
      refine wpList_nil ?_
      replace hm : Fr 90 a [(0, .int .i64 (w64 ((Int.tmod (band .i64 x0 255) 5) + 1))), (2, .bool false), (3, v_97), (4, .int .i64 x_99), (5, v_109), (36, .bool true)] := hm.keep [0, 2, 3, 4, 5, 36]
      replace hS : Sep w0 w_119 [N_108, M_95, M_111, M_115, Mem.one g_118 (.cells ([.int .i64 t_105.2.Err, v_113, .int .i64 t_105.2.N] : List Value).toArray 28 (0, 0))] Z := hS
      replace hm : Fr 90 a [(0, .int .i64 (w64 ((Int.tmod (band .i64 x0 255) 5) + 1))), (2, .bool false), (3, v_97), (4, .int .i64 x_99), (5, v_109), (36, .bool true)] := hm.keep [0, 2, 3, 4, 5, 36]
      exact x_then_n (hJ_j_125 true H _ _ ⟨N_108, hm, (Sep.sel hS [0, 1, 2, 1002, 1003] (by decide)), (Mem.le.refl _)⟩)
  · rw [if_neg hc_104] at H
    refine c_cond_f hm rfl (decide_eq_false hc_104) ?_
    refine wp_exit (x_then_x (x_then_x (x_block_t ?_)))
    replace hS : Sep w0 w_100 [N_93, M_95] Z := hS
    replace hm : Fr 90 a [(0, .int .i64 (w64 ((Int.tmod (band .i64 x0 255) 5) + 1))), (2, .bool false), (3, v_97)] := hm.keep [0, 2, 3]
    exact x_then_n (hJ_j_9 x_94 H _ _ ⟨v_97, N_93, M_95, hm, (Sep.sel hS [0, 1] (by decide)), le_93, ho_98⟩)


end Go.Proofs
