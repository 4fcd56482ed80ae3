/- What the calls do: each function once. -/
import Derived.Test.YtbjefkmbpbdhbaaFacts
namespace Go.Proofs
open Go.Gp
set_option linter.unusedVariables false
set_option maxHeartbeats 4000000 in
theorem slices_Clone_sbyte_byte.calls (x0 : List UInt8) (p0_0 : Value) (r : List UInt8) (w0 w : World) (Z A : Mem) (hA : A.le Z) (hS : Sep w0 w [] Z) (hp0_0 : Rd Kd.u8 A p0_0 x0)
    (H : slices_Clone_sbyte_byte.f x0 = some r) :
    Calls Try.prog 42 [p0_0].toArray w (Ret fun v w' => ∃ (u0 : Value) (N : Mem) (M0 : Mem), v = u0 ∧ Sep w0 w' [N, M0] Z ∧ Own Kd.u8 5 M0 Mem.no u0 r) := by
  unfold slices_Clone_sbyte_byte.f at H
  refine f_enter _ Try.func42 rfl Try.ntmps42 rfl fun a hm => ?_
  replace hm : Fr 8 a [(0, p0_0)] := hm
  replace hS := hS.start
  replace hS : Sep w0 w [Mem.no] Z := hS
  refine wp_seq ?_
  refine wp_region_lit ?_
  refine s_assign hm rfl rfl ?_
  clear hm a; intro a hm
  refine wpList_nil ?_
  replace hm : Fr 8 a [(0, p0_0)] := hm.keep [0]
  refine x_then_n ?_
  refine c_seq fun KJ hKJ => ?_
  refine wp_seq ?_
  refine wp_region_lit ?_
  refine s_move hm rfl rfl ?_
  clear hm a; intro a hm
  refine s_slNil hm rfl Try.underlying25 rfl hp0_0 fun b hb => ?_
  clear hm a; intro a hm
  refine wpList_nil ?_
  refine x_then_n ?_
  cases b with
  | true =>
    have hx := hb rfl
    subst hx
    refine c_cond_t hm rfl rfl ?_
    refine wp_seq ?_
    refine wp_region_lit ?_
    refine s_assign hm rfl rfl ?_
    clear hm a; intro a hm
    refine wpList_nil ?_
    replace hm : Fr 8 a [(2, .slice none 0 0)] := hm.keep [2]
    refine x_then_n ?_
    refine wp_ret (x_then_r ?_)
    obtain rfl := (app_some H).2
    replace hS := hS.room
    exact f_ret hm (rs := [.tmp 2]) rfl (.tmp rfl .nil) ⟨_, rfl, _, Mem.no, Mem.no, rfl, hS, Own.nil _ _ _⟩
  | false =>
    refine c_cond_f hm rfl rfl ?_
    refine wp_skip ?_
    refine x_then_n (hKJ _ _ ?_)
    refine wp_seq ?_
    refine wp_region_lit ?_
    have hq5 : Reps Kd.u8 Mem.no ([] : List UInt8) _ := (Reps.nil Kd.u8 _)
    refine s_buildSlice hm rfl Try.underlying25 ti5 rfl rfl rfl .nil rfl rfl rfl hS hq5 rfl ?_
    intro w1 v2 M3 hS' ho4
    clear hm a; intro a hm
    replace hS : Sep w0 w1 [Mem.no, M3] Z := hS'
    clear hS' hq5
    refine s_move hm rfl rfl ?_
    clear hm a; intro a hm
    refine s_append (J := Mem.no) (I' := Mem.no) (p := 1) 140737488355328 hm rfl rfl rfl Try.underlying25 ti5 rfl rfl rfl rfl hS rfl ho4 (Src.flat flat_u8 (hp0_0.src (hA.trans hS.old))) (Mem.le.refl _) (Mem.le.refl _) H ?_
    intro w8 v9 M10 hS' ho11
    clear hm a; intro a hm
    refine s_assign hm rfl rfl ?_
    clear hm a; intro a hm
    refine wpList_nil ?_
    replace hm : Fr 8 a [(2, v9)] := hm.keep [2]
    refine x_then_n ?_
    refine wp_ret ?_
    exact f_ret hm (rs := [.tmp 2]) rfl (.tmp rfl .nil) ⟨_, rfl, _, Mem.no, M10, rfl, hS', ho11⟩

set_option maxHeartbeats 4000000 in
set_option maxRecDepth 20000 in
theorem pack_Read.calls (x0 : List UInt8) (p0_0 : Value) (r : (List UInt8) × Bool) (w0 w : World) (Z A : Mem) (hA : A.le Z) (hS : Sep w0 w [] Z) (hp0_0 : Rd Kd.u8 A p0_0 x0)
    (H : pack_Read.f x0 = some r) :
    Calls Try.prog 28 [p0_0].toArray w (Ret fun v w' => ∃ (u0 : Nat) (u1 : Value) (N : Mem), v = .pointer (some ⟨u0, 0, none⟩) ∧ Sep w0 w' [N, Mem.one u0 (.cells ([u1, .bool r.2] : List Value).toArray 66 (0, 0))] Z ∧ Rd Kd.u8 N u1 r.1) := by
  unfold pack_Read.f at H
  refine f_enter _ Try.func28 rfl Try.ntmps28 rfl fun a hm => ?_
  replace hm : Fr 7 a [(0, p0_0)] := hm
  replace hS := hS.start
  replace hS : Sep w0 w [Mem.no] Z := hS
  refine wp_seq ?_
  refine wp_region_lit ?_
  refine s_assign hm rfl rfl ?_
  clear hm a; intro a hm
  refine wpList_nil ?_
  replace hm : Fr 7 a [(0, p0_0), (2, .pointer none)] := hm.keep [0, 2]
  refine x_then_n ?_
  refine wp_seq ?_
  refine wp_region_lit ?_
  refine s_move hm rfl rfl ?_
  clear hm a; intro a hm
  obtain ⟨t_1, et_1, H⟩ := Option.bind_eq_some_iff.1 H
  refine s_call hm rfl Try.call42 rfl (slices_Clone_sbyte_byte.calls x0 _ t_1 w0 _ _ _ (Mem.le.refl _) (hS.enter [] (by decide)) (hp0_0.mono (hA.trans (hS.le_zed []))) et_1) ?_
  rintro v_5 w_2 ⟨_, N_3, M_7, rfl, hS', hr_6⟩
  clear hm a; intro a hm
  obtain ⟨N_4, hS'', le_4, ln_4⟩ := hS.call [] (by decide) rfl (l' := []) (ow := [M_7]) rfl hS'
  replace hS : Sep w0 w_2 [N_4, M_7] Z := hS''
  clear hS' hS''
  refine s_build hm rfl ti66 pl66 rfl (.cons hr_6.cells .nil) (cs := [v_5, .bool false]) rfl ?_
  clear hm a; intro a hm
  refine v_box (vs := [v_5, .bool false]) hm rfl rfl rfl hS ?_
  intro w_9 g_10 hS'
  clear hm a; intro a hm
  replace hS : Sep w0 w_9 [N_4, M_7, Mem.one g_10 (.cells ([v_5, .bool false] : List Value).toArray 66 (0, 0))] Z := hS'
  clear hS'
  refine s_assign hm rfl rfl ?_
  clear hm a; intro a hm
  refine wpList_nil ?_
  replace hm : Fr 7 a [(2, .pointer (some ⟨g_10, 0, none⟩))] := hm.keep [2]
  refine x_then_n ?_
  refine wp_ret ?_
  obtain ⟨N_11, hS', le_11, lo_11⟩ := hS.freeze 0 rfl
  replace hS : Sep w0 w_9 [N_11, Mem.no, Mem.one g_10 (.cells ([v_5, .bool false] : List Value).toArray 66 (0, 0))] Z := hS'
  clear hS'
  obtain rfl := Option.some.inj H
  exact f_ret hm (rs := [.tmp 2]) rfl (.tmp rfl .nil) ⟨_, rfl, g_10, v_5, N_11, rfl, (Sep.sel hS [0, 2] (by decide)), (hr_6.rd lo_11 (Mem.no_le _))⟩

set_option maxHeartbeats 4000000 in
set_option maxRecDepth 20000 in
theorem pack_held.calls (x0 : Int) (r : Int) (w0 w : World) (Z A : Mem) (hA : A.le Z) (hS : Sep w0 w [] Z)
    (H : pack_held.f x0 = some r) :
    Calls Try.prog 47 [.int .i64 x0].toArray w (Ret fun v w' => ∃ (N : Mem), v = .int .i64 r ∧ Sep w0 w' [N] Z) := by
  unfold pack_held.f at H
  refine f_enter _ Try.func47 rfl Try.ntmps47 rfl fun a hm => ?_
  replace hm : Fr 6 a [(0, .int .i64 x0)] := hm
  replace hS := hS.start
  replace hS : Sep w0 w [Mem.no] Z := hS
  refine wp_seq ?_
  refine wp_region_lit ?_
  refine s_assign hm rfl rfl ?_
  clear hm a; intro a hm
  refine wpList_nil ?_
  replace hm : Fr 6 a [(0, .int .i64 x0), (2, .int .i64 0)] := hm.keep [0, 2]
  refine x_then_n ?_
  refine wp_seq ?_
  refine wp_region_lit ?_
  refine s_move hm rfl rfl ?_
  clear hm a; intro a hm
  refine s_max hm rfl rfl rfl ?_
  clear hm a; intro a hm
  refine s_min hm rfl rfl rfl ?_
  clear hm a; intro a hm
  refine s_assign hm rfl rfl ?_
  clear hm a; intro a hm
  refine wpList_nil ?_
  replace hm : Fr 6 a [(2, .int .i64 (mn (mx x0 0) 4611686018427387904))] := hm.keep [2]
  refine x_then_n ?_
  refine wp_ret ?_
  obtain rfl := Option.some.inj H
  exact f_ret hm (rs := [.tmp 2]) rfl (.tmp rfl .nil) ⟨_, rfl, Mem.no, rfl, (Sep.sel hS [0] (by decide))⟩

set_option maxHeartbeats 4000000 in
set_option maxRecDepth 20000 in
theorem pack_Reader_fail.calls (g0 : Nat) (x0_b : List UInt8) (p0_0 : Value) (x0_bad : Bool) (r : Int × (List UInt8) × Bool) (w0 w : World) (Z A : Mem) (hA : A.le Z) (hS : Sep w0 w [Mem.one g0 (.cells ([p0_0, .bool x0_bad] : List Value).toArray 66 (0, 0))] Z) (hp0_0 : Rd Kd.u8 A p0_0 x0_b)
    (H : pack_Reader_fail.f x0_b x0_bad = some r) :
    Calls Try.prog 48 [.pointer (some ⟨g0, 0, none⟩)].toArray w (Ret fun v w' => ∃ (u0 : Value) (N : Mem), v = .int .i64 r.1 ∧ Sep w0 w' [N, Mem.one g0 (.cells ([u0, .bool r.2.2] : List Value).toArray 66 (0, 0))] Z ∧ Rd Kd.u8 (A.un N) u0 r.2.1) := by
  unfold pack_Reader_fail.f at H
  refine f_enter _ Try.func48 rfl Try.ntmps48 rfl fun a hm => ?_
  replace hm : Fr 9 a [(0, .pointer (some ⟨g0, 0, none⟩))] := hm
  replace hS := hS.start
  replace hS : Sep w0 w [Mem.no, Mem.one g0 (.cells ([p0_0, .bool x0_bad] : List Value).toArray 66 (0, 0))] Z := hS
  refine wp_seq ?_
  refine wp_region_lit ?_
  refine s_assign hm rfl rfl ?_
  clear hm a; intro a hm
  refine wpList_nil ?_
  replace hm : Fr 9 a [(0, .pointer (some ⟨g0, 0, none⟩)), (2, .int .i64 0)] := hm.keep [0, 2]
  refine x_then_n ?_
  refine wp_seq ?_
  refine wp_region_lit ?_
  refine s_move hm rfl rfl ?_
  clear hm a; intro a hm
  refine s_move hm rfl rfl ?_
  clear hm a; intro a hm
  refine s_nilCheck hm rfl rfl ?_
  clear hm a; intro a hm
  refine s_fieldAddr hm rfl Try.underlying66 rfl ti25 rfl rfl ?_
  clear hm a; intro a hm
  obtain ⟨w_1, hs', hS'⟩ := hS.store (P := Try.prog) (p := 1) (o := 0) (t := 25) (v := .slice none 0 0) (vs := [.slice none 0 0]) rfl ti25 rfl rfl rfl (by intro u hu; simp only [List.mem_cons, List.not_mem_nil, or_false] at hu; rcases hu with rfl <;> rfl)
  refine s_store hm rfl rfl hs' ?_
  replace hS : Sep w0 w_1 [Mem.no, Mem.one g0 (.cells ([.slice none 0 0, .bool x0_bad] : List Value).toArray 66 (0, 0))] Z := hS'
  clear hs' hS'
  refine s_nilCheck hm rfl rfl ?_
  clear hm a; intro a hm
  refine s_fieldAddr hm rfl Try.underlying66 rfl ti4 rfl rfl ?_
  clear hm a; intro a hm
  obtain ⟨w_2, hs', hS'⟩ := hS.store (P := Try.prog) (p := 1) (o := 1) (t := 4) (v := .bool true) (vs := [.bool true]) rfl ti4 rfl rfl rfl (by intro u hu; simp only [List.mem_cons, List.not_mem_nil, or_false] at hu; rcases hu with rfl <;> rfl)
  refine s_store hm rfl rfl hs' ?_
  replace hS : Sep w0 w_2 [Mem.no, Mem.one g0 (.cells ([.slice none 0 0, .bool true] : List Value).toArray 66 (0, 0))] Z := hS'
  clear hs' hS'
  refine wpList_nil ?_
  replace hm : Fr 9 a [(2, .int .i64 0)] := hm.keep [2]
  refine x_then_n ?_
  refine wp_seq ?_
  refine wp_region_lit ?_
  refine s_assign hm rfl rfl ?_
  clear hm a; intro a hm
  refine wpList_nil ?_
  replace hm : Fr 9 a [(2, .int .i64 0)] := hm.keep [2]
  refine x_then_n ?_
  refine wp_ret ?_
  obtain rfl := Option.some.inj H
  exact f_ret hm (rs := [.tmp 2]) rfl (.tmp rfl .nil) ⟨_, rfl, .slice none 0 0, Mem.no, rfl, (Sep.sel hS [0, 1] (by decide)), (Rd.nil _ _)⟩

set_option maxHeartbeats 4000000 in
set_option maxRecDepth 20000 in
theorem pack_Reader_Num.calls (K : Nat) (g0 : Nat) (x0_b : List UInt8) (p0_0 : Value) (x0_bad : Bool) (x1 : Int) (r : Int × (List UInt8) × Bool) (w0 w : World) (Z A : Mem) (hA : A.le Z) (hS : Sep w0 w [Mem.one g0 (.cells ([p0_0, .bool x0_bad] : List Value).toArray 66 (0, 0))] Z) (hp0_0 : Rd Kd.u8 A p0_0 x0_b)
    (H : pack_Reader_Num.f K x0_b x0_bad x1 = some r) :
    Calls Try.prog 29 [.pointer (some ⟨g0, 0, none⟩), .int .i64 x1].toArray w (Ret fun v w' => ∃ (u0 : Value) (N : Mem), v = .int .i64 r.1 ∧ Sep w0 w' [N, Mem.one g0 (.cells ([u0, .bool r.2.2] : List Value).toArray 66 (0, 0))] Z ∧ Rd Kd.u8 (A.un N) u0 r.2.1) := by
  unfold pack_Reader_Num.f at H
  refine f_enter _ Try.func29 rfl Try.ntmps29 rfl fun a hm => ?_
  replace hm : Fr 56 a [(0, .pointer (some ⟨g0, 0, none⟩)), (1, .int .i64 x1)] := hm
  replace hS := hS.start
  replace hS : Sep w0 w [Mem.no, Mem.one g0 (.cells ([p0_0, .bool x0_bad] : List Value).toArray 66 (0, 0))] Z := hS
  refine wp_seq ?_
  refine wp_region_lit ?_
  refine s_assign hm rfl rfl ?_
  clear hm a; intro a hm
  refine wpList_nil ?_
  replace hm : Fr 56 a [(0, .pointer (some ⟨g0, 0, none⟩)), (1, .int .i64 x1), (4, .int .i64 0)] := hm.keep [0, 1, 4]
  refine x_then_n ?_
  refine wp_seq ?_
  refine wp_region_lit ?_
  refine s_assign hm rfl rfl ?_
  clear hm a; intro a hm
  refine wpList_nil ?_
  replace hm : Fr 56 a [(0, .pointer (some ⟨g0, 0, none⟩)), (1, .int .i64 x1), (4, .int .i64 0), (5, .int .i64 0)] := hm.keep [0, 1, 4, 5]
  refine x_then_n ?_
  refine c_seq fun KJ_1 hKJ_1 => ?_
  refine wp_seq ?_
  refine wp_region_lit ?_
  refine s_move hm rfl rfl ?_
  clear hm a; intro a hm
  refine s_nilCheck hm rfl rfl ?_
  clear hm a; intro a hm
  refine s_fieldAddr hm rfl Try.underlying66 rfl ti25 rfl rfl ?_
  clear hm a; intro a hm
  refine s_load hm rfl rfl (hS.load_one (p := 1) rfl Try.underlying25 rfl rfl) ?_
  clear hm a; intro a hm
  refine s_len hm rfl Try.underlying25 rfl hp0_0 ?_
  clear hm a; intro a hm
  refine s_move hm rfl rfl ?_
  clear hm a; intro a hm
  refine wpList_nil ?_
  replace hm : Fr 56 a [(0, .pointer (some ⟨g0, 0, none⟩)), (1, .int .i64 x1), (4, .int .i64 0), (5, .int .i64 0), (11, p0_0), (12, .int .i64 (x0_b.length : Int)), (13, .int .i64 0)] := hm.keep [0, 1, 4, 5, 11, 12, 13]
  refine x_then_n ?_
  have hJ_j_4 : pack_Reader_Num.J1 K x0_b x0_bad = some r → ∀ (a : Act) (w_3 : World), (∃ (N_2 : Mem), Fr 56 a [(0, .pointer (some ⟨g0, 0, none⟩)), (4, .int .i64 0)] ∧ Sep w0 w_3 [N_2, Mem.one g0 (.cells ([p0_0, .bool x0_bad] : List Value).toArray 66 (0, 0))] Z ∧ Mem.no.le N_2) → KJ_1 a w_3 := by
    clear H hm hS a
    rintro H a w_3 ⟨N_2, hm, hS, le_2⟩
    unfold pack_Reader_Num.J1 at H
    refine hKJ_1 _ _ ?_
    refine wp_seq ?_
    refine wp_region_lit ?_
    refine s_move hm rfl rfl ?_
    clear hm a; intro a hm
    obtain ⟨t_5, et_5, H⟩ := Option.bind_eq_some_iff.1 H
    refine s_call hm rfl Try.call48 rfl (pack_Reader_fail.calls _ x0_b _ x0_bad t_5 w0 _ _ A (hA.trans (hS.le_zed [0])) (hS.enter [0] (by decide)) hp0_0 et_5) ?_
    rintro _ w_6 ⟨v_9, N_7, rfl, hS', hr_10⟩
    clear hm a; intro a hm
    obtain ⟨N_8, hS'', le_8, ln_8⟩ := hS.call [0] (by decide) rfl (l' := [Mem.one g0 (.cells ([v_9, .bool t_5.2.2] : List Value).toArray 66 (0, 0))]) (ow := []) rfl hS'
    replace hS : Sep w0 w_6 [N_8, Mem.one g0 (.cells ([v_9, .bool t_5.2.2] : List Value).toArray 66 (0, 0))] Z := hS''
    clear hS' hS''
    have hr_11 : Rd Kd.u8 (A.un N_8) v_9 t_5.2.1 := hr_10.mono (Mem.un_left ln_8)
    refine s_assign hm rfl rfl ?_
    clear hm a; intro a hm
    refine wpList_nil ?_
    replace hm : Fr 56 a [(4, .int .i64 t_5.1)] := hm.keep [4]
    refine x_then_n ?_
    refine wp_ret ?_
    obtain rfl := Option.some.inj H
    exact f_ret hm (rs := [.tmp 4]) rfl (.tmp rfl .nil) ⟨_, rfl, v_9, N_8, rfl, (Sep.sel hS [0, 1] (by decide)), hr_11⟩
  clear hKJ_1
  replace hS : Sep w0 w [Mem.no, Mem.one g0 (.cells ([p0_0, .bool x0_bad] : List Value).toArray 66 (0, 0))] Z := hS
  replace hm : Fr 56 a [(0, .pointer (some ⟨g0, 0, none⟩)), (1, .int .i64 x1), (4, .int .i64 0), (5, .int .i64 0), (11, p0_0), (12, .int .i64 (x0_b.length : Int)), (13, .int .i64 0)] := hm.keep [0, 1, 4, 5, 11, 12, 13]
  refine c_block ?_
  refine c_loop (fun k_15 a w_15 => ∃ (x_13 : Int) (x_14 : Int) (N_12 : Mem), pack_Reader_Num.L1 K x0_b x1 x0_bad (fun v => pack_Reader_Num.J1 K x0_b x0_bad) k_15 (x_13, x_14) = some r ∧ Fr 56 a [(0, .pointer (some ⟨g0, 0, none⟩)), (1, .int .i64 x1), (4, .int .i64 0), (5, .int .i64 x_13), (11, p0_0), (12, .int .i64 (x0_b.length : Int)), (13, .int .i64 x_14)] ∧ Sep w0 w_15 [N_12, Mem.one g0 (.cells ([p0_0, .bool x0_bad] : List Value).toArray 66 (0, 0))] Z ∧ Mem.no.le N_12) K ⟨0, 0, Mem.no, H, hm, (Sep.sel hS [0, 1] (by decide)), (Mem.le.refl _)⟩ (fun a w h => by obtain ⟨_, _, _, H, _⟩ := h; cases (show (none : Option (Int × (List UInt8) × Bool)) = some r from H)) ?_
  clear hm hS a H
  rintro k_15 a w_15 KL_15 hKL_15 ⟨x_13, x_14, N_12, H, hm, hS, le_12⟩
  replace H : pack_Reader_Num.B1 K x0_b x1 x0_bad (fun v => pack_Reader_Num.J1 K x0_b x0_bad) (pack_Reader_Num.L1 K x0_b x1 x0_bad (fun v => pack_Reader_Num.J1 K x0_b x0_bad) k_15) x_13 x_14 = some r := H
  unfold pack_Reader_Num.B1 at H
  refine wp_seq ?_
  refine wp_region_lit ?_
  refine s_cmp (b := decide (x_14 < (x0_b.length : Int))) hm rfl rfl rfl (.inr (.inr (.inl ⟨rfl, rfl⟩))) ?_
  clear hm a; intro a hm
  refine wpList_nil ?_
  replace hm : Fr 56 a [(0, .pointer (some ⟨g0, 0, none⟩)), (1, .int .i64 x1), (4, .int .i64 0), (5, .int .i64 x_13), (11, p0_0), (12, .int .i64 (x0_b.length : Int)), (13, .int .i64 x_14), (14, .bool (decide (x_14 < (x0_b.length : Int))))] := hm.keep [0, 1, 4, 5, 11, 12, 13, 14]
  refine x_then_n ?_
  refine c_seq fun KJ_17 hKJ_17 => ?_
  by_cases hc_18 : x_14 < (x0_b.length : Int)
  · rw [if_pos hc_18] at H
    refine c_cond_t hm rfl (decide_eq_true hc_18) ?_
    refine wp_skip ?_
    refine x_then_n (hKJ_17 _ _ ?_)
    refine wp_seq ?_
    refine c_block ?_
    refine wp_seq ?_
    refine wp_region_lit ?_
    refine s_move hm rfl rfl ?_
    clear hm a; intro a hm
    obtain ⟨t_19, et_19, H⟩ := Option.bind_eq_some_iff.1 H
    refine v_index hm rfl Try.underlying25 ti5 rfl rfl rfl hp0_0 (hA.trans hS.old) et_19 ?_
    intro ad_20 cs_21 hk_22 hc_23
    obtain rfl := (show cs_21 = [.int .u8 (t_19.toNat : Int)] from hk_22)
    clear hm a; intro a hm
    refine s_load hm rfl rfl (el_one (o := 0) hc_23 Try.underlying5 rfl rfl) ?_
    clear hm a; intro a hm
    refine s_assign hm rfl rfl ?_
    clear hm a; intro a hm
    refine s_assign hm rfl rfl ?_
    clear hm a; intro a hm
    refine wpList_nil ?_
    replace hm : Fr 56 a [(0, .pointer (some ⟨g0, 0, none⟩)), (1, .int .i64 x1), (4, .int .i64 0), (5, .int .i64 x_13), (6, .int .i64 x_14), (7, .int .u8 (t_19.toNat : Int)), (11, p0_0), (12, .int .i64 (x0_b.length : Int)), (13, .int .i64 x_14)] := hm.keep [0, 1, 4, 5, 6, 7, 11, 12, 13]
    refine x_then_n ?_
    refine c_seq fun KJ_24 hKJ_24 => ?_
    refine c_seq fun KJ_25 hKJ_25 => ?_
    have hJ_j_29 : ∀ (x_27 : Bool), pack_Reader_Num.J2 K (fun v => pack_Reader_Num.J1 K x0_b x0_bad) x_14 t_19 (pack_Reader_Num.L1 K x0_b x1 x0_bad (fun v => pack_Reader_Num.J1 K x0_b x0_bad) k_15) x_13 x1 x0_b x0_bad x_27 = some r → ∀ (a : Act) (w_28 : World), (∃ (N_26 : Mem), Fr 56 a [(0, .pointer (some ⟨g0, 0, none⟩)), (1, .int .i64 x1), (4, .int .i64 0), (5, .int .i64 x_13), (6, .int .i64 x_14), (7, .int .u8 (t_19.toNat : Int)), (11, p0_0), (12, .int .i64 (x0_b.length : Int)), (13, .int .i64 x_14), (27, .bool x_27)] ∧ Sep w0 w_28 [N_26, Mem.one g0 (.cells ([p0_0, .bool x0_bad] : List Value).toArray 66 (0, 0))] Z ∧ N_12.le N_26) → KJ_25 a w_28 := by
      clear H hm hS a
      rintro x_27 H a w_28 ⟨N_26, hm, hS, le_26⟩
      unfold pack_Reader_Num.J2 at H
      refine hKJ_25 _ _ ?_
      by_cases hc_30 : x_27 = true
      · rw [if_pos hc_30] at H
        refine c_cond_t hm rfl hc_30 ?_
        refine wp_exit (x_then_x (x_block_x rfl (x_then_x (x_then_x (x_block_t ?_)))))
        replace hS : Sep w0 w_28 [N_26, Mem.one g0 (.cells ([p0_0, .bool x0_bad] : List Value).toArray 66 (0, 0))] Z := hS
        replace hm : Fr 56 a [(0, .pointer (some ⟨g0, 0, none⟩)), (4, .int .i64 0)] := hm.keep [0, 4]
        exact x_then_n (hJ_j_4  H _ _ ⟨N_26, hm, (Sep.sel hS [0, 1] (by decide)), (le_12.trans le_26)⟩)
      · rw [if_neg hc_30] at H
        refine c_cond_f hm rfl (Bool.eq_false_iff.2 hc_30) ?_
        refine wp_skip ?_
        refine x_then_n (hKJ_24 _ _ ?_)
        refine wp_seq ?_
        refine wp_region_lit ?_
        refine s_move hm rfl rfl ?_
        clear hm a; intro a hm
        refine s_move hm rfl rfl ?_
        clear hm a; intro a hm
        refine s_bits (i := (t_19.toNat : Int)) (j := ((127 : UInt8).toNat : Int)) (r := ((t_19 &&& (127 : UInt8)).toNat : Int)) hm rfl rfl rfl (.inl ⟨rfl, (band8 _ _).symm⟩) ?_
        clear hm a; intro a hm
        refine s_conv (((t_19 &&& (127 : UInt8)).toNat : Int)) hm rfl Try.underlying5 Try.underlying3 rfl (w64_nat8 _).symm ?_
        clear hm a; intro a hm
        refine s_move hm rfl rfl ?_
        clear hm a; intro a hm
        refine s_arith (r := w64 (7 * x_14)) hm rfl rfl rfl (.inr (.inr ⟨rfl, rfl⟩)) ?_
        clear hm a; intro a hm
        obtain ⟨u_31, eu_31, H⟩ := Option.bind_eq_some_iff.1 H
        refine s_shift (r := shl .i64 ((t_19 &&& (127 : UInt8)).toNat : Int) (w64 (7 * x_14))) hm rfl rfl rfl (must_some eu_31) (.inl ⟨rfl, rfl⟩) ?_
        clear hm a; intro a hm
        refine s_bits (i := x_13) (j := shl .i64 ((t_19 &&& (127 : UInt8)).toNat : Int) (w64 (7 * x_14))) (r := bor .i64 x_13 (shl .i64 ((t_19 &&& (127 : UInt8)).toNat : Int) (w64 (7 * x_14)))) hm rfl rfl rfl (.inr (.inl ⟨rfl, rfl⟩)) ?_
        clear hm a; intro a hm
        refine s_assign hm rfl rfl ?_
        clear hm a; intro a hm
        refine wpList_nil ?_
        replace hm : Fr 56 a [(0, .pointer (some ⟨g0, 0, none⟩)), (1, .int .i64 x1), (4, .int .i64 0), (5, .int .i64 (bor .i64 x_13 (shl .i64 ((t_19 &&& (127 : UInt8)).toNat : Int) (w64 (7 * x_14))))), (6, .int .i64 x_14), (7, .int .u8 (t_19.toNat : Int)), (11, p0_0), (12, .int .i64 (x0_b.length : Int)), (13, .int .i64 x_14)] := hm.keep [0, 1, 4, 5, 6, 7, 11, 12, 13]
        refine x_then_n ?_
        refine c_seq fun KJ_32 hKJ_32 => ?_
        refine wp_seq ?_
        refine wp_region_lit ?_
        refine s_move hm rfl rfl ?_
        clear hm a; intro a hm
        refine s_cmp (b := decide ((t_19.toNat : Int) ≥ ((128 : UInt8).toNat : Int))) hm rfl rfl rfl (.inr (.inr (.inr (.inr (.inr ⟨rfl, rfl⟩))))) ?_
        clear hm a; intro a hm
        refine wpList_nil ?_
        replace hm : Fr 56 a [(0, .pointer (some ⟨g0, 0, none⟩)), (1, .int .i64 x1), (4, .int .i64 0), (5, .int .i64 (bor .i64 x_13 (shl .i64 ((t_19 &&& (127 : UInt8)).toNat : Int) (w64 (7 * x_14))))), (6, .int .i64 x_14), (11, p0_0), (12, .int .i64 (x0_b.length : Int)), (13, .int .i64 x_14), (37, .bool (decide ((t_19.toNat : Int) ≥ ((128 : UInt8).toNat : Int))))] := hm.keep [0, 1, 4, 5, 6, 11, 12, 13, 37]
        refine x_then_n ?_
        by_cases hc_33 : (t_19.toNat : Int) ≥ ((128 : UInt8).toNat : Int)
        · rw [if_pos hc_33] at H
          refine c_cond_t hm rfl (decide_eq_true hc_33) ?_
          refine wp_exit (x_then_x (x_block_t ?_))
          refine x_then_n ?_
          refine wp_region_lit ?_
          refine s_arith (r := w64 (x_14 + 1)) hm rfl rfl rfl (.inl ⟨rfl, rfl⟩) ?_
          clear hm a; intro a hm
          refine s_move hm rfl rfl ?_
          clear hm a; intro a hm
          refine wpList_nil ?_
          replace hm : Fr 56 a [(0, .pointer (some ⟨g0, 0, none⟩)), (1, .int .i64 x1), (4, .int .i64 0), (5, .int .i64 (bor .i64 x_13 (shl .i64 ((t_19 &&& (127 : UInt8)).toNat : Int) (w64 (7 * x_14))))), (11, p0_0), (12, .int .i64 (x0_b.length : Int)), (13, .int .i64 (w64 (x_14 + 1)))] := hm.keep [0, 1, 4, 5, 11, 12, 13]
          refine x_then_n (hKL_15 _ _ ?_)
          replace hS : Sep w0 w_28 [N_26, Mem.one g0 (.cells ([p0_0, .bool x0_bad] : List Value).toArray 66 (0, 0))] Z := hS
          replace hm : Fr 56 a [(0, .pointer (some ⟨g0, 0, none⟩)), (1, .int .i64 x1), (4, .int .i64 0), (5, .int .i64 (bor .i64 x_13 (shl .i64 ((t_19 &&& (127 : UInt8)).toNat : Int) (w64 (7 * x_14))))), (11, p0_0), (12, .int .i64 (x0_b.length : Int)), (13, .int .i64 (w64 (x_14 + 1)))] := hm.keep [0, 1, 4, 5, 11, 12, 13]
          exact ⟨bor .i64 x_13 (shl .i64 ((t_19 &&& (127 : UInt8)).toNat : Int) (w64 (7 * x_14))), w64 (x_14 + 1), N_26, H, hm, (Sep.sel hS [0, 1] (by decide)), (le_12.trans le_26)⟩
        · rw [if_neg hc_33] at H
          refine c_cond_f hm rfl (decide_eq_false hc_33) ?_
          refine wp_skip ?_
          refine x_then_n (hKJ_32 _ _ ?_)
          refine c_seq fun KJ_34 hKJ_34 => ?_
          refine wp_seq ?_
          refine wp_region_lit ?_
          refine s_move hm rfl rfl ?_
          clear hm a; intro a hm
          refine s_move hm rfl rfl ?_
          clear hm a; intro a hm
          obtain ⟨t_35, et_35, H⟩ := Option.bind_eq_some_iff.1 H
          refine s_call hm rfl Try.call47 rfl (pack_held.calls x1 t_35 w0 _ _ _ (Mem.le.refl _) (hS.enter [] (by decide))  et_35) ?_
          rintro _ w_36 ⟨N_37, rfl, hS'⟩
          clear hm a; intro a hm
          obtain ⟨N_38, hS'', le_38, ln_38⟩ := hS.call [] (by decide) rfl (l' := []) (ow := []) rfl hS'
          replace hS : Sep w0 w_36 [N_38, Mem.one g0 (.cells ([p0_0, .bool x0_bad] : List Value).toArray 66 (0, 0))] Z := hS''
          clear hS' hS''
          refine s_cmp (b := decide ((bor .i64 x_13 (shl .i64 ((t_19 &&& (127 : UInt8)).toNat : Int) (w64 (7 * x_14)))) > t_35)) hm rfl rfl rfl (.inr (.inr (.inr (.inr (.inl ⟨rfl, rfl⟩))))) ?_
          clear hm a; intro a hm
          refine wpList_nil ?_
          replace hm : Fr 56 a [(0, .pointer (some ⟨g0, 0, none⟩)), (1, .int .i64 x1), (4, .int .i64 0), (5, .int .i64 (bor .i64 x_13 (shl .i64 ((t_19 &&& (127 : UInt8)).toNat : Int) (w64 (7 * x_14))))), (6, .int .i64 x_14), (11, p0_0), (12, .int .i64 (x0_b.length : Int)), (13, .int .i64 x_14), (41, .bool (decide ((bor .i64 x_13 (shl .i64 ((t_19 &&& (127 : UInt8)).toNat : Int) (w64 (7 * x_14)))) > t_35)))] := hm.keep [0, 1, 4, 5, 6, 11, 12, 13, 41]
          refine x_then_n ?_
          by_cases hc_39 : (bor .i64 x_13 (shl .i64 ((t_19 &&& (127 : UInt8)).toNat : Int) (w64 (7 * x_14)))) > t_35
          · rw [if_pos hc_39] at H
            refine c_cond_t hm rfl (decide_eq_true hc_39) ?_
            refine wp_exit (x_then_x (x_block_x rfl (x_then_x (x_then_x (x_block_t ?_)))))
            replace hS : Sep w0 w_36 [N_38, Mem.one g0 (.cells ([p0_0, .bool x0_bad] : List Value).toArray 66 (0, 0))] Z := hS
            replace hm : Fr 56 a [(0, .pointer (some ⟨g0, 0, none⟩)), (4, .int .i64 0)] := hm.keep [0, 4]
            exact x_then_n (hJ_j_4  H _ _ ⟨N_38, hm, (Sep.sel hS [0, 1] (by decide)), (le_12.trans (le_26.trans le_38))⟩)
          · rw [if_neg hc_39] at H
            refine c_cond_f hm rfl (decide_eq_false hc_39) ?_
            refine wp_skip ?_
            refine x_then_n (hKJ_34 _ _ ?_)
            refine wp_seq ?_
            refine wp_region_lit ?_
            refine s_move hm rfl rfl ?_
            clear hm a; intro a hm
            refine s_move hm rfl rfl ?_
            clear hm a; intro a hm
            refine s_nilCheck hm rfl rfl ?_
            clear hm a; intro a hm
            refine s_fieldAddr hm rfl Try.underlying66 rfl ti25 rfl rfl ?_
            clear hm a; intro a hm
            refine s_load hm rfl rfl (hS.load_one (p := 1) rfl Try.underlying25 rfl rfl) ?_
            clear hm a; intro a hm
            refine s_move hm rfl rfl ?_
            clear hm a; intro a hm
            refine s_arith (r := w64 (x_14 + 1)) hm rfl rfl rfl (.inl ⟨rfl, rfl⟩) ?_
            clear hm a; intro a hm
            obtain ⟨t_40, et_40, H⟩ := Option.bind_eq_some_iff.1 H
            refine s_slice hm rfl Try.underlying25 ti5 rfl rfl hp0_0 rfl rfl et_40 ?_
            intro v_41 hr_42
            clear hm a; intro a hm
            refine s_nilCheck hm rfl rfl ?_
            clear hm a; intro a hm
            refine s_fieldAddr hm rfl Try.underlying66 rfl ti25 rfl rfl ?_
            clear hm a; intro a hm
            obtain ⟨w_43, hs', hS'⟩ := hS.store (P := Try.prog) (p := 1) (o := 0) (t := 25) (v := v_41) (vs := [v_41]) rfl ti25 hr_42.cellsA rfl rfl (by intro u hu; simp only [List.mem_cons, List.not_mem_nil, or_false] at hu; rcases hu with rfl <;> first | rfl | exact hr_42.one)
            refine s_store hm rfl rfl hs' ?_
            replace hS : Sep w0 w_43 [N_38, Mem.one g0 (.cells ([v_41, .bool x0_bad] : List Value).toArray 66 (0, 0))] Z := hS'
            clear hs' hS'
            refine wpList_nil ?_
            replace hm : Fr 56 a [(0, .pointer (some ⟨g0, 0, none⟩)), (1, .int .i64 x1), (4, .int .i64 0), (5, .int .i64 (bor .i64 x_13 (shl .i64 ((t_19 &&& (127 : UInt8)).toNat : Int) (w64 (7 * x_14))))), (11, p0_0), (12, .int .i64 (x0_b.length : Int)), (13, .int .i64 x_14)] := hm.keep [0, 1, 4, 5, 11, 12, 13]
            refine x_then_n ?_
            refine wp_seq ?_
            refine wp_region_lit ?_
            refine s_move hm rfl rfl ?_
            clear hm a; intro a hm
            refine s_assign hm rfl rfl ?_
            clear hm a; intro a hm
            refine wpList_nil ?_
            replace hm : Fr 56 a [(0, .pointer (some ⟨g0, 0, none⟩)), (1, .int .i64 x1), (4, .int .i64 (bor .i64 x_13 (shl .i64 ((t_19 &&& (127 : UInt8)).toNat : Int) (w64 (7 * x_14))))), (5, .int .i64 (bor .i64 x_13 (shl .i64 ((t_19 &&& (127 : UInt8)).toNat : Int) (w64 (7 * x_14))))), (11, p0_0), (12, .int .i64 (x0_b.length : Int)), (13, .int .i64 x_14)] := hm.keep [0, 1, 4, 5, 11, 12, 13]
            refine x_then_n ?_
            refine wp_ret (x_block_r (x_then_r (x_then_r (x_block_r (x_then_r ?_)))))
            obtain rfl := Option.some.inj H
            exact f_ret hm (rs := [.tmp 4]) rfl (.tmp rfl .nil) ⟨_, rfl, v_41, N_38, rfl, (Sep.sel hS [0, 1] (by decide)), (hr_42.mono (Mem.le_un _ _))⟩
    clear hKJ_25
    refine wp_region_lit ?_
    refine s_move hm rfl rfl ?_
    clear hm a; intro a hm
    refine s_cmp (b := decide (x_14 > 8)) hm rfl rfl rfl (.inr (.inr (.inr (.inr (.inl ⟨rfl, rfl⟩))))) ?_
    clear hm a; intro a hm
    refine s_move hm rfl rfl ?_
    clear hm a; intro a hm
    by_cases hc_44 : x_14 > 8
    · rw [if_pos hc_44] at H
      refine s_off hm rfl rfl rfl (decide_eq_true hc_44) ?_
      clear hm a; intro a hm
      refine s_off hm rfl rfl rfl (decide_eq_true hc_44) ?_
      clear hm a; intro a hm
      refine s_off hm rfl rfl rfl (decide_eq_true hc_44) ?_
      clear hm a; intro a hm
      refine s_offu hm rfl rfl rfl ?_
      clear hm a; intro a hm
      refine s_offu hm rfl rfl rfl ?_
      clear hm a; intro a hm
      refine s_off hm rfl rfl rfl (decide_eq_true hc_44) ?_
      clear hm a; intro a hm
      refine s_pick_t hm rfl rfl (decide_eq_true hc_44) rfl ?_
      clear hm a; intro a hm
      refine wpList_nil ?_
      replace hm : Fr 56 a [(0, .pointer (some ⟨g0, 0, none⟩)), (1, .int .i64 x1), (4, .int .i64 0), (5, .int .i64 x_13), (6, .int .i64 x_14), (7, .int .u8 (t_19.toNat : Int)), (11, p0_0), (12, .int .i64 (x0_b.length : Int)), (13, .int .i64 x_14), (27, .bool true)] := hm.keep [0, 1, 4, 5, 6, 7, 11, 12, 13, 27]
      replace hS : Sep w0 w_15 [N_12, Mem.one g0 (.cells ([p0_0, .bool x0_bad] : List Value).toArray 66 (0, 0))] Z := hS
      replace hm : Fr 56 a [(0, .pointer (some ⟨g0, 0, none⟩)), (1, .int .i64 x1), (4, .int .i64 0), (5, .int .i64 x_13), (6, .int .i64 x_14), (7, .int .u8 (t_19.toNat : Int)), (11, p0_0), (12, .int .i64 (x0_b.length : Int)), (13, .int .i64 x_14), (27, .bool true)] := hm.keep [0, 1, 4, 5, 6, 7, 11, 12, 13, 27]
      exact x_then_n (hJ_j_29 true H _ _ ⟨N_12, hm, (Sep.sel hS [0, 1] (by decide)), (Mem.le.refl _)⟩)
    · rw [if_neg hc_44] at H
      refine s_on hm rfl rfl (decide_eq_false hc_44) ?_
      refine s_move hm rfl rfl ?_
      clear hm a; intro a hm
      refine s_on hm rfl rfl (decide_eq_false hc_44) ?_
      refine s_cmp (b := ((t_19.toNat : Int) == ((0 : UInt8).toNat : Int))) hm rfl rfl rfl (.inl ⟨rfl, rfl⟩) ?_
      clear hm a; intro a hm
      refine s_on hm rfl rfl (decide_eq_false hc_44) ?_
      refine s_move hm rfl rfl ?_
      clear hm a; intro a hm
      by_cases hc_45 : (t_19.toNat : Int) = ((0 : UInt8).toNat : Int)
      · rw [if_pos hc_45] at H
        refine s_on hm rfl rfl (beq_iff_eq.2 hc_45) ?_
        refine s_move hm rfl rfl ?_
        clear hm a; intro a hm
        refine s_on hm rfl rfl (beq_iff_eq.2 hc_45) ?_
        refine s_cmp (b := decide (x_14 > 0)) hm rfl rfl rfl (.inr (.inr (.inr (.inr (.inl ⟨rfl, rfl⟩))))) ?_
        clear hm a; intro a hm
        refine s_on hm rfl rfl (decide_eq_false hc_44) ?_
        refine s_pick_t hm rfl rfl (beq_iff_eq.2 hc_45) rfl ?_
        clear hm a; intro a hm
        refine s_pick_f hm rfl rfl (decide_eq_false hc_44) rfl ?_
        clear hm a; intro a hm
        refine wpList_nil ?_
        replace hm : Fr 56 a [(0, .pointer (some ⟨g0, 0, none⟩)), (1, .int .i64 x1), (4, .int .i64 0), (5, .int .i64 x_13), (6, .int .i64 x_14), (7, .int .u8 (t_19.toNat : Int)), (11, p0_0), (12, .int .i64 (x0_b.length : Int)), (13, .int .i64 x_14), (27, .bool (decide (x_14 > 0)))] := hm.keep [0, 1, 4, 5, 6, 7, 11, 12, 13, 27]
        replace hS : Sep w0 w_15 [N_12, Mem.one g0 (.cells ([p0_0, .bool x0_bad] : List Value).toArray 66 (0, 0))] Z := hS
        replace hm : Fr 56 a [(0, .pointer (some ⟨g0, 0, none⟩)), (1, .int .i64 x1), (4, .int .i64 0), (5, .int .i64 x_13), (6, .int .i64 x_14), (7, .int .u8 (t_19.toNat : Int)), (11, p0_0), (12, .int .i64 (x0_b.length : Int)), (13, .int .i64 x_14), (27, .bool (decide (x_14 > 0)))] := hm.keep [0, 1, 4, 5, 6, 7, 11, 12, 13, 27]
        exact x_then_n (hJ_j_29 (decide (x_14 > 0)) H _ _ ⟨N_12, hm, (Sep.sel hS [0, 1] (by decide)), (Mem.le.refl _)⟩)
      · rw [if_neg hc_45] at H
        refine s_off hm rfl rfl rfl (beq_eq_false_iff_ne.2 hc_45) ?_
        clear hm a; intro a hm
        refine s_off hm rfl rfl rfl (beq_eq_false_iff_ne.2 hc_45) ?_
        clear hm a; intro a hm
        refine s_on hm rfl rfl (decide_eq_false hc_44) ?_
        refine s_pick_f hm rfl rfl (beq_eq_false_iff_ne.2 hc_45) rfl ?_
        clear hm a; intro a hm
        refine s_pick_f hm rfl rfl (decide_eq_false hc_44) rfl ?_
        clear hm a; intro a hm
        refine wpList_nil ?_
        replace hm : Fr 56 a [(0, .pointer (some ⟨g0, 0, none⟩)), (1, .int .i64 x1), (4, .int .i64 0), (5, .int .i64 x_13), (6, .int .i64 x_14), (7, .int .u8 (t_19.toNat : Int)), (11, p0_0), (12, .int .i64 (x0_b.length : Int)), (13, .int .i64 x_14), (27, .bool false)] := hm.keep [0, 1, 4, 5, 6, 7, 11, 12, 13, 27]
        replace hS : Sep w0 w_15 [N_12, Mem.one g0 (.cells ([p0_0, .bool x0_bad] : List Value).toArray 66 (0, 0))] Z := hS
        replace hm : Fr 56 a [(0, .pointer (some ⟨g0, 0, none⟩)), (1, .int .i64 x1), (4, .int .i64 0), (5, .int .i64 x_13), (6, .int .i64 x_14), (7, .int .u8 (t_19.toNat : Int)), (11, p0_0), (12, .int .i64 (x0_b.length : Int)), (13, .int .i64 x_14), (27, .bool false)] := hm.keep [0, 1, 4, 5, 6, 7, 11, 12, 13, 27]
        exact x_then_n (hJ_j_29 false H _ _ ⟨N_12, hm, (Sep.sel hS [0, 1] (by decide)), (Mem.le.refl _)⟩)
  · rw [if_neg hc_18] at H
    refine c_cond_f hm rfl (decide_eq_false hc_18) ?_
    refine wp_exit (x_then_x (x_then_x (x_block_t ?_)))
    replace hS : Sep w0 w_15 [N_12, Mem.one g0 (.cells ([p0_0, .bool x0_bad] : List Value).toArray 66 (0, 0))] Z := hS
    replace hm : Fr 56 a [(0, .pointer (some ⟨g0, 0, none⟩)), (4, .int .i64 0)] := hm.keep [0, 4]
    exact x_then_n (hJ_j_4  H _ _ ⟨N_12, hm, (Sep.sel hS [0, 1] (by decide)), le_12⟩)

set_option maxHeartbeats 4000000 in
set_option maxRecDepth 20000 in
theorem pack_Reader_Ok.calls (g0 : Nat) (x0_b : List UInt8) (p0_0 : Value) (x0_bad : Bool) (r : Bool × (List UInt8) × Bool) (w0 w : World) (Z A : Mem) (hA : A.le Z) (hS : Sep w0 w [Mem.one g0 (.cells ([p0_0, .bool x0_bad] : List Value).toArray 66 (0, 0))] Z) (hp0_0 : Rd Kd.u8 A p0_0 x0_b)
    (H : pack_Reader_Ok.f x0_b x0_bad = some r) :
    Calls Try.prog 30 [.pointer (some ⟨g0, 0, none⟩)].toArray w (Ret fun v w' => ∃ (u0 : Value) (N : Mem), v = .bool r.1 ∧ Sep w0 w' [N, Mem.one g0 (.cells ([u0, .bool r.2.2] : List Value).toArray 66 (0, 0))] Z ∧ Rd Kd.u8 (A.un N) u0 r.2.1) := by
  unfold pack_Reader_Ok.f at H
  refine f_enter _ Try.func30 rfl Try.ntmps30 rfl fun a hm => ?_
  replace hm : Fr 8 a [(0, .pointer (some ⟨g0, 0, none⟩))] := hm
  replace hS := hS.start
  replace hS : Sep w0 w [Mem.no, Mem.one g0 (.cells ([p0_0, .bool x0_bad] : List Value).toArray 66 (0, 0))] Z := hS
  refine wp_seq ?_
  refine wp_region_lit ?_
  refine s_assign hm rfl rfl ?_
  clear hm a; intro a hm
  refine wpList_nil ?_
  replace hm : Fr 8 a [(0, .pointer (some ⟨g0, 0, none⟩)), (2, .bool false)] := hm.keep [0, 2]
  refine x_then_n ?_
  refine wp_seq ?_
  refine wp_region_lit ?_
  refine s_move hm rfl rfl ?_
  clear hm a; intro a hm
  refine s_nilCheck hm rfl rfl ?_
  clear hm a; intro a hm
  refine s_fieldAddr hm rfl Try.underlying66 rfl ti4 rfl rfl ?_
  clear hm a; intro a hm
  refine s_load hm rfl rfl (hS.load_one (p := 1) rfl Try.underlying4 rfl rfl) ?_
  clear hm a; intro a hm
  refine s_not hm rfl rfl ?_
  clear hm a; intro a hm
  refine s_assign hm rfl rfl ?_
  clear hm a; intro a hm
  refine wpList_nil ?_
  replace hm : Fr 8 a [(2, .bool (!x0_bad))] := hm.keep [2]
  refine x_then_n ?_
  refine wp_ret ?_
  obtain rfl := Option.some.inj H
  exact f_ret hm (rs := [.tmp 2]) rfl (.tmp rfl .nil) ⟨_, rfl, p0_0, Mem.no, rfl, (Sep.sel hS [0, 1] (by decide)), (hp0_0.mono (Mem.le_un _ _))⟩

set_option maxHeartbeats 4000000 in
theorem slices_Clip_sbyte_byte.calls (v : Value) (w : World) (hf : ∃ A l c, v = .slice A l c ∧ l ≤ c) : Calls Try.prog 49 [v].toArray w (Ret fun u w' => w = w' ∧ Clipped v u) := by
  obtain ⟨A, l, c, rfl, hlc⟩ := hf
  refine f_enter _ Try.func49 rfl Try.ntmps49 rfl fun a hm => ?_
  replace hm : Fr 9 a [(0, .slice A l c)] := hm
  refine wp_seq ?_
  refine wp_region_lit ?_
  refine s_assign hm rfl rfl ?_
  clear hm a; intro a hm
  refine wpList_nil ?_
  refine x_then_n ?_
  refine wp_seq ?_
  refine wp_region_lit ?_
  refine s_move hm rfl rfl ?_
  clear hm a; intro a hm
  refine s_move hm rfl rfl ?_
  clear hm a; intro a hm
  refine s_lenV hm rfl Try.underlying25 rfl ?_
  clear hm a; intro a hm
  refine s_move hm rfl rfl ?_
  clear hm a; intro a hm
  refine s_lenV hm rfl Try.underlying25 rfl ?_
  clear hm a; intro a hm
  refine s_clip hm rfl Try.underlying25 ti5 rfl rfl rfl hlc ?_
  clear hm a; intro a hm
  refine s_assign hm rfl rfl ?_
  clear hm a; intro a hm
  refine wpList_nil ?_
  refine x_then_n ?_
  refine wp_ret ?_
  exact f_ret hm (rs := [.tmp 2]) rfl (.tmp rfl .nil) ⟨_, rfl, rfl, A, l, c, rfl, rfl⟩

set_option maxHeartbeats 4000000 in
set_option maxRecDepth 20000 in
theorem pack_Num.calls (K : Nat) (x0 : List UInt8) (p0_0 : Value) (x1 : Int) (r : (List UInt8)) (w0 w : World) (Z A : Mem) (hA : A.le Z) (hS : Sep w0 w [] Z) (hp0_0 : Rd Kd.u8 A p0_0 x0)
    (H : pack_Num.f K x0 x1 = some r) :
    Calls Try.prog 31 [p0_0, .int .i64 x1].toArray w (Ret fun v w' => ∃ (u0 : Value) (N : Mem) (M0 : Mem), v = u0 ∧ Sep w0 w' [N, M0] Z ∧ Own Kd.u8 5 M0 Mem.no u0 r) := by
  unfold pack_Num.f at H
  refine f_enter _ Try.func31 rfl Try.ntmps31 rfl fun a hm => ?_
  replace hm : Fr 27 a [(0, p0_0), (1, .int .i64 x1)] := hm
  replace hS := hS.start
  replace hS : Sep w0 w [Mem.no] Z := hS
  refine wp_seq ?_
  refine wp_region_lit ?_
  refine s_assign hm rfl rfl ?_
  clear hm a; intro a hm
  refine wpList_nil ?_
  replace hm : Fr 27 a [(0, p0_0), (1, .int .i64 x1), (4, .slice none 0 0)] := hm.keep [0, 1, 4]
  refine x_then_n ?_
  refine wp_seq ?_
  refine wp_region_lit ?_
  refine s_move hm rfl rfl ?_
  clear hm a; intro a hm
  obtain ⟨t_1, et_1, H⟩ := Option.bind_eq_some_iff.1 H
  refine s_call hm rfl Try.call42 rfl (slices_Clone_sbyte_byte.calls x0 _ t_1 w0 _ _ _ (Mem.le.refl _) (hS.enter [] (by decide)) (hp0_0.mono (hA.trans (hS.le_zed []))) et_1) ?_
  rintro v_5 w_2 ⟨_, N_3, M_7, rfl, hS', hr_6⟩
  clear hm a; intro a hm
  obtain ⟨N_4, hS'', le_4, ln_4⟩ := hS.call [] (by decide) rfl (l' := []) (ow := [M_7]) rfl hS'
  replace hS : Sep w0 w_2 [N_4, M_7] Z := hS''
  clear hS' hS''
  refine s_call hm rfl Try.call49 rfl (slices_Clip_sbyte_byte.calls _ _ hr_6.slform) ?_
  rintro v_9 _ ⟨rfl, hk_10⟩
  clear hm a; intro a hm
  refine s_assign hm rfl rfl ?_
  clear hm a; intro a hm
  refine wpList_nil ?_
  replace hm : Fr 27 a [(1, .int .i64 x1), (4, .slice none 0 0), (5, v_9)] := hm.keep [1, 4, 5]
  refine x_then_n ?_
  refine c_seq fun KJ_12 hKJ_12 => ?_
  refine wp_seq ?_
  refine wp_region_lit ?_
  refine s_move hm rfl rfl ?_
  clear hm a; intro a hm
  obtain ⟨t_13, et_13, H⟩ := Option.bind_eq_some_iff.1 H
  refine s_call hm rfl Try.call47 rfl (pack_held.calls x1 t_13 w0 _ _ _ (Mem.le.refl _) (hS.enter [] (by decide))  et_13) ?_
  rintro _ w_14 ⟨N_15, rfl, hS'⟩
  clear hm a; intro a hm
  obtain ⟨N_16, hS'', le_16, ln_16⟩ := hS.call [] (by decide) rfl (l' := []) (ow := []) rfl hS'
  replace hS : Sep w0 w_14 [N_16, M_7] Z := hS''
  clear hS' hS''
  refine s_assign hm rfl rfl ?_
  clear hm a; intro a hm
  refine wpList_nil ?_
  replace hm : Fr 27 a [(1, .int .i64 t_13), (4, .slice none 0 0), (5, v_9)] := hm.keep [1, 4, 5]
  refine x_then_n ?_
  have hJ_j_25 : ∀ (x_18 : Int), ∀ (x_19 : List UInt8), pack_Num.J1 K x_18 x_19 = some r → ∀ (a : Act) (w_24 : World), (∃ (v_22 : Value) (N_17 : Mem) (M_20 : Mem), Fr 27 a [(1, .int .i64 x_18), (4, .slice none 0 0), (5, v_22)] ∧ Sep w0 w_24 [N_17, M_20] Z ∧ N_16.le N_17 ∧ Own Kd.u8 5 M_20 Mem.no v_22 x_19) → KJ_12 a w_24 := by
    clear H hm hS a
    rintro x_18 x_19 H a w_24 ⟨v_22, N_17, M_20, hm, hS, le_17, ho_23⟩
    unfold pack_Num.J1 at H
    refine hKJ_12 _ _ ?_
    refine wp_seq ?_
    refine wp_region_lit ?_
    refine s_move hm rfl rfl ?_
    clear hm a; intro a hm
    refine s_move hm rfl rfl ?_
    clear hm a; intro a hm
    refine s_conv (((toU8 x_18).toNat : Int)) hm rfl Try.underlying3 Try.underlying5 rfl (wrap_u8 _).symm ?_
    clear hm a; intro a hm
    have hq_30 : Reps Kd.u8 Mem.no ([toU8 x_18] : List UInt8) _ := ((Reps.one (d := Kd.u8) (x := toU8 x_18) (show Kd.u8.K _ _ [.int .u8 ((toU8 x_18).toNat : Int)] from rfl)).append (Reps.nil Kd.u8 _))
    refine s_buildSlice hm rfl Try.underlying25 ti5 rfl rfl rfl (.cons rfl .nil) rfl rfl rfl hS hq_30 rfl ?_
    intro w_26 v_27 M_28 hS' ho_29
    clear hm a; intro a hm
    replace hS : Sep w0 w_26 [N_17, M_20, M_28] Z := hS'
    clear hS' hq_30
    obtain ⟨t_32, et_32, H⟩ := Option.bind_eq_some_iff.1 H
    refine s_append (J := Mem.no) (I' := Mem.no) (p := 1) 140737488355328 hm rfl rfl rfl Try.underlying25 ti5 rfl rfl rfl rfl hS rfl ho_23 (Src.flat flat_u8 (ho_29.src (hS.own 2))) (Mem.le.refl _) (Mem.le.refl _) et_32 ?_
    intro w_33 v_34 M_35 hS' ho_36
    clear hm a; intro a hm
    replace hS : Sep w0 w_33 [N_17, M_35, M_28] Z := hS'
    clear hS'
    refine s_assign hm rfl rfl ?_
    clear hm a; intro a hm
    refine wpList_nil ?_
    replace hm : Fr 27 a [(4, v_34)] := hm.keep [4]
    refine x_then_n ?_
    refine wp_ret ?_
    obtain rfl := Option.some.inj H
    exact f_ret hm (rs := [.tmp 4]) rfl (.tmp rfl .nil) ⟨_, rfl, v_34, N_17, M_35, rfl, (Sep.sel hS [0, 1] (by decide)), ho_36⟩
  clear hKJ_12
  replace hS : Sep w0 w_14 [N_16, M_7] Z := hS
  replace hm : Fr 27 a [(1, .int .i64 t_13), (4, .slice none 0 0), (5, v_9)] := hm.keep [1, 4, 5]
  refine c_block ?_
  refine c_loop (fun k_45 a w_45 => ∃ (x_39 : Int) (x_40 : List UInt8) (v_43 : Value) (N_38 : Mem) (M_41 : Mem), pack_Num.L1 K (fun v => pack_Num.J1 K v.1 v.2) k_45 (x_39, x_40) = some r ∧ Fr 27 a [(1, .int .i64 x_39), (4, .slice none 0 0), (5, v_43)] ∧ Sep w0 w_45 [N_38, M_41] Z ∧ N_16.le N_38 ∧ Own Kd.u8 5 M_41 Mem.no v_43 x_40) K ⟨t_13, t_1, v_9, N_16, M_7, H, hm, (Sep.sel hS [0, 1] (by decide)), (Mem.le.refl _), (hr_6.clip hk_10)⟩ (fun a w h => by obtain ⟨_, _, _, _, _, H, _⟩ := h; cases (show (none : Option ((List UInt8))) = some r from H)) ?_
  clear hm hS a H
  rintro k_45 a w_45 KL_45 hKL_45 ⟨x_39, x_40, v_43, N_38, M_41, H, hm, hS, le_38, ho_44⟩
  replace H : pack_Num.B1 K (fun v => pack_Num.J1 K v.1 v.2) (pack_Num.L1 K (fun v => pack_Num.J1 K v.1 v.2) k_45) x_39 x_40 = some r := H
  unfold pack_Num.B1 at H
  refine c_seq fun KJ_47 hKJ_47 => ?_
  refine wp_seq ?_
  refine wp_region_lit ?_
  refine s_move hm rfl rfl ?_
  clear hm a; intro a hm
  refine s_cmp (b := decide (x_39 ≥ 128)) hm rfl rfl rfl (.inr (.inr (.inr (.inr (.inr ⟨rfl, rfl⟩))))) ?_
  clear hm a; intro a hm
  refine wpList_nil ?_
  replace hm : Fr 27 a [(1, .int .i64 x_39), (4, .slice none 0 0), (5, v_43), (12, .bool (decide (x_39 ≥ 128)))] := hm.keep [1, 4, 5, 12]
  refine x_then_n ?_
  by_cases hc_48 : x_39 ≥ 128
  · rw [if_pos hc_48] at H
    refine c_cond_t hm rfl (decide_eq_true hc_48) ?_
    refine wp_skip ?_
    refine x_then_n (hKJ_47 _ _ ?_)
    refine wp_seq ?_
    refine c_block ?_
    refine wp_region_lit ?_
    refine s_move hm rfl rfl ?_
    clear hm a; intro a hm
    refine s_move hm rfl rfl ?_
    clear hm a; intro a hm
    refine s_bits (i := x_39) (j := 127) (r := band .i64 x_39 127) hm rfl rfl rfl (.inl ⟨rfl, rfl⟩) ?_
    clear hm a; intro a hm
    refine s_bits (i := band .i64 x_39 127) (j := 128) (r := bor .i64 (band .i64 x_39 127) 128) hm rfl rfl rfl (.inr (.inl ⟨rfl, rfl⟩)) ?_
    clear hm a; intro a hm
    refine s_conv (((toU8 (bor .i64 (band .i64 x_39 127) 128)).toNat : Int)) hm rfl Try.underlying3 Try.underlying5 rfl (wrap_u8 _).symm ?_
    clear hm a; intro a hm
    have hq_53 : Reps Kd.u8 Mem.no ([toU8 (bor .i64 (band .i64 x_39 127) 128)] : List UInt8) _ := ((Reps.one (d := Kd.u8) (x := toU8 (bor .i64 (band .i64 x_39 127) 128)) (show Kd.u8.K _ _ [.int .u8 ((toU8 (bor .i64 (band .i64 x_39 127) 128)).toNat : Int)] from rfl)).append (Reps.nil Kd.u8 _))
    refine s_buildSlice hm rfl Try.underlying25 ti5 rfl rfl rfl (.cons rfl .nil) rfl rfl rfl hS hq_53 rfl ?_
    intro w_49 v_50 M_51 hS' ho_52
    clear hm a; intro a hm
    replace hS : Sep w0 w_49 [N_38, M_41, M_51] Z := hS'
    clear hS' hq_53
    obtain ⟨t_55, et_55, H⟩ := Option.bind_eq_some_iff.1 H
    refine s_append (J := Mem.no) (I' := Mem.no) (p := 1) 140737488355328 hm rfl rfl rfl Try.underlying25 ti5 rfl rfl rfl rfl hS rfl ho_44 (Src.flat flat_u8 (ho_52.src (hS.own 2))) (Mem.le.refl _) (Mem.le.refl _) et_55 ?_
    intro w_56 v_57 M_58 hS' ho_59
    clear hm a; intro a hm
    replace hS : Sep w0 w_56 [N_38, M_58, M_51] Z := hS'
    clear hS'
    refine s_assign hm rfl rfl ?_
    clear hm a; intro a hm
    refine wpList_nil ?_
    replace hm : Fr 27 a [(1, .int .i64 x_39), (4, .slice none 0 0), (5, v_57)] := hm.keep [1, 4, 5]
    refine x_block_n ?_
    refine x_then_n ?_
    refine wp_region_lit ?_
    refine s_move hm rfl rfl ?_
    clear hm a; intro a hm
    refine s_shift (r := shr .i64 x_39 7) hm rfl rfl rfl (by decide) (.inr ⟨rfl, rfl⟩) ?_
    clear hm a; intro a hm
    refine s_assign hm rfl rfl ?_
    clear hm a; intro a hm
    refine wpList_nil ?_
    replace hm : Fr 27 a [(1, .int .i64 (shr .i64 x_39 7)), (4, .slice none 0 0), (5, v_57)] := hm.keep [1, 4, 5]
    refine x_then_n (hKL_45 _ _ ?_)
    replace hS : Sep w0 w_56 [N_38, M_58, M_51] Z := hS
    replace hm : Fr 27 a [(1, .int .i64 (shr .i64 x_39 7)), (4, .slice none 0 0), (5, v_57)] := hm.keep [1, 4, 5]
    exact ⟨shr .i64 x_39 7, t_55, v_57, N_38, M_58, H, hm, (Sep.sel hS [0, 1] (by decide)), le_38, ho_59⟩
  · rw [if_neg hc_48] at H
    refine c_cond_f hm rfl (decide_eq_false hc_48) ?_
    refine wp_exit (x_then_x (x_then_x (x_block_t ?_)))
    replace hS : Sep w0 w_45 [N_38, M_41] Z := hS
    replace hm : Fr 27 a [(1, .int .i64 x_39), (4, .slice none 0 0), (5, v_43)] := hm.keep [1, 4, 5]
    exact x_then_n (hJ_j_25 x_39 x_40 H _ _ ⟨v_43, N_38, M_41, hm, (Sep.sel hS [0, 1] (by decide)), le_38, ho_44⟩)

set_option maxHeartbeats 4000000 in
set_option maxRecDepth 20000 in
theorem pack_Reader_End.calls (g0 : Nat) (x0_b : List UInt8) (p0_0 : Value) (x0_bad : Bool) (r : Bool × (List UInt8) × Bool) (w0 w : World) (Z A : Mem) (hA : A.le Z) (hS : Sep w0 w [Mem.one g0 (.cells ([p0_0, .bool x0_bad] : List Value).toArray 66 (0, 0))] Z) (hp0_0 : Rd Kd.u8 A p0_0 x0_b)
    (H : pack_Reader_End.f x0_b x0_bad = some r) :
    Calls Try.prog 32 [.pointer (some ⟨g0, 0, none⟩)].toArray w (Ret fun v w' => ∃ (u0 : Value) (N : Mem), v = .bool r.1 ∧ Sep w0 w' [N, Mem.one g0 (.cells ([u0, .bool r.2.2] : List Value).toArray 66 (0, 0))] Z ∧ Rd Kd.u8 (A.un N) u0 r.2.1) := by
  unfold pack_Reader_End.f at H
  refine f_enter _ Try.func32 rfl Try.ntmps32 rfl fun a hm => ?_
  replace hm : Fr 16 a [(0, .pointer (some ⟨g0, 0, none⟩))] := hm
  replace hS := hS.start
  replace hS : Sep w0 w [Mem.no, Mem.one g0 (.cells ([p0_0, .bool x0_bad] : List Value).toArray 66 (0, 0))] Z := hS
  refine wp_seq ?_
  refine wp_region_lit ?_
  refine s_assign hm rfl rfl ?_
  clear hm a; intro a hm
  refine wpList_nil ?_
  replace hm : Fr 16 a [(0, .pointer (some ⟨g0, 0, none⟩)), (2, .bool false)] := hm.keep [0, 2]
  refine x_then_n ?_
  refine c_seq fun KJ_1 hKJ_1 => ?_
  refine wp_region_lit ?_
  refine s_move hm rfl rfl ?_
  clear hm a; intro a hm
  refine s_nilCheck hm rfl rfl ?_
  clear hm a; intro a hm
  refine s_fieldAddr hm rfl Try.underlying66 rfl ti4 rfl rfl ?_
  clear hm a; intro a hm
  refine s_load hm rfl rfl (hS.load_one (p := 1) rfl Try.underlying4 rfl rfl) ?_
  clear hm a; intro a hm
  refine s_not hm rfl rfl ?_
  clear hm a; intro a hm
  refine s_move hm rfl rfl ?_
  clear hm a; intro a hm
  by_cases hc_2 : x0_bad = true
  · rw [if_pos hc_2] at H
    refine s_off hm rfl rfl rfl (nf hc_2) ?_
    clear hm a; intro a hm
    refine s_off hm rfl rfl rfl (nf hc_2) ?_
    clear hm a; intro a hm
    refine s_off hm rfl rfl rfl (nf hc_2) ?_
    clear hm a; intro a hm
    refine s_off hm rfl rfl rfl (nf hc_2) ?_
    clear hm a; intro a hm
    refine s_off hm rfl rfl rfl (nf hc_2) ?_
    clear hm a; intro a hm
    refine s_off hm rfl rfl rfl (nf hc_2) ?_
    clear hm a; intro a hm
    refine s_pick_f hm rfl rfl (nf hc_2) rfl ?_
    clear hm a; intro a hm
    refine s_assign hm rfl rfl ?_
    clear hm a; intro a hm
    refine wpList_nil ?_
    replace hm : Fr 16 a [(2, .bool false)] := hm.keep [2]
    refine x_then_n (hKJ_1 _ _ ?_)
    refine wp_ret ?_
    obtain rfl := Option.some.inj H
    exact f_ret hm (rs := [.tmp 2]) rfl (.tmp rfl .nil) ⟨_, rfl, p0_0, Mem.no, rfl, (Sep.sel hS [0, 1] (by decide)), (hp0_0.mono (Mem.le_un _ _))⟩
  · rw [if_neg hc_2] at H
    refine s_on hm rfl rfl (nt (Bool.eq_false_iff.2 hc_2)) ?_
    refine s_move hm rfl rfl ?_
    clear hm a; intro a hm
    refine s_on hm rfl rfl (nt (Bool.eq_false_iff.2 hc_2)) ?_
    refine s_nilCheck hm rfl rfl ?_
    clear hm a; intro a hm
    refine s_on hm rfl rfl (nt (Bool.eq_false_iff.2 hc_2)) ?_
    refine s_fieldAddr hm rfl Try.underlying66 rfl ti25 rfl rfl ?_
    clear hm a; intro a hm
    refine s_on hm rfl rfl (nt (Bool.eq_false_iff.2 hc_2)) ?_
    refine s_load hm rfl rfl (hS.load_one (p := 1) rfl Try.underlying25 rfl rfl) ?_
    clear hm a; intro a hm
    refine s_on hm rfl rfl (nt (Bool.eq_false_iff.2 hc_2)) ?_
    refine s_len hm rfl Try.underlying25 rfl hp0_0 ?_
    clear hm a; intro a hm
    refine s_on hm rfl rfl (nt (Bool.eq_false_iff.2 hc_2)) ?_
    refine s_cmp (b := ((x0_b.length : Int) == 0)) hm rfl rfl rfl (.inl ⟨rfl, rfl⟩) ?_
    clear hm a; intro a hm
    refine s_pick_t hm rfl rfl (nt (Bool.eq_false_iff.2 hc_2)) rfl ?_
    clear hm a; intro a hm
    refine s_assign hm rfl rfl ?_
    clear hm a; intro a hm
    refine wpList_nil ?_
    replace hm : Fr 16 a [(2, .bool ((x0_b.length : Int) == 0))] := hm.keep [2]
    refine x_then_n (hKJ_1 _ _ ?_)
    refine wp_ret ?_
    obtain rfl := Option.some.inj H
    exact f_ret hm (rs := [.tmp 2]) rfl (.tmp rfl .nil) ⟨_, rfl, p0_0, Mem.no, rfl, (Sep.sel hS [0, 1] (by decide)), (hp0_0.mono (Mem.le_un _ _))⟩

set_option maxHeartbeats 4000000 in
set_option maxRecDepth 20000 in
theorem pack_Bytes.calls (K : Nat) (x0 : List UInt8) (p0_0 : Value) (x1 : List UInt8) (p1_1 : Value) (r : (List UInt8)) (w0 w : World) (Z A : Mem) (hA : A.le Z) (hS : Sep w0 w [] Z) (hp0_0 : Rd Kd.u8 A p0_0 x0) (hp1_1 : Rd Kd.u8 A p1_1 x1)
    (H : pack_Bytes.f K x0 x1 = some r) :
    Calls Try.prog 34 [p0_0, p1_1].toArray w (Ret fun v w' => ∃ (u0 : Value) (N : Mem) (M0 : Mem), v = u0 ∧ Sep w0 w' [N, M0] Z ∧ Own Kd.u8 5 M0 Mem.no u0 r) := by
  unfold pack_Bytes.f at H
  refine f_enter _ Try.func34 rfl Try.ntmps34 rfl fun a hm => ?_
  replace hm : Fr 11 a [(0, p0_0), (1, p1_1)] := hm
  replace hS := hS.start
  replace hS : Sep w0 w [Mem.no] Z := hS
  refine wp_seq ?_
  refine wp_region_lit ?_
  refine s_assign hm rfl rfl ?_
  clear hm a; intro a hm
  refine wpList_nil ?_
  replace hm : Fr 11 a [(0, p0_0), (1, p1_1), (4, .slice none 0 0)] := hm.keep [0, 1, 4]
  refine x_then_n ?_
  refine wp_seq ?_
  refine wp_region_lit ?_
  refine s_move hm rfl rfl ?_
  clear hm a; intro a hm
  refine s_move hm rfl rfl ?_
  clear hm a; intro a hm
  refine s_len hm rfl Try.underlying25 rfl hp1_1 ?_
  clear hm a; intro a hm
  obtain ⟨t_1, et_1, H⟩ := Option.bind_eq_some_iff.1 H
  refine s_call hm rfl Try.call31 rfl (pack_Num.calls K x0 _ (x1.length : Int) t_1 w0 _ _ _ (Mem.le.refl _) (hS.enter [] (by decide)) (hp0_0.mono (hA.trans (hS.le_zed []))) et_1) ?_
  rintro v_5 w_2 ⟨_, N_3, M_7, rfl, hS', hr_6⟩
  clear hm a; intro a hm
  obtain ⟨N_4, hS'', le_4, ln_4⟩ := hS.call [] (by decide) rfl (l' := []) (ow := [M_7]) rfl hS'
  replace hS : Sep w0 w_2 [N_4, M_7] Z := hS''
  clear hS' hS''
  refine s_move hm rfl rfl ?_
  clear hm a; intro a hm
  obtain ⟨t_9, et_9, H⟩ := Option.bind_eq_some_iff.1 H
  refine s_append (J := Mem.no) (I' := Mem.no) (p := 1) 140737488355328 hm rfl rfl rfl Try.underlying25 ti5 rfl rfl rfl rfl hS rfl hr_6 (Src.flat flat_u8 (hp1_1.src (hA.trans hS.old))) (Mem.le.refl _) (Mem.le.refl _) et_9 ?_
  intro w_10 v_11 M_12 hS' ho_13
  clear hm a; intro a hm
  replace hS : Sep w0 w_10 [N_4, M_12] Z := hS'
  clear hS'
  refine s_assign hm rfl rfl ?_
  clear hm a; intro a hm
  refine wpList_nil ?_
  replace hm : Fr 11 a [(4, v_11)] := hm.keep [4]
  refine x_then_n ?_
  refine wp_ret ?_
  obtain rfl := Option.some.inj H
  exact f_ret hm (rs := [.tmp 4]) rfl (.tmp rfl .nil) ⟨_, rfl, v_11, N_4, M_12, rfl, (Sep.sel hS [0, 1] (by decide)), ho_13⟩

set_option maxHeartbeats 4000000 in
set_option maxRecDepth 20000 in
theorem pack_Reader_Bytes.calls (K : Nat) (g0 : Nat) (x0_b : List UInt8) (p0_0 : Value) (x0_bad : Bool) (x1 : Int) (r : (List UInt8) × (List UInt8) × Bool) (w0 w : World) (Z A : Mem) (hA : A.le Z) (hS : Sep w0 w [Mem.one g0 (.cells ([p0_0, .bool x0_bad] : List Value).toArray 66 (0, 0))] Z) (hp0_0 : Rd Kd.u8 A p0_0 x0_b)
    (H : pack_Reader_Bytes.f K x0_b x0_bad x1 = some r) :
    Calls Try.prog 35 [.pointer (some ⟨g0, 0, none⟩), .int .i64 x1].toArray w (Ret fun v w' => ∃ (u0 : Value) (u1 : Value) (N : Mem) (M0 : Mem), v = u0 ∧ Sep w0 w' [N, Mem.one g0 (.cells ([u1, .bool r.2.2] : List Value).toArray 66 (0, 0)), M0] Z ∧ Own Kd.u8 5 M0 Mem.no u0 r.1 ∧ Rd Kd.u8 (A.un N) u1 r.2.1) := by
  unfold pack_Reader_Bytes.f at H
  refine f_enter _ Try.func35 rfl Try.ntmps35 rfl fun a hm => ?_
  replace hm : Fr 36 a [(0, .pointer (some ⟨g0, 0, none⟩)), (1, .int .i64 x1)] := hm
  replace hS := hS.start
  replace hS : Sep w0 w [Mem.no, Mem.one g0 (.cells ([p0_0, .bool x0_bad] : List Value).toArray 66 (0, 0))] Z := hS
  refine wp_seq ?_
  refine wp_region_lit ?_
  refine s_assign hm rfl rfl ?_
  clear hm a; intro a hm
  refine wpList_nil ?_
  replace hm : Fr 36 a [(0, .pointer (some ⟨g0, 0, none⟩)), (1, .int .i64 x1), (4, .slice none 0 0)] := hm.keep [0, 1, 4]
  refine x_then_n ?_
  refine wp_seq ?_
  refine wp_region_lit ?_
  refine s_move hm rfl rfl ?_
  clear hm a; intro a hm
  refine s_move hm rfl rfl ?_
  clear hm a; intro a hm
  obtain ⟨t_1, et_1, H⟩ := Option.bind_eq_some_iff.1 H
  refine s_call hm rfl Try.call29 rfl (pack_Reader_Num.calls K _ x0_b _ x0_bad x1 t_1 w0 _ _ A (hA.trans (hS.le_zed [0])) (hS.enter [0] (by decide)) hp0_0 et_1) ?_
  rintro _ w_2 ⟨v_5, N_3, rfl, hS', hr_6⟩
  clear hm a; intro a hm
  obtain ⟨N_4, hS'', le_4, ln_4⟩ := hS.call [0] (by decide) rfl (l' := [Mem.one g0 (.cells ([v_5, .bool t_1.2.2] : List Value).toArray 66 (0, 0))]) (ow := []) rfl hS'
  replace hS : Sep w0 w_2 [N_4, Mem.one g0 (.cells ([v_5, .bool t_1.2.2] : List Value).toArray 66 (0, 0))] Z := hS''
  clear hS' hS''
  have hr_7 : Rd Kd.u8 (A.un N_4) v_5 t_1.2.1 := hr_6.mono (Mem.un_left ln_4)
  refine s_assign hm rfl rfl ?_
  clear hm a; intro a hm
  refine wpList_nil ?_
  replace hm : Fr 36 a [(0, .pointer (some ⟨g0, 0, none⟩)), (4, .slice none 0 0), (5, .int .i64 t_1.1)] := hm.keep [0, 4, 5]
  refine x_then_n ?_
  refine c_seq fun KJ_8 hKJ_8 => ?_
  refine wp_seq ?_
  refine wp_region_lit ?_
  refine s_move hm rfl rfl ?_
  clear hm a; intro a hm
  refine s_move hm rfl rfl ?_
  clear hm a; intro a hm
  refine s_nilCheck hm rfl rfl ?_
  clear hm a; intro a hm
  refine s_fieldAddr hm rfl Try.underlying66 rfl ti25 rfl rfl ?_
  clear hm a; intro a hm
  refine s_load hm rfl rfl (hS.load_one (p := 1) rfl Try.underlying25 rfl rfl) ?_
  clear hm a; intro a hm
  refine s_len hm rfl Try.underlying25 rfl hr_7 ?_
  clear hm a; intro a hm
  refine s_cmp (b := decide (t_1.1 > (t_1.2.1.length : Int))) hm rfl rfl rfl (.inr (.inr (.inr (.inr (.inl ⟨rfl, rfl⟩))))) ?_
  clear hm a; intro a hm
  refine wpList_nil ?_
  replace hm : Fr 36 a [(0, .pointer (some ⟨g0, 0, none⟩)), (4, .slice none 0 0), (5, .int .i64 t_1.1), (16, .bool (decide (t_1.1 > (t_1.2.1.length : Int))))] := hm.keep [0, 4, 5, 16]
  refine x_then_n ?_
  by_cases hc_9 : t_1.1 > (t_1.2.1.length : Int)
  · rw [if_pos hc_9] at H
    refine c_cond_t hm rfl (decide_eq_true hc_9) ?_
    refine wp_seq ?_
    refine wp_region_lit ?_
    refine s_move hm rfl rfl ?_
    clear hm a; intro a hm
    obtain ⟨t_10, et_10, H⟩ := Option.bind_eq_some_iff.1 H
    refine s_call hm rfl Try.call48 rfl (pack_Reader_fail.calls _ t_1.2.1 _ t_1.2.2 t_10 w0 _ _ (A.un N_4) (Mem.un_le (hA.trans (hS.le_zed [0])) (hS.new_zed [0])) (hS.enter [0] (by decide)) hr_7 et_10) ?_
    rintro _ w_11 ⟨v_14, N_12, rfl, hS', hr_15⟩
    clear hm a; intro a hm
    obtain ⟨N_13, hS'', le_13, ln_13⟩ := hS.call [0] (by decide) rfl (l' := [Mem.one g0 (.cells ([v_14, .bool t_10.2.2] : List Value).toArray 66 (0, 0))]) (ow := []) rfl hS'
    replace hS : Sep w0 w_11 [N_13, Mem.one g0 (.cells ([v_14, .bool t_10.2.2] : List Value).toArray 66 (0, 0))] Z := hS''
    clear hS' hS''
    have hr_16 : Rd Kd.u8 (A.un N_13) v_14 t_10.2.1 := hr_15.mono (Mem.un_le (Mem.un_left le_13) (ln_13.trans (hS.sndA hA)))
    refine wpList_nil ?_
    replace hm : Fr 36 a [(0, .pointer (some ⟨g0, 0, none⟩)), (4, .slice none 0 0), (5, .int .i64 t_1.1)] := hm.keep [0, 4, 5]
    refine x_then_n ?_
    refine wp_seq ?_
    refine wp_region_lit ?_
    refine s_assign hm rfl rfl ?_
    clear hm a; intro a hm
    refine wpList_nil ?_
    replace hm : Fr 36 a [(0, .pointer (some ⟨g0, 0, none⟩)), (4, .slice none 0 0), (5, .int .i64 t_1.1)] := hm.keep [0, 4, 5]
    refine x_then_n ?_
    refine wp_ret (x_then_r ?_)
    have hS' := hS.room
    replace hS : Sep w0 w_11 [N_13, Mem.one g0 (.cells ([v_14, .bool t_10.2.2] : List Value).toArray 66 (0, 0)), Mem.no] Z := hS'
    clear hS'
    obtain rfl := Option.some.inj H
    exact f_ret hm (rs := [.tmp 4]) rfl (.tmp rfl .nil) ⟨_, rfl, .slice none 0 0, v_14, N_13, Mem.no, rfl, (Sep.sel hS [0, 1, 2] (by decide)), (Own.nil Kd.u8 5 Mem.no), hr_16⟩
  · rw [if_neg hc_9] at H
    refine c_cond_f hm rfl (decide_eq_false hc_9) ?_
    refine wp_skip ?_
    refine x_then_n (hKJ_8 _ _ ?_)
    refine wp_seq ?_
    refine wp_region_lit ?_
    refine s_move hm rfl rfl ?_
    clear hm a; intro a hm
    refine s_nilCheck hm rfl rfl ?_
    clear hm a; intro a hm
    refine s_fieldAddr hm rfl Try.underlying66 rfl ti25 rfl rfl ?_
    clear hm a; intro a hm
    refine s_load hm rfl rfl (hS.load_one (p := 1) rfl Try.underlying25 rfl rfl) ?_
    clear hm a; intro a hm
    refine s_move hm rfl rfl ?_
    clear hm a; intro a hm
    obtain ⟨t_18, et_18, H⟩ := Option.bind_eq_some_iff.1 H
    refine s_slice hm rfl Try.underlying25 ti5 rfl rfl hr_7 rfl rfl et_18 ?_
    intro v_19 hr_20
    clear hm a; intro a hm
    obtain ⟨t_21, et_21, H⟩ := Option.bind_eq_some_iff.1 H
    refine s_call hm rfl Try.call42 rfl (slices_Clone_sbyte_byte.calls t_18 _ t_21 w0 _ _ _ (Mem.le.refl _) (hS.enter [] (by decide)) (hr_20.mono (Mem.un_le (hA.trans (hS.le_zed [])) ((Mem.le.refl _).trans (hS.new_zed [])))) et_21) ?_
    rintro v_25 w_22 ⟨_, N_23, M_27, rfl, hS', hr_26⟩
    clear hm a; intro a hm
    obtain ⟨N_24, hS'', le_24, ln_24⟩ := hS.call [] (by decide) rfl (l' := []) (ow := [M_27]) rfl hS'
    replace hS : Sep w0 w_22 [N_24, Mem.one g0 (.cells ([v_5, .bool t_1.2.2] : List Value).toArray 66 (0, 0)), M_27] Z := hS''
    clear hS' hS''
    refine s_assign hm rfl rfl ?_
    clear hm a; intro a hm
    refine wpList_nil ?_
    replace hm : Fr 36 a [(0, .pointer (some ⟨g0, 0, none⟩)), (4, .slice none 0 0), (5, .int .i64 t_1.1), (6, v_25)] := hm.keep [0, 4, 5, 6]
    refine x_then_n ?_
    refine wp_seq ?_
    refine wp_region_lit ?_
    refine s_move hm rfl rfl ?_
    clear hm a; intro a hm
    refine s_move hm rfl rfl ?_
    clear hm a; intro a hm
    refine s_nilCheck hm rfl rfl ?_
    clear hm a; intro a hm
    refine s_fieldAddr hm rfl Try.underlying66 rfl ti25 rfl rfl ?_
    clear hm a; intro a hm
    refine s_load hm rfl rfl (hS.load_one (p := 1) rfl Try.underlying25 rfl rfl) ?_
    clear hm a; intro a hm
    refine s_move hm rfl rfl ?_
    clear hm a; intro a hm
    obtain ⟨t_29, et_29, H⟩ := Option.bind_eq_some_iff.1 H
    refine s_slice hm rfl Try.underlying25 ti5 rfl rfl hr_7 rfl rfl et_29 ?_
    intro v_30 hr_31
    clear hm a; intro a hm
    refine s_nilCheck hm rfl rfl ?_
    clear hm a; intro a hm
    refine s_fieldAddr hm rfl Try.underlying66 rfl ti25 rfl rfl ?_
    clear hm a; intro a hm
    obtain ⟨w_32, hs', hS'⟩ := hS.store (P := Try.prog) (p := 1) (o := 0) (t := 25) (v := v_30) (vs := [v_30]) rfl ti25 hr_31.cellsA rfl rfl (by intro u hu; simp only [List.mem_cons, List.not_mem_nil, or_false] at hu; rcases hu with rfl <;> first | rfl | exact hr_31.one)
    refine s_store hm rfl rfl hs' ?_
    replace hS : Sep w0 w_32 [N_24, Mem.one g0 (.cells ([v_30, .bool t_1.2.2] : List Value).toArray 66 (0, 0)), M_27] Z := hS'
    clear hs' hS'
    refine wpList_nil ?_
    replace hm : Fr 36 a [(4, .slice none 0 0), (6, v_25)] := hm.keep [4, 6]
    refine x_then_n ?_
    refine wp_seq ?_
    refine wp_region_lit ?_
    refine s_move hm rfl rfl ?_
    clear hm a; intro a hm
    refine s_assign hm rfl rfl ?_
    clear hm a; intro a hm
    refine wpList_nil ?_
    replace hm : Fr 36 a [(4, v_25)] := hm.keep [4]
    refine x_then_n ?_
    refine wp_ret ?_
    obtain rfl := Option.some.inj H
    exact f_ret hm (rs := [.tmp 4]) rfl (.tmp rfl .nil) ⟨_, rfl, v_25, v_30, N_24, M_27, rfl, (Sep.sel hS [0, 1, 2] (by decide)), hr_26, (hr_31.mono (Mem.un_left le_24))⟩

set_option maxHeartbeats 4000000 in
set_option maxRecDepth 20000 in
theorem hocketlaw2_awake.calls (K : Nat) (r : Unit) (w0 w : World) (Z A : Mem) (hA : A.le Z) (hS : Sep w0 w [] Z)
    (H : hocketlaw2_awake.f K = some r) :
    Calls Try.prog 33 [].toArray w (Ret fun v w' => ∃ (N : Mem), v = .bool true ∧ Sep w0 w' [N] Z) := by
  unfold hocketlaw2_awake.f at H
  refine f_enter _ Try.func33 rfl Try.ntmps33 rfl fun a hm => ?_
  replace hm : Fr 72 a [] := hm
  replace hS := hS.start
  replace hS : Sep w0 w [Mem.no] Z := hS
  refine wp_seq ?_
  refine wp_region_lit ?_
  refine s_assign hm rfl rfl ?_
  clear hm a; intro a hm
  refine wpList_nil ?_
  replace hm : Fr 72 a [(0, .bool false)] := hm.keep [0]
  refine x_then_n ?_
  refine wp_seq ?_
  refine wp_region_lit ?_
  obtain ⟨t_1, et_1, H⟩ := Option.bind_eq_some_iff.1 H
  refine s_call hm rfl Try.call31 rfl (pack_Num.calls K ([] : List UInt8) _ 300 t_1 w0 _ _ _ (Mem.le.refl _) (hS.enter [] (by decide)) (Rd.nil _ _) et_1) ?_
  rintro v_5 w_2 ⟨_, N_3, M_7, rfl, hS', hr_6⟩
  clear hm a; intro a hm
  obtain ⟨N_4, hS'', le_4, ln_4⟩ := hS.call [] (by decide) rfl (l' := []) (ow := [M_7]) rfl hS'
  replace hS : Sep w0 w_2 [N_4, M_7] Z := hS''
  clear hS' hS''
  have hq_13 : Reps Kd.u8 Mem.no ([(97 : UInt8), (98 : UInt8)] : List UInt8) _ := ((Reps.one (d := Kd.u8) (x := (97 : UInt8)) (show Kd.u8.K _ _ [.int .u8 ((97 : UInt8).toNat : Int)] from rfl)).append ((Reps.one (d := Kd.u8) (x := (98 : UInt8)) (show Kd.u8.K _ _ [.int .u8 ((98 : UInt8).toNat : Int)] from rfl)).append (Reps.nil Kd.u8 _)))
  refine s_buildSlice hm rfl Try.underlying25 ti5 rfl rfl rfl (.cons rfl (.cons rfl .nil)) rfl rfl rfl hS hq_13 rfl ?_
  intro w_9 v_10 M_11 hS' ho_12
  clear hm a; intro a hm
  replace hS : Sep w0 w_9 [N_4, M_7, M_11] Z := hS'
  clear hS' hq_13
  refine s_conv_sl (p := 2) hm rfl Try.underlying25 Try.underlying5 rfl ho_12 (by simp) hS rfl ?_
  intro w_15 M_16 hS' hr_17
  clear hm a; intro a hm
  obtain ⟨N_18, hS'', le_18, lo_18⟩ := Sep.freeze (N0 := N_4) (l := [M_7, M_16]) hS' 1 rfl
  replace hS : Sep w0 w_15 [N_18, M_7, Mem.no] Z := hS''
  clear hS' hS''
  obtain ⟨t_19, et_19, H⟩ := Option.bind_eq_some_iff.1 H
  refine s_call hm rfl Try.call34 rfl (pack_Bytes.calls K t_1 _ ([(97 : UInt8), (98 : UInt8)] : List UInt8) _ t_19 w0 _ _ _ (Mem.le.refl _) (hS.enter [] (by decide)) (hr_6.rd (hS.own_zed [] 0 (by decide)) (Mem.no_le _)) ((hr_17.mono lo_18).mono ((Mem.le.refl _).trans (hS.new_zed []))) et_19) ?_
  rintro v_23 w_20 ⟨_, N_21, M_25, rfl, hS', hr_24⟩
  clear hm a; intro a hm
  obtain ⟨N_22, hS'', le_22, ln_22⟩ := hS.call [] (by decide) rfl (l' := []) (ow := [M_25]) rfl hS'
  replace hS : Sep w0 w_20 [N_22, M_7, Mem.no, M_25] Z := hS''
  clear hS' hS''
  refine s_assign hm rfl rfl ?_
  clear hm a; intro a hm
  refine wpList_nil ?_
  replace hm : Fr 72 a [(0, .bool false), (1, v_23)] := hm.keep [0, 1]
  refine x_then_n ?_
  refine wp_seq ?_
  refine wp_region_lit ?_
  refine s_move hm rfl rfl ?_
  clear hm a; intro a hm
  obtain ⟨t_27, et_27, H⟩ := Option.bind_eq_some_iff.1 H
  refine s_call hm rfl Try.call28 rfl (pack_Read.calls t_19 _ t_27 w0 _ _ _ (Mem.le.refl _) (hS.enter [] (by decide)) (hr_24.rd (hS.own_zed [] 2 (by decide)) (Mem.no_le _)) et_27) ?_
  rintro _ w_28 ⟨g_31, v_32, N_29, rfl, hS', hr_33⟩
  clear hm a; intro a hm
  obtain ⟨N_30, hS'', le_30, ln_30⟩ := hS.call [] (by decide) rfl (l' := []) (ow := [Mem.one g_31 (.cells ([v_32, .bool t_27.2] : List Value).toArray 66 (0, 0))]) rfl hS'
  replace hS : Sep w0 w_28 [N_30, M_7, Mem.no, M_25, Mem.one g_31 (.cells ([v_32, .bool t_27.2] : List Value).toArray 66 (0, 0))] Z := hS''
  clear hS' hS''
  refine s_assign hm rfl rfl ?_
  clear hm a; intro a hm
  refine wpList_nil ?_
  replace hm : Fr 72 a [(0, .bool false), (1, v_23), (2, .pointer (some ⟨g_31, 0, none⟩))] := hm.keep [0, 1, 2]
  refine x_then_n ?_
  refine c_seq fun KJ_34 hKJ_34 => ?_
  refine wp_seq ?_
  refine wp_region_lit ?_
  refine s_move hm rfl rfl ?_
  clear hm a; intro a hm
  refine s_ptrNil (b := false) hm rfl Try.underlying49 rfl (.inl ⟨rfl, rfl⟩) ?_
  clear hm a; intro a hm
  refine wpList_nil ?_
  replace hm : Fr 72 a [(0, .bool false), (1, v_23), (2, .pointer (some ⟨g_31, 0, none⟩)), (15, .bool false)] := hm.keep [0, 1, 2, 15]
  refine x_then_n ?_
  refine c_cond_f hm rfl rfl ?_
  refine wp_skip ?_
  refine x_then_n (hKJ_34 _ _ ?_)
  refine wp_seq ?_
  refine wp_region_lit ?_
  refine s_move hm rfl rfl ?_
  clear hm a; intro a hm
  obtain ⟨t_35, et_35, H⟩ := Option.bind_eq_some_iff.1 H
  refine s_call hm rfl Try.call29 rfl (pack_Reader_Num.calls K _ t_27.1 _ t_27.2 300 t_35 w0 _ _ N_30 (hS.new_zed [3]) (hS.enter [3] (by decide)) (hr_33.mono ln_30) et_35) ?_
  rintro _ w_36 ⟨v_39, N_37, rfl, hS', hr_40⟩
  clear hm a; intro a hm
  obtain ⟨N_38, hS'', le_38, ln_38⟩ := hS.call [3] (by decide) rfl (l' := [Mem.one g_31 (.cells ([v_39, .bool t_35.2.2] : List Value).toArray 66 (0, 0))]) (ow := []) rfl hS'
  replace hS : Sep w0 w_36 [N_38, M_7, Mem.no, M_25, Mem.one g_31 (.cells ([v_39, .bool t_35.2.2] : List Value).toArray 66 (0, 0))] Z := hS''
  clear hS' hS''
  refine s_move hm rfl rfl ?_
  clear hm a; intro a hm
  obtain ⟨t_41, et_41, H⟩ := Option.bind_eq_some_iff.1 H
  refine s_call hm rfl Try.call35 rfl (pack_Reader_Bytes.calls K _ t_35.2.1 _ t_35.2.2 2 t_41 w0 _ _ N_38 (hS.new_zed [3]) (hS.enter [3] (by decide)) (hr_40.mono (Mem.un_le le_38 ln_38)) et_41) ?_
  rintro v_45 w_42 ⟨_, v_49, N_43, M_47, rfl, hS', hr_46, hr_50⟩
  clear hm a; intro a hm
  obtain ⟨N_44, hS'', le_44, ln_44⟩ := hS.call [3] (by decide) rfl (l' := [Mem.one g_31 (.cells ([v_49, .bool t_41.2.2] : List Value).toArray 66 (0, 0))]) (ow := [M_47]) rfl hS'
  replace hS : Sep w0 w_42 [N_44, M_7, Mem.no, M_25, Mem.one g_31 (.cells ([v_49, .bool t_41.2.2] : List Value).toArray 66 (0, 0)), M_47] Z := hS''
  clear hS' hS''
  refine s_move hm rfl rfl ?_
  clear hm a; intro a hm
  obtain ⟨t_51, et_51, H⟩ := Option.bind_eq_some_iff.1 H
  refine s_call hm rfl Try.call32 rfl (pack_Reader_End.calls _ t_41.2.1 _ t_41.2.2 t_51 w0 _ _ N_44 (hS.new_zed [3]) (hS.enter [3] (by decide)) (hr_50.mono (Mem.un_le le_44 ln_44)) et_51) ?_
  rintro _ w_52 ⟨v_55, N_53, rfl, hS', hr_56⟩
  clear hm a; intro a hm
  obtain ⟨N_54, hS'', le_54, ln_54⟩ := hS.call [3] (by decide) rfl (l' := [Mem.one g_31 (.cells ([v_55, .bool t_51.2.2] : List Value).toArray 66 (0, 0))]) (ow := []) rfl hS'
  replace hS : Sep w0 w_52 [N_54, M_7, Mem.no, M_25, Mem.one g_31 (.cells ([v_55, .bool t_51.2.2] : List Value).toArray 66 (0, 0)), M_47] Z := hS''
  clear hS' hS''
  refine s_assign hm rfl rfl ?_
  clear hm a; intro a hm
  refine s_assign hm rfl rfl ?_
  clear hm a; intro a hm
  refine s_assign hm rfl rfl ?_
  clear hm a; intro a hm
  refine wpList_nil ?_
  replace hm : Fr 72 a [(0, .bool false), (1, v_23), (3, .int .i64 t_35.1), (4, v_45), (5, .bool t_51.1)] := hm.keep [0, 1, 3, 4, 5]
  refine x_then_n ?_
  refine wp_seq ?_
  refine wp_region_lit ?_
  have hq_61 : Reps Kd.u8 Mem.no ([(128 : UInt8), (0 : UInt8)] : List UInt8) _ := ((Reps.one (d := Kd.u8) (x := (128 : UInt8)) (show Kd.u8.K _ _ [.int .u8 ((128 : UInt8).toNat : Int)] from rfl)).append ((Reps.one (d := Kd.u8) (x := (0 : UInt8)) (show Kd.u8.K _ _ [.int .u8 ((0 : UInt8).toNat : Int)] from rfl)).append (Reps.nil Kd.u8 _)))
  refine s_buildSlice hm rfl Try.underlying25 ti5 rfl rfl rfl (.cons rfl (.cons rfl .nil)) rfl rfl rfl hS hq_61 rfl ?_
  intro w_57 v_58 M_59 hS' ho_60
  clear hm a; intro a hm
  replace hS : Sep w0 w_57 [N_54, M_7, Mem.no, M_25, Mem.one g_31 (.cells ([v_55, .bool t_51.2.2] : List Value).toArray 66 (0, 0)), M_47, M_59] Z := hS'
  clear hS' hq_61
  obtain ⟨t_63, et_63, H⟩ := Option.bind_eq_some_iff.1 H
  refine s_call hm rfl Try.call28 rfl (pack_Read.calls ([(128 : UInt8), (0 : UInt8)] : List UInt8) _ t_63 w0 _ _ _ (Mem.le.refl _) (hS.enter [] (by decide)) (ho_60.rd (hS.own_zed [] 5 (by decide)) (Mem.no_le _)) et_63) ?_
  rintro _ w_64 ⟨g_67, v_68, N_65, rfl, hS', hr_69⟩
  clear hm a; intro a hm
  obtain ⟨N_66, hS'', le_66, ln_66⟩ := hS.call [] (by decide) rfl (l' := []) (ow := [Mem.one g_67 (.cells ([v_68, .bool t_63.2] : List Value).toArray 66 (0, 0))]) rfl hS'
  replace hS : Sep w0 w_64 [N_66, M_7, Mem.no, M_25, Mem.one g_31 (.cells ([v_55, .bool t_51.2.2] : List Value).toArray 66 (0, 0)), M_47, M_59, Mem.one g_67 (.cells ([v_68, .bool t_63.2] : List Value).toArray 66 (0, 0))] Z := hS''
  clear hS' hS''
  obtain ⟨t_70, et_70, H⟩ := Option.bind_eq_some_iff.1 H
  refine s_call hm rfl Try.call31 rfl (pack_Num.calls K ([] : List UInt8) _ 5 t_70 w0 _ _ _ (Mem.le.refl _) (hS.enter [] (by decide)) (Rd.nil _ _) et_70) ?_
  rintro v_74 w_71 ⟨_, N_72, M_76, rfl, hS', hr_75⟩
  clear hm a; intro a hm
  obtain ⟨N_73, hS'', le_73, ln_73⟩ := hS.call [] (by decide) rfl (l' := []) (ow := [M_76]) rfl hS'
  replace hS : Sep w0 w_71 [N_73, M_7, Mem.no, M_25, Mem.one g_31 (.cells ([v_55, .bool t_51.2.2] : List Value).toArray 66 (0, 0)), M_47, M_59, Mem.one g_67 (.cells ([v_68, .bool t_63.2] : List Value).toArray 66 (0, 0)), M_76] Z := hS''
  clear hS' hS''
  obtain ⟨t_78, et_78, H⟩ := Option.bind_eq_some_iff.1 H
  refine s_call hm rfl Try.call28 rfl (pack_Read.calls t_70 _ t_78 w0 _ _ _ (Mem.le.refl _) (hS.enter [] (by decide)) (hr_75.rd (hS.own_zed [] 7 (by decide)) (Mem.no_le _)) et_78) ?_
  rintro _ w_79 ⟨g_82, v_83, N_80, rfl, hS', hr_84⟩
  clear hm a; intro a hm
  obtain ⟨N_81, hS'', le_81, ln_81⟩ := hS.call [] (by decide) rfl (l' := []) (ow := [Mem.one g_82 (.cells ([v_83, .bool t_78.2] : List Value).toArray 66 (0, 0))]) rfl hS'
  replace hS : Sep w0 w_79 [N_81, M_7, Mem.no, M_25, Mem.one g_31 (.cells ([v_55, .bool t_51.2.2] : List Value).toArray 66 (0, 0)), M_47, M_59, Mem.one g_67 (.cells ([v_68, .bool t_63.2] : List Value).toArray 66 (0, 0)), M_76, Mem.one g_82 (.cells ([v_83, .bool t_78.2] : List Value).toArray 66 (0, 0))] Z := hS''
  clear hS' hS''
  refine s_assign hm rfl rfl ?_
  clear hm a; intro a hm
  refine s_assign hm rfl rfl ?_
  clear hm a; intro a hm
  refine wpList_nil ?_
  replace hm : Fr 72 a [(0, .bool false), (1, v_23), (3, .int .i64 t_35.1), (4, v_45), (5, .bool t_51.1), (6, .pointer (some ⟨g_67, 0, none⟩)), (7, .pointer (some ⟨g_82, 0, none⟩))] := hm.keep [0, 1, 3, 4, 5, 6, 7]
  refine x_then_n ?_
  refine c_seq fun KJ_85 hKJ_85 => ?_
  refine c_seq fun KJ_86 hKJ_86 => ?_
  refine wp_region_lit ?_
  refine s_move hm rfl rfl ?_
  clear hm a; intro a hm
  refine s_ptrNil (b := false) hm rfl Try.underlying49 rfl (.inl ⟨rfl, rfl⟩) ?_
  clear hm a; intro a hm
  refine s_move hm rfl rfl ?_
  clear hm a; intro a hm
  refine s_on hm rfl rfl rfl ?_
  refine s_move hm rfl rfl ?_
  clear hm a; intro a hm
  refine s_on hm rfl rfl rfl ?_
  refine s_ptrNil (b := false) hm rfl Try.underlying49 rfl (.inl ⟨rfl, rfl⟩) ?_
  clear hm a; intro a hm
  refine s_pick_f hm rfl rfl rfl rfl ?_
  clear hm a; intro a hm
  refine wpList_nil ?_
  replace hm : Fr 72 a [(0, .bool false), (1, v_23), (3, .int .i64 t_35.1), (4, v_45), (5, .bool t_51.1), (6, .pointer (some ⟨g_67, 0, none⟩)), (7, .pointer (some ⟨g_82, 0, none⟩)), (31, .bool false)] := hm.keep [0, 1, 3, 4, 5, 6, 7, 31]
  refine x_then_n (hKJ_86 _ _ ?_)
  refine c_cond_f hm rfl rfl ?_
  refine wp_skip ?_
  refine x_then_n (hKJ_85 _ _ ?_)
  refine c_seq fun KJ_87 hKJ_87 => ?_
  refine wp_region_lit ?_
  refine s_move hm rfl rfl ?_
  clear hm a; intro a hm
  refine s_b2s hm rfl Try.underlying25 Try.underlying5 Try.underlying9 rfl (hr_24.rd (J := hp w_79) (hS.own 3) (Mem.no_le _)) (Mem.le.refl _) ?_
  clear hm a; intro a hm
  refine s_strEq (b := (t_19 == ([172, 2, 2, 97, 98] : List UInt8))) hm rfl rfl rfl (.inl ⟨rfl, rfl⟩) ?_
  clear hm a; intro a hm
  refine s_move hm rfl rfl ?_
  clear hm a; intro a hm
  by_cases hc_88 : t_19 = ([172, 2, 2, 97, 98] : List UInt8)
  · rw [if_pos hc_88] at H
    refine s_on hm rfl rfl (beq_iff_eq.2 hc_88) ?_
    refine s_move hm rfl rfl ?_
    clear hm a; intro a hm
    refine s_on hm rfl rfl (beq_iff_eq.2 hc_88) ?_
    refine s_cmp (b := (t_35.1 == 300)) hm rfl rfl rfl (.inl ⟨rfl, rfl⟩) ?_
    clear hm a; intro a hm
    refine s_pick_t hm rfl rfl (beq_iff_eq.2 hc_88) rfl ?_
    clear hm a; intro a hm
    refine s_move hm rfl rfl ?_
    clear hm a; intro a hm
    by_cases hc_89 : t_35.1 = 300
    · rw [if_pos hc_89] at H
      refine s_on hm rfl rfl (beq_iff_eq.2 hc_89) ?_
      refine s_move hm rfl rfl ?_
      clear hm a; intro a hm
      refine s_on hm rfl rfl (beq_iff_eq.2 hc_89) ?_
      refine s_b2s hm rfl Try.underlying25 Try.underlying5 Try.underlying9 rfl (hr_46.rd (J := hp w_79) (hS.own 5) (Mem.no_le _)) (Mem.le.refl _) ?_
      clear hm a; intro a hm
      refine s_on hm rfl rfl (beq_iff_eq.2 hc_89) ?_
      refine s_strEq (b := (t_41.1 == ([97, 98] : List UInt8))) hm rfl rfl rfl (.inl ⟨rfl, rfl⟩) ?_
      clear hm a; intro a hm
      refine s_pick_t hm rfl rfl (beq_iff_eq.2 hc_89) rfl ?_
      clear hm a; intro a hm
      refine s_move hm rfl rfl ?_
      clear hm a; intro a hm
      by_cases hc_90 : t_41.1 = ([97, 98] : List UInt8)
      · rw [if_pos hc_90] at H
        refine s_on hm rfl rfl (beq_iff_eq.2 hc_90) ?_
        refine s_move hm rfl rfl ?_
        clear hm a; intro a hm
        refine s_pick_t hm rfl rfl (beq_iff_eq.2 hc_90) rfl ?_
        clear hm a; intro a hm
        refine s_move hm rfl rfl ?_
        clear hm a; intro a hm
        by_cases hc_91 : t_51.1 = true
        · rw [if_pos hc_91] at H
          refine s_on hm rfl rfl hc_91 ?_
          refine s_move hm rfl rfl ?_
          clear hm a; intro a hm
          refine s_on hm rfl rfl hc_91 ?_
          obtain ⟨t_92, et_92, H⟩ := Option.bind_eq_some_iff.1 H
          refine s_call hm rfl Try.call29 rfl (pack_Reader_Num.calls K _ t_63.1 _ t_63.2 9 t_92 w0 _ _ N_81 (hS.new_zed [6]) (hS.enter [6] (by decide)) ((hr_69.mono ln_66).mono (le_73.trans le_81)) et_92) ?_
          rintro _ w_93 ⟨v_96, N_94, rfl, hS', hr_97⟩
          clear hm a; intro a hm
          obtain ⟨N_95, hS'', le_95, ln_95⟩ := hS.call [6] (by decide) rfl (l' := [Mem.one g_67 (.cells ([v_96, .bool t_92.2.2] : List Value).toArray 66 (0, 0))]) (ow := []) rfl hS'
          replace hS : Sep w0 w_93 [N_95, M_7, Mem.no, M_25, Mem.one g_31 (.cells ([v_55, .bool t_51.2.2] : List Value).toArray 66 (0, 0)), M_47, M_59, Mem.one g_67 (.cells ([v_96, .bool t_92.2.2] : List Value).toArray 66 (0, 0)), M_76, Mem.one g_82 (.cells ([v_83, .bool t_78.2] : List Value).toArray 66 (0, 0))] Z := hS''
          clear hS' hS''
          refine s_on hm rfl rfl hc_91 ?_
          refine s_cmp (b := (t_92.1 == 0)) hm rfl rfl rfl (.inl ⟨rfl, rfl⟩) ?_
          clear hm a; intro a hm
          refine s_pick_t hm rfl rfl hc_91 rfl ?_
          clear hm a; intro a hm
          refine s_move hm rfl rfl ?_
          clear hm a; intro a hm
          by_cases hc_98 : t_92.1 = 0
          · rw [if_pos hc_98] at H
            refine s_on hm rfl rfl (beq_iff_eq.2 hc_98) ?_
            refine s_move hm rfl rfl ?_
            clear hm a; intro a hm
            refine s_on hm rfl rfl (beq_iff_eq.2 hc_98) ?_
            obtain ⟨t_99, et_99, H⟩ := Option.bind_eq_some_iff.1 H
            refine s_call hm rfl Try.call30 rfl (pack_Reader_Ok.calls _ t_92.2.1 _ t_92.2.2 t_99 w0 _ _ N_95 (hS.new_zed [6]) (hS.enter [6] (by decide)) (hr_97.mono (Mem.un_le le_95 ln_95)) et_99) ?_
            rintro _ w_100 ⟨v_103, N_101, rfl, hS', hr_104⟩
            clear hm a; intro a hm
            obtain ⟨N_102, hS'', le_102, ln_102⟩ := hS.call [6] (by decide) rfl (l' := [Mem.one g_67 (.cells ([v_103, .bool t_99.2.2] : List Value).toArray 66 (0, 0))]) (ow := []) rfl hS'
            replace hS : Sep w0 w_100 [N_102, M_7, Mem.no, M_25, Mem.one g_31 (.cells ([v_55, .bool t_51.2.2] : List Value).toArray 66 (0, 0)), M_47, M_59, Mem.one g_67 (.cells ([v_103, .bool t_99.2.2] : List Value).toArray 66 (0, 0)), M_76, Mem.one g_82 (.cells ([v_83, .bool t_78.2] : List Value).toArray 66 (0, 0))] Z := hS''
            clear hS' hS''
            refine s_on hm rfl rfl (beq_iff_eq.2 hc_98) ?_
            refine s_not hm rfl rfl ?_
            clear hm a; intro a hm
            refine s_pick_t hm rfl rfl (beq_iff_eq.2 hc_98) rfl ?_
            clear hm a; intro a hm
            refine s_move hm rfl rfl ?_
            clear hm a; intro a hm
            by_cases hc_105 : t_99.1 = true
            · rw [if_pos hc_105] at H
              cases H
            · rw [if_neg hc_105] at H
              refine s_on hm rfl rfl (nt (Bool.eq_false_iff.2 hc_105)) ?_
              refine s_move hm rfl rfl ?_
              clear hm a; intro a hm
              refine s_on hm rfl rfl (nt (Bool.eq_false_iff.2 hc_105)) ?_
              obtain ⟨t_106, et_106, H⟩ := Option.bind_eq_some_iff.1 H
              refine s_call hm rfl Try.call29 rfl (pack_Reader_Num.calls K _ t_78.1 _ t_78.2 4 t_106 w0 _ _ N_102 (hS.new_zed [8]) (hS.enter [8] (by decide)) ((hr_84.mono ln_81).mono (le_95.trans le_102)) et_106) ?_
              rintro _ w_107 ⟨v_110, N_108, rfl, hS', hr_111⟩
              clear hm a; intro a hm
              obtain ⟨N_109, hS'', le_109, ln_109⟩ := hS.call [8] (by decide) rfl (l' := [Mem.one g_82 (.cells ([v_110, .bool t_106.2.2] : List Value).toArray 66 (0, 0))]) (ow := []) rfl hS'
              replace hS : Sep w0 w_107 [N_109, M_7, Mem.no, M_25, Mem.one g_31 (.cells ([v_55, .bool t_51.2.2] : List Value).toArray 66 (0, 0)), M_47, M_59, Mem.one g_67 (.cells ([v_103, .bool t_99.2.2] : List Value).toArray 66 (0, 0)), M_76, Mem.one g_82 (.cells ([v_110, .bool t_106.2.2] : List Value).toArray 66 (0, 0))] Z := hS''
              clear hS' hS''
              refine s_on hm rfl rfl (nt (Bool.eq_false_iff.2 hc_105)) ?_
              refine s_cmp (b := (t_106.1 == 0)) hm rfl rfl rfl (.inl ⟨rfl, rfl⟩) ?_
              clear hm a; intro a hm
              refine s_pick_t hm rfl rfl (nt (Bool.eq_false_iff.2 hc_105)) rfl ?_
              clear hm a; intro a hm
              refine s_move hm rfl rfl ?_
              clear hm a; intro a hm
              by_cases hc_112 : t_106.1 = 0
              · rw [if_pos hc_112] at H
                refine s_on hm rfl rfl (beq_iff_eq.2 hc_112) ?_
                refine s_move hm rfl rfl ?_
                clear hm a; intro a hm
                refine s_on hm rfl rfl (beq_iff_eq.2 hc_112) ?_
                obtain ⟨t_113, et_113, H⟩ := Option.bind_eq_some_iff.1 H
                refine s_call hm rfl Try.call30 rfl (pack_Reader_Ok.calls _ t_106.2.1 _ t_106.2.2 t_113 w0 _ _ N_109 (hS.new_zed [8]) (hS.enter [8] (by decide)) (hr_111.mono (Mem.un_le le_109 ln_109)) et_113) ?_
                rintro _ w_114 ⟨v_117, N_115, rfl, hS', hr_118⟩
                clear hm a; intro a hm
                obtain ⟨N_116, hS'', le_116, ln_116⟩ := hS.call [8] (by decide) rfl (l' := [Mem.one g_82 (.cells ([v_117, .bool t_113.2.2] : List Value).toArray 66 (0, 0))]) (ow := []) rfl hS'
                replace hS : Sep w0 w_114 [N_116, M_7, Mem.no, M_25, Mem.one g_31 (.cells ([v_55, .bool t_51.2.2] : List Value).toArray 66 (0, 0)), M_47, M_59, Mem.one g_67 (.cells ([v_103, .bool t_99.2.2] : List Value).toArray 66 (0, 0)), M_76, Mem.one g_82 (.cells ([v_117, .bool t_113.2.2] : List Value).toArray 66 (0, 0))] Z := hS''
                clear hS' hS''
                refine s_on hm rfl rfl (beq_iff_eq.2 hc_112) ?_
                refine s_not hm rfl rfl ?_
                clear hm a; intro a hm
                refine s_pick_t hm rfl rfl (beq_iff_eq.2 hc_112) rfl ?_
                clear hm a; intro a hm
                refine s_move hm rfl rfl ?_
                clear hm a; intro a hm
                by_cases hc_119 : t_113.1 = true
                · rw [if_pos hc_119] at H
                  cases H
                · rw [if_neg hc_119] at H
                  refine s_on hm rfl rfl (nt (Bool.eq_false_iff.2 hc_119)) ?_
                  refine s_move hm rfl rfl ?_
                  clear hm a; intro a hm
                  refine s_on hm rfl rfl (nt (Bool.eq_false_iff.2 hc_119)) ?_
                  obtain ⟨t_120, et_120, H⟩ := Option.bind_eq_some_iff.1 H
                  refine s_call hm rfl Try.call32 rfl (pack_Reader_End.calls _ t_113.2.1 _ t_113.2.2 t_120 w0 _ _ N_116 (hS.new_zed [8]) (hS.enter [8] (by decide)) (hr_118.mono (Mem.un_le le_116 ln_116)) et_120) ?_
                  rintro _ w_121 ⟨v_124, N_122, rfl, hS', hr_125⟩
                  clear hm a; intro a hm
                  obtain ⟨N_123, hS'', le_123, ln_123⟩ := hS.call [8] (by decide) rfl (l' := [Mem.one g_82 (.cells ([v_124, .bool t_120.2.2] : List Value).toArray 66 (0, 0))]) (ow := []) rfl hS'
                  replace hS : Sep w0 w_121 [N_123, M_7, Mem.no, M_25, Mem.one g_31 (.cells ([v_55, .bool t_51.2.2] : List Value).toArray 66 (0, 0)), M_47, M_59, Mem.one g_67 (.cells ([v_103, .bool t_99.2.2] : List Value).toArray 66 (0, 0)), M_76, Mem.one g_82 (.cells ([v_124, .bool t_120.2.2] : List Value).toArray 66 (0, 0))] Z := hS''
                  clear hS' hS''
                  refine s_on hm rfl rfl (nt (Bool.eq_false_iff.2 hc_119)) ?_
                  refine s_not hm rfl rfl ?_
                  clear hm a; intro a hm
                  refine s_pick_t hm rfl rfl (nt (Bool.eq_false_iff.2 hc_119)) rfl ?_
                  clear hm a; intro a hm
                  refine s_assign hm rfl rfl ?_
                  clear hm a; intro a hm
                  refine wpList_nil ?_
                  replace hm : Fr 72 a [(0, .bool (!t_120.1))] := hm.keep [0]
                  refine x_then_n (hKJ_87 _ _ ?_)
                  refine wp_ret ?_
                  by_cases hc_126 : t_120.1 = true
                  · rw [if_pos hc_126] at H
                    cases H
                  · rw [if_neg hc_126] at H
                    exact f_ret hm (rs := [.tmp 0]) rfl (.tmp rfl .nil) ⟨_, rfl, N_123, (by rw [(nt (Bool.eq_false_iff.2 hc_126))]; rfl), (Sep.sel hS [0] (by decide))⟩
              · rw [if_neg hc_112] at H
                cases H
          · rw [if_neg hc_98] at H
            cases H
        · rw [if_neg hc_91] at H
          cases H
      · rw [if_neg hc_90] at H
        cases H
    · rw [if_neg hc_89] at H
      cases H
  · rw [if_neg hc_88] at H
    cases H

set_option maxHeartbeats 4000000 in
set_option maxRecDepth 20000 in
theorem hocketref1_Num.calls (K : Nat) (x0 : List UInt8) (p0_0 : Value) (x1 : Int) (r : (List UInt8)) (w0 w : World) (Z A : Mem) (hA : A.le Z) (hS : Sep w0 w [] Z) (hp0_0 : Rd Kd.u8 A p0_0 x0)
    (H : hocketref1_Num.f K x0 x1 = some r) :
    Calls Try.prog 36 [p0_0, .int .i64 x1].toArray w (Ret fun v w' => ∃ (u0 : Value) (N : Mem) (M0 : Mem), v = u0 ∧ Sep w0 w' [N, M0] Z ∧ Own Kd.u8 5 M0 Mem.no u0 r) := by
  unfold hocketref1_Num.f at H
  refine f_enter _ Try.func36 rfl Try.ntmps36 rfl fun a hm => ?_
  replace hm : Fr 28 a [(0, p0_0), (1, .int .i64 x1)] := hm
  replace hS := hS.start
  replace hS : Sep w0 w [Mem.no] Z := hS
  refine wp_seq ?_
  refine wp_region_lit ?_
  refine s_assign hm rfl rfl ?_
  clear hm a; intro a hm
  refine wpList_nil ?_
  replace hm : Fr 28 a [(0, p0_0), (1, .int .i64 x1), (4, .slice none 0 0)] := hm.keep [0, 1, 4]
  refine x_then_n ?_
  refine wp_seq ?_
  refine wp_region_lit ?_
  have hq_5 : Reps Kd.u8 Mem.no ([] : List UInt8) _ := (Reps.nil Kd.u8 _)
  refine s_buildSlice hm rfl Try.underlying25 ti5 rfl rfl rfl .nil rfl rfl rfl hS hq_5 rfl ?_
  intro w_1 v_2 M_3 hS' ho_4
  clear hm a; intro a hm
  replace hS : Sep w0 w_1 [Mem.no, M_3] Z := hS'
  clear hS' hq_5
  refine s_move hm rfl rfl ?_
  clear hm a; intro a hm
  obtain ⟨t_7, et_7, H⟩ := Option.bind_eq_some_iff.1 H
  refine s_append (J := Mem.no) (I' := Mem.no) (p := 1) 140737488355328 hm rfl rfl rfl Try.underlying25 ti5 rfl rfl rfl rfl hS rfl ho_4 (Src.flat flat_u8 (hp0_0.src (hA.trans hS.old))) (Mem.le.refl _) (Mem.le.refl _) et_7 ?_
  intro w_8 v_9 M_10 hS' ho_11
  clear hm a; intro a hm
  replace hS : Sep w0 w_8 [Mem.no, M_10] Z := hS'
  clear hS'
  refine s_assign hm rfl rfl ?_
  clear hm a; intro a hm
  refine wpList_nil ?_
  replace hm : Fr 28 a [(1, .int .i64 x1), (4, .slice none 0 0), (5, v_9)] := hm.keep [1, 4, 5]
  refine x_then_n ?_
  refine wp_seq ?_
  refine wp_region_lit ?_
  refine s_move hm rfl rfl ?_
  clear hm a; intro a hm
  refine s_max hm rfl rfl rfl ?_
  clear hm a; intro a hm
  refine s_min hm rfl rfl rfl ?_
  clear hm a; intro a hm
  refine s_assign hm rfl rfl ?_
  clear hm a; intro a hm
  refine wpList_nil ?_
  replace hm : Fr 28 a [(1, .int .i64 (mn (mx x1 0) 4611686018427387904)), (4, .slice none 0 0), (5, v_9)] := hm.keep [1, 4, 5]
  refine x_then_n ?_
  refine c_seq fun KJ_13 hKJ_13 => ?_
  have hJ_j_22 : ∀ (x_15 : Int), ∀ (x_16 : List UInt8), hocketref1_Num.J1 K x_15 x_16 = some r → ∀ (a : Act) (w_21 : World), (∃ (v_19 : Value) (N_14 : Mem) (M_17 : Mem), Fr 28 a [(1, .int .i64 x_15), (4, .slice none 0 0), (5, v_19)] ∧ Sep w0 w_21 [N_14, M_17] Z ∧ Mem.no.le N_14 ∧ Own Kd.u8 5 M_17 Mem.no v_19 x_16) → KJ_13 a w_21 := by
    clear H hm hS a
    rintro x_15 x_16 H a w_21 ⟨v_19, N_14, M_17, hm, hS, le_14, ho_20⟩
    unfold hocketref1_Num.J1 at H
    refine hKJ_13 _ _ ?_
    refine wp_seq ?_
    refine wp_region_lit ?_
    refine s_move hm rfl rfl ?_
    clear hm a; intro a hm
    refine s_move hm rfl rfl ?_
    clear hm a; intro a hm
    refine s_conv (((toU8 x_15).toNat : Int)) hm rfl Try.underlying3 Try.underlying5 rfl (wrap_u8 _).symm ?_
    clear hm a; intro a hm
    have hq_27 : Reps Kd.u8 Mem.no ([toU8 x_15] : List UInt8) _ := ((Reps.one (d := Kd.u8) (x := toU8 x_15) (show Kd.u8.K _ _ [.int .u8 ((toU8 x_15).toNat : Int)] from rfl)).append (Reps.nil Kd.u8 _))
    refine s_buildSlice hm rfl Try.underlying25 ti5 rfl rfl rfl (.cons rfl .nil) rfl rfl rfl hS hq_27 rfl ?_
    intro w_23 v_24 M_25 hS' ho_26
    clear hm a; intro a hm
    replace hS : Sep w0 w_23 [N_14, M_17, M_25] Z := hS'
    clear hS' hq_27
    obtain ⟨t_29, et_29, H⟩ := Option.bind_eq_some_iff.1 H
    refine s_append (J := Mem.no) (I' := Mem.no) (p := 1) 140737488355328 hm rfl rfl rfl Try.underlying25 ti5 rfl rfl rfl rfl hS rfl ho_20 (Src.flat flat_u8 (ho_26.src (hS.own 2))) (Mem.le.refl _) (Mem.le.refl _) et_29 ?_
    intro w_30 v_31 M_32 hS' ho_33
    clear hm a; intro a hm
    replace hS : Sep w0 w_30 [N_14, M_32, M_25] Z := hS'
    clear hS'
    refine s_assign hm rfl rfl ?_
    clear hm a; intro a hm
    refine wpList_nil ?_
    replace hm : Fr 28 a [(4, v_31)] := hm.keep [4]
    refine x_then_n ?_
    refine wp_ret ?_
    obtain rfl := Option.some.inj H
    exact f_ret hm (rs := [.tmp 4]) rfl (.tmp rfl .nil) ⟨_, rfl, v_31, N_14, M_32, rfl, (Sep.sel hS [0, 1] (by decide)), ho_33⟩
  clear hKJ_13
  replace hS : Sep w0 w_8 [Mem.no, M_10] Z := hS
  replace hm : Fr 28 a [(1, .int .i64 (mn (mx x1 0) 4611686018427387904)), (4, .slice none 0 0), (5, v_9)] := hm.keep [1, 4, 5]
  refine c_block ?_
  refine c_loop (fun k_42 a w_42 => ∃ (x_36 : Int) (x_37 : List UInt8) (v_40 : Value) (N_35 : Mem) (M_38 : Mem), hocketref1_Num.L1 K (fun v => hocketref1_Num.J1 K v.1 v.2) k_42 (x_36, x_37) = some r ∧ Fr 28 a [(1, .int .i64 x_36), (4, .slice none 0 0), (5, v_40)] ∧ Sep w0 w_42 [N_35, M_38] Z ∧ Mem.no.le N_35 ∧ Own Kd.u8 5 M_38 Mem.no v_40 x_37) K ⟨mn (mx x1 0) 4611686018427387904, t_7, v_9, Mem.no, M_10, H, hm, (Sep.sel hS [0, 1] (by decide)), (Mem.le.refl _), ho_11⟩ (fun a w h => by obtain ⟨_, _, _, _, _, H, _⟩ := h; cases (show (none : Option ((List UInt8))) = some r from H)) ?_
  clear hm hS a H
  rintro k_42 a w_42 KL_42 hKL_42 ⟨x_36, x_37, v_40, N_35, M_38, H, hm, hS, le_35, ho_41⟩
  replace H : hocketref1_Num.B1 K (fun v => hocketref1_Num.J1 K v.1 v.2) (hocketref1_Num.L1 K (fun v => hocketref1_Num.J1 K v.1 v.2) k_42) x_36 x_37 = some r := H
  unfold hocketref1_Num.B1 at H
  refine c_seq fun KJ_44 hKJ_44 => ?_
  refine wp_seq ?_
  refine wp_region_lit ?_
  refine s_move hm rfl rfl ?_
  clear hm a; intro a hm
  refine s_cmp (b := decide (x_36 > 127)) hm rfl rfl rfl (.inr (.inr (.inr (.inr (.inl ⟨rfl, rfl⟩))))) ?_
  clear hm a; intro a hm
  refine wpList_nil ?_
  replace hm : Fr 28 a [(1, .int .i64 x_36), (4, .slice none 0 0), (5, v_40), (13, .bool (decide (x_36 > 127)))] := hm.keep [1, 4, 5, 13]
  refine x_then_n ?_
  by_cases hc_45 : x_36 > 127
  · rw [if_pos hc_45] at H
    refine c_cond_t hm rfl (decide_eq_true hc_45) ?_
    refine wp_skip ?_
    refine x_then_n (hKJ_44 _ _ ?_)
    refine c_block ?_
    refine wp_seq ?_
    refine wp_region_lit ?_
    refine s_move hm rfl rfl ?_
    clear hm a; intro a hm
    refine s_move hm rfl rfl ?_
    clear hm a; intro a hm
    refine s_bits (i := x_36) (j := 127) (r := band .i64 x_36 127) hm rfl rfl rfl (.inl ⟨rfl, rfl⟩) ?_
    clear hm a; intro a hm
    refine s_bits (i := band .i64 x_36 127) (j := 128) (r := bor .i64 (band .i64 x_36 127) 128) hm rfl rfl rfl (.inr (.inl ⟨rfl, rfl⟩)) ?_
    clear hm a; intro a hm
    refine s_conv (((toU8 (bor .i64 (band .i64 x_36 127) 128)).toNat : Int)) hm rfl Try.underlying3 Try.underlying5 rfl (wrap_u8 _).symm ?_
    clear hm a; intro a hm
    have hq_50 : Reps Kd.u8 Mem.no ([toU8 (bor .i64 (band .i64 x_36 127) 128)] : List UInt8) _ := ((Reps.one (d := Kd.u8) (x := toU8 (bor .i64 (band .i64 x_36 127) 128)) (show Kd.u8.K _ _ [.int .u8 ((toU8 (bor .i64 (band .i64 x_36 127) 128)).toNat : Int)] from rfl)).append (Reps.nil Kd.u8 _))
    refine s_buildSlice hm rfl Try.underlying25 ti5 rfl rfl rfl (.cons rfl .nil) rfl rfl rfl hS hq_50 rfl ?_
    intro w_46 v_47 M_48 hS' ho_49
    clear hm a; intro a hm
    replace hS : Sep w0 w_46 [N_35, M_38, M_48] Z := hS'
    clear hS' hq_50
    obtain ⟨t_52, et_52, H⟩ := Option.bind_eq_some_iff.1 H
    refine s_append (J := Mem.no) (I' := Mem.no) (p := 1) 140737488355328 hm rfl rfl rfl Try.underlying25 ti5 rfl rfl rfl rfl hS rfl ho_41 (Src.flat flat_u8 (ho_49.src (hS.own 2))) (Mem.le.refl _) (Mem.le.refl _) et_52 ?_
    intro w_53 v_54 M_55 hS' ho_56
    clear hm a; intro a hm
    replace hS : Sep w0 w_53 [N_35, M_55, M_48] Z := hS'
    clear hS'
    refine s_assign hm rfl rfl ?_
    clear hm a; intro a hm
    refine wpList_nil ?_
    replace hm : Fr 28 a [(1, .int .i64 x_36), (4, .slice none 0 0), (5, v_54)] := hm.keep [1, 4, 5]
    refine x_then_n ?_
    refine wp_region_lit ?_
    refine s_move hm rfl rfl ?_
    clear hm a; intro a hm
    refine s_shift (r := shr .i64 x_36 7) hm rfl rfl rfl (by decide) (.inr ⟨rfl, rfl⟩) ?_
    clear hm a; intro a hm
    refine s_assign hm rfl rfl ?_
    clear hm a; intro a hm
    refine wpList_nil ?_
    replace hm : Fr 28 a [(1, .int .i64 (shr .i64 x_36 7)), (4, .slice none 0 0), (5, v_54)] := hm.keep [1, 4, 5]
    refine x_block_n ?_
    refine x_then_n (hKL_42 _ _ ?_)
    replace hS : Sep w0 w_53 [N_35, M_55, M_48] Z := hS
    replace hm : Fr 28 a [(1, .int .i64 (shr .i64 x_36 7)), (4, .slice none 0 0), (5, v_54)] := hm.keep [1, 4, 5]
    exact ⟨shr .i64 x_36 7, t_52, v_54, N_35, M_55, H, hm, (Sep.sel hS [0, 1] (by decide)), le_35, ho_56⟩
  · rw [if_neg hc_45] at H
    refine c_cond_f hm rfl (decide_eq_false hc_45) ?_
    refine wp_exit (x_then_x (x_then_x (x_block_t ?_)))
    replace hS : Sep w0 w_42 [N_35, M_38] Z := hS
    replace hm : Fr 28 a [(1, .int .i64 x_36), (4, .slice none 0 0), (5, v_40)] := hm.keep [1, 4, 5]
    exact x_then_n (hJ_j_22 x_36 x_37 H _ _ ⟨v_40, N_35, M_38, hm, (Sep.sel hS [0, 1] (by decide)), le_35, ho_41⟩)

set_option maxHeartbeats 4000000 in
set_option maxRecDepth 20000 in
theorem hocketref1_Bytes.calls (K : Nat) (x0 : List UInt8) (p0_0 : Value) (x1 : List UInt8) (p1_1 : Value) (r : (List UInt8)) (w0 w : World) (Z A : Mem) (hA : A.le Z) (hS : Sep w0 w [] Z) (hp0_0 : Rd Kd.u8 A p0_0 x0) (hp1_1 : Rd Kd.u8 A p1_1 x1)
    (H : hocketref1_Bytes.f K x0 x1 = some r) :
    Calls Try.prog 37 [p0_0, p1_1].toArray w (Ret fun v w' => ∃ (u0 : Value) (N : Mem) (M0 : Mem), v = u0 ∧ Sep w0 w' [N, M0] Z ∧ Own Kd.u8 5 M0 Mem.no u0 r) := by
  unfold hocketref1_Bytes.f at H
  refine f_enter _ Try.func37 rfl Try.ntmps37 rfl fun a hm => ?_
  replace hm : Fr 11 a [(0, p0_0), (1, p1_1)] := hm
  replace hS := hS.start
  replace hS : Sep w0 w [Mem.no] Z := hS
  refine wp_seq ?_
  refine wp_region_lit ?_
  refine s_assign hm rfl rfl ?_
  clear hm a; intro a hm
  refine wpList_nil ?_
  replace hm : Fr 11 a [(0, p0_0), (1, p1_1), (4, .slice none 0 0)] := hm.keep [0, 1, 4]
  refine x_then_n ?_
  refine wp_seq ?_
  refine wp_region_lit ?_
  refine s_move hm rfl rfl ?_
  clear hm a; intro a hm
  refine s_move hm rfl rfl ?_
  clear hm a; intro a hm
  refine s_len hm rfl Try.underlying25 rfl hp1_1 ?_
  clear hm a; intro a hm
  obtain ⟨t_1, et_1, H⟩ := Option.bind_eq_some_iff.1 H
  refine s_call hm rfl Try.call36 rfl (hocketref1_Num.calls K x0 _ (x1.length : Int) t_1 w0 _ _ _ (Mem.le.refl _) (hS.enter [] (by decide)) (hp0_0.mono (hA.trans (hS.le_zed []))) et_1) ?_
  rintro v_5 w_2 ⟨_, N_3, M_7, rfl, hS', hr_6⟩
  clear hm a; intro a hm
  obtain ⟨N_4, hS'', le_4, ln_4⟩ := hS.call [] (by decide) rfl (l' := []) (ow := [M_7]) rfl hS'
  replace hS : Sep w0 w_2 [N_4, M_7] Z := hS''
  clear hS' hS''
  refine s_move hm rfl rfl ?_
  clear hm a; intro a hm
  obtain ⟨t_9, et_9, H⟩ := Option.bind_eq_some_iff.1 H
  refine s_append (J := Mem.no) (I' := Mem.no) (p := 1) 140737488355328 hm rfl rfl rfl Try.underlying25 ti5 rfl rfl rfl rfl hS rfl hr_6 (Src.flat flat_u8 (hp1_1.src (hA.trans hS.old))) (Mem.le.refl _) (Mem.le.refl _) et_9 ?_
  intro w_10 v_11 M_12 hS' ho_13
  clear hm a; intro a hm
  replace hS : Sep w0 w_10 [N_4, M_12] Z := hS'
  clear hS'
  refine s_assign hm rfl rfl ?_
  clear hm a; intro a hm
  refine wpList_nil ?_
  replace hm : Fr 11 a [(4, v_11)] := hm.keep [4]
  refine x_then_n ?_
  refine wp_ret ?_
  obtain rfl := Option.some.inj H
  exact f_ret hm (rs := [.tmp 4]) rfl (.tmp rfl .nil) ⟨_, rfl, v_11, N_4, M_12, rfl, (Sep.sel hS [0, 1] (by decide)), ho_13⟩

set_option maxHeartbeats 4000000 in
set_option maxRecDepth 20000 in
theorem hocketref1_Reader_Num.calls (K : Nat) (g0 : Nat) (x0_B : List UInt8) (p0_0 : Value) (x0_Bad : Bool) (x1 : Int) (r : Int × (List UInt8) × Bool) (w0 w : World) (Z A : Mem) (hA : A.le Z) (hS : Sep w0 w [Mem.one g0 (.cells ([p0_0, .bool x0_Bad] : List Value).toArray 58 (0, 0))] Z) (hp0_0 : Rd Kd.u8 A p0_0 x0_B)
    (H : hocketref1_Reader_Num.f K x0_B x0_Bad x1 = some r) :
    Calls Try.prog 39 [.pointer (some ⟨g0, 0, none⟩), .int .i64 x1].toArray w (Ret fun v w' => ∃ (u0 : Value) (N : Mem), v = .int .i64 r.1 ∧ Sep w0 w' [N, Mem.one g0 (.cells ([u0, .bool r.2.2] : List Value).toArray 58 (0, 0))] Z ∧ Rd Kd.u8 (A.un N) u0 r.2.1) := by
  unfold hocketref1_Reader_Num.f at H
  refine f_enter _ Try.func39 rfl Try.ntmps39 rfl fun a hm => ?_
  replace hm : Fr 75 a [(0, .pointer (some ⟨g0, 0, none⟩)), (1, .int .i64 x1)] := hm
  replace hS := hS.start
  replace hS : Sep w0 w [Mem.no, Mem.one g0 (.cells ([p0_0, .bool x0_Bad] : List Value).toArray 58 (0, 0))] Z := hS
  refine wp_seq ?_
  refine wp_region_lit ?_
  refine s_assign hm rfl rfl ?_
  clear hm a; intro a hm
  refine wpList_nil ?_
  replace hm : Fr 75 a [(0, .pointer (some ⟨g0, 0, none⟩)), (1, .int .i64 x1), (4, .int .i64 0)] := hm.keep [0, 1, 4]
  refine x_then_n ?_
  refine wp_seq ?_
  refine wp_region_lit ?_
  refine s_assign hm rfl rfl ?_
  clear hm a; intro a hm
  refine s_assign hm rfl rfl ?_
  clear hm a; intro a hm
  refine wpList_nil ?_
  replace hm : Fr 75 a [(0, .pointer (some ⟨g0, 0, none⟩)), (1, .int .i64 x1), (4, .int .i64 0), (5, .int .u64 0), (6, .int .i64 0)] := hm.keep [0, 1, 4, 5, 6]
  refine x_then_n ?_
  refine c_seq fun KJ_1 hKJ_1 => ?_
  have hJ_j_5 : ∀ (x_3 : Bool), hocketref1_Reader_Num.J1 K x0_B x_3 = some r → ∀ (a : Act) (w_4 : World), (∃ (N_2 : Mem), Fr 75 a [(4, .int .i64 0)] ∧ Sep w0 w_4 [N_2, Mem.one g0 (.cells ([p0_0, .bool x_3] : List Value).toArray 58 (0, 0))] Z ∧ Mem.no.le N_2) → KJ_1 a w_4 := by
    clear H hm hS a
    rintro x_3 H a w_4 ⟨N_2, hm, hS, le_2⟩
    unfold hocketref1_Reader_Num.J1 at H
    refine hKJ_1 _ _ ?_
    refine wp_seq ?_
    refine wp_region_lit ?_
    refine s_assign hm rfl rfl ?_
    clear hm a; intro a hm
    refine wpList_nil ?_
    replace hm : Fr 75 a [(4, .int .i64 0)] := hm.keep [4]
    refine x_then_n ?_
    refine wp_ret ?_
    obtain rfl := Option.some.inj H
    exact f_ret hm (rs := [.tmp 4]) rfl (.tmp rfl .nil) ⟨_, rfl, p0_0, N_2, rfl, (Sep.sel hS [0, 1] (by decide)), (hp0_0.mono (Mem.le_un _ _))⟩
  clear hKJ_1
  replace hS : Sep w0 w [Mem.no, Mem.one g0 (.cells ([p0_0, .bool x0_Bad] : List Value).toArray 58 (0, 0))] Z := hS
  replace hm : Fr 75 a [(0, .pointer (some ⟨g0, 0, none⟩)), (1, .int .i64 x1), (4, .int .i64 0), (5, .int .u64 0), (6, .int .i64 0)] := hm.keep [0, 1, 4, 5, 6]
  refine c_block ?_
  refine c_loop (fun k_9 a w_9 => ∃ (x_7 : Int) (x_8 : Int) (N_6 : Mem), hocketref1_Reader_Num.L1 K x0_Bad x0_B x1 (fun v => hocketref1_Reader_Num.J1 K x0_B v) k_9 (x_7, x_8) = some r ∧ Fr 75 a [(0, .pointer (some ⟨g0, 0, none⟩)), (1, .int .i64 x1), (4, .int .i64 0), (5, .int .u64 x_7), (6, .int .i64 x_8)] ∧ Sep w0 w_9 [N_6, Mem.one g0 (.cells ([p0_0, .bool x0_Bad] : List Value).toArray 58 (0, 0))] Z ∧ Mem.no.le N_6) K ⟨0, 0, Mem.no, H, hm, (Sep.sel hS [0, 1] (by decide)), (Mem.le.refl _)⟩ (fun a w h => by obtain ⟨_, _, _, H, _⟩ := h; cases (show (none : Option (Int × (List UInt8) × Bool)) = some r from H)) ?_
  clear hm hS a H
  rintro k_9 a w_9 KL_9 hKL_9 ⟨x_7, x_8, N_6, H, hm, hS, le_6⟩
  replace H : hocketref1_Reader_Num.B1 K x0_Bad x0_B x1 (fun v => hocketref1_Reader_Num.J1 K x0_B v) (hocketref1_Reader_Num.L1 K x0_Bad x0_B x1 (fun v => hocketref1_Reader_Num.J1 K x0_B v) k_9) x_7 x_8 = some r := H
  unfold hocketref1_Reader_Num.B1 at H
  refine c_seq fun KJ_11 hKJ_11 => ?_
  refine wp_seq ?_
  refine wp_region_lit ?_
  refine s_move hm rfl rfl ?_
  clear hm a; intro a hm
  refine s_nilCheck hm rfl rfl ?_
  clear hm a; intro a hm
  refine s_fieldAddr hm rfl Try.underlying58 rfl ti4 rfl rfl ?_
  clear hm a; intro a hm
  refine s_load hm rfl rfl (hS.load_one (p := 1) rfl Try.underlying4 rfl rfl) ?_
  clear hm a; intro a hm
  refine s_not hm rfl rfl ?_
  clear hm a; intro a hm
  refine wpList_nil ?_
  replace hm : Fr 75 a [(0, .pointer (some ⟨g0, 0, none⟩)), (1, .int .i64 x1), (4, .int .i64 0), (5, .int .u64 x_7), (6, .int .i64 x_8), (12, .bool (!x0_Bad))] := hm.keep [0, 1, 4, 5, 6, 12]
  refine x_then_n ?_
  by_cases hc_12 : x0_Bad = true
  · rw [if_pos hc_12] at H
    refine c_cond_f hm rfl (nf hc_12) ?_
    refine wp_exit (x_then_x (x_then_x (x_block_t ?_)))
    replace hS : Sep w0 w_9 [N_6, Mem.one g0 (.cells ([p0_0, .bool x0_Bad] : List Value).toArray 58 (0, 0))] Z := hS
    replace hm : Fr 75 a [(4, .int .i64 0)] := hm.keep [4]
    exact x_then_n (hJ_j_5 x0_Bad H _ _ ⟨N_6, hm, (Sep.sel hS [0, 1] (by decide)), le_6⟩)
  · rw [if_neg hc_12] at H
    refine c_cond_t hm rfl (nt (Bool.eq_false_iff.2 hc_12)) ?_
    refine wp_skip ?_
    refine x_then_n (hKJ_11 _ _ ?_)
    refine c_block ?_
    refine c_seq fun KJ_13 hKJ_13 => ?_
    refine c_seq fun KJ_14 hKJ_14 => ?_
    have hJ_j_18 : ∀ (x_16 : Bool), hocketref1_Reader_Num.J2 K (fun v => hocketref1_Reader_Num.J1 K x0_B v) x0_B x_8 x_7 x0_Bad x1 (hocketref1_Reader_Num.L1 K x0_Bad x0_B x1 (fun v => hocketref1_Reader_Num.J1 K x0_B v) k_9) x_16 = some r → ∀ (a : Act) (w_17 : World), (∃ (N_15 : Mem), Fr 75 a [(0, .pointer (some ⟨g0, 0, none⟩)), (1, .int .i64 x1), (4, .int .i64 0), (5, .int .u64 x_7), (6, .int .i64 x_8), (23, .bool x_16)] ∧ Sep w0 w_17 [N_15, Mem.one g0 (.cells ([p0_0, .bool x0_Bad] : List Value).toArray 58 (0, 0))] Z ∧ N_6.le N_15) → KJ_14 a w_17 := by
      clear H hm hS a
      rintro x_16 H a w_17 ⟨N_15, hm, hS, le_15⟩
      unfold hocketref1_Reader_Num.J2 at H
      refine hKJ_14 _ _ ?_
      by_cases hc_19 : x_16 = true
      · rw [if_pos hc_19] at H
        refine c_cond_t hm rfl hc_19 ?_
        refine wp_seq ?_
        refine wp_region_lit ?_
        refine s_move hm rfl rfl ?_
        clear hm a; intro a hm
        refine s_nilCheck hm rfl rfl ?_
        clear hm a; intro a hm
        refine s_fieldAddr hm rfl Try.underlying58 rfl ti4 rfl rfl ?_
        clear hm a; intro a hm
        obtain ⟨w_20, hs', hS'⟩ := hS.store (P := Try.prog) (p := 1) (o := 1) (t := 4) (v := .bool true) (vs := [.bool true]) rfl ti4 rfl rfl rfl (by intro u hu; simp only [List.mem_cons, List.not_mem_nil, or_false] at hu; rcases hu with rfl <;> rfl)
        refine s_store hm rfl rfl hs' ?_
        replace hS : Sep w0 w_20 [N_15, Mem.one g0 (.cells ([p0_0, .bool true] : List Value).toArray 58 (0, 0))] Z := hS'
        clear hs' hS'
        refine wpList_nil ?_
        replace hm : Fr 75 a [(0, .pointer (some ⟨g0, 0, none⟩)), (1, .int .i64 x1), (4, .int .i64 0), (5, .int .u64 x_7), (6, .int .i64 x_8)] := hm.keep [0, 1, 4, 5, 6]
        refine x_then_n ?_
        refine wp_exit (x_then_x (x_block_x rfl (x_then_x (x_block_t ?_))))
        replace hS : Sep w0 w_20 [N_15, Mem.one g0 (.cells ([p0_0, .bool true] : List Value).toArray 58 (0, 0))] Z := hS
        replace hm : Fr 75 a [(4, .int .i64 0)] := hm.keep [4]
        exact x_then_n (hJ_j_5 true H _ _ ⟨N_15, hm, (Sep.sel hS [0, 1] (by decide)), (le_6.trans le_15)⟩)
      · rw [if_neg hc_19] at H
        refine c_cond_f hm rfl (Bool.eq_false_iff.2 hc_19) ?_
        refine wp_skip ?_
        refine x_then_n (hKJ_13 _ _ ?_)
        refine wp_seq ?_
        refine wp_region_lit ?_
        refine s_move hm rfl rfl ?_
        clear hm a; intro a hm
        refine s_nilCheck hm rfl rfl ?_
        clear hm a; intro a hm
        refine s_fieldAddr hm rfl Try.underlying58 rfl ti25 rfl rfl ?_
        clear hm a; intro a hm
        refine s_load hm rfl rfl (hS.load_one (p := 1) rfl Try.underlying25 rfl rfl) ?_
        clear hm a; intro a hm
        refine s_move hm rfl rfl ?_
        clear hm a; intro a hm
        obtain ⟨t_21, et_21, H⟩ := Option.bind_eq_some_iff.1 H
        refine v_index hm rfl Try.underlying25 ti5 rfl rfl rfl hp0_0 (hA.trans hS.old) et_21 ?_
        intro ad_22 cs_23 hk_24 hc_25
        obtain rfl := (show cs_23 = [.int .u8 (t_21.toNat : Int)] from hk_24)
        clear hm a; intro a hm
        refine s_load hm rfl rfl (el_one (o := 0) hc_25 Try.underlying5 rfl rfl) ?_
        clear hm a; intro a hm
        refine s_assign hm rfl rfl ?_
        clear hm a; intro a hm
        refine wpList_nil ?_
        replace hm : Fr 75 a [(0, .pointer (some ⟨g0, 0, none⟩)), (1, .int .i64 x1), (4, .int .i64 0), (5, .int .u64 x_7), (6, .int .i64 x_8), (7, .int .u8 (t_21.toNat : Int))] := hm.keep [0, 1, 4, 5, 6, 7]
        refine x_then_n ?_
        refine wp_seq ?_
        refine wp_region_lit ?_
        refine s_move hm rfl rfl ?_
        clear hm a; intro a hm
        refine s_move hm rfl rfl ?_
        clear hm a; intro a hm
        refine s_bits (i := (t_21.toNat : Int)) (j := ((127 : UInt8).toNat : Int)) (r := ((t_21 &&& (127 : UInt8)).toNat : Int)) hm rfl rfl rfl (.inl ⟨rfl, (band8 _ _).symm⟩) ?_
        clear hm a; intro a hm
        refine s_conv (wu64 ((t_21 &&& (127 : UInt8)).toNat : Int)) hm rfl Try.underlying5 Try.underlying68 rfl rfl ?_
        clear hm a; intro a hm
        refine s_move hm rfl rfl ?_
        clear hm a; intro a hm
        refine s_arith (r := w64 (7 * x_8)) hm rfl rfl rfl (.inr (.inr ⟨rfl, rfl⟩)) ?_
        clear hm a; intro a hm
        refine s_conv (wu64 (w64 (7 * x_8))) hm rfl Try.underlying3 Try.underlying45 rfl rfl ?_
        clear hm a; intro a hm
        refine s_shift (r := shl .u64 (wu64 ((t_21 &&& (127 : UInt8)).toNat : Int)) (wu64 (w64 (7 * x_8)))) hm rfl rfl rfl (wu64_nn _) (.inl ⟨rfl, rfl⟩) ?_
        clear hm a; intro a hm
        refine s_bits (i := x_7) (j := shl .u64 (wu64 ((t_21 &&& (127 : UInt8)).toNat : Int)) (wu64 (w64 (7 * x_8)))) (r := bor .u64 x_7 (shl .u64 (wu64 ((t_21 &&& (127 : UInt8)).toNat : Int)) (wu64 (w64 (7 * x_8))))) hm rfl rfl rfl (.inr (.inl ⟨rfl, rfl⟩)) ?_
        clear hm a; intro a hm
        refine s_assign hm rfl rfl ?_
        clear hm a; intro a hm
        refine wpList_nil ?_
        replace hm : Fr 75 a [(0, .pointer (some ⟨g0, 0, none⟩)), (1, .int .i64 x1), (4, .int .i64 0), (5, .int .u64 (bor .u64 x_7 (shl .u64 (wu64 ((t_21 &&& (127 : UInt8)).toNat : Int)) (wu64 (w64 (7 * x_8)))))), (6, .int .i64 x_8), (7, .int .u8 (t_21.toNat : Int))] := hm.keep [0, 1, 4, 5, 6, 7]
        refine x_then_n ?_
        refine wp_seq ?_
        refine wp_region_lit ?_
        refine s_move hm rfl rfl ?_
        clear hm a; intro a hm
        refine s_arith (r := w64 (x_8 + 1)) hm rfl rfl rfl (.inl ⟨rfl, rfl⟩) ?_
        clear hm a; intro a hm
        refine s_assign hm rfl rfl ?_
        clear hm a; intro a hm
        refine wpList_nil ?_
        replace hm : Fr 75 a [(0, .pointer (some ⟨g0, 0, none⟩)), (1, .int .i64 x1), (4, .int .i64 0), (5, .int .u64 (bor .u64 x_7 (shl .u64 (wu64 ((t_21 &&& (127 : UInt8)).toNat : Int)) (wu64 (w64 (7 * x_8)))))), (6, .int .i64 (w64 (x_8 + 1))), (7, .int .u8 (t_21.toNat : Int))] := hm.keep [0, 1, 4, 5, 6, 7]
        refine x_then_n ?_
        refine wp_seq ?_
        refine wp_region_lit ?_
        refine s_move hm rfl rfl ?_
        clear hm a; intro a hm
        refine s_cmp (b := decide ((t_21.toNat : Int) < ((128 : UInt8).toNat : Int))) hm rfl rfl rfl (.inr (.inr (.inl ⟨rfl, rfl⟩))) ?_
        clear hm a; intro a hm
        refine wpList_nil ?_
        replace hm : Fr 75 a [(0, .pointer (some ⟨g0, 0, none⟩)), (1, .int .i64 x1), (4, .int .i64 0), (5, .int .u64 (bor .u64 x_7 (shl .u64 (wu64 ((t_21 &&& (127 : UInt8)).toNat : Int)) (wu64 (w64 (7 * x_8)))))), (6, .int .i64 (w64 (x_8 + 1))), (7, .int .u8 (t_21.toNat : Int)), (46, .bool (decide ((t_21.toNat : Int) < ((128 : UInt8).toNat : Int))))] := hm.keep [0, 1, 4, 5, 6, 7, 46]
        refine x_then_n ?_
        by_cases hc_26 : (t_21.toNat : Int) < ((128 : UInt8).toNat : Int)
        · rw [if_pos hc_26] at H
          refine c_cond_t hm rfl (decide_eq_true hc_26) ?_
          refine c_seq fun KJ_27 hKJ_27 => ?_
          refine c_seq fun KJ_28 hKJ_28 => ?_
          have hJ_j_32 : ∀ (x_30 : Bool), hocketref1_Reader_Num.J3 K (fun v => hocketref1_Reader_Num.J1 K x0_B v) x0_B x_8 x_7 t_21 x0_Bad x_30 = some r → ∀ (a : Act) (w_31 : World), (∃ (N_29 : Mem), Fr 75 a [(0, .pointer (some ⟨g0, 0, none⟩)), (1, .int .i64 x1), (4, .int .i64 0), (5, .int .u64 (bor .u64 x_7 (shl .u64 (wu64 ((t_21 &&& (127 : UInt8)).toNat : Int)) (wu64 (w64 (7 * x_8)))))), (6, .int .i64 (w64 (x_8 + 1))), (60, .bool x_30)] ∧ Sep w0 w_31 [N_29, Mem.one g0 (.cells ([p0_0, .bool x0_Bad] : List Value).toArray 58 (0, 0))] Z ∧ N_15.le N_29) → KJ_28 a w_31 := by
            clear H hm hS a
            rintro x_30 H a w_31 ⟨N_29, hm, hS, le_29⟩
            unfold hocketref1_Reader_Num.J3 at H
            refine hKJ_28 _ _ ?_
            by_cases hc_33 : x_30 = true
            · rw [if_pos hc_33] at H
              refine c_cond_t hm rfl hc_33 ?_
              refine wp_seq ?_
              refine wp_region_lit ?_
              refine s_move hm rfl rfl ?_
              clear hm a; intro a hm
              refine s_nilCheck hm rfl rfl ?_
              clear hm a; intro a hm
              refine s_fieldAddr hm rfl Try.underlying58 rfl ti4 rfl rfl ?_
              clear hm a; intro a hm
              obtain ⟨w_34, hs', hS'⟩ := hS.store (P := Try.prog) (p := 1) (o := 1) (t := 4) (v := .bool true) (vs := [.bool true]) rfl ti4 rfl rfl rfl (by intro u hu; simp only [List.mem_cons, List.not_mem_nil, or_false] at hu; rcases hu with rfl <;> rfl)
              refine s_store hm rfl rfl hs' ?_
              replace hS : Sep w0 w_34 [N_29, Mem.one g0 (.cells ([p0_0, .bool true] : List Value).toArray 58 (0, 0))] Z := hS'
              clear hs' hS'
              refine wpList_nil ?_
              replace hm : Fr 75 a [(0, .pointer (some ⟨g0, 0, none⟩)), (1, .int .i64 x1), (4, .int .i64 0), (5, .int .u64 (bor .u64 x_7 (shl .u64 (wu64 ((t_21 &&& (127 : UInt8)).toNat : Int)) (wu64 (w64 (7 * x_8)))))), (6, .int .i64 (w64 (x_8 + 1)))] := hm.keep [0, 1, 4, 5, 6]
              refine x_then_n ?_
              refine wp_exit (x_then_x (x_block_x rfl (x_then_x (x_block_t ?_))))
              replace hS : Sep w0 w_34 [N_29, Mem.one g0 (.cells ([p0_0, .bool true] : List Value).toArray 58 (0, 0))] Z := hS
              replace hm : Fr 75 a [(4, .int .i64 0)] := hm.keep [4]
              exact x_then_n (hJ_j_5 true H _ _ ⟨N_29, hm, (Sep.sel hS [0, 1] (by decide)), (le_6.trans (le_15.trans le_29))⟩)
            · rw [if_neg hc_33] at H
              refine c_cond_f hm rfl (Bool.eq_false_iff.2 hc_33) ?_
              refine wp_skip ?_
              refine x_then_n (hKJ_27 _ _ ?_)
              refine wp_seq ?_
              refine wp_region_lit ?_
              refine s_move hm rfl rfl ?_
              clear hm a; intro a hm
              refine s_move hm rfl rfl ?_
              clear hm a; intro a hm
              refine s_nilCheck hm rfl rfl ?_
              clear hm a; intro a hm
              refine s_fieldAddr hm rfl Try.underlying58 rfl ti25 rfl rfl ?_
              clear hm a; intro a hm
              refine s_load hm rfl rfl (hS.load_one (p := 1) rfl Try.underlying25 rfl rfl) ?_
              clear hm a; intro a hm
              refine s_move hm rfl rfl ?_
              clear hm a; intro a hm
              obtain ⟨t_35, et_35, H⟩ := Option.bind_eq_some_iff.1 H
              refine s_slice hm rfl Try.underlying25 ti5 rfl rfl hp0_0 rfl rfl et_35 ?_
              intro v_36 hr_37
              clear hm a; intro a hm
              refine s_nilCheck hm rfl rfl ?_
              clear hm a; intro a hm
              refine s_fieldAddr hm rfl Try.underlying58 rfl ti25 rfl rfl ?_
              clear hm a; intro a hm
              obtain ⟨w_38, hs', hS'⟩ := hS.store (P := Try.prog) (p := 1) (o := 0) (t := 25) (v := v_36) (vs := [v_36]) rfl ti25 hr_37.cellsA rfl rfl (by intro u hu; simp only [List.mem_cons, List.not_mem_nil, or_false] at hu; rcases hu with rfl <;> first | rfl | exact hr_37.one)
              refine s_store hm rfl rfl hs' ?_
              replace hS : Sep w0 w_38 [N_29, Mem.one g0 (.cells ([v_36, .bool x0_Bad] : List Value).toArray 58 (0, 0))] Z := hS'
              clear hs' hS'
              refine wpList_nil ?_
              replace hm : Fr 75 a [(0, .pointer (some ⟨g0, 0, none⟩)), (1, .int .i64 x1), (4, .int .i64 0), (5, .int .u64 (bor .u64 x_7 (shl .u64 (wu64 ((t_21 &&& (127 : UInt8)).toNat : Int)) (wu64 (w64 (7 * x_8)))))), (6, .int .i64 (w64 (x_8 + 1)))] := hm.keep [0, 1, 4, 5, 6]
              refine x_then_n ?_
              refine wp_seq ?_
              refine wp_region_lit ?_
              refine s_move hm rfl rfl ?_
              clear hm a; intro a hm
              refine s_conv (w64 (bor .u64 x_7 (shl .u64 (wu64 ((t_21 &&& (127 : UInt8)).toNat : Int)) (wu64 (w64 (7 * x_8)))))) hm rfl Try.underlying68 Try.underlying3 rfl rfl ?_
              clear hm a; intro a hm
              refine s_assign hm rfl rfl ?_
              clear hm a; intro a hm
              refine wpList_nil ?_
              replace hm : Fr 75 a [(0, .pointer (some ⟨g0, 0, none⟩)), (1, .int .i64 x1), (4, .int .i64 (w64 (bor .u64 x_7 (shl .u64 (wu64 ((t_21 &&& (127 : UInt8)).toNat : Int)) (wu64 (w64 (7 * x_8))))))), (5, .int .u64 (bor .u64 x_7 (shl .u64 (wu64 ((t_21 &&& (127 : UInt8)).toNat : Int)) (wu64 (w64 (7 * x_8)))))), (6, .int .i64 (w64 (x_8 + 1)))] := hm.keep [0, 1, 4, 5, 6]
              refine x_then_n ?_
              refine wp_ret (x_block_r (x_then_r (x_block_r (x_then_r ?_))))
              obtain rfl := Option.some.inj H
              exact f_ret hm (rs := [.tmp 4]) rfl (.tmp rfl .nil) ⟨_, rfl, v_36, N_29, rfl, (Sep.sel hS [0, 1] (by decide)), (hr_37.mono (Mem.le_un _ _))⟩
          clear hKJ_28
          refine wp_region_lit ?_
          refine s_move hm rfl rfl ?_
          clear hm a; intro a hm
          refine s_cmp (b := ((t_21.toNat : Int) == ((0 : UInt8).toNat : Int))) hm rfl rfl rfl (.inl ⟨rfl, rfl⟩) ?_
          clear hm a; intro a hm
          refine s_move hm rfl rfl ?_
          clear hm a; intro a hm
          by_cases hc_39 : (t_21.toNat : Int) = ((0 : UInt8).toNat : Int)
          · rw [if_pos hc_39] at H
            refine s_on hm rfl rfl (beq_iff_eq.2 hc_39) ?_
            refine s_move hm rfl rfl ?_
            clear hm a; intro a hm
            refine s_on hm rfl rfl (beq_iff_eq.2 hc_39) ?_
            refine s_cmp (b := decide ((w64 (x_8 + 1)) > 1)) hm rfl rfl rfl (.inr (.inr (.inr (.inr (.inl ⟨rfl, rfl⟩))))) ?_
            clear hm a; intro a hm
            refine s_pick_t hm rfl rfl (beq_iff_eq.2 hc_39) rfl ?_
            clear hm a; intro a hm
            refine s_move hm rfl rfl ?_
            clear hm a; intro a hm
            by_cases hc_40 : (w64 (x_8 + 1)) > 1
            · rw [if_pos hc_40] at H
              refine s_off hm rfl rfl rfl (decide_eq_true hc_40) ?_
              clear hm a; intro a hm
              refine s_off hm rfl rfl rfl (decide_eq_true hc_40) ?_
              clear hm a; intro a hm
              refine s_off hm rfl rfl rfl (decide_eq_true hc_40) ?_
              clear hm a; intro a hm
              refine s_off hm rfl rfl rfl (decide_eq_true hc_40) ?_
              clear hm a; intro a hm
              refine s_off hm rfl rfl rfl (decide_eq_true hc_40) ?_
              clear hm a; intro a hm
              refine s_off hm rfl rfl rfl (decide_eq_true hc_40) ?_
              clear hm a; intro a hm
              refine s_pick_t hm rfl rfl (decide_eq_true hc_40) rfl ?_
              clear hm a; intro a hm
              refine wpList_nil ?_
              replace hm : Fr 75 a [(0, .pointer (some ⟨g0, 0, none⟩)), (1, .int .i64 x1), (4, .int .i64 0), (5, .int .u64 (bor .u64 x_7 (shl .u64 (wu64 ((t_21 &&& (127 : UInt8)).toNat : Int)) (wu64 (w64 (7 * x_8)))))), (6, .int .i64 (w64 (x_8 + 1))), (60, .bool true)] := hm.keep [0, 1, 4, 5, 6, 60]
              replace hS : Sep w0 w_17 [N_15, Mem.one g0 (.cells ([p0_0, .bool x0_Bad] : List Value).toArray 58 (0, 0))] Z := hS
              replace hm : Fr 75 a [(0, .pointer (some ⟨g0, 0, none⟩)), (1, .int .i64 x1), (4, .int .i64 0), (5, .int .u64 (bor .u64 x_7 (shl .u64 (wu64 ((t_21 &&& (127 : UInt8)).toNat : Int)) (wu64 (w64 (7 * x_8)))))), (6, .int .i64 (w64 (x_8 + 1))), (60, .bool true)] := hm.keep [0, 1, 4, 5, 6, 60]
              exact x_then_n (hJ_j_32 true H _ _ ⟨N_15, hm, (Sep.sel hS [0, 1] (by decide)), (Mem.le.refl _)⟩)
            · rw [if_neg hc_40] at H
              refine s_on hm rfl rfl (decide_eq_false hc_40) ?_
              refine s_move hm rfl rfl ?_
              clear hm a; intro a hm
              refine s_on hm rfl rfl (decide_eq_false hc_40) ?_
              refine s_move hm rfl rfl ?_
              clear hm a; intro a hm
              refine s_on hm rfl rfl (decide_eq_false hc_40) ?_
              refine s_max hm rfl rfl rfl ?_
              clear hm a; intro a hm
              refine s_on hm rfl rfl (decide_eq_false hc_40) ?_
              refine s_min hm rfl rfl rfl ?_
              clear hm a; intro a hm
              refine s_on hm rfl rfl (decide_eq_false hc_40) ?_
              refine s_conv (wu64 (mn (mx x1 0) 4611686018427387904)) hm rfl Try.underlying3 Try.underlying68 rfl rfl ?_
              clear hm a; intro a hm
              refine s_on hm rfl rfl (decide_eq_false hc_40) ?_
              refine s_cmp (b := decide ((bor .u64 x_7 (shl .u64 (wu64 ((t_21 &&& (127 : UInt8)).toNat : Int)) (wu64 (w64 (7 * x_8))))) > (wu64 (mn (mx x1 0) 4611686018427387904)))) hm rfl rfl rfl (.inr (.inr (.inr (.inr (.inl ⟨rfl, rfl⟩))))) ?_
              clear hm a; intro a hm
              refine s_pick_f hm rfl rfl (decide_eq_false hc_40) rfl ?_
              clear hm a; intro a hm
              refine wpList_nil ?_
              replace hm : Fr 75 a [(0, .pointer (some ⟨g0, 0, none⟩)), (1, .int .i64 x1), (4, .int .i64 0), (5, .int .u64 (bor .u64 x_7 (shl .u64 (wu64 ((t_21 &&& (127 : UInt8)).toNat : Int)) (wu64 (w64 (7 * x_8)))))), (6, .int .i64 (w64 (x_8 + 1))), (60, .bool (decide ((bor .u64 x_7 (shl .u64 (wu64 ((t_21 &&& (127 : UInt8)).toNat : Int)) (wu64 (w64 (7 * x_8))))) > (wu64 (mn (mx x1 0) 4611686018427387904)))))] := hm.keep [0, 1, 4, 5, 6, 60]
              replace hS : Sep w0 w_17 [N_15, Mem.one g0 (.cells ([p0_0, .bool x0_Bad] : List Value).toArray 58 (0, 0))] Z := hS
              replace hm : Fr 75 a [(0, .pointer (some ⟨g0, 0, none⟩)), (1, .int .i64 x1), (4, .int .i64 0), (5, .int .u64 (bor .u64 x_7 (shl .u64 (wu64 ((t_21 &&& (127 : UInt8)).toNat : Int)) (wu64 (w64 (7 * x_8)))))), (6, .int .i64 (w64 (x_8 + 1))), (60, .bool (decide ((bor .u64 x_7 (shl .u64 (wu64 ((t_21 &&& (127 : UInt8)).toNat : Int)) (wu64 (w64 (7 * x_8))))) > (wu64 (mn (mx x1 0) 4611686018427387904)))))] := hm.keep [0, 1, 4, 5, 6, 60]
              exact x_then_n (hJ_j_32 (decide ((bor .u64 x_7 (shl .u64 (wu64 ((t_21 &&& (127 : UInt8)).toNat : Int)) (wu64 (w64 (7 * x_8))))) > (wu64 (mn (mx x1 0) 4611686018427387904)))) H _ _ ⟨N_15, hm, (Sep.sel hS [0, 1] (by decide)), (Mem.le.refl _)⟩)
          · rw [if_neg hc_39] at H
            refine s_off hm rfl rfl rfl (beq_eq_false_iff_ne.2 hc_39) ?_
            clear hm a; intro a hm
            refine s_off hm rfl rfl rfl (beq_eq_false_iff_ne.2 hc_39) ?_
            clear hm a; intro a hm
            refine s_pick_f hm rfl rfl (beq_eq_false_iff_ne.2 hc_39) rfl ?_
            clear hm a; intro a hm
            refine s_move hm rfl rfl ?_
            clear hm a; intro a hm
            refine s_on hm rfl rfl rfl ?_
            refine s_move hm rfl rfl ?_
            clear hm a; intro a hm
            refine s_on hm rfl rfl rfl ?_
            refine s_move hm rfl rfl ?_
            clear hm a; intro a hm
            refine s_on hm rfl rfl rfl ?_
            refine s_max hm rfl rfl rfl ?_
            clear hm a; intro a hm
            refine s_on hm rfl rfl rfl ?_
            refine s_min hm rfl rfl rfl ?_
            clear hm a; intro a hm
            refine s_on hm rfl rfl rfl ?_
            refine s_conv (wu64 (mn (mx x1 0) 4611686018427387904)) hm rfl Try.underlying3 Try.underlying68 rfl rfl ?_
            clear hm a; intro a hm
            refine s_on hm rfl rfl rfl ?_
            refine s_cmp (b := decide ((bor .u64 x_7 (shl .u64 (wu64 ((t_21 &&& (127 : UInt8)).toNat : Int)) (wu64 (w64 (7 * x_8))))) > (wu64 (mn (mx x1 0) 4611686018427387904)))) hm rfl rfl rfl (.inr (.inr (.inr (.inr (.inl ⟨rfl, rfl⟩))))) ?_
            clear hm a; intro a hm
            refine s_pick_f hm rfl rfl rfl rfl ?_
            clear hm a; intro a hm
            refine wpList_nil ?_
            replace hm : Fr 75 a [(0, .pointer (some ⟨g0, 0, none⟩)), (1, .int .i64 x1), (4, .int .i64 0), (5, .int .u64 (bor .u64 x_7 (shl .u64 (wu64 ((t_21 &&& (127 : UInt8)).toNat : Int)) (wu64 (w64 (7 * x_8)))))), (6, .int .i64 (w64 (x_8 + 1))), (60, .bool (decide ((bor .u64 x_7 (shl .u64 (wu64 ((t_21 &&& (127 : UInt8)).toNat : Int)) (wu64 (w64 (7 * x_8))))) > (wu64 (mn (mx x1 0) 4611686018427387904)))))] := hm.keep [0, 1, 4, 5, 6, 60]
            replace hS : Sep w0 w_17 [N_15, Mem.one g0 (.cells ([p0_0, .bool x0_Bad] : List Value).toArray 58 (0, 0))] Z := hS
            replace hm : Fr 75 a [(0, .pointer (some ⟨g0, 0, none⟩)), (1, .int .i64 x1), (4, .int .i64 0), (5, .int .u64 (bor .u64 x_7 (shl .u64 (wu64 ((t_21 &&& (127 : UInt8)).toNat : Int)) (wu64 (w64 (7 * x_8)))))), (6, .int .i64 (w64 (x_8 + 1))), (60, .bool (decide ((bor .u64 x_7 (shl .u64 (wu64 ((t_21 &&& (127 : UInt8)).toNat : Int)) (wu64 (w64 (7 * x_8))))) > (wu64 (mn (mx x1 0) 4611686018427387904)))))] := hm.keep [0, 1, 4, 5, 6, 60]
            exact x_then_n (hJ_j_32 (decide ((bor .u64 x_7 (shl .u64 (wu64 ((t_21 &&& (127 : UInt8)).toNat : Int)) (wu64 (w64 (7 * x_8))))) > (wu64 (mn (mx x1 0) 4611686018427387904)))) H _ _ ⟨N_15, hm, (Sep.sel hS [0, 1] (by decide)), (Mem.le.refl _)⟩)
        · rw [if_neg hc_26] at H
          refine c_cond_f hm rfl (decide_eq_false hc_26) ?_
          refine wp_skip ?_
          refine x_block_n ?_
          refine x_then_n (hKL_9 _ _ ?_)
          replace hS : Sep w0 w_17 [N_15, Mem.one g0 (.cells ([p0_0, .bool x0_Bad] : List Value).toArray 58 (0, 0))] Z := hS
          replace hm : Fr 75 a [(0, .pointer (some ⟨g0, 0, none⟩)), (1, .int .i64 x1), (4, .int .i64 0), (5, .int .u64 (bor .u64 x_7 (shl .u64 (wu64 ((t_21 &&& (127 : UInt8)).toNat : Int)) (wu64 (w64 (7 * x_8)))))), (6, .int .i64 (w64 (x_8 + 1)))] := hm.keep [0, 1, 4, 5, 6]
          exact ⟨bor .u64 x_7 (shl .u64 (wu64 ((t_21 &&& (127 : UInt8)).toNat : Int)) (wu64 (w64 (7 * x_8)))), w64 (x_8 + 1), N_15, H, hm, (Sep.sel hS [0, 1] (by decide)), (le_6.trans le_15)⟩
    clear hKJ_14
    refine wp_region_lit ?_
    refine s_move hm rfl rfl ?_
    clear hm a; intro a hm
    refine s_move hm rfl rfl ?_
    clear hm a; intro a hm
    refine s_nilCheck hm rfl rfl ?_
    clear hm a; intro a hm
    refine s_fieldAddr hm rfl Try.underlying58 rfl ti25 rfl rfl ?_
    clear hm a; intro a hm
    refine s_load hm rfl rfl (hS.load_one (p := 1) rfl Try.underlying25 rfl rfl) ?_
    clear hm a; intro a hm
    refine s_len hm rfl Try.underlying25 rfl hp0_0 ?_
    clear hm a; intro a hm
    refine s_cmp (b := decide (x_8 ≥ (x0_B.length : Int))) hm rfl rfl rfl (.inr (.inr (.inr (.inr (.inr ⟨rfl, rfl⟩))))) ?_
    clear hm a; intro a hm
    refine s_move hm rfl rfl ?_
    clear hm a; intro a hm
    by_cases hc_41 : x_8 ≥ (x0_B.length : Int)
    · rw [if_pos hc_41] at H
      refine s_off hm rfl rfl rfl (decide_eq_true hc_41) ?_
      clear hm a; intro a hm
      refine s_off hm rfl rfl rfl (decide_eq_true hc_41) ?_
      clear hm a; intro a hm
      refine s_pick_t hm rfl rfl (decide_eq_true hc_41) rfl ?_
      clear hm a; intro a hm
      refine wpList_nil ?_
      replace hm : Fr 75 a [(0, .pointer (some ⟨g0, 0, none⟩)), (1, .int .i64 x1), (4, .int .i64 0), (5, .int .u64 x_7), (6, .int .i64 x_8), (23, .bool true)] := hm.keep [0, 1, 4, 5, 6, 23]
      replace hS : Sep w0 w_9 [N_6, Mem.one g0 (.cells ([p0_0, .bool x0_Bad] : List Value).toArray 58 (0, 0))] Z := hS
      replace hm : Fr 75 a [(0, .pointer (some ⟨g0, 0, none⟩)), (1, .int .i64 x1), (4, .int .i64 0), (5, .int .u64 x_7), (6, .int .i64 x_8), (23, .bool true)] := hm.keep [0, 1, 4, 5, 6, 23]
      exact x_then_n (hJ_j_18 true H _ _ ⟨N_6, hm, (Sep.sel hS [0, 1] (by decide)), (Mem.le.refl _)⟩)
    · rw [if_neg hc_41] at H
      refine s_on hm rfl rfl (decide_eq_false hc_41) ?_
      refine s_move hm rfl rfl ?_
      clear hm a; intro a hm
      refine s_on hm rfl rfl (decide_eq_false hc_41) ?_
      refine s_cmp (b := decide (x_8 > 8)) hm rfl rfl rfl (.inr (.inr (.inr (.inr (.inl ⟨rfl, rfl⟩))))) ?_
      clear hm a; intro a hm
      refine s_pick_f hm rfl rfl (decide_eq_false hc_41) rfl ?_
      clear hm a; intro a hm
      refine wpList_nil ?_
      replace hm : Fr 75 a [(0, .pointer (some ⟨g0, 0, none⟩)), (1, .int .i64 x1), (4, .int .i64 0), (5, .int .u64 x_7), (6, .int .i64 x_8), (23, .bool (decide (x_8 > 8)))] := hm.keep [0, 1, 4, 5, 6, 23]
      replace hS : Sep w0 w_9 [N_6, Mem.one g0 (.cells ([p0_0, .bool x0_Bad] : List Value).toArray 58 (0, 0))] Z := hS
      replace hm : Fr 75 a [(0, .pointer (some ⟨g0, 0, none⟩)), (1, .int .i64 x1), (4, .int .i64 0), (5, .int .u64 x_7), (6, .int .i64 x_8), (23, .bool (decide (x_8 > 8)))] := hm.keep [0, 1, 4, 5, 6, 23]
      exact x_then_n (hJ_j_18 (decide (x_8 > 8)) H _ _ ⟨N_6, hm, (Sep.sel hS [0, 1] (by decide)), (Mem.le.refl _)⟩)

set_option maxHeartbeats 4000000 in
set_option maxRecDepth 20000 in
theorem hocketref1_Reader_Bytes.calls (K : Nat) (g0 : Nat) (x0_B : List UInt8) (p0_0 : Value) (x0_Bad : Bool) (x1 : Int) (r : (List UInt8) × (List UInt8) × Bool) (w0 w : World) (Z A : Mem) (hA : A.le Z) (hS : Sep w0 w [Mem.one g0 (.cells ([p0_0, .bool x0_Bad] : List Value).toArray 58 (0, 0))] Z) (hp0_0 : Rd Kd.u8 A p0_0 x0_B)
    (H : hocketref1_Reader_Bytes.f K x0_B x0_Bad x1 = some r) :
    Calls Try.prog 38 [.pointer (some ⟨g0, 0, none⟩), .int .i64 x1].toArray w (Ret fun v w' => ∃ (u0 : Value) (u1 : Value) (N : Mem) (M0 : Mem), v = u0 ∧ Sep w0 w' [N, Mem.one g0 (.cells ([u1, .bool r.2.2] : List Value).toArray 58 (0, 0)), M0] Z ∧ Own Kd.u8 5 M0 Mem.no u0 r.1 ∧ Rd Kd.u8 (A.un N) u1 r.2.1) := by
  unfold hocketref1_Reader_Bytes.f at H
  refine f_enter _ Try.func38 rfl Try.ntmps38 rfl fun a hm => ?_
  replace hm : Fr 53 a [(0, .pointer (some ⟨g0, 0, none⟩)), (1, .int .i64 x1)] := hm
  replace hS := hS.start
  replace hS : Sep w0 w [Mem.no, Mem.one g0 (.cells ([p0_0, .bool x0_Bad] : List Value).toArray 58 (0, 0))] Z := hS
  refine wp_seq ?_
  refine wp_region_lit ?_
  refine s_assign hm rfl rfl ?_
  clear hm a; intro a hm
  refine wpList_nil ?_
  replace hm : Fr 53 a [(0, .pointer (some ⟨g0, 0, none⟩)), (1, .int .i64 x1), (4, .slice none 0 0)] := hm.keep [0, 1, 4]
  refine x_then_n ?_
  refine wp_seq ?_
  refine wp_region_lit ?_
  refine s_move hm rfl rfl ?_
  clear hm a; intro a hm
  refine s_nilCheck hm rfl rfl ?_
  clear hm a; intro a hm
  refine s_fieldAddr hm rfl Try.underlying58 rfl ti25 rfl rfl ?_
  clear hm a; intro a hm
  refine s_load hm rfl rfl (hS.load_one (p := 1) rfl Try.underlying25 rfl rfl) ?_
  clear hm a; intro a hm
  refine s_assign hm rfl rfl ?_
  clear hm a; intro a hm
  refine wpList_nil ?_
  replace hm : Fr 53 a [(0, .pointer (some ⟨g0, 0, none⟩)), (1, .int .i64 x1), (4, .slice none 0 0), (5, p0_0)] := hm.keep [0, 1, 4, 5]
  refine x_then_n ?_
  refine wp_seq ?_
  refine wp_region_lit ?_
  refine s_move hm rfl rfl ?_
  clear hm a; intro a hm
  refine s_move hm rfl rfl ?_
  clear hm a; intro a hm
  obtain ⟨t_1, et_1, H⟩ := Option.bind_eq_some_iff.1 H
  refine s_call hm rfl Try.call39 rfl (hocketref1_Reader_Num.calls K _ x0_B _ x0_Bad x1 t_1 w0 _ _ A (hA.trans (hS.le_zed [0])) (hS.enter [0] (by decide)) hp0_0 et_1) ?_
  rintro _ w_2 ⟨v_5, N_3, rfl, hS', hr_6⟩
  clear hm a; intro a hm
  obtain ⟨N_4, hS'', le_4, ln_4⟩ := hS.call [0] (by decide) rfl (l' := [Mem.one g0 (.cells ([v_5, .bool t_1.2.2] : List Value).toArray 58 (0, 0))]) (ow := []) rfl hS'
  replace hS : Sep w0 w_2 [N_4, Mem.one g0 (.cells ([v_5, .bool t_1.2.2] : List Value).toArray 58 (0, 0))] Z := hS''
  clear hS' hS''
  have hr_7 : Rd Kd.u8 (A.un N_4) v_5 t_1.2.1 := hr_6.mono (Mem.un_left ln_4)
  refine s_assign hm rfl rfl ?_
  clear hm a; intro a hm
  refine wpList_nil ?_
  replace hm : Fr 53 a [(0, .pointer (some ⟨g0, 0, none⟩)), (4, .slice none 0 0), (5, p0_0), (6, .int .i64 t_1.1)] := hm.keep [0, 4, 5, 6]
  refine x_then_n ?_
  refine c_seq fun KJ_8 hKJ_8 => ?_
  refine c_seq fun KJ_9 hKJ_9 => ?_
  have hJ_j_13 : ∀ (x_11 : Bool), hocketref1_Reader_Bytes.J1 K x0_B t_1 x_11 = some r → ∀ (a : Act) (w_12 : World), (∃ (N_10 : Mem), Fr 53 a [(0, .pointer (some ⟨g0, 0, none⟩)), (4, .slice none 0 0), (5, p0_0), (6, .int .i64 t_1.1), (27, .bool x_11)] ∧ Sep w0 w_12 [N_10, Mem.one g0 (.cells ([v_5, .bool t_1.2.2] : List Value).toArray 58 (0, 0))] Z ∧ N_4.le N_10) → KJ_9 a w_12 := by
    clear H hm hS a
    rintro x_11 H a w_12 ⟨N_10, hm, hS, le_10⟩
    unfold hocketref1_Reader_Bytes.J1 at H
    refine hKJ_9 _ _ ?_
    by_cases hc_14 : x_11 = true
    · rw [if_pos hc_14] at H
      refine c_cond_t hm rfl hc_14 ?_
      refine wp_seq ?_
      refine wp_region_lit ?_
      refine s_move hm rfl rfl ?_
      clear hm a; intro a hm
      refine s_move hm rfl rfl ?_
      clear hm a; intro a hm
      refine s_move hm rfl rfl ?_
      clear hm a; intro a hm
      refine s_nilCheck hm rfl rfl ?_
      clear hm a; intro a hm
      refine s_fieldAddr hm rfl Try.underlying58 rfl ti4 rfl rfl ?_
      clear hm a; intro a hm
      obtain ⟨w_15, hs', hS'⟩ := hS.store (P := Try.prog) (p := 1) (o := 1) (t := 4) (v := .bool true) (vs := [.bool true]) rfl ti4 rfl rfl rfl (by intro u hu; simp only [List.mem_cons, List.not_mem_nil, or_false] at hu; rcases hu with rfl <;> rfl)
      refine s_store hm rfl rfl hs' ?_
      replace hS : Sep w0 w_15 [N_10, Mem.one g0 (.cells ([v_5, .bool true] : List Value).toArray 58 (0, 0))] Z := hS'
      clear hs' hS'
      refine s_nilCheck hm rfl rfl ?_
      clear hm a; intro a hm
      refine s_fieldAddr hm rfl Try.underlying58 rfl ti25 rfl rfl ?_
      clear hm a; intro a hm
      obtain ⟨w_16, hs', hS'⟩ := hS.store (P := Try.prog) (p := 1) (o := 0) (t := 25) (v := p0_0) (vs := [p0_0]) rfl ti25 hp0_0.cellsA rfl rfl (by intro u hu; simp only [List.mem_cons, List.not_mem_nil, or_false] at hu; rcases hu with rfl <;> first | rfl | exact hp0_0.one)
      refine s_store hm rfl rfl hs' ?_
      replace hS : Sep w0 w_16 [N_10, Mem.one g0 (.cells ([p0_0, .bool true] : List Value).toArray 58 (0, 0))] Z := hS'
      clear hs' hS'
      refine wpList_nil ?_
      replace hm : Fr 53 a [(0, .pointer (some ⟨g0, 0, none⟩)), (4, .slice none 0 0), (6, .int .i64 t_1.1)] := hm.keep [0, 4, 6]
      refine x_then_n ?_
      refine wp_seq ?_
      refine wp_region_lit ?_
      refine s_assign hm rfl rfl ?_
      clear hm a; intro a hm
      refine wpList_nil ?_
      replace hm : Fr 53 a [(0, .pointer (some ⟨g0, 0, none⟩)), (4, .slice none 0 0), (6, .int .i64 t_1.1)] := hm.keep [0, 4, 6]
      refine x_then_n ?_
      refine wp_ret (x_then_r ?_)
      have hS' := hS.room
      replace hS : Sep w0 w_16 [N_10, Mem.one g0 (.cells ([p0_0, .bool true] : List Value).toArray 58 (0, 0)), Mem.no] Z := hS'
      clear hS'
      obtain rfl := Option.some.inj H
      exact f_ret hm (rs := [.tmp 4]) rfl (.tmp rfl .nil) ⟨_, rfl, .slice none 0 0, p0_0, N_10, Mem.no, rfl, (Sep.sel hS [0, 1, 2] (by decide)), (Own.nil Kd.u8 5 Mem.no), (hp0_0.mono (Mem.le_un _ _))⟩
    · rw [if_neg hc_14] at H
      refine c_cond_f hm rfl (Bool.eq_false_iff.2 hc_14) ?_
      refine wp_skip ?_
      refine x_then_n (hKJ_8 _ _ ?_)
      refine wp_seq ?_
      refine wp_region_lit ?_
      have hq_22 : Reps Kd.u8 Mem.no ([] : List UInt8) _ := (Reps.nil Kd.u8 _)
      refine s_buildSlice hm rfl Try.underlying25 ti5 rfl rfl rfl .nil rfl rfl rfl hS hq_22 rfl ?_
      intro w_18 v_19 M_20 hS' ho_21
      clear hm a; intro a hm
      replace hS : Sep w0 w_18 [N_10, Mem.one g0 (.cells ([v_5, .bool t_1.2.2] : List Value).toArray 58 (0, 0)), M_20] Z := hS'
      clear hS' hq_22
      refine s_move hm rfl rfl ?_
      clear hm a; intro a hm
      refine s_nilCheck hm rfl rfl ?_
      clear hm a; intro a hm
      refine s_fieldAddr hm rfl Try.underlying58 rfl ti25 rfl rfl ?_
      clear hm a; intro a hm
      refine s_load hm rfl rfl (hS.load_one (p := 1) rfl Try.underlying25 rfl rfl) ?_
      clear hm a; intro a hm
      refine s_move hm rfl rfl ?_
      clear hm a; intro a hm
      obtain ⟨t_24, et_24, H⟩ := Option.bind_eq_some_iff.1 H
      refine s_slice hm rfl Try.underlying25 ti5 rfl rfl hr_7 rfl rfl et_24 ?_
      intro v_25 hr_26
      clear hm a; intro a hm
      obtain ⟨t_27, et_27, H⟩ := Option.bind_eq_some_iff.1 H
      refine s_append (J := Mem.no) (I' := Mem.no) (p := 2) 140737488355328 hm rfl rfl rfl Try.underlying25 ti5 rfl rfl rfl rfl hS rfl ho_21 (Src.flat flat_u8 (hr_26.src (Mem.un_le (hA.trans hS.old) (le_10.trans (hS.own 0))))) (Mem.le.refl _) (Mem.le.refl _) et_27 ?_
      intro w_28 v_29 M_30 hS' ho_31
      clear hm a; intro a hm
      replace hS : Sep w0 w_28 [N_10, Mem.one g0 (.cells ([v_5, .bool t_1.2.2] : List Value).toArray 58 (0, 0)), M_30] Z := hS'
      clear hS'
      refine s_assign hm rfl rfl ?_
      clear hm a; intro a hm
      refine wpList_nil ?_
      replace hm : Fr 53 a [(0, .pointer (some ⟨g0, 0, none⟩)), (4, .slice none 0 0), (6, .int .i64 t_1.1), (7, v_29)] := hm.keep [0, 4, 6, 7]
      refine x_then_n ?_
      refine wp_seq ?_
      refine wp_region_lit ?_
      refine s_move hm rfl rfl ?_
      clear hm a; intro a hm
      refine s_move hm rfl rfl ?_
      clear hm a; intro a hm
      refine s_nilCheck hm rfl rfl ?_
      clear hm a; intro a hm
      refine s_fieldAddr hm rfl Try.underlying58 rfl ti25 rfl rfl ?_
      clear hm a; intro a hm
      refine s_load hm rfl rfl (hS.load_one (p := 1) rfl Try.underlying25 rfl rfl) ?_
      clear hm a; intro a hm
      refine s_move hm rfl rfl ?_
      clear hm a; intro a hm
      obtain ⟨t_33, et_33, H⟩ := Option.bind_eq_some_iff.1 H
      refine s_slice hm rfl Try.underlying25 ti5 rfl rfl hr_7 rfl rfl et_33 ?_
      intro v_34 hr_35
      clear hm a; intro a hm
      refine s_nilCheck hm rfl rfl ?_
      clear hm a; intro a hm
      refine s_fieldAddr hm rfl Try.underlying58 rfl ti25 rfl rfl ?_
      clear hm a; intro a hm
      obtain ⟨w_36, hs', hS'⟩ := hS.store (P := Try.prog) (p := 1) (o := 0) (t := 25) (v := v_34) (vs := [v_34]) rfl ti25 hr_35.cellsA rfl rfl (by intro u hu; simp only [List.mem_cons, List.not_mem_nil, or_false] at hu; rcases hu with rfl <;> first | rfl | exact hr_35.one)
      refine s_store hm rfl rfl hs' ?_
      replace hS : Sep w0 w_36 [N_10, Mem.one g0 (.cells ([v_34, .bool t_1.2.2] : List Value).toArray 58 (0, 0)), M_30] Z := hS'
      clear hs' hS'
      refine wpList_nil ?_
      replace hm : Fr 53 a [(4, .slice none 0 0), (7, v_29)] := hm.keep [4, 7]
      refine x_then_n ?_
      refine wp_seq ?_
      refine wp_region_lit ?_
      refine s_move hm rfl rfl ?_
      clear hm a; intro a hm
      refine s_assign hm rfl rfl ?_
      clear hm a; intro a hm
      refine wpList_nil ?_
      replace hm : Fr 53 a [(4, v_29)] := hm.keep [4]
      refine x_then_n ?_
      refine wp_ret ?_
      obtain rfl := Option.some.inj H
      exact f_ret hm (rs := [.tmp 4]) rfl (.tmp rfl .nil) ⟨_, rfl, v_29, v_34, N_10, M_30, rfl, (Sep.sel hS [0, 1, 2] (by decide)), ho_31, (hr_35.mono (Mem.un_left le_10))⟩
  clear hKJ_9
  refine wp_region_lit ?_
  refine s_move hm rfl rfl ?_
  clear hm a; intro a hm
  refine s_nilCheck hm rfl rfl ?_
  clear hm a; intro a hm
  refine s_fieldAddr hm rfl Try.underlying58 rfl ti4 rfl rfl ?_
  clear hm a; intro a hm
  refine s_load hm rfl rfl (hS.load_one (p := 1) rfl Try.underlying4 rfl rfl) ?_
  clear hm a; intro a hm
  refine s_move hm rfl rfl ?_
  clear hm a; intro a hm
  by_cases hc_37 : t_1.2.2 = true
  · rw [if_pos hc_37] at H
    refine s_off hm rfl rfl rfl hc_37 ?_
    clear hm a; intro a hm
    refine s_off hm rfl rfl rfl hc_37 ?_
    clear hm a; intro a hm
    refine s_off hm rfl rfl rfl hc_37 ?_
    clear hm a; intro a hm
    refine s_off hm rfl rfl rfl hc_37 ?_
    clear hm a; intro a hm
    refine s_off hm rfl rfl rfl hc_37 ?_
    clear hm a; intro a hm
    refine s_off hm rfl rfl rfl hc_37 ?_
    clear hm a; intro a hm
    refine s_off hm rfl rfl rfl hc_37 ?_
    clear hm a; intro a hm
    refine s_pick_t hm rfl rfl hc_37 rfl ?_
    clear hm a; intro a hm
    refine wpList_nil ?_
    replace hm : Fr 53 a [(0, .pointer (some ⟨g0, 0, none⟩)), (4, .slice none 0 0), (5, p0_0), (6, .int .i64 t_1.1), (27, .bool true)] := hm.keep [0, 4, 5, 6, 27]
    replace hS : Sep w0 w_2 [N_4, Mem.one g0 (.cells ([v_5, .bool t_1.2.2] : List Value).toArray 58 (0, 0))] Z := hS
    replace hm : Fr 53 a [(0, .pointer (some ⟨g0, 0, none⟩)), (4, .slice none 0 0), (5, p0_0), (6, .int .i64 t_1.1), (27, .bool true)] := hm.keep [0, 4, 5, 6, 27]
    exact x_then_n (hJ_j_13 true H _ _ ⟨N_4, hm, (Sep.sel hS [0, 1] (by decide)), (Mem.le.refl _)⟩)
  · rw [if_neg hc_37] at H
    refine s_on hm rfl rfl (Bool.eq_false_iff.2 hc_37) ?_
    refine s_move hm rfl rfl ?_
    clear hm a; intro a hm
    refine s_on hm rfl rfl (Bool.eq_false_iff.2 hc_37) ?_
    refine s_move hm rfl rfl ?_
    clear hm a; intro a hm
    refine s_on hm rfl rfl (Bool.eq_false_iff.2 hc_37) ?_
    refine s_nilCheck hm rfl rfl ?_
    clear hm a; intro a hm
    refine s_on hm rfl rfl (Bool.eq_false_iff.2 hc_37) ?_
    refine s_fieldAddr hm rfl Try.underlying58 rfl ti25 rfl rfl ?_
    clear hm a; intro a hm
    refine s_on hm rfl rfl (Bool.eq_false_iff.2 hc_37) ?_
    refine s_load hm rfl rfl (hS.load_one (p := 1) rfl Try.underlying25 rfl rfl) ?_
    clear hm a; intro a hm
    refine s_on hm rfl rfl (Bool.eq_false_iff.2 hc_37) ?_
    refine s_len hm rfl Try.underlying25 rfl hr_7 ?_
    clear hm a; intro a hm
    refine s_on hm rfl rfl (Bool.eq_false_iff.2 hc_37) ?_
    refine s_cmp (b := decide (t_1.1 > (t_1.2.1.length : Int))) hm rfl rfl rfl (.inr (.inr (.inr (.inr (.inl ⟨rfl, rfl⟩))))) ?_
    clear hm a; intro a hm
    refine s_pick_f hm rfl rfl (Bool.eq_false_iff.2 hc_37) rfl ?_
    clear hm a; intro a hm
    refine wpList_nil ?_
    replace hm : Fr 53 a [(0, .pointer (some ⟨g0, 0, none⟩)), (4, .slice none 0 0), (5, p0_0), (6, .int .i64 t_1.1), (27, .bool (decide (t_1.1 > (t_1.2.1.length : Int))))] := hm.keep [0, 4, 5, 6, 27]
    replace hS : Sep w0 w_2 [N_4, Mem.one g0 (.cells ([v_5, .bool t_1.2.2] : List Value).toArray 58 (0, 0))] Z := hS
    replace hm : Fr 53 a [(0, .pointer (some ⟨g0, 0, none⟩)), (4, .slice none 0 0), (5, p0_0), (6, .int .i64 t_1.1), (27, .bool (decide (t_1.1 > (t_1.2.1.length : Int))))] := hm.keep [0, 4, 5, 6, 27]
    exact x_then_n (hJ_j_13 (decide (t_1.1 > (t_1.2.1.length : Int))) H _ _ ⟨N_4, hm, (Sep.sel hS [0, 1] (by decide)), (Mem.le.refl _)⟩)

set_option maxHeartbeats 4000000 in
set_option maxRecDepth 20000 in
theorem hocketref1_Reader_End.calls (g0 : Nat) (x0_B : List UInt8) (p0_0 : Value) (x0_Bad : Bool) (r : Bool × (List UInt8) × Bool) (w0 w : World) (Z A : Mem) (hA : A.le Z) (hS : Sep w0 w [Mem.one g0 (.cells ([p0_0, .bool x0_Bad] : List Value).toArray 58 (0, 0))] Z) (hp0_0 : Rd Kd.u8 A p0_0 x0_B)
    (H : hocketref1_Reader_End.f x0_B x0_Bad = some r) :
    Calls Try.prog 40 [.pointer (some ⟨g0, 0, none⟩)].toArray w (Ret fun v w' => ∃ (u0 : Value) (N : Mem), v = .bool r.1 ∧ Sep w0 w' [N, Mem.one g0 (.cells ([u0, .bool r.2.2] : List Value).toArray 58 (0, 0))] Z ∧ Rd Kd.u8 (A.un N) u0 r.2.1) := by
  unfold hocketref1_Reader_End.f at H
  refine f_enter _ Try.func40 rfl Try.ntmps40 rfl fun a hm => ?_
  replace hm : Fr 16 a [(0, .pointer (some ⟨g0, 0, none⟩))] := hm
  replace hS := hS.start
  replace hS : Sep w0 w [Mem.no, Mem.one g0 (.cells ([p0_0, .bool x0_Bad] : List Value).toArray 58 (0, 0))] Z := hS
  refine wp_seq ?_
  refine wp_region_lit ?_
  refine s_assign hm rfl rfl ?_
  clear hm a; intro a hm
  refine wpList_nil ?_
  replace hm : Fr 16 a [(0, .pointer (some ⟨g0, 0, none⟩)), (2, .bool false)] := hm.keep [0, 2]
  refine x_then_n ?_
  refine c_seq fun KJ_1 hKJ_1 => ?_
  refine wp_region_lit ?_
  refine s_move hm rfl rfl ?_
  clear hm a; intro a hm
  refine s_nilCheck hm rfl rfl ?_
  clear hm a; intro a hm
  refine s_fieldAddr hm rfl Try.underlying58 rfl ti4 rfl rfl ?_
  clear hm a; intro a hm
  refine s_load hm rfl rfl (hS.load_one (p := 1) rfl Try.underlying4 rfl rfl) ?_
  clear hm a; intro a hm
  refine s_not hm rfl rfl ?_
  clear hm a; intro a hm
  refine s_move hm rfl rfl ?_
  clear hm a; intro a hm
  by_cases hc_2 : x0_Bad = true
  · rw [if_pos hc_2] at H
    refine s_off hm rfl rfl rfl (nf hc_2) ?_
    clear hm a; intro a hm
    refine s_off hm rfl rfl rfl (nf hc_2) ?_
    clear hm a; intro a hm
    refine s_off hm rfl rfl rfl (nf hc_2) ?_
    clear hm a; intro a hm
    refine s_off hm rfl rfl rfl (nf hc_2) ?_
    clear hm a; intro a hm
    refine s_off hm rfl rfl rfl (nf hc_2) ?_
    clear hm a; intro a hm
    refine s_off hm rfl rfl rfl (nf hc_2) ?_
    clear hm a; intro a hm
    refine s_pick_f hm rfl rfl (nf hc_2) rfl ?_
    clear hm a; intro a hm
    refine s_assign hm rfl rfl ?_
    clear hm a; intro a hm
    refine wpList_nil ?_
    replace hm : Fr 16 a [(2, .bool false)] := hm.keep [2]
    refine x_then_n (hKJ_1 _ _ ?_)
    refine wp_ret ?_
    obtain rfl := Option.some.inj H
    exact f_ret hm (rs := [.tmp 2]) rfl (.tmp rfl .nil) ⟨_, rfl, p0_0, Mem.no, rfl, (Sep.sel hS [0, 1] (by decide)), (hp0_0.mono (Mem.le_un _ _))⟩
  · rw [if_neg hc_2] at H
    refine s_on hm rfl rfl (nt (Bool.eq_false_iff.2 hc_2)) ?_
    refine s_move hm rfl rfl ?_
    clear hm a; intro a hm
    refine s_on hm rfl rfl (nt (Bool.eq_false_iff.2 hc_2)) ?_
    refine s_nilCheck hm rfl rfl ?_
    clear hm a; intro a hm
    refine s_on hm rfl rfl (nt (Bool.eq_false_iff.2 hc_2)) ?_
    refine s_fieldAddr hm rfl Try.underlying58 rfl ti25 rfl rfl ?_
    clear hm a; intro a hm
    refine s_on hm rfl rfl (nt (Bool.eq_false_iff.2 hc_2)) ?_
    refine s_load hm rfl rfl (hS.load_one (p := 1) rfl Try.underlying25 rfl rfl) ?_
    clear hm a; intro a hm
    refine s_on hm rfl rfl (nt (Bool.eq_false_iff.2 hc_2)) ?_
    refine s_len hm rfl Try.underlying25 rfl hp0_0 ?_
    clear hm a; intro a hm
    refine s_on hm rfl rfl (nt (Bool.eq_false_iff.2 hc_2)) ?_
    refine s_cmp (b := ((x0_B.length : Int) == 0)) hm rfl rfl rfl (.inl ⟨rfl, rfl⟩) ?_
    clear hm a; intro a hm
    refine s_pick_t hm rfl rfl (nt (Bool.eq_false_iff.2 hc_2)) rfl ?_
    clear hm a; intro a hm
    refine s_assign hm rfl rfl ?_
    clear hm a; intro a hm
    refine wpList_nil ?_
    replace hm : Fr 16 a [(2, .bool ((x0_B.length : Int) == 0))] := hm.keep [2]
    refine x_then_n (hKJ_1 _ _ ?_)
    refine wp_ret ?_
    obtain rfl := Option.some.inj H
    exact f_ret hm (rs := [.tmp 2]) rfl (.tmp rfl .nil) ⟨_, rfl, p0_0, Mem.no, rfl, (Sep.sel hS [0, 1] (by decide)), (hp0_0.mono (Mem.le_un _ _))⟩


end Go.Proofs
