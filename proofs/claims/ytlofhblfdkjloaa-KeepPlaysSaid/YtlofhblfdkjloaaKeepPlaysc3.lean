/- What the calls do: each function once. -/
import Derived.Test.YtlofhblfdkjloaaKeepPlaysc2
namespace Go.Proofs
open Go.Gp
set_option linter.unusedVariables false
set_option maxHeartbeats 4000000 in
set_option maxRecDepth 20000 in
theorem keep_Keep_Put.calls (K : Nat) (g0 : Nat) (x0_d_A : List UInt8) (p0_0 : Value) (x0_d_B : List UInt8) (p0_1 : Value) (x0_cut : Int) (x0_dead : Bool) (x1 : api_Record) (r : Bool × (List UInt8) × (List UInt8) × Int × Bool) (w0 w : World) (Z A : Mem) (hA : A.le Z) (hS : Sep w0 w [Mem.one g0 (.cells ([p0_0, p0_1, .int .i64 x0_cut, .bool x0_dead] : List Value).toArray 58 (0, 0))] Z) (hp0_0 : Rd Kd.u8 A p0_0 x0_d_A) (hp0_1 : Rd Kd.u8 A p0_1 x0_d_B)
    (H : keep_Keep_Put.f K x0_d_A x0_d_B x0_cut x0_dead x1 = some r) :
    Calls Try.prog 20 [.pointer (some ⟨g0, 0, none⟩), .agg [.int .i64 x1.Inc, .int .i64 x1.Prom, .int .i64 x1.Inst].toArray].toArray w (Ret fun v w' => ∃ (u0 : Value) (u1 : Value) (N : Mem), v = .bool r.1 ∧ Sep w0 w' [N, Mem.one g0 (.cells ([u0, u1, .int .i64 r.2.2.2.1, .bool r.2.2.2.2] : List Value).toArray 58 (0, 0))] Z ∧ Rd Kd.u8 (A.un N) u0 r.2.1 ∧ Rd Kd.u8 (A.un N) u1 r.2.2.1) := by
  unfold keep_Keep_Put.f at H
  refine f_enter _ Try.func20 rfl Try.ntmps20 rfl fun a hm => ?_
  replace hm : Fr 64 a [(0, .pointer (some ⟨g0, 0, none⟩)), (1, .agg [.int .i64 x1.Inc, .int .i64 x1.Prom, .int .i64 x1.Inst].toArray)] := hm
  replace hS := hS.start
  replace hS : Sep w0 w [Mem.no, Mem.one g0 (.cells ([p0_0, p0_1, .int .i64 x0_cut, .bool x0_dead] : List Value).toArray 58 (0, 0))] Z := hS
  refine wp_seq ?_
  refine wp_region_lit ?_
  refine v_box (vs := [.int .i64 x1.Inc, .int .i64 x1.Prom, .int .i64 x1.Inst]) hm rfl rfl rfl hS ?_
  intro w_1 g_2 hS'
  clear hm a; intro a hm
  replace hS : Sep w0 w_1 [Mem.no, Mem.one g0 (.cells ([p0_0, p0_1, .int .i64 x0_cut, .bool x0_dead] : List Value).toArray 58 (0, 0)), Mem.one g_2 (.cells ([.int .i64 x1.Inc, .int .i64 x1.Prom, .int .i64 x1.Inst] : List Value).toArray 28 (0, 0))] Z := hS'
  clear hS'
  refine s_assign hm rfl rfl ?_
  clear hm a; intro a hm
  refine wpList_nil ?_
  replace hm : Fr 64 a [(0, .pointer (some ⟨g0, 0, none⟩)), (3, .pointer (some ⟨g_2, 0, none⟩)), (4, .bool false)] := hm.keep [0, 3, 4]
  refine x_then_n ?_
  refine c_seq fun KJ_3 hKJ_3 => ?_
  refine wp_seq ?_
  refine wp_region_lit ?_
  refine s_move hm rfl rfl ?_
  clear hm a; intro a hm
  refine s_nilCheck hm rfl rfl ?_
  clear hm a; intro a hm
  refine s_fieldAddr hm rfl Try.underlying58 rfl ti4 rfl rfl ?_
  clear hm a; intro a hm
  refine s_load hm rfl rfl (hS.load_one (p := 1) rfl Try.underlying4 rfl rfl) ?_
  clear hm a; intro a hm
  refine wpList_nil ?_
  replace hm : Fr 64 a [(0, .pointer (some ⟨g0, 0, none⟩)), (3, .pointer (some ⟨g_2, 0, none⟩)), (4, .bool false), (10, .bool x0_dead)] := hm.keep [0, 3, 4, 10]
  refine x_then_n ?_
  by_cases hc_4 : x0_dead = true
  · rw [if_pos hc_4] at H
    refine c_cond_t hm rfl hc_4 ?_
    refine wp_seq ?_
    refine wp_region_lit ?_
    refine s_assign hm rfl rfl ?_
    clear hm a; intro a hm
    refine wpList_nil ?_
    replace hm : Fr 64 a [(0, .pointer (some ⟨g0, 0, none⟩)), (3, .pointer (some ⟨g_2, 0, none⟩)), (4, .bool false)] := hm.keep [0, 3, 4]
    refine x_then_n ?_
    refine wp_ret (x_then_r ?_)
    obtain rfl := Option.some.inj H
    exact f_ret hm (rs := [.tmp 4]) rfl (.tmp rfl .nil) ⟨_, rfl, p0_0, p0_1, Mem.no, rfl, (Sep.sel hS [0, 1] (by decide)), (hp0_0.mono (Mem.le_un _ _)), (hp0_1.mono (Mem.le_un _ _))⟩
  · rw [if_neg hc_4] at H
    refine c_cond_f hm rfl (Bool.eq_false_iff.2 hc_4) ?_
    refine wp_skip ?_
    refine x_then_n (hKJ_3 _ _ ?_)
    refine c_seq fun KJ_5 hKJ_5 => ?_
    refine wp_seq ?_
    refine wp_region_lit ?_
    refine s_move hm rfl rfl ?_
    clear hm a; intro a hm
    refine s_nilCheck hm rfl rfl ?_
    clear hm a; intro a hm
    refine s_fieldAddr hm rfl Try.underlying58 rfl ti3 rfl rfl ?_
    clear hm a; intro a hm
    refine s_load hm rfl rfl (hS.load_one (p := 1) rfl Try.underlying3 rfl rfl) ?_
    clear hm a; intro a hm
    refine s_cmp (b := (x0_cut == (-1))) hm rfl rfl rfl (.inl ⟨rfl, rfl⟩) ?_
    clear hm a; intro a hm
    refine wpList_nil ?_
    replace hm : Fr 64 a [(0, .pointer (some ⟨g0, 0, none⟩)), (3, .pointer (some ⟨g_2, 0, none⟩)), (4, .bool false), (15, .bool (x0_cut == (-1)))] := hm.keep [0, 3, 4, 15]
    refine x_then_n ?_
    by_cases hc_6 : x0_cut = (-1)
    · rw [if_pos hc_6] at H
      refine c_cond_t hm rfl (beq_iff_eq.2 hc_6) ?_
      refine c_seq fun KJ_7 hKJ_7 => ?_
      refine h_begin (S := fun w => Sep w0 w [Mem.no, Mem.no, Mem.one g_2 (.cells ([.int .i64 x1.Inc, .int .i64 x1.Prom, .int .i64 x1.Inst] : List Value).toArray 28 (0, 0))] Z) 10 (by kernel_rfl) rfl [false, false, false, false, false, false, false, false, false, false].toArray rfl hS fun w_8 hS => ?_
      replace hS : Sep w0 w_8 [Mem.no, Mem.one g0 (.cells ([p0_0, p0_1, .int .i64 x0_cut, .bool x0_dead] : List Value).toArray 58 (0, 0)), Mem.one g_2 (.cells ([.int .i64 x1.Inc, .int .i64 x1.Prom, .int .i64 x1.Inst] : List Value).toArray 28 (0, 0))] Z := hS
      refine h_take 0 [true, false, false, false, false, false, false, false, false, false].toArray rfl (by kernel_rfl) (by kernel_rfl) (by kernel_rfl) (fun _ _ _ _ h => h) rfl rfl rfl rfl hm (hS.sub (.cons (Mem.le.refl _) (.cons (Mem.no_le _) (.cons (Mem.le.refl _) (Sub.nil _))))) (v := .pointer (some ⟨g0, 0, none⟩)) (fun w hS => r_move hm rfl) ?_
      clear hm a; intro a hm
      refine h_take 1 [true, true, false, false, false, false, false, false, false, false].toArray rfl (by kernel_rfl) (by kernel_rfl) (by kernel_rfl) (fun _ _ _ _ h => h) rfl rfl rfl rfl hm (hS.sub (.cons (Mem.le.refl _) (.cons (Mem.no_le _) (.cons (Mem.le.refl _) (Sub.nil _))))) (v := .pointer (some ⟨g0, 0, none⟩)) (fun w hS => r_move hm rfl) ?_
      clear hm a; intro a hm
      refine h_take 2 [true, true, true, false, false, false, false, false, false, false].toArray rfl (by kernel_rfl) (by kernel_rfl) (by kernel_rfl) (fun _ _ _ _ h => h) rfl rfl rfl rfl hm (hS.sub (.cons (Mem.le.refl _) (.cons (Mem.no_le _) (.cons (Mem.le.refl _) (Sub.nil _))))) (v := .pointer (some ⟨g0, 0, none⟩)) (fun w hS => r_nilCheck hm rfl) ?_
      clear hm a; intro a hm
      refine h_take 3 [true, true, true, true, false, false, false, false, false, false].toArray rfl (by kernel_rfl) (by kernel_rfl) (by kernel_rfl) (fun _ _ _ _ h => h) rfl rfl rfl rfl hm (hS.sub (.cons (Mem.le.refl _) (.cons (Mem.no_le _) (.cons (Mem.le.refl _) (Sub.nil _))))) (v := .pointer (some ⟨g0, 0, none⟩)) (fun w hS => r_fieldAddr hm Try.underlying58 rfl ti25 rfl rfl rfl) ?_
      clear hm a; intro a hm
      refine h_take 5 [true, true, true, true, false, true, false, false, false, false].toArray rfl (by kernel_rfl) (by kernel_rfl) (by kernel_rfl) (fun _ _ _ _ h => h) rfl rfl rfl rfl hm (hS.sub (.cons (Mem.le.refl _) (.cons (Mem.no_le _) (.cons (Mem.le.refl _) (Sub.nil _))))) (v := .agg [.int .i64 x1.Inc, .int .i64 x1.Prom, .int .i64 x1.Inst].toArray) (fun w hS => r_load hm rfl (hS.load_agg (p := 2) (us := [.int .i64 x1.Inc, .int .i64 x1.Prom, .int .i64 x1.Inst]) rfl Try.underlying28 rfl ti28 rfl rfl)) ?_
      clear hm a; intro a hm
      refine h_event 4 [true, true, true, true, true, true, false, false, false, false].toArray rfl (by kernel_rfl) rfl ?_
      refine s_load hm rfl rfl (hS.load_agg (p := 1) (us := [p0_0, p0_1]) rfl Try.underlying25 rfl ti25 rfl rfl) ?_
      clear hm a; intro a hm
      refine wpList_nil ?_
      refine x_then_n ⟨(hS.sub (.cons (Mem.le.refl _) (.cons (Mem.no_le _) (.cons (Mem.le.refl _) (Sub.nil _))))), ?_⟩
      refine h_event 6 [true, true, true, true, true, true, true, false, false, false].toArray rfl (by kernel_rfl) rfl ?_
      obtain ⟨t_9, et_9, H⟩ := Option.bind_eq_some_iff.1 H
      refine s_call hm rfl Try.call11 rfl (disk_Write.calls K (⟨x0_d_A, x0_d_B⟩ : api_Disk) _ _ x1 (-1) t_9 w0 _ _ _ (Mem.le.refl _) (hS.enter [] (by decide)) (hp0_0.mono (hA.trans (hS.le_zed []))) (hp0_1.mono (hA.trans (hS.le_zed []))) et_9) ?_
      rintro _ w_10 ⟨v_13, v_17, N_11, M_15, M_19, rfl, hS', hr_14, hr_18⟩
      clear hm a; intro a hm
      obtain ⟨N_12, hS'', le_12, ln_12⟩ := hS.call [] (by decide) rfl (l' := []) (ow := [M_15, M_19]) rfl hS'
      replace hS : Sep w0 w_10 [N_12, Mem.one g0 (.cells ([p0_0, p0_1, .int .i64 x0_cut, .bool x0_dead] : List Value).toArray 58 (0, 0)), Mem.one g_2 (.cells ([.int .i64 x1.Inc, .int .i64 x1.Prom, .int .i64 x1.Inst] : List Value).toArray 28 (0, 0)), M_15, M_19] Z := hS''
      clear hS' hS''
      refine wpList_nil ?_
      refine x_then_n ⟨(hS.sub (.cons le_12 (.cons (Mem.no_le _) (.cons (Mem.le.refl _) (Sub.nil _))))), ?_⟩
      refine h_take 7 [true, true, true, true, true, true, true, true, false, false].toArray rfl (by kernel_rfl) (by kernel_rfl) (by kernel_rfl) (fun _ _ _ _ h => h) rfl rfl rfl rfl hm (hS.sub (.cons le_12 (.cons (Mem.no_le _) (.cons (Mem.le.refl _) (Sub.nil _))))) (v := .pointer (some ⟨g0, 0, none⟩)) (fun w hS => r_nilCheck hm rfl) ?_
      clear hm a; intro a hm
      refine h_take 8 [true, true, true, true, true, true, true, true, true, false].toArray rfl (by kernel_rfl) (by kernel_rfl) (by kernel_rfl) (fun _ _ _ _ h => h) rfl rfl rfl rfl hm (hS.sub (.cons le_12 (.cons (Mem.no_le _) (.cons (Mem.le.refl _) (Sub.nil _))))) (v := .pointer (some ⟨g0, 0, none⟩)) (fun w hS => r_fieldAddr hm Try.underlying58 rfl ti25 rfl rfl rfl) ?_
      clear hm a; intro a hm
      refine h_event 9 [true, true, true, true, true, true, true, true, true, true].toArray rfl (by kernel_rfl) rfl ?_
      obtain ⟨w_21, hs', hS'⟩ := hS.store (P := Try.prog) (p := 1) (o := 0) (t := 25) (v := .agg [v_13, v_17].toArray) (vs := [v_13, v_17]) rfl ti25 rfl rfl rfl (by intro u hu; simp only [List.mem_cons, List.not_mem_nil, or_false] at hu; rcases hu with rfl | rfl <;> first | rfl | exact hr_14.one | exact hr_18.one)
      refine s_store hm rfl rfl hs' ?_
      replace hS : Sep w0 w_21 [N_12, Mem.one g0 (.cells ([v_13, v_17, .int .i64 x0_cut, .bool x0_dead] : List Value).toArray 58 (0, 0)), Mem.one g_2 (.cells ([.int .i64 x1.Inc, .int .i64 x1.Prom, .int .i64 x1.Inst] : List Value).toArray 28 (0, 0)), M_15, M_19] Z := hS'
      clear hs' hS'
      refine wpList_nil ?_
      refine x_then_n ⟨(hS.sub (.cons le_12 (.cons (Mem.no_le _) (.cons (Mem.le.refl _) (Sub.nil _))))), ?_⟩
      refine h_done (by kernel_rfl) ?_
      replace hm : Fr 64 a [(0, .pointer (some ⟨g0, 0, none⟩)), (3, .pointer (some ⟨g_2, 0, none⟩)), (4, .bool false)] := hm.keep [0, 3, 4]
      refine x_then_n (hKJ_7 _ _ ?_)
      refine wp_seq ?_
      refine wp_region_lit ?_
      refine s_assign hm rfl rfl ?_
      clear hm a; intro a hm
      refine wpList_nil ?_
      replace hm : Fr 64 a [(0, .pointer (some ⟨g0, 0, none⟩)), (3, .pointer (some ⟨g_2, 0, none⟩)), (4, .bool true)] := hm.keep [0, 3, 4]
      refine x_then_n ?_
      refine wp_ret (x_then_r ?_)
      obtain ⟨N_22, hS', le_22, lo_22⟩ := hS.freeze 2 rfl
      replace hS : Sep w0 w_21 [N_22, Mem.one g0 (.cells ([v_13, v_17, .int .i64 x0_cut, .bool x0_dead] : List Value).toArray 58 (0, 0)), Mem.one g_2 (.cells ([.int .i64 x1.Inc, .int .i64 x1.Prom, .int .i64 x1.Inst] : List Value).toArray 28 (0, 0)), Mem.no, M_19] Z := hS'
      clear hS'
      obtain ⟨N_23, hS', le_23, lo_23⟩ := hS.freeze 3 rfl
      replace hS : Sep w0 w_21 [N_23, Mem.one g0 (.cells ([v_13, v_17, .int .i64 x0_cut, .bool x0_dead] : List Value).toArray 58 (0, 0)), Mem.one g_2 (.cells ([.int .i64 x1.Inc, .int .i64 x1.Prom, .int .i64 x1.Inst] : List Value).toArray 28 (0, 0)), Mem.no, Mem.no] Z := hS'
      clear hS'
      obtain rfl := Option.some.inj H
      exact f_ret hm (rs := [.tmp 4]) rfl (.tmp rfl .nil) ⟨_, rfl, v_13, v_17, N_23, rfl, (Sep.sel hS [0, 1] (by decide)), ((hr_14.rd lo_22 (Mem.no_le _)).mono (le_23.trans (hS.sndA hA))), ((hr_18.rd lo_23 (Mem.no_le _)).mono ((Mem.le.refl _).trans (hS.sndA hA)))⟩
    · rw [if_neg hc_6] at H
      refine c_cond_f hm rfl (beq_eq_false_iff_ne.2 hc_6) ?_
      refine wp_skip ?_
      refine x_then_n (hKJ_5 _ _ ?_)
      refine c_seq fun KJ_24 hKJ_24 => ?_
      have hJ_j_37 : ∀ (x_27 : api_Disk), keep_Keep_Put.J1 K x0_d_A x0_d_B x1 x0_cut x_27 = some r → ∀ (a : Act) (w_36 : World), (∃ (v_30 : Value) (v_34 : Value) (g_26 : Nat) (N_25 : Mem) (M_28 : Mem) (M_32 : Mem), Fr 64 a [(0, .pointer (some ⟨g0, 0, none⟩)), (3, .pointer (some ⟨g_2, 0, none⟩)), (4, .bool false), (5, .pointer (some ⟨g_26, 0, none⟩))] ∧ Sep w0 w_36 [N_25, Mem.one g0 (.cells ([p0_0, p0_1, .int .i64 x0_cut, .bool x0_dead] : List Value).toArray 58 (0, 0)), Mem.one g_2 (.cells ([.int .i64 x1.Inc, .int .i64 x1.Prom, .int .i64 x1.Inst] : List Value).toArray 28 (0, 0)), Mem.one g_26 (.cells ([v_30, v_34] : List Value).toArray 25 (0, 0)), M_28, M_32] Z ∧ Mem.no.le N_25 ∧ Own Kd.u8 5 M_28 Mem.no v_30 x_27.A ∧ Own Kd.u8 5 M_32 Mem.no v_34 x_27.B) → KJ_24 a w_36 := by
        clear H hm hS a
        rintro x_27 H a w_36 ⟨v_30, v_34, g_26, N_25, M_28, M_32, hm, hS, le_25, ho_31, ho_35⟩
        unfold keep_Keep_Put.J1 at H
        refine hKJ_24 _ _ ?_
        refine wp_seq ?_
        refine wp_region_lit ?_
        refine s_fieldAddr hm rfl Try.underlying25 rfl ti23 rfl rfl ?_
        clear hm a; intro a hm
        refine s_load hm rfl rfl (hS.load_one (p := 3) rfl Try.underlying23 rfl rfl) ?_
        clear hm a; intro a hm
        refine s_lenO hm rfl Try.underlying23 rfl ho_31 ?_
        clear hm a; intro a hm
        refine s_assign hm rfl rfl ?_
        clear hm a; intro a hm
        refine wpList_nil ?_
        replace hm : Fr 64 a [(0, .pointer (some ⟨g0, 0, none⟩)), (3, .pointer (some ⟨g_2, 0, none⟩)), (4, .bool false), (5, .pointer (some ⟨g_26, 0, none⟩)), (6, .int .i64 (x_27.A.length : Int))] := hm.keep [0, 3, 4, 5, 6]
        refine x_then_n ?_
        refine c_seq fun KJ_38 hKJ_38 => ?_
        refine c_seq fun KJ_39 hKJ_39 => ?_
        refine h_begin (S := fun w => Sep w0 w [N_25, Mem.one g0 (.cells ([p0_0, p0_1, .int .i64 x0_cut, .bool x0_dead] : List Value).toArray 58 (0, 0)), Mem.one g_2 (.cells ([.int .i64 x1.Inc, .int .i64 x1.Prom, .int .i64 x1.Inst] : List Value).toArray 28 (0, 0)), Mem.one g_26 (.cells ([v_30, v_34] : List Value).toArray 25 (0, 0)), M_28, M_32] Z) 8 (by kernel_rfl) rfl [false, false, false, false, false, false, false, false].toArray rfl hS fun w_40 hS => ?_
        replace hS : Sep w0 w_40 [N_25, Mem.one g0 (.cells ([p0_0, p0_1, .int .i64 x0_cut, .bool x0_dead] : List Value).toArray 58 (0, 0)), Mem.one g_2 (.cells ([.int .i64 x1.Inc, .int .i64 x1.Prom, .int .i64 x1.Inst] : List Value).toArray 28 (0, 0)), Mem.one g_26 (.cells ([v_30, v_34] : List Value).toArray 25 (0, 0)), M_28, M_32] Z := hS
        refine h_take 0 [true, false, false, false, false, false, false, false].toArray rfl (by kernel_rfl) (by kernel_rfl) (by kernel_rfl) (fun _ _ _ _ h => h) rfl rfl rfl rfl hm (hS.sub (.cons (Mem.le.refl _) (.cons (Mem.le.refl _) (.cons (Mem.le.refl _) (.cons (Mem.le.refl _) (.cons (Mem.le.refl _) (.cons (Mem.le.refl _) (Sub.nil _)))))))) (v := .pointer (some ⟨g_26, 0, none⟩)) (fun w hS => r_fieldAddr hm Try.underlying25 rfl ti23 rfl rfl rfl) ?_
        clear hm a; intro a hm
        refine h_take 1 [true, true, false, false, false, false, false, false].toArray rfl (by kernel_rfl) (by kernel_rfl) (by kernel_rfl) (fun _ _ _ _ h => h) rfl rfl rfl rfl hm (hS.sub (.cons (Mem.le.refl _) (.cons (Mem.le.refl _) (.cons (Mem.le.refl _) (.cons (Mem.le.refl _) (.cons (Mem.le.refl _) (.cons (Mem.le.refl _) (Sub.nil _)))))))) (v := v_30) (fun w hS => r_load hm rfl (hS.load_one (p := 3) rfl Try.underlying23 rfl rfl)) ?_
        clear hm a; intro a hm
        refine h_take 2 [true, true, true, false, false, false, false, false].toArray rfl (by kernel_rfl) (by kernel_rfl) (by kernel_rfl) (fun _ _ _ _ h => h) rfl rfl rfl rfl hm (hS.sub (.cons (Mem.le.refl _) (.cons (Mem.le.refl _) (.cons (Mem.le.refl _) (.cons (Mem.le.refl _) (.cons (Mem.le.refl _) (.cons (Mem.le.refl _) (Sub.nil _)))))))) (v := .pointer (some ⟨g0, 0, none⟩)) (fun w hS => r_move hm rfl) ?_
        clear hm a; intro a hm
        refine h_take 3 [true, true, true, true, false, false, false, false].toArray rfl (by kernel_rfl) (by kernel_rfl) (by kernel_rfl) (fun _ _ _ _ h => h) rfl rfl rfl rfl hm (hS.sub (.cons (Mem.le.refl _) (.cons (Mem.le.refl _) (.cons (Mem.le.refl _) (.cons (Mem.le.refl _) (.cons (Mem.le.refl _) (.cons (Mem.le.refl _) (Sub.nil _)))))))) (v := .pointer (some ⟨g0, 0, none⟩)) (fun w hS => r_nilCheck hm rfl) ?_
        clear hm a; intro a hm
        refine h_take 4 [true, true, true, true, true, false, false, false].toArray rfl (by kernel_rfl) (by kernel_rfl) (by kernel_rfl) (fun _ _ _ _ h => h) rfl rfl rfl rfl hm (hS.sub (.cons (Mem.le.refl _) (.cons (Mem.le.refl _) (.cons (Mem.le.refl _) (.cons (Mem.le.refl _) (.cons (Mem.le.refl _) (.cons (Mem.le.refl _) (Sub.nil _)))))))) (v := .pointer (some ⟨g0, 0, none⟩)) (fun w hS => r_fieldAddr hm Try.underlying58 rfl ti25 rfl rfl rfl) ?_
        clear hm a; intro a hm
        refine h_take 5 [true, true, true, true, true, true, false, false].toArray rfl (by kernel_rfl) (by kernel_rfl) (by kernel_rfl) (fun _ _ _ _ h => h) rfl rfl rfl rfl hm (hS.sub (.cons (Mem.le.refl _) (.cons (Mem.le.refl _) (.cons (Mem.le.refl _) (.cons (Mem.le.refl _) (.cons (Mem.le.refl _) (.cons (Mem.le.refl _) (Sub.nil _)))))))) (v := .pointer (some ⟨g0, 0, none⟩)) (fun w hS => r_fieldAddr hm Try.underlying25 rfl ti23 rfl rfl rfl) ?_
        clear hm a; intro a hm
        refine h_take 6 [true, true, true, true, true, true, true, false].toArray rfl (by kernel_rfl) (by kernel_rfl) (by kernel_rfl) (fun _ _ _ _ h => h) rfl rfl rfl rfl hm (hS.sub (.cons (Mem.le.refl _) (.cons (Mem.le.refl _) (.cons (Mem.le.refl _) (.cons (Mem.le.refl _) (.cons (Mem.le.refl _) (.cons (Mem.le.refl _) (Sub.nil _)))))))) (v := p0_0) (fun w hS => r_load hm rfl (hS.load_one (p := 1) rfl Try.underlying23 rfl rfl)) ?_
        clear hm a; intro a hm
        refine h_event 7 [true, true, true, true, true, true, true, true].toArray rfl (by kernel_rfl) rfl ?_
        obtain ⟨t_41, et_41, H⟩ := Option.bind_eq_some_iff.1 H
        refine s_call hm rfl Try.call35 rfl (slices_Equal_sbyte_byte.calls K x_27.A _ x0_d_A _ t_41 w0 _ _ _ (Mem.le.refl _) (hS.enter [] (by decide)) (ho_31.rd (hS.own_zed [] 3 (by decide)) (Mem.no_le _)) (hp0_0.mono (hA.trans (hS.le_zed []))) et_41) ?_
        rintro _ w_42 ⟨N_43, rfl, hS'⟩
        clear hm a; intro a hm
        obtain ⟨N_44, hS'', le_44, ln_44⟩ := hS.call [] (by decide) rfl (l' := []) (ow := []) rfl hS'
        replace hS : Sep w0 w_42 [N_44, Mem.one g0 (.cells ([p0_0, p0_1, .int .i64 x0_cut, .bool x0_dead] : List Value).toArray 58 (0, 0)), Mem.one g_2 (.cells ([.int .i64 x1.Inc, .int .i64 x1.Prom, .int .i64 x1.Inst] : List Value).toArray 28 (0, 0)), Mem.one g_26 (.cells ([v_30, v_34] : List Value).toArray 25 (0, 0)), M_28, M_32] Z := hS''
        clear hS' hS''
        refine wpList_nil ?_
        refine x_then_n ⟨(hS.sub (.cons le_44 (.cons (Mem.le.refl _) (.cons (Mem.le.refl _) (.cons (Mem.le.refl _) (.cons (Mem.le.refl _) (.cons (Mem.le.refl _) (Sub.nil _)))))))), ?_⟩
        refine h_done (by kernel_rfl) ?_
        replace hm : Fr 64 a [(0, .pointer (some ⟨g0, 0, none⟩)), (3, .pointer (some ⟨g_2, 0, none⟩)), (4, .bool false), (5, .pointer (some ⟨g_26, 0, none⟩)), (6, .int .i64 (x_27.A.length : Int)), (41, .bool t_41)] := hm.keep [0, 3, 4, 5, 6, 41]
        refine x_then_n (hKJ_39 _ _ ?_)
        have hJ_j_48 : ∀ (x_46 : Int), keep_Keep_Put.J2 K x0_d_A x0_d_B x1 x0_cut x_46 = some r → ∀ (a : Act) (w_47 : World), (∃ (N_45 : Mem), Fr 64 a [(0, .pointer (some ⟨g0, 0, none⟩)), (3, .pointer (some ⟨g_2, 0, none⟩)), (4, .bool false), (6, .int .i64 x_46)] ∧ Sep w0 w_47 [N_45, Mem.one g0 (.cells ([p0_0, p0_1, .int .i64 x0_cut, .bool x0_dead] : List Value).toArray 58 (0, 0)), Mem.one g_2 (.cells ([.int .i64 x1.Inc, .int .i64 x1.Prom, .int .i64 x1.Inst] : List Value).toArray 28 (0, 0)), Mem.no, Mem.no, Mem.no] Z ∧ N_44.le N_45) → KJ_38 a w_47 := by
          clear H hm hS a
          rintro x_46 H a w_47 ⟨N_45, hm, hS, le_45⟩
          unfold keep_Keep_Put.J2 at H
          refine hKJ_38 _ _ ?_
          refine c_seq fun KJ_49 hKJ_49 => ?_
          refine h_begin (S := fun w => Sep w0 w [N_45, Mem.no, Mem.one g_2 (.cells ([.int .i64 x1.Inc, .int .i64 x1.Prom, .int .i64 x1.Inst] : List Value).toArray 28 (0, 0)), Mem.no, Mem.no, Mem.no] Z) 21 (by kernel_rfl) rfl [false, false, false, false, false, false, false, false, false, false, false, false, false, false, false, false, false, false, false, false, false].toArray rfl hS fun w_50 hS => ?_
          replace hS : Sep w0 w_50 [N_45, Mem.one g0 (.cells ([p0_0, p0_1, .int .i64 x0_cut, .bool x0_dead] : List Value).toArray 58 (0, 0)), Mem.one g_2 (.cells ([.int .i64 x1.Inc, .int .i64 x1.Prom, .int .i64 x1.Inst] : List Value).toArray 28 (0, 0)), Mem.no, Mem.no, Mem.no] Z := hS
          refine h_take 0 [true, false, false, false, false, false, false, false, false, false, false, false, false, false, false, false, false, false, false, false, false].toArray rfl (by kernel_rfl) (by kernel_rfl) (by kernel_rfl) (fun _ _ _ _ h => h) rfl rfl rfl rfl hm (hS.sub (.cons (Mem.le.refl _) (.cons (Mem.no_le _) (.cons (Mem.le.refl _) (.cons (Mem.no_le _) (.cons (Mem.no_le _) (.cons (Mem.no_le _) (Sub.nil _)))))))) (v := .pointer (some ⟨g0, 0, none⟩)) (fun w hS => r_move hm rfl) ?_
          clear hm a; intro a hm
          refine h_take 1 [true, true, false, false, false, false, false, false, false, false, false, false, false, false, false, false, false, false, false, false, false].toArray rfl (by kernel_rfl) (by kernel_rfl) (by kernel_rfl) (fun _ _ _ _ h => h) rfl rfl rfl rfl hm (hS.sub (.cons (Mem.le.refl _) (.cons (Mem.no_le _) (.cons (Mem.le.refl _) (.cons (Mem.no_le _) (.cons (Mem.no_le _) (.cons (Mem.no_le _) (Sub.nil _)))))))) (v := .pointer (some ⟨g0, 0, none⟩)) (fun w hS => r_move hm rfl) ?_
          clear hm a; intro a hm
          refine h_take 2 [true, true, true, false, false, false, false, false, false, false, false, false, false, false, false, false, false, false, false, false, false].toArray rfl (by kernel_rfl) (by kernel_rfl) (by kernel_rfl) (fun _ _ _ _ h => h) rfl rfl rfl rfl hm (hS.sub (.cons (Mem.le.refl _) (.cons (Mem.no_le _) (.cons (Mem.le.refl _) (.cons (Mem.no_le _) (.cons (Mem.no_le _) (.cons (Mem.no_le _) (Sub.nil _)))))))) (v := .pointer (some ⟨g0, 0, none⟩)) (fun w hS => r_move hm rfl) ?_
          clear hm a; intro a hm
          refine h_take 3 [true, true, true, true, false, false, false, false, false, false, false, false, false, false, false, false, false, false, false, false, false].toArray rfl (by kernel_rfl) (by kernel_rfl) (by kernel_rfl) (fun _ _ _ _ h => h) rfl rfl rfl rfl hm (hS.sub (.cons (Mem.le.refl _) (.cons (Mem.no_le _) (.cons (Mem.le.refl _) (.cons (Mem.no_le _) (.cons (Mem.no_le _) (.cons (Mem.no_le _) (Sub.nil _)))))))) (v := .pointer (some ⟨g0, 0, none⟩)) (fun w hS => r_nilCheck hm rfl) ?_
          clear hm a; intro a hm
          refine h_take 4 [true, true, true, true, true, false, false, false, false, false, false, false, false, false, false, false, false, false, false, false, false].toArray rfl (by kernel_rfl) (by kernel_rfl) (by kernel_rfl) (fun _ _ _ _ h => h) rfl rfl rfl rfl hm (hS.sub (.cons (Mem.le.refl _) (.cons (Mem.no_le _) (.cons (Mem.le.refl _) (.cons (Mem.no_le _) (.cons (Mem.no_le _) (.cons (Mem.no_le _) (Sub.nil _)))))))) (v := .pointer (some ⟨g0, 0, none⟩)) (fun w hS => r_fieldAddr hm Try.underlying58 rfl ti25 rfl rfl rfl) ?_
          clear hm a; intro a hm
          refine h_take 6 [true, true, true, true, true, false, true, false, false, false, false, false, false, false, false, false, false, false, false, false, false].toArray rfl (by kernel_rfl) (by kernel_rfl) (by kernel_rfl) (fun _ _ _ _ h => h) rfl rfl rfl rfl hm (hS.sub (.cons (Mem.le.refl _) (.cons (Mem.no_le _) (.cons (Mem.le.refl _) (.cons (Mem.no_le _) (.cons (Mem.no_le _) (.cons (Mem.no_le _) (Sub.nil _)))))))) (v := .agg [.int .i64 x1.Inc, .int .i64 x1.Prom, .int .i64 x1.Inst].toArray) (fun w hS => r_load hm rfl (hS.load_agg (p := 2) (us := [.int .i64 x1.Inc, .int .i64 x1.Prom, .int .i64 x1.Inst]) rfl Try.underlying28 rfl ti28 rfl rfl)) ?_
          clear hm a; intro a hm
          refine h_take 7 [true, true, true, true, true, false, true, true, false, false, false, false, false, false, false, false, false, false, false, false, false].toArray rfl (by kernel_rfl) (by kernel_rfl) (by kernel_rfl) (fun _ _ _ _ h => h) rfl rfl rfl rfl hm (hS.sub (.cons (Mem.le.refl _) (.cons (Mem.no_le _) (.cons (Mem.le.refl _) (.cons (Mem.no_le _) (.cons (Mem.no_le _) (.cons (Mem.no_le _) (Sub.nil _)))))))) (v := .pointer (some ⟨g0, 0, none⟩)) (fun w hS => r_move hm rfl) ?_
          clear hm a; intro a hm
          refine h_take 8 [true, true, true, true, true, false, true, true, true, false, false, false, false, false, false, false, false, false, false, false, false].toArray rfl (by kernel_rfl) (by kernel_rfl) (by kernel_rfl) (fun _ _ _ _ h => h) rfl rfl rfl rfl hm (hS.sub (.cons (Mem.le.refl _) (.cons (Mem.no_le _) (.cons (Mem.le.refl _) (.cons (Mem.no_le _) (.cons (Mem.no_le _) (.cons (Mem.no_le _) (Sub.nil _)))))))) (v := .pointer (some ⟨g0, 0, none⟩)) (fun w hS => r_nilCheck hm rfl) ?_
          clear hm a; intro a hm
          refine h_take 9 [true, true, true, true, true, false, true, true, true, true, false, false, false, false, false, false, false, false, false, false, false].toArray rfl (by kernel_rfl) (by kernel_rfl) (by kernel_rfl) (fun _ _ _ _ h => h) rfl rfl rfl rfl hm (hS.sub (.cons (Mem.le.refl _) (.cons (Mem.no_le _) (.cons (Mem.le.refl _) (.cons (Mem.no_le _) (.cons (Mem.no_le _) (.cons (Mem.no_le _) (Sub.nil _)))))))) (v := .pointer (some ⟨g0, 2, none⟩)) (fun w hS => r_fieldAddr hm Try.underlying58 rfl ti3 rfl rfl rfl) ?_
          clear hm a; intro a hm
          refine h_take 11 [true, true, true, true, true, false, true, true, true, true, false, true, false, false, false, false, false, false, false, false, false].toArray rfl (by kernel_rfl) (by kernel_rfl) (by kernel_rfl) (fun _ _ _ _ h => h) rfl rfl rfl rfl hm (hS.sub (.cons (Mem.le.refl _) (.cons (Mem.no_le _) (.cons (Mem.le.refl _) (.cons (Mem.no_le _) (.cons (Mem.no_le _) (.cons (Mem.no_le _) (Sub.nil _)))))))) (v := .int .i64 x_46) (fun w hS => r_move hm rfl) ?_
          clear hm a; intro a hm
          refine h_take 12 [true, true, true, true, true, false, true, true, true, true, false, true, true, false, false, false, false, false, false, false, false].toArray rfl (by kernel_rfl) (by kernel_rfl) (by kernel_rfl) (fun _ _ _ _ h => h) rfl rfl rfl rfl hm (hS.sub (.cons (Mem.le.refl _) (.cons (Mem.no_le _) (.cons (Mem.le.refl _) (.cons (Mem.no_le _) (.cons (Mem.no_le _) (.cons (Mem.no_le _) (Sub.nil _)))))))) (v := .int .i64 (w64 (x_46 - 1))) (fun w hS => r_arith (r := w64 (x_46 - 1)) hm rfl rfl (.inr (.inl ⟨rfl, rfl⟩))) ?_
          clear hm a; intro a hm
          obtain ⟨t_51, et_51, H⟩ := Option.bind_eq_some_iff.1 H
          refine h_events [5, 10] (by kernel_rfl) (by simp) ?_
          intro i hi; simp only [List.mem_cons, List.not_mem_nil, or_false] at hi; rcases hi with rfl | rfl
          · refine ⟨_, [true, true, true, true, true, true, true, true, true, true, false, true, true, false, false, false, false, false, false, false, false].toArray, rfl, rfl, ?_⟩
            refine s_load hm rfl rfl (hS.load_agg (p := 1) (us := [p0_0, p0_1]) rfl Try.underlying25 rfl ti25 rfl rfl) ?_
            clear hm a; intro a hm
            refine wpList_nil ?_
            refine x_then_n ⟨(hS.sub (.cons (Mem.le.refl _) (.cons (Mem.no_le _) (.cons (Mem.le.refl _) (.cons (Mem.no_le _) (.cons (Mem.no_le _) (.cons (Mem.no_le _) (Sub.nil _)))))))), ?_⟩
            refine h_event 10 [true, true, true, true, true, true, true, true, true, true, true, true, true, false, false, false, false, false, false, false, false].toArray rfl (by kernel_rfl) rfl ?_
            refine s_load hm rfl rfl (hS.load_one (p := 1) rfl Try.underlying3 rfl rfl) ?_
            clear hm a; intro a hm
            refine wpList_nil ?_
            refine x_then_n ⟨(hS.sub (.cons (Mem.le.refl _) (.cons (Mem.no_le _) (.cons (Mem.le.refl _) (.cons (Mem.no_le _) (.cons (Mem.no_le _) (.cons (Mem.no_le _) (Sub.nil _)))))))), ?_⟩
            refine h_take 13 [true, true, true, true, true, true, true, true, true, true, true, true, true, true, false, false, false, false, false, false, false].toArray rfl (by kernel_rfl) (by kernel_rfl) (by kernel_rfl) (fun _ _ _ _ h => h) rfl rfl rfl rfl hm (hS.sub (.cons (Mem.le.refl _) (.cons (Mem.no_le _) (.cons (Mem.le.refl _) (.cons (Mem.no_le _) (.cons (Mem.no_le _) (.cons (Mem.no_le _) (Sub.nil _)))))))) (v := .int .i64 (mn x0_cut (w64 (x_46 - 1)))) (fun w hS => r_min hm rfl rfl) ?_
            clear hm a; intro a hm
            refine h_event 14 [true, true, true, true, true, true, true, true, true, true, true, true, true, true, true, false, false, false, false, false, false].toArray rfl (by kernel_rfl) rfl ?_
            refine s_call hm rfl Try.call11 rfl (disk_Write.calls K (⟨x0_d_A, x0_d_B⟩ : api_Disk) _ _ x1 (mn x0_cut (w64 (x_46 - 1))) t_51 w0 _ _ _ (Mem.le.refl _) (hS.enter [] (by decide)) (hp0_0.mono (hA.trans (hS.le_zed []))) (hp0_1.mono (hA.trans (hS.le_zed []))) et_51) ?_
            rintro _ w_52 ⟨v_55, v_59, N_53, M_57, M_61, rfl, hS', hr_56, hr_60⟩
            clear hm a; intro a hm
            obtain ⟨N_54, hS'', le_54, ln_54⟩ := hS.call [] (by decide) rfl (l' := []) (ow := [M_57, M_61]) rfl hS'
            replace hS : Sep w0 w_52 [N_54, Mem.one g0 (.cells ([p0_0, p0_1, .int .i64 x0_cut, .bool x0_dead] : List Value).toArray 58 (0, 0)), Mem.one g_2 (.cells ([.int .i64 x1.Inc, .int .i64 x1.Prom, .int .i64 x1.Inst] : List Value).toArray 28 (0, 0)), Mem.no, Mem.no, Mem.no, M_57, M_61] Z := hS''
            clear hS' hS''
            refine wpList_nil ?_
            refine x_then_n ⟨(hS.sub (.cons le_54 (.cons (Mem.no_le _) (.cons (Mem.le.refl _) (.cons (Mem.no_le _) (.cons (Mem.no_le _) (.cons (Mem.no_le _) (Sub.nil _)))))))), ?_⟩
            refine h_take 15 [true, true, true, true, true, true, true, true, true, true, true, true, true, true, true, true, false, false, false, false, false].toArray rfl (by kernel_rfl) (by kernel_rfl) (by kernel_rfl) (fun _ _ _ _ h => h) rfl rfl rfl rfl hm (hS.sub (.cons le_54 (.cons (Mem.no_le _) (.cons (Mem.le.refl _) (.cons (Mem.no_le _) (.cons (Mem.no_le _) (.cons (Mem.no_le _) (Sub.nil _)))))))) (v := .pointer (some ⟨g0, 0, none⟩)) (fun w hS => r_nilCheck hm rfl) ?_
            clear hm a; intro a hm
            refine h_take 16 [true, true, true, true, true, true, true, true, true, true, true, true, true, true, true, true, true, false, false, false, false].toArray rfl (by kernel_rfl) (by kernel_rfl) (by kernel_rfl) (fun _ _ _ _ h => h) rfl rfl rfl rfl hm (hS.sub (.cons le_54 (.cons (Mem.no_le _) (.cons (Mem.le.refl _) (.cons (Mem.no_le _) (.cons (Mem.no_le _) (.cons (Mem.no_le _) (Sub.nil _)))))))) (v := .pointer (some ⟨g0, 0, none⟩)) (fun w hS => r_fieldAddr hm Try.underlying58 rfl ti25 rfl rfl rfl) ?_
            clear hm a; intro a hm
            refine h_event 17 [true, true, true, true, true, true, true, true, true, true, true, true, true, true, true, true, true, true, false, false, false].toArray rfl (by kernel_rfl) rfl ?_
            obtain ⟨w_63, hs', hS'⟩ := hS.store (P := Try.prog) (p := 1) (o := 0) (t := 25) (v := .agg [v_55, v_59].toArray) (vs := [v_55, v_59]) rfl ti25 rfl rfl rfl (by intro u hu; simp only [List.mem_cons, List.not_mem_nil, or_false] at hu; rcases hu with rfl | rfl <;> first | rfl | exact hr_56.one | exact hr_60.one)
            refine s_store hm rfl rfl hs' ?_
            replace hS : Sep w0 w_63 [N_54, Mem.one g0 (.cells ([v_55, v_59, .int .i64 x0_cut, .bool x0_dead] : List Value).toArray 58 (0, 0)), Mem.one g_2 (.cells ([.int .i64 x1.Inc, .int .i64 x1.Prom, .int .i64 x1.Inst] : List Value).toArray 28 (0, 0)), Mem.no, Mem.no, Mem.no, M_57, M_61] Z := hS'
            clear hs' hS'
            refine wpList_nil ?_
            refine x_then_n ⟨(hS.sub (.cons le_54 (.cons (Mem.no_le _) (.cons (Mem.le.refl _) (.cons (Mem.no_le _) (.cons (Mem.no_le _) (.cons (Mem.no_le _) (Sub.nil _)))))))), ?_⟩
            refine h_take 18 [true, true, true, true, true, true, true, true, true, true, true, true, true, true, true, true, true, true, true, false, false].toArray rfl (by kernel_rfl) (by kernel_rfl) (by kernel_rfl) (fun _ _ _ _ h => h) rfl rfl rfl rfl hm (hS.sub (.cons le_54 (.cons (Mem.no_le _) (.cons (Mem.le.refl _) (.cons (Mem.no_le _) (.cons (Mem.no_le _) (.cons (Mem.no_le _) (Sub.nil _)))))))) (v := .pointer (some ⟨g0, 0, none⟩)) (fun w hS => r_nilCheck hm rfl) ?_
            clear hm a; intro a hm
            refine h_take 19 [true, true, true, true, true, true, true, true, true, true, true, true, true, true, true, true, true, true, true, true, false].toArray rfl (by kernel_rfl) (by kernel_rfl) (by kernel_rfl) (fun _ _ _ _ h => h) rfl rfl rfl rfl hm (hS.sub (.cons le_54 (.cons (Mem.no_le _) (.cons (Mem.le.refl _) (.cons (Mem.no_le _) (.cons (Mem.no_le _) (.cons (Mem.no_le _) (Sub.nil _)))))))) (v := .pointer (some ⟨g0, 3, none⟩)) (fun w hS => r_fieldAddr hm Try.underlying58 rfl ti4 rfl rfl rfl) ?_
            clear hm a; intro a hm
            refine h_event 20 [true, true, true, true, true, true, true, true, true, true, true, true, true, true, true, true, true, true, true, true, true].toArray rfl (by kernel_rfl) rfl ?_
            obtain ⟨w_64, hs', hS'⟩ := hS.store (P := Try.prog) (p := 1) (o := 3) (t := 4) (v := .bool true) (vs := [.bool true]) rfl ti4 rfl rfl rfl (by intro u hu; simp only [List.mem_cons, List.not_mem_nil, or_false] at hu; rcases hu with rfl <;> rfl)
            refine s_store hm rfl rfl hs' ?_
            replace hS : Sep w0 w_64 [N_54, Mem.one g0 (.cells ([v_55, v_59, .int .i64 x0_cut, .bool true] : List Value).toArray 58 (0, 0)), Mem.one g_2 (.cells ([.int .i64 x1.Inc, .int .i64 x1.Prom, .int .i64 x1.Inst] : List Value).toArray 28 (0, 0)), Mem.no, Mem.no, Mem.no, M_57, M_61] Z := hS'
            clear hs' hS'
            refine wpList_nil ?_
            refine x_then_n ⟨(hS.sub (.cons le_54 (.cons (Mem.no_le _) (.cons (Mem.le.refl _) (.cons (Mem.no_le _) (.cons (Mem.no_le _) (.cons (Mem.no_le _) (Sub.nil _)))))))), ?_⟩
            refine h_done (by kernel_rfl) ?_
            replace hm : Fr 64 a [(4, .bool false)] := hm.keep [4]
            refine x_then_n (hKJ_49 _ _ ?_)
            refine wp_seq ?_
            refine wp_region_lit ?_
            refine s_assign hm rfl rfl ?_
            clear hm a; intro a hm
            refine wpList_nil ?_
            replace hm : Fr 64 a [(4, .bool false)] := hm.keep [4]
            refine x_then_n ?_
            refine wp_ret ?_
            obtain ⟨N_65, hS', le_65, lo_65⟩ := hS.freeze 5 rfl
            replace hS : Sep w0 w_64 [N_65, Mem.one g0 (.cells ([v_55, v_59, .int .i64 x0_cut, .bool true] : List Value).toArray 58 (0, 0)), Mem.one g_2 (.cells ([.int .i64 x1.Inc, .int .i64 x1.Prom, .int .i64 x1.Inst] : List Value).toArray 28 (0, 0)), Mem.no, Mem.no, Mem.no, Mem.no, M_61] Z := hS'
            clear hS'
            obtain ⟨N_66, hS', le_66, lo_66⟩ := hS.freeze 6 rfl
            replace hS : Sep w0 w_64 [N_66, Mem.one g0 (.cells ([v_55, v_59, .int .i64 x0_cut, .bool true] : List Value).toArray 58 (0, 0)), Mem.one g_2 (.cells ([.int .i64 x1.Inc, .int .i64 x1.Prom, .int .i64 x1.Inst] : List Value).toArray 28 (0, 0)), Mem.no, Mem.no, Mem.no, Mem.no, Mem.no] Z := hS'
            clear hS'
            obtain rfl := Option.some.inj H
            exact f_ret hm (rs := [.tmp 4]) rfl (.tmp rfl .nil) ⟨_, rfl, v_55, v_59, N_66, rfl, (Sep.sel hS [0, 1] (by decide)), ((hr_56.rd lo_65 (Mem.no_le _)).mono (le_66.trans (hS.sndA hA))), ((hr_60.rd lo_66 (Mem.no_le _)).mono ((Mem.le.refl _).trans (hS.sndA hA)))⟩
          · refine ⟨_, [true, true, true, true, true, false, true, true, true, true, true, true, true, false, false, false, false, false, false, false, false].toArray, rfl, rfl, ?_⟩
            refine s_load hm rfl rfl (hS.load_one (p := 1) rfl Try.underlying3 rfl rfl) ?_
            clear hm a; intro a hm
            refine wpList_nil ?_
            refine x_then_n ⟨(hS.sub (.cons (Mem.le.refl _) (.cons (Mem.no_le _) (.cons (Mem.le.refl _) (.cons (Mem.no_le _) (.cons (Mem.no_le _) (.cons (Mem.no_le _) (Sub.nil _)))))))), ?_⟩
            refine h_take 13 [true, true, true, true, true, false, true, true, true, true, true, true, true, true, false, false, false, false, false, false, false].toArray rfl (by kernel_rfl) (by kernel_rfl) (by kernel_rfl) (fun _ _ _ _ h => h) rfl rfl rfl rfl hm (hS.sub (.cons (Mem.le.refl _) (.cons (Mem.no_le _) (.cons (Mem.le.refl _) (.cons (Mem.no_le _) (.cons (Mem.no_le _) (.cons (Mem.no_le _) (Sub.nil _)))))))) (v := .int .i64 (mn x0_cut (w64 (x_46 - 1)))) (fun w hS => r_min hm rfl rfl) ?_
            clear hm a; intro a hm
            refine h_event 5 [true, true, true, true, true, true, true, true, true, true, true, true, true, true, false, false, false, false, false, false, false].toArray rfl (by kernel_rfl) rfl ?_
            refine s_load hm rfl rfl (hS.load_agg (p := 1) (us := [p0_0, p0_1]) rfl Try.underlying25 rfl ti25 rfl rfl) ?_
            clear hm a; intro a hm
            refine wpList_nil ?_
            refine x_then_n ⟨(hS.sub (.cons (Mem.le.refl _) (.cons (Mem.no_le _) (.cons (Mem.le.refl _) (.cons (Mem.no_le _) (.cons (Mem.no_le _) (.cons (Mem.no_le _) (Sub.nil _)))))))), ?_⟩
            refine h_event 14 [true, true, true, true, true, true, true, true, true, true, true, true, true, true, true, false, false, false, false, false, false].toArray rfl (by kernel_rfl) rfl ?_
            refine s_call hm rfl Try.call11 rfl (disk_Write.calls K (⟨x0_d_A, x0_d_B⟩ : api_Disk) _ _ x1 (mn x0_cut (w64 (x_46 - 1))) t_51 w0 _ _ _ (Mem.le.refl _) (hS.enter [] (by decide)) (hp0_0.mono (hA.trans (hS.le_zed []))) (hp0_1.mono (hA.trans (hS.le_zed []))) et_51) ?_
            rintro _ w_68 ⟨v_71, v_75, N_69, M_73, M_77, rfl, hS', hr_72, hr_76⟩
            clear hm a; intro a hm
            obtain ⟨N_70, hS'', le_70, ln_70⟩ := hS.call [] (by decide) rfl (l' := []) (ow := [M_73, M_77]) rfl hS'
            replace hS : Sep w0 w_68 [N_70, Mem.one g0 (.cells ([p0_0, p0_1, .int .i64 x0_cut, .bool x0_dead] : List Value).toArray 58 (0, 0)), Mem.one g_2 (.cells ([.int .i64 x1.Inc, .int .i64 x1.Prom, .int .i64 x1.Inst] : List Value).toArray 28 (0, 0)), Mem.no, Mem.no, Mem.no, M_73, M_77] Z := hS''
            clear hS' hS''
            refine wpList_nil ?_
            refine x_then_n ⟨(hS.sub (.cons le_70 (.cons (Mem.no_le _) (.cons (Mem.le.refl _) (.cons (Mem.no_le _) (.cons (Mem.no_le _) (.cons (Mem.no_le _) (Sub.nil _)))))))), ?_⟩
            refine h_take 15 [true, true, true, true, true, true, true, true, true, true, true, true, true, true, true, true, false, false, false, false, false].toArray rfl (by kernel_rfl) (by kernel_rfl) (by kernel_rfl) (fun _ _ _ _ h => h) rfl rfl rfl rfl hm (hS.sub (.cons le_70 (.cons (Mem.no_le _) (.cons (Mem.le.refl _) (.cons (Mem.no_le _) (.cons (Mem.no_le _) (.cons (Mem.no_le _) (Sub.nil _)))))))) (v := .pointer (some ⟨g0, 0, none⟩)) (fun w hS => r_nilCheck hm rfl) ?_
            clear hm a; intro a hm
            refine h_take 16 [true, true, true, true, true, true, true, true, true, true, true, true, true, true, true, true, true, false, false, false, false].toArray rfl (by kernel_rfl) (by kernel_rfl) (by kernel_rfl) (fun _ _ _ _ h => h) rfl rfl rfl rfl hm (hS.sub (.cons le_70 (.cons (Mem.no_le _) (.cons (Mem.le.refl _) (.cons (Mem.no_le _) (.cons (Mem.no_le _) (.cons (Mem.no_le _) (Sub.nil _)))))))) (v := .pointer (some ⟨g0, 0, none⟩)) (fun w hS => r_fieldAddr hm Try.underlying58 rfl ti25 rfl rfl rfl) ?_
            clear hm a; intro a hm
            refine h_event 17 [true, true, true, true, true, true, true, true, true, true, true, true, true, true, true, true, true, true, false, false, false].toArray rfl (by kernel_rfl) rfl ?_
            obtain ⟨w_79, hs', hS'⟩ := hS.store (P := Try.prog) (p := 1) (o := 0) (t := 25) (v := .agg [v_71, v_75].toArray) (vs := [v_71, v_75]) rfl ti25 rfl rfl rfl (by intro u hu; simp only [List.mem_cons, List.not_mem_nil, or_false] at hu; rcases hu with rfl | rfl <;> first | rfl | exact hr_72.one | exact hr_76.one)
            refine s_store hm rfl rfl hs' ?_
            replace hS : Sep w0 w_79 [N_70, Mem.one g0 (.cells ([v_71, v_75, .int .i64 x0_cut, .bool x0_dead] : List Value).toArray 58 (0, 0)), Mem.one g_2 (.cells ([.int .i64 x1.Inc, .int .i64 x1.Prom, .int .i64 x1.Inst] : List Value).toArray 28 (0, 0)), Mem.no, Mem.no, Mem.no, M_73, M_77] Z := hS'
            clear hs' hS'
            refine wpList_nil ?_
            refine x_then_n ⟨(hS.sub (.cons le_70 (.cons (Mem.no_le _) (.cons (Mem.le.refl _) (.cons (Mem.no_le _) (.cons (Mem.no_le _) (.cons (Mem.no_le _) (Sub.nil _)))))))), ?_⟩
            refine h_take 18 [true, true, true, true, true, true, true, true, true, true, true, true, true, true, true, true, true, true, true, false, false].toArray rfl (by kernel_rfl) (by kernel_rfl) (by kernel_rfl) (fun _ _ _ _ h => h) rfl rfl rfl rfl hm (hS.sub (.cons le_70 (.cons (Mem.no_le _) (.cons (Mem.le.refl _) (.cons (Mem.no_le _) (.cons (Mem.no_le _) (.cons (Mem.no_le _) (Sub.nil _)))))))) (v := .pointer (some ⟨g0, 0, none⟩)) (fun w hS => r_nilCheck hm rfl) ?_
            clear hm a; intro a hm
            refine h_take 19 [true, true, true, true, true, true, true, true, true, true, true, true, true, true, true, true, true, true, true, true, false].toArray rfl (by kernel_rfl) (by kernel_rfl) (by kernel_rfl) (fun _ _ _ _ h => h) rfl rfl rfl rfl hm (hS.sub (.cons le_70 (.cons (Mem.no_le _) (.cons (Mem.le.refl _) (.cons (Mem.no_le _) (.cons (Mem.no_le _) (.cons (Mem.no_le _) (Sub.nil _)))))))) (v := .pointer (some ⟨g0, 3, none⟩)) (fun w hS => r_fieldAddr hm Try.underlying58 rfl ti4 rfl rfl rfl) ?_
            clear hm a; intro a hm
            refine h_event 20 [true, true, true, true, true, true, true, true, true, true, true, true, true, true, true, true, true, true, true, true, true].toArray rfl (by kernel_rfl) rfl ?_
            obtain ⟨w_80, hs', hS'⟩ := hS.store (P := Try.prog) (p := 1) (o := 3) (t := 4) (v := .bool true) (vs := [.bool true]) rfl ti4 rfl rfl rfl (by intro u hu; simp only [List.mem_cons, List.not_mem_nil, or_false] at hu; rcases hu with rfl <;> rfl)
            refine s_store hm rfl rfl hs' ?_
            replace hS : Sep w0 w_80 [N_70, Mem.one g0 (.cells ([v_71, v_75, .int .i64 x0_cut, .bool true] : List Value).toArray 58 (0, 0)), Mem.one g_2 (.cells ([.int .i64 x1.Inc, .int .i64 x1.Prom, .int .i64 x1.Inst] : List Value).toArray 28 (0, 0)), Mem.no, Mem.no, Mem.no, M_73, M_77] Z := hS'
            clear hs' hS'
            refine wpList_nil ?_
            refine x_then_n ⟨(hS.sub (.cons le_70 (.cons (Mem.no_le _) (.cons (Mem.le.refl _) (.cons (Mem.no_le _) (.cons (Mem.no_le _) (.cons (Mem.no_le _) (Sub.nil _)))))))), ?_⟩
            refine h_done (by kernel_rfl) ?_
            replace hm : Fr 64 a [(4, .bool false)] := hm.keep [4]
            refine x_then_n (hKJ_49 _ _ ?_)
            refine wp_seq ?_
            refine wp_region_lit ?_
            refine s_assign hm rfl rfl ?_
            clear hm a; intro a hm
            refine wpList_nil ?_
            replace hm : Fr 64 a [(4, .bool false)] := hm.keep [4]
            refine x_then_n ?_
            refine wp_ret ?_
            obtain ⟨N_81, hS', le_81, lo_81⟩ := hS.freeze 5 rfl
            replace hS : Sep w0 w_80 [N_81, Mem.one g0 (.cells ([v_71, v_75, .int .i64 x0_cut, .bool true] : List Value).toArray 58 (0, 0)), Mem.one g_2 (.cells ([.int .i64 x1.Inc, .int .i64 x1.Prom, .int .i64 x1.Inst] : List Value).toArray 28 (0, 0)), Mem.no, Mem.no, Mem.no, Mem.no, M_77] Z := hS'
            clear hS'
            obtain ⟨N_82, hS', le_82, lo_82⟩ := hS.freeze 6 rfl
            replace hS : Sep w0 w_80 [N_82, Mem.one g0 (.cells ([v_71, v_75, .int .i64 x0_cut, .bool true] : List Value).toArray 58 (0, 0)), Mem.one g_2 (.cells ([.int .i64 x1.Inc, .int .i64 x1.Prom, .int .i64 x1.Inst] : List Value).toArray 28 (0, 0)), Mem.no, Mem.no, Mem.no, Mem.no, Mem.no] Z := hS'
            clear hS'
            obtain rfl := Option.some.inj H
            exact f_ret hm (rs := [.tmp 4]) rfl (.tmp rfl .nil) ⟨_, rfl, v_71, v_75, N_82, rfl, (Sep.sel hS [0, 1] (by decide)), ((hr_72.rd lo_81 (Mem.no_le _)).mono (le_82.trans (hS.sndA hA))), ((hr_76.rd lo_82 (Mem.no_le _)).mono ((Mem.le.refl _).trans (hS.sndA hA)))⟩
        clear hKJ_38
        by_cases hc_83 : t_41 = true
        · rw [if_pos hc_83] at H
          refine c_cond_t hm rfl hc_83 ?_
          refine wp_region_lit ?_
          refine s_fieldAddr hm rfl Try.underlying25 rfl ti23 rfl rfl ?_
          clear hm a; intro a hm
          refine s_load hm rfl rfl (hS.load_one (p := 3) rfl Try.underlying23 rfl rfl) ?_
          clear hm a; intro a hm
          refine s_lenO hm rfl Try.underlying23 rfl ho_35 ?_
          clear hm a; intro a hm
          refine s_assign hm rfl rfl ?_
          clear hm a; intro a hm
          refine wpList_nil ?_
          replace hm : Fr 64 a [(0, .pointer (some ⟨g0, 0, none⟩)), (3, .pointer (some ⟨g_2, 0, none⟩)), (4, .bool false), (6, .int .i64 (x_27.B.length : Int))] := hm.keep [0, 3, 4, 6]
          replace hS : Sep w0 w_42 [N_44, Mem.one g0 (.cells ([p0_0, p0_1, .int .i64 x0_cut, .bool x0_dead] : List Value).toArray 58 (0, 0)), Mem.one g_2 (.cells ([.int .i64 x1.Inc, .int .i64 x1.Prom, .int .i64 x1.Inst] : List Value).toArray 28 (0, 0)), Mem.one g_26 (.cells ([v_30, v_34] : List Value).toArray 25 (0, 0)), M_28, M_32] Z := hS
          replace hm : Fr 64 a [(0, .pointer (some ⟨g0, 0, none⟩)), (3, .pointer (some ⟨g_2, 0, none⟩)), (4, .bool false), (6, .int .i64 (x_27.B.length : Int))] := hm.keep [0, 3, 4, 6]
          exact x_then_n (hJ_j_48 (x_27.B.length : Int) H _ _ ⟨N_44, hm, (Sep.sel hS [0, 1, 2, 1002, 1003, 1004] (by decide)), (Mem.le.refl _)⟩)
        · rw [if_neg hc_83] at H
          refine c_cond_f hm rfl (Bool.eq_false_iff.2 hc_83) ?_
          refine wp_skip ?_
          replace hS : Sep w0 w_42 [N_44, Mem.one g0 (.cells ([p0_0, p0_1, .int .i64 x0_cut, .bool x0_dead] : List Value).toArray 58 (0, 0)), Mem.one g_2 (.cells ([.int .i64 x1.Inc, .int .i64 x1.Prom, .int .i64 x1.Inst] : List Value).toArray 28 (0, 0)), Mem.one g_26 (.cells ([v_30, v_34] : List Value).toArray 25 (0, 0)), M_28, M_32] Z := hS
          replace hm : Fr 64 a [(0, .pointer (some ⟨g0, 0, none⟩)), (3, .pointer (some ⟨g_2, 0, none⟩)), (4, .bool false), (6, .int .i64 (x_27.A.length : Int))] := hm.keep [0, 3, 4, 6]
          exact x_then_n (hJ_j_48 (x_27.A.length : Int) H _ _ ⟨N_44, hm, (Sep.sel hS [0, 1, 2, 1002, 1003, 1004] (by decide)), (Mem.le.refl _)⟩)
      clear hKJ_24
      refine h_begin (S := fun w => Sep w0 w [Mem.no, Mem.one g0 (.cells ([p0_0, p0_1, .int .i64 x0_cut, .bool x0_dead] : List Value).toArray 58 (0, 0)), Mem.one g_2 (.cells ([.int .i64 x1.Inc, .int .i64 x1.Prom, .int .i64 x1.Inst] : List Value).toArray 28 (0, 0))] Z) 8 (by kernel_rfl) rfl [false, false, false, false, false, false, false, false].toArray rfl hS fun w_84 hS => ?_
      replace hS : Sep w0 w_84 [Mem.no, Mem.one g0 (.cells ([p0_0, p0_1, .int .i64 x0_cut, .bool x0_dead] : List Value).toArray 58 (0, 0)), Mem.one g_2 (.cells ([.int .i64 x1.Inc, .int .i64 x1.Prom, .int .i64 x1.Inst] : List Value).toArray 28 (0, 0))] Z := hS
      refine h_take 0 [true, false, false, false, false, false, false, false].toArray rfl (by kernel_rfl) (by kernel_rfl) (by kernel_rfl) (fun _ _ _ _ h => h) rfl rfl rfl rfl hm (hS.sub (.cons (Mem.le.refl _) (.cons (Mem.le.refl _) (.cons (Mem.le.refl _) (Sub.nil _))))) (v := .pointer (some ⟨g0, 0, none⟩)) (fun w hS => r_move hm rfl) ?_
      clear hm a; intro a hm
      refine h_take 1 [true, true, false, false, false, false, false, false].toArray rfl (by kernel_rfl) (by kernel_rfl) (by kernel_rfl) (fun _ _ _ _ h => h) rfl rfl rfl rfl hm (hS.sub (.cons (Mem.le.refl _) (.cons (Mem.le.refl _) (.cons (Mem.le.refl _) (Sub.nil _))))) (v := .pointer (some ⟨g0, 0, none⟩)) (fun w hS => r_nilCheck hm rfl) ?_
      clear hm a; intro a hm
      refine h_take 2 [true, true, true, false, false, false, false, false].toArray rfl (by kernel_rfl) (by kernel_rfl) (by kernel_rfl) (fun _ _ _ _ h => h) rfl rfl rfl rfl hm (hS.sub (.cons (Mem.le.refl _) (.cons (Mem.le.refl _) (.cons (Mem.le.refl _) (Sub.nil _))))) (v := .pointer (some ⟨g0, 0, none⟩)) (fun w hS => r_fieldAddr hm Try.underlying58 rfl ti25 rfl rfl rfl) ?_
      clear hm a; intro a hm
      refine h_take 3 [true, true, true, true, false, false, false, false].toArray rfl (by kernel_rfl) (by kernel_rfl) (by kernel_rfl) (fun _ _ _ _ h => h) rfl rfl rfl rfl hm (hS.sub (.cons (Mem.le.refl _) (.cons (Mem.le.refl _) (.cons (Mem.le.refl _) (Sub.nil _))))) (v := .agg [p0_0, p0_1].toArray) (fun w hS => r_load hm rfl (hS.load_agg (p := 1) (us := [p0_0, p0_1]) rfl Try.underlying25 rfl ti25 rfl rfl)) ?_
      clear hm a; intro a hm
      refine h_take 4 [true, true, true, true, true, false, false, false].toArray rfl (by kernel_rfl) (by kernel_rfl) (by kernel_rfl) (fun _ _ _ _ h => h) rfl rfl rfl rfl hm (hS.sub (.cons (Mem.le.refl _) (.cons (Mem.le.refl _) (.cons (Mem.le.refl _) (Sub.nil _))))) (v := .agg [.int .i64 x1.Inc, .int .i64 x1.Prom, .int .i64 x1.Inst].toArray) (fun w hS => r_load hm rfl (hS.load_agg (p := 2) (us := [.int .i64 x1.Inc, .int .i64 x1.Prom, .int .i64 x1.Inst]) rfl Try.underlying28 rfl ti28 rfl rfl)) ?_
      clear hm a; intro a hm
      obtain ⟨t_85, et_85, H⟩ := Option.bind_eq_some_iff.1 H
      refine h_events [5, 6] (by kernel_rfl) (by simp) ?_
      intro i hi; simp only [List.mem_cons, List.not_mem_nil, or_false] at hi; rcases hi with rfl | rfl
      · refine ⟨_, [true, true, true, true, true, true, false, false].toArray, rfl, rfl, ?_⟩
        refine s_call hm rfl Try.call11 rfl (disk_Write.calls K (⟨x0_d_A, x0_d_B⟩ : api_Disk) _ _ x1 (-1) t_85 w0 _ _ _ (Mem.le.refl _) (hS.enter [] (by decide)) (hp0_0.mono (hA.trans (hS.le_zed []))) (hp0_1.mono (hA.trans (hS.le_zed []))) et_85) ?_
        rintro _ w_86 ⟨v_89, v_93, N_87, M_91, M_95, rfl, hS', hr_90, hr_94⟩
        clear hm a; intro a hm
        obtain ⟨N_88, hS'', le_88, ln_88⟩ := hS.call [] (by decide) rfl (l' := []) (ow := [M_91, M_95]) rfl hS'
        replace hS : Sep w0 w_86 [N_88, Mem.one g0 (.cells ([p0_0, p0_1, .int .i64 x0_cut, .bool x0_dead] : List Value).toArray 58 (0, 0)), Mem.one g_2 (.cells ([.int .i64 x1.Inc, .int .i64 x1.Prom, .int .i64 x1.Inst] : List Value).toArray 28 (0, 0)), M_91, M_95] Z := hS''
        clear hS' hS''
        refine wpList_nil ?_
        refine x_then_n ⟨(hS.sub (.cons le_88 (.cons (Mem.le.refl _) (.cons (Mem.le.refl _) (Sub.nil _))))), ?_⟩
        refine h_event 6 [true, true, true, true, true, true, true, false].toArray rfl (by kernel_rfl) rfl ?_
        refine v_alloc hm rfl ti25 hS ?_
        intro w_97 g_98 hS'
        clear hm a; intro a hm
        replace hS : Sep w0 w_97 [N_88, Mem.one g0 (.cells ([p0_0, p0_1, .int .i64 x0_cut, .bool x0_dead] : List Value).toArray 58 (0, 0)), Mem.one g_2 (.cells ([.int .i64 x1.Inc, .int .i64 x1.Prom, .int .i64 x1.Inst] : List Value).toArray 28 (0, 0)), M_91, M_95, Mem.one g_98 (.cells ([.slice none 0 0, .slice none 0 0] : List Value).toArray 25 (0, 0))] Z := hS'
        clear hS'
        refine wpList_nil ?_
        refine x_then_n ⟨(hS.sub (.cons le_88 (.cons (Mem.le.refl _) (.cons (Mem.le.refl _) (Sub.nil _))))), ?_⟩
        refine h_event 7 [true, true, true, true, true, true, true, true].toArray rfl (by kernel_rfl) rfl ?_
        obtain ⟨w_99, hs', hS'⟩ := hS.store (P := Try.prog) (p := 5) (o := 0) (t := 25) (v := .agg [v_89, v_93].toArray) (vs := [v_89, v_93]) rfl ti25 rfl rfl rfl (by intro u hu; simp only [List.mem_cons, List.not_mem_nil, or_false] at hu; rcases hu with rfl | rfl <;> first | rfl | exact hr_90.one | exact hr_94.one)
        refine s_store hm rfl rfl hs' ?_
        replace hS : Sep w0 w_99 [N_88, Mem.one g0 (.cells ([p0_0, p0_1, .int .i64 x0_cut, .bool x0_dead] : List Value).toArray 58 (0, 0)), Mem.one g_2 (.cells ([.int .i64 x1.Inc, .int .i64 x1.Prom, .int .i64 x1.Inst] : List Value).toArray 28 (0, 0)), M_91, M_95, Mem.one g_98 (.cells ([v_89, v_93] : List Value).toArray 25 (0, 0))] Z := hS'
        clear hs' hS'
        refine wpList_nil ?_
        refine x_then_n ⟨(hS.sub (.cons le_88 (.cons (Mem.le.refl _) (.cons (Mem.le.refl _) (Sub.nil _))))), ?_⟩
        refine h_done (by kernel_rfl) ?_
        replace hm : Fr 64 a [(0, .pointer (some ⟨g0, 0, none⟩)), (3, .pointer (some ⟨g_2, 0, none⟩)), (4, .bool false), (5, .pointer (some ⟨g_98, 0, none⟩))] := hm.keep [0, 3, 4, 5]
        replace hS : Sep w0 w_99 [N_88, Mem.one g0 (.cells ([p0_0, p0_1, .int .i64 x0_cut, .bool x0_dead] : List Value).toArray 58 (0, 0)), Mem.one g_2 (.cells ([.int .i64 x1.Inc, .int .i64 x1.Prom, .int .i64 x1.Inst] : List Value).toArray 28 (0, 0)), M_91, M_95, Mem.one g_98 (.cells ([v_89, v_93] : List Value).toArray 25 (0, 0))] Z := hS
        replace hm : Fr 64 a [(0, .pointer (some ⟨g0, 0, none⟩)), (3, .pointer (some ⟨g_2, 0, none⟩)), (4, .bool false), (5, .pointer (some ⟨g_98, 0, none⟩))] := hm.keep [0, 3, 4, 5]
        exact x_then_n (hJ_j_37 t_85 H _ _ ⟨v_89, v_93, g_98, N_88, M_91, M_95, hm, (Sep.sel hS [0, 1, 2, 5, 3, 4] (by decide)), le_88, hr_90, hr_94⟩)
      · refine ⟨_, [true, true, true, true, true, false, true, false].toArray, rfl, rfl, ?_⟩
        refine v_alloc hm rfl ti25 hS ?_
        intro w_100 g_101 hS'
        clear hm a; intro a hm
        replace hS : Sep w0 w_100 [Mem.no, Mem.one g0 (.cells ([p0_0, p0_1, .int .i64 x0_cut, .bool x0_dead] : List Value).toArray 58 (0, 0)), Mem.one g_2 (.cells ([.int .i64 x1.Inc, .int .i64 x1.Prom, .int .i64 x1.Inst] : List Value).toArray 28 (0, 0)), Mem.one g_101 (.cells ([.slice none 0 0, .slice none 0 0] : List Value).toArray 25 (0, 0))] Z := hS'
        clear hS'
        refine wpList_nil ?_
        refine x_then_n ⟨(hS.sub (.cons (Mem.le.refl _) (.cons (Mem.le.refl _) (.cons (Mem.le.refl _) (Sub.nil _))))), ?_⟩
        refine h_event 5 [true, true, true, true, true, true, true, false].toArray rfl (by kernel_rfl) rfl ?_
        refine s_call hm rfl Try.call11 rfl (disk_Write.calls K (⟨x0_d_A, x0_d_B⟩ : api_Disk) _ _ x1 (-1) t_85 w0 _ _ _ (Mem.le.refl _) (hS.enter [] (by decide)) (hp0_0.mono (hA.trans (hS.le_zed []))) (hp0_1.mono (hA.trans (hS.le_zed []))) et_85) ?_
        rintro _ w_103 ⟨v_106, v_110, N_104, M_108, M_112, rfl, hS', hr_107, hr_111⟩
        clear hm a; intro a hm
        obtain ⟨N_105, hS'', le_105, ln_105⟩ := hS.call [] (by decide) rfl (l' := []) (ow := [M_108, M_112]) rfl hS'
        replace hS : Sep w0 w_103 [N_105, Mem.one g0 (.cells ([p0_0, p0_1, .int .i64 x0_cut, .bool x0_dead] : List Value).toArray 58 (0, 0)), Mem.one g_2 (.cells ([.int .i64 x1.Inc, .int .i64 x1.Prom, .int .i64 x1.Inst] : List Value).toArray 28 (0, 0)), Mem.one g_101 (.cells ([.slice none 0 0, .slice none 0 0] : List Value).toArray 25 (0, 0)), M_108, M_112] Z := hS''
        clear hS' hS''
        refine wpList_nil ?_
        refine x_then_n ⟨(hS.sub (.cons le_105 (.cons (Mem.le.refl _) (.cons (Mem.le.refl _) (Sub.nil _))))), ?_⟩
        refine h_event 7 [true, true, true, true, true, true, true, true].toArray rfl (by kernel_rfl) rfl ?_
        obtain ⟨w_114, hs', hS'⟩ := hS.store (P := Try.prog) (p := 3) (o := 0) (t := 25) (v := .agg [v_106, v_110].toArray) (vs := [v_106, v_110]) rfl ti25 rfl rfl rfl (by intro u hu; simp only [List.mem_cons, List.not_mem_nil, or_false] at hu; rcases hu with rfl | rfl <;> first | rfl | exact hr_107.one | exact hr_111.one)
        refine s_store hm rfl rfl hs' ?_
        replace hS : Sep w0 w_114 [N_105, Mem.one g0 (.cells ([p0_0, p0_1, .int .i64 x0_cut, .bool x0_dead] : List Value).toArray 58 (0, 0)), Mem.one g_2 (.cells ([.int .i64 x1.Inc, .int .i64 x1.Prom, .int .i64 x1.Inst] : List Value).toArray 28 (0, 0)), Mem.one g_101 (.cells ([v_106, v_110] : List Value).toArray 25 (0, 0)), M_108, M_112] Z := hS'
        clear hs' hS'
        refine wpList_nil ?_
        refine x_then_n ⟨(hS.sub (.cons le_105 (.cons (Mem.le.refl _) (.cons (Mem.le.refl _) (Sub.nil _))))), ?_⟩
        refine h_done (by kernel_rfl) ?_
        replace hm : Fr 64 a [(0, .pointer (some ⟨g0, 0, none⟩)), (3, .pointer (some ⟨g_2, 0, none⟩)), (4, .bool false), (5, .pointer (some ⟨g_101, 0, none⟩))] := hm.keep [0, 3, 4, 5]
        replace hS : Sep w0 w_114 [N_105, Mem.one g0 (.cells ([p0_0, p0_1, .int .i64 x0_cut, .bool x0_dead] : List Value).toArray 58 (0, 0)), Mem.one g_2 (.cells ([.int .i64 x1.Inc, .int .i64 x1.Prom, .int .i64 x1.Inst] : List Value).toArray 28 (0, 0)), Mem.one g_101 (.cells ([v_106, v_110] : List Value).toArray 25 (0, 0)), M_108, M_112] Z := hS
        replace hm : Fr 64 a [(0, .pointer (some ⟨g0, 0, none⟩)), (3, .pointer (some ⟨g_2, 0, none⟩)), (4, .bool false), (5, .pointer (some ⟨g_101, 0, none⟩))] := hm.keep [0, 3, 4, 5]
        exact x_then_n (hJ_j_37 t_85 H _ _ ⟨v_106, v_110, g_101, N_105, M_108, M_112, hm, (Sep.sel hS [0, 1, 2, 3, 4, 5] (by decide)), le_105, hr_107, hr_111⟩)

set_option maxHeartbeats 4000000 in
set_option maxRecDepth 20000 in
theorem keep_Keep_Cut.calls (g0 : Nat) (x0_d_A : List UInt8) (p0_0 : Value) (x0_d_B : List UInt8) (p0_1 : Value) (x0_cut : Int) (x0_dead : Bool) (x1 : Int) (r : (List UInt8) × (List UInt8) × Int × Bool) (w0 w : World) (Z A : Mem) (hA : A.le Z) (hS : Sep w0 w [Mem.one g0 (.cells ([p0_0, p0_1, .int .i64 x0_cut, .bool x0_dead] : List Value).toArray 58 (0, 0))] Z) (hp0_0 : Rd Kd.u8 A p0_0 x0_d_A) (hp0_1 : Rd Kd.u8 A p0_1 x0_d_B)
    (H : keep_Keep_Cut.f x0_d_A x0_d_B x0_cut x0_dead x1 = some r) :
    Calls Try.prog 21 [.pointer (some ⟨g0, 0, none⟩), .int .i64 x1].toArray w (Ret fun v w' => ∃ (u0 : Value) (u1 : Value) (N : Mem), v = .tuple [].toArray ∧ Sep w0 w' [N, Mem.one g0 (.cells ([u0, u1, .int .i64 r.2.2.1, .bool r.2.2.2] : List Value).toArray 58 (0, 0))] Z ∧ Rd Kd.u8 (A.un N) u0 r.1 ∧ Rd Kd.u8 (A.un N) u1 r.2.1) := by
  unfold keep_Keep_Cut.f at H
  refine f_enter _ Try.func21 rfl Try.ntmps21 rfl fun a hm => ?_
  replace hm : Fr 9 a [(0, .pointer (some ⟨g0, 0, none⟩)), (1, .int .i64 x1)] := hm
  replace hS := hS.start
  replace hS : Sep w0 w [Mem.no, Mem.one g0 (.cells ([p0_0, p0_1, .int .i64 x0_cut, .bool x0_dead] : List Value).toArray 58 (0, 0))] Z := hS
  refine wp_region_lit ?_
  refine s_move hm rfl rfl ?_
  clear hm a; intro a hm
  refine s_move hm rfl rfl ?_
  clear hm a; intro a hm
  refine s_max hm rfl rfl rfl ?_
  clear hm a; intro a hm
  refine s_nilCheck hm rfl rfl ?_
  clear hm a; intro a hm
  refine s_fieldAddr hm rfl Try.underlying58 rfl ti3 rfl rfl ?_
  clear hm a; intro a hm
  obtain ⟨w_1, hs', hS'⟩ := hS.store (P := Try.prog) (p := 1) (o := 2) (t := 3) (v := .int .i64 (mx x1 0)) (vs := [.int .i64 (mx x1 0)]) rfl ti3 rfl rfl rfl (by intro u hu; simp only [List.mem_cons, List.not_mem_nil, or_false] at hu; rcases hu with rfl <;> rfl)
  refine s_store hm rfl rfl hs' ?_
  replace hS : Sep w0 w_1 [Mem.no, Mem.one g0 (.cells ([p0_0, p0_1, .int .i64 (mx x1 0), .bool x0_dead] : List Value).toArray 58 (0, 0))] Z := hS'
  clear hs' hS'
  refine wpList_nil ?_
  replace hm : Fr 9 a [] := hm.keep []
  refine f_end ?_
  obtain rfl := Option.some.inj H
  exact f_ret hm (rs := []) rfl .nil ⟨_, rfl, p0_0, p0_1, Mem.no, rfl, (Sep.sel hS [0, 1] (by decide)), (hp0_0.mono (Mem.le_un _ _)), (hp0_1.mono (Mem.le_un _ _))⟩

set_option maxHeartbeats 4000000 in
set_option maxRecDepth 20000 in
theorem keep_Keep_Dead.calls (g0 : Nat) (x0_d_A : List UInt8) (p0_0 : Value) (x0_d_B : List UInt8) (p0_1 : Value) (x0_cut : Int) (x0_dead : Bool) (r : Bool × (List UInt8) × (List UInt8) × Int × Bool) (w0 w : World) (Z A : Mem) (hA : A.le Z) (hS : Sep w0 w [Mem.one g0 (.cells ([p0_0, p0_1, .int .i64 x0_cut, .bool x0_dead] : List Value).toArray 58 (0, 0))] Z) (hp0_0 : Rd Kd.u8 A p0_0 x0_d_A) (hp0_1 : Rd Kd.u8 A p0_1 x0_d_B)
    (H : keep_Keep_Dead.f x0_d_A x0_d_B x0_cut x0_dead = some r) :
    Calls Try.prog 22 [.pointer (some ⟨g0, 0, none⟩)].toArray w (Ret fun v w' => ∃ (u0 : Value) (u1 : Value) (N : Mem), v = .bool r.1 ∧ Sep w0 w' [N, Mem.one g0 (.cells ([u0, u1, .int .i64 r.2.2.2.1, .bool r.2.2.2.2] : List Value).toArray 58 (0, 0))] Z ∧ Rd Kd.u8 (A.un N) u0 r.2.1 ∧ Rd Kd.u8 (A.un N) u1 r.2.2.1) := by
  unfold keep_Keep_Dead.f at H
  refine f_enter _ Try.func22 rfl Try.ntmps22 rfl fun a hm => ?_
  replace hm : Fr 7 a [(0, .pointer (some ⟨g0, 0, none⟩))] := hm
  replace hS := hS.start
  replace hS : Sep w0 w [Mem.no, Mem.one g0 (.cells ([p0_0, p0_1, .int .i64 x0_cut, .bool x0_dead] : List Value).toArray 58 (0, 0))] Z := hS
  refine wp_seq ?_
  refine wp_region_lit ?_
  refine s_assign hm rfl rfl ?_
  clear hm a; intro a hm
  refine wpList_nil ?_
  replace hm : Fr 7 a [(0, .pointer (some ⟨g0, 0, none⟩)), (2, .bool false)] := hm.keep [0, 2]
  refine x_then_n ?_
  refine wp_seq ?_
  refine wp_region_lit ?_
  refine s_move hm rfl rfl ?_
  clear hm a; intro a hm
  refine s_nilCheck hm rfl rfl ?_
  clear hm a; intro a hm
  refine s_fieldAddr hm rfl Try.underlying58 rfl ti4 rfl rfl ?_
  clear hm a; intro a hm
  refine s_load hm rfl rfl (hS.load_one (p := 1) rfl Try.underlying4 rfl rfl) ?_
  clear hm a; intro a hm
  refine s_assign hm rfl rfl ?_
  clear hm a; intro a hm
  refine wpList_nil ?_
  replace hm : Fr 7 a [(2, .bool x0_dead)] := hm.keep [2]
  refine x_then_n ?_
  refine wp_ret ?_
  obtain rfl := Option.some.inj H
  exact f_ret hm (rs := [.tmp 2]) rfl (.tmp rfl .nil) ⟨_, rfl, p0_0, p0_1, Mem.no, rfl, (Sep.sel hS [0, 1] (by decide)), (hp0_0.mono (Mem.le_un _ _)), (hp0_1.mono (Mem.le_un _ _))⟩

set_option maxHeartbeats 4000000 in
set_option maxRecDepth 20000 in
theorem keep_Keep_Record.calls (K : Nat) (g0 : Nat) (x0_d_A : List UInt8) (p0_0 : Value) (x0_d_B : List UInt8) (p0_1 : Value) (x0_cut : Int) (x0_dead : Bool) (r : api_Record × Bool × (List UInt8) × (List UInt8) × Int × Bool) (w0 w : World) (Z A : Mem) (hA : A.le Z) (hS : Sep w0 w [Mem.one g0 (.cells ([p0_0, p0_1, .int .i64 x0_cut, .bool x0_dead] : List Value).toArray 58 (0, 0))] Z) (hp0_0 : Rd Kd.u8 A p0_0 x0_d_A) (hp0_1 : Rd Kd.u8 A p0_1 x0_d_B)
    (H : keep_Keep_Record.f K x0_d_A x0_d_B x0_cut x0_dead = some r) :
    Calls Try.prog 23 [.pointer (some ⟨g0, 0, none⟩)].toArray w (Ret fun v w' => ∃ (u0 : Value) (u1 : Value) (N : Mem), v = .tuple [.agg [.int .i64 r.1.Inc, .int .i64 r.1.Prom, .int .i64 r.1.Inst].toArray, .bool r.2.1].toArray ∧ Sep w0 w' [N, Mem.one g0 (.cells ([u0, u1, .int .i64 r.2.2.2.2.1, .bool r.2.2.2.2.2] : List Value).toArray 58 (0, 0))] Z ∧ Rd Kd.u8 (A.un N) u0 r.2.2.1 ∧ Rd Kd.u8 (A.un N) u1 r.2.2.2.1) := by
  unfold keep_Keep_Record.f at H
  refine f_enter _ Try.func23 rfl Try.ntmps23 rfl fun a hm => ?_
  replace hm : Fr 11 a [(0, .pointer (some ⟨g0, 0, none⟩))] := hm
  replace hS := hS.start
  replace hS : Sep w0 w [Mem.no, Mem.one g0 (.cells ([p0_0, p0_1, .int .i64 x0_cut, .bool x0_dead] : List Value).toArray 58 (0, 0))] Z := hS
  refine wp_seq ?_
  refine wp_region_lit ?_
  refine v_alloc hm rfl ti28 hS ?_
  intro w_1 g_2 hS'
  clear hm a; intro a hm
  replace hS : Sep w0 w_1 [Mem.no, Mem.one g0 (.cells ([p0_0, p0_1, .int .i64 x0_cut, .bool x0_dead] : List Value).toArray 58 (0, 0)), Mem.one g_2 (.cells ([.int .i64 0, .int .i64 0, .int .i64 0] : List Value).toArray 28 (0, 0))] Z := hS'
  clear hS'
  refine s_assign hm rfl rfl ?_
  clear hm a; intro a hm
  refine wpList_nil ?_
  replace hm : Fr 11 a [(0, .pointer (some ⟨g0, 0, none⟩)), (2, .pointer (some ⟨g_2, 0, none⟩)), (3, .bool false)] := hm.keep [0, 2, 3]
  refine x_then_n ?_
  refine wp_seq ?_
  refine wp_region_lit ?_
  refine s_move hm rfl rfl ?_
  clear hm a; intro a hm
  refine s_nilCheck hm rfl rfl ?_
  clear hm a; intro a hm
  refine s_fieldAddr hm rfl Try.underlying58 rfl ti25 rfl rfl ?_
  clear hm a; intro a hm
  refine s_load hm rfl rfl (hS.load_agg (p := 1) (us := [p0_0, p0_1]) rfl Try.underlying25 rfl ti25 rfl rfl) ?_
  clear hm a; intro a hm
  obtain ⟨t_3, et_3, H⟩ := Option.bind_eq_some_iff.1 H
  refine s_call hm rfl Try.call12 rfl (disk_Read.calls K (⟨x0_d_A, x0_d_B⟩ : api_Disk) _ _ t_3 w0 _ _ _ (Mem.le.refl _) (hS.enter [] (by decide)) (hp0_0.mono (hA.trans (hS.le_zed []))) (hp0_1.mono (hA.trans (hS.le_zed []))) et_3) ?_
  rintro _ w_4 ⟨N_5, rfl, hS'⟩
  clear hm a; intro a hm
  obtain ⟨N_6, hS'', le_6, ln_6⟩ := hS.call [] (by decide) rfl (l' := []) (ow := []) rfl hS'
  replace hS : Sep w0 w_4 [N_6, Mem.one g0 (.cells ([p0_0, p0_1, .int .i64 x0_cut, .bool x0_dead] : List Value).toArray 58 (0, 0)), Mem.one g_2 (.cells ([.int .i64 0, .int .i64 0, .int .i64 0] : List Value).toArray 28 (0, 0))] Z := hS''
  clear hS' hS''
  refine s_extract hm rfl rfl rfl ?_
  clear hm a; intro a hm
  refine s_extract hm rfl rfl rfl ?_
  clear hm a; intro a hm
  obtain ⟨w_7, hs', hS'⟩ := hS.store (P := Try.prog) (p := 2) (o := 0) (t := 28) (v := .agg [.int .i64 t_3.1.Inc, .int .i64 t_3.1.Prom, .int .i64 t_3.1.Inst].toArray) (vs := [.int .i64 t_3.1.Inc, .int .i64 t_3.1.Prom, .int .i64 t_3.1.Inst]) rfl ti28 rfl rfl rfl (by intro u hu; simp only [List.mem_cons, List.not_mem_nil, or_false] at hu; rcases hu with rfl | rfl | rfl <;> rfl)
  refine s_store hm rfl rfl hs' ?_
  replace hS : Sep w0 w_7 [N_6, Mem.one g0 (.cells ([p0_0, p0_1, .int .i64 x0_cut, .bool x0_dead] : List Value).toArray 58 (0, 0)), Mem.one g_2 (.cells ([.int .i64 t_3.1.Inc, .int .i64 t_3.1.Prom, .int .i64 t_3.1.Inst] : List Value).toArray 28 (0, 0))] Z := hS'
  clear hs' hS'
  refine s_assign hm rfl rfl ?_
  clear hm a; intro a hm
  refine wpList_nil ?_
  replace hm : Fr 11 a [(2, .pointer (some ⟨g_2, 0, none⟩)), (3, .bool t_3.2)] := hm.keep [2, 3]
  refine x_then_n ?_
  refine wp_ret ?_
  obtain rfl := Option.some.inj H
  exact f_ret hm (rs := [.cell 2 28, .tmp 3]) rfl (.cell rfl (hS.load_agg (p := 2) (us := [.int .i64 t_3.1.Inc, .int .i64 t_3.1.Prom, .int .i64 t_3.1.Inst]) rfl Try.underlying28 rfl ti28 rfl rfl) (.tmp rfl .nil)) ⟨_, rfl, p0_0, p0_1, N_6, rfl, (Sep.sel hS [0, 1] (by decide)), (hp0_0.mono (Mem.le_un _ _)), (hp0_1.mono (Mem.le_un _ _))⟩

set_option maxHeartbeats 4000000 in
set_option maxRecDepth 20000 in
theorem keep_Keep_Disk.calls (g0 : Nat) (x0_d_A : List UInt8) (p0_0 : Value) (x0_d_B : List UInt8) (p0_1 : Value) (x0_cut : Int) (x0_dead : Bool) (r : api_Disk × (List UInt8) × (List UInt8) × Int × Bool) (w0 w : World) (Z A : Mem) (hA : A.le Z) (hS : Sep w0 w [Mem.one g0 (.cells ([p0_0, p0_1, .int .i64 x0_cut, .bool x0_dead] : List Value).toArray 58 (0, 0))] Z) (hp0_0 : Rd Kd.u8 A p0_0 x0_d_A) (hp0_1 : Rd Kd.u8 A p0_1 x0_d_B)
    (H : keep_Keep_Disk.f x0_d_A x0_d_B x0_cut x0_dead = some r) :
    Calls Try.prog 24 [.pointer (some ⟨g0, 0, none⟩)].toArray w (Ret fun v w' => ∃ (u0 : Value) (u1 : Value) (u2 : Value) (u3 : Value) (N : Mem) (M0 : Mem) (M1 : Mem), v = .agg [u0, u1].toArray ∧ Sep w0 w' [N, Mem.one g0 (.cells ([u2, u3, .int .i64 r.2.2.2.1, .bool r.2.2.2.2] : List Value).toArray 58 (0, 0)), M0, M1] Z ∧ Own Kd.u8 5 M0 Mem.no u0 r.1.A ∧ Own Kd.u8 5 M1 Mem.no u1 r.1.B ∧ Rd Kd.u8 (A.un N) u2 r.2.1 ∧ Rd Kd.u8 (A.un N) u3 r.2.2.1) := by
  unfold keep_Keep_Disk.f at H
  refine f_enter _ Try.func24 rfl Try.ntmps24 rfl fun a hm => ?_
  replace hm : Fr 16 a [(0, .pointer (some ⟨g0, 0, none⟩))] := hm
  replace hS := hS.start
  replace hS : Sep w0 w [Mem.no, Mem.one g0 (.cells ([p0_0, p0_1, .int .i64 x0_cut, .bool x0_dead] : List Value).toArray 58 (0, 0))] Z := hS
  refine wp_seq ?_
  refine wp_region_lit ?_
  refine v_alloc hm rfl ti25 hS ?_
  intro w_1 g_2 hS'
  clear hm a; intro a hm
  replace hS : Sep w0 w_1 [Mem.no, Mem.one g0 (.cells ([p0_0, p0_1, .int .i64 x0_cut, .bool x0_dead] : List Value).toArray 58 (0, 0)), Mem.one g_2 (.cells ([.slice none 0 0, .slice none 0 0] : List Value).toArray 25 (0, 0))] Z := hS'
  clear hS'
  refine wpList_nil ?_
  replace hm : Fr 16 a [(0, .pointer (some ⟨g0, 0, none⟩)), (2, .pointer (some ⟨g_2, 0, none⟩))] := hm.keep [0, 2]
  refine x_then_n ?_
  refine c_seq fun KJ_3 hKJ_3 => ?_
  refine h_begin (S := fun w => Sep w0 w [Mem.no, Mem.one g0 (.cells ([p0_0, p0_1, .int .i64 x0_cut, .bool x0_dead] : List Value).toArray 58 (0, 0)), Mem.no] Z) 14 (by kernel_rfl) rfl [false, false, false, false, false, false, false, false, false, false, false, false, false, false].toArray rfl hS fun w_4 hS => ?_
  replace hS : Sep w0 w_4 [Mem.no, Mem.one g0 (.cells ([p0_0, p0_1, .int .i64 x0_cut, .bool x0_dead] : List Value).toArray 58 (0, 0)), Mem.one g_2 (.cells ([.slice none 0 0, .slice none 0 0] : List Value).toArray 25 (0, 0))] Z := hS
  refine h_take 0 [true, false, false, false, false, false, false, false, false, false, false, false, false, false].toArray rfl (by kernel_rfl) (by kernel_rfl) (by kernel_rfl) (fun _ _ _ _ h => h) rfl rfl rfl rfl hm (hS.sub (.cons (Mem.le.refl _) (.cons (Mem.le.refl _) (.cons (Mem.no_le _) (Sub.nil _))))) (v := .pointer (some ⟨g0, 0, none⟩)) (fun w hS => r_move hm rfl) ?_
  clear hm a; intro a hm
  refine h_take 1 [true, true, false, false, false, false, false, false, false, false, false, false, false, false].toArray rfl (by kernel_rfl) (by kernel_rfl) (by kernel_rfl) (fun _ _ _ _ h => h) rfl rfl rfl rfl hm (hS.sub (.cons (Mem.le.refl _) (.cons (Mem.le.refl _) (.cons (Mem.no_le _) (Sub.nil _))))) (v := .pointer (some ⟨g0, 0, none⟩)) (fun w hS => r_nilCheck hm rfl) ?_
  clear hm a; intro a hm
  refine h_take 2 [true, true, true, false, false, false, false, false, false, false, false, false, false, false].toArray rfl (by kernel_rfl) (by kernel_rfl) (by kernel_rfl) (fun _ _ _ _ h => h) rfl rfl rfl rfl hm (hS.sub (.cons (Mem.le.refl _) (.cons (Mem.le.refl _) (.cons (Mem.no_le _) (Sub.nil _))))) (v := .pointer (some ⟨g0, 0, none⟩)) (fun w hS => r_fieldAddr hm Try.underlying58 rfl ti25 rfl rfl rfl) ?_
  clear hm a; intro a hm
  refine h_take 3 [true, true, true, true, false, false, false, false, false, false, false, false, false, false].toArray rfl (by kernel_rfl) (by kernel_rfl) (by kernel_rfl) (fun _ _ _ _ h => h) rfl rfl rfl rfl hm (hS.sub (.cons (Mem.le.refl _) (.cons (Mem.le.refl _) (.cons (Mem.no_le _) (Sub.nil _))))) (v := .pointer (some ⟨g0, 0, none⟩)) (fun w hS => r_fieldAddr hm Try.underlying25 rfl ti23 rfl rfl rfl) ?_
  clear hm a; intro a hm
  refine h_take 4 [true, true, true, true, true, false, false, false, false, false, false, false, false, false].toArray rfl (by kernel_rfl) (by kernel_rfl) (by kernel_rfl) (fun _ _ _ _ h => h) rfl rfl rfl rfl hm (hS.sub (.cons (Mem.le.refl _) (.cons (Mem.le.refl _) (.cons (Mem.no_le _) (Sub.nil _))))) (v := p0_0) (fun w hS => r_load hm rfl (hS.load_one (p := 1) rfl Try.underlying23 rfl rfl)) ?_
  clear hm a; intro a hm
  refine h_take 6 [true, true, true, true, true, false, true, false, false, false, false, false, false, false].toArray rfl (by kernel_rfl) (by kernel_rfl) (by kernel_rfl) (fun _ _ _ _ h => h) rfl rfl rfl rfl hm (hS.sub (.cons (Mem.le.refl _) (.cons (Mem.le.refl _) (.cons (Mem.no_le _) (Sub.nil _))))) (v := .pointer (some ⟨g0, 0, none⟩)) (fun w hS => r_move hm rfl) ?_
  clear hm a; intro a hm
  refine h_take 7 [true, true, true, true, true, false, true, true, false, false, false, false, false, false].toArray rfl (by kernel_rfl) (by kernel_rfl) (by kernel_rfl) (fun _ _ _ _ h => h) rfl rfl rfl rfl hm (hS.sub (.cons (Mem.le.refl _) (.cons (Mem.le.refl _) (.cons (Mem.no_le _) (Sub.nil _))))) (v := .pointer (some ⟨g0, 0, none⟩)) (fun w hS => r_nilCheck hm rfl) ?_
  clear hm a; intro a hm
  refine h_take 8 [true, true, true, true, true, false, true, true, true, false, false, false, false, false].toArray rfl (by kernel_rfl) (by kernel_rfl) (by kernel_rfl) (fun _ _ _ _ h => h) rfl rfl rfl rfl hm (hS.sub (.cons (Mem.le.refl _) (.cons (Mem.le.refl _) (.cons (Mem.no_le _) (Sub.nil _))))) (v := .pointer (some ⟨g0, 0, none⟩)) (fun w hS => r_fieldAddr hm Try.underlying58 rfl ti25 rfl rfl rfl) ?_
  clear hm a; intro a hm
  refine h_take 9 [true, true, true, true, true, false, true, true, true, true, false, false, false, false].toArray rfl (by kernel_rfl) (by kernel_rfl) (by kernel_rfl) (fun _ _ _ _ h => h) rfl rfl rfl rfl hm (hS.sub (.cons (Mem.le.refl _) (.cons (Mem.le.refl _) (.cons (Mem.no_le _) (Sub.nil _))))) (v := .pointer (some ⟨g0, 1, none⟩)) (fun w hS => r_fieldAddr hm Try.underlying25 rfl ti23 rfl rfl rfl) ?_
  clear hm a; intro a hm
  refine h_take 10 [true, true, true, true, true, false, true, true, true, true, true, false, false, false].toArray rfl (by kernel_rfl) (by kernel_rfl) (by kernel_rfl) (fun _ _ _ _ h => h) rfl rfl rfl rfl hm (hS.sub (.cons (Mem.le.refl _) (.cons (Mem.le.refl _) (.cons (Mem.no_le _) (Sub.nil _))))) (v := p0_1) (fun w hS => r_load hm rfl (hS.load_one (p := 1) rfl Try.underlying23 rfl rfl)) ?_
  clear hm a; intro a hm
  refine h_event 5 [true, true, true, true, true, true, true, true, true, true, true, false, false, false].toArray rfl (by kernel_rfl) rfl ?_
  obtain ⟨t_5, et_5, H⟩ := Option.bind_eq_some_iff.1 H
  refine s_call hm rfl Try.call27 rfl (slices_Clone_sbyte_byte.calls x0_d_A _ t_5 w0 _ _ _ (Mem.le.refl _) (hS.enter [] (by decide)) (hp0_0.mono (hA.trans (hS.le_zed []))) et_5) ?_
  rintro v_9 w_6 ⟨_, N_7, M_11, rfl, hS', hr_10⟩
  clear hm a; intro a hm
  obtain ⟨N_8, hS'', le_8, ln_8⟩ := hS.call [] (by decide) rfl (l' := []) (ow := [M_11]) rfl hS'
  replace hS : Sep w0 w_6 [N_8, Mem.one g0 (.cells ([p0_0, p0_1, .int .i64 x0_cut, .bool x0_dead] : List Value).toArray 58 (0, 0)), Mem.one g_2 (.cells ([.slice none 0 0, .slice none 0 0] : List Value).toArray 25 (0, 0)), M_11] Z := hS''
  clear hS' hS''
  refine wpList_nil ?_
  refine x_then_n ⟨(hS.sub (.cons le_8 (.cons (Mem.le.refl _) (.cons (Mem.no_le _) (Sub.nil _))))), ?_⟩
  refine h_event 11 [true, true, true, true, true, true, true, true, true, true, true, true, false, false].toArray rfl (by kernel_rfl) rfl ?_
  obtain ⟨t_13, et_13, H⟩ := Option.bind_eq_some_iff.1 H
  refine s_call hm rfl Try.call27 rfl (slices_Clone_sbyte_byte.calls x0_d_B _ t_13 w0 _ _ _ (Mem.le.refl _) (hS.enter [] (by decide)) (hp0_1.mono (hA.trans (hS.le_zed []))) et_13) ?_
  rintro v_17 w_14 ⟨_, N_15, M_19, rfl, hS', hr_18⟩
  clear hm a; intro a hm
  obtain ⟨N_16, hS'', le_16, ln_16⟩ := hS.call [] (by decide) rfl (l' := []) (ow := [M_19]) rfl hS'
  replace hS : Sep w0 w_14 [N_16, Mem.one g0 (.cells ([p0_0, p0_1, .int .i64 x0_cut, .bool x0_dead] : List Value).toArray 58 (0, 0)), Mem.one g_2 (.cells ([.slice none 0 0, .slice none 0 0] : List Value).toArray 25 (0, 0)), M_11, M_19] Z := hS''
  clear hS' hS''
  refine wpList_nil ?_
  refine x_then_n ⟨(hS.sub (.cons (le_8.trans le_16) (.cons (Mem.le.refl _) (.cons (Mem.no_le _) (Sub.nil _))))), ?_⟩
  refine h_take 12 [true, true, true, true, true, true, true, true, true, true, true, true, true, false].toArray rfl (by kernel_rfl) (by kernel_rfl) (by kernel_rfl) (fun _ _ _ _ h => h) rfl rfl rfl rfl hm (hS.sub (.cons (le_8.trans le_16) (.cons (Mem.le.refl _) (.cons (Mem.no_le _) (Sub.nil _))))) (v := .agg [v_9, v_17].toArray) (fun w hS => r_build hm ti25 pl25 rfl (.cons hr_10.cells (.cons hr_18.cells .nil)) (cs := [v_9, v_17]) rfl) ?_
  clear hm a; intro a hm
  refine h_event 13 [true, true, true, true, true, true, true, true, true, true, true, true, true, true].toArray rfl (by kernel_rfl) rfl ?_
  obtain ⟨w_21, hs', hS'⟩ := hS.store (P := Try.prog) (p := 2) (o := 0) (t := 25) (v := .agg [v_9, v_17].toArray) (vs := [v_9, v_17]) rfl ti25 rfl rfl rfl (by intro u hu; simp only [List.mem_cons, List.not_mem_nil, or_false] at hu; rcases hu with rfl | rfl <;> first | rfl | exact hr_10.one | exact hr_18.one)
  refine s_store hm rfl rfl hs' ?_
  replace hS : Sep w0 w_21 [N_16, Mem.one g0 (.cells ([p0_0, p0_1, .int .i64 x0_cut, .bool x0_dead] : List Value).toArray 58 (0, 0)), Mem.one g_2 (.cells ([v_9, v_17] : List Value).toArray 25 (0, 0)), M_11, M_19] Z := hS'
  clear hs' hS'
  refine wpList_nil ?_
  refine x_then_n ⟨(hS.sub (.cons (le_8.trans le_16) (.cons (Mem.le.refl _) (.cons (Mem.no_le _) (Sub.nil _))))), ?_⟩
  refine h_done (by kernel_rfl) ?_
  replace hm : Fr 16 a [(2, .pointer (some ⟨g_2, 0, none⟩))] := hm.keep [2]
  refine x_then_n (hKJ_3 _ _ ?_)
  refine wp_ret ?_
  obtain rfl := Option.some.inj H
  exact f_ret hm (rs := [.cell 2 25]) rfl (.cell rfl (hS.load_agg (p := 2) (us := [v_9, v_17]) rfl Try.underlying25 rfl ti25 rfl rfl) .nil) ⟨_, rfl, v_9, v_17, p0_0, p0_1, N_16, M_11, M_19, rfl, (Sep.sel hS [0, 1, 3, 4] (by decide)), hr_10, hr_18, (hp0_0.mono (Mem.le_un _ _)), (hp0_1.mono (Mem.le_un _ _))⟩

set_option maxHeartbeats 4000000 in
set_option maxRecDepth 20000 in
theorem hocketlaw21_awake.calls (K : Nat) (r : Unit) (w0 w : World) (Z A : Mem) (hA : A.le Z) (hS : Sep w0 w [] Z)
    (H : hocketlaw21_awake.f K = some r) :
    Calls Try.prog 25 [].toArray w (Ret fun v w' => ∃ (N : Mem), v = .bool true ∧ Sep w0 w' [N] Z) := by
  unfold hocketlaw21_awake.f at H
  refine f_enter _ Try.func25 rfl Try.ntmps25 rfl fun a hm => ?_
  replace hm : Fr 59 a [] := hm
  replace hS := hS.start
  replace hS : Sep w0 w [Mem.no] Z := hS
  refine wp_seq ?_
  refine wp_region_lit ?_
  refine s_assign hm rfl rfl ?_
  clear hm a; intro a hm
  refine wpList_nil ?_
  replace hm : Fr 59 a [(0, .bool false)] := hm.keep [0]
  refine x_then_n ?_
  refine wp_seq ?_
  refine wp_region_lit ?_
  refine s_build hm rfl ti25 pl25 rfl .nil (cs := [.slice none 0 0, .slice none 0 0]) rfl ?_
  clear hm a; intro a hm
  obtain ⟨t_1, et_1, H⟩ := Option.bind_eq_some_iff.1 H
  refine s_call hm rfl Try.call19 rfl (keep_New.calls (⟨([] : List UInt8), ([] : List UInt8)⟩ : api_Disk) _ _ t_1 w0 _ _ _ (Mem.le.refl _) (hS.enter [] (by decide)) (Rd.nil _ _) (Rd.nil _ _) et_1) ?_
  rintro _ w_2 ⟨g_5, v_6, v_8, N_3, rfl, hS', hr_7, hr_9⟩
  clear hm a; intro a hm
  obtain ⟨N_4, hS'', le_4, ln_4⟩ := hS.call [] (by decide) rfl (l' := []) (ow := [Mem.one g_5 (.cells ([v_6, v_8, .int .i64 t_1.2.2.1, .bool t_1.2.2.2] : List Value).toArray 58 (0, 0))]) rfl hS'
  replace hS : Sep w0 w_2 [N_4, Mem.one g_5 (.cells ([v_6, v_8, .int .i64 t_1.2.2.1, .bool t_1.2.2.2] : List Value).toArray 58 (0, 0))] Z := hS''
  clear hS' hS''
  refine s_assign hm rfl rfl ?_
  clear hm a; intro a hm
  refine wpList_nil ?_
  replace hm : Fr 59 a [(0, .bool false), (1, .pointer (some ⟨g_5, 0, none⟩))] := hm.keep [0, 1]
  refine x_then_n ?_
  refine c_seq fun KJ_10 hKJ_10 => ?_
  refine wp_seq ?_
  refine wp_region_lit ?_
  refine s_move hm rfl rfl ?_
  clear hm a; intro a hm
  refine s_ptrNil (b := false) hm rfl Try.underlying40 rfl (.inl ⟨rfl, rfl⟩) ?_
  clear hm a; intro a hm
  refine wpList_nil ?_
  replace hm : Fr 59 a [(0, .bool false), (1, .pointer (some ⟨g_5, 0, none⟩)), (12, .bool false)] := hm.keep [0, 1, 12]
  refine x_then_n ?_
  refine c_cond_f hm rfl rfl ?_
  refine wp_skip ?_
  refine x_then_n (hKJ_10 _ _ ?_)
  refine wp_seq ?_
  refine wp_region_lit ?_
  refine s_move hm rfl rfl ?_
  clear hm a; intro a hm
  obtain ⟨t_11, et_11, H⟩ := Option.bind_eq_some_iff.1 H
  refine s_call hm rfl Try.call23 rfl (keep_Keep_Record.calls K _ t_1.1 _ t_1.2.1 _ t_1.2.2.1 t_1.2.2.2 t_11 w0 _ _ N_4 (hS.new_zed [0]) (hS.enter [0] (by decide)) (hr_7.mono ln_4) (hr_9.mono ln_4) et_11) ?_
  rintro _ w_12 ⟨v_15, v_17, N_13, rfl, hS', hr_16, hr_18⟩
  clear hm a; intro a hm
  obtain ⟨N_14, hS'', le_14, ln_14⟩ := hS.call [0] (by decide) rfl (l' := [Mem.one g_5 (.cells ([v_15, v_17, .int .i64 t_11.2.2.2.2.1, .bool t_11.2.2.2.2.2] : List Value).toArray 58 (0, 0))]) (ow := []) rfl hS'
  replace hS : Sep w0 w_12 [N_14, Mem.one g_5 (.cells ([v_15, v_17, .int .i64 t_11.2.2.2.2.1, .bool t_11.2.2.2.2.2] : List Value).toArray 58 (0, 0))] Z := hS''
  clear hS' hS''
  refine s_move hm rfl rfl ?_
  clear hm a; intro a hm
  refine s_extract hm rfl rfl rfl ?_
  clear hm a; intro a hm
  refine s_extract hm rfl rfl rfl ?_
  clear hm a; intro a hm
  refine v_alloc hm rfl ti28 hS ?_
  intro w_19 g_20 hS'
  clear hm a; intro a hm
  replace hS : Sep w0 w_19 [N_14, Mem.one g_5 (.cells ([v_15, v_17, .int .i64 t_11.2.2.2.2.1, .bool t_11.2.2.2.2.2] : List Value).toArray 58 (0, 0)), Mem.one g_20 (.cells ([.int .i64 0, .int .i64 0, .int .i64 0] : List Value).toArray 28 (0, 0))] Z := hS'
  clear hS'
  obtain ⟨w_21, hs', hS'⟩ := hS.store (P := Try.prog) (p := 2) (o := 0) (t := 28) (v := .agg [.int .i64 t_11.1.Inc, .int .i64 t_11.1.Prom, .int .i64 t_11.1.Inst].toArray) (vs := [.int .i64 t_11.1.Inc, .int .i64 t_11.1.Prom, .int .i64 t_11.1.Inst]) rfl ti28 rfl rfl rfl (by intro u hu; simp only [List.mem_cons, List.not_mem_nil, or_false] at hu; rcases hu with rfl | rfl | rfl <;> rfl)
  refine s_store hm rfl rfl hs' ?_
  replace hS : Sep w0 w_21 [N_14, Mem.one g_5 (.cells ([v_15, v_17, .int .i64 t_11.2.2.2.2.1, .bool t_11.2.2.2.2.2] : List Value).toArray 58 (0, 0)), Mem.one g_20 (.cells ([.int .i64 t_11.1.Inc, .int .i64 t_11.1.Prom, .int .i64 t_11.1.Inst] : List Value).toArray 28 (0, 0))] Z := hS'
  clear hs' hS'
  refine s_assign hm rfl rfl ?_
  clear hm a; intro a hm
  refine wpList_nil ?_
  replace hm : Fr 59 a [(0, .bool false), (1, .pointer (some ⟨g_5, 0, none⟩)), (3, .bool t_11.2.1)] := hm.keep [0, 1, 3]
  refine x_then_n ?_
  refine wp_seq ?_
  refine wp_region_lit ?_
  refine s_move hm rfl rfl ?_
  clear hm a; intro a hm
  refine s_build hm rfl ti28 pl28 rfl (.cons rfl .nil) (cs := [.int .i64 1, .int .i64 0, .int .i64 0]) rfl ?_
  clear hm a; intro a hm
  obtain ⟨t_22, et_22, H⟩ := Option.bind_eq_some_iff.1 H
  refine s_call hm rfl Try.call20 rfl (keep_Keep_Put.calls K _ t_11.2.2.1 _ t_11.2.2.2.1 _ t_11.2.2.2.2.1 t_11.2.2.2.2.2 (⟨1, 0, 0⟩ : api_Record) t_22 w0 _ _ N_14 (hS.new_zed [0]) (hS.enter [0] (by decide)) (hr_16.mono (Mem.un_le le_14 ln_14)) (hr_18.mono (Mem.un_le le_14 ln_14)) et_22) ?_
  rintro _ w_23 ⟨v_26, v_28, N_24, rfl, hS', hr_27, hr_29⟩
  clear hm a; intro a hm
  obtain ⟨N_25, hS'', le_25, ln_25⟩ := hS.call [0] (by decide) rfl (l' := [Mem.one g_5 (.cells ([v_26, v_28, .int .i64 t_22.2.2.2.1, .bool t_22.2.2.2.2] : List Value).toArray 58 (0, 0))]) (ow := []) rfl hS'
  replace hS : Sep w0 w_23 [N_25, Mem.one g_5 (.cells ([v_26, v_28, .int .i64 t_22.2.2.2.1, .bool t_22.2.2.2.2] : List Value).toArray 58 (0, 0)), Mem.one g_20 (.cells ([.int .i64 t_11.1.Inc, .int .i64 t_11.1.Prom, .int .i64 t_11.1.Inst] : List Value).toArray 28 (0, 0))] Z := hS''
  clear hS' hS''
  refine s_assign hm rfl rfl ?_
  clear hm a; intro a hm
  refine wpList_nil ?_
  replace hm : Fr 59 a [(0, .bool false), (1, .pointer (some ⟨g_5, 0, none⟩)), (3, .bool t_11.2.1), (4, .bool t_22.1)] := hm.keep [0, 1, 3, 4]
  refine x_then_n ?_
  refine wp_seq ?_
  refine wp_region_lit ?_
  refine s_move hm rfl rfl ?_
  clear hm a; intro a hm
  obtain ⟨t_30, et_30, H⟩ := Option.bind_eq_some_iff.1 H
  refine s_call hm rfl Try.call21 rfl (keep_Keep_Cut.calls _ t_22.2.1 _ t_22.2.2.1 _ t_22.2.2.2.1 t_22.2.2.2.2 3 t_30 w0 _ _ N_25 (hS.new_zed [0]) (hS.enter [0] (by decide)) (hr_27.mono (Mem.un_le le_25 ln_25)) (hr_29.mono (Mem.un_le le_25 ln_25)) et_30) ?_
  rintro _ w_31 ⟨v_34, v_36, N_32, rfl, hS', hr_35, hr_37⟩
  clear hm a; intro a hm
  obtain ⟨N_33, hS'', le_33, ln_33⟩ := hS.call [0] (by decide) rfl (l' := [Mem.one g_5 (.cells ([v_34, v_36, .int .i64 t_30.2.2.1, .bool t_30.2.2.2] : List Value).toArray 58 (0, 0))]) (ow := []) rfl hS'
  replace hS : Sep w0 w_31 [N_33, Mem.one g_5 (.cells ([v_34, v_36, .int .i64 t_30.2.2.1, .bool t_30.2.2.2] : List Value).toArray 58 (0, 0)), Mem.one g_20 (.cells ([.int .i64 t_11.1.Inc, .int .i64 t_11.1.Prom, .int .i64 t_11.1.Inst] : List Value).toArray 28 (0, 0))] Z := hS''
  clear hS' hS''
  refine wpList_nil ?_
  replace hm : Fr 59 a [(0, .bool false), (1, .pointer (some ⟨g_5, 0, none⟩)), (3, .bool t_11.2.1), (4, .bool t_22.1)] := hm.keep [0, 1, 3, 4]
  refine x_then_n ?_
  refine wp_seq ?_
  refine wp_region_lit ?_
  refine s_move hm rfl rfl ?_
  clear hm a; intro a hm
  refine s_build hm rfl ti28 pl28 rfl (.cons rfl .nil) (cs := [.int .i64 2, .int .i64 0, .int .i64 0]) rfl ?_
  clear hm a; intro a hm
  obtain ⟨t_38, et_38, H⟩ := Option.bind_eq_some_iff.1 H
  refine s_call hm rfl Try.call20 rfl (keep_Keep_Put.calls K _ t_30.1 _ t_30.2.1 _ t_30.2.2.1 t_30.2.2.2 (⟨2, 0, 0⟩ : api_Record) t_38 w0 _ _ N_33 (hS.new_zed [0]) (hS.enter [0] (by decide)) (hr_35.mono (Mem.un_le le_33 ln_33)) (hr_37.mono (Mem.un_le le_33 ln_33)) et_38) ?_
  rintro _ w_39 ⟨v_42, v_44, N_40, rfl, hS', hr_43, hr_45⟩
  clear hm a; intro a hm
  obtain ⟨N_41, hS'', le_41, ln_41⟩ := hS.call [0] (by decide) rfl (l' := [Mem.one g_5 (.cells ([v_42, v_44, .int .i64 t_38.2.2.2.1, .bool t_38.2.2.2.2] : List Value).toArray 58 (0, 0))]) (ow := []) rfl hS'
  replace hS : Sep w0 w_39 [N_41, Mem.one g_5 (.cells ([v_42, v_44, .int .i64 t_38.2.2.2.1, .bool t_38.2.2.2.2] : List Value).toArray 58 (0, 0)), Mem.one g_20 (.cells ([.int .i64 t_11.1.Inc, .int .i64 t_11.1.Prom, .int .i64 t_11.1.Inst] : List Value).toArray 28 (0, 0))] Z := hS''
  clear hS' hS''
  refine s_assign hm rfl rfl ?_
  clear hm a; intro a hm
  refine wpList_nil ?_
  replace hm : Fr 59 a [(0, .bool false), (1, .pointer (some ⟨g_5, 0, none⟩)), (3, .bool t_11.2.1), (4, .bool t_22.1), (5, .bool t_38.1)] := hm.keep [0, 1, 3, 4, 5]
  refine x_then_n ?_
  refine wp_seq ?_
  refine wp_region_lit ?_
  refine s_move hm rfl rfl ?_
  clear hm a; intro a hm
  refine s_build hm rfl ti28 pl28 rfl (.cons rfl .nil) (cs := [.int .i64 3, .int .i64 0, .int .i64 0]) rfl ?_
  clear hm a; intro a hm
  obtain ⟨t_46, et_46, H⟩ := Option.bind_eq_some_iff.1 H
  refine s_call hm rfl Try.call20 rfl (keep_Keep_Put.calls K _ t_38.2.1 _ t_38.2.2.1 _ t_38.2.2.2.1 t_38.2.2.2.2 (⟨3, 0, 0⟩ : api_Record) t_46 w0 _ _ N_41 (hS.new_zed [0]) (hS.enter [0] (by decide)) (hr_43.mono (Mem.un_le le_41 ln_41)) (hr_45.mono (Mem.un_le le_41 ln_41)) et_46) ?_
  rintro _ w_47 ⟨v_50, v_52, N_48, rfl, hS', hr_51, hr_53⟩
  clear hm a; intro a hm
  obtain ⟨N_49, hS'', le_49, ln_49⟩ := hS.call [0] (by decide) rfl (l' := [Mem.one g_5 (.cells ([v_50, v_52, .int .i64 t_46.2.2.2.1, .bool t_46.2.2.2.2] : List Value).toArray 58 (0, 0))]) (ow := []) rfl hS'
  replace hS : Sep w0 w_47 [N_49, Mem.one g_5 (.cells ([v_50, v_52, .int .i64 t_46.2.2.2.1, .bool t_46.2.2.2.2] : List Value).toArray 58 (0, 0)), Mem.one g_20 (.cells ([.int .i64 t_11.1.Inc, .int .i64 t_11.1.Prom, .int .i64 t_11.1.Inst] : List Value).toArray 28 (0, 0))] Z := hS''
  clear hS' hS''
  refine s_assign hm rfl rfl ?_
  clear hm a; intro a hm
  refine wpList_nil ?_
  replace hm : Fr 59 a [(0, .bool false), (1, .pointer (some ⟨g_5, 0, none⟩)), (3, .bool t_11.2.1), (4, .bool t_22.1), (5, .bool t_38.1), (6, .bool t_46.1)] := hm.keep [0, 1, 3, 4, 5, 6]
  refine x_then_n ?_
  refine wp_seq ?_
  refine wp_region_lit ?_
  refine s_move hm rfl rfl ?_
  clear hm a; intro a hm
  obtain ⟨t_54, et_54, H⟩ := Option.bind_eq_some_iff.1 H
  refine s_call hm rfl Try.call23 rfl (keep_Keep_Record.calls K _ t_46.2.1 _ t_46.2.2.1 _ t_46.2.2.2.1 t_46.2.2.2.2 t_54 w0 _ _ N_49 (hS.new_zed [0]) (hS.enter [0] (by decide)) (hr_51.mono (Mem.un_le le_49 ln_49)) (hr_53.mono (Mem.un_le le_49 ln_49)) et_54) ?_
  rintro _ w_55 ⟨v_58, v_60, N_56, rfl, hS', hr_59, hr_61⟩
  clear hm a; intro a hm
  obtain ⟨N_57, hS'', le_57, ln_57⟩ := hS.call [0] (by decide) rfl (l' := [Mem.one g_5 (.cells ([v_58, v_60, .int .i64 t_54.2.2.2.2.1, .bool t_54.2.2.2.2.2] : List Value).toArray 58 (0, 0))]) (ow := []) rfl hS'
  replace hS : Sep w0 w_55 [N_57, Mem.one g_5 (.cells ([v_58, v_60, .int .i64 t_54.2.2.2.2.1, .bool t_54.2.2.2.2.2] : List Value).toArray 58 (0, 0)), Mem.one g_20 (.cells ([.int .i64 t_11.1.Inc, .int .i64 t_11.1.Prom, .int .i64 t_11.1.Inst] : List Value).toArray 28 (0, 0))] Z := hS''
  clear hS' hS''
  refine s_move hm rfl rfl ?_
  clear hm a; intro a hm
  refine s_extract hm rfl rfl rfl ?_
  clear hm a; intro a hm
  refine s_extract hm rfl rfl rfl ?_
  clear hm a; intro a hm
  refine v_alloc hm rfl ti28 hS ?_
  intro w_62 g_63 hS'
  clear hm a; intro a hm
  replace hS : Sep w0 w_62 [N_57, Mem.one g_5 (.cells ([v_58, v_60, .int .i64 t_54.2.2.2.2.1, .bool t_54.2.2.2.2.2] : List Value).toArray 58 (0, 0)), Mem.one g_20 (.cells ([.int .i64 t_11.1.Inc, .int .i64 t_11.1.Prom, .int .i64 t_11.1.Inst] : List Value).toArray 28 (0, 0)), Mem.one g_63 (.cells ([.int .i64 0, .int .i64 0, .int .i64 0] : List Value).toArray 28 (0, 0))] Z := hS'
  clear hS'
  obtain ⟨w_64, hs', hS'⟩ := hS.store (P := Try.prog) (p := 3) (o := 0) (t := 28) (v := .agg [.int .i64 t_54.1.Inc, .int .i64 t_54.1.Prom, .int .i64 t_54.1.Inst].toArray) (vs := [.int .i64 t_54.1.Inc, .int .i64 t_54.1.Prom, .int .i64 t_54.1.Inst]) rfl ti28 rfl rfl rfl (by intro u hu; simp only [List.mem_cons, List.not_mem_nil, or_false] at hu; rcases hu with rfl | rfl | rfl <;> rfl)
  refine s_store hm rfl rfl hs' ?_
  replace hS : Sep w0 w_64 [N_57, Mem.one g_5 (.cells ([v_58, v_60, .int .i64 t_54.2.2.2.2.1, .bool t_54.2.2.2.2.2] : List Value).toArray 58 (0, 0)), Mem.one g_20 (.cells ([.int .i64 t_11.1.Inc, .int .i64 t_11.1.Prom, .int .i64 t_11.1.Inst] : List Value).toArray 28 (0, 0)), Mem.one g_63 (.cells ([.int .i64 t_54.1.Inc, .int .i64 t_54.1.Prom, .int .i64 t_54.1.Inst] : List Value).toArray 28 (0, 0))] Z := hS'
  clear hs' hS'
  refine s_assign hm rfl rfl ?_
  clear hm a; intro a hm
  refine wpList_nil ?_
  replace hm : Fr 59 a [(0, .bool false), (1, .pointer (some ⟨g_5, 0, none⟩)), (3, .bool t_11.2.1), (4, .bool t_22.1), (5, .bool t_38.1), (6, .bool t_46.1), (7, .pointer (some ⟨g_63, 0, none⟩)), (8, .bool t_54.2.1)] := hm.keep [0, 1, 3, 4, 5, 6, 7, 8]
  refine x_then_n ?_
  refine c_seq fun KJ_65 hKJ_65 => ?_
  refine wp_region_lit ?_
  refine s_move hm rfl rfl ?_
  clear hm a; intro a hm
  refine s_not hm rfl rfl ?_
  clear hm a; intro a hm
  refine s_move hm rfl rfl ?_
  clear hm a; intro a hm
  by_cases hc_66 : t_11.2.1 = true
  · rw [if_pos hc_66] at H
    cases H
  · rw [if_neg hc_66] at H
    refine s_on hm rfl rfl (nt (Bool.eq_false_iff.2 hc_66)) ?_
    refine s_move hm rfl rfl ?_
    clear hm a; intro a hm
    refine s_pick_t hm rfl rfl (nt (Bool.eq_false_iff.2 hc_66)) rfl ?_
    clear hm a; intro a hm
    refine s_move hm rfl rfl ?_
    clear hm a; intro a hm
    by_cases hc_67 : t_22.1 = true
    · rw [if_pos hc_67] at H
      refine s_on hm rfl rfl hc_67 ?_
      refine s_move hm rfl rfl ?_
      clear hm a; intro a hm
      refine s_on hm rfl rfl hc_67 ?_
      refine s_not hm rfl rfl ?_
      clear hm a; intro a hm
      refine s_pick_t hm rfl rfl hc_67 rfl ?_
      clear hm a; intro a hm
      refine s_move hm rfl rfl ?_
      clear hm a; intro a hm
      by_cases hc_68 : t_38.1 = true
      · rw [if_pos hc_68] at H
        cases H
      · rw [if_neg hc_68] at H
        refine s_on hm rfl rfl (nt (Bool.eq_false_iff.2 hc_68)) ?_
        refine s_move hm rfl rfl ?_
        clear hm a; intro a hm
        refine s_on hm rfl rfl (nt (Bool.eq_false_iff.2 hc_68)) ?_
        refine s_not hm rfl rfl ?_
        clear hm a; intro a hm
        refine s_pick_t hm rfl rfl (nt (Bool.eq_false_iff.2 hc_68)) rfl ?_
        clear hm a; intro a hm
        refine s_move hm rfl rfl ?_
        clear hm a; intro a hm
        by_cases hc_69 : t_46.1 = true
        · rw [if_pos hc_69] at H
          cases H
        · rw [if_neg hc_69] at H
          refine s_on hm rfl rfl (nt (Bool.eq_false_iff.2 hc_69)) ?_
          refine s_move hm rfl rfl ?_
          clear hm a; intro a hm
          refine s_on hm rfl rfl (nt (Bool.eq_false_iff.2 hc_69)) ?_
          obtain ⟨t_70, et_70, H⟩ := Option.bind_eq_some_iff.1 H
          refine s_call hm rfl Try.call22 rfl (keep_Keep_Dead.calls _ t_54.2.2.1 _ t_54.2.2.2.1 _ t_54.2.2.2.2.1 t_54.2.2.2.2.2 t_70 w0 _ _ N_57 (hS.new_zed [0]) (hS.enter [0] (by decide)) (hr_59.mono (Mem.un_le le_57 ln_57)) (hr_61.mono (Mem.un_le le_57 ln_57)) et_70) ?_
          rintro _ w_71 ⟨v_74, v_76, N_72, rfl, hS', hr_75, hr_77⟩
          clear hm a; intro a hm
          obtain ⟨N_73, hS'', le_73, ln_73⟩ := hS.call [0] (by decide) rfl (l' := [Mem.one g_5 (.cells ([v_74, v_76, .int .i64 t_70.2.2.2.1, .bool t_70.2.2.2.2] : List Value).toArray 58 (0, 0))]) (ow := []) rfl hS'
          replace hS : Sep w0 w_71 [N_73, Mem.one g_5 (.cells ([v_74, v_76, .int .i64 t_70.2.2.2.1, .bool t_70.2.2.2.2] : List Value).toArray 58 (0, 0)), Mem.one g_20 (.cells ([.int .i64 t_11.1.Inc, .int .i64 t_11.1.Prom, .int .i64 t_11.1.Inst] : List Value).toArray 28 (0, 0)), Mem.one g_63 (.cells ([.int .i64 t_54.1.Inc, .int .i64 t_54.1.Prom, .int .i64 t_54.1.Inst] : List Value).toArray 28 (0, 0))] Z := hS''
          clear hS' hS''
          refine s_pick_t hm rfl rfl (nt (Bool.eq_false_iff.2 hc_69)) rfl ?_
          clear hm a; intro a hm
          refine s_move hm rfl rfl ?_
          clear hm a; intro a hm
          by_cases hc_78 : t_70.1 = true
          · rw [if_pos hc_78] at H
            refine s_on hm rfl rfl hc_78 ?_
            refine s_move hm rfl rfl ?_
            clear hm a; intro a hm
            refine s_pick_t hm rfl rfl hc_78 rfl ?_
            clear hm a; intro a hm
            refine s_move hm rfl rfl ?_
            clear hm a; intro a hm
            by_cases hc_79 : t_54.2.1 = true
            · rw [if_pos hc_79] at H
              refine s_on hm rfl rfl hc_79 ?_
              refine s_fieldAddr hm rfl Try.underlying28 rfl ti3 rfl rfl ?_
              clear hm a; intro a hm
              refine s_on hm rfl rfl hc_79 ?_
              refine s_load hm rfl rfl (hS.load_one (p := 3) rfl Try.underlying3 rfl rfl) ?_
              clear hm a; intro a hm
              refine s_on hm rfl rfl hc_79 ?_
              refine s_cmp (b := (t_54.1.Inc == 1)) hm rfl rfl rfl (.inl ⟨rfl, rfl⟩) ?_
              clear hm a; intro a hm
              refine s_pick_t hm rfl rfl hc_79 rfl ?_
              clear hm a; intro a hm
              refine s_assign hm rfl rfl ?_
              clear hm a; intro a hm
              refine wpList_nil ?_
              replace hm : Fr 59 a [(0, .bool (t_54.1.Inc == 1))] := hm.keep [0]
              refine x_then_n (hKJ_65 _ _ ?_)
              refine wp_ret ?_
              by_cases hc_80 : t_54.1.Inc = 1
              · rw [if_pos hc_80] at H
                exact f_ret hm (rs := [.tmp 0]) rfl (.tmp rfl .nil) ⟨_, rfl, N_73, (by rw [(beq_iff_eq.2 hc_80)]; rfl), (Sep.sel hS [0] (by decide))⟩
              · rw [if_neg hc_80] at H
                cases H
            · rw [if_neg hc_79] at H
              cases H
          · rw [if_neg hc_78] at H
            cases H
    · rw [if_neg hc_67] at H
      cases H


end Go.Proofs
