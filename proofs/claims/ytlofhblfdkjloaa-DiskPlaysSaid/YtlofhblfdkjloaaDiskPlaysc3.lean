/- What the calls do: each function once. -/
import Derived.Test.YtlofhblfdkjloaaDiskPlaysc2
namespace Go.Proofs
open Go.Gp
set_option linter.unusedVariables false
set_option maxHeartbeats 4000000 in
set_option maxRecDepth 20000 in
theorem hocketlaw13_DiskPlays.calls (K : Nat) (x0 : api_Disk) (p0_0 : Value) (p0_1 : Value) (x1 : Bool) (x2 : List Int) (p2_2 : Value) (x3 : List Int) (p3_3 : Value) (r : Unit) (w0 w : World) (Z A : Mem) (hA : A.le Z) (hS : Sep w0 w [] Z) (hp0_0 : Rd Kd.u8 A p0_0 x0.A) (hp0_1 : Rd Kd.u8 A p0_1 x0.B) (hp2_2 : Rd (Kd.int .i64) A p2_2 x2) (hp3_3 : Rd (Kd.int .i64) A p3_3 x3)
    (H : hocketlaw13_DiskPlays.f K x0 x1 x2 x3 = some r) :
    Calls Try.prog 6 [.agg [p0_0, p0_1].toArray, .bool x1, p2_2, p3_3].toArray w (Ret fun v w' => ∃ (N : Mem), v = .bool true ∧ Sep w0 w' [N] Z) := by
  unfold hocketlaw13_DiskPlays.f at H
  refine f_enter _ Try.func6 rfl Try.ntmps6 rfl fun a hm => ?_
  replace hm : Fr 153 a [(0, .agg [p0_0, p0_1].toArray), (1, .bool x1), (2, p2_2), (3, p3_3)] := hm
  replace hS := hS.start
  replace hS : Sep w0 w [Mem.no] Z := hS
  refine wp_seq ?_
  refine wp_region_lit ?_
  refine v_box (vs := [p0_0, p0_1]) hm rfl rfl rfl hS ?_
  intro w_1 g_2 hS'
  clear hm a; intro a hm
  replace hS : Sep w0 w_1 [Mem.no, Mem.one g_2 (.cells ([p0_0, p0_1] : List Value).toArray 25 (0, 0))] Z := hS'
  clear hS'
  refine s_assign hm rfl rfl ?_
  clear hm a; intro a hm
  refine wpList_nil ?_
  replace hm : Fr 153 a [(1, .bool x1), (2, p2_2), (3, p3_3), (4, .pointer (some ⟨g_2, 0, none⟩)), (8, .bool false)] := hm.keep [1, 2, 3, 4, 8]
  refine x_then_n ?_
  refine c_seq fun KJ_3 hKJ_3 => ?_
  refine wp_seq ?_
  refine wp_region_lit ?_
  refine s_fieldAddr hm rfl Try.underlying25 rfl ti23 rfl rfl ?_
  clear hm a; intro a hm
  refine s_load hm rfl rfl (hS.load_one (p := 1) rfl Try.underlying23 rfl rfl) ?_
  clear hm a; intro a hm
  refine s_len hm rfl Try.underlying23 rfl hp0_0 ?_
  clear hm a; intro a hm
  refine s_fieldAddr hm rfl Try.underlying25 rfl ti23 rfl rfl ?_
  clear hm a; intro a hm
  refine s_load hm rfl rfl (hS.load_one (p := 1) rfl Try.underlying23 rfl rfl) ?_
  clear hm a; intro a hm
  refine s_len hm rfl Try.underlying23 rfl hp0_1 ?_
  clear hm a; intro a hm
  refine s_arith (r := w64 ((x0.A.length : Int) + (x0.B.length : Int))) hm rfl rfl rfl (.inl ⟨rfl, rfl⟩) ?_
  clear hm a; intro a hm
  refine s_cmp (b := decide ((w64 ((x0.A.length : Int) + (x0.B.length : Int))) > 200)) hm rfl rfl rfl (.inr (.inr (.inr (.inr (.inl ⟨rfl, rfl⟩))))) ?_
  clear hm a; intro a hm
  refine wpList_nil ?_
  replace hm : Fr 153 a [(1, .bool x1), (2, p2_2), (3, p3_3), (4, .pointer (some ⟨g_2, 0, none⟩)), (8, .bool false), (29, .bool (decide ((w64 ((x0.A.length : Int) + (x0.B.length : Int))) > 200)))] := hm.keep [1, 2, 3, 4, 8, 29]
  refine x_then_n ?_
  by_cases hc_4 : (w64 ((x0.A.length : Int) + (x0.B.length : Int))) > 200
  · rw [if_pos hc_4] at H
    refine c_cond_t hm rfl (decide_eq_true hc_4) ?_
    refine wp_seq ?_
    refine wp_region_lit ?_
    obtain ⟨t_5, et_5, H⟩ := Option.bind_eq_some_iff.1 H
    refine s_call hm rfl Try.call13 rfl (hocketlaw13_awake.calls K  t_5 w0 _ _ _ (Mem.le.refl _) (hS.enter [] (by decide))  et_5) ?_
    rintro _ w_6 ⟨N_7, rfl, hS'⟩
    clear hm a; intro a hm
    obtain ⟨N_8, hS'', le_8, ln_8⟩ := hS.call [] (by decide) rfl (l' := []) (ow := []) rfl hS'
    replace hS : Sep w0 w_6 [N_8, Mem.one g_2 (.cells ([p0_0, p0_1] : List Value).toArray 25 (0, 0))] Z := hS''
    clear hS' hS''
    refine s_assign hm rfl rfl ?_
    clear hm a; intro a hm
    refine wpList_nil ?_
    replace hm : Fr 153 a [(1, .bool x1), (2, p2_2), (3, p3_3), (4, .pointer (some ⟨g_2, 0, none⟩)), (8, .bool true)] := hm.keep [1, 2, 3, 4, 8]
    refine x_then_n ?_
    refine wp_ret (x_then_r ?_)
    exact f_ret hm (rs := [.tmp 8]) rfl (.tmp rfl .nil) ⟨_, rfl, N_8, rfl, (Sep.sel hS [0] (by decide))⟩
  · rw [if_neg hc_4] at H
    refine c_cond_f hm rfl (decide_eq_false hc_4) ?_
    refine wp_skip ?_
    refine x_then_n (hKJ_3 _ _ ?_)
    refine wp_seq ?_
    refine wp_region_lit ?_
    refine s_load hm rfl rfl (hS.load_agg (p := 1) (us := [p0_0, p0_1]) rfl Try.underlying25 rfl ti25 rfl rfl) ?_
    clear hm a; intro a hm
    refine v_alloc hm rfl ti25 hS ?_
    intro w_9 g_10 hS'
    clear hm a; intro a hm
    replace hS : Sep w0 w_9 [Mem.no, Mem.one g_2 (.cells ([p0_0, p0_1] : List Value).toArray 25 (0, 0)), Mem.one g_10 (.cells ([.slice none 0 0, .slice none 0 0] : List Value).toArray 25 (0, 0))] Z := hS'
    clear hS'
    obtain ⟨w_11, hs', hS'⟩ := hS.store (P := Try.prog) (p := 2) (o := 0) (t := 25) (v := .agg [p0_0, p0_1].toArray) (vs := [p0_0, p0_1]) rfl ti25 rfl rfl rfl (by intro u hu; simp only [List.mem_cons, List.not_mem_nil, or_false] at hu; rcases hu with rfl | rfl <;> first | rfl | exact hp0_0.one | exact hp0_1.one)
    refine s_store hm rfl rfl hs' ?_
    replace hS : Sep w0 w_11 [Mem.no, Mem.one g_2 (.cells ([p0_0, p0_1] : List Value).toArray 25 (0, 0)), Mem.one g_10 (.cells ([p0_0, p0_1] : List Value).toArray 25 (0, 0))] Z := hS'
    clear hs' hS'
    refine wpList_nil ?_
    replace hm : Fr 153 a [(1, .bool x1), (2, p2_2), (3, p3_3), (8, .bool false), (9, .pointer (some ⟨g_10, 0, none⟩))] := hm.keep [1, 2, 3, 8, 9]
    refine x_then_n ?_
    refine c_seq fun KJ_12 hKJ_12 => ?_
    refine wp_seq ?_
    refine wp_region_lit ?_
    refine s_move hm rfl rfl ?_
    clear hm a; intro a hm
    refine wpList_nil ?_
    replace hm : Fr 153 a [(2, p2_2), (3, p3_3), (8, .bool false), (9, .pointer (some ⟨g_10, 0, none⟩)), (32, .bool x1)] := hm.keep [2, 3, 8, 9, 32]
    refine x_then_n ?_
    have hJ_j_20 : ∀ (x_14 : api_Disk), hocketlaw13_DiskPlays.J1 K x2 x3 x_14 = some r → ∀ (a : Act) (w_19 : World), (∃ (v_15 : Value) (v_17 : Value) (N_13 : Mem), Fr 153 a [(2, p2_2), (3, p3_3), (8, .bool false), (9, .pointer (some ⟨g_10, 0, none⟩))] ∧ Sep w0 w_19 [N_13, Mem.no, Mem.one g_10 (.cells ([v_15, v_17] : List Value).toArray 25 (0, 0))] Z ∧ Mem.no.le N_13 ∧ Rd Kd.u8 A v_15 x_14.A ∧ Rd Kd.u8 A v_17 x_14.B) → KJ_12 a w_19 := by
      clear H hm hS a
      rintro x_14 H a w_19 ⟨v_15, v_17, N_13, hm, hS, le_13, hr_16, hr_18⟩
      unfold hocketlaw13_DiskPlays.J1 at H
      refine hKJ_12 _ _ ?_
      refine wp_seq ?_
      refine wp_region_lit ?_
      refine s_load hm rfl rfl (hS.load_agg (p := 2) (us := [v_15, v_17]) rfl Try.underlying25 rfl ti25 rfl rfl) ?_
      clear hm a; intro a hm
      refine v_alloc hm rfl ti25 hS ?_
      intro w_21 g_22 hS'
      clear hm a; intro a hm
      replace hS : Sep w0 w_21 [N_13, Mem.no, Mem.one g_10 (.cells ([v_15, v_17] : List Value).toArray 25 (0, 0)), Mem.one g_22 (.cells ([.slice none 0 0, .slice none 0 0] : List Value).toArray 25 (0, 0))] Z := hS'
      clear hS'
      obtain ⟨w_23, hs', hS'⟩ := hS.store (P := Try.prog) (p := 3) (o := 0) (t := 25) (v := .agg [v_15, v_17].toArray) (vs := [v_15, v_17]) rfl ti25 rfl rfl rfl (by intro u hu; simp only [List.mem_cons, List.not_mem_nil, or_false] at hu; rcases hu with rfl | rfl <;> first | rfl | exact hr_16.one | exact hr_18.one)
      refine s_store hm rfl rfl hs' ?_
      replace hS : Sep w0 w_23 [N_13, Mem.no, Mem.one g_10 (.cells ([v_15, v_17] : List Value).toArray 25 (0, 0)), Mem.one g_22 (.cells ([v_15, v_17] : List Value).toArray 25 (0, 0))] Z := hS'
      clear hs' hS'
      refine wpList_nil ?_
      replace hm : Fr 153 a [(2, p2_2), (3, p3_3), (8, .bool false), (9, .pointer (some ⟨g_10, 0, none⟩)), (10, .pointer (some ⟨g_22, 0, none⟩))] := hm.keep [2, 3, 8, 9, 10]
      refine x_then_n ?_
      refine c_seq fun KJ_24 hKJ_24 => ?_
      refine wp_seq ?_
      refine wp_region_lit ?_
      refine s_assign hm rfl rfl ?_
      clear hm a; intro a hm
      refine wpList_nil ?_
      replace hm : Fr 153 a [(2, p2_2), (3, p3_3), (8, .bool false), (9, .pointer (some ⟨g_10, 0, none⟩)), (10, .pointer (some ⟨g_22, 0, none⟩)), (11, .int .i64 0)] := hm.keep [2, 3, 8, 9, 10, 11]
      refine x_then_n ?_
      have hJ_j_37 : ∀ (x_26 : api_Disk), ∀ (x_31 : api_Disk), hocketlaw13_DiskPlays.J2 K x_26 x_31 = some r → ∀ (a : Act) (w_36 : World), (∃ (v_27 : Value) (v_29 : Value) (v_32 : Value) (v_34 : Value) (N_25 : Mem), Fr 153 a [(8, .bool false), (9, .pointer (some ⟨g_10, 0, none⟩)), (10, .pointer (some ⟨g_22, 0, none⟩))] ∧ Sep w0 w_36 [N_25, Mem.no, Mem.one g_10 (.cells ([v_27, v_29] : List Value).toArray 25 (0, 0)), Mem.one g_22 (.cells ([v_32, v_34] : List Value).toArray 25 (0, 0))] Z ∧ N_13.le N_25 ∧ Rd Kd.u8 (A.un N_25) v_27 x_26.A ∧ Rd Kd.u8 (A.un N_25) v_29 x_26.B ∧ Rd Kd.u8 (A.un N_25) v_32 x_31.A ∧ Rd Kd.u8 (A.un N_25) v_34 x_31.B) → KJ_24 a w_36 := by
        clear H hm hS a
        rintro x_26 x_31 H a w_36 ⟨v_27, v_29, v_32, v_34, N_25, hm, hS, le_25, hr_28, hr_30, hr_33, hr_35⟩
        unfold hocketlaw13_DiskPlays.J2 at H
        refine hKJ_24 _ _ ?_
        refine wp_seq ?_
        refine wp_region_lit ?_
        refine s_load hm rfl rfl (hS.load_agg (p := 2) (us := [v_27, v_29]) rfl Try.underlying25 rfl ti25 rfl rfl) ?_
        clear hm a; intro a hm
        obtain ⟨t_38, et_38, H⟩ := Option.bind_eq_some_iff.1 H
        refine s_call hm rfl Try.call12 rfl (disk_Read.calls K x_26 _ _ t_38 w0 _ _ _ (Mem.le.refl _) (hS.enter [] (by decide)) (hr_28.mono (Mem.un_le (hA.trans (hS.le_zed [])) ((Mem.le.refl _).trans (hS.new_zed [])))) (hr_30.mono (Mem.un_le (hA.trans (hS.le_zed [])) ((Mem.le.refl _).trans (hS.new_zed [])))) et_38) ?_
        rintro _ w_39 ⟨N_40, rfl, hS'⟩
        clear hm a; intro a hm
        obtain ⟨N_41, hS'', le_41, ln_41⟩ := hS.call [] (by decide) rfl (l' := []) (ow := []) rfl hS'
        replace hS : Sep w0 w_39 [N_41, Mem.no, Mem.one g_10 (.cells ([v_27, v_29] : List Value).toArray 25 (0, 0)), Mem.one g_22 (.cells ([v_32, v_34] : List Value).toArray 25 (0, 0))] Z := hS''
        clear hS' hS''
        refine s_move hm rfl rfl ?_
        clear hm a; intro a hm
        refine s_extract hm rfl rfl rfl ?_
        clear hm a; intro a hm
        refine s_extract hm rfl rfl rfl ?_
        clear hm a; intro a hm
        refine v_alloc hm rfl ti28 hS ?_
        intro w_42 g_43 hS'
        clear hm a; intro a hm
        replace hS : Sep w0 w_42 [N_41, Mem.no, Mem.one g_10 (.cells ([v_27, v_29] : List Value).toArray 25 (0, 0)), Mem.one g_22 (.cells ([v_32, v_34] : List Value).toArray 25 (0, 0)), Mem.one g_43 (.cells ([.int .i64 0, .int .i64 0, .int .i64 0] : List Value).toArray 28 (0, 0))] Z := hS'
        clear hS'
        obtain ⟨w_44, hs', hS'⟩ := hS.store (P := Try.prog) (p := 4) (o := 0) (t := 28) (v := .agg [.int .i64 t_38.1.Inc, .int .i64 t_38.1.Prom, .int .i64 t_38.1.Inst].toArray) (vs := [.int .i64 t_38.1.Inc, .int .i64 t_38.1.Prom, .int .i64 t_38.1.Inst]) rfl ti28 rfl rfl rfl (by intro u hu; simp only [List.mem_cons, List.not_mem_nil, or_false] at hu; rcases hu with rfl | rfl | rfl <;> rfl)
        refine s_store hm rfl rfl hs' ?_
        replace hS : Sep w0 w_44 [N_41, Mem.no, Mem.one g_10 (.cells ([v_27, v_29] : List Value).toArray 25 (0, 0)), Mem.one g_22 (.cells ([v_32, v_34] : List Value).toArray 25 (0, 0)), Mem.one g_43 (.cells ([.int .i64 t_38.1.Inc, .int .i64 t_38.1.Prom, .int .i64 t_38.1.Inst] : List Value).toArray 28 (0, 0))] Z := hS'
        clear hs' hS'
        refine s_assign hm rfl rfl ?_
        clear hm a; intro a hm
        refine wpList_nil ?_
        replace hm : Fr 153 a [(8, .bool false), (10, .pointer (some ⟨g_22, 0, none⟩)), (18, .pointer (some ⟨g_43, 0, none⟩)), (19, .bool t_38.2)] := hm.keep [8, 10, 18, 19]
        refine x_then_n ?_
        refine wp_seq ?_
        refine wp_region_lit ?_
        refine s_load hm rfl rfl (hS.load_agg (p := 3) (us := [v_32, v_34]) rfl Try.underlying25 rfl ti25 rfl rfl) ?_
        clear hm a; intro a hm
        obtain ⟨t_45, et_45, H⟩ := Option.bind_eq_some_iff.1 H
        refine s_call hm rfl Try.call15 rfl (hocketref11_ReadDisk.calls K x_31 _ _ t_45 w0 _ _ _ (Mem.le.refl _) (hS.enter [] (by decide)) (hr_33.mono (Mem.un_le (hA.trans (hS.le_zed [])) (le_41.trans (hS.new_zed [])))) (hr_35.mono (Mem.un_le (hA.trans (hS.le_zed [])) (le_41.trans (hS.new_zed [])))) et_45) ?_
        rintro _ w_46 ⟨N_47, rfl, hS'⟩
        clear hm a; intro a hm
        obtain ⟨N_48, hS'', le_48, ln_48⟩ := hS.call [] (by decide) rfl (l' := []) (ow := []) rfl hS'
        replace hS : Sep w0 w_46 [N_48, Mem.no, Mem.one g_10 (.cells ([v_27, v_29] : List Value).toArray 25 (0, 0)), Mem.one g_22 (.cells ([v_32, v_34] : List Value).toArray 25 (0, 0)), Mem.one g_43 (.cells ([.int .i64 t_38.1.Inc, .int .i64 t_38.1.Prom, .int .i64 t_38.1.Inst] : List Value).toArray 28 (0, 0))] Z := hS''
        clear hS' hS''
        refine s_move hm rfl rfl ?_
        clear hm a; intro a hm
        refine s_extract hm rfl rfl rfl ?_
        clear hm a; intro a hm
        refine s_extract hm rfl rfl rfl ?_
        clear hm a; intro a hm
        refine v_alloc hm rfl ti28 hS ?_
        intro w_49 g_50 hS'
        clear hm a; intro a hm
        replace hS : Sep w0 w_49 [N_48, Mem.no, Mem.one g_10 (.cells ([v_27, v_29] : List Value).toArray 25 (0, 0)), Mem.one g_22 (.cells ([v_32, v_34] : List Value).toArray 25 (0, 0)), Mem.one g_43 (.cells ([.int .i64 t_38.1.Inc, .int .i64 t_38.1.Prom, .int .i64 t_38.1.Inst] : List Value).toArray 28 (0, 0)), Mem.one g_50 (.cells ([.int .i64 0, .int .i64 0, .int .i64 0] : List Value).toArray 28 (0, 0))] Z := hS'
        clear hS'
        obtain ⟨w_51, hs', hS'⟩ := hS.store (P := Try.prog) (p := 5) (o := 0) (t := 28) (v := .agg [.int .i64 t_45.1.Inc, .int .i64 t_45.1.Prom, .int .i64 t_45.1.Inst].toArray) (vs := [.int .i64 t_45.1.Inc, .int .i64 t_45.1.Prom, .int .i64 t_45.1.Inst]) rfl ti28 rfl rfl rfl (by intro u hu; simp only [List.mem_cons, List.not_mem_nil, or_false] at hu; rcases hu with rfl | rfl | rfl <;> rfl)
        refine s_store hm rfl rfl hs' ?_
        replace hS : Sep w0 w_51 [N_48, Mem.no, Mem.one g_10 (.cells ([v_27, v_29] : List Value).toArray 25 (0, 0)), Mem.one g_22 (.cells ([v_32, v_34] : List Value).toArray 25 (0, 0)), Mem.one g_43 (.cells ([.int .i64 t_38.1.Inc, .int .i64 t_38.1.Prom, .int .i64 t_38.1.Inst] : List Value).toArray 28 (0, 0)), Mem.one g_50 (.cells ([.int .i64 t_45.1.Inc, .int .i64 t_45.1.Prom, .int .i64 t_45.1.Inst] : List Value).toArray 28 (0, 0))] Z := hS'
        clear hs' hS'
        refine s_assign hm rfl rfl ?_
        clear hm a; intro a hm
        refine wpList_nil ?_
        replace hm : Fr 153 a [(8, .bool false), (18, .pointer (some ⟨g_43, 0, none⟩)), (19, .bool t_38.2), (20, .pointer (some ⟨g_50, 0, none⟩)), (21, .bool t_45.2)] := hm.keep [8, 18, 19, 20, 21]
        refine x_then_n ?_
        refine c_seq fun KJ_52 hKJ_52 => ?_
        refine wp_region_lit ?_
        refine s_load hm rfl rfl (hS.load_agg (p := 4) (us := [.int .i64 t_38.1.Inc, .int .i64 t_38.1.Prom, .int .i64 t_38.1.Inst]) rfl Try.underlying28 rfl ti28 rfl rfl) ?_
        clear hm a; intro a hm
        refine s_load hm rfl rfl (hS.load_agg (p := 5) (us := [.int .i64 t_45.1.Inc, .int .i64 t_45.1.Prom, .int .i64 t_45.1.Inst]) rfl Try.underlying28 rfl ti28 rfl rfl) ?_
        clear hm a; intro a hm
        refine s_structEq (xs := [t_38.1.Inc, t_38.1.Prom, t_38.1.Inst]) (ys := [t_45.1.Inc, t_45.1.Prom, t_45.1.Inst]) (b := ([t_38.1.Inc, t_38.1.Prom, t_38.1.Inst] == [t_45.1.Inc, t_45.1.Prom, t_45.1.Inst])) hm rfl Try.underlying28 (by kernel_rfl) (by kernel_rfl) ⟨rfl, rfl, Try.underlying3, rfl, rfl, Try.underlying3, rfl, rfl, Try.underlying3, trivial⟩ rfl rfl rfl rfl (.inl ⟨rfl, rfl⟩) ?_
        clear hm a; intro a hm
        refine s_move hm rfl rfl ?_
        clear hm a; intro a hm
        by_cases hc_53 : [t_38.1.Inc, t_38.1.Prom, t_38.1.Inst] = [t_45.1.Inc, t_45.1.Prom, t_45.1.Inst]
        · rw [if_pos hc_53] at H
          refine s_on hm rfl rfl (beq_iff_eq.2 hc_53) ?_
          refine s_move hm rfl rfl ?_
          clear hm a; intro a hm
          refine s_on hm rfl rfl (beq_iff_eq.2 hc_53) ?_
          refine s_move hm rfl rfl ?_
          clear hm a; intro a hm
          refine s_on hm rfl rfl (beq_iff_eq.2 hc_53) ?_
          refine s_beq (b := (t_38.2 == t_45.2)) hm rfl Try.underlying4 rfl rfl (.inl ⟨rfl, rfl⟩) ?_
          clear hm a; intro a hm
          refine s_pick_t hm rfl rfl (beq_iff_eq.2 hc_53) rfl ?_
          clear hm a; intro a hm
          refine s_move hm rfl rfl ?_
          clear hm a; intro a hm
          by_cases hc_54 : t_38.2 = t_45.2
          · rw [if_pos hc_54] at H
            refine s_on hm rfl rfl (beq_iff_eq.2 hc_54) ?_
            obtain ⟨t_55, et_55, H⟩ := Option.bind_eq_some_iff.1 H
            refine s_call hm rfl Try.call13 rfl (hocketlaw13_awake.calls K  t_55 w0 _ _ _ (Mem.le.refl _) (hS.enter [] (by decide))  et_55) ?_
            rintro _ w_56 ⟨N_57, rfl, hS'⟩
            clear hm a; intro a hm
            obtain ⟨N_58, hS'', le_58, ln_58⟩ := hS.call [] (by decide) rfl (l' := []) (ow := []) rfl hS'
            replace hS : Sep w0 w_56 [N_58, Mem.no, Mem.one g_10 (.cells ([v_27, v_29] : List Value).toArray 25 (0, 0)), Mem.one g_22 (.cells ([v_32, v_34] : List Value).toArray 25 (0, 0)), Mem.one g_43 (.cells ([.int .i64 t_38.1.Inc, .int .i64 t_38.1.Prom, .int .i64 t_38.1.Inst] : List Value).toArray 28 (0, 0)), Mem.one g_50 (.cells ([.int .i64 t_45.1.Inc, .int .i64 t_45.1.Prom, .int .i64 t_45.1.Inst] : List Value).toArray 28 (0, 0))] Z := hS''
            clear hS' hS''
            refine s_pick_t hm rfl rfl (beq_iff_eq.2 hc_54) rfl ?_
            clear hm a; intro a hm
            refine s_assign hm rfl rfl ?_
            clear hm a; intro a hm
            refine wpList_nil ?_
            replace hm : Fr 153 a [(8, .bool true)] := hm.keep [8]
            refine x_then_n (hKJ_52 _ _ ?_)
            refine wp_ret ?_
            exact f_ret hm (rs := [.tmp 8]) rfl (.tmp rfl .nil) ⟨_, rfl, N_58, rfl, (Sep.sel hS [0] (by decide))⟩
          · rw [if_neg hc_54] at H
            cases H
        · rw [if_neg hc_53] at H
          cases H
      clear hKJ_24
      replace hS : Sep w0 w_23 [N_13, Mem.no, Mem.one g_10 (.cells ([v_15, v_17] : List Value).toArray 25 (0, 0)), Mem.one g_22 (.cells ([v_15, v_17] : List Value).toArray 25 (0, 0))] Z := hS
      replace hm : Fr 153 a [(2, p2_2), (3, p3_3), (8, .bool false), (9, .pointer (some ⟨g_10, 0, none⟩)), (10, .pointer (some ⟨g_22, 0, none⟩)), (11, .int .i64 0)] := hm.keep [2, 3, 8, 9, 10, 11]
      refine c_block ?_
      refine c_loop (fun k_71 a w_71 => ∃ (x_60 : Int) (x_61 : api_Disk) (x_66 : api_Disk) (v_62 : Value) (v_64 : Value) (v_67 : Value) (v_69 : Value) (N_59 : Mem), hocketlaw13_DiskPlays.L1 K x2 x3 (fun v => hocketlaw13_DiskPlays.J2 K v.1 v.2) k_71 (x_60, x_61, x_66) = some r ∧ Fr 153 a [(2, p2_2), (3, p3_3), (8, .bool false), (9, .pointer (some ⟨g_10, 0, none⟩)), (10, .pointer (some ⟨g_22, 0, none⟩)), (11, .int .i64 x_60)] ∧ Sep w0 w_71 [N_59, Mem.no, Mem.one g_10 (.cells ([v_62, v_64] : List Value).toArray 25 (0, 0)), Mem.one g_22 (.cells ([v_67, v_69] : List Value).toArray 25 (0, 0))] Z ∧ N_13.le N_59 ∧ Rd Kd.u8 (A.un N_59) v_62 x_61.A ∧ Rd Kd.u8 (A.un N_59) v_64 x_61.B ∧ Rd Kd.u8 (A.un N_59) v_67 x_66.A ∧ Rd Kd.u8 (A.un N_59) v_69 x_66.B) K ⟨0, x_14, x_14, v_15, v_17, v_15, v_17, N_13, H, hm, (Sep.sel hS [0, 1000, 2, 3] (by decide)), (Mem.le.refl _), (hr_16.mono (Mem.le_un _ _)), (hr_18.mono (Mem.le_un _ _)), (hr_16.mono (Mem.le_un _ _)), (hr_18.mono (Mem.le_un _ _))⟩ (fun a w h => by obtain ⟨_, _, _, _, _, _, _, _, H, _⟩ := h; cases (show (none : Option (Unit)) = some r from H)) ?_
      clear hm hS a H
      rintro k_71 a w_71 KL_71 hKL_71 ⟨x_60, x_61, x_66, v_62, v_64, v_67, v_69, N_59, H, hm, hS, le_59, hr_63, hr_65, hr_68, hr_70⟩
      replace H : hocketlaw13_DiskPlays.B1 K x2 x3 (fun v => hocketlaw13_DiskPlays.J2 K v.1 v.2) (hocketlaw13_DiskPlays.L1 K x2 x3 (fun v => hocketlaw13_DiskPlays.J2 K v.1 v.2) k_71) x_60 x_61 x_66 = some r := H
      unfold hocketlaw13_DiskPlays.B1 at H
      refine c_seq fun KJ_73 hKJ_73 => ?_
      refine c_seq fun KJ_74 hKJ_74 => ?_
      have hJ_j_78 : ∀ (x_76 : Bool), hocketlaw13_DiskPlays.J3 K x2 x_60 x3 x_61 x_66 (hocketlaw13_DiskPlays.L1 K x2 x3 (fun v => hocketlaw13_DiskPlays.J2 K v.1 v.2) k_71) (fun v => hocketlaw13_DiskPlays.J2 K v.1 v.2) x_76 = some r → ∀ (a : Act) (w_77 : World), (∃ (N_75 : Mem), Fr 153 a [(2, p2_2), (3, p3_3), (8, .bool false), (9, .pointer (some ⟨g_10, 0, none⟩)), (10, .pointer (some ⟨g_22, 0, none⟩)), (11, .int .i64 x_60), (48, .bool x_76)] ∧ Sep w0 w_77 [N_75, Mem.no, Mem.one g_10 (.cells ([v_62, v_64] : List Value).toArray 25 (0, 0)), Mem.one g_22 (.cells ([v_67, v_69] : List Value).toArray 25 (0, 0))] Z ∧ N_59.le N_75) → KJ_74 a w_77 := by
        clear H hm hS a
        rintro x_76 H a w_77 ⟨N_75, hm, hS, le_75⟩
        unfold hocketlaw13_DiskPlays.J3 at H
        refine hKJ_74 _ _ ?_
        by_cases hc_79 : x_76 = true
        · rw [if_pos hc_79] at H
          refine c_cond_t hm rfl hc_79 ?_
          refine wp_skip ?_
          refine x_then_n (hKJ_73 _ _ ?_)
          refine c_seq fun KJ_80 hKJ_80 => ?_
          refine c_block ?_
          refine c_seq fun KJ_81 hKJ_81 => ?_
          refine h_begin (S := fun w => Sep w0 w [N_75, Mem.no, Mem.one g_10 (.cells ([v_62, v_64] : List Value).toArray 25 (0, 0)), Mem.one g_22 (.cells ([v_67, v_69] : List Value).toArray 25 (0, 0))] Z) 19 (by kernel_rfl) rfl [false, false, false, false, false, false, false, false, false, false, false, false, false, false, false, false, false, false, false].toArray rfl hS fun w_82 hS => ?_
          replace hS : Sep w0 w_82 [N_75, Mem.no, Mem.one g_10 (.cells ([v_62, v_64] : List Value).toArray 25 (0, 0)), Mem.one g_22 (.cells ([v_67, v_69] : List Value).toArray 25 (0, 0))] Z := hS
          refine h_take 0 [true, false, false, false, false, false, false, false, false, false, false, false, false, false, false, false, false, false, false].toArray rfl (by kernel_rfl) (by kernel_rfl) (by kernel_rfl) (fun _ _ _ _ h => h) rfl rfl rfl rfl hm (hS.sub (.cons (Mem.le.refl _) (.cons (Mem.no_le _) (.cons (Mem.le.refl _) (.cons (Mem.le.refl _) (Sub.nil _)))))) (v := p2_2) (fun w hS => r_move hm rfl) ?_
          clear hm a; intro a hm
          refine h_take 1 [true, true, false, false, false, false, false, false, false, false, false, false, false, false, false, false, false, false, false].toArray rfl (by kernel_rfl) (by kernel_rfl) (by kernel_rfl) (fun _ _ _ _ h => h) rfl rfl rfl rfl hm (hS.sub (.cons (Mem.le.refl _) (.cons (Mem.no_le _) (.cons (Mem.le.refl _) (.cons (Mem.le.refl _) (Sub.nil _)))))) (v := .int .i64 x_60) (fun w hS => r_move hm rfl) ?_
          clear hm a; intro a hm
          obtain ⟨t_83, et_83, H⟩ := Option.bind_eq_some_iff.1 H
          refine h_takeE 2 [true, true, true, false, false, false, false, false, false, false, false, false, false, false, false, false, false, false, false].toArray rfl (by kernel_rfl) (by kernel_rfl) (by kernel_rfl) (fun _ _ _ _ h => h) rfl rfl rfl rfl hm (hS.sub (.cons (Mem.le.refl _) (.cons (Mem.no_le _) (.cons (Mem.le.refl _) (.cons (Mem.le.refl _) (Sub.nil _)))))) (f := fun ad => .pointer (some ad)) (r_index hm Try.underlying22 ti3 rfl rfl rfl hp2_2 et_83) ?_
          rintro ad_84 ⟨cs_85, hk_86, hc_87⟩
          obtain rfl := (show cs_85 = [.int .i64 t_83] from hk_86)
          clear hm a; intro a hm
          refine h_take 3 [true, true, true, true, false, false, false, false, false, false, false, false, false, false, false, false, false, false, false].toArray rfl (by kernel_rfl) (by kernel_rfl) (by kernel_rfl) (fun _ _ _ _ h => h) rfl rfl rfl rfl hm (hS.sub (.cons (Mem.le.refl _) (.cons (Mem.no_le _) (.cons (Mem.le.refl _) (.cons (Mem.le.refl _) (Sub.nil _)))))) (v := .int .i64 t_83) (fun w hS => r_load hm rfl (el_one (o := 0) (fun j c h => Mem.cell_le (hA.trans hS.old) (hc_87 j c h)) Try.underlying3 rfl rfl)) ?_
          clear hm a; intro a hm
          refine h_take 4 [true, true, true, true, true, false, false, false, false, false, false, false, false, false, false, false, false, false, false].toArray rfl (by kernel_rfl) (by kernel_rfl) (by kernel_rfl) (fun _ _ _ _ h => h) rfl rfl rfl rfl hm (hS.sub (.cons (Mem.le.refl _) (.cons (Mem.no_le _) (.cons (Mem.le.refl _) (.cons (Mem.le.refl _) (Sub.nil _)))))) (v := .int .i64 (shr .i64 t_83 3)) (fun w hS => r_shift (r := shr .i64 t_83 3) hm rfl rfl (by decide) (.inr ⟨rfl, rfl⟩)) ?_
          clear hm a; intro a hm
          refine h_take 5 [true, true, true, true, true, true, false, false, false, false, false, false, false, false, false, false, false, false, false].toArray rfl (by kernel_rfl) (by kernel_rfl) (by kernel_rfl) (fun _ _ _ _ h => h) rfl rfl rfl rfl hm (hS.sub (.cons (Mem.le.refl _) (.cons (Mem.no_le _) (.cons (Mem.le.refl _) (.cons (Mem.le.refl _) (Sub.nil _)))))) (v := p2_2) (fun w hS => r_move hm rfl) ?_
          clear hm a; intro a hm
          refine h_take 6 [true, true, true, true, true, true, true, false, false, false, false, false, false, false, false, false, false, false, false].toArray rfl (by kernel_rfl) (by kernel_rfl) (by kernel_rfl) (fun _ _ _ _ h => h) rfl rfl rfl rfl hm (hS.sub (.cons (Mem.le.refl _) (.cons (Mem.no_le _) (.cons (Mem.le.refl _) (.cons (Mem.le.refl _) (Sub.nil _)))))) (v := .int .i64 x_60) (fun w hS => r_move hm rfl) ?_
          clear hm a; intro a hm
          obtain ⟨t_88, et_88, H⟩ := Option.bind_eq_some_iff.1 H
          refine h_takeE 7 [true, true, true, true, true, true, true, true, false, false, false, false, false, false, false, false, false, false, false].toArray rfl (by kernel_rfl) (by kernel_rfl) (by kernel_rfl) (fun _ _ _ _ h => h) rfl rfl rfl rfl hm (hS.sub (.cons (Mem.le.refl _) (.cons (Mem.no_le _) (.cons (Mem.le.refl _) (.cons (Mem.le.refl _) (Sub.nil _)))))) (f := fun ad => .pointer (some ad)) (r_index hm Try.underlying22 ti3 rfl rfl rfl hp2_2 et_88) ?_
          rintro ad_89 ⟨cs_90, hk_91, hc_92⟩
          obtain rfl := (show cs_90 = [.int .i64 t_88] from hk_91)
          clear hm a; intro a hm
          refine h_take 8 [true, true, true, true, true, true, true, true, true, false, false, false, false, false, false, false, false, false, false].toArray rfl (by kernel_rfl) (by kernel_rfl) (by kernel_rfl) (fun _ _ _ _ h => h) rfl rfl rfl rfl hm (hS.sub (.cons (Mem.le.refl _) (.cons (Mem.no_le _) (.cons (Mem.le.refl _) (.cons (Mem.le.refl _) (Sub.nil _)))))) (v := .int .i64 t_88) (fun w hS => r_load hm rfl (el_one (o := 0) (fun j c h => Mem.cell_le (hA.trans hS.old) (hc_92 j c h)) Try.underlying3 rfl rfl)) ?_
          clear hm a; intro a hm
          refine h_take 9 [true, true, true, true, true, true, true, true, true, true, false, false, false, false, false, false, false, false, false].toArray rfl (by kernel_rfl) (by kernel_rfl) (by kernel_rfl) (fun _ _ _ _ h => h) rfl rfl rfl rfl hm (hS.sub (.cons (Mem.le.refl _) (.cons (Mem.no_le _) (.cons (Mem.le.refl _) (.cons (Mem.le.refl _) (Sub.nil _)))))) (v := p2_2) (fun w hS => r_move hm rfl) ?_
          clear hm a; intro a hm
          refine h_take 10 [true, true, true, true, true, true, true, true, true, true, true, false, false, false, false, false, false, false, false].toArray rfl (by kernel_rfl) (by kernel_rfl) (by kernel_rfl) (fun _ _ _ _ h => h) rfl rfl rfl rfl hm (hS.sub (.cons (Mem.le.refl _) (.cons (Mem.no_le _) (.cons (Mem.le.refl _) (.cons (Mem.le.refl _) (Sub.nil _)))))) (v := .int .i64 x_60) (fun w hS => r_move hm rfl) ?_
          clear hm a; intro a hm
          obtain ⟨t_93, et_93, H⟩ := Option.bind_eq_some_iff.1 H
          refine h_takeE 11 [true, true, true, true, true, true, true, true, true, true, true, true, false, false, false, false, false, false, false].toArray rfl (by kernel_rfl) (by kernel_rfl) (by kernel_rfl) (fun _ _ _ _ h => h) rfl rfl rfl rfl hm (hS.sub (.cons (Mem.le.refl _) (.cons (Mem.no_le _) (.cons (Mem.le.refl _) (.cons (Mem.le.refl _) (Sub.nil _)))))) (f := fun ad => .pointer (some ad)) (r_index hm Try.underlying22 ti3 rfl rfl rfl hp2_2 et_93) ?_
          rintro ad_94 ⟨cs_95, hk_96, hc_97⟩
          obtain rfl := (show cs_95 = [.int .i64 t_93] from hk_96)
          clear hm a; intro a hm
          refine h_take 12 [true, true, true, true, true, true, true, true, true, true, true, true, true, false, false, false, false, false, false].toArray rfl (by kernel_rfl) (by kernel_rfl) (by kernel_rfl) (fun _ _ _ _ h => h) rfl rfl rfl rfl hm (hS.sub (.cons (Mem.le.refl _) (.cons (Mem.no_le _) (.cons (Mem.le.refl _) (.cons (Mem.le.refl _) (Sub.nil _)))))) (v := .int .i64 t_93) (fun w hS => r_load hm rfl (el_one (o := 0) (fun j c h => Mem.cell_le (hA.trans hS.old) (hc_97 j c h)) Try.underlying3 rfl rfl)) ?_
          clear hm a; intro a hm
          refine h_take 13 [true, true, true, true, true, true, true, true, true, true, true, true, true, true, false, false, false, false, false].toArray rfl (by kernel_rfl) (by kernel_rfl) (by kernel_rfl) (fun _ _ _ _ h => h) rfl rfl rfl rfl hm (hS.sub (.cons (Mem.le.refl _) (.cons (Mem.no_le _) (.cons (Mem.le.refl _) (.cons (Mem.le.refl _) (Sub.nil _)))))) (v := .int .i64 x_60) (fun w hS => r_move hm rfl) ?_
          clear hm a; intro a hm
          refine h_take 14 [true, true, true, true, true, true, true, true, true, true, true, true, true, true, true, false, false, false, false].toArray rfl (by kernel_rfl) (by kernel_rfl) (by kernel_rfl) (fun _ _ _ _ h => h) rfl rfl rfl rfl hm (hS.sub (.cons (Mem.le.refl _) (.cons (Mem.no_le _) (.cons (Mem.le.refl _) (.cons (Mem.le.refl _) (Sub.nil _)))))) (v := .int .u64 (wu64 x_60)) (fun w hS => r_conv (wu64 x_60) hm Try.underlying3 Try.underlying26 rfl rfl) ?_
          clear hm a; intro a hm
          refine h_take 15 [true, true, true, true, true, true, true, true, true, true, true, true, true, true, true, true, false, false, false].toArray rfl (by kernel_rfl) (by kernel_rfl) (by kernel_rfl) (fun _ _ _ _ h => h) rfl rfl rfl rfl hm (hS.sub (.cons (Mem.le.refl _) (.cons (Mem.no_le _) (.cons (Mem.le.refl _) (.cons (Mem.le.refl _) (Sub.nil _)))))) (v := .int .i64 (shr .i64 t_93 (wu64 x_60))) (fun w hS => r_shift (r := shr .i64 t_93 (wu64 x_60)) hm rfl rfl (wu64_nn _) (.inr ⟨rfl, rfl⟩)) ?_
          clear hm a; intro a hm
          refine h_take 16 [true, true, true, true, true, true, true, true, true, true, true, true, true, true, true, true, true, false, false].toArray rfl (by kernel_rfl) (by kernel_rfl) (by kernel_rfl) (fun _ _ _ _ h => h) rfl rfl rfl rfl hm (hS.sub (.cons (Mem.le.refl _) (.cons (Mem.no_le _) (.cons (Mem.le.refl _) (.cons (Mem.le.refl _) (Sub.nil _)))))) (v := .agg [.int .i64 (shr .i64 t_83 3), .int .i64 t_88, .int .i64 (shr .i64 t_93 (wu64 x_60))].toArray) (fun w hS => r_build hm ti28 pl28 rfl (.cons rfl (.cons rfl (.cons rfl .nil))) (cs := [.int .i64 (shr .i64 t_83 3), .int .i64 t_88, .int .i64 (shr .i64 t_93 (wu64 x_60))]) rfl) ?_
          clear hm a; intro a hm
          refine h_event 17 [true, true, true, true, true, true, true, true, true, true, true, true, true, true, true, true, true, true, false].toArray rfl (by kernel_rfl) rfl ?_
          refine v_alloc hm rfl ti28 hS ?_
          intro w_98 g_99 hS'
          clear hm a; intro a hm
          replace hS : Sep w0 w_98 [N_75, Mem.no, Mem.one g_10 (.cells ([v_62, v_64] : List Value).toArray 25 (0, 0)), Mem.one g_22 (.cells ([v_67, v_69] : List Value).toArray 25 (0, 0)), Mem.one g_99 (.cells ([.int .i64 0, .int .i64 0, .int .i64 0] : List Value).toArray 28 (0, 0))] Z := hS'
          clear hS'
          refine wpList_nil ?_
          refine x_then_n ⟨(hS.sub (.cons (Mem.le.refl _) (.cons (Mem.no_le _) (.cons (Mem.le.refl _) (.cons (Mem.le.refl _) (Sub.nil _)))))), ?_⟩
          refine h_event 18 [true, true, true, true, true, true, true, true, true, true, true, true, true, true, true, true, true, true, true].toArray rfl (by kernel_rfl) rfl ?_
          obtain ⟨w_100, hs', hS'⟩ := hS.store (P := Try.prog) (p := 4) (o := 0) (t := 28) (v := .agg [.int .i64 (shr .i64 t_83 3), .int .i64 t_88, .int .i64 (shr .i64 t_93 (wu64 x_60))].toArray) (vs := [.int .i64 (shr .i64 t_83 3), .int .i64 t_88, .int .i64 (shr .i64 t_93 (wu64 x_60))]) rfl ti28 rfl rfl rfl (by intro u hu; simp only [List.mem_cons, List.not_mem_nil, or_false] at hu; rcases hu with rfl | rfl | rfl <;> rfl)
          refine s_store hm rfl rfl hs' ?_
          replace hS : Sep w0 w_100 [N_75, Mem.no, Mem.one g_10 (.cells ([v_62, v_64] : List Value).toArray 25 (0, 0)), Mem.one g_22 (.cells ([v_67, v_69] : List Value).toArray 25 (0, 0)), Mem.one g_99 (.cells ([.int .i64 (shr .i64 t_83 3), .int .i64 t_88, .int .i64 (shr .i64 t_93 (wu64 x_60))] : List Value).toArray 28 (0, 0))] Z := hS'
          clear hs' hS'
          refine wpList_nil ?_
          refine x_then_n ⟨(hS.sub (.cons (Mem.le.refl _) (.cons (Mem.no_le _) (.cons (Mem.le.refl _) (.cons (Mem.le.refl _) (Sub.nil _)))))), ?_⟩
          refine h_done (by kernel_rfl) ?_
          replace hm : Fr 153 a [(2, p2_2), (3, p3_3), (8, .bool false), (9, .pointer (some ⟨g_10, 0, none⟩)), (10, .pointer (some ⟨g_22, 0, none⟩)), (11, .int .i64 x_60), (12, .pointer (some ⟨g_99, 0, none⟩))] := hm.keep [2, 3, 8, 9, 10, 11, 12]
          refine x_then_n (hKJ_81 _ _ ?_)
          refine wp_seq ?_
          refine wp_region_lit ?_
          refine s_move hm rfl rfl ?_
          clear hm a; intro a hm
          refine s_move hm rfl rfl ?_
          clear hm a; intro a hm
          obtain ⟨t_101, et_101, H⟩ := Option.bind_eq_some_iff.1 H
          refine v_index hm rfl Try.underlying22 ti3 rfl rfl rfl hp3_3 (hA.trans hS.old) et_101 ?_
          intro ad_102 cs_103 hk_104 hc_105
          obtain rfl := (show cs_103 = [.int .i64 t_101] from hk_104)
          clear hm a; intro a hm
          refine s_load hm rfl rfl (el_one (o := 0) hc_105 Try.underlying3 rfl rfl) ?_
          clear hm a; intro a hm
          refine s_assign hm rfl rfl ?_
          clear hm a; intro a hm
          refine wpList_nil ?_
          replace hm : Fr 153 a [(2, p2_2), (3, p3_3), (8, .bool false), (9, .pointer (some ⟨g_10, 0, none⟩)), (10, .pointer (some ⟨g_22, 0, none⟩)), (11, .int .i64 x_60), (12, .pointer (some ⟨g_99, 0, none⟩)), (13, .int .i64 t_101)] := hm.keep [2, 3, 8, 9, 10, 11, 12, 13]
          refine x_then_n ?_
          refine c_seq fun KJ_106 hKJ_106 => ?_
          refine wp_seq ?_
          refine wp_region_lit ?_
          refine s_move hm rfl rfl ?_
          clear hm a; intro a hm
          refine s_move hm rfl rfl ?_
          clear hm a; intro a hm
          obtain ⟨t_107, et_107, H⟩ := Option.bind_eq_some_iff.1 H
          refine v_index hm rfl Try.underlying22 ti3 rfl rfl rfl hp3_3 (hA.trans hS.old) et_107 ?_
          intro ad_108 cs_109 hk_110 hc_111
          obtain rfl := (show cs_109 = [.int .i64 t_107] from hk_110)
          clear hm a; intro a hm
          refine s_load hm rfl rfl (el_one (o := 0) hc_111 Try.underlying3 rfl rfl) ?_
          clear hm a; intro a hm
          refine s_bits (i := t_107) (j := 3) (r := band .i64 t_107 3) hm rfl rfl rfl (.inl ⟨rfl, rfl⟩) ?_
          clear hm a; intro a hm
          refine s_cmp (b := decide ((band .i64 t_107 3) > 0)) hm rfl rfl rfl (.inr (.inr (.inr (.inr (.inl ⟨rfl, rfl⟩))))) ?_
          clear hm a; intro a hm
          refine wpList_nil ?_
          replace hm : Fr 153 a [(2, p2_2), (3, p3_3), (8, .bool false), (9, .pointer (some ⟨g_10, 0, none⟩)), (10, .pointer (some ⟨g_22, 0, none⟩)), (11, .int .i64 x_60), (12, .pointer (some ⟨g_99, 0, none⟩)), (13, .int .i64 t_101), (77, .bool (decide ((band .i64 t_107 3) > 0)))] := hm.keep [2, 3, 8, 9, 10, 11, 12, 13, 77]
          refine x_then_n ?_
          have hJ_j_115 : ∀ (x_113 : Int), hocketlaw13_DiskPlays.J4 K x_61 x_66 x2 x_60 t_83 t_88 t_93 (hocketlaw13_DiskPlays.L1 K x2 x3 (fun v => hocketlaw13_DiskPlays.J2 K v.1 v.2) k_71) x_113 = some r → ∀ (a : Act) (w_114 : World), (∃ (N_112 : Mem), Fr 153 a [(2, p2_2), (3, p3_3), (8, .bool false), (9, .pointer (some ⟨g_10, 0, none⟩)), (10, .pointer (some ⟨g_22, 0, none⟩)), (11, .int .i64 x_60), (12, .pointer (some ⟨g_99, 0, none⟩)), (13, .int .i64 x_113)] ∧ Sep w0 w_114 [N_112, Mem.no, Mem.one g_10 (.cells ([v_62, v_64] : List Value).toArray 25 (0, 0)), Mem.one g_22 (.cells ([v_67, v_69] : List Value).toArray 25 (0, 0)), Mem.one g_99 (.cells ([.int .i64 (shr .i64 t_83 3), .int .i64 t_88, .int .i64 (shr .i64 t_93 (wu64 x_60))] : List Value).toArray 28 (0, 0))] Z ∧ N_75.le N_112) → KJ_106 a w_114 := by
            clear H hm hS a
            rintro x_113 H a w_114 ⟨N_112, hm, hS, le_112⟩
            unfold hocketlaw13_DiskPlays.J4 at H
            refine hKJ_106 _ _ ?_
            refine wp_seq ?_
            refine wp_region_lit ?_
            refine s_load hm rfl rfl (hS.load_agg (p := 2) (us := [v_62, v_64]) rfl Try.underlying25 rfl ti25 rfl rfl) ?_
            clear hm a; intro a hm
            obtain ⟨t_116, et_116, H⟩ := Option.bind_eq_some_iff.1 H
            refine s_call hm rfl Try.call12 rfl (disk_Read.calls K x_61 _ _ t_116 w0 _ _ _ (Mem.le.refl _) (hS.enter [] (by decide)) (hr_63.mono (Mem.un_le (hA.trans (hS.le_zed [])) ((le_75.trans le_112).trans (hS.new_zed [])))) (hr_65.mono (Mem.un_le (hA.trans (hS.le_zed [])) ((le_75.trans le_112).trans (hS.new_zed [])))) et_116) ?_
            rintro _ w_117 ⟨N_118, rfl, hS'⟩
            clear hm a; intro a hm
            obtain ⟨N_119, hS'', le_119, ln_119⟩ := hS.call [] (by decide) rfl (l' := []) (ow := []) rfl hS'
            replace hS : Sep w0 w_117 [N_119, Mem.no, Mem.one g_10 (.cells ([v_62, v_64] : List Value).toArray 25 (0, 0)), Mem.one g_22 (.cells ([v_67, v_69] : List Value).toArray 25 (0, 0)), Mem.one g_99 (.cells ([.int .i64 (shr .i64 t_83 3), .int .i64 t_88, .int .i64 (shr .i64 t_93 (wu64 x_60))] : List Value).toArray 28 (0, 0))] Z := hS''
            clear hS' hS''
            refine s_move hm rfl rfl ?_
            clear hm a; intro a hm
            refine s_extract hm rfl rfl rfl ?_
            clear hm a; intro a hm
            refine s_extract hm rfl rfl rfl ?_
            clear hm a; intro a hm
            refine v_alloc hm rfl ti28 hS ?_
            intro w_120 g_121 hS'
            clear hm a; intro a hm
            replace hS : Sep w0 w_120 [N_119, Mem.no, Mem.one g_10 (.cells ([v_62, v_64] : List Value).toArray 25 (0, 0)), Mem.one g_22 (.cells ([v_67, v_69] : List Value).toArray 25 (0, 0)), Mem.one g_99 (.cells ([.int .i64 (shr .i64 t_83 3), .int .i64 t_88, .int .i64 (shr .i64 t_93 (wu64 x_60))] : List Value).toArray 28 (0, 0)), Mem.one g_121 (.cells ([.int .i64 0, .int .i64 0, .int .i64 0] : List Value).toArray 28 (0, 0))] Z := hS'
            clear hS'
            obtain ⟨w_122, hs', hS'⟩ := hS.store (P := Try.prog) (p := 5) (o := 0) (t := 28) (v := .agg [.int .i64 t_116.1.Inc, .int .i64 t_116.1.Prom, .int .i64 t_116.1.Inst].toArray) (vs := [.int .i64 t_116.1.Inc, .int .i64 t_116.1.Prom, .int .i64 t_116.1.Inst]) rfl ti28 rfl rfl rfl (by intro u hu; simp only [List.mem_cons, List.not_mem_nil, or_false] at hu; rcases hu with rfl | rfl | rfl <;> rfl)
            refine s_store hm rfl rfl hs' ?_
            replace hS : Sep w0 w_122 [N_119, Mem.no, Mem.one g_10 (.cells ([v_62, v_64] : List Value).toArray 25 (0, 0)), Mem.one g_22 (.cells ([v_67, v_69] : List Value).toArray 25 (0, 0)), Mem.one g_99 (.cells ([.int .i64 (shr .i64 t_83 3), .int .i64 t_88, .int .i64 (shr .i64 t_93 (wu64 x_60))] : List Value).toArray 28 (0, 0)), Mem.one g_121 (.cells ([.int .i64 t_116.1.Inc, .int .i64 t_116.1.Prom, .int .i64 t_116.1.Inst] : List Value).toArray 28 (0, 0))] Z := hS'
            clear hs' hS'
            refine s_assign hm rfl rfl ?_
            clear hm a; intro a hm
            refine wpList_nil ?_
            replace hm : Fr 153 a [(2, p2_2), (3, p3_3), (8, .bool false), (9, .pointer (some ⟨g_10, 0, none⟩)), (10, .pointer (some ⟨g_22, 0, none⟩)), (11, .int .i64 x_60), (12, .pointer (some ⟨g_99, 0, none⟩)), (13, .int .i64 x_113), (14, .pointer (some ⟨g_121, 0, none⟩)), (15, .bool t_116.2)] := hm.keep [2, 3, 8, 9, 10, 11, 12, 13, 14, 15]
            refine x_then_n ?_
            refine wp_seq ?_
            refine wp_region_lit ?_
            refine s_load hm rfl rfl (hS.load_agg (p := 3) (us := [v_67, v_69]) rfl Try.underlying25 rfl ti25 rfl rfl) ?_
            clear hm a; intro a hm
            obtain ⟨t_123, et_123, H⟩ := Option.bind_eq_some_iff.1 H
            refine s_call hm rfl Try.call15 rfl (hocketref11_ReadDisk.calls K x_66 _ _ t_123 w0 _ _ _ (Mem.le.refl _) (hS.enter [] (by decide)) (hr_68.mono (Mem.un_le (hA.trans (hS.le_zed [])) ((le_75.trans (le_112.trans le_119)).trans (hS.new_zed [])))) (hr_70.mono (Mem.un_le (hA.trans (hS.le_zed [])) ((le_75.trans (le_112.trans le_119)).trans (hS.new_zed [])))) et_123) ?_
            rintro _ w_124 ⟨N_125, rfl, hS'⟩
            clear hm a; intro a hm
            obtain ⟨N_126, hS'', le_126, ln_126⟩ := hS.call [] (by decide) rfl (l' := []) (ow := []) rfl hS'
            replace hS : Sep w0 w_124 [N_126, Mem.no, Mem.one g_10 (.cells ([v_62, v_64] : List Value).toArray 25 (0, 0)), Mem.one g_22 (.cells ([v_67, v_69] : List Value).toArray 25 (0, 0)), Mem.one g_99 (.cells ([.int .i64 (shr .i64 t_83 3), .int .i64 t_88, .int .i64 (shr .i64 t_93 (wu64 x_60))] : List Value).toArray 28 (0, 0)), Mem.one g_121 (.cells ([.int .i64 t_116.1.Inc, .int .i64 t_116.1.Prom, .int .i64 t_116.1.Inst] : List Value).toArray 28 (0, 0))] Z := hS''
            clear hS' hS''
            refine s_move hm rfl rfl ?_
            clear hm a; intro a hm
            refine s_extract hm rfl rfl rfl ?_
            clear hm a; intro a hm
            refine s_extract hm rfl rfl rfl ?_
            clear hm a; intro a hm
            refine v_alloc hm rfl ti28 hS ?_
            intro w_127 g_128 hS'
            clear hm a; intro a hm
            replace hS : Sep w0 w_127 [N_126, Mem.no, Mem.one g_10 (.cells ([v_62, v_64] : List Value).toArray 25 (0, 0)), Mem.one g_22 (.cells ([v_67, v_69] : List Value).toArray 25 (0, 0)), Mem.one g_99 (.cells ([.int .i64 (shr .i64 t_83 3), .int .i64 t_88, .int .i64 (shr .i64 t_93 (wu64 x_60))] : List Value).toArray 28 (0, 0)), Mem.one g_121 (.cells ([.int .i64 t_116.1.Inc, .int .i64 t_116.1.Prom, .int .i64 t_116.1.Inst] : List Value).toArray 28 (0, 0)), Mem.one g_128 (.cells ([.int .i64 0, .int .i64 0, .int .i64 0] : List Value).toArray 28 (0, 0))] Z := hS'
            clear hS'
            obtain ⟨w_129, hs', hS'⟩ := hS.store (P := Try.prog) (p := 6) (o := 0) (t := 28) (v := .agg [.int .i64 t_123.1.Inc, .int .i64 t_123.1.Prom, .int .i64 t_123.1.Inst].toArray) (vs := [.int .i64 t_123.1.Inc, .int .i64 t_123.1.Prom, .int .i64 t_123.1.Inst]) rfl ti28 rfl rfl rfl (by intro u hu; simp only [List.mem_cons, List.not_mem_nil, or_false] at hu; rcases hu with rfl | rfl | rfl <;> rfl)
            refine s_store hm rfl rfl hs' ?_
            replace hS : Sep w0 w_129 [N_126, Mem.no, Mem.one g_10 (.cells ([v_62, v_64] : List Value).toArray 25 (0, 0)), Mem.one g_22 (.cells ([v_67, v_69] : List Value).toArray 25 (0, 0)), Mem.one g_99 (.cells ([.int .i64 (shr .i64 t_83 3), .int .i64 t_88, .int .i64 (shr .i64 t_93 (wu64 x_60))] : List Value).toArray 28 (0, 0)), Mem.one g_121 (.cells ([.int .i64 t_116.1.Inc, .int .i64 t_116.1.Prom, .int .i64 t_116.1.Inst] : List Value).toArray 28 (0, 0)), Mem.one g_128 (.cells ([.int .i64 t_123.1.Inc, .int .i64 t_123.1.Prom, .int .i64 t_123.1.Inst] : List Value).toArray 28 (0, 0))] Z := hS'
            clear hs' hS'
            refine s_assign hm rfl rfl ?_
            clear hm a; intro a hm
            refine wpList_nil ?_
            replace hm : Fr 153 a [(2, p2_2), (3, p3_3), (8, .bool false), (9, .pointer (some ⟨g_10, 0, none⟩)), (10, .pointer (some ⟨g_22, 0, none⟩)), (11, .int .i64 x_60), (12, .pointer (some ⟨g_99, 0, none⟩)), (13, .int .i64 x_113), (14, .pointer (some ⟨g_121, 0, none⟩)), (15, .bool t_116.2), (16, .pointer (some ⟨g_128, 0, none⟩)), (17, .bool t_123.2)] := hm.keep [2, 3, 8, 9, 10, 11, 12, 13, 14, 15, 16, 17]
            refine x_then_n ?_
            refine c_seq fun KJ_130 hKJ_130 => ?_
            refine c_seq fun KJ_131 hKJ_131 => ?_
            have hJ_j_135 : ∀ (x_133 : Bool), hocketlaw13_DiskPlays.J5 K x_61 t_83 t_88 t_93 x_60 x_113 x_66 (hocketlaw13_DiskPlays.L1 K x2 x3 (fun v => hocketlaw13_DiskPlays.J2 K v.1 v.2) k_71) x_133 = some r → ∀ (a : Act) (w_134 : World), (∃ (N_132 : Mem), Fr 153 a [(2, p2_2), (3, p3_3), (8, .bool false), (9, .pointer (some ⟨g_10, 0, none⟩)), (10, .pointer (some ⟨g_22, 0, none⟩)), (11, .int .i64 x_60), (12, .pointer (some ⟨g_99, 0, none⟩)), (13, .int .i64 x_113), (119, .bool x_133)] ∧ Sep w0 w_134 [N_132, Mem.no, Mem.one g_10 (.cells ([v_62, v_64] : List Value).toArray 25 (0, 0)), Mem.one g_22 (.cells ([v_67, v_69] : List Value).toArray 25 (0, 0)), Mem.one g_99 (.cells ([.int .i64 (shr .i64 t_83 3), .int .i64 t_88, .int .i64 (shr .i64 t_93 (wu64 x_60))] : List Value).toArray 28 (0, 0)), Mem.no, Mem.no] Z ∧ N_126.le N_132) → KJ_131 a w_134 := by
              clear H hm hS a
              rintro x_133 H a w_134 ⟨N_132, hm, hS, le_132⟩
              unfold hocketlaw13_DiskPlays.J5 at H
              refine hKJ_131 _ _ ?_
              by_cases hc_136 : x_133 = true
              · rw [if_pos hc_136] at H
                cases H
              · rw [if_neg hc_136] at H
                refine c_cond_f hm rfl (Bool.eq_false_iff.2 hc_136) ?_
                refine wp_skip ?_
                refine x_then_n (hKJ_130 _ _ ?_)
                refine c_seq fun KJ_137 hKJ_137 => ?_
                have hJ_j_154 : ∀ (x_139 : api_Disk), ∀ (x_148 : api_Disk), hocketlaw13_DiskPlays.J6 K (hocketlaw13_DiskPlays.L1 K x2 x3 (fun v => hocketlaw13_DiskPlays.J2 K v.1 v.2) k_71) x_60 x_139 x_148 = some r → ∀ (a : Act) (w_153 : World), (∃ (v_142 : Value) (v_146 : Value) (v_149 : Value) (v_151 : Value) (N_138 : Mem) (M_140 : Mem) (M_144 : Mem), Fr 153 a [(2, p2_2), (3, p3_3), (8, .bool false), (9, .pointer (some ⟨g_10, 0, none⟩)), (10, .pointer (some ⟨g_22, 0, none⟩)), (11, .int .i64 x_60)] ∧ Sep w0 w_153 [N_138, Mem.no, Mem.one g_10 (.cells ([v_142, v_146] : List Value).toArray 25 (0, 0)), Mem.one g_22 (.cells ([v_149, v_151] : List Value).toArray 25 (0, 0)), Mem.no, Mem.no, Mem.no, M_140, M_144] Z ∧ N_132.le N_138 ∧ Own Kd.u8 5 M_140 Mem.no v_142 x_139.A ∧ Own Kd.u8 5 M_144 Mem.no v_146 x_139.B ∧ Rd Kd.u8 N_138 v_149 x_148.A ∧ Rd Kd.u8 N_138 v_151 x_148.B) → KJ_137 a w_153 := by
                  clear H hm hS a
                  rintro x_139 x_148 H a w_153 ⟨v_142, v_146, v_149, v_151, N_138, M_140, M_144, hm, hS, le_138, ho_143, ho_147, hr_150, hr_152⟩
                  unfold hocketlaw13_DiskPlays.J6 at H
                  refine hKJ_137 _ _ ?_
                  refine wp_seq ?_
                  refine wp_region_lit ?_
                  refine s_load hm rfl rfl (hS.load_agg (p := 2) (us := [v_142, v_146]) rfl Try.underlying25 rfl ti25 rfl rfl) ?_
                  clear hm a; intro a hm
                  refine s_load hm rfl rfl (hS.load_agg (p := 3) (us := [v_149, v_151]) rfl Try.underlying25 rfl ti25 rfl rfl) ?_
                  clear hm a; intro a hm
                  obtain ⟨t_155, et_155, H⟩ := Option.bind_eq_some_iff.1 H
                  refine s_call hm rfl Try.call18 rfl (hocketref11_SameDisk.calls x_139 _ _ x_148 _ _ t_155 w0 _ _ _ (Mem.le.refl _) (hS.enter [] (by decide)) (ho_143.rd (hS.own_zed [] 6 (by decide)) (Mem.no_le _)) (ho_147.rd (hS.own_zed [] 7 (by decide)) (Mem.no_le _)) (hr_150.mono ((Mem.le.refl _).trans (hS.new_zed []))) (hr_152.mono ((Mem.le.refl _).trans (hS.new_zed []))) et_155) ?_
                  rintro _ w_156 ⟨N_157, rfl, hS'⟩
                  clear hm a; intro a hm
                  obtain ⟨N_158, hS'', le_158, ln_158⟩ := hS.call [] (by decide) rfl (l' := []) (ow := []) rfl hS'
                  replace hS : Sep w0 w_156 [N_158, Mem.no, Mem.one g_10 (.cells ([v_142, v_146] : List Value).toArray 25 (0, 0)), Mem.one g_22 (.cells ([v_149, v_151] : List Value).toArray 25 (0, 0)), Mem.no, Mem.no, Mem.no, M_140, M_144] Z := hS''
                  clear hS' hS''
                  refine s_not hm rfl rfl ?_
                  clear hm a; intro a hm
                  refine wpList_nil ?_
                  replace hm : Fr 153 a [(2, p2_2), (3, p3_3), (8, .bool false), (9, .pointer (some ⟨g_10, 0, none⟩)), (10, .pointer (some ⟨g_22, 0, none⟩)), (11, .int .i64 x_60), (131, .bool (!t_155))] := hm.keep [2, 3, 8, 9, 10, 11, 131]
                  refine x_then_n ?_
                  by_cases hc_159 : t_155 = true
                  · rw [if_pos hc_159] at H
                    refine c_cond_f hm rfl (nf hc_159) ?_
                    refine wp_skip ?_
                    refine x_block_n ?_
                    refine x_then_n (hKJ_80 _ _ ?_)
                    refine wp_region_lit ?_
                    refine s_move hm rfl rfl ?_
                    clear hm a; intro a hm
                    refine s_arith (r := w64 (x_60 + 1)) hm rfl rfl rfl (.inl ⟨rfl, rfl⟩) ?_
                    clear hm a; intro a hm
                    refine s_assign hm rfl rfl ?_
                    clear hm a; intro a hm
                    refine wpList_nil ?_
                    replace hm : Fr 153 a [(2, p2_2), (3, p3_3), (8, .bool false), (9, .pointer (some ⟨g_10, 0, none⟩)), (10, .pointer (some ⟨g_22, 0, none⟩)), (11, .int .i64 (w64 (x_60 + 1)))] := hm.keep [2, 3, 8, 9, 10, 11]
                    refine x_then_n (hKL_71 _ _ ?_)
                    obtain ⟨N_160, hS', le_160, lo_160⟩ := hS.freeze 6 rfl
                    replace hS : Sep w0 w_156 [N_160, Mem.no, Mem.one g_10 (.cells ([v_142, v_146] : List Value).toArray 25 (0, 0)), Mem.one g_22 (.cells ([v_149, v_151] : List Value).toArray 25 (0, 0)), Mem.no, Mem.no, Mem.no, Mem.no, M_144] Z := hS'
                    clear hS'
                    obtain ⟨N_161, hS', le_161, lo_161⟩ := hS.freeze 7 rfl
                    replace hS : Sep w0 w_156 [N_161, Mem.no, Mem.one g_10 (.cells ([v_142, v_146] : List Value).toArray 25 (0, 0)), Mem.one g_22 (.cells ([v_149, v_151] : List Value).toArray 25 (0, 0)), Mem.no, Mem.no, Mem.no, Mem.no, Mem.no] Z := hS'
                    clear hS'
                    replace hS : Sep w0 w_156 [N_161, Mem.no, Mem.one g_10 (.cells ([v_142, v_146] : List Value).toArray 25 (0, 0)), Mem.one g_22 (.cells ([v_149, v_151] : List Value).toArray 25 (0, 0)), Mem.no, Mem.no, Mem.no, Mem.no, Mem.no] Z := hS
                    replace hm : Fr 153 a [(2, p2_2), (3, p3_3), (8, .bool false), (9, .pointer (some ⟨g_10, 0, none⟩)), (10, .pointer (some ⟨g_22, 0, none⟩)), (11, .int .i64 (w64 (x_60 + 1)))] := hm.keep [2, 3, 8, 9, 10, 11]
                    exact ⟨w64 (x_60 + 1), x_139, x_148, v_142, v_146, v_149, v_151, N_161, H, hm, (Sep.sel hS [0, 1000, 2, 3] (by decide)), (le_59.trans (le_75.trans (le_112.trans (le_119.trans (le_126.trans (le_132.trans (le_138.trans (le_158.trans (le_160.trans le_161))))))))), ((ho_143.rd lo_160 (Mem.no_le _)).mono (le_161.trans (hS.sndA hA))), ((ho_147.rd lo_161 (Mem.no_le _)).mono ((Mem.le.refl _).trans (hS.sndA hA))), (hr_150.mono ((le_158.trans (le_160.trans le_161)).trans (hS.sndA hA))), (hr_152.mono ((le_158.trans (le_160.trans le_161)).trans (hS.sndA hA)))⟩
                  · rw [if_neg hc_159] at H
                    cases H
                clear hKJ_137
                refine h_begin (S := fun w => Sep w0 w [N_132, Mem.no, Mem.no, Mem.no, Mem.one g_99 (.cells ([.int .i64 (shr .i64 t_83 3), .int .i64 t_88, .int .i64 (shr .i64 t_93 (wu64 x_60))] : List Value).toArray 28 (0, 0)), Mem.no, Mem.no] Z) 10 (by kernel_rfl) rfl [false, false, false, false, false, false, false, false, false, false].toArray rfl hS fun w_162 hS => ?_
                replace hS : Sep w0 w_162 [N_132, Mem.no, Mem.one g_10 (.cells ([v_62, v_64] : List Value).toArray 25 (0, 0)), Mem.one g_22 (.cells ([v_67, v_69] : List Value).toArray 25 (0, 0)), Mem.one g_99 (.cells ([.int .i64 (shr .i64 t_83 3), .int .i64 t_88, .int .i64 (shr .i64 t_93 (wu64 x_60))] : List Value).toArray 28 (0, 0)), Mem.no, Mem.no] Z := hS
                refine h_take 1 [false, true, false, false, false, false, false, false, false, false].toArray rfl (by kernel_rfl) (by kernel_rfl) (by kernel_rfl) (fun _ _ _ _ h => h) rfl rfl rfl rfl hm (hS.sub (.cons (Mem.le.refl _) (.cons (Mem.no_le _) (.cons (Mem.no_le _) (.cons (Mem.no_le _) (.cons (Mem.le.refl _) (.cons (Mem.no_le _) (.cons (Mem.no_le _) (Sub.nil _))))))))) (v := .agg [.int .i64 (shr .i64 t_83 3), .int .i64 t_88, .int .i64 (shr .i64 t_93 (wu64 x_60))].toArray) (fun w hS => r_load hm rfl (hS.load_agg (p := 4) (us := [.int .i64 (shr .i64 t_83 3), .int .i64 t_88, .int .i64 (shr .i64 t_93 (wu64 x_60))]) rfl Try.underlying28 rfl ti28 rfl rfl)) ?_
                clear hm a; intro a hm
                refine h_take 2 [false, true, true, false, false, false, false, false, false, false].toArray rfl (by kernel_rfl) (by kernel_rfl) (by kernel_rfl) (fun _ _ _ _ h => h) rfl rfl rfl rfl hm (hS.sub (.cons (Mem.le.refl _) (.cons (Mem.no_le _) (.cons (Mem.no_le _) (.cons (Mem.no_le _) (.cons (Mem.le.refl _) (.cons (Mem.no_le _) (.cons (Mem.no_le _) (Sub.nil _))))))))) (v := .int .i64 x_113) (fun w hS => r_move hm rfl) ?_
                clear hm a; intro a hm
                refine h_take 5 [false, true, true, false, false, true, false, false, false, false].toArray rfl (by kernel_rfl) (by kernel_rfl) (by kernel_rfl) (fun _ _ _ _ h => h) rfl rfl rfl rfl hm (hS.sub (.cons (Mem.le.refl _) (.cons (Mem.no_le _) (.cons (Mem.no_le _) (.cons (Mem.no_le _) (.cons (Mem.le.refl _) (.cons (Mem.no_le _) (.cons (Mem.no_le _) (Sub.nil _))))))))) (v := .agg [.int .i64 (shr .i64 t_83 3), .int .i64 t_88, .int .i64 (shr .i64 t_93 (wu64 x_60))].toArray) (fun w hS => r_load hm rfl (hS.load_agg (p := 4) (us := [.int .i64 (shr .i64 t_83 3), .int .i64 t_88, .int .i64 (shr .i64 t_93 (wu64 x_60))]) rfl Try.underlying28 rfl ti28 rfl rfl)) ?_
                clear hm a; intro a hm
                refine h_take 6 [false, true, true, false, false, true, true, false, false, false].toArray rfl (by kernel_rfl) (by kernel_rfl) (by kernel_rfl) (fun _ _ _ _ h => h) rfl rfl rfl rfl hm (hS.sub (.cons (Mem.le.refl _) (.cons (Mem.no_le _) (.cons (Mem.no_le _) (.cons (Mem.no_le _) (.cons (Mem.le.refl _) (.cons (Mem.no_le _) (.cons (Mem.no_le _) (Sub.nil _))))))))) (v := .int .i64 x_113) (fun w hS => r_move hm rfl) ?_
                clear hm a; intro a hm
                obtain ⟨t_163, et_163, H⟩ := Option.bind_eq_some_iff.1 H
                obtain ⟨t_175, et_175, H⟩ := Option.bind_eq_some_iff.1 H
                refine h_events [0, 4] (by kernel_rfl) (by simp) ?_
                intro i hi; simp only [List.mem_cons, List.not_mem_nil, or_false] at hi; rcases hi with rfl | rfl
                · refine ⟨_, [true, true, true, false, false, true, true, false, false, false].toArray, rfl, rfl, ?_⟩
                  refine s_load hm rfl rfl (hS.load_agg (p := 2) (us := [v_62, v_64]) rfl Try.underlying25 rfl ti25 rfl rfl) ?_
                  clear hm a; intro a hm
                  refine wpList_nil ?_
                  refine x_then_n ⟨(hS.sub (.cons (Mem.le.refl _) (.cons (Mem.no_le _) (.cons (Mem.no_le _) (.cons (Mem.no_le _) (.cons (Mem.le.refl _) (.cons (Mem.no_le _) (.cons (Mem.no_le _) (Sub.nil _))))))))), ?_⟩
                  refine h_events [3, 4] (by kernel_rfl) (by simp) ?_
                  intro i hi; simp only [List.mem_cons, List.not_mem_nil, or_false] at hi; rcases hi with rfl | rfl
                  · refine ⟨_, [true, true, true, true, false, true, true, false, false, false].toArray, rfl, rfl, ?_⟩
                    refine s_call hm rfl Try.call11 rfl (disk_Write.calls K x_61 _ _ (⟨shr .i64 t_83 3, t_88, shr .i64 t_93 (wu64 x_60)⟩ : api_Record) x_113 t_163 w0 _ _ _ (Mem.le.refl _) (hS.enter [] (by decide)) (hr_63.mono (Mem.un_le (hA.trans (hS.le_zed [])) ((le_75.trans (le_112.trans (le_119.trans (le_126.trans le_132)))).trans (hS.new_zed [])))) (hr_65.mono (Mem.un_le (hA.trans (hS.le_zed [])) ((le_75.trans (le_112.trans (le_119.trans (le_126.trans le_132)))).trans (hS.new_zed [])))) et_163) ?_
                    rintro _ w_164 ⟨v_167, v_171, N_165, M_169, M_173, rfl, hS', hr_168, hr_172⟩
                    clear hm a; intro a hm
                    obtain ⟨N_166, hS'', le_166, ln_166⟩ := hS.call [] (by decide) rfl (l' := []) (ow := [M_169, M_173]) rfl hS'
                    replace hS : Sep w0 w_164 [N_166, Mem.no, Mem.one g_10 (.cells ([v_62, v_64] : List Value).toArray 25 (0, 0)), Mem.one g_22 (.cells ([v_67, v_69] : List Value).toArray 25 (0, 0)), Mem.one g_99 (.cells ([.int .i64 (shr .i64 t_83 3), .int .i64 t_88, .int .i64 (shr .i64 t_93 (wu64 x_60))] : List Value).toArray 28 (0, 0)), Mem.no, Mem.no, M_169, M_173] Z := hS''
                    clear hS' hS''
                    refine wpList_nil ?_
                    refine x_then_n ⟨(hS.sub (.cons le_166 (.cons (Mem.no_le _) (.cons (Mem.no_le _) (.cons (Mem.no_le _) (.cons (Mem.le.refl _) (.cons (Mem.no_le _) (.cons (Mem.no_le _) (Sub.nil _))))))))), ?_⟩
                    refine h_event 4 [true, true, true, true, true, true, true, false, false, false].toArray rfl (by kernel_rfl) rfl ?_
                    refine s_load hm rfl rfl (hS.load_agg (p := 3) (us := [v_67, v_69]) rfl Try.underlying25 rfl ti25 rfl rfl) ?_
                    clear hm a; intro a hm
                    refine wpList_nil ?_
                    refine x_then_n ⟨(hS.sub (.cons le_166 (.cons (Mem.no_le _) (.cons (Mem.no_le _) (.cons (Mem.no_le _) (.cons (Mem.le.refl _) (.cons (Mem.no_le _) (.cons (Mem.no_le _) (Sub.nil _))))))))), ?_⟩
                    refine h_event 7 [true, true, true, true, true, true, true, true, false, false].toArray rfl (by kernel_rfl) rfl ?_
                    refine s_call hm rfl Try.call17 rfl (hocketref11_WriteDisk.calls K x_66 _ _ (⟨shr .i64 t_83 3, t_88, shr .i64 t_93 (wu64 x_60)⟩ : api_Record) x_113 t_175 w0 _ _ _ (Mem.le.refl _) (hS.enter [] (by decide)) (hr_68.mono (Mem.un_le (hA.trans (hS.le_zed [])) ((le_75.trans (le_112.trans (le_119.trans (le_126.trans (le_132.trans le_166))))).trans (hS.new_zed [])))) (hr_70.mono (Mem.un_le (hA.trans (hS.le_zed [])) ((le_75.trans (le_112.trans (le_119.trans (le_126.trans (le_132.trans le_166))))).trans (hS.new_zed [])))) et_175) ?_
                    rintro _ w_176 ⟨v_179, v_181, N_177, rfl, hS', hr_180, hr_182⟩
                    clear hm a; intro a hm
                    obtain ⟨N_178, hS'', le_178, ln_178⟩ := hS.call [] (by decide) rfl (l' := []) (ow := []) rfl hS'
                    replace hS : Sep w0 w_176 [N_178, Mem.no, Mem.one g_10 (.cells ([v_62, v_64] : List Value).toArray 25 (0, 0)), Mem.one g_22 (.cells ([v_67, v_69] : List Value).toArray 25 (0, 0)), Mem.one g_99 (.cells ([.int .i64 (shr .i64 t_83 3), .int .i64 t_88, .int .i64 (shr .i64 t_93 (wu64 x_60))] : List Value).toArray 28 (0, 0)), Mem.no, Mem.no, M_169, M_173] Z := hS''
                    clear hS' hS''
                    refine wpList_nil ?_
                    refine x_then_n ⟨(hS.sub (.cons (le_166.trans le_178) (.cons (Mem.no_le _) (.cons (Mem.no_le _) (.cons (Mem.no_le _) (.cons (Mem.le.refl _) (.cons (Mem.no_le _) (.cons (Mem.no_le _) (Sub.nil _))))))))), ?_⟩
                    refine h_event 8 [true, true, true, true, true, true, true, true, true, false].toArray rfl (by kernel_rfl) rfl ?_
                    obtain ⟨w_183, hs', hS'⟩ := hS.store (P := Try.prog) (p := 2) (o := 0) (t := 25) (v := .agg [v_167, v_171].toArray) (vs := [v_167, v_171]) rfl ti25 rfl rfl rfl (by intro u hu; simp only [List.mem_cons, List.not_mem_nil, or_false] at hu; rcases hu with rfl | rfl <;> first | rfl | exact hr_168.one | exact hr_172.one)
                    refine s_store hm rfl rfl hs' ?_
                    replace hS : Sep w0 w_183 [N_178, Mem.no, Mem.one g_10 (.cells ([v_167, v_171] : List Value).toArray 25 (0, 0)), Mem.one g_22 (.cells ([v_67, v_69] : List Value).toArray 25 (0, 0)), Mem.one g_99 (.cells ([.int .i64 (shr .i64 t_83 3), .int .i64 t_88, .int .i64 (shr .i64 t_93 (wu64 x_60))] : List Value).toArray 28 (0, 0)), Mem.no, Mem.no, M_169, M_173] Z := hS'
                    clear hs' hS'
                    refine wpList_nil ?_
                    refine x_then_n ⟨(hS.sub (.cons (le_166.trans le_178) (.cons (Mem.no_le _) (.cons (Mem.no_le _) (.cons (Mem.no_le _) (.cons (Mem.le.refl _) (.cons (Mem.no_le _) (.cons (Mem.no_le _) (Sub.nil _))))))))), ?_⟩
                    refine h_event 9 [true, true, true, true, true, true, true, true, true, true].toArray rfl (by kernel_rfl) rfl ?_
                    obtain ⟨w_184, hs', hS'⟩ := hS.store (P := Try.prog) (p := 3) (o := 0) (t := 25) (v := .agg [v_179, v_181].toArray) (vs := [v_179, v_181]) rfl ti25 rfl rfl rfl (by intro u hu; simp only [List.mem_cons, List.not_mem_nil, or_false] at hu; rcases hu with rfl | rfl <;> first | rfl | exact (hr_180.mono ln_178).one | exact (hr_182.mono ln_178).one)
                    refine s_store hm rfl rfl hs' ?_
                    replace hS : Sep w0 w_184 [N_178, Mem.no, Mem.one g_10 (.cells ([v_167, v_171] : List Value).toArray 25 (0, 0)), Mem.one g_22 (.cells ([v_179, v_181] : List Value).toArray 25 (0, 0)), Mem.one g_99 (.cells ([.int .i64 (shr .i64 t_83 3), .int .i64 t_88, .int .i64 (shr .i64 t_93 (wu64 x_60))] : List Value).toArray 28 (0, 0)), Mem.no, Mem.no, M_169, M_173] Z := hS'
                    clear hs' hS'
                    refine wpList_nil ?_
                    refine x_then_n ⟨(hS.sub (.cons (le_166.trans le_178) (.cons (Mem.no_le _) (.cons (Mem.no_le _) (.cons (Mem.no_le _) (.cons (Mem.le.refl _) (.cons (Mem.no_le _) (.cons (Mem.no_le _) (Sub.nil _))))))))), ?_⟩
                    refine h_done (by kernel_rfl) ?_
                    replace hm : Fr 153 a [(2, p2_2), (3, p3_3), (8, .bool false), (9, .pointer (some ⟨g_10, 0, none⟩)), (10, .pointer (some ⟨g_22, 0, none⟩)), (11, .int .i64 x_60)] := hm.keep [2, 3, 8, 9, 10, 11]
                    replace hS : Sep w0 w_184 [N_178, Mem.no, Mem.one g_10 (.cells ([v_167, v_171] : List Value).toArray 25 (0, 0)), Mem.one g_22 (.cells ([v_179, v_181] : List Value).toArray 25 (0, 0)), Mem.one g_99 (.cells ([.int .i64 (shr .i64 t_83 3), .int .i64 t_88, .int .i64 (shr .i64 t_93 (wu64 x_60))] : List Value).toArray 28 (0, 0)), Mem.no, Mem.no, M_169, M_173] Z := hS
                    replace hm : Fr 153 a [(2, p2_2), (3, p3_3), (8, .bool false), (9, .pointer (some ⟨g_10, 0, none⟩)), (10, .pointer (some ⟨g_22, 0, none⟩)), (11, .int .i64 x_60)] := hm.keep [2, 3, 8, 9, 10, 11]
                    exact x_then_n (hJ_j_154 t_163 t_175 H _ _ ⟨v_167, v_171, v_179, v_181, N_178, M_169, M_173, hm, (Sep.sel hS [0, 1000, 2, 3, 1003, 1004, 1005, 7, 8] (by decide)), (le_166.trans le_178), hr_168, hr_172, (hr_180.mono ln_178), (hr_182.mono ln_178)⟩)
                  · refine ⟨_, [true, true, true, false, true, true, true, false, false, false].toArray, rfl, rfl, ?_⟩
                    refine s_load hm rfl rfl (hS.load_agg (p := 3) (us := [v_67, v_69]) rfl Try.underlying25 rfl ti25 rfl rfl) ?_
                    clear hm a; intro a hm
                    refine wpList_nil ?_
                    refine x_then_n ⟨(hS.sub (.cons (Mem.le.refl _) (.cons (Mem.no_le _) (.cons (Mem.no_le _) (.cons (Mem.no_le _) (.cons (Mem.le.refl _) (.cons (Mem.no_le _) (.cons (Mem.no_le _) (Sub.nil _))))))))), ?_⟩
                    refine h_event 3 [true, true, true, true, true, true, true, false, false, false].toArray rfl (by kernel_rfl) rfl ?_
                    refine s_call hm rfl Try.call11 rfl (disk_Write.calls K x_61 _ _ (⟨shr .i64 t_83 3, t_88, shr .i64 t_93 (wu64 x_60)⟩ : api_Record) x_113 t_163 w0 _ _ _ (Mem.le.refl _) (hS.enter [] (by decide)) (hr_63.mono (Mem.un_le (hA.trans (hS.le_zed [])) ((le_75.trans (le_112.trans (le_119.trans (le_126.trans le_132)))).trans (hS.new_zed [])))) (hr_65.mono (Mem.un_le (hA.trans (hS.le_zed [])) ((le_75.trans (le_112.trans (le_119.trans (le_126.trans le_132)))).trans (hS.new_zed [])))) et_163) ?_
                    rintro _ w_186 ⟨v_189, v_193, N_187, M_191, M_195, rfl, hS', hr_190, hr_194⟩
                    clear hm a; intro a hm
                    obtain ⟨N_188, hS'', le_188, ln_188⟩ := hS.call [] (by decide) rfl (l' := []) (ow := [M_191, M_195]) rfl hS'
                    replace hS : Sep w0 w_186 [N_188, Mem.no, Mem.one g_10 (.cells ([v_62, v_64] : List Value).toArray 25 (0, 0)), Mem.one g_22 (.cells ([v_67, v_69] : List Value).toArray 25 (0, 0)), Mem.one g_99 (.cells ([.int .i64 (shr .i64 t_83 3), .int .i64 t_88, .int .i64 (shr .i64 t_93 (wu64 x_60))] : List Value).toArray 28 (0, 0)), Mem.no, Mem.no, M_191, M_195] Z := hS''
                    clear hS' hS''
                    refine wpList_nil ?_
                    refine x_then_n ⟨(hS.sub (.cons le_188 (.cons (Mem.no_le _) (.cons (Mem.no_le _) (.cons (Mem.no_le _) (.cons (Mem.le.refl _) (.cons (Mem.no_le _) (.cons (Mem.no_le _) (Sub.nil _))))))))), ?_⟩
                    refine h_event 7 [true, true, true, true, true, true, true, true, false, false].toArray rfl (by kernel_rfl) rfl ?_
                    refine s_call hm rfl Try.call17 rfl (hocketref11_WriteDisk.calls K x_66 _ _ (⟨shr .i64 t_83 3, t_88, shr .i64 t_93 (wu64 x_60)⟩ : api_Record) x_113 t_175 w0 _ _ _ (Mem.le.refl _) (hS.enter [] (by decide)) (hr_68.mono (Mem.un_le (hA.trans (hS.le_zed [])) ((le_75.trans (le_112.trans (le_119.trans (le_126.trans (le_132.trans le_188))))).trans (hS.new_zed [])))) (hr_70.mono (Mem.un_le (hA.trans (hS.le_zed [])) ((le_75.trans (le_112.trans (le_119.trans (le_126.trans (le_132.trans le_188))))).trans (hS.new_zed [])))) et_175) ?_
                    rintro _ w_198 ⟨v_201, v_203, N_199, rfl, hS', hr_202, hr_204⟩
                    clear hm a; intro a hm
                    obtain ⟨N_200, hS'', le_200, ln_200⟩ := hS.call [] (by decide) rfl (l' := []) (ow := []) rfl hS'
                    replace hS : Sep w0 w_198 [N_200, Mem.no, Mem.one g_10 (.cells ([v_62, v_64] : List Value).toArray 25 (0, 0)), Mem.one g_22 (.cells ([v_67, v_69] : List Value).toArray 25 (0, 0)), Mem.one g_99 (.cells ([.int .i64 (shr .i64 t_83 3), .int .i64 t_88, .int .i64 (shr .i64 t_93 (wu64 x_60))] : List Value).toArray 28 (0, 0)), Mem.no, Mem.no, M_191, M_195] Z := hS''
                    clear hS' hS''
                    refine wpList_nil ?_
                    refine x_then_n ⟨(hS.sub (.cons (le_188.trans le_200) (.cons (Mem.no_le _) (.cons (Mem.no_le _) (.cons (Mem.no_le _) (.cons (Mem.le.refl _) (.cons (Mem.no_le _) (.cons (Mem.no_le _) (Sub.nil _))))))))), ?_⟩
                    refine h_event 8 [true, true, true, true, true, true, true, true, true, false].toArray rfl (by kernel_rfl) rfl ?_
                    obtain ⟨w_205, hs', hS'⟩ := hS.store (P := Try.prog) (p := 2) (o := 0) (t := 25) (v := .agg [v_189, v_193].toArray) (vs := [v_189, v_193]) rfl ti25 rfl rfl rfl (by intro u hu; simp only [List.mem_cons, List.not_mem_nil, or_false] at hu; rcases hu with rfl | rfl <;> first | rfl | exact hr_190.one | exact hr_194.one)
                    refine s_store hm rfl rfl hs' ?_
                    replace hS : Sep w0 w_205 [N_200, Mem.no, Mem.one g_10 (.cells ([v_189, v_193] : List Value).toArray 25 (0, 0)), Mem.one g_22 (.cells ([v_67, v_69] : List Value).toArray 25 (0, 0)), Mem.one g_99 (.cells ([.int .i64 (shr .i64 t_83 3), .int .i64 t_88, .int .i64 (shr .i64 t_93 (wu64 x_60))] : List Value).toArray 28 (0, 0)), Mem.no, Mem.no, M_191, M_195] Z := hS'
                    clear hs' hS'
                    refine wpList_nil ?_
                    refine x_then_n ⟨(hS.sub (.cons (le_188.trans le_200) (.cons (Mem.no_le _) (.cons (Mem.no_le _) (.cons (Mem.no_le _) (.cons (Mem.le.refl _) (.cons (Mem.no_le _) (.cons (Mem.no_le _) (Sub.nil _))))))))), ?_⟩
                    refine h_event 9 [true, true, true, true, true, true, true, true, true, true].toArray rfl (by kernel_rfl) rfl ?_
                    obtain ⟨w_206, hs', hS'⟩ := hS.store (P := Try.prog) (p := 3) (o := 0) (t := 25) (v := .agg [v_201, v_203].toArray) (vs := [v_201, v_203]) rfl ti25 rfl rfl rfl (by intro u hu; simp only [List.mem_cons, List.not_mem_nil, or_false] at hu; rcases hu with rfl | rfl <;> first | rfl | exact (hr_202.mono ln_200).one | exact (hr_204.mono ln_200).one)
                    refine s_store hm rfl rfl hs' ?_
                    replace hS : Sep w0 w_206 [N_200, Mem.no, Mem.one g_10 (.cells ([v_189, v_193] : List Value).toArray 25 (0, 0)), Mem.one g_22 (.cells ([v_201, v_203] : List Value).toArray 25 (0, 0)), Mem.one g_99 (.cells ([.int .i64 (shr .i64 t_83 3), .int .i64 t_88, .int .i64 (shr .i64 t_93 (wu64 x_60))] : List Value).toArray 28 (0, 0)), Mem.no, Mem.no, M_191, M_195] Z := hS'
                    clear hs' hS'
                    refine wpList_nil ?_
                    refine x_then_n ⟨(hS.sub (.cons (le_188.trans le_200) (.cons (Mem.no_le _) (.cons (Mem.no_le _) (.cons (Mem.no_le _) (.cons (Mem.le.refl _) (.cons (Mem.no_le _) (.cons (Mem.no_le _) (Sub.nil _))))))))), ?_⟩
                    refine h_done (by kernel_rfl) ?_
                    replace hm : Fr 153 a [(2, p2_2), (3, p3_3), (8, .bool false), (9, .pointer (some ⟨g_10, 0, none⟩)), (10, .pointer (some ⟨g_22, 0, none⟩)), (11, .int .i64 x_60)] := hm.keep [2, 3, 8, 9, 10, 11]
                    replace hS : Sep w0 w_206 [N_200, Mem.no, Mem.one g_10 (.cells ([v_189, v_193] : List Value).toArray 25 (0, 0)), Mem.one g_22 (.cells ([v_201, v_203] : List Value).toArray 25 (0, 0)), Mem.one g_99 (.cells ([.int .i64 (shr .i64 t_83 3), .int .i64 t_88, .int .i64 (shr .i64 t_93 (wu64 x_60))] : List Value).toArray 28 (0, 0)), Mem.no, Mem.no, M_191, M_195] Z := hS
                    replace hm : Fr 153 a [(2, p2_2), (3, p3_3), (8, .bool false), (9, .pointer (some ⟨g_10, 0, none⟩)), (10, .pointer (some ⟨g_22, 0, none⟩)), (11, .int .i64 x_60)] := hm.keep [2, 3, 8, 9, 10, 11]
                    exact x_then_n (hJ_j_154 t_163 t_175 H _ _ ⟨v_189, v_193, v_201, v_203, N_200, M_191, M_195, hm, (Sep.sel hS [0, 1000, 2, 3, 1003, 1004, 1005, 7, 8] (by decide)), (le_188.trans le_200), hr_190, hr_194, (hr_202.mono ln_200), (hr_204.mono ln_200)⟩)
                · refine ⟨_, [false, true, true, false, true, true, true, false, false, false].toArray, rfl, rfl, ?_⟩
                  refine s_load hm rfl rfl (hS.load_agg (p := 3) (us := [v_67, v_69]) rfl Try.underlying25 rfl ti25 rfl rfl) ?_
                  clear hm a; intro a hm
                  refine wpList_nil ?_
                  refine x_then_n ⟨(hS.sub (.cons (Mem.le.refl _) (.cons (Mem.no_le _) (.cons (Mem.no_le _) (.cons (Mem.no_le _) (.cons (Mem.le.refl _) (.cons (Mem.no_le _) (.cons (Mem.no_le _) (Sub.nil _))))))))), ?_⟩
                  refine h_event 0 [true, true, true, false, true, true, true, false, false, false].toArray rfl (by kernel_rfl) rfl ?_
                  refine s_load hm rfl rfl (hS.load_agg (p := 2) (us := [v_62, v_64]) rfl Try.underlying25 rfl ti25 rfl rfl) ?_
                  clear hm a; intro a hm
                  refine wpList_nil ?_
                  refine x_then_n ⟨(hS.sub (.cons (Mem.le.refl _) (.cons (Mem.no_le _) (.cons (Mem.no_le _) (.cons (Mem.no_le _) (.cons (Mem.le.refl _) (.cons (Mem.no_le _) (.cons (Mem.no_le _) (Sub.nil _))))))))), ?_⟩
                  refine h_event 3 [true, true, true, true, true, true, true, false, false, false].toArray rfl (by kernel_rfl) rfl ?_
                  refine s_call hm rfl Try.call11 rfl (disk_Write.calls K x_61 _ _ (⟨shr .i64 t_83 3, t_88, shr .i64 t_93 (wu64 x_60)⟩ : api_Record) x_113 t_163 w0 _ _ _ (Mem.le.refl _) (hS.enter [] (by decide)) (hr_63.mono (Mem.un_le (hA.trans (hS.le_zed [])) ((le_75.trans (le_112.trans (le_119.trans (le_126.trans le_132)))).trans (hS.new_zed [])))) (hr_65.mono (Mem.un_le (hA.trans (hS.le_zed [])) ((le_75.trans (le_112.trans (le_119.trans (le_126.trans le_132)))).trans (hS.new_zed [])))) et_163) ?_
                  rintro _ w_208 ⟨v_211, v_215, N_209, M_213, M_217, rfl, hS', hr_212, hr_216⟩
                  clear hm a; intro a hm
                  obtain ⟨N_210, hS'', le_210, ln_210⟩ := hS.call [] (by decide) rfl (l' := []) (ow := [M_213, M_217]) rfl hS'
                  replace hS : Sep w0 w_208 [N_210, Mem.no, Mem.one g_10 (.cells ([v_62, v_64] : List Value).toArray 25 (0, 0)), Mem.one g_22 (.cells ([v_67, v_69] : List Value).toArray 25 (0, 0)), Mem.one g_99 (.cells ([.int .i64 (shr .i64 t_83 3), .int .i64 t_88, .int .i64 (shr .i64 t_93 (wu64 x_60))] : List Value).toArray 28 (0, 0)), Mem.no, Mem.no, M_213, M_217] Z := hS''
                  clear hS' hS''
                  refine wpList_nil ?_
                  refine x_then_n ⟨(hS.sub (.cons le_210 (.cons (Mem.no_le _) (.cons (Mem.no_le _) (.cons (Mem.no_le _) (.cons (Mem.le.refl _) (.cons (Mem.no_le _) (.cons (Mem.no_le _) (Sub.nil _))))))))), ?_⟩
                  refine h_event 7 [true, true, true, true, true, true, true, true, false, false].toArray rfl (by kernel_rfl) rfl ?_
                  refine s_call hm rfl Try.call17 rfl (hocketref11_WriteDisk.calls K x_66 _ _ (⟨shr .i64 t_83 3, t_88, shr .i64 t_93 (wu64 x_60)⟩ : api_Record) x_113 t_175 w0 _ _ _ (Mem.le.refl _) (hS.enter [] (by decide)) (hr_68.mono (Mem.un_le (hA.trans (hS.le_zed [])) ((le_75.trans (le_112.trans (le_119.trans (le_126.trans (le_132.trans le_210))))).trans (hS.new_zed [])))) (hr_70.mono (Mem.un_le (hA.trans (hS.le_zed [])) ((le_75.trans (le_112.trans (le_119.trans (le_126.trans (le_132.trans le_210))))).trans (hS.new_zed [])))) et_175) ?_
                  rintro _ w_220 ⟨v_223, v_225, N_221, rfl, hS', hr_224, hr_226⟩
                  clear hm a; intro a hm
                  obtain ⟨N_222, hS'', le_222, ln_222⟩ := hS.call [] (by decide) rfl (l' := []) (ow := []) rfl hS'
                  replace hS : Sep w0 w_220 [N_222, Mem.no, Mem.one g_10 (.cells ([v_62, v_64] : List Value).toArray 25 (0, 0)), Mem.one g_22 (.cells ([v_67, v_69] : List Value).toArray 25 (0, 0)), Mem.one g_99 (.cells ([.int .i64 (shr .i64 t_83 3), .int .i64 t_88, .int .i64 (shr .i64 t_93 (wu64 x_60))] : List Value).toArray 28 (0, 0)), Mem.no, Mem.no, M_213, M_217] Z := hS''
                  clear hS' hS''
                  refine wpList_nil ?_
                  refine x_then_n ⟨(hS.sub (.cons (le_210.trans le_222) (.cons (Mem.no_le _) (.cons (Mem.no_le _) (.cons (Mem.no_le _) (.cons (Mem.le.refl _) (.cons (Mem.no_le _) (.cons (Mem.no_le _) (Sub.nil _))))))))), ?_⟩
                  refine h_event 8 [true, true, true, true, true, true, true, true, true, false].toArray rfl (by kernel_rfl) rfl ?_
                  obtain ⟨w_227, hs', hS'⟩ := hS.store (P := Try.prog) (p := 2) (o := 0) (t := 25) (v := .agg [v_211, v_215].toArray) (vs := [v_211, v_215]) rfl ti25 rfl rfl rfl (by intro u hu; simp only [List.mem_cons, List.not_mem_nil, or_false] at hu; rcases hu with rfl | rfl <;> first | rfl | exact hr_212.one | exact hr_216.one)
                  refine s_store hm rfl rfl hs' ?_
                  replace hS : Sep w0 w_227 [N_222, Mem.no, Mem.one g_10 (.cells ([v_211, v_215] : List Value).toArray 25 (0, 0)), Mem.one g_22 (.cells ([v_67, v_69] : List Value).toArray 25 (0, 0)), Mem.one g_99 (.cells ([.int .i64 (shr .i64 t_83 3), .int .i64 t_88, .int .i64 (shr .i64 t_93 (wu64 x_60))] : List Value).toArray 28 (0, 0)), Mem.no, Mem.no, M_213, M_217] Z := hS'
                  clear hs' hS'
                  refine wpList_nil ?_
                  refine x_then_n ⟨(hS.sub (.cons (le_210.trans le_222) (.cons (Mem.no_le _) (.cons (Mem.no_le _) (.cons (Mem.no_le _) (.cons (Mem.le.refl _) (.cons (Mem.no_le _) (.cons (Mem.no_le _) (Sub.nil _))))))))), ?_⟩
                  refine h_event 9 [true, true, true, true, true, true, true, true, true, true].toArray rfl (by kernel_rfl) rfl ?_
                  obtain ⟨w_228, hs', hS'⟩ := hS.store (P := Try.prog) (p := 3) (o := 0) (t := 25) (v := .agg [v_223, v_225].toArray) (vs := [v_223, v_225]) rfl ti25 rfl rfl rfl (by intro u hu; simp only [List.mem_cons, List.not_mem_nil, or_false] at hu; rcases hu with rfl | rfl <;> first | rfl | exact (hr_224.mono ln_222).one | exact (hr_226.mono ln_222).one)
                  refine s_store hm rfl rfl hs' ?_
                  replace hS : Sep w0 w_228 [N_222, Mem.no, Mem.one g_10 (.cells ([v_211, v_215] : List Value).toArray 25 (0, 0)), Mem.one g_22 (.cells ([v_223, v_225] : List Value).toArray 25 (0, 0)), Mem.one g_99 (.cells ([.int .i64 (shr .i64 t_83 3), .int .i64 t_88, .int .i64 (shr .i64 t_93 (wu64 x_60))] : List Value).toArray 28 (0, 0)), Mem.no, Mem.no, M_213, M_217] Z := hS'
                  clear hs' hS'
                  refine wpList_nil ?_
                  refine x_then_n ⟨(hS.sub (.cons (le_210.trans le_222) (.cons (Mem.no_le _) (.cons (Mem.no_le _) (.cons (Mem.no_le _) (.cons (Mem.le.refl _) (.cons (Mem.no_le _) (.cons (Mem.no_le _) (Sub.nil _))))))))), ?_⟩
                  refine h_done (by kernel_rfl) ?_
                  replace hm : Fr 153 a [(2, p2_2), (3, p3_3), (8, .bool false), (9, .pointer (some ⟨g_10, 0, none⟩)), (10, .pointer (some ⟨g_22, 0, none⟩)), (11, .int .i64 x_60)] := hm.keep [2, 3, 8, 9, 10, 11]
                  replace hS : Sep w0 w_228 [N_222, Mem.no, Mem.one g_10 (.cells ([v_211, v_215] : List Value).toArray 25 (0, 0)), Mem.one g_22 (.cells ([v_223, v_225] : List Value).toArray 25 (0, 0)), Mem.one g_99 (.cells ([.int .i64 (shr .i64 t_83 3), .int .i64 t_88, .int .i64 (shr .i64 t_93 (wu64 x_60))] : List Value).toArray 28 (0, 0)), Mem.no, Mem.no, M_213, M_217] Z := hS
                  replace hm : Fr 153 a [(2, p2_2), (3, p3_3), (8, .bool false), (9, .pointer (some ⟨g_10, 0, none⟩)), (10, .pointer (some ⟨g_22, 0, none⟩)), (11, .int .i64 x_60)] := hm.keep [2, 3, 8, 9, 10, 11]
                  exact x_then_n (hJ_j_154 t_163 t_175 H _ _ ⟨v_211, v_215, v_223, v_225, N_222, M_213, M_217, hm, (Sep.sel hS [0, 1000, 2, 3, 1003, 1004, 1005, 7, 8] (by decide)), (le_210.trans le_222), hr_212, hr_216, (hr_224.mono ln_222), (hr_226.mono ln_222)⟩)
            clear hKJ_131
            refine h_begin (S := fun w => Sep w0 w [N_126, Mem.no, Mem.one g_10 (.cells ([v_62, v_64] : List Value).toArray 25 (0, 0)), Mem.one g_22 (.cells ([v_67, v_69] : List Value).toArray 25 (0, 0)), Mem.one g_99 (.cells ([.int .i64 (shr .i64 t_83 3), .int .i64 t_88, .int .i64 (shr .i64 t_93 (wu64 x_60))] : List Value).toArray 28 (0, 0)), Mem.one g_121 (.cells ([.int .i64 t_116.1.Inc, .int .i64 t_116.1.Prom, .int .i64 t_116.1.Inst] : List Value).toArray 28 (0, 0)), Mem.one g_128 (.cells ([.int .i64 t_123.1.Inc, .int .i64 t_123.1.Prom, .int .i64 t_123.1.Inst] : List Value).toArray 28 (0, 0))] Z) 25 (by kernel_rfl) rfl [false, false, false, false, false, false, false, false, false, false, false, false, false, false, false, false, false, false, false, false, false, false, false, false, false].toArray rfl hS fun w_229 hS => ?_
            replace hS : Sep w0 w_229 [N_126, Mem.no, Mem.one g_10 (.cells ([v_62, v_64] : List Value).toArray 25 (0, 0)), Mem.one g_22 (.cells ([v_67, v_69] : List Value).toArray 25 (0, 0)), Mem.one g_99 (.cells ([.int .i64 (shr .i64 t_83 3), .int .i64 t_88, .int .i64 (shr .i64 t_93 (wu64 x_60))] : List Value).toArray 28 (0, 0)), Mem.one g_121 (.cells ([.int .i64 t_116.1.Inc, .int .i64 t_116.1.Prom, .int .i64 t_116.1.Inst] : List Value).toArray 28 (0, 0)), Mem.one g_128 (.cells ([.int .i64 t_123.1.Inc, .int .i64 t_123.1.Prom, .int .i64 t_123.1.Inst] : List Value).toArray 28 (0, 0))] Z := hS
            refine h_take 0 [true, false, false, false, false, false, false, false, false, false, false, false, false, false, false, false, false, false, false, false, false, false, false, false, false].toArray rfl (by kernel_rfl) (by kernel_rfl) (by kernel_rfl) (fun _ _ _ _ h => h) rfl rfl rfl rfl hm (hS.sub (.cons (Mem.le.refl _) (.cons (Mem.no_le _) (.cons (Mem.le.refl _) (.cons (Mem.le.refl _) (.cons (Mem.le.refl _) (.cons (Mem.le.refl _) (.cons (Mem.le.refl _) (Sub.nil _))))))))) (v := .agg [.int .i64 t_116.1.Inc, .int .i64 t_116.1.Prom, .int .i64 t_116.1.Inst].toArray) (fun w hS => r_load hm rfl (hS.load_agg (p := 5) (us := [.int .i64 t_116.1.Inc, .int .i64 t_116.1.Prom, .int .i64 t_116.1.Inst]) rfl Try.underlying28 rfl ti28 rfl rfl)) ?_
            clear hm a; intro a hm
            refine h_take 1 [true, true, false, false, false, false, false, false, false, false, false, false, false, false, false, false, false, false, false, false, false, false, false, false, false].toArray rfl (by kernel_rfl) (by kernel_rfl) (by kernel_rfl) (fun _ _ _ _ h => h) rfl rfl rfl rfl hm (hS.sub (.cons (Mem.le.refl _) (.cons (Mem.no_le _) (.cons (Mem.le.refl _) (.cons (Mem.le.refl _) (.cons (Mem.le.refl _) (.cons (Mem.le.refl _) (.cons (Mem.le.refl _) (Sub.nil _))))))))) (v := .agg [.int .i64 t_123.1.Inc, .int .i64 t_123.1.Prom, .int .i64 t_123.1.Inst].toArray) (fun w hS => r_load hm rfl (hS.load_agg (p := 6) (us := [.int .i64 t_123.1.Inc, .int .i64 t_123.1.Prom, .int .i64 t_123.1.Inst]) rfl Try.underlying28 rfl ti28 rfl rfl)) ?_
            clear hm a; intro a hm
            refine h_take 2 [true, true, true, false, false, false, false, false, false, false, false, false, false, false, false, false, false, false, false, false, false, false, false, false, false].toArray rfl (by kernel_rfl) (by kernel_rfl) (by kernel_rfl) (fun _ _ _ _ h => h) rfl rfl rfl rfl hm (hS.sub (.cons (Mem.le.refl _) (.cons (Mem.no_le _) (.cons (Mem.le.refl _) (.cons (Mem.le.refl _) (.cons (Mem.le.refl _) (.cons (Mem.le.refl _) (.cons (Mem.le.refl _) (Sub.nil _))))))))) (v := .bool (!([t_116.1.Inc, t_116.1.Prom, t_116.1.Inst] == [t_123.1.Inc, t_123.1.Prom, t_123.1.Inst]))) (fun w hS => r_structEq (xs := [t_116.1.Inc, t_116.1.Prom, t_116.1.Inst]) (ys := [t_123.1.Inc, t_123.1.Prom, t_123.1.Inst]) (b := !([t_116.1.Inc, t_116.1.Prom, t_116.1.Inst] == [t_123.1.Inc, t_123.1.Prom, t_123.1.Inst])) hm Try.underlying28 (by kernel_rfl) (by kernel_rfl) ⟨rfl, rfl, Try.underlying3, rfl, rfl, Try.underlying3, rfl, rfl, Try.underlying3, trivial⟩ rfl rfl rfl rfl (.inr ⟨rfl, rfl⟩)) ?_
            clear hm a; intro a hm
            refine h_take 3 [true, true, true, true, false, false, false, false, false, false, false, false, false, false, false, false, false, false, false, false, false, false, false, false, false].toArray rfl (by kernel_rfl) (by kernel_rfl) (by kernel_rfl) (fun _ _ _ _ h => h) rfl rfl rfl rfl hm (hS.sub (.cons (Mem.le.refl _) (.cons (Mem.no_le _) (.cons (Mem.le.refl _) (.cons (Mem.le.refl _) (.cons (Mem.le.refl _) (.cons (Mem.le.refl _) (.cons (Mem.le.refl _) (Sub.nil _))))))))) (v := .bool (!([t_116.1.Inc, t_116.1.Prom, t_116.1.Inst] == [t_123.1.Inc, t_123.1.Prom, t_123.1.Inst]))) (fun w hS => r_move hm rfl) ?_
            clear hm a; intro a hm
            by_cases hc_230 : [t_116.1.Inc, t_116.1.Prom, t_116.1.Inst] = [t_123.1.Inc, t_123.1.Prom, t_123.1.Inst]
            · rw [if_pos hc_230] at H
              refine h_take_on 4 [true, true, true, true, true, false, false, false, false, false, false, false, false, false, false, false, false, false, false, false, false, false, false, false, false].toArray rfl (by kernel_rfl) (by kernel_rfl) (by kernel_rfl) (fun _ _ _ _ h => h) rfl rfl rfl rfl (nf (beq_iff_eq.2 hc_230)) rfl rfl hm (hS.sub (.cons (Mem.le.refl _) (.cons (Mem.no_le _) (.cons (Mem.le.refl _) (.cons (Mem.le.refl _) (.cons (Mem.le.refl _) (.cons (Mem.le.refl _) (.cons (Mem.le.refl _) (Sub.nil _))))))))) (v := .bool t_116.2) (fun w hS => r_move hm rfl) ?_
              clear hm a; intro a hm
              refine h_take_on 5 [true, true, true, true, true, true, false, false, false, false, false, false, false, false, false, false, false, false, false, false, false, false, false, false, false].toArray rfl (by kernel_rfl) (by kernel_rfl) (by kernel_rfl) (fun _ _ _ _ h => h) rfl rfl rfl rfl (nf (beq_iff_eq.2 hc_230)) rfl rfl hm (hS.sub (.cons (Mem.le.refl _) (.cons (Mem.no_le _) (.cons (Mem.le.refl _) (.cons (Mem.le.refl _) (.cons (Mem.le.refl _) (.cons (Mem.le.refl _) (.cons (Mem.le.refl _) (Sub.nil _))))))))) (v := .bool t_123.2) (fun w hS => r_move hm rfl) ?_
              clear hm a; intro a hm
              refine h_take_on 6 [true, true, true, true, true, true, true, false, false, false, false, false, false, false, false, false, false, false, false, false, false, false, false, false, false].toArray rfl (by kernel_rfl) (by kernel_rfl) (by kernel_rfl) (fun _ _ _ _ h => h) rfl rfl rfl rfl (nf (beq_iff_eq.2 hc_230)) rfl rfl hm (hS.sub (.cons (Mem.le.refl _) (.cons (Mem.no_le _) (.cons (Mem.le.refl _) (.cons (Mem.le.refl _) (.cons (Mem.le.refl _) (.cons (Mem.le.refl _) (.cons (Mem.le.refl _) (Sub.nil _))))))))) (v := .bool (!(t_116.2 == t_123.2))) (fun w hS => r_beq (b := !(t_116.2 == t_123.2)) hm Try.underlying4 rfl rfl (.inr ⟨rfl, rfl⟩)) ?_
              clear hm a; intro a hm
              refine h_take 7 [true, true, true, true, true, true, true, true, false, false, false, false, false, false, false, false, false, false, false, false, false, false, false, false, false].toArray rfl (by kernel_rfl) (by kernel_rfl) (by kernel_rfl) (fun _ _ _ _ h => h) rfl rfl rfl rfl hm (hS.sub (.cons (Mem.le.refl _) (.cons (Mem.no_le _) (.cons (Mem.le.refl _) (.cons (Mem.le.refl _) (.cons (Mem.le.refl _) (.cons (Mem.le.refl _) (.cons (Mem.le.refl _) (Sub.nil _))))))))) (v := .bool (!(t_116.2 == t_123.2))) (fun w hS => r_pick_f hm rfl (nf (beq_iff_eq.2 hc_230)) rfl) ?_
              clear hm a; intro a hm
              refine h_take 8 [true, true, true, true, true, true, true, true, true, false, false, false, false, false, false, false, false, false, false, false, false, false, false, false, false].toArray rfl (by kernel_rfl) (by kernel_rfl) (by kernel_rfl) (fun _ _ _ _ h => h) rfl rfl rfl rfl hm (hS.sub (.cons (Mem.le.refl _) (.cons (Mem.no_le _) (.cons (Mem.le.refl _) (.cons (Mem.le.refl _) (.cons (Mem.le.refl _) (.cons (Mem.le.refl _) (.cons (Mem.le.refl _) (Sub.nil _))))))))) (v := .bool (!(t_116.2 == t_123.2))) (fun w hS => r_move hm rfl) ?_
              clear hm a; intro a hm
              by_cases hc_231 : t_116.2 = t_123.2
              · rw [if_pos hc_231] at H
                refine h_take_on 9 [true, true, true, true, true, true, true, true, true, true, false, false, false, false, false, false, false, false, false, false, false, false, false, false, false].toArray rfl (by kernel_rfl) (by kernel_rfl) (by kernel_rfl) (fun _ _ _ _ h => h) rfl rfl rfl rfl (nf (beq_iff_eq.2 hc_231)) rfl rfl hm (hS.sub (.cons (Mem.le.refl _) (.cons (Mem.no_le _) (.cons (Mem.le.refl _) (.cons (Mem.le.refl _) (.cons (Mem.le.refl _) (.cons (Mem.le.refl _) (.cons (Mem.le.refl _) (Sub.nil _))))))))) (v := p2_2) (fun w hS => r_move hm rfl) ?_
                clear hm a; intro a hm
                refine h_take_on 10 [true, true, true, true, true, true, true, true, true, true, true, false, false, false, false, false, false, false, false, false, false, false, false, false, false].toArray rfl (by kernel_rfl) (by kernel_rfl) (by kernel_rfl) (fun _ _ _ _ h => h) rfl rfl rfl rfl (nf (beq_iff_eq.2 hc_231)) rfl rfl hm (hS.sub (.cons (Mem.le.refl _) (.cons (Mem.no_le _) (.cons (Mem.le.refl _) (.cons (Mem.le.refl _) (.cons (Mem.le.refl _) (.cons (Mem.le.refl _) (.cons (Mem.le.refl _) (Sub.nil _))))))))) (v := .int .i64 x_60) (fun w hS => r_move hm rfl) ?_
                clear hm a; intro a hm
                obtain ⟨t_232, et_232, H⟩ := Option.bind_eq_some_iff.1 H
                refine h_takeE_on 11 [true, true, true, true, true, true, true, true, true, true, true, true, false, false, false, false, false, false, false, false, false, false, false, false, false].toArray rfl (by kernel_rfl) (by kernel_rfl) (by kernel_rfl) (fun _ _ _ _ h => h) rfl rfl rfl rfl (nf (beq_iff_eq.2 hc_231)) rfl rfl hm (hS.sub (.cons (Mem.le.refl _) (.cons (Mem.no_le _) (.cons (Mem.le.refl _) (.cons (Mem.le.refl _) (.cons (Mem.le.refl _) (.cons (Mem.le.refl _) (.cons (Mem.le.refl _) (Sub.nil _))))))))) (f := fun ad => .pointer (some ad)) (r_index hm Try.underlying22 ti3 rfl rfl rfl hp2_2 et_232) ?_
                rintro ad_233 ⟨cs_234, hk_235, hc_236⟩
                obtain rfl := (show cs_234 = [.int .i64 t_232] from hk_235)
                clear hm a; intro a hm
                refine h_take_on 12 [true, true, true, true, true, true, true, true, true, true, true, true, true, false, false, false, false, false, false, false, false, false, false, false, false].toArray rfl (by kernel_rfl) (by kernel_rfl) (by kernel_rfl) (fun _ _ _ _ h => h) rfl rfl rfl rfl (nf (beq_iff_eq.2 hc_231)) rfl rfl hm (hS.sub (.cons (Mem.le.refl _) (.cons (Mem.no_le _) (.cons (Mem.le.refl _) (.cons (Mem.le.refl _) (.cons (Mem.le.refl _) (.cons (Mem.le.refl _) (.cons (Mem.le.refl _) (Sub.nil _))))))))) (v := .int .i64 t_232) (fun w hS => r_load hm rfl (el_one (o := 0) (fun j c h => Mem.cell_le (hA.trans hS.old) (hc_236 j c h)) Try.underlying3 rfl rfl)) ?_
                clear hm a; intro a hm
                refine h_take_on 13 [true, true, true, true, true, true, true, true, true, true, true, true, true, true, false, false, false, false, false, false, false, false, false, false, false].toArray rfl (by kernel_rfl) (by kernel_rfl) (by kernel_rfl) (fun _ _ _ _ h => h) rfl rfl rfl rfl (nf (beq_iff_eq.2 hc_231)) rfl rfl hm (hS.sub (.cons (Mem.le.refl _) (.cons (Mem.no_le _) (.cons (Mem.le.refl _) (.cons (Mem.le.refl _) (.cons (Mem.le.refl _) (.cons (Mem.le.refl _) (.cons (Mem.le.refl _) (Sub.nil _))))))))) (v := .agg [.int .i64 (shr .i64 t_83 3), .int .i64 t_88, .int .i64 (shr .i64 t_93 (wu64 x_60))].toArray) (fun w hS => r_load hm rfl (hS.load_agg (p := 4) (us := [.int .i64 (shr .i64 t_83 3), .int .i64 t_88, .int .i64 (shr .i64 t_93 (wu64 x_60))]) rfl Try.underlying28 rfl ti28 rfl rfl)) ?_
                clear hm a; intro a hm
                refine h_take_on 16 [true, true, true, true, true, true, true, true, true, true, true, true, true, true, false, false, true, false, false, false, false, false, false, false, false].toArray rfl (by kernel_rfl) (by kernel_rfl) (by kernel_rfl) (fun _ _ _ _ h => h) rfl rfl rfl rfl (nf (beq_iff_eq.2 hc_231)) rfl rfl hm (hS.sub (.cons (Mem.le.refl _) (.cons (Mem.no_le _) (.cons (Mem.le.refl _) (.cons (Mem.le.refl _) (.cons (Mem.le.refl _) (.cons (Mem.le.refl _) (.cons (Mem.le.refl _) (Sub.nil _))))))))) (v := p2_2) (fun w hS => r_move hm rfl) ?_
                clear hm a; intro a hm
                refine h_take_on 17 [true, true, true, true, true, true, true, true, true, true, true, true, true, true, false, false, true, true, false, false, false, false, false, false, false].toArray rfl (by kernel_rfl) (by kernel_rfl) (by kernel_rfl) (fun _ _ _ _ h => h) rfl rfl rfl rfl (nf (beq_iff_eq.2 hc_231)) rfl rfl hm (hS.sub (.cons (Mem.le.refl _) (.cons (Mem.no_le _) (.cons (Mem.le.refl _) (.cons (Mem.le.refl _) (.cons (Mem.le.refl _) (.cons (Mem.le.refl _) (.cons (Mem.le.refl _) (Sub.nil _))))))))) (v := .int .i64 x_60) (fun w hS => r_move hm rfl) ?_
                clear hm a; intro a hm
                obtain ⟨t_237, et_237, H⟩ := Option.bind_eq_some_iff.1 H
                refine h_takeE_on 18 [true, true, true, true, true, true, true, true, true, true, true, true, true, true, false, false, true, true, true, false, false, false, false, false, false].toArray rfl (by kernel_rfl) (by kernel_rfl) (by kernel_rfl) (fun _ _ _ _ h => h) rfl rfl rfl rfl (nf (beq_iff_eq.2 hc_231)) rfl rfl hm (hS.sub (.cons (Mem.le.refl _) (.cons (Mem.no_le _) (.cons (Mem.le.refl _) (.cons (Mem.le.refl _) (.cons (Mem.le.refl _) (.cons (Mem.le.refl _) (.cons (Mem.le.refl _) (Sub.nil _))))))))) (f := fun ad => .pointer (some ad)) (r_index hm Try.underlying22 ti3 rfl rfl rfl hp2_2 et_237) ?_
                rintro ad_238 ⟨cs_239, hk_240, hc_241⟩
                obtain rfl := (show cs_239 = [.int .i64 t_237] from hk_240)
                clear hm a; intro a hm
                refine h_take_on 19 [true, true, true, true, true, true, true, true, true, true, true, true, true, true, false, false, true, true, true, true, false, false, false, false, false].toArray rfl (by kernel_rfl) (by kernel_rfl) (by kernel_rfl) (fun _ _ _ _ h => h) rfl rfl rfl rfl (nf (beq_iff_eq.2 hc_231)) rfl rfl hm (hS.sub (.cons (Mem.le.refl _) (.cons (Mem.no_le _) (.cons (Mem.le.refl _) (.cons (Mem.le.refl _) (.cons (Mem.le.refl _) (.cons (Mem.le.refl _) (.cons (Mem.le.refl _) (Sub.nil _))))))))) (v := .int .i64 t_237) (fun w hS => r_load hm rfl (el_one (o := 0) (fun j c h => Mem.cell_le (hA.trans hS.old) (hc_241 j c h)) Try.underlying3 rfl rfl)) ?_
                clear hm a; intro a hm
                refine h_take_on 20 [true, true, true, true, true, true, true, true, true, true, true, true, true, true, false, false, true, true, true, true, true, false, false, false, false].toArray rfl (by kernel_rfl) (by kernel_rfl) (by kernel_rfl) (fun _ _ _ _ h => h) rfl rfl rfl rfl (nf (beq_iff_eq.2 hc_231)) rfl rfl hm (hS.sub (.cons (Mem.le.refl _) (.cons (Mem.no_le _) (.cons (Mem.le.refl _) (.cons (Mem.le.refl _) (.cons (Mem.le.refl _) (.cons (Mem.le.refl _) (.cons (Mem.le.refl _) (Sub.nil _))))))))) (v := .agg [.int .i64 (shr .i64 t_83 3), .int .i64 t_88, .int .i64 (shr .i64 t_93 (wu64 x_60))].toArray) (fun w hS => r_load hm rfl (hS.load_agg (p := 4) (us := [.int .i64 (shr .i64 t_83 3), .int .i64 t_88, .int .i64 (shr .i64 t_93 (wu64 x_60))]) rfl Try.underlying28 rfl ti28 rfl rfl)) ?_
                clear hm a; intro a hm
                refine h_event 14 [true, true, true, true, true, true, true, true, true, true, true, true, true, true, true, false, true, true, true, true, true, false, false, false, false].toArray rfl (by kernel_rfl) rfl ?_
                refine s_on hm rfl rfl (nf (beq_iff_eq.2 hc_231)) ?_
                obtain ⟨t_242, et_242, H⟩ := Option.bind_eq_some_iff.1 H
                refine s_call hm rfl Try.call14 rfl (disk_Slot.calls K t_232 (⟨shr .i64 t_83 3, t_88, shr .i64 t_93 (wu64 x_60)⟩ : api_Record) t_242 w0 _ _ _ (Mem.le.refl _) (hS.enter [] (by decide))  et_242) ?_
                rintro v_246 w_243 ⟨_, N_244, M_248, rfl, hS', hr_247⟩
                clear hm a; intro a hm
                obtain ⟨N_245, hS'', le_245, ln_245⟩ := hS.call [] (by decide) rfl (l' := []) (ow := [M_248]) rfl hS'
                replace hS : Sep w0 w_243 [N_245, Mem.no, Mem.one g_10 (.cells ([v_62, v_64] : List Value).toArray 25 (0, 0)), Mem.one g_22 (.cells ([v_67, v_69] : List Value).toArray 25 (0, 0)), Mem.one g_99 (.cells ([.int .i64 (shr .i64 t_83 3), .int .i64 t_88, .int .i64 (shr .i64 t_93 (wu64 x_60))] : List Value).toArray 28 (0, 0)), Mem.one g_121 (.cells ([.int .i64 t_116.1.Inc, .int .i64 t_116.1.Prom, .int .i64 t_116.1.Inst] : List Value).toArray 28 (0, 0)), Mem.one g_128 (.cells ([.int .i64 t_123.1.Inc, .int .i64 t_123.1.Prom, .int .i64 t_123.1.Inst] : List Value).toArray 28 (0, 0)), M_248] Z := hS''
                clear hS' hS''
                refine wpList_nil ?_
                refine x_then_n ⟨(hS.sub (.cons le_245 (.cons (Mem.no_le _) (.cons (Mem.le.refl _) (.cons (Mem.le.refl _) (.cons (Mem.le.refl _) (.cons (Mem.le.refl _) (.cons (Mem.le.refl _) (Sub.nil _))))))))), ?_⟩
                obtain ⟨t_250, et_250, H⟩ := Option.bind_eq_some_iff.1 H
                refine h_events [15, 21] (by kernel_rfl) (by simp) ?_
                intro i hi; simp only [List.mem_cons, List.not_mem_nil, or_false] at hi; rcases hi with rfl | rfl
                · refine ⟨_, [true, true, true, true, true, true, true, true, true, true, true, true, true, true, true, true, true, true, true, true, true, false, false, false, false].toArray, rfl, rfl, ?_⟩
                  refine s_on hm rfl rfl (nf (beq_iff_eq.2 hc_231)) ?_
                  refine s_b2s hm rfl Try.underlying23 Try.underlying5 Try.underlying9 rfl (hr_247.rd (J := hp w_243) (hS.own 7) (Mem.no_le _)) (Mem.le.refl _) ?_
                  clear hm a; intro a hm
                  refine wpList_nil ?_
                  refine x_then_n ⟨(hS.sub (.cons le_245 (.cons (Mem.no_le _) (.cons (Mem.le.refl _) (.cons (Mem.le.refl _) (.cons (Mem.le.refl _) (.cons (Mem.le.refl _) (.cons (Mem.le.refl _) (Sub.nil _))))))))), ?_⟩
                  refine h_event 21 [true, true, true, true, true, true, true, true, true, true, true, true, true, true, true, true, true, true, true, true, true, true, false, false, false].toArray rfl (by kernel_rfl) rfl ?_
                  refine s_on hm rfl rfl (nf (beq_iff_eq.2 hc_231)) ?_
                  refine s_call hm rfl Try.call16 rfl (hocketref11_Slot.calls K t_237 (⟨shr .i64 t_83 3, t_88, shr .i64 t_93 (wu64 x_60)⟩ : api_Record) t_250 w0 _ _ _ (Mem.le.refl _) (hS.enter [] (by decide))  et_250) ?_
                  rintro v_254 w_251 ⟨_, N_252, M_256, rfl, hS', hr_255⟩
                  clear hm a; intro a hm
                  obtain ⟨N_253, hS'', le_253, ln_253⟩ := hS.call [] (by decide) rfl (l' := []) (ow := [M_256]) rfl hS'
                  replace hS : Sep w0 w_251 [N_253, Mem.no, Mem.one g_10 (.cells ([v_62, v_64] : List Value).toArray 25 (0, 0)), Mem.one g_22 (.cells ([v_67, v_69] : List Value).toArray 25 (0, 0)), Mem.one g_99 (.cells ([.int .i64 (shr .i64 t_83 3), .int .i64 t_88, .int .i64 (shr .i64 t_93 (wu64 x_60))] : List Value).toArray 28 (0, 0)), Mem.one g_121 (.cells ([.int .i64 t_116.1.Inc, .int .i64 t_116.1.Prom, .int .i64 t_116.1.Inst] : List Value).toArray 28 (0, 0)), Mem.one g_128 (.cells ([.int .i64 t_123.1.Inc, .int .i64 t_123.1.Prom, .int .i64 t_123.1.Inst] : List Value).toArray 28 (0, 0)), M_248, M_256] Z := hS''
                  clear hS' hS''
                  refine wpList_nil ?_
                  refine x_then_n ⟨(hS.sub (.cons (le_245.trans le_253) (.cons (Mem.no_le _) (.cons (Mem.le.refl _) (.cons (Mem.le.refl _) (.cons (Mem.le.refl _) (.cons (Mem.le.refl _) (.cons (Mem.le.refl _) (Sub.nil _))))))))), ?_⟩
                  refine h_event 22 [true, true, true, true, true, true, true, true, true, true, true, true, true, true, true, true, true, true, true, true, true, true, true, false, false].toArray rfl (by kernel_rfl) rfl ?_
                  refine s_on hm rfl rfl (nf (beq_iff_eq.2 hc_231)) ?_
                  refine s_b2s hm rfl Try.underlying23 Try.underlying5 Try.underlying9 rfl (hr_255.rd (J := hp w_251) (hS.own 8) (Mem.no_le _)) (Mem.le.refl _) ?_
                  clear hm a; intro a hm
                  refine wpList_nil ?_
                  refine x_then_n ⟨(hS.sub (.cons (le_245.trans le_253) (.cons (Mem.no_le _) (.cons (Mem.le.refl _) (.cons (Mem.le.refl _) (.cons (Mem.le.refl _) (.cons (Mem.le.refl _) (.cons (Mem.le.refl _) (Sub.nil _))))))))), ?_⟩
                  refine h_take_on 23 [true, true, true, true, true, true, true, true, true, true, true, true, true, true, true, true, true, true, true, true, true, true, true, true, false].toArray rfl (by kernel_rfl) (by kernel_rfl) (by kernel_rfl) (fun _ _ _ _ h => h) rfl rfl rfl rfl (nf (beq_iff_eq.2 hc_231)) rfl rfl hm (hS.sub (.cons (le_245.trans le_253) (.cons (Mem.no_le _) (.cons (Mem.le.refl _) (.cons (Mem.le.refl _) (.cons (Mem.le.refl _) (.cons (Mem.le.refl _) (.cons (Mem.le.refl _) (Sub.nil _))))))))) (v := .bool (!(t_242 == t_250))) (fun w hS => r_strEq (b := !(t_242 == t_250)) hm rfl rfl (.inr ⟨rfl, rfl⟩)) ?_
                  clear hm a; intro a hm
                  refine h_take 24 [true, true, true, true, true, true, true, true, true, true, true, true, true, true, true, true, true, true, true, true, true, true, true, true, true].toArray rfl (by kernel_rfl) (by kernel_rfl) (by kernel_rfl) (fun _ _ _ _ h => h) rfl rfl rfl rfl hm (hS.sub (.cons (le_245.trans le_253) (.cons (Mem.no_le _) (.cons (Mem.le.refl _) (.cons (Mem.le.refl _) (.cons (Mem.le.refl _) (.cons (Mem.le.refl _) (.cons (Mem.le.refl _) (Sub.nil _))))))))) (v := .bool (!(t_242 == t_250))) (fun w hS => r_pick_f hm rfl (nf (beq_iff_eq.2 hc_231)) rfl) ?_
                  clear hm a; intro a hm
                  refine h_done (by kernel_rfl) ?_
                  replace hm : Fr 153 a [(2, p2_2), (3, p3_3), (8, .bool false), (9, .pointer (some ⟨g_10, 0, none⟩)), (10, .pointer (some ⟨g_22, 0, none⟩)), (11, .int .i64 x_60), (12, .pointer (some ⟨g_99, 0, none⟩)), (13, .int .i64 x_113), (119, .bool (!(t_242 == t_250)))] := hm.keep [2, 3, 8, 9, 10, 11, 12, 13, 119]
                  replace hS : Sep w0 w_251 [N_253, Mem.no, Mem.one g_10 (.cells ([v_62, v_64] : List Value).toArray 25 (0, 0)), Mem.one g_22 (.cells ([v_67, v_69] : List Value).toArray 25 (0, 0)), Mem.one g_99 (.cells ([.int .i64 (shr .i64 t_83 3), .int .i64 t_88, .int .i64 (shr .i64 t_93 (wu64 x_60))] : List Value).toArray 28 (0, 0)), Mem.one g_121 (.cells ([.int .i64 t_116.1.Inc, .int .i64 t_116.1.Prom, .int .i64 t_116.1.Inst] : List Value).toArray 28 (0, 0)), Mem.one g_128 (.cells ([.int .i64 t_123.1.Inc, .int .i64 t_123.1.Prom, .int .i64 t_123.1.Inst] : List Value).toArray 28 (0, 0)), M_248, M_256] Z := hS
                  replace hm : Fr 153 a [(2, p2_2), (3, p3_3), (8, .bool false), (9, .pointer (some ⟨g_10, 0, none⟩)), (10, .pointer (some ⟨g_22, 0, none⟩)), (11, .int .i64 x_60), (12, .pointer (some ⟨g_99, 0, none⟩)), (13, .int .i64 x_113), (119, .bool (!(t_242 == t_250)))] := hm.keep [2, 3, 8, 9, 10, 11, 12, 13, 119]
                  exact x_then_n (hJ_j_135 (!(t_242 == t_250)) H _ _ ⟨N_253, hm, (Sep.sel hS [0, 1000, 2, 3, 4, 1004, 1005] (by decide)), (le_245.trans le_253)⟩)
                · refine ⟨_, [true, true, true, true, true, true, true, true, true, true, true, true, true, true, true, false, true, true, true, true, true, true, false, false, false].toArray, rfl, rfl, ?_⟩
                  refine s_on hm rfl rfl (nf (beq_iff_eq.2 hc_231)) ?_
                  refine s_call hm rfl Try.call16 rfl (hocketref11_Slot.calls K t_237 (⟨shr .i64 t_83 3, t_88, shr .i64 t_93 (wu64 x_60)⟩ : api_Record) t_250 w0 _ _ _ (Mem.le.refl _) (hS.enter [] (by decide))  et_250) ?_
                  rintro v_262 w_259 ⟨_, N_260, M_264, rfl, hS', hr_263⟩
                  clear hm a; intro a hm
                  obtain ⟨N_261, hS'', le_261, ln_261⟩ := hS.call [] (by decide) rfl (l' := []) (ow := [M_264]) rfl hS'
                  replace hS : Sep w0 w_259 [N_261, Mem.no, Mem.one g_10 (.cells ([v_62, v_64] : List Value).toArray 25 (0, 0)), Mem.one g_22 (.cells ([v_67, v_69] : List Value).toArray 25 (0, 0)), Mem.one g_99 (.cells ([.int .i64 (shr .i64 t_83 3), .int .i64 t_88, .int .i64 (shr .i64 t_93 (wu64 x_60))] : List Value).toArray 28 (0, 0)), Mem.one g_121 (.cells ([.int .i64 t_116.1.Inc, .int .i64 t_116.1.Prom, .int .i64 t_116.1.Inst] : List Value).toArray 28 (0, 0)), Mem.one g_128 (.cells ([.int .i64 t_123.1.Inc, .int .i64 t_123.1.Prom, .int .i64 t_123.1.Inst] : List Value).toArray 28 (0, 0)), M_248, M_264] Z := hS''
                  clear hS' hS''
                  refine wpList_nil ?_
                  refine x_then_n ⟨(hS.sub (.cons (le_245.trans le_261) (.cons (Mem.no_le _) (.cons (Mem.le.refl _) (.cons (Mem.le.refl _) (.cons (Mem.le.refl _) (.cons (Mem.le.refl _) (.cons (Mem.le.refl _) (Sub.nil _))))))))), ?_⟩
                  refine h_events [15, 22] (by kernel_rfl) (by simp) ?_
                  intro i hi; simp only [List.mem_cons, List.not_mem_nil, or_false] at hi; rcases hi with rfl | rfl
                  · refine ⟨_, [true, true, true, true, true, true, true, true, true, true, true, true, true, true, true, true, true, true, true, true, true, true, false, false, false].toArray, rfl, rfl, ?_⟩
                    refine s_on hm rfl rfl (nf (beq_iff_eq.2 hc_231)) ?_
                    refine s_b2s hm rfl Try.underlying23 Try.underlying5 Try.underlying9 rfl (hr_247.rd (J := hp w_259) (hS.own 7) (Mem.no_le _)) (Mem.le.refl _) ?_
                    clear hm a; intro a hm
                    refine wpList_nil ?_
                    refine x_then_n ⟨(hS.sub (.cons (le_245.trans le_261) (.cons (Mem.no_le _) (.cons (Mem.le.refl _) (.cons (Mem.le.refl _) (.cons (Mem.le.refl _) (.cons (Mem.le.refl _) (.cons (Mem.le.refl _) (Sub.nil _))))))))), ?_⟩
                    refine h_event 22 [true, true, true, true, true, true, true, true, true, true, true, true, true, true, true, true, true, true, true, true, true, true, true, false, false].toArray rfl (by kernel_rfl) rfl ?_
                    refine s_on hm rfl rfl (nf (beq_iff_eq.2 hc_231)) ?_
                    refine s_b2s hm rfl Try.underlying23 Try.underlying5 Try.underlying9 rfl (hr_263.rd (J := hp w_259) (hS.own 8) (Mem.no_le _)) (Mem.le.refl _) ?_
                    clear hm a; intro a hm
                    refine wpList_nil ?_
                    refine x_then_n ⟨(hS.sub (.cons (le_245.trans le_261) (.cons (Mem.no_le _) (.cons (Mem.le.refl _) (.cons (Mem.le.refl _) (.cons (Mem.le.refl _) (.cons (Mem.le.refl _) (.cons (Mem.le.refl _) (Sub.nil _))))))))), ?_⟩
                    refine h_take_on 23 [true, true, true, true, true, true, true, true, true, true, true, true, true, true, true, true, true, true, true, true, true, true, true, true, false].toArray rfl (by kernel_rfl) (by kernel_rfl) (by kernel_rfl) (fun _ _ _ _ h => h) rfl rfl rfl rfl (nf (beq_iff_eq.2 hc_231)) rfl rfl hm (hS.sub (.cons (le_245.trans le_261) (.cons (Mem.no_le _) (.cons (Mem.le.refl _) (.cons (Mem.le.refl _) (.cons (Mem.le.refl _) (.cons (Mem.le.refl _) (.cons (Mem.le.refl _) (Sub.nil _))))))))) (v := .bool (!(t_242 == t_250))) (fun w hS => r_strEq (b := !(t_242 == t_250)) hm rfl rfl (.inr ⟨rfl, rfl⟩)) ?_
                    clear hm a; intro a hm
                    refine h_take 24 [true, true, true, true, true, true, true, true, true, true, true, true, true, true, true, true, true, true, true, true, true, true, true, true, true].toArray rfl (by kernel_rfl) (by kernel_rfl) (by kernel_rfl) (fun _ _ _ _ h => h) rfl rfl rfl rfl hm (hS.sub (.cons (le_245.trans le_261) (.cons (Mem.no_le _) (.cons (Mem.le.refl _) (.cons (Mem.le.refl _) (.cons (Mem.le.refl _) (.cons (Mem.le.refl _) (.cons (Mem.le.refl _) (Sub.nil _))))))))) (v := .bool (!(t_242 == t_250))) (fun w hS => r_pick_f hm rfl (nf (beq_iff_eq.2 hc_231)) rfl) ?_
                    clear hm a; intro a hm
                    refine h_done (by kernel_rfl) ?_
                    replace hm : Fr 153 a [(2, p2_2), (3, p3_3), (8, .bool false), (9, .pointer (some ⟨g_10, 0, none⟩)), (10, .pointer (some ⟨g_22, 0, none⟩)), (11, .int .i64 x_60), (12, .pointer (some ⟨g_99, 0, none⟩)), (13, .int .i64 x_113), (119, .bool (!(t_242 == t_250)))] := hm.keep [2, 3, 8, 9, 10, 11, 12, 13, 119]
                    replace hS : Sep w0 w_259 [N_261, Mem.no, Mem.one g_10 (.cells ([v_62, v_64] : List Value).toArray 25 (0, 0)), Mem.one g_22 (.cells ([v_67, v_69] : List Value).toArray 25 (0, 0)), Mem.one g_99 (.cells ([.int .i64 (shr .i64 t_83 3), .int .i64 t_88, .int .i64 (shr .i64 t_93 (wu64 x_60))] : List Value).toArray 28 (0, 0)), Mem.one g_121 (.cells ([.int .i64 t_116.1.Inc, .int .i64 t_116.1.Prom, .int .i64 t_116.1.Inst] : List Value).toArray 28 (0, 0)), Mem.one g_128 (.cells ([.int .i64 t_123.1.Inc, .int .i64 t_123.1.Prom, .int .i64 t_123.1.Inst] : List Value).toArray 28 (0, 0)), M_248, M_264] Z := hS
                    replace hm : Fr 153 a [(2, p2_2), (3, p3_3), (8, .bool false), (9, .pointer (some ⟨g_10, 0, none⟩)), (10, .pointer (some ⟨g_22, 0, none⟩)), (11, .int .i64 x_60), (12, .pointer (some ⟨g_99, 0, none⟩)), (13, .int .i64 x_113), (119, .bool (!(t_242 == t_250)))] := hm.keep [2, 3, 8, 9, 10, 11, 12, 13, 119]
                    exact x_then_n (hJ_j_135 (!(t_242 == t_250)) H _ _ ⟨N_261, hm, (Sep.sel hS [0, 1000, 2, 3, 4, 1004, 1005] (by decide)), (le_245.trans le_261)⟩)
                  · refine ⟨_, [true, true, true, true, true, true, true, true, true, true, true, true, true, true, true, false, true, true, true, true, true, true, true, false, false].toArray, rfl, rfl, ?_⟩
                    refine s_on hm rfl rfl (nf (beq_iff_eq.2 hc_231)) ?_
                    refine s_b2s hm rfl Try.underlying23 Try.underlying5 Try.underlying9 rfl (hr_263.rd (J := hp w_259) (hS.own 8) (Mem.no_le _)) (Mem.le.refl _) ?_
                    clear hm a; intro a hm
                    refine wpList_nil ?_
                    refine x_then_n ⟨(hS.sub (.cons (le_245.trans le_261) (.cons (Mem.no_le _) (.cons (Mem.le.refl _) (.cons (Mem.le.refl _) (.cons (Mem.le.refl _) (.cons (Mem.le.refl _) (.cons (Mem.le.refl _) (Sub.nil _))))))))), ?_⟩
                    refine h_event 15 [true, true, true, true, true, true, true, true, true, true, true, true, true, true, true, true, true, true, true, true, true, true, true, false, false].toArray rfl (by kernel_rfl) rfl ?_
                    refine s_on hm rfl rfl (nf (beq_iff_eq.2 hc_231)) ?_
                    refine s_b2s hm rfl Try.underlying23 Try.underlying5 Try.underlying9 rfl (hr_247.rd (J := hp w_259) (hS.own 7) (Mem.no_le _)) (Mem.le.refl _) ?_
                    clear hm a; intro a hm
                    refine wpList_nil ?_
                    refine x_then_n ⟨(hS.sub (.cons (le_245.trans le_261) (.cons (Mem.no_le _) (.cons (Mem.le.refl _) (.cons (Mem.le.refl _) (.cons (Mem.le.refl _) (.cons (Mem.le.refl _) (.cons (Mem.le.refl _) (Sub.nil _))))))))), ?_⟩
                    refine h_take_on 23 [true, true, true, true, true, true, true, true, true, true, true, true, true, true, true, true, true, true, true, true, true, true, true, true, false].toArray rfl (by kernel_rfl) (by kernel_rfl) (by kernel_rfl) (fun _ _ _ _ h => h) rfl rfl rfl rfl (nf (beq_iff_eq.2 hc_231)) rfl rfl hm (hS.sub (.cons (le_245.trans le_261) (.cons (Mem.no_le _) (.cons (Mem.le.refl _) (.cons (Mem.le.refl _) (.cons (Mem.le.refl _) (.cons (Mem.le.refl _) (.cons (Mem.le.refl _) (Sub.nil _))))))))) (v := .bool (!(t_242 == t_250))) (fun w hS => r_strEq (b := !(t_242 == t_250)) hm rfl rfl (.inr ⟨rfl, rfl⟩)) ?_
                    clear hm a; intro a hm
                    refine h_take 24 [true, true, true, true, true, true, true, true, true, true, true, true, true, true, true, true, true, true, true, true, true, true, true, true, true].toArray rfl (by kernel_rfl) (by kernel_rfl) (by kernel_rfl) (fun _ _ _ _ h => h) rfl rfl rfl rfl hm (hS.sub (.cons (le_245.trans le_261) (.cons (Mem.no_le _) (.cons (Mem.le.refl _) (.cons (Mem.le.refl _) (.cons (Mem.le.refl _) (.cons (Mem.le.refl _) (.cons (Mem.le.refl _) (Sub.nil _))))))))) (v := .bool (!(t_242 == t_250))) (fun w hS => r_pick_f hm rfl (nf (beq_iff_eq.2 hc_231)) rfl) ?_
                    clear hm a; intro a hm
                    refine h_done (by kernel_rfl) ?_
                    replace hm : Fr 153 a [(2, p2_2), (3, p3_3), (8, .bool false), (9, .pointer (some ⟨g_10, 0, none⟩)), (10, .pointer (some ⟨g_22, 0, none⟩)), (11, .int .i64 x_60), (12, .pointer (some ⟨g_99, 0, none⟩)), (13, .int .i64 x_113), (119, .bool (!(t_242 == t_250)))] := hm.keep [2, 3, 8, 9, 10, 11, 12, 13, 119]
                    replace hS : Sep w0 w_259 [N_261, Mem.no, Mem.one g_10 (.cells ([v_62, v_64] : List Value).toArray 25 (0, 0)), Mem.one g_22 (.cells ([v_67, v_69] : List Value).toArray 25 (0, 0)), Mem.one g_99 (.cells ([.int .i64 (shr .i64 t_83 3), .int .i64 t_88, .int .i64 (shr .i64 t_93 (wu64 x_60))] : List Value).toArray 28 (0, 0)), Mem.one g_121 (.cells ([.int .i64 t_116.1.Inc, .int .i64 t_116.1.Prom, .int .i64 t_116.1.Inst] : List Value).toArray 28 (0, 0)), Mem.one g_128 (.cells ([.int .i64 t_123.1.Inc, .int .i64 t_123.1.Prom, .int .i64 t_123.1.Inst] : List Value).toArray 28 (0, 0)), M_248, M_264] Z := hS
                    replace hm : Fr 153 a [(2, p2_2), (3, p3_3), (8, .bool false), (9, .pointer (some ⟨g_10, 0, none⟩)), (10, .pointer (some ⟨g_22, 0, none⟩)), (11, .int .i64 x_60), (12, .pointer (some ⟨g_99, 0, none⟩)), (13, .int .i64 x_113), (119, .bool (!(t_242 == t_250)))] := hm.keep [2, 3, 8, 9, 10, 11, 12, 13, 119]
                    exact x_then_n (hJ_j_135 (!(t_242 == t_250)) H _ _ ⟨N_261, hm, (Sep.sel hS [0, 1000, 2, 3, 4, 1004, 1005] (by decide)), (le_245.trans le_261)⟩)
              · rw [if_neg hc_231] at H
                refine h_take_off 9 [true, true, true, true, true, true, true, true, true, true, false, false, false, false, false, false, false, false, false, false, false, false, false, false, false].toArray rfl (by kernel_rfl) (by kernel_rfl) (by kernel_rfl) (fun _ _ _ _ h => h) rfl rfl rfl rfl (.inl (congrArg Value.bool (nt (beq_eq_false_iff_ne.2 hc_231)))) rfl rfl hm (hS.sub (.cons (Mem.le.refl _) (.cons (Mem.no_le _) (.cons (Mem.le.refl _) (.cons (Mem.le.refl _) (.cons (Mem.le.refl _) (.cons (Mem.le.refl _) (.cons (Mem.le.refl _) (Sub.nil _))))))))) ?_
                clear hm a; intro a hm
                refine h_take_off 10 [true, true, true, true, true, true, true, true, true, true, true, false, false, false, false, false, false, false, false, false, false, false, false, false, false].toArray rfl (by kernel_rfl) (by kernel_rfl) (by kernel_rfl) (fun _ _ _ _ h => h) rfl rfl rfl rfl (.inl (congrArg Value.bool (nt (beq_eq_false_iff_ne.2 hc_231)))) rfl rfl hm (hS.sub (.cons (Mem.le.refl _) (.cons (Mem.no_le _) (.cons (Mem.le.refl _) (.cons (Mem.le.refl _) (.cons (Mem.le.refl _) (.cons (Mem.le.refl _) (.cons (Mem.le.refl _) (Sub.nil _))))))))) ?_
                clear hm a; intro a hm
                refine h_take_off 11 [true, true, true, true, true, true, true, true, true, true, true, true, false, false, false, false, false, false, false, false, false, false, false, false, false].toArray rfl (by kernel_rfl) (by kernel_rfl) (by kernel_rfl) (fun _ _ _ _ h => h) rfl rfl rfl rfl (.inl (congrArg Value.bool (nt (beq_eq_false_iff_ne.2 hc_231)))) rfl rfl hm (hS.sub (.cons (Mem.le.refl _) (.cons (Mem.no_le _) (.cons (Mem.le.refl _) (.cons (Mem.le.refl _) (.cons (Mem.le.refl _) (.cons (Mem.le.refl _) (.cons (Mem.le.refl _) (Sub.nil _))))))))) ?_
                clear hm a; intro a hm
                refine h_take_off 12 [true, true, true, true, true, true, true, true, true, true, true, true, true, false, false, false, false, false, false, false, false, false, false, false, false].toArray rfl (by kernel_rfl) (by kernel_rfl) (by kernel_rfl) (fun _ _ _ _ h => h) rfl rfl rfl rfl (.inl (congrArg Value.bool (nt (beq_eq_false_iff_ne.2 hc_231)))) rfl rfl hm (hS.sub (.cons (Mem.le.refl _) (.cons (Mem.no_le _) (.cons (Mem.le.refl _) (.cons (Mem.le.refl _) (.cons (Mem.le.refl _) (.cons (Mem.le.refl _) (.cons (Mem.le.refl _) (Sub.nil _))))))))) ?_
                clear hm a; intro a hm
                refine h_take_off 13 [true, true, true, true, true, true, true, true, true, true, true, true, true, true, false, false, false, false, false, false, false, false, false, false, false].toArray rfl (by kernel_rfl) (by kernel_rfl) (by kernel_rfl) (fun _ _ _ _ h => h) rfl rfl rfl rfl (.inl (congrArg Value.bool (nt (beq_eq_false_iff_ne.2 hc_231)))) rfl rfl hm (hS.sub (.cons (Mem.le.refl _) (.cons (Mem.no_le _) (.cons (Mem.le.refl _) (.cons (Mem.le.refl _) (.cons (Mem.le.refl _) (.cons (Mem.le.refl _) (.cons (Mem.le.refl _) (Sub.nil _))))))))) ?_
                clear hm a; intro a hm
                refine h_take_off 14 [true, true, true, true, true, true, true, true, true, true, true, true, true, true, true, false, false, false, false, false, false, false, false, false, false].toArray rfl (by kernel_rfl) (by kernel_rfl) (by kernel_rfl) (fun _ _ _ _ h => h) rfl rfl rfl rfl (.inl (congrArg Value.bool (nt (beq_eq_false_iff_ne.2 hc_231)))) rfl rfl hm (hS.sub (.cons (Mem.le.refl _) (.cons (Mem.no_le _) (.cons (Mem.le.refl _) (.cons (Mem.le.refl _) (.cons (Mem.le.refl _) (.cons (Mem.le.refl _) (.cons (Mem.le.refl _) (Sub.nil _))))))))) ?_
                clear hm a; intro a hm
                refine h_take_off 15 [true, true, true, true, true, true, true, true, true, true, true, true, true, true, true, true, false, false, false, false, false, false, false, false, false].toArray rfl (by kernel_rfl) (by kernel_rfl) (by kernel_rfl) (fun _ _ _ _ h => h) rfl rfl rfl rfl (.inl (congrArg Value.bool (nt (beq_eq_false_iff_ne.2 hc_231)))) rfl rfl hm (hS.sub (.cons (Mem.le.refl _) (.cons (Mem.no_le _) (.cons (Mem.le.refl _) (.cons (Mem.le.refl _) (.cons (Mem.le.refl _) (.cons (Mem.le.refl _) (.cons (Mem.le.refl _) (Sub.nil _))))))))) ?_
                clear hm a; intro a hm
                refine h_take_off 16 [true, true, true, true, true, true, true, true, true, true, true, true, true, true, true, true, true, false, false, false, false, false, false, false, false].toArray rfl (by kernel_rfl) (by kernel_rfl) (by kernel_rfl) (fun _ _ _ _ h => h) rfl rfl rfl rfl (.inl (congrArg Value.bool (nt (beq_eq_false_iff_ne.2 hc_231)))) rfl rfl hm (hS.sub (.cons (Mem.le.refl _) (.cons (Mem.no_le _) (.cons (Mem.le.refl _) (.cons (Mem.le.refl _) (.cons (Mem.le.refl _) (.cons (Mem.le.refl _) (.cons (Mem.le.refl _) (Sub.nil _))))))))) ?_
                clear hm a; intro a hm
                refine h_take_off 17 [true, true, true, true, true, true, true, true, true, true, true, true, true, true, true, true, true, true, false, false, false, false, false, false, false].toArray rfl (by kernel_rfl) (by kernel_rfl) (by kernel_rfl) (fun _ _ _ _ h => h) rfl rfl rfl rfl (.inl (congrArg Value.bool (nt (beq_eq_false_iff_ne.2 hc_231)))) rfl rfl hm (hS.sub (.cons (Mem.le.refl _) (.cons (Mem.no_le _) (.cons (Mem.le.refl _) (.cons (Mem.le.refl _) (.cons (Mem.le.refl _) (.cons (Mem.le.refl _) (.cons (Mem.le.refl _) (Sub.nil _))))))))) ?_
                clear hm a; intro a hm
                refine h_take_off 18 [true, true, true, true, true, true, true, true, true, true, true, true, true, true, true, true, true, true, true, false, false, false, false, false, false].toArray rfl (by kernel_rfl) (by kernel_rfl) (by kernel_rfl) (fun _ _ _ _ h => h) rfl rfl rfl rfl (.inl (congrArg Value.bool (nt (beq_eq_false_iff_ne.2 hc_231)))) rfl rfl hm (hS.sub (.cons (Mem.le.refl _) (.cons (Mem.no_le _) (.cons (Mem.le.refl _) (.cons (Mem.le.refl _) (.cons (Mem.le.refl _) (.cons (Mem.le.refl _) (.cons (Mem.le.refl _) (Sub.nil _))))))))) ?_
                clear hm a; intro a hm
                refine h_take_off 19 [true, true, true, true, true, true, true, true, true, true, true, true, true, true, true, true, true, true, true, true, false, false, false, false, false].toArray rfl (by kernel_rfl) (by kernel_rfl) (by kernel_rfl) (fun _ _ _ _ h => h) rfl rfl rfl rfl (.inl (congrArg Value.bool (nt (beq_eq_false_iff_ne.2 hc_231)))) rfl rfl hm (hS.sub (.cons (Mem.le.refl _) (.cons (Mem.no_le _) (.cons (Mem.le.refl _) (.cons (Mem.le.refl _) (.cons (Mem.le.refl _) (.cons (Mem.le.refl _) (.cons (Mem.le.refl _) (Sub.nil _))))))))) ?_
                clear hm a; intro a hm
                refine h_take_off 20 [true, true, true, true, true, true, true, true, true, true, true, true, true, true, true, true, true, true, true, true, true, false, false, false, false].toArray rfl (by kernel_rfl) (by kernel_rfl) (by kernel_rfl) (fun _ _ _ _ h => h) rfl rfl rfl rfl (.inl (congrArg Value.bool (nt (beq_eq_false_iff_ne.2 hc_231)))) rfl rfl hm (hS.sub (.cons (Mem.le.refl _) (.cons (Mem.no_le _) (.cons (Mem.le.refl _) (.cons (Mem.le.refl _) (.cons (Mem.le.refl _) (.cons (Mem.le.refl _) (.cons (Mem.le.refl _) (Sub.nil _))))))))) ?_
                clear hm a; intro a hm
                refine h_take_off 21 [true, true, true, true, true, true, true, true, true, true, true, true, true, true, true, true, true, true, true, true, true, true, false, false, false].toArray rfl (by kernel_rfl) (by kernel_rfl) (by kernel_rfl) (fun _ _ _ _ h => h) rfl rfl rfl rfl (.inl (congrArg Value.bool (nt (beq_eq_false_iff_ne.2 hc_231)))) rfl rfl hm (hS.sub (.cons (Mem.le.refl _) (.cons (Mem.no_le _) (.cons (Mem.le.refl _) (.cons (Mem.le.refl _) (.cons (Mem.le.refl _) (.cons (Mem.le.refl _) (.cons (Mem.le.refl _) (Sub.nil _))))))))) ?_
                clear hm a; intro a hm
                refine h_take_off 22 [true, true, true, true, true, true, true, true, true, true, true, true, true, true, true, true, true, true, true, true, true, true, true, false, false].toArray rfl (by kernel_rfl) (by kernel_rfl) (by kernel_rfl) (fun _ _ _ _ h => h) rfl rfl rfl rfl (.inl (congrArg Value.bool (nt (beq_eq_false_iff_ne.2 hc_231)))) rfl rfl hm (hS.sub (.cons (Mem.le.refl _) (.cons (Mem.no_le _) (.cons (Mem.le.refl _) (.cons (Mem.le.refl _) (.cons (Mem.le.refl _) (.cons (Mem.le.refl _) (.cons (Mem.le.refl _) (Sub.nil _))))))))) ?_
                clear hm a; intro a hm
                refine h_take_off 23 [true, true, true, true, true, true, true, true, true, true, true, true, true, true, true, true, true, true, true, true, true, true, true, true, false].toArray rfl (by kernel_rfl) (by kernel_rfl) (by kernel_rfl) (fun _ _ _ _ h => h) rfl rfl rfl rfl (.inl (congrArg Value.bool (nt (beq_eq_false_iff_ne.2 hc_231)))) rfl rfl hm (hS.sub (.cons (Mem.le.refl _) (.cons (Mem.no_le _) (.cons (Mem.le.refl _) (.cons (Mem.le.refl _) (.cons (Mem.le.refl _) (.cons (Mem.le.refl _) (.cons (Mem.le.refl _) (Sub.nil _))))))))) ?_
                clear hm a; intro a hm
                refine h_take 24 [true, true, true, true, true, true, true, true, true, true, true, true, true, true, true, true, true, true, true, true, true, true, true, true, true].toArray rfl (by kernel_rfl) (by kernel_rfl) (by kernel_rfl) (fun _ _ _ _ h => h) rfl rfl rfl rfl hm (hS.sub (.cons (Mem.le.refl _) (.cons (Mem.no_le _) (.cons (Mem.le.refl _) (.cons (Mem.le.refl _) (.cons (Mem.le.refl _) (.cons (Mem.le.refl _) (.cons (Mem.le.refl _) (Sub.nil _))))))))) (v := .bool true) (fun w hS => r_pick_t hm rfl (nt (beq_eq_false_iff_ne.2 hc_231)) rfl) ?_
                clear hm a; intro a hm
                refine h_done (by kernel_rfl) ?_
                replace hm : Fr 153 a [(2, p2_2), (3, p3_3), (8, .bool false), (9, .pointer (some ⟨g_10, 0, none⟩)), (10, .pointer (some ⟨g_22, 0, none⟩)), (11, .int .i64 x_60), (12, .pointer (some ⟨g_99, 0, none⟩)), (13, .int .i64 x_113), (119, .bool true)] := hm.keep [2, 3, 8, 9, 10, 11, 12, 13, 119]
                replace hS : Sep w0 w_229 [N_126, Mem.no, Mem.one g_10 (.cells ([v_62, v_64] : List Value).toArray 25 (0, 0)), Mem.one g_22 (.cells ([v_67, v_69] : List Value).toArray 25 (0, 0)), Mem.one g_99 (.cells ([.int .i64 (shr .i64 t_83 3), .int .i64 t_88, .int .i64 (shr .i64 t_93 (wu64 x_60))] : List Value).toArray 28 (0, 0)), Mem.one g_121 (.cells ([.int .i64 t_116.1.Inc, .int .i64 t_116.1.Prom, .int .i64 t_116.1.Inst] : List Value).toArray 28 (0, 0)), Mem.one g_128 (.cells ([.int .i64 t_123.1.Inc, .int .i64 t_123.1.Prom, .int .i64 t_123.1.Inst] : List Value).toArray 28 (0, 0))] Z := hS
                replace hm : Fr 153 a [(2, p2_2), (3, p3_3), (8, .bool false), (9, .pointer (some ⟨g_10, 0, none⟩)), (10, .pointer (some ⟨g_22, 0, none⟩)), (11, .int .i64 x_60), (12, .pointer (some ⟨g_99, 0, none⟩)), (13, .int .i64 x_113), (119, .bool true)] := hm.keep [2, 3, 8, 9, 10, 11, 12, 13, 119]
                exact x_then_n (hJ_j_135 true H _ _ ⟨N_126, hm, (Sep.sel hS [0, 1000, 2, 3, 4, 1004, 1005] (by decide)), (Mem.le.refl _)⟩)
            · rw [if_neg hc_230] at H
              refine h_take_off 4 [true, true, true, true, true, false, false, false, false, false, false, false, false, false, false, false, false, false, false, false, false, false, false, false, false].toArray rfl (by kernel_rfl) (by kernel_rfl) (by kernel_rfl) (fun _ _ _ _ h => h) rfl rfl rfl rfl (.inl (congrArg Value.bool (nt (beq_eq_false_iff_ne.2 hc_230)))) rfl rfl hm (hS.sub (.cons (Mem.le.refl _) (.cons (Mem.no_le _) (.cons (Mem.le.refl _) (.cons (Mem.le.refl _) (.cons (Mem.le.refl _) (.cons (Mem.le.refl _) (.cons (Mem.le.refl _) (Sub.nil _))))))))) ?_
              clear hm a; intro a hm
              refine h_take_off 5 [true, true, true, true, true, true, false, false, false, false, false, false, false, false, false, false, false, false, false, false, false, false, false, false, false].toArray rfl (by kernel_rfl) (by kernel_rfl) (by kernel_rfl) (fun _ _ _ _ h => h) rfl rfl rfl rfl (.inl (congrArg Value.bool (nt (beq_eq_false_iff_ne.2 hc_230)))) rfl rfl hm (hS.sub (.cons (Mem.le.refl _) (.cons (Mem.no_le _) (.cons (Mem.le.refl _) (.cons (Mem.le.refl _) (.cons (Mem.le.refl _) (.cons (Mem.le.refl _) (.cons (Mem.le.refl _) (Sub.nil _))))))))) ?_
              clear hm a; intro a hm
              refine h_take_off 6 [true, true, true, true, true, true, true, false, false, false, false, false, false, false, false, false, false, false, false, false, false, false, false, false, false].toArray rfl (by kernel_rfl) (by kernel_rfl) (by kernel_rfl) (fun _ _ _ _ h => h) rfl rfl rfl rfl (.inl (congrArg Value.bool (nt (beq_eq_false_iff_ne.2 hc_230)))) rfl rfl hm (hS.sub (.cons (Mem.le.refl _) (.cons (Mem.no_le _) (.cons (Mem.le.refl _) (.cons (Mem.le.refl _) (.cons (Mem.le.refl _) (.cons (Mem.le.refl _) (.cons (Mem.le.refl _) (Sub.nil _))))))))) ?_
              clear hm a; intro a hm
              refine h_take 7 [true, true, true, true, true, true, true, true, false, false, false, false, false, false, false, false, false, false, false, false, false, false, false, false, false].toArray rfl (by kernel_rfl) (by kernel_rfl) (by kernel_rfl) (fun _ _ _ _ h => h) rfl rfl rfl rfl hm (hS.sub (.cons (Mem.le.refl _) (.cons (Mem.no_le _) (.cons (Mem.le.refl _) (.cons (Mem.le.refl _) (.cons (Mem.le.refl _) (.cons (Mem.le.refl _) (.cons (Mem.le.refl _) (Sub.nil _))))))))) (v := .bool true) (fun w hS => r_pick_t hm rfl (nt (beq_eq_false_iff_ne.2 hc_230)) rfl) ?_
              clear hm a; intro a hm
              refine h_take 8 [true, true, true, true, true, true, true, true, true, false, false, false, false, false, false, false, false, false, false, false, false, false, false, false, false].toArray rfl (by kernel_rfl) (by kernel_rfl) (by kernel_rfl) (fun _ _ _ _ h => h) rfl rfl rfl rfl hm (hS.sub (.cons (Mem.le.refl _) (.cons (Mem.no_le _) (.cons (Mem.le.refl _) (.cons (Mem.le.refl _) (.cons (Mem.le.refl _) (.cons (Mem.le.refl _) (.cons (Mem.le.refl _) (Sub.nil _))))))))) (v := .bool true) (fun w hS => r_move hm rfl) ?_
              clear hm a; intro a hm
              refine h_take_off 9 [true, true, true, true, true, true, true, true, true, true, false, false, false, false, false, false, false, false, false, false, false, false, false, false, false].toArray rfl (by kernel_rfl) (by kernel_rfl) (by kernel_rfl) (fun _ _ _ _ h => h) rfl rfl rfl rfl (.inl (congrArg Value.bool rfl)) rfl rfl hm (hS.sub (.cons (Mem.le.refl _) (.cons (Mem.no_le _) (.cons (Mem.le.refl _) (.cons (Mem.le.refl _) (.cons (Mem.le.refl _) (.cons (Mem.le.refl _) (.cons (Mem.le.refl _) (Sub.nil _))))))))) ?_
              clear hm a; intro a hm
              refine h_take_off 10 [true, true, true, true, true, true, true, true, true, true, true, false, false, false, false, false, false, false, false, false, false, false, false, false, false].toArray rfl (by kernel_rfl) (by kernel_rfl) (by kernel_rfl) (fun _ _ _ _ h => h) rfl rfl rfl rfl (.inl (congrArg Value.bool rfl)) rfl rfl hm (hS.sub (.cons (Mem.le.refl _) (.cons (Mem.no_le _) (.cons (Mem.le.refl _) (.cons (Mem.le.refl _) (.cons (Mem.le.refl _) (.cons (Mem.le.refl _) (.cons (Mem.le.refl _) (Sub.nil _))))))))) ?_
              clear hm a; intro a hm
              refine h_take_off 11 [true, true, true, true, true, true, true, true, true, true, true, true, false, false, false, false, false, false, false, false, false, false, false, false, false].toArray rfl (by kernel_rfl) (by kernel_rfl) (by kernel_rfl) (fun _ _ _ _ h => h) rfl rfl rfl rfl (.inl (congrArg Value.bool rfl)) rfl rfl hm (hS.sub (.cons (Mem.le.refl _) (.cons (Mem.no_le _) (.cons (Mem.le.refl _) (.cons (Mem.le.refl _) (.cons (Mem.le.refl _) (.cons (Mem.le.refl _) (.cons (Mem.le.refl _) (Sub.nil _))))))))) ?_
              clear hm a; intro a hm
              refine h_take_off 12 [true, true, true, true, true, true, true, true, true, true, true, true, true, false, false, false, false, false, false, false, false, false, false, false, false].toArray rfl (by kernel_rfl) (by kernel_rfl) (by kernel_rfl) (fun _ _ _ _ h => h) rfl rfl rfl rfl (.inl (congrArg Value.bool rfl)) rfl rfl hm (hS.sub (.cons (Mem.le.refl _) (.cons (Mem.no_le _) (.cons (Mem.le.refl _) (.cons (Mem.le.refl _) (.cons (Mem.le.refl _) (.cons (Mem.le.refl _) (.cons (Mem.le.refl _) (Sub.nil _))))))))) ?_
              clear hm a; intro a hm
              refine h_take_off 13 [true, true, true, true, true, true, true, true, true, true, true, true, true, true, false, false, false, false, false, false, false, false, false, false, false].toArray rfl (by kernel_rfl) (by kernel_rfl) (by kernel_rfl) (fun _ _ _ _ h => h) rfl rfl rfl rfl (.inl (congrArg Value.bool rfl)) rfl rfl hm (hS.sub (.cons (Mem.le.refl _) (.cons (Mem.no_le _) (.cons (Mem.le.refl _) (.cons (Mem.le.refl _) (.cons (Mem.le.refl _) (.cons (Mem.le.refl _) (.cons (Mem.le.refl _) (Sub.nil _))))))))) ?_
              clear hm a; intro a hm
              refine h_take_off 14 [true, true, true, true, true, true, true, true, true, true, true, true, true, true, true, false, false, false, false, false, false, false, false, false, false].toArray rfl (by kernel_rfl) (by kernel_rfl) (by kernel_rfl) (fun _ _ _ _ h => h) rfl rfl rfl rfl (.inl (congrArg Value.bool rfl)) rfl rfl hm (hS.sub (.cons (Mem.le.refl _) (.cons (Mem.no_le _) (.cons (Mem.le.refl _) (.cons (Mem.le.refl _) (.cons (Mem.le.refl _) (.cons (Mem.le.refl _) (.cons (Mem.le.refl _) (Sub.nil _))))))))) ?_
              clear hm a; intro a hm
              refine h_take_off 15 [true, true, true, true, true, true, true, true, true, true, true, true, true, true, true, true, false, false, false, false, false, false, false, false, false].toArray rfl (by kernel_rfl) (by kernel_rfl) (by kernel_rfl) (fun _ _ _ _ h => h) rfl rfl rfl rfl (.inl (congrArg Value.bool rfl)) rfl rfl hm (hS.sub (.cons (Mem.le.refl _) (.cons (Mem.no_le _) (.cons (Mem.le.refl _) (.cons (Mem.le.refl _) (.cons (Mem.le.refl _) (.cons (Mem.le.refl _) (.cons (Mem.le.refl _) (Sub.nil _))))))))) ?_
              clear hm a; intro a hm
              refine h_take_off 16 [true, true, true, true, true, true, true, true, true, true, true, true, true, true, true, true, true, false, false, false, false, false, false, false, false].toArray rfl (by kernel_rfl) (by kernel_rfl) (by kernel_rfl) (fun _ _ _ _ h => h) rfl rfl rfl rfl (.inl (congrArg Value.bool rfl)) rfl rfl hm (hS.sub (.cons (Mem.le.refl _) (.cons (Mem.no_le _) (.cons (Mem.le.refl _) (.cons (Mem.le.refl _) (.cons (Mem.le.refl _) (.cons (Mem.le.refl _) (.cons (Mem.le.refl _) (Sub.nil _))))))))) ?_
              clear hm a; intro a hm
              refine h_take_off 17 [true, true, true, true, true, true, true, true, true, true, true, true, true, true, true, true, true, true, false, false, false, false, false, false, false].toArray rfl (by kernel_rfl) (by kernel_rfl) (by kernel_rfl) (fun _ _ _ _ h => h) rfl rfl rfl rfl (.inl (congrArg Value.bool rfl)) rfl rfl hm (hS.sub (.cons (Mem.le.refl _) (.cons (Mem.no_le _) (.cons (Mem.le.refl _) (.cons (Mem.le.refl _) (.cons (Mem.le.refl _) (.cons (Mem.le.refl _) (.cons (Mem.le.refl _) (Sub.nil _))))))))) ?_
              clear hm a; intro a hm
              refine h_take_off 18 [true, true, true, true, true, true, true, true, true, true, true, true, true, true, true, true, true, true, true, false, false, false, false, false, false].toArray rfl (by kernel_rfl) (by kernel_rfl) (by kernel_rfl) (fun _ _ _ _ h => h) rfl rfl rfl rfl (.inl (congrArg Value.bool rfl)) rfl rfl hm (hS.sub (.cons (Mem.le.refl _) (.cons (Mem.no_le _) (.cons (Mem.le.refl _) (.cons (Mem.le.refl _) (.cons (Mem.le.refl _) (.cons (Mem.le.refl _) (.cons (Mem.le.refl _) (Sub.nil _))))))))) ?_
              clear hm a; intro a hm
              refine h_take_off 19 [true, true, true, true, true, true, true, true, true, true, true, true, true, true, true, true, true, true, true, true, false, false, false, false, false].toArray rfl (by kernel_rfl) (by kernel_rfl) (by kernel_rfl) (fun _ _ _ _ h => h) rfl rfl rfl rfl (.inl (congrArg Value.bool rfl)) rfl rfl hm (hS.sub (.cons (Mem.le.refl _) (.cons (Mem.no_le _) (.cons (Mem.le.refl _) (.cons (Mem.le.refl _) (.cons (Mem.le.refl _) (.cons (Mem.le.refl _) (.cons (Mem.le.refl _) (Sub.nil _))))))))) ?_
              clear hm a; intro a hm
              refine h_take_off 20 [true, true, true, true, true, true, true, true, true, true, true, true, true, true, true, true, true, true, true, true, true, false, false, false, false].toArray rfl (by kernel_rfl) (by kernel_rfl) (by kernel_rfl) (fun _ _ _ _ h => h) rfl rfl rfl rfl (.inl (congrArg Value.bool rfl)) rfl rfl hm (hS.sub (.cons (Mem.le.refl _) (.cons (Mem.no_le _) (.cons (Mem.le.refl _) (.cons (Mem.le.refl _) (.cons (Mem.le.refl _) (.cons (Mem.le.refl _) (.cons (Mem.le.refl _) (Sub.nil _))))))))) ?_
              clear hm a; intro a hm
              refine h_take_off 21 [true, true, true, true, true, true, true, true, true, true, true, true, true, true, true, true, true, true, true, true, true, true, false, false, false].toArray rfl (by kernel_rfl) (by kernel_rfl) (by kernel_rfl) (fun _ _ _ _ h => h) rfl rfl rfl rfl (.inl (congrArg Value.bool rfl)) rfl rfl hm (hS.sub (.cons (Mem.le.refl _) (.cons (Mem.no_le _) (.cons (Mem.le.refl _) (.cons (Mem.le.refl _) (.cons (Mem.le.refl _) (.cons (Mem.le.refl _) (.cons (Mem.le.refl _) (Sub.nil _))))))))) ?_
              clear hm a; intro a hm
              refine h_take_off 22 [true, true, true, true, true, true, true, true, true, true, true, true, true, true, true, true, true, true, true, true, true, true, true, false, false].toArray rfl (by kernel_rfl) (by kernel_rfl) (by kernel_rfl) (fun _ _ _ _ h => h) rfl rfl rfl rfl (.inl (congrArg Value.bool rfl)) rfl rfl hm (hS.sub (.cons (Mem.le.refl _) (.cons (Mem.no_le _) (.cons (Mem.le.refl _) (.cons (Mem.le.refl _) (.cons (Mem.le.refl _) (.cons (Mem.le.refl _) (.cons (Mem.le.refl _) (Sub.nil _))))))))) ?_
              clear hm a; intro a hm
              refine h_take_off 23 [true, true, true, true, true, true, true, true, true, true, true, true, true, true, true, true, true, true, true, true, true, true, true, true, false].toArray rfl (by kernel_rfl) (by kernel_rfl) (by kernel_rfl) (fun _ _ _ _ h => h) rfl rfl rfl rfl (.inl (congrArg Value.bool rfl)) rfl rfl hm (hS.sub (.cons (Mem.le.refl _) (.cons (Mem.no_le _) (.cons (Mem.le.refl _) (.cons (Mem.le.refl _) (.cons (Mem.le.refl _) (.cons (Mem.le.refl _) (.cons (Mem.le.refl _) (Sub.nil _))))))))) ?_
              clear hm a; intro a hm
              refine h_take 24 [true, true, true, true, true, true, true, true, true, true, true, true, true, true, true, true, true, true, true, true, true, true, true, true, true].toArray rfl (by kernel_rfl) (by kernel_rfl) (by kernel_rfl) (fun _ _ _ _ h => h) rfl rfl rfl rfl hm (hS.sub (.cons (Mem.le.refl _) (.cons (Mem.no_le _) (.cons (Mem.le.refl _) (.cons (Mem.le.refl _) (.cons (Mem.le.refl _) (.cons (Mem.le.refl _) (.cons (Mem.le.refl _) (Sub.nil _))))))))) (v := .bool true) (fun w hS => r_pick_t hm rfl rfl rfl) ?_
              clear hm a; intro a hm
              refine h_done (by kernel_rfl) ?_
              replace hm : Fr 153 a [(2, p2_2), (3, p3_3), (8, .bool false), (9, .pointer (some ⟨g_10, 0, none⟩)), (10, .pointer (some ⟨g_22, 0, none⟩)), (11, .int .i64 x_60), (12, .pointer (some ⟨g_99, 0, none⟩)), (13, .int .i64 x_113), (119, .bool true)] := hm.keep [2, 3, 8, 9, 10, 11, 12, 13, 119]
              replace hS : Sep w0 w_229 [N_126, Mem.no, Mem.one g_10 (.cells ([v_62, v_64] : List Value).toArray 25 (0, 0)), Mem.one g_22 (.cells ([v_67, v_69] : List Value).toArray 25 (0, 0)), Mem.one g_99 (.cells ([.int .i64 (shr .i64 t_83 3), .int .i64 t_88, .int .i64 (shr .i64 t_93 (wu64 x_60))] : List Value).toArray 28 (0, 0)), Mem.one g_121 (.cells ([.int .i64 t_116.1.Inc, .int .i64 t_116.1.Prom, .int .i64 t_116.1.Inst] : List Value).toArray 28 (0, 0)), Mem.one g_128 (.cells ([.int .i64 t_123.1.Inc, .int .i64 t_123.1.Prom, .int .i64 t_123.1.Inst] : List Value).toArray 28 (0, 0))] Z := hS
              replace hm : Fr 153 a [(2, p2_2), (3, p3_3), (8, .bool false), (9, .pointer (some ⟨g_10, 0, none⟩)), (10, .pointer (some ⟨g_22, 0, none⟩)), (11, .int .i64 x_60), (12, .pointer (some ⟨g_99, 0, none⟩)), (13, .int .i64 x_113), (119, .bool true)] := hm.keep [2, 3, 8, 9, 10, 11, 12, 13, 119]
              exact x_then_n (hJ_j_135 true H _ _ ⟨N_126, hm, (Sep.sel hS [0, 1000, 2, 3, 4, 1004, 1005] (by decide)), (Mem.le.refl _)⟩)
          clear hKJ_106
          by_cases hc_266 : (band .i64 t_107 3) > 0
          · rw [if_pos hc_266] at H
            refine c_cond_t hm rfl (decide_eq_true hc_266) ?_
            refine wp_region_lit ?_
            refine s_move hm rfl rfl ?_
            clear hm a; intro a hm
            refine s_move hm rfl rfl ?_
            clear hm a; intro a hm
            obtain ⟨t_267, et_267, H⟩ := Option.bind_eq_some_iff.1 H
            refine v_index hm rfl Try.underlying22 ti3 rfl rfl rfl hp3_3 (hA.trans hS.old) et_267 ?_
            intro ad_268 cs_269 hk_270 hc_271
            obtain rfl := (show cs_269 = [.int .i64 t_267] from hk_270)
            clear hm a; intro a hm
            refine s_load hm rfl rfl (el_one (o := 0) hc_271 Try.underlying3 rfl rfl) ?_
            clear hm a; intro a hm
            refine s_shift (r := shr .i64 t_267 2) hm rfl rfl rfl (by decide) (.inr ⟨rfl, rfl⟩) ?_
            clear hm a; intro a hm
            refine s_bits (i := shr .i64 t_267 2) (j := 31) (r := band .i64 (shr .i64 t_267 2) 31) hm rfl rfl rfl (.inl ⟨rfl, rfl⟩) ?_
            clear hm a; intro a hm
            refine s_arith (r := w64 ((band .i64 (shr .i64 t_267 2) 31) - 8)) hm rfl rfl rfl (.inr (.inl ⟨rfl, rfl⟩)) ?_
            clear hm a; intro a hm
            refine s_assign hm rfl rfl ?_
            clear hm a; intro a hm
            refine wpList_nil ?_
            replace hm : Fr 153 a [(2, p2_2), (3, p3_3), (8, .bool false), (9, .pointer (some ⟨g_10, 0, none⟩)), (10, .pointer (some ⟨g_22, 0, none⟩)), (11, .int .i64 x_60), (12, .pointer (some ⟨g_99, 0, none⟩)), (13, .int .i64 (w64 ((band .i64 (shr .i64 t_267 2) 31) - 8)))] := hm.keep [2, 3, 8, 9, 10, 11, 12, 13]
            replace hS : Sep w0 w_100 [N_75, Mem.no, Mem.one g_10 (.cells ([v_62, v_64] : List Value).toArray 25 (0, 0)), Mem.one g_22 (.cells ([v_67, v_69] : List Value).toArray 25 (0, 0)), Mem.one g_99 (.cells ([.int .i64 (shr .i64 t_83 3), .int .i64 t_88, .int .i64 (shr .i64 t_93 (wu64 x_60))] : List Value).toArray 28 (0, 0))] Z := hS
            replace hm : Fr 153 a [(2, p2_2), (3, p3_3), (8, .bool false), (9, .pointer (some ⟨g_10, 0, none⟩)), (10, .pointer (some ⟨g_22, 0, none⟩)), (11, .int .i64 x_60), (12, .pointer (some ⟨g_99, 0, none⟩)), (13, .int .i64 (w64 ((band .i64 (shr .i64 t_267 2) 31) - 8)))] := hm.keep [2, 3, 8, 9, 10, 11, 12, 13]
            exact x_then_n (hJ_j_115 (w64 ((band .i64 (shr .i64 t_267 2) 31) - 8)) H _ _ ⟨N_75, hm, (Sep.sel hS [0, 1000, 2, 3, 4] (by decide)), (Mem.le.refl _)⟩)
          · rw [if_neg hc_266] at H
            refine c_cond_f hm rfl (decide_eq_false hc_266) ?_
            refine wp_skip ?_
            replace hS : Sep w0 w_100 [N_75, Mem.no, Mem.one g_10 (.cells ([v_62, v_64] : List Value).toArray 25 (0, 0)), Mem.one g_22 (.cells ([v_67, v_69] : List Value).toArray 25 (0, 0)), Mem.one g_99 (.cells ([.int .i64 (shr .i64 t_83 3), .int .i64 t_88, .int .i64 (shr .i64 t_93 (wu64 x_60))] : List Value).toArray 28 (0, 0))] Z := hS
            replace hm : Fr 153 a [(2, p2_2), (3, p3_3), (8, .bool false), (9, .pointer (some ⟨g_10, 0, none⟩)), (10, .pointer (some ⟨g_22, 0, none⟩)), (11, .int .i64 x_60), (12, .pointer (some ⟨g_99, 0, none⟩)), (13, .int .i64 t_101)] := hm.keep [2, 3, 8, 9, 10, 11, 12, 13]
            exact x_then_n (hJ_j_115 t_101 H _ _ ⟨N_75, hm, (Sep.sel hS [0, 1000, 2, 3, 4] (by decide)), (Mem.le.refl _)⟩)
        · rw [if_neg hc_79] at H
          refine c_cond_f hm rfl (Bool.eq_false_iff.2 hc_79) ?_
          refine wp_exit (x_then_x (x_then_x (x_block_t ?_)))
          replace hS : Sep w0 w_77 [N_75, Mem.no, Mem.one g_10 (.cells ([v_62, v_64] : List Value).toArray 25 (0, 0)), Mem.one g_22 (.cells ([v_67, v_69] : List Value).toArray 25 (0, 0))] Z := hS
          replace hm : Fr 153 a [(8, .bool false), (9, .pointer (some ⟨g_10, 0, none⟩)), (10, .pointer (some ⟨g_22, 0, none⟩))] := hm.keep [8, 9, 10]
          exact x_then_n (hJ_j_37 x_61 x_66 H _ _ ⟨v_62, v_64, v_67, v_69, N_75, hm, (Sep.sel hS [0, 1000, 2, 3] (by decide)), (le_59.trans le_75), (hr_63.mono (Mem.un_left le_75)), (hr_65.mono (Mem.un_left le_75)), (hr_68.mono (Mem.un_left le_75)), (hr_70.mono (Mem.un_left le_75))⟩)
      clear hKJ_74
      refine wp_region_lit ?_
      refine s_move hm rfl rfl ?_
      clear hm a; intro a hm
      refine s_move hm rfl rfl ?_
      clear hm a; intro a hm
      refine s_len hm rfl Try.underlying22 rfl hp2_2 ?_
      clear hm a; intro a hm
      refine s_cmp (b := decide (x_60 < (x2.length : Int))) hm rfl rfl rfl (.inr (.inr (.inl ⟨rfl, rfl⟩))) ?_
      clear hm a; intro a hm
      refine s_move hm rfl rfl ?_
      clear hm a; intro a hm
      by_cases hc_272 : x_60 < (x2.length : Int)
      · rw [if_pos hc_272] at H
        refine s_on hm rfl rfl (decide_eq_true hc_272) ?_
        refine s_move hm rfl rfl ?_
        clear hm a; intro a hm
        refine s_on hm rfl rfl (decide_eq_true hc_272) ?_
        refine s_move hm rfl rfl ?_
        clear hm a; intro a hm
        refine s_on hm rfl rfl (decide_eq_true hc_272) ?_
        refine s_len hm rfl Try.underlying22 rfl hp3_3 ?_
        clear hm a; intro a hm
        refine s_on hm rfl rfl (decide_eq_true hc_272) ?_
        refine s_cmp (b := decide (x_60 < (x3.length : Int))) hm rfl rfl rfl (.inr (.inr (.inl ⟨rfl, rfl⟩))) ?_
        clear hm a; intro a hm
        refine s_pick_t hm rfl rfl (decide_eq_true hc_272) rfl ?_
        clear hm a; intro a hm
        refine s_move hm rfl rfl ?_
        clear hm a; intro a hm
        by_cases hc_273 : x_60 < (x3.length : Int)
        · rw [if_pos hc_273] at H
          refine s_on hm rfl rfl (decide_eq_true hc_273) ?_
          refine s_move hm rfl rfl ?_
          clear hm a; intro a hm
          refine s_on hm rfl rfl (decide_eq_true hc_273) ?_
          refine s_cmp (b := decide (x_60 < 20)) hm rfl rfl rfl (.inr (.inr (.inl ⟨rfl, rfl⟩))) ?_
          clear hm a; intro a hm
          refine s_pick_t hm rfl rfl (decide_eq_true hc_273) rfl ?_
          clear hm a; intro a hm
          refine wpList_nil ?_
          replace hm : Fr 153 a [(2, p2_2), (3, p3_3), (8, .bool false), (9, .pointer (some ⟨g_10, 0, none⟩)), (10, .pointer (some ⟨g_22, 0, none⟩)), (11, .int .i64 x_60), (48, .bool (decide (x_60 < 20)))] := hm.keep [2, 3, 8, 9, 10, 11, 48]
          replace hS : Sep w0 w_71 [N_59, Mem.no, Mem.one g_10 (.cells ([v_62, v_64] : List Value).toArray 25 (0, 0)), Mem.one g_22 (.cells ([v_67, v_69] : List Value).toArray 25 (0, 0))] Z := hS
          replace hm : Fr 153 a [(2, p2_2), (3, p3_3), (8, .bool false), (9, .pointer (some ⟨g_10, 0, none⟩)), (10, .pointer (some ⟨g_22, 0, none⟩)), (11, .int .i64 x_60), (48, .bool (decide (x_60 < 20)))] := hm.keep [2, 3, 8, 9, 10, 11, 48]
          exact x_then_n (hJ_j_78 (decide (x_60 < 20)) H _ _ ⟨N_59, hm, (Sep.sel hS [0, 1000, 2, 3] (by decide)), (Mem.le.refl _)⟩)
        · rw [if_neg hc_273] at H
          refine s_off hm rfl rfl rfl (decide_eq_false hc_273) ?_
          clear hm a; intro a hm
          refine s_off hm rfl rfl rfl (decide_eq_false hc_273) ?_
          clear hm a; intro a hm
          refine s_pick_f hm rfl rfl (decide_eq_false hc_273) rfl ?_
          clear hm a; intro a hm
          refine wpList_nil ?_
          replace hm : Fr 153 a [(2, p2_2), (3, p3_3), (8, .bool false), (9, .pointer (some ⟨g_10, 0, none⟩)), (10, .pointer (some ⟨g_22, 0, none⟩)), (11, .int .i64 x_60), (48, .bool false)] := hm.keep [2, 3, 8, 9, 10, 11, 48]
          replace hS : Sep w0 w_71 [N_59, Mem.no, Mem.one g_10 (.cells ([v_62, v_64] : List Value).toArray 25 (0, 0)), Mem.one g_22 (.cells ([v_67, v_69] : List Value).toArray 25 (0, 0))] Z := hS
          replace hm : Fr 153 a [(2, p2_2), (3, p3_3), (8, .bool false), (9, .pointer (some ⟨g_10, 0, none⟩)), (10, .pointer (some ⟨g_22, 0, none⟩)), (11, .int .i64 x_60), (48, .bool false)] := hm.keep [2, 3, 8, 9, 10, 11, 48]
          exact x_then_n (hJ_j_78 false H _ _ ⟨N_59, hm, (Sep.sel hS [0, 1000, 2, 3] (by decide)), (Mem.le.refl _)⟩)
      · rw [if_neg hc_272] at H
        refine s_off hm rfl rfl rfl (decide_eq_false hc_272) ?_
        clear hm a; intro a hm
        refine s_off hm rfl rfl rfl (decide_eq_false hc_272) ?_
        clear hm a; intro a hm
        refine s_off hm rfl rfl rfl (decide_eq_false hc_272) ?_
        clear hm a; intro a hm
        refine s_off hm rfl rfl rfl (decide_eq_false hc_272) ?_
        clear hm a; intro a hm
        refine s_pick_f hm rfl rfl (decide_eq_false hc_272) rfl ?_
        clear hm a; intro a hm
        refine s_move hm rfl rfl ?_
        clear hm a; intro a hm
        refine s_off hm rfl rfl rfl rfl ?_
        clear hm a; intro a hm
        refine s_off hm rfl rfl rfl rfl ?_
        clear hm a; intro a hm
        refine s_pick_f hm rfl rfl rfl rfl ?_
        clear hm a; intro a hm
        refine wpList_nil ?_
        replace hm : Fr 153 a [(2, p2_2), (3, p3_3), (8, .bool false), (9, .pointer (some ⟨g_10, 0, none⟩)), (10, .pointer (some ⟨g_22, 0, none⟩)), (11, .int .i64 x_60), (48, .bool false)] := hm.keep [2, 3, 8, 9, 10, 11, 48]
        replace hS : Sep w0 w_71 [N_59, Mem.no, Mem.one g_10 (.cells ([v_62, v_64] : List Value).toArray 25 (0, 0)), Mem.one g_22 (.cells ([v_67, v_69] : List Value).toArray 25 (0, 0))] Z := hS
        replace hm : Fr 153 a [(2, p2_2), (3, p3_3), (8, .bool false), (9, .pointer (some ⟨g_10, 0, none⟩)), (10, .pointer (some ⟨g_22, 0, none⟩)), (11, .int .i64 x_60), (48, .bool false)] := hm.keep [2, 3, 8, 9, 10, 11, 48]
        exact x_then_n (hJ_j_78 false H _ _ ⟨N_59, hm, (Sep.sel hS [0, 1000, 2, 3] (by decide)), (Mem.le.refl _)⟩)
    clear hKJ_12
    by_cases hc_274 : x1 = true
    · rw [if_pos hc_274] at H
      refine c_cond_t hm rfl hc_274 ?_
      refine wp_region_lit ?_
      refine s_build hm rfl ti25 pl25 rfl .nil (cs := [.slice none 0 0, .slice none 0 0]) rfl ?_
      clear hm a; intro a hm
      obtain ⟨w_275, hs', hS'⟩ := hS.store (P := Try.prog) (p := 2) (o := 0) (t := 25) (v := .agg [.slice none 0 0, .slice none 0 0].toArray) (vs := [.slice none 0 0, .slice none 0 0]) rfl ti25 rfl rfl rfl (by intro u hu; simp only [List.mem_cons, List.not_mem_nil, or_false] at hu; rcases hu with rfl | rfl <;> rfl)
      refine s_store hm rfl rfl hs' ?_
      replace hS : Sep w0 w_275 [Mem.no, Mem.one g_2 (.cells ([p0_0, p0_1] : List Value).toArray 25 (0, 0)), Mem.one g_10 (.cells ([.slice none 0 0, .slice none 0 0] : List Value).toArray 25 (0, 0))] Z := hS'
      clear hs' hS'
      refine wpList_nil ?_
      replace hm : Fr 153 a [(2, p2_2), (3, p3_3), (8, .bool false), (9, .pointer (some ⟨g_10, 0, none⟩))] := hm.keep [2, 3, 8, 9]
      replace hS : Sep w0 w_275 [Mem.no, Mem.one g_2 (.cells ([p0_0, p0_1] : List Value).toArray 25 (0, 0)), Mem.one g_10 (.cells ([.slice none 0 0, .slice none 0 0] : List Value).toArray 25 (0, 0))] Z := hS
      replace hm : Fr 153 a [(2, p2_2), (3, p3_3), (8, .bool false), (9, .pointer (some ⟨g_10, 0, none⟩))] := hm.keep [2, 3, 8, 9]
      exact x_then_n (hJ_j_20 (⟨([] : List UInt8), ([] : List UInt8)⟩ : api_Disk) H _ _ ⟨.slice none 0 0, .slice none 0 0, Mem.no, hm, (Sep.sel hS [0, 1000, 2] (by decide)), (Mem.le.refl _), (Rd.nil _ _), (Rd.nil _ _)⟩)
    · rw [if_neg hc_274] at H
      refine c_cond_f hm rfl (Bool.eq_false_iff.2 hc_274) ?_
      refine wp_skip ?_
      replace hS : Sep w0 w_11 [Mem.no, Mem.one g_2 (.cells ([p0_0, p0_1] : List Value).toArray 25 (0, 0)), Mem.one g_10 (.cells ([p0_0, p0_1] : List Value).toArray 25 (0, 0))] Z := hS
      replace hm : Fr 153 a [(2, p2_2), (3, p3_3), (8, .bool false), (9, .pointer (some ⟨g_10, 0, none⟩))] := hm.keep [2, 3, 8, 9]
      exact x_then_n (hJ_j_20 x0 H _ _ ⟨p0_0, p0_1, Mem.no, hm, (Sep.sel hS [0, 1000, 2] (by decide)), (Mem.le.refl _), hp0_0, hp0_1⟩)


end Go.Proofs
