/- What the calls do: each function once. -/
import Derived.Test.YtlofhblfdkjloaaKeepPlaysc1
namespace Go.Proofs
open Go.Gp
set_option linter.unusedVariables false
set_option maxHeartbeats 4000000 in
set_option maxRecDepth 20000 in
theorem hocketref11_WriteDisk.calls (K : Nat) (x0 : api_Disk) (p0_0 : Value) (p0_1 : Value) (x1 : api_Record) (x2 : Int) (r : api_Disk) (w0 w : World) (Z A : Mem) (hA : A.le Z) (hS : Sep w0 w [] Z) (hp0_0 : Rd Kd.u8 A p0_0 x0.A) (hp0_1 : Rd Kd.u8 A p0_1 x0.B)
    (H : hocketref11_WriteDisk.f K x0 x1 x2 = some r) :
    Calls Try.prog 17 [.agg [p0_0, p0_1].toArray, .agg [.int .i64 x1.Inc, .int .i64 x1.Prom, .int .i64 x1.Inst].toArray, .int .i64 x2].toArray w (Ret fun v w' => ∃ (u0 : Value) (u1 : Value) (N : Mem), v = .agg [u0, u1].toArray ∧ Sep w0 w' [N] Z ∧ Rd Kd.u8 N u0 r.A ∧ Rd Kd.u8 N u1 r.B) := by
  unfold hocketref11_WriteDisk.f at H
  refine f_enter _ Try.func17 rfl Try.ntmps17 rfl fun a hm => ?_
  replace hm : Fr 71 a [(0, .agg [p0_0, p0_1].toArray), (1, .agg [.int .i64 x1.Inc, .int .i64 x1.Prom, .int .i64 x1.Inst].toArray), (2, .int .i64 x2)] := hm
  replace hS := hS.start
  replace hS : Sep w0 w [Mem.no] Z := hS
  refine wp_seq ?_
  refine wp_region_lit ?_
  refine v_box (vs := [p0_0, p0_1]) hm rfl rfl rfl hS ?_
  intro w_1 g_2 hS'
  clear hm a; intro a hm
  replace hS : Sep w0 w_1 [Mem.no, Mem.one g_2 (.cells ([p0_0, p0_1] : List Value).toArray 25 (0, 0))] Z := hS'
  clear hS'
  refine v_box (vs := [.int .i64 x1.Inc, .int .i64 x1.Prom, .int .i64 x1.Inst]) hm rfl rfl rfl hS ?_
  intro w_3 g_4 hS'
  clear hm a; intro a hm
  replace hS : Sep w0 w_3 [Mem.no, Mem.one g_2 (.cells ([p0_0, p0_1] : List Value).toArray 25 (0, 0)), Mem.one g_4 (.cells ([.int .i64 x1.Inc, .int .i64 x1.Prom, .int .i64 x1.Inst] : List Value).toArray 28 (0, 0))] Z := hS'
  clear hS'
  refine v_alloc hm rfl ti25 hS ?_
  intro w_5 g_6 hS'
  clear hm a; intro a hm
  replace hS : Sep w0 w_5 [Mem.no, Mem.one g_2 (.cells ([p0_0, p0_1] : List Value).toArray 25 (0, 0)), Mem.one g_4 (.cells ([.int .i64 x1.Inc, .int .i64 x1.Prom, .int .i64 x1.Inst] : List Value).toArray 28 (0, 0)), Mem.one g_6 (.cells ([.slice none 0 0, .slice none 0 0] : List Value).toArray 25 (0, 0))] Z := hS'
  clear hS'
  refine wpList_nil ?_
  replace hm : Fr 71 a [(2, .int .i64 x2), (3, .pointer (some ⟨g_2, 0, none⟩)), (4, .pointer (some ⟨g_4, 0, none⟩)), (6, .pointer (some ⟨g_6, 0, none⟩))] := hm.keep [2, 3, 4, 6]
  refine x_then_n ?_
  refine wp_seq ?_
  refine wp_region_lit ?_
  refine s_fieldAddr hm rfl Try.underlying25 rfl ti23 rfl rfl ?_
  clear hm a; intro a hm
  refine s_load hm rfl rfl (hS.load_one (p := 1) rfl Try.underlying23 rfl rfl) ?_
  clear hm a; intro a hm
  obtain ⟨t_7, et_7, H⟩ := Option.bind_eq_some_iff.1 H
  refine s_call hm rfl Try.call31 rfl (hocketref11_slot.calls K x0.A _ t_7 w0 _ _ _ (Mem.le.refl _) (hS.enter [] (by decide)) (hp0_0.mono (hA.trans (hS.le_zed []))) et_7) ?_
  rintro _ w_8 ⟨N_9, rfl, hS'⟩
  clear hm a; intro a hm
  obtain ⟨N_10, hS'', le_10, ln_10⟩ := hS.call [] (by decide) rfl (l' := []) (ow := []) rfl hS'
  replace hS : Sep w0 w_8 [N_10, Mem.one g_2 (.cells ([p0_0, p0_1] : List Value).toArray 25 (0, 0)), Mem.one g_4 (.cells ([.int .i64 x1.Inc, .int .i64 x1.Prom, .int .i64 x1.Inst] : List Value).toArray 28 (0, 0)), Mem.one g_6 (.cells ([.slice none 0 0, .slice none 0 0] : List Value).toArray 25 (0, 0))] Z := hS''
  clear hS' hS''
  refine s_move hm rfl rfl ?_
  clear hm a; intro a hm
  refine s_extract hm rfl rfl rfl ?_
  clear hm a; intro a hm
  refine s_extract hm rfl rfl rfl ?_
  clear hm a; intro a hm
  refine v_alloc hm rfl ti28 hS ?_
  intro w_11 g_12 hS'
  clear hm a; intro a hm
  replace hS : Sep w0 w_11 [N_10, Mem.one g_2 (.cells ([p0_0, p0_1] : List Value).toArray 25 (0, 0)), Mem.one g_4 (.cells ([.int .i64 x1.Inc, .int .i64 x1.Prom, .int .i64 x1.Inst] : List Value).toArray 28 (0, 0)), Mem.one g_6 (.cells ([.slice none 0 0, .slice none 0 0] : List Value).toArray 25 (0, 0)), Mem.one g_12 (.cells ([.int .i64 0, .int .i64 0, .int .i64 0] : List Value).toArray 28 (0, 0))] Z := hS'
  clear hS'
  refine s_assign hm rfl rfl ?_
  clear hm a; intro a hm
  obtain ⟨w_13, hs', hS'⟩ := hS.store (P := Try.prog) (p := 4) (o := 0) (t := 28) (v := .agg [.int .i64 t_7.2.Inc, .int .i64 t_7.2.Prom, .int .i64 t_7.2.Inst].toArray) (vs := [.int .i64 t_7.2.Inc, .int .i64 t_7.2.Prom, .int .i64 t_7.2.Inst]) rfl ti28 rfl rfl rfl (by intro u hu; simp only [List.mem_cons, List.not_mem_nil, or_false] at hu; rcases hu with rfl | rfl | rfl <;> rfl)
  refine s_store hm rfl rfl hs' ?_
  replace hS : Sep w0 w_13 [N_10, Mem.one g_2 (.cells ([p0_0, p0_1] : List Value).toArray 25 (0, 0)), Mem.one g_4 (.cells ([.int .i64 x1.Inc, .int .i64 x1.Prom, .int .i64 x1.Inst] : List Value).toArray 28 (0, 0)), Mem.one g_6 (.cells ([.slice none 0 0, .slice none 0 0] : List Value).toArray 25 (0, 0)), Mem.one g_12 (.cells ([.int .i64 t_7.2.Inc, .int .i64 t_7.2.Prom, .int .i64 t_7.2.Inst] : List Value).toArray 28 (0, 0))] Z := hS'
  clear hs' hS'
  refine wpList_nil ?_
  replace hm : Fr 71 a [(2, .int .i64 x2), (3, .pointer (some ⟨g_2, 0, none⟩)), (4, .pointer (some ⟨g_4, 0, none⟩)), (6, .pointer (some ⟨g_6, 0, none⟩)), (7, .int .i64 t_7.1)] := hm.keep [2, 3, 4, 6, 7]
  refine x_then_n ?_
  refine wp_seq ?_
  refine wp_region_lit ?_
  refine s_fieldAddr hm rfl Try.underlying25 rfl ti23 rfl rfl ?_
  clear hm a; intro a hm
  refine s_load hm rfl rfl (hS.load_one (p := 1) rfl Try.underlying23 rfl rfl) ?_
  clear hm a; intro a hm
  obtain ⟨t_14, et_14, H⟩ := Option.bind_eq_some_iff.1 H
  refine s_call hm rfl Try.call31 rfl (hocketref11_slot.calls K x0.B _ t_14 w0 _ _ _ (Mem.le.refl _) (hS.enter [] (by decide)) (hp0_1.mono (hA.trans (hS.le_zed []))) et_14) ?_
  rintro _ w_15 ⟨N_16, rfl, hS'⟩
  clear hm a; intro a hm
  obtain ⟨N_17, hS'', le_17, ln_17⟩ := hS.call [] (by decide) rfl (l' := []) (ow := []) rfl hS'
  replace hS : Sep w0 w_15 [N_17, Mem.one g_2 (.cells ([p0_0, p0_1] : List Value).toArray 25 (0, 0)), Mem.one g_4 (.cells ([.int .i64 x1.Inc, .int .i64 x1.Prom, .int .i64 x1.Inst] : List Value).toArray 28 (0, 0)), Mem.one g_6 (.cells ([.slice none 0 0, .slice none 0 0] : List Value).toArray 25 (0, 0)), Mem.one g_12 (.cells ([.int .i64 t_7.2.Inc, .int .i64 t_7.2.Prom, .int .i64 t_7.2.Inst] : List Value).toArray 28 (0, 0))] Z := hS''
  clear hS' hS''
  refine s_move hm rfl rfl ?_
  clear hm a; intro a hm
  refine s_extract hm rfl rfl rfl ?_
  clear hm a; intro a hm
  refine s_extract hm rfl rfl rfl ?_
  clear hm a; intro a hm
  refine v_alloc hm rfl ti28 hS ?_
  intro w_18 g_19 hS'
  clear hm a; intro a hm
  replace hS : Sep w0 w_18 [N_17, Mem.one g_2 (.cells ([p0_0, p0_1] : List Value).toArray 25 (0, 0)), Mem.one g_4 (.cells ([.int .i64 x1.Inc, .int .i64 x1.Prom, .int .i64 x1.Inst] : List Value).toArray 28 (0, 0)), Mem.one g_6 (.cells ([.slice none 0 0, .slice none 0 0] : List Value).toArray 25 (0, 0)), Mem.one g_12 (.cells ([.int .i64 t_7.2.Inc, .int .i64 t_7.2.Prom, .int .i64 t_7.2.Inst] : List Value).toArray 28 (0, 0)), Mem.one g_19 (.cells ([.int .i64 0, .int .i64 0, .int .i64 0] : List Value).toArray 28 (0, 0))] Z := hS'
  clear hS'
  refine s_assign hm rfl rfl ?_
  clear hm a; intro a hm
  obtain ⟨w_20, hs', hS'⟩ := hS.store (P := Try.prog) (p := 5) (o := 0) (t := 28) (v := .agg [.int .i64 t_14.2.Inc, .int .i64 t_14.2.Prom, .int .i64 t_14.2.Inst].toArray) (vs := [.int .i64 t_14.2.Inc, .int .i64 t_14.2.Prom, .int .i64 t_14.2.Inst]) rfl ti28 rfl rfl rfl (by intro u hu; simp only [List.mem_cons, List.not_mem_nil, or_false] at hu; rcases hu with rfl | rfl | rfl <;> rfl)
  refine s_store hm rfl rfl hs' ?_
  replace hS : Sep w0 w_20 [N_17, Mem.one g_2 (.cells ([p0_0, p0_1] : List Value).toArray 25 (0, 0)), Mem.one g_4 (.cells ([.int .i64 x1.Inc, .int .i64 x1.Prom, .int .i64 x1.Inst] : List Value).toArray 28 (0, 0)), Mem.one g_6 (.cells ([.slice none 0 0, .slice none 0 0] : List Value).toArray 25 (0, 0)), Mem.one g_12 (.cells ([.int .i64 t_7.2.Inc, .int .i64 t_7.2.Prom, .int .i64 t_7.2.Inst] : List Value).toArray 28 (0, 0)), Mem.one g_19 (.cells ([.int .i64 t_14.2.Inc, .int .i64 t_14.2.Prom, .int .i64 t_14.2.Inst] : List Value).toArray 28 (0, 0))] Z := hS'
  clear hs' hS'
  refine wpList_nil ?_
  replace hm : Fr 71 a [(2, .int .i64 x2), (3, .pointer (some ⟨g_2, 0, none⟩)), (4, .pointer (some ⟨g_4, 0, none⟩)), (6, .pointer (some ⟨g_6, 0, none⟩)), (7, .int .i64 t_7.1), (9, .int .i64 t_14.1)] := hm.keep [2, 3, 4, 6, 7, 9]
  refine x_then_n ?_
  refine wp_seq ?_
  refine wp_region_lit ?_
  refine s_assign hm rfl rfl ?_
  clear hm a; intro a hm
  refine wpList_nil ?_
  replace hm : Fr 71 a [(2, .int .i64 x2), (3, .pointer (some ⟨g_2, 0, none⟩)), (4, .pointer (some ⟨g_4, 0, none⟩)), (6, .pointer (some ⟨g_6, 0, none⟩)), (7, .int .i64 t_7.1), (9, .int .i64 t_14.1), (11, .int .i64 1)] := hm.keep [2, 3, 4, 6, 7, 9, 11]
  refine x_then_n ?_
  refine c_seq fun KJ_21 hKJ_21 => ?_
  refine c_seq fun KJ_22 hKJ_22 => ?_
  have hJ_j_26 : ∀ (x_24 : Bool), hocketref11_WriteDisk.J1 K x1 x2 x0 t_7 t_14 x_24 = some r → ∀ (a : Act) (w_25 : World), (∃ (N_23 : Mem), Fr 71 a [(2, .int .i64 x2), (3, .pointer (some ⟨g_2, 0, none⟩)), (4, .pointer (some ⟨g_4, 0, none⟩)), (6, .pointer (some ⟨g_6, 0, none⟩)), (7, .int .i64 t_7.1), (9, .int .i64 t_14.1), (11, .int .i64 1), (31, .bool x_24)] ∧ Sep w0 w_25 [N_23, Mem.one g_2 (.cells ([p0_0, p0_1] : List Value).toArray 25 (0, 0)), Mem.one g_4 (.cells ([.int .i64 x1.Inc, .int .i64 x1.Prom, .int .i64 x1.Inst] : List Value).toArray 28 (0, 0)), Mem.one g_6 (.cells ([.slice none 0 0, .slice none 0 0] : List Value).toArray 25 (0, 0)), Mem.no, Mem.no] Z ∧ N_17.le N_23) → KJ_22 a w_25 := by
    clear H hm hS a
    rintro x_24 H a w_25 ⟨N_23, hm, hS, le_23⟩
    unfold hocketref11_WriteDisk.J1 at H
    refine hKJ_22 _ _ ?_
    have hJ_j_30 : ∀ (x_28 : Int), hocketref11_WriteDisk.J2 K x1 x2 x0 t_7 t_14 x_28 = some r → ∀ (a : Act) (w_29 : World), (∃ (N_27 : Mem), Fr 71 a [(2, .int .i64 x2), (3, .pointer (some ⟨g_2, 0, none⟩)), (4, .pointer (some ⟨g_4, 0, none⟩)), (6, .pointer (some ⟨g_6, 0, none⟩)), (7, .int .i64 t_7.1), (9, .int .i64 t_14.1), (11, .int .i64 x_28)] ∧ Sep w0 w_29 [N_27, Mem.one g_2 (.cells ([p0_0, p0_1] : List Value).toArray 25 (0, 0)), Mem.one g_4 (.cells ([.int .i64 x1.Inc, .int .i64 x1.Prom, .int .i64 x1.Inst] : List Value).toArray 28 (0, 0)), Mem.one g_6 (.cells ([.slice none 0 0, .slice none 0 0] : List Value).toArray 25 (0, 0)), Mem.no, Mem.no] Z ∧ N_23.le N_27) → KJ_21 a w_29 := by
      clear H hm hS a
      rintro x_28 H a w_29 ⟨N_27, hm, hS, le_27⟩
      unfold hocketref11_WriteDisk.J2 at H
      refine hKJ_21 _ _ ?_
      refine wp_seq ?_
      refine wp_region_lit ?_
      refine s_move hm rfl rfl ?_
      clear hm a; intro a hm
      refine s_load hm rfl rfl (hS.load_agg (p := 2) (us := [.int .i64 x1.Inc, .int .i64 x1.Prom, .int .i64 x1.Inst]) rfl Try.underlying28 rfl ti28 rfl rfl) ?_
      clear hm a; intro a hm
      obtain ⟨t_31, et_31, H⟩ := Option.bind_eq_some_iff.1 H
      refine s_call hm rfl Try.call16 rfl (hocketref11_Slot.calls K x_28 x1 t_31 w0 _ _ _ (Mem.le.refl _) (hS.enter [] (by decide))  et_31) ?_
      rintro v_35 w_32 ⟨_, N_33, M_37, rfl, hS', hr_36⟩
      clear hm a; intro a hm
      obtain ⟨N_34, hS'', le_34, ln_34⟩ := hS.call [] (by decide) rfl (l' := []) (ow := [M_37]) rfl hS'
      replace hS : Sep w0 w_32 [N_34, Mem.one g_2 (.cells ([p0_0, p0_1] : List Value).toArray 25 (0, 0)), Mem.one g_4 (.cells ([.int .i64 x1.Inc, .int .i64 x1.Prom, .int .i64 x1.Inst] : List Value).toArray 28 (0, 0)), Mem.one g_6 (.cells ([.slice none 0 0, .slice none 0 0] : List Value).toArray 25 (0, 0)), Mem.no, Mem.no, M_37] Z := hS''
      clear hS' hS''
      refine s_assign hm rfl rfl ?_
      clear hm a; intro a hm
      refine wpList_nil ?_
      replace hm : Fr 71 a [(2, .int .i64 x2), (3, .pointer (some ⟨g_2, 0, none⟩)), (6, .pointer (some ⟨g_6, 0, none⟩)), (7, .int .i64 t_7.1), (9, .int .i64 t_14.1), (12, v_35)] := hm.keep [2, 3, 6, 7, 9, 12]
      refine x_then_n ?_
      refine c_seq fun KJ_39 hKJ_39 => ?_
      refine c_seq fun KJ_40 hKJ_40 => ?_
      have hJ_j_44 : ∀ (x_42 : Bool), hocketref11_WriteDisk.J3 K t_31 x2 x0 t_7 t_14 x_42 = some r → ∀ (a : Act) (w_43 : World), (∃ (N_41 : Mem), Fr 71 a [(2, .int .i64 x2), (3, .pointer (some ⟨g_2, 0, none⟩)), (6, .pointer (some ⟨g_6, 0, none⟩)), (7, .int .i64 t_7.1), (9, .int .i64 t_14.1), (12, v_35), (46, .bool x_42)] ∧ Sep w0 w_43 [N_41, Mem.one g_2 (.cells ([p0_0, p0_1] : List Value).toArray 25 (0, 0)), Mem.no, Mem.one g_6 (.cells ([.slice none 0 0, .slice none 0 0] : List Value).toArray 25 (0, 0)), Mem.no, Mem.no, M_37] Z ∧ N_34.le N_41) → KJ_40 a w_43 := by
        clear H hm hS a
        rintro x_42 H a w_43 ⟨N_41, hm, hS, le_41⟩
        unfold hocketref11_WriteDisk.J3 at H
        refine hKJ_40 _ _ ?_
        have hJ_j_50 : ∀ (x_46 : List UInt8), hocketref11_WriteDisk.J4 K x0 t_7 t_14 x_46 = some r → ∀ (a : Act) (w_49 : World), (∃ (v_47 : Value) (N_45 : Mem), Fr 71 a [(3, .pointer (some ⟨g_2, 0, none⟩)), (6, .pointer (some ⟨g_6, 0, none⟩)), (7, .int .i64 t_7.1), (9, .int .i64 t_14.1), (12, v_47)] ∧ Sep w0 w_49 [N_45, Mem.one g_2 (.cells ([p0_0, p0_1] : List Value).toArray 25 (0, 0)), Mem.no, Mem.one g_6 (.cells ([.slice none 0 0, .slice none 0 0] : List Value).toArray 25 (0, 0)), Mem.no, Mem.no, Mem.no] Z ∧ N_41.le N_45 ∧ Rd Kd.u8 N_45 v_47 x_46) → KJ_39 a w_49 := by
          clear H hm hS a
          rintro x_46 H a w_49 ⟨v_47, N_45, hm, hS, le_45, hr_48⟩
          unfold hocketref11_WriteDisk.J4 at H
          refine hKJ_39 _ _ ?_
          refine c_seq fun KJ_51 hKJ_51 => ?_
          have hJ_j_64 : ∀ (x_54 : api_Disk), hocketref11_WriteDisk.J5 K t_7 t_14 x_46 x_54 = some r → ∀ (a : Act) (w_63 : World), (∃ (v_57 : Value) (v_61 : Value) (g_53 : Nat) (N_52 : Mem) (M_55 : Mem) (M_59 : Mem), Fr 71 a [(6, .pointer (some ⟨g_6, 0, none⟩)), (7, .int .i64 t_7.1), (9, .int .i64 t_14.1), (12, v_47), (13, .pointer (some ⟨g_53, 0, none⟩))] ∧ Sep w0 w_63 [N_52, Mem.no, Mem.no, Mem.one g_6 (.cells ([.slice none 0 0, .slice none 0 0] : List Value).toArray 25 (0, 0)), Mem.no, Mem.no, Mem.no, Mem.one g_53 (.cells ([v_57, v_61] : List Value).toArray 25 (0, 0)), M_55, M_59] Z ∧ N_45.le N_52 ∧ Own Kd.u8 5 M_55 Mem.no v_57 x_54.A ∧ Own Kd.u8 5 M_59 Mem.no v_61 x_54.B) → KJ_51 a w_63 := by
            clear H hm hS a
            rintro x_54 H a w_63 ⟨v_57, v_61, g_53, N_52, M_55, M_59, hm, hS, le_52, ho_58, ho_62⟩
            unfold hocketref11_WriteDisk.J5 at H
            refine hKJ_51 _ _ ?_
            refine c_seq fun KJ_65 hKJ_65 => ?_
            refine c_seq fun KJ_66 hKJ_66 => ?_
            have hJ_j_70 : ∀ (x_68 : Bool), hocketref11_WriteDisk.J6 K x_54 x_46 x_68 = some r → ∀ (a : Act) (w_69 : World), (∃ (N_67 : Mem), Fr 71 a [(6, .pointer (some ⟨g_6, 0, none⟩)), (12, v_47), (13, .pointer (some ⟨g_53, 0, none⟩)), (65, .bool x_68)] ∧ Sep w0 w_69 [N_67, Mem.no, Mem.no, Mem.one g_6 (.cells ([.slice none 0 0, .slice none 0 0] : List Value).toArray 25 (0, 0)), Mem.no, Mem.no, Mem.no, Mem.one g_53 (.cells ([v_57, v_61] : List Value).toArray 25 (0, 0)), M_55, M_59] Z ∧ N_52.le N_67) → KJ_66 a w_69 := by
              clear H hm hS a
              rintro x_68 H a w_69 ⟨N_67, hm, hS, le_67⟩
              unfold hocketref11_WriteDisk.J6 at H
              refine hKJ_66 _ _ ?_
              by_cases hc_71 : x_68 = true
              · rw [if_pos hc_71] at H
                refine c_cond_t hm rfl hc_71 ?_
                refine wp_region_lit ?_
                refine s_move hm rfl rfl ?_
                clear hm a; intro a hm
                refine s_fieldAddr hm rfl Try.underlying25 rfl ti23 rfl rfl ?_
                clear hm a; intro a hm
                obtain ⟨w_72, hs', hS'⟩ := hS.store (P := Try.prog) (p := 7) (o := 1) (t := 23) (v := v_47) (vs := [v_47]) rfl ti23 hr_48.cellsA rfl rfl (by intro u hu; simp only [List.mem_cons, List.not_mem_nil, or_false] at hu; rcases hu with rfl <;> first | rfl | exact hr_48.one)
                refine s_store hm rfl rfl hs' ?_
                replace hS : Sep w0 w_72 [N_67, Mem.no, Mem.no, Mem.one g_6 (.cells ([.slice none 0 0, .slice none 0 0] : List Value).toArray 25 (0, 0)), Mem.no, Mem.no, Mem.no, Mem.one g_53 (.cells ([v_57, v_47] : List Value).toArray 25 (0, 0)), M_55, M_59] Z := hS'
                clear hs' hS'
                refine wpList_nil ?_
                replace hm : Fr 71 a [(6, .pointer (some ⟨g_6, 0, none⟩)), (13, .pointer (some ⟨g_53, 0, none⟩))] := hm.keep [6, 13]
                refine x_then_n (hKJ_65 _ _ ?_)
                refine wp_seq ?_
                refine wp_region_lit ?_
                refine s_load hm rfl rfl (hS.load_agg (p := 7) (us := [v_57, v_47]) rfl Try.underlying25 rfl ti25 rfl rfl) ?_
                clear hm a; intro a hm
                obtain ⟨w_73, hs', hS'⟩ := hS.store (P := Try.prog) (p := 3) (o := 0) (t := 25) (v := .agg [v_57, v_47].toArray) (vs := [v_57, v_47]) rfl ti25 rfl rfl rfl (by intro u hu; simp only [List.mem_cons, List.not_mem_nil, or_false] at hu; rcases hu with rfl | rfl <;> first | rfl | exact ho_58.one | exact hr_48.one)
                refine s_store hm rfl rfl hs' ?_
                replace hS : Sep w0 w_73 [N_67, Mem.no, Mem.no, Mem.one g_6 (.cells ([v_57, v_47] : List Value).toArray 25 (0, 0)), Mem.no, Mem.no, Mem.no, Mem.one g_53 (.cells ([v_57, v_47] : List Value).toArray 25 (0, 0)), M_55, M_59] Z := hS'
                clear hs' hS'
                refine wpList_nil ?_
                replace hm : Fr 71 a [(6, .pointer (some ⟨g_6, 0, none⟩))] := hm.keep [6]
                refine x_then_n ?_
                refine wp_ret ?_
                obtain ⟨N_74, hS', le_74, lo_74⟩ := hS.freeze 7 rfl
                replace hS : Sep w0 w_73 [N_74, Mem.no, Mem.no, Mem.one g_6 (.cells ([v_57, v_47] : List Value).toArray 25 (0, 0)), Mem.no, Mem.no, Mem.no, Mem.one g_53 (.cells ([v_57, v_47] : List Value).toArray 25 (0, 0)), Mem.no, M_59] Z := hS'
                clear hS'
                obtain rfl := Option.some.inj H
                exact f_ret hm (rs := [.cell 6 25]) rfl (.cell rfl (hS.load_agg (p := 3) (us := [v_57, v_47]) rfl Try.underlying25 rfl ti25 rfl rfl) .nil) ⟨_, rfl, v_57, v_47, N_74, rfl, (Sep.sel hS [0] (by decide)), (ho_58.rd lo_74 (Mem.no_le _)), (hr_48.mono (le_52.trans (le_67.trans le_74)))⟩
              · rw [if_neg hc_71] at H
                refine c_cond_f hm rfl (Bool.eq_false_iff.2 hc_71) ?_
                refine wp_region_lit ?_
                refine s_move hm rfl rfl ?_
                clear hm a; intro a hm
                refine s_fieldAddr hm rfl Try.underlying25 rfl ti23 rfl rfl ?_
                clear hm a; intro a hm
                obtain ⟨w_75, hs', hS'⟩ := hS.store (P := Try.prog) (p := 7) (o := 0) (t := 23) (v := v_47) (vs := [v_47]) rfl ti23 hr_48.cellsA rfl rfl (by intro u hu; simp only [List.mem_cons, List.not_mem_nil, or_false] at hu; rcases hu with rfl <;> first | rfl | exact hr_48.one)
                refine s_store hm rfl rfl hs' ?_
                replace hS : Sep w0 w_75 [N_67, Mem.no, Mem.no, Mem.one g_6 (.cells ([.slice none 0 0, .slice none 0 0] : List Value).toArray 25 (0, 0)), Mem.no, Mem.no, Mem.no, Mem.one g_53 (.cells ([v_47, v_61] : List Value).toArray 25 (0, 0)), M_55, M_59] Z := hS'
                clear hs' hS'
                refine wpList_nil ?_
                replace hm : Fr 71 a [(6, .pointer (some ⟨g_6, 0, none⟩)), (13, .pointer (some ⟨g_53, 0, none⟩))] := hm.keep [6, 13]
                refine x_then_n (hKJ_65 _ _ ?_)
                refine wp_seq ?_
                refine wp_region_lit ?_
                refine s_load hm rfl rfl (hS.load_agg (p := 7) (us := [v_47, v_61]) rfl Try.underlying25 rfl ti25 rfl rfl) ?_
                clear hm a; intro a hm
                obtain ⟨w_76, hs', hS'⟩ := hS.store (P := Try.prog) (p := 3) (o := 0) (t := 25) (v := .agg [v_47, v_61].toArray) (vs := [v_47, v_61]) rfl ti25 rfl rfl rfl (by intro u hu; simp only [List.mem_cons, List.not_mem_nil, or_false] at hu; rcases hu with rfl | rfl <;> first | rfl | exact hr_48.one | exact ho_62.one)
                refine s_store hm rfl rfl hs' ?_
                replace hS : Sep w0 w_76 [N_67, Mem.no, Mem.no, Mem.one g_6 (.cells ([v_47, v_61] : List Value).toArray 25 (0, 0)), Mem.no, Mem.no, Mem.no, Mem.one g_53 (.cells ([v_47, v_61] : List Value).toArray 25 (0, 0)), M_55, M_59] Z := hS'
                clear hs' hS'
                refine wpList_nil ?_
                replace hm : Fr 71 a [(6, .pointer (some ⟨g_6, 0, none⟩))] := hm.keep [6]
                refine x_then_n ?_
                refine wp_ret ?_
                obtain ⟨N_77, hS', le_77, lo_77⟩ := hS.freeze 8 rfl
                replace hS : Sep w0 w_76 [N_77, Mem.no, Mem.no, Mem.one g_6 (.cells ([v_47, v_61] : List Value).toArray 25 (0, 0)), Mem.no, Mem.no, Mem.no, Mem.one g_53 (.cells ([v_47, v_61] : List Value).toArray 25 (0, 0)), M_55, Mem.no] Z := hS'
                clear hS'
                obtain rfl := Option.some.inj H
                exact f_ret hm (rs := [.cell 6 25]) rfl (.cell rfl (hS.load_agg (p := 3) (us := [v_47, v_61]) rfl Try.underlying25 rfl ti25 rfl rfl) .nil) ⟨_, rfl, v_47, v_61, N_77, rfl, (Sep.sel hS [0] (by decide)), (hr_48.mono (le_52.trans (le_67.trans le_77))), (ho_62.rd lo_77 (Mem.no_le _))⟩
            clear hKJ_66
            refine wp_region_lit ?_
            refine s_move hm rfl rfl ?_
            clear hm a; intro a hm
            refine s_move hm rfl rfl ?_
            clear hm a; intro a hm
            refine s_cmp (b := decide (t_7.1 ≥ t_14.1)) hm rfl rfl rfl (.inr (.inr (.inr (.inr (.inr ⟨rfl, rfl⟩))))) ?_
            clear hm a; intro a hm
            refine s_move hm rfl rfl ?_
            clear hm a; intro a hm
            by_cases hc_78 : t_7.1 ≥ t_14.1
            · rw [if_pos hc_78] at H
              refine s_on hm rfl rfl (decide_eq_true hc_78) ?_
              refine s_move hm rfl rfl ?_
              clear hm a; intro a hm
              refine s_on hm rfl rfl (decide_eq_true hc_78) ?_
              refine s_cmp (b := decide (t_7.1 ≥ 0)) hm rfl rfl rfl (.inr (.inr (.inr (.inr (.inr ⟨rfl, rfl⟩))))) ?_
              clear hm a; intro a hm
              refine s_pick_t hm rfl rfl (decide_eq_true hc_78) rfl ?_
              clear hm a; intro a hm
              refine wpList_nil ?_
              replace hm : Fr 71 a [(6, .pointer (some ⟨g_6, 0, none⟩)), (12, v_47), (13, .pointer (some ⟨g_53, 0, none⟩)), (65, .bool (decide (t_7.1 ≥ 0)))] := hm.keep [6, 12, 13, 65]
              replace hS : Sep w0 w_63 [N_52, Mem.no, Mem.no, Mem.one g_6 (.cells ([.slice none 0 0, .slice none 0 0] : List Value).toArray 25 (0, 0)), Mem.no, Mem.no, Mem.no, Mem.one g_53 (.cells ([v_57, v_61] : List Value).toArray 25 (0, 0)), M_55, M_59] Z := hS
              replace hm : Fr 71 a [(6, .pointer (some ⟨g_6, 0, none⟩)), (12, v_47), (13, .pointer (some ⟨g_53, 0, none⟩)), (65, .bool (decide (t_7.1 ≥ 0)))] := hm.keep [6, 12, 13, 65]
              exact x_then_n (hJ_j_70 (decide (t_7.1 ≥ 0)) H _ _ ⟨N_52, hm, (Sep.sel hS [0, 1000, 1001, 3, 1003, 1004, 1005, 7, 8, 9] (by decide)), (Mem.le.refl _)⟩)
            · rw [if_neg hc_78] at H
              refine s_off hm rfl rfl rfl (decide_eq_false hc_78) ?_
              clear hm a; intro a hm
              refine s_off hm rfl rfl rfl (decide_eq_false hc_78) ?_
              clear hm a; intro a hm
              refine s_pick_f hm rfl rfl (decide_eq_false hc_78) rfl ?_
              clear hm a; intro a hm
              refine wpList_nil ?_
              replace hm : Fr 71 a [(6, .pointer (some ⟨g_6, 0, none⟩)), (12, v_47), (13, .pointer (some ⟨g_53, 0, none⟩)), (65, .bool false)] := hm.keep [6, 12, 13, 65]
              replace hS : Sep w0 w_63 [N_52, Mem.no, Mem.no, Mem.one g_6 (.cells ([.slice none 0 0, .slice none 0 0] : List Value).toArray 25 (0, 0)), Mem.no, Mem.no, Mem.no, Mem.one g_53 (.cells ([v_57, v_61] : List Value).toArray 25 (0, 0)), M_55, M_59] Z := hS
              replace hm : Fr 71 a [(6, .pointer (some ⟨g_6, 0, none⟩)), (12, v_47), (13, .pointer (some ⟨g_53, 0, none⟩)), (65, .bool false)] := hm.keep [6, 12, 13, 65]
              exact x_then_n (hJ_j_70 false H _ _ ⟨N_52, hm, (Sep.sel hS [0, 1000, 1001, 3, 1003, 1004, 1005, 7, 8, 9] (by decide)), (Mem.le.refl _)⟩)
          clear hKJ_51
          refine h_begin (S := fun w => Sep w0 w [N_45, Mem.one g_2 (.cells ([p0_0, p0_1] : List Value).toArray 25 (0, 0)), Mem.no, Mem.one g_6 (.cells ([.slice none 0 0, .slice none 0 0] : List Value).toArray 25 (0, 0)), Mem.no, Mem.no, Mem.no] Z) 11 (by kernel_rfl) rfl [false, false, false, false, false, false, false, false, false, false, false].toArray rfl hS fun w_79 hS => ?_
          replace hS : Sep w0 w_79 [N_45, Mem.one g_2 (.cells ([p0_0, p0_1] : List Value).toArray 25 (0, 0)), Mem.no, Mem.one g_6 (.cells ([.slice none 0 0, .slice none 0 0] : List Value).toArray 25 (0, 0)), Mem.no, Mem.no, Mem.no] Z := hS
          refine h_take 1 [false, true, false, false, false, false, false, false, false, false, false].toArray rfl (by kernel_rfl) (by kernel_rfl) (by kernel_rfl) (fun _ _ _ _ h => h) rfl rfl rfl rfl hm (hS.sub (.cons (Mem.le.refl _) (.cons (Mem.le.refl _) (.cons (Mem.no_le _) (.cons (Mem.le.refl _) (.cons (Mem.no_le _) (.cons (Mem.no_le _) (.cons (Mem.no_le _) (Sub.nil _))))))))) (v := .pointer (some ⟨g_2, 0, none⟩)) (fun w hS => r_fieldAddr hm Try.underlying25 rfl ti23 rfl rfl rfl) ?_
          clear hm a; intro a hm
          refine h_take 2 [false, true, true, false, false, false, false, false, false, false, false].toArray rfl (by kernel_rfl) (by kernel_rfl) (by kernel_rfl) (fun _ _ _ _ h => h) rfl rfl rfl rfl hm (hS.sub (.cons (Mem.le.refl _) (.cons (Mem.le.refl _) (.cons (Mem.no_le _) (.cons (Mem.le.refl _) (.cons (Mem.no_le _) (.cons (Mem.no_le _) (.cons (Mem.no_le _) (Sub.nil _))))))))) (v := p0_0) (fun w hS => r_load hm rfl (hS.load_one (p := 1) rfl Try.underlying23 rfl rfl)) ?_
          clear hm a; intro a hm
          refine h_take 5 [false, true, true, false, false, true, false, false, false, false, false].toArray rfl (by kernel_rfl) (by kernel_rfl) (by kernel_rfl) (fun _ _ _ _ h => h) rfl rfl rfl rfl hm (hS.sub (.cons (Mem.le.refl _) (.cons (Mem.le.refl _) (.cons (Mem.no_le _) (.cons (Mem.le.refl _) (.cons (Mem.no_le _) (.cons (Mem.no_le _) (.cons (Mem.no_le _) (Sub.nil _))))))))) (v := .pointer (some ⟨g_2, 1, none⟩)) (fun w hS => r_fieldAddr hm Try.underlying25 rfl ti23 rfl rfl rfl) ?_
          clear hm a; intro a hm
          refine h_take 6 [false, true, true, false, false, true, true, false, false, false, false].toArray rfl (by kernel_rfl) (by kernel_rfl) (by kernel_rfl) (fun _ _ _ _ h => h) rfl rfl rfl rfl hm (hS.sub (.cons (Mem.le.refl _) (.cons (Mem.le.refl _) (.cons (Mem.no_le _) (.cons (Mem.le.refl _) (.cons (Mem.no_le _) (.cons (Mem.no_le _) (.cons (Mem.no_le _) (Sub.nil _))))))))) (v := p0_1) (fun w hS => r_load hm rfl (hS.load_one (p := 1) rfl Try.underlying23 rfl rfl)) ?_
          clear hm a; intro a hm
          obtain ⟨t_86, et_86, H⟩ := Option.bind_eq_some_iff.1 H
          obtain ⟨t_98, et_98, H⟩ := Option.bind_eq_some_iff.1 H
          refine h_events [0, 4, 9] (by kernel_rfl) (by simp) ?_
          intro i hi; simp only [List.mem_cons, List.not_mem_nil, or_false] at hi; rcases hi with rfl | rfl | rfl
          · refine ⟨_, [true, true, true, false, false, true, true, false, false, false, false].toArray, rfl, rfl, ?_⟩
            have hq_84 : Reps Kd.u8 Mem.no ([] : List UInt8) _ := (Reps.nil Kd.u8 _)
            refine s_buildSlice hm rfl Try.underlying23 ti5 rfl rfl rfl .nil rfl rfl rfl hS hq_84 rfl ?_
            intro w_80 v_81 M_82 hS' ho_83
            clear hm a; intro a hm
            replace hS : Sep w0 w_80 [N_45, Mem.one g_2 (.cells ([p0_0, p0_1] : List Value).toArray 25 (0, 0)), Mem.no, Mem.one g_6 (.cells ([.slice none 0 0, .slice none 0 0] : List Value).toArray 25 (0, 0)), Mem.no, Mem.no, Mem.no, M_82] Z := hS'
            clear hS' hq_84
            refine wpList_nil ?_
            refine x_then_n ⟨(hS.sub (.cons (Mem.le.refl _) (.cons (Mem.le.refl _) (.cons (Mem.no_le _) (.cons (Mem.le.refl _) (.cons (Mem.no_le _) (.cons (Mem.no_le _) (.cons (Mem.no_le _) (Sub.nil _))))))))), ?_⟩
            refine h_events [3, 4, 9] (by kernel_rfl) (by simp) ?_
            intro i hi; simp only [List.mem_cons, List.not_mem_nil, or_false] at hi; rcases hi with rfl | rfl | rfl
            · refine ⟨_, [true, true, true, true, false, true, true, false, false, false, false].toArray, rfl, rfl, ?_⟩
              refine s_append (J := Mem.no) (I' := Mem.no) (p := 7) 140737488355328 hm rfl rfl rfl Try.underlying23 ti5 rfl rfl rfl rfl hS rfl ho_83 (Src.flat flat_u8 (hp0_0.src (hA.trans hS.old))) (Mem.le.refl _) (Mem.le.refl _) et_86 ?_
              intro w_87 v_88 M_89 hS' ho_90
              clear hm a; intro a hm
              replace hS : Sep w0 w_87 [N_45, Mem.one g_2 (.cells ([p0_0, p0_1] : List Value).toArray 25 (0, 0)), Mem.no, Mem.one g_6 (.cells ([.slice none 0 0, .slice none 0 0] : List Value).toArray 25 (0, 0)), Mem.no, Mem.no, Mem.no, M_89] Z := hS'
              clear hS'
              refine wpList_nil ?_
              refine x_then_n ⟨(hS.sub (.cons (Mem.le.refl _) (.cons (Mem.le.refl _) (.cons (Mem.no_le _) (.cons (Mem.le.refl _) (.cons (Mem.no_le _) (.cons (Mem.no_le _) (.cons (Mem.no_le _) (Sub.nil _))))))))), ?_⟩
              refine h_events [4, 9] (by kernel_rfl) (by simp) ?_
              intro i hi; simp only [List.mem_cons, List.not_mem_nil, or_false] at hi; rcases hi with rfl | rfl
              · refine ⟨_, [true, true, true, true, true, true, true, false, false, false, false].toArray, rfl, rfl, ?_⟩
                have hq_96 : Reps Kd.u8 Mem.no ([] : List UInt8) _ := (Reps.nil Kd.u8 _)
                refine s_buildSlice hm rfl Try.underlying23 ti5 rfl rfl rfl .nil rfl rfl rfl hS hq_96 rfl ?_
                intro w_92 v_93 M_94 hS' ho_95
                clear hm a; intro a hm
                replace hS : Sep w0 w_92 [N_45, Mem.one g_2 (.cells ([p0_0, p0_1] : List Value).toArray 25 (0, 0)), Mem.no, Mem.one g_6 (.cells ([.slice none 0 0, .slice none 0 0] : List Value).toArray 25 (0, 0)), Mem.no, Mem.no, Mem.no, M_89, M_94] Z := hS'
                clear hS' hq_96
                refine wpList_nil ?_
                refine x_then_n ⟨(hS.sub (.cons (Mem.le.refl _) (.cons (Mem.le.refl _) (.cons (Mem.no_le _) (.cons (Mem.le.refl _) (.cons (Mem.no_le _) (.cons (Mem.no_le _) (.cons (Mem.no_le _) (Sub.nil _))))))))), ?_⟩
                refine h_events [7, 9] (by kernel_rfl) (by simp) ?_
                intro i hi; simp only [List.mem_cons, List.not_mem_nil, or_false] at hi; rcases hi with rfl | rfl
                · refine ⟨_, [true, true, true, true, true, true, true, true, false, false, false].toArray, rfl, rfl, ?_⟩
                  refine s_append (J := Mem.no) (I' := Mem.no) (p := 8) 140737488355328 hm rfl rfl rfl Try.underlying23 ti5 rfl rfl rfl rfl hS rfl ho_95 (Src.flat flat_u8 (hp0_1.src (hA.trans hS.old))) (Mem.le.refl _) (Mem.le.refl _) et_98 ?_
                  intro w_99 v_100 M_101 hS' ho_102
                  clear hm a; intro a hm
                  replace hS : Sep w0 w_99 [N_45, Mem.one g_2 (.cells ([p0_0, p0_1] : List Value).toArray 25 (0, 0)), Mem.no, Mem.one g_6 (.cells ([.slice none 0 0, .slice none 0 0] : List Value).toArray 25 (0, 0)), Mem.no, Mem.no, Mem.no, M_89, M_101] Z := hS'
                  clear hS'
                  refine wpList_nil ?_
                  refine x_then_n ⟨(hS.sub (.cons (Mem.le.refl _) (.cons (Mem.le.refl _) (.cons (Mem.no_le _) (.cons (Mem.le.refl _) (.cons (Mem.no_le _) (.cons (Mem.no_le _) (.cons (Mem.no_le _) (Sub.nil _))))))))), ?_⟩
                  refine h_take 8 [true, true, true, true, true, true, true, true, true, false, false].toArray rfl (by kernel_rfl) (by kernel_rfl) (by kernel_rfl) (fun _ _ _ _ h => h) rfl rfl rfl rfl hm (hS.sub (.cons (Mem.le.refl _) (.cons (Mem.le.refl _) (.cons (Mem.no_le _) (.cons (Mem.le.refl _) (.cons (Mem.no_le _) (.cons (Mem.no_le _) (.cons (Mem.no_le _) (Sub.nil _))))))))) (v := .agg [v_88, v_100].toArray) (fun w hS => r_build hm ti25 pl25 rfl (.cons ho_90.cells (.cons ho_102.cells .nil)) (cs := [v_88, v_100]) rfl) ?_
                  clear hm a; intro a hm
                  refine h_event 9 [true, true, true, true, true, true, true, true, true, true, false].toArray rfl (by kernel_rfl) rfl ?_
                  refine v_alloc hm rfl ti25 hS ?_
                  intro w_104 g_105 hS'
                  clear hm a; intro a hm
                  replace hS : Sep w0 w_104 [N_45, Mem.one g_2 (.cells ([p0_0, p0_1] : List Value).toArray 25 (0, 0)), Mem.no, Mem.one g_6 (.cells ([.slice none 0 0, .slice none 0 0] : List Value).toArray 25 (0, 0)), Mem.no, Mem.no, Mem.no, M_89, M_101, Mem.one g_105 (.cells ([.slice none 0 0, .slice none 0 0] : List Value).toArray 25 (0, 0))] Z := hS'
                  clear hS'
                  refine wpList_nil ?_
                  refine x_then_n ⟨(hS.sub (.cons (Mem.le.refl _) (.cons (Mem.le.refl _) (.cons (Mem.no_le _) (.cons (Mem.le.refl _) (.cons (Mem.no_le _) (.cons (Mem.no_le _) (.cons (Mem.no_le _) (Sub.nil _))))))))), ?_⟩
                  refine h_event 10 [true, true, true, true, true, true, true, true, true, true, true].toArray rfl (by kernel_rfl) rfl ?_
                  obtain ⟨w_106, hs', hS'⟩ := hS.store (P := Try.prog) (p := 9) (o := 0) (t := 25) (v := .agg [v_88, v_100].toArray) (vs := [v_88, v_100]) rfl ti25 rfl rfl rfl (by intro u hu; simp only [List.mem_cons, List.not_mem_nil, or_false] at hu; rcases hu with rfl | rfl <;> first | rfl | exact ho_90.one | exact ho_102.one)
                  refine s_store hm rfl rfl hs' ?_
                  replace hS : Sep w0 w_106 [N_45, Mem.one g_2 (.cells ([p0_0, p0_1] : List Value).toArray 25 (0, 0)), Mem.no, Mem.one g_6 (.cells ([.slice none 0 0, .slice none 0 0] : List Value).toArray 25 (0, 0)), Mem.no, Mem.no, Mem.no, M_89, M_101, Mem.one g_105 (.cells ([v_88, v_100] : List Value).toArray 25 (0, 0))] Z := hS'
                  clear hs' hS'
                  refine wpList_nil ?_
                  refine x_then_n ⟨(hS.sub (.cons (Mem.le.refl _) (.cons (Mem.le.refl _) (.cons (Mem.no_le _) (.cons (Mem.le.refl _) (.cons (Mem.no_le _) (.cons (Mem.no_le _) (.cons (Mem.no_le _) (Sub.nil _))))))))), ?_⟩
                  refine h_done (by kernel_rfl) ?_
                  replace hm : Fr 71 a [(6, .pointer (some ⟨g_6, 0, none⟩)), (7, .int .i64 t_7.1), (9, .int .i64 t_14.1), (12, v_47), (13, .pointer (some ⟨g_105, 0, none⟩))] := hm.keep [6, 7, 9, 12, 13]
                  replace hS : Sep w0 w_106 [N_45, Mem.one g_2 (.cells ([p0_0, p0_1] : List Value).toArray 25 (0, 0)), Mem.no, Mem.one g_6 (.cells ([.slice none 0 0, .slice none 0 0] : List Value).toArray 25 (0, 0)), Mem.no, Mem.no, Mem.no, M_89, M_101, Mem.one g_105 (.cells ([v_88, v_100] : List Value).toArray 25 (0, 0))] Z := hS
                  replace hm : Fr 71 a [(6, .pointer (some ⟨g_6, 0, none⟩)), (7, .int .i64 t_7.1), (9, .int .i64 t_14.1), (12, v_47), (13, .pointer (some ⟨g_105, 0, none⟩))] := hm.keep [6, 7, 9, 12, 13]
                  exact x_then_n (hJ_j_64 (⟨t_86, t_98⟩ : api_Disk) H _ _ ⟨v_88, v_100, g_105, N_45, M_89, M_101, hm, (Sep.sel hS [0, 1000, 1001, 3, 1003, 1004, 1005, 9, 7, 8] (by decide)), (Mem.le.refl _), ho_90, ho_102⟩)
                · refine ⟨_, [true, true, true, true, true, true, true, false, false, true, false].toArray, rfl, rfl, ?_⟩
                  refine v_alloc hm rfl ti25 hS ?_
                  intro w_107 g_108 hS'
                  clear hm a; intro a hm
                  replace hS : Sep w0 w_107 [N_45, Mem.one g_2 (.cells ([p0_0, p0_1] : List Value).toArray 25 (0, 0)), Mem.no, Mem.one g_6 (.cells ([.slice none 0 0, .slice none 0 0] : List Value).toArray 25 (0, 0)), Mem.no, Mem.no, Mem.no, M_89, M_94, Mem.one g_108 (.cells ([.slice none 0 0, .slice none 0 0] : List Value).toArray 25 (0, 0))] Z := hS'
                  clear hS'
                  refine wpList_nil ?_
                  refine x_then_n ⟨(hS.sub (.cons (Mem.le.refl _) (.cons (Mem.le.refl _) (.cons (Mem.no_le _) (.cons (Mem.le.refl _) (.cons (Mem.no_le _) (.cons (Mem.no_le _) (.cons (Mem.no_le _) (Sub.nil _))))))))), ?_⟩
                  refine h_event 7 [true, true, true, true, true, true, true, true, false, true, false].toArray rfl (by kernel_rfl) rfl ?_
                  refine s_append (J := Mem.no) (I' := Mem.no) (p := 8) 140737488355328 hm rfl rfl rfl Try.underlying23 ti5 rfl rfl rfl rfl hS rfl ho_95 (Src.flat flat_u8 (hp0_1.src (hA.trans hS.old))) (Mem.le.refl _) (Mem.le.refl _) et_98 ?_
                  intro w_110 v_111 M_112 hS' ho_113
                  clear hm a; intro a hm
                  replace hS : Sep w0 w_110 [N_45, Mem.one g_2 (.cells ([p0_0, p0_1] : List Value).toArray 25 (0, 0)), Mem.no, Mem.one g_6 (.cells ([.slice none 0 0, .slice none 0 0] : List Value).toArray 25 (0, 0)), Mem.no, Mem.no, Mem.no, M_89, M_112, Mem.one g_108 (.cells ([.slice none 0 0, .slice none 0 0] : List Value).toArray 25 (0, 0))] Z := hS'
                  clear hS'
                  refine wpList_nil ?_
                  refine x_then_n ⟨(hS.sub (.cons (Mem.le.refl _) (.cons (Mem.le.refl _) (.cons (Mem.no_le _) (.cons (Mem.le.refl _) (.cons (Mem.no_le _) (.cons (Mem.no_le _) (.cons (Mem.no_le _) (Sub.nil _))))))))), ?_⟩
                  refine h_take 8 [true, true, true, true, true, true, true, true, true, true, false].toArray rfl (by kernel_rfl) (by kernel_rfl) (by kernel_rfl) (fun _ _ _ _ h => h) rfl rfl rfl rfl hm (hS.sub (.cons (Mem.le.refl _) (.cons (Mem.le.refl _) (.cons (Mem.no_le _) (.cons (Mem.le.refl _) (.cons (Mem.no_le _) (.cons (Mem.no_le _) (.cons (Mem.no_le _) (Sub.nil _))))))))) (v := .agg [v_88, v_111].toArray) (fun w hS => r_build hm ti25 pl25 rfl (.cons ho_90.cells (.cons ho_113.cells .nil)) (cs := [v_88, v_111]) rfl) ?_
                  clear hm a; intro a hm
                  refine h_event 10 [true, true, true, true, true, true, true, true, true, true, true].toArray rfl (by kernel_rfl) rfl ?_
                  obtain ⟨w_115, hs', hS'⟩ := hS.store (P := Try.prog) (p := 9) (o := 0) (t := 25) (v := .agg [v_88, v_111].toArray) (vs := [v_88, v_111]) rfl ti25 rfl rfl rfl (by intro u hu; simp only [List.mem_cons, List.not_mem_nil, or_false] at hu; rcases hu with rfl | rfl <;> first | rfl | exact ho_90.one | exact ho_113.one)
                  refine s_store hm rfl rfl hs' ?_
                  replace hS : Sep w0 w_115 [N_45, Mem.one g_2 (.cells ([p0_0, p0_1] : List Value).toArray 25 (0, 0)), Mem.no, Mem.one g_6 (.cells ([.slice none 0 0, .slice none 0 0] : List Value).toArray 25 (0, 0)), Mem.no, Mem.no, Mem.no, M_89, M_112, Mem.one g_108 (.cells ([v_88, v_111] : List Value).toArray 25 (0, 0))] Z := hS'
                  clear hs' hS'
                  refine wpList_nil ?_
                  refine x_then_n ⟨(hS.sub (.cons (Mem.le.refl _) (.cons (Mem.le.refl _) (.cons (Mem.no_le _) (.cons (Mem.le.refl _) (.cons (Mem.no_le _) (.cons (Mem.no_le _) (.cons (Mem.no_le _) (Sub.nil _))))))))), ?_⟩
                  refine h_done (by kernel_rfl) ?_
                  replace hm : Fr 71 a [(6, .pointer (some ⟨g_6, 0, none⟩)), (7, .int .i64 t_7.1), (9, .int .i64 t_14.1), (12, v_47), (13, .pointer (some ⟨g_108, 0, none⟩))] := hm.keep [6, 7, 9, 12, 13]
                  replace hS : Sep w0 w_115 [N_45, Mem.one g_2 (.cells ([p0_0, p0_1] : List Value).toArray 25 (0, 0)), Mem.no, Mem.one g_6 (.cells ([.slice none 0 0, .slice none 0 0] : List Value).toArray 25 (0, 0)), Mem.no, Mem.no, Mem.no, M_89, M_112, Mem.one g_108 (.cells ([v_88, v_111] : List Value).toArray 25 (0, 0))] Z := hS
                  replace hm : Fr 71 a [(6, .pointer (some ⟨g_6, 0, none⟩)), (7, .int .i64 t_7.1), (9, .int .i64 t_14.1), (12, v_47), (13, .pointer (some ⟨g_108, 0, none⟩))] := hm.keep [6, 7, 9, 12, 13]
                  exact x_then_n (hJ_j_64 (⟨t_86, t_98⟩ : api_Disk) H _ _ ⟨v_88, v_111, g_108, N_45, M_89, M_112, hm, (Sep.sel hS [0, 1000, 1001, 3, 1003, 1004, 1005, 9, 7, 8] (by decide)), (Mem.le.refl _), ho_90, ho_113⟩)
              · refine ⟨_, [true, true, true, true, false, true, true, false, false, true, false].toArray, rfl, rfl, ?_⟩
                refine v_alloc hm rfl ti25 hS ?_
                intro w_116 g_117 hS'
                clear hm a; intro a hm
                replace hS : Sep w0 w_116 [N_45, Mem.one g_2 (.cells ([p0_0, p0_1] : List Value).toArray 25 (0, 0)), Mem.no, Mem.one g_6 (.cells ([.slice none 0 0, .slice none 0 0] : List Value).toArray 25 (0, 0)), Mem.no, Mem.no, Mem.no, M_89, Mem.one g_117 (.cells ([.slice none 0 0, .slice none 0 0] : List Value).toArray 25 (0, 0))] Z := hS'
                clear hS'
                refine wpList_nil ?_
                refine x_then_n ⟨(hS.sub (.cons (Mem.le.refl _) (.cons (Mem.le.refl _) (.cons (Mem.no_le _) (.cons (Mem.le.refl _) (.cons (Mem.no_le _) (.cons (Mem.no_le _) (.cons (Mem.no_le _) (Sub.nil _))))))))), ?_⟩
                refine h_event 4 [true, true, true, true, true, true, true, false, false, true, false].toArray rfl (by kernel_rfl) rfl ?_
                have hq_122 : Reps Kd.u8 Mem.no ([] : List UInt8) _ := (Reps.nil Kd.u8 _)
                refine s_buildSlice hm rfl Try.underlying23 ti5 rfl rfl rfl .nil rfl rfl rfl hS hq_122 rfl ?_
                intro w_118 v_119 M_120 hS' ho_121
                clear hm a; intro a hm
                replace hS : Sep w0 w_118 [N_45, Mem.one g_2 (.cells ([p0_0, p0_1] : List Value).toArray 25 (0, 0)), Mem.no, Mem.one g_6 (.cells ([.slice none 0 0, .slice none 0 0] : List Value).toArray 25 (0, 0)), Mem.no, Mem.no, Mem.no, M_89, Mem.one g_117 (.cells ([.slice none 0 0, .slice none 0 0] : List Value).toArray 25 (0, 0)), M_120] Z := hS'
                clear hS' hq_122
                refine wpList_nil ?_
                refine x_then_n ⟨(hS.sub (.cons (Mem.le.refl _) (.cons (Mem.le.refl _) (.cons (Mem.no_le _) (.cons (Mem.le.refl _) (.cons (Mem.no_le _) (.cons (Mem.no_le _) (.cons (Mem.no_le _) (Sub.nil _))))))))), ?_⟩
                refine h_event 7 [true, true, true, true, true, true, true, true, false, true, false].toArray rfl (by kernel_rfl) rfl ?_
                refine s_append (J := Mem.no) (I' := Mem.no) (p := 9) 140737488355328 hm rfl rfl rfl Try.underlying23 ti5 rfl rfl rfl rfl hS rfl ho_121 (Src.flat flat_u8 (hp0_1.src (hA.trans hS.old))) (Mem.le.refl _) (Mem.le.refl _) et_98 ?_
                intro w_125 v_126 M_127 hS' ho_128
                clear hm a; intro a hm
                replace hS : Sep w0 w_125 [N_45, Mem.one g_2 (.cells ([p0_0, p0_1] : List Value).toArray 25 (0, 0)), Mem.no, Mem.one g_6 (.cells ([.slice none 0 0, .slice none 0 0] : List Value).toArray 25 (0, 0)), Mem.no, Mem.no, Mem.no, M_89, Mem.one g_117 (.cells ([.slice none 0 0, .slice none 0 0] : List Value).toArray 25 (0, 0)), M_127] Z := hS'
                clear hS'
                refine wpList_nil ?_
                refine x_then_n ⟨(hS.sub (.cons (Mem.le.refl _) (.cons (Mem.le.refl _) (.cons (Mem.no_le _) (.cons (Mem.le.refl _) (.cons (Mem.no_le _) (.cons (Mem.no_le _) (.cons (Mem.no_le _) (Sub.nil _))))))))), ?_⟩
                refine h_take 8 [true, true, true, true, true, true, true, true, true, true, false].toArray rfl (by kernel_rfl) (by kernel_rfl) (by kernel_rfl) (fun _ _ _ _ h => h) rfl rfl rfl rfl hm (hS.sub (.cons (Mem.le.refl _) (.cons (Mem.le.refl _) (.cons (Mem.no_le _) (.cons (Mem.le.refl _) (.cons (Mem.no_le _) (.cons (Mem.no_le _) (.cons (Mem.no_le _) (Sub.nil _))))))))) (v := .agg [v_88, v_126].toArray) (fun w hS => r_build hm ti25 pl25 rfl (.cons ho_90.cells (.cons ho_128.cells .nil)) (cs := [v_88, v_126]) rfl) ?_
                clear hm a; intro a hm
                refine h_event 10 [true, true, true, true, true, true, true, true, true, true, true].toArray rfl (by kernel_rfl) rfl ?_
                obtain ⟨w_130, hs', hS'⟩ := hS.store (P := Try.prog) (p := 8) (o := 0) (t := 25) (v := .agg [v_88, v_126].toArray) (vs := [v_88, v_126]) rfl ti25 rfl rfl rfl (by intro u hu; simp only [List.mem_cons, List.not_mem_nil, or_false] at hu; rcases hu with rfl | rfl <;> first | rfl | exact ho_90.one | exact ho_128.one)
                refine s_store hm rfl rfl hs' ?_
                replace hS : Sep w0 w_130 [N_45, Mem.one g_2 (.cells ([p0_0, p0_1] : List Value).toArray 25 (0, 0)), Mem.no, Mem.one g_6 (.cells ([.slice none 0 0, .slice none 0 0] : List Value).toArray 25 (0, 0)), Mem.no, Mem.no, Mem.no, M_89, Mem.one g_117 (.cells ([v_88, v_126] : List Value).toArray 25 (0, 0)), M_127] Z := hS'
                clear hs' hS'
                refine wpList_nil ?_
                refine x_then_n ⟨(hS.sub (.cons (Mem.le.refl _) (.cons (Mem.le.refl _) (.cons (Mem.no_le _) (.cons (Mem.le.refl _) (.cons (Mem.no_le _) (.cons (Mem.no_le _) (.cons (Mem.no_le _) (Sub.nil _))))))))), ?_⟩
                refine h_done (by kernel_rfl) ?_
                replace hm : Fr 71 a [(6, .pointer (some ⟨g_6, 0, none⟩)), (7, .int .i64 t_7.1), (9, .int .i64 t_14.1), (12, v_47), (13, .pointer (some ⟨g_117, 0, none⟩))] := hm.keep [6, 7, 9, 12, 13]
                replace hS : Sep w0 w_130 [N_45, Mem.one g_2 (.cells ([p0_0, p0_1] : List Value).toArray 25 (0, 0)), Mem.no, Mem.one g_6 (.cells ([.slice none 0 0, .slice none 0 0] : List Value).toArray 25 (0, 0)), Mem.no, Mem.no, Mem.no, M_89, Mem.one g_117 (.cells ([v_88, v_126] : List Value).toArray 25 (0, 0)), M_127] Z := hS
                replace hm : Fr 71 a [(6, .pointer (some ⟨g_6, 0, none⟩)), (7, .int .i64 t_7.1), (9, .int .i64 t_14.1), (12, v_47), (13, .pointer (some ⟨g_117, 0, none⟩))] := hm.keep [6, 7, 9, 12, 13]
                exact x_then_n (hJ_j_64 (⟨t_86, t_98⟩ : api_Disk) H _ _ ⟨v_88, v_126, g_117, N_45, M_89, M_127, hm, (Sep.sel hS [0, 1000, 1001, 3, 1003, 1004, 1005, 8, 7, 9] (by decide)), (Mem.le.refl _), ho_90, ho_128⟩)
            · refine ⟨_, [true, true, true, false, true, true, true, false, false, false, false].toArray, rfl, rfl, ?_⟩
              have hq_135 : Reps Kd.u8 Mem.no ([] : List UInt8) _ := (Reps.nil Kd.u8 _)
              refine s_buildSlice hm rfl Try.underlying23 ti5 rfl rfl rfl .nil rfl rfl rfl hS hq_135 rfl ?_
              intro w_131 v_132 M_133 hS' ho_134
              clear hm a; intro a hm
              replace hS : Sep w0 w_131 [N_45, Mem.one g_2 (.cells ([p0_0, p0_1] : List Value).toArray 25 (0, 0)), Mem.no, Mem.one g_6 (.cells ([.slice none 0 0, .slice none 0 0] : List Value).toArray 25 (0, 0)), Mem.no, Mem.no, Mem.no, M_82, M_133] Z := hS'
              clear hS' hq_135
              refine wpList_nil ?_
              refine x_then_n ⟨(hS.sub (.cons (Mem.le.refl _) (.cons (Mem.le.refl _) (.cons (Mem.no_le _) (.cons (Mem.le.refl _) (.cons (Mem.no_le _) (.cons (Mem.no_le _) (.cons (Mem.no_le _) (Sub.nil _))))))))), ?_⟩
              refine h_events [3, 9] (by kernel_rfl) (by simp) ?_
              intro i hi; simp only [List.mem_cons, List.not_mem_nil, or_false] at hi; rcases hi with rfl | rfl
              · refine ⟨_, [true, true, true, true, true, true, true, false, false, false, false].toArray, rfl, rfl, ?_⟩
                refine s_append (J := Mem.no) (I' := Mem.no) (p := 7) 140737488355328 hm rfl rfl rfl Try.underlying23 ti5 rfl rfl rfl rfl hS rfl ho_83 (Src.flat flat_u8 (hp0_0.src (hA.trans hS.old))) (Mem.le.refl _) (Mem.le.refl _) et_86 ?_
                intro w_138 v_139 M_140 hS' ho_141
                clear hm a; intro a hm
                replace hS : Sep w0 w_138 [N_45, Mem.one g_2 (.cells ([p0_0, p0_1] : List Value).toArray 25 (0, 0)), Mem.no, Mem.one g_6 (.cells ([.slice none 0 0, .slice none 0 0] : List Value).toArray 25 (0, 0)), Mem.no, Mem.no, Mem.no, M_140, M_133] Z := hS'
                clear hS'
                refine wpList_nil ?_
                refine x_then_n ⟨(hS.sub (.cons (Mem.le.refl _) (.cons (Mem.le.refl _) (.cons (Mem.no_le _) (.cons (Mem.le.refl _) (.cons (Mem.no_le _) (.cons (Mem.no_le _) (.cons (Mem.no_le _) (Sub.nil _))))))))), ?_⟩
                refine h_events [7, 9] (by kernel_rfl) (by simp) ?_
                intro i hi; simp only [List.mem_cons, List.not_mem_nil, or_false] at hi; rcases hi with rfl | rfl
                · refine ⟨_, [true, true, true, true, true, true, true, true, false, false, false].toArray, rfl, rfl, ?_⟩
                  refine s_append (J := Mem.no) (I' := Mem.no) (p := 8) 140737488355328 hm rfl rfl rfl Try.underlying23 ti5 rfl rfl rfl rfl hS rfl ho_134 (Src.flat flat_u8 (hp0_1.src (hA.trans hS.old))) (Mem.le.refl _) (Mem.le.refl _) et_98 ?_
                  intro w_144 v_145 M_146 hS' ho_147
                  clear hm a; intro a hm
                  replace hS : Sep w0 w_144 [N_45, Mem.one g_2 (.cells ([p0_0, p0_1] : List Value).toArray 25 (0, 0)), Mem.no, Mem.one g_6 (.cells ([.slice none 0 0, .slice none 0 0] : List Value).toArray 25 (0, 0)), Mem.no, Mem.no, Mem.no, M_140, M_146] Z := hS'
                  clear hS'
                  refine wpList_nil ?_
                  refine x_then_n ⟨(hS.sub (.cons (Mem.le.refl _) (.cons (Mem.le.refl _) (.cons (Mem.no_le _) (.cons (Mem.le.refl _) (.cons (Mem.no_le _) (.cons (Mem.no_le _) (.cons (Mem.no_le _) (Sub.nil _))))))))), ?_⟩
                  refine h_take 8 [true, true, true, true, true, true, true, true, true, false, false].toArray rfl (by kernel_rfl) (by kernel_rfl) (by kernel_rfl) (fun _ _ _ _ h => h) rfl rfl rfl rfl hm (hS.sub (.cons (Mem.le.refl _) (.cons (Mem.le.refl _) (.cons (Mem.no_le _) (.cons (Mem.le.refl _) (.cons (Mem.no_le _) (.cons (Mem.no_le _) (.cons (Mem.no_le _) (Sub.nil _))))))))) (v := .agg [v_139, v_145].toArray) (fun w hS => r_build hm ti25 pl25 rfl (.cons ho_141.cells (.cons ho_147.cells .nil)) (cs := [v_139, v_145]) rfl) ?_
                  clear hm a; intro a hm
                  refine h_event 9 [true, true, true, true, true, true, true, true, true, true, false].toArray rfl (by kernel_rfl) rfl ?_
                  refine v_alloc hm rfl ti25 hS ?_
                  intro w_149 g_150 hS'
                  clear hm a; intro a hm
                  replace hS : Sep w0 w_149 [N_45, Mem.one g_2 (.cells ([p0_0, p0_1] : List Value).toArray 25 (0, 0)), Mem.no, Mem.one g_6 (.cells ([.slice none 0 0, .slice none 0 0] : List Value).toArray 25 (0, 0)), Mem.no, Mem.no, Mem.no, M_140, M_146, Mem.one g_150 (.cells ([.slice none 0 0, .slice none 0 0] : List Value).toArray 25 (0, 0))] Z := hS'
                  clear hS'
                  refine wpList_nil ?_
                  refine x_then_n ⟨(hS.sub (.cons (Mem.le.refl _) (.cons (Mem.le.refl _) (.cons (Mem.no_le _) (.cons (Mem.le.refl _) (.cons (Mem.no_le _) (.cons (Mem.no_le _) (.cons (Mem.no_le _) (Sub.nil _))))))))), ?_⟩
                  refine h_event 10 [true, true, true, true, true, true, true, true, true, true, true].toArray rfl (by kernel_rfl) rfl ?_
                  obtain ⟨w_151, hs', hS'⟩ := hS.store (P := Try.prog) (p := 9) (o := 0) (t := 25) (v := .agg [v_139, v_145].toArray) (vs := [v_139, v_145]) rfl ti25 rfl rfl rfl (by intro u hu; simp only [List.mem_cons, List.not_mem_nil, or_false] at hu; rcases hu with rfl | rfl <;> first | rfl | exact ho_141.one | exact ho_147.one)
                  refine s_store hm rfl rfl hs' ?_
                  replace hS : Sep w0 w_151 [N_45, Mem.one g_2 (.cells ([p0_0, p0_1] : List Value).toArray 25 (0, 0)), Mem.no, Mem.one g_6 (.cells ([.slice none 0 0, .slice none 0 0] : List Value).toArray 25 (0, 0)), Mem.no, Mem.no, Mem.no, M_140, M_146, Mem.one g_150 (.cells ([v_139, v_145] : List Value).toArray 25 (0, 0))] Z := hS'
                  clear hs' hS'
                  refine wpList_nil ?_
                  refine x_then_n ⟨(hS.sub (.cons (Mem.le.refl _) (.cons (Mem.le.refl _) (.cons (Mem.no_le _) (.cons (Mem.le.refl _) (.cons (Mem.no_le _) (.cons (Mem.no_le _) (.cons (Mem.no_le _) (Sub.nil _))))))))), ?_⟩
                  refine h_done (by kernel_rfl) ?_
                  replace hm : Fr 71 a [(6, .pointer (some ⟨g_6, 0, none⟩)), (7, .int .i64 t_7.1), (9, .int .i64 t_14.1), (12, v_47), (13, .pointer (some ⟨g_150, 0, none⟩))] := hm.keep [6, 7, 9, 12, 13]
                  replace hS : Sep w0 w_151 [N_45, Mem.one g_2 (.cells ([p0_0, p0_1] : List Value).toArray 25 (0, 0)), Mem.no, Mem.one g_6 (.cells ([.slice none 0 0, .slice none 0 0] : List Value).toArray 25 (0, 0)), Mem.no, Mem.no, Mem.no, M_140, M_146, Mem.one g_150 (.cells ([v_139, v_145] : List Value).toArray 25 (0, 0))] Z := hS
                  replace hm : Fr 71 a [(6, .pointer (some ⟨g_6, 0, none⟩)), (7, .int .i64 t_7.1), (9, .int .i64 t_14.1), (12, v_47), (13, .pointer (some ⟨g_150, 0, none⟩))] := hm.keep [6, 7, 9, 12, 13]
                  exact x_then_n (hJ_j_64 (⟨t_86, t_98⟩ : api_Disk) H _ _ ⟨v_139, v_145, g_150, N_45, M_140, M_146, hm, (Sep.sel hS [0, 1000, 1001, 3, 1003, 1004, 1005, 9, 7, 8] (by decide)), (Mem.le.refl _), ho_141, ho_147⟩)
                · refine ⟨_, [true, true, true, true, true, true, true, false, false, true, false].toArray, rfl, rfl, ?_⟩
                  refine v_alloc hm rfl ti25 hS ?_
                  intro w_152 g_153 hS'
                  clear hm a; intro a hm
                  replace hS : Sep w0 w_152 [N_45, Mem.one g_2 (.cells ([p0_0, p0_1] : List Value).toArray 25 (0, 0)), Mem.no, Mem.one g_6 (.cells ([.slice none 0 0, .slice none 0 0] : List Value).toArray 25 (0, 0)), Mem.no, Mem.no, Mem.no, M_140, M_133, Mem.one g_153 (.cells ([.slice none 0 0, .slice none 0 0] : List Value).toArray 25 (0, 0))] Z := hS'
                  clear hS'
                  refine wpList_nil ?_
                  refine x_then_n ⟨(hS.sub (.cons (Mem.le.refl _) (.cons (Mem.le.refl _) (.cons (Mem.no_le _) (.cons (Mem.le.refl _) (.cons (Mem.no_le _) (.cons (Mem.no_le _) (.cons (Mem.no_le _) (Sub.nil _))))))))), ?_⟩
                  refine h_event 7 [true, true, true, true, true, true, true, true, false, true, false].toArray rfl (by kernel_rfl) rfl ?_
                  refine s_append (J := Mem.no) (I' := Mem.no) (p := 8) 140737488355328 hm rfl rfl rfl Try.underlying23 ti5 rfl rfl rfl rfl hS rfl ho_134 (Src.flat flat_u8 (hp0_1.src (hA.trans hS.old))) (Mem.le.refl _) (Mem.le.refl _) et_98 ?_
                  intro w_155 v_156 M_157 hS' ho_158
                  clear hm a; intro a hm
                  replace hS : Sep w0 w_155 [N_45, Mem.one g_2 (.cells ([p0_0, p0_1] : List Value).toArray 25 (0, 0)), Mem.no, Mem.one g_6 (.cells ([.slice none 0 0, .slice none 0 0] : List Value).toArray 25 (0, 0)), Mem.no, Mem.no, Mem.no, M_140, M_157, Mem.one g_153 (.cells ([.slice none 0 0, .slice none 0 0] : List Value).toArray 25 (0, 0))] Z := hS'
                  clear hS'
                  refine wpList_nil ?_
                  refine x_then_n ⟨(hS.sub (.cons (Mem.le.refl _) (.cons (Mem.le.refl _) (.cons (Mem.no_le _) (.cons (Mem.le.refl _) (.cons (Mem.no_le _) (.cons (Mem.no_le _) (.cons (Mem.no_le _) (Sub.nil _))))))))), ?_⟩
                  refine h_take 8 [true, true, true, true, true, true, true, true, true, true, false].toArray rfl (by kernel_rfl) (by kernel_rfl) (by kernel_rfl) (fun _ _ _ _ h => h) rfl rfl rfl rfl hm (hS.sub (.cons (Mem.le.refl _) (.cons (Mem.le.refl _) (.cons (Mem.no_le _) (.cons (Mem.le.refl _) (.cons (Mem.no_le _) (.cons (Mem.no_le _) (.cons (Mem.no_le _) (Sub.nil _))))))))) (v := .agg [v_139, v_156].toArray) (fun w hS => r_build hm ti25 pl25 rfl (.cons ho_141.cells (.cons ho_158.cells .nil)) (cs := [v_139, v_156]) rfl) ?_
                  clear hm a; intro a hm
                  refine h_event 10 [true, true, true, true, true, true, true, true, true, true, true].toArray rfl (by kernel_rfl) rfl ?_
                  obtain ⟨w_160, hs', hS'⟩ := hS.store (P := Try.prog) (p := 9) (o := 0) (t := 25) (v := .agg [v_139, v_156].toArray) (vs := [v_139, v_156]) rfl ti25 rfl rfl rfl (by intro u hu; simp only [List.mem_cons, List.not_mem_nil, or_false] at hu; rcases hu with rfl | rfl <;> first | rfl | exact ho_141.one | exact ho_158.one)
                  refine s_store hm rfl rfl hs' ?_
                  replace hS : Sep w0 w_160 [N_45, Mem.one g_2 (.cells ([p0_0, p0_1] : List Value).toArray 25 (0, 0)), Mem.no, Mem.one g_6 (.cells ([.slice none 0 0, .slice none 0 0] : List Value).toArray 25 (0, 0)), Mem.no, Mem.no, Mem.no, M_140, M_157, Mem.one g_153 (.cells ([v_139, v_156] : List Value).toArray 25 (0, 0))] Z := hS'
                  clear hs' hS'
                  refine wpList_nil ?_
                  refine x_then_n ⟨(hS.sub (.cons (Mem.le.refl _) (.cons (Mem.le.refl _) (.cons (Mem.no_le _) (.cons (Mem.le.refl _) (.cons (Mem.no_le _) (.cons (Mem.no_le _) (.cons (Mem.no_le _) (Sub.nil _))))))))), ?_⟩
                  refine h_done (by kernel_rfl) ?_
                  replace hm : Fr 71 a [(6, .pointer (some ⟨g_6, 0, none⟩)), (7, .int .i64 t_7.1), (9, .int .i64 t_14.1), (12, v_47), (13, .pointer (some ⟨g_153, 0, none⟩))] := hm.keep [6, 7, 9, 12, 13]
                  replace hS : Sep w0 w_160 [N_45, Mem.one g_2 (.cells ([p0_0, p0_1] : List Value).toArray 25 (0, 0)), Mem.no, Mem.one g_6 (.cells ([.slice none 0 0, .slice none 0 0] : List Value).toArray 25 (0, 0)), Mem.no, Mem.no, Mem.no, M_140, M_157, Mem.one g_153 (.cells ([v_139, v_156] : List Value).toArray 25 (0, 0))] Z := hS
                  replace hm : Fr 71 a [(6, .pointer (some ⟨g_6, 0, none⟩)), (7, .int .i64 t_7.1), (9, .int .i64 t_14.1), (12, v_47), (13, .pointer (some ⟨g_153, 0, none⟩))] := hm.keep [6, 7, 9, 12, 13]
                  exact x_then_n (hJ_j_64 (⟨t_86, t_98⟩ : api_Disk) H _ _ ⟨v_139, v_156, g_153, N_45, M_140, M_157, hm, (Sep.sel hS [0, 1000, 1001, 3, 1003, 1004, 1005, 9, 7, 8] (by decide)), (Mem.le.refl _), ho_141, ho_158⟩)
              · refine ⟨_, [true, true, true, false, true, true, true, false, false, true, false].toArray, rfl, rfl, ?_⟩
                refine v_alloc hm rfl ti25 hS ?_
                intro w_161 g_162 hS'
                clear hm a; intro a hm
                replace hS : Sep w0 w_161 [N_45, Mem.one g_2 (.cells ([p0_0, p0_1] : List Value).toArray 25 (0, 0)), Mem.no, Mem.one g_6 (.cells ([.slice none 0 0, .slice none 0 0] : List Value).toArray 25 (0, 0)), Mem.no, Mem.no, Mem.no, M_82, M_133, Mem.one g_162 (.cells ([.slice none 0 0, .slice none 0 0] : List Value).toArray 25 (0, 0))] Z := hS'
                clear hS'
                refine wpList_nil ?_
                refine x_then_n ⟨(hS.sub (.cons (Mem.le.refl _) (.cons (Mem.le.refl _) (.cons (Mem.no_le _) (.cons (Mem.le.refl _) (.cons (Mem.no_le _) (.cons (Mem.no_le _) (.cons (Mem.no_le _) (Sub.nil _))))))))), ?_⟩
                refine h_event 3 [true, true, true, true, true, true, true, false, false, true, false].toArray rfl (by kernel_rfl) rfl ?_
                refine s_append (J := Mem.no) (I' := Mem.no) (p := 7) 140737488355328 hm rfl rfl rfl Try.underlying23 ti5 rfl rfl rfl rfl hS rfl ho_83 (Src.flat flat_u8 (hp0_0.src (hA.trans hS.old))) (Mem.le.refl _) (Mem.le.refl _) et_86 ?_
                intro w_164 v_165 M_166 hS' ho_167
                clear hm a; intro a hm
                replace hS : Sep w0 w_164 [N_45, Mem.one g_2 (.cells ([p0_0, p0_1] : List Value).toArray 25 (0, 0)), Mem.no, Mem.one g_6 (.cells ([.slice none 0 0, .slice none 0 0] : List Value).toArray 25 (0, 0)), Mem.no, Mem.no, Mem.no, M_166, M_133, Mem.one g_162 (.cells ([.slice none 0 0, .slice none 0 0] : List Value).toArray 25 (0, 0))] Z := hS'
                clear hS'
                refine wpList_nil ?_
                refine x_then_n ⟨(hS.sub (.cons (Mem.le.refl _) (.cons (Mem.le.refl _) (.cons (Mem.no_le _) (.cons (Mem.le.refl _) (.cons (Mem.no_le _) (.cons (Mem.no_le _) (.cons (Mem.no_le _) (Sub.nil _))))))))), ?_⟩
                refine h_event 7 [true, true, true, true, true, true, true, true, false, true, false].toArray rfl (by kernel_rfl) rfl ?_
                refine s_append (J := Mem.no) (I' := Mem.no) (p := 8) 140737488355328 hm rfl rfl rfl Try.underlying23 ti5 rfl rfl rfl rfl hS rfl ho_134 (Src.flat flat_u8 (hp0_1.src (hA.trans hS.old))) (Mem.le.refl _) (Mem.le.refl _) et_98 ?_
                intro w_170 v_171 M_172 hS' ho_173
                clear hm a; intro a hm
                replace hS : Sep w0 w_170 [N_45, Mem.one g_2 (.cells ([p0_0, p0_1] : List Value).toArray 25 (0, 0)), Mem.no, Mem.one g_6 (.cells ([.slice none 0 0, .slice none 0 0] : List Value).toArray 25 (0, 0)), Mem.no, Mem.no, Mem.no, M_166, M_172, Mem.one g_162 (.cells ([.slice none 0 0, .slice none 0 0] : List Value).toArray 25 (0, 0))] Z := hS'
                clear hS'
                refine wpList_nil ?_
                refine x_then_n ⟨(hS.sub (.cons (Mem.le.refl _) (.cons (Mem.le.refl _) (.cons (Mem.no_le _) (.cons (Mem.le.refl _) (.cons (Mem.no_le _) (.cons (Mem.no_le _) (.cons (Mem.no_le _) (Sub.nil _))))))))), ?_⟩
                refine h_take 8 [true, true, true, true, true, true, true, true, true, true, false].toArray rfl (by kernel_rfl) (by kernel_rfl) (by kernel_rfl) (fun _ _ _ _ h => h) rfl rfl rfl rfl hm (hS.sub (.cons (Mem.le.refl _) (.cons (Mem.le.refl _) (.cons (Mem.no_le _) (.cons (Mem.le.refl _) (.cons (Mem.no_le _) (.cons (Mem.no_le _) (.cons (Mem.no_le _) (Sub.nil _))))))))) (v := .agg [v_165, v_171].toArray) (fun w hS => r_build hm ti25 pl25 rfl (.cons ho_167.cells (.cons ho_173.cells .nil)) (cs := [v_165, v_171]) rfl) ?_
                clear hm a; intro a hm
                refine h_event 10 [true, true, true, true, true, true, true, true, true, true, true].toArray rfl (by kernel_rfl) rfl ?_
                obtain ⟨w_175, hs', hS'⟩ := hS.store (P := Try.prog) (p := 9) (o := 0) (t := 25) (v := .agg [v_165, v_171].toArray) (vs := [v_165, v_171]) rfl ti25 rfl rfl rfl (by intro u hu; simp only [List.mem_cons, List.not_mem_nil, or_false] at hu; rcases hu with rfl | rfl <;> first | rfl | exact ho_167.one | exact ho_173.one)
                refine s_store hm rfl rfl hs' ?_
                replace hS : Sep w0 w_175 [N_45, Mem.one g_2 (.cells ([p0_0, p0_1] : List Value).toArray 25 (0, 0)), Mem.no, Mem.one g_6 (.cells ([.slice none 0 0, .slice none 0 0] : List Value).toArray 25 (0, 0)), Mem.no, Mem.no, Mem.no, M_166, M_172, Mem.one g_162 (.cells ([v_165, v_171] : List Value).toArray 25 (0, 0))] Z := hS'
                clear hs' hS'
                refine wpList_nil ?_
                refine x_then_n ⟨(hS.sub (.cons (Mem.le.refl _) (.cons (Mem.le.refl _) (.cons (Mem.no_le _) (.cons (Mem.le.refl _) (.cons (Mem.no_le _) (.cons (Mem.no_le _) (.cons (Mem.no_le _) (Sub.nil _))))))))), ?_⟩
                refine h_done (by kernel_rfl) ?_
                replace hm : Fr 71 a [(6, .pointer (some ⟨g_6, 0, none⟩)), (7, .int .i64 t_7.1), (9, .int .i64 t_14.1), (12, v_47), (13, .pointer (some ⟨g_162, 0, none⟩))] := hm.keep [6, 7, 9, 12, 13]
                replace hS : Sep w0 w_175 [N_45, Mem.one g_2 (.cells ([p0_0, p0_1] : List Value).toArray 25 (0, 0)), Mem.no, Mem.one g_6 (.cells ([.slice none 0 0, .slice none 0 0] : List Value).toArray 25 (0, 0)), Mem.no, Mem.no, Mem.no, M_166, M_172, Mem.one g_162 (.cells ([v_165, v_171] : List Value).toArray 25 (0, 0))] Z := hS
                replace hm : Fr 71 a [(6, .pointer (some ⟨g_6, 0, none⟩)), (7, .int .i64 t_7.1), (9, .int .i64 t_14.1), (12, v_47), (13, .pointer (some ⟨g_162, 0, none⟩))] := hm.keep [6, 7, 9, 12, 13]
                exact x_then_n (hJ_j_64 (⟨t_86, t_98⟩ : api_Disk) H _ _ ⟨v_165, v_171, g_162, N_45, M_166, M_172, hm, (Sep.sel hS [0, 1000, 1001, 3, 1003, 1004, 1005, 9, 7, 8] (by decide)), (Mem.le.refl _), ho_167, ho_173⟩)
            · refine ⟨_, [true, true, true, false, false, true, true, false, false, true, false].toArray, rfl, rfl, ?_⟩
              refine v_alloc hm rfl ti25 hS ?_
              intro w_176 g_177 hS'
              clear hm a; intro a hm
              replace hS : Sep w0 w_176 [N_45, Mem.one g_2 (.cells ([p0_0, p0_1] : List Value).toArray 25 (0, 0)), Mem.no, Mem.one g_6 (.cells ([.slice none 0 0, .slice none 0 0] : List Value).toArray 25 (0, 0)), Mem.no, Mem.no, Mem.no, M_82, Mem.one g_177 (.cells ([.slice none 0 0, .slice none 0 0] : List Value).toArray 25 (0, 0))] Z := hS'
              clear hS'
              refine wpList_nil ?_
              refine x_then_n ⟨(hS.sub (.cons (Mem.le.refl _) (.cons (Mem.le.refl _) (.cons (Mem.no_le _) (.cons (Mem.le.refl _) (.cons (Mem.no_le _) (.cons (Mem.no_le _) (.cons (Mem.no_le _) (Sub.nil _))))))))), ?_⟩
              refine h_events [3, 4] (by kernel_rfl) (by simp) ?_
              intro i hi; simp only [List.mem_cons, List.not_mem_nil, or_false] at hi; rcases hi with rfl | rfl
              · refine ⟨_, [true, true, true, true, false, true, true, false, false, true, false].toArray, rfl, rfl, ?_⟩
                refine s_append (J := Mem.no) (I' := Mem.no) (p := 7) 140737488355328 hm rfl rfl rfl Try.underlying23 ti5 rfl rfl rfl rfl hS rfl ho_83 (Src.flat flat_u8 (hp0_0.src (hA.trans hS.old))) (Mem.le.refl _) (Mem.le.refl _) et_86 ?_
                intro w_179 v_180 M_181 hS' ho_182
                clear hm a; intro a hm
                replace hS : Sep w0 w_179 [N_45, Mem.one g_2 (.cells ([p0_0, p0_1] : List Value).toArray 25 (0, 0)), Mem.no, Mem.one g_6 (.cells ([.slice none 0 0, .slice none 0 0] : List Value).toArray 25 (0, 0)), Mem.no, Mem.no, Mem.no, M_181, Mem.one g_177 (.cells ([.slice none 0 0, .slice none 0 0] : List Value).toArray 25 (0, 0))] Z := hS'
                clear hS'
                refine wpList_nil ?_
                refine x_then_n ⟨(hS.sub (.cons (Mem.le.refl _) (.cons (Mem.le.refl _) (.cons (Mem.no_le _) (.cons (Mem.le.refl _) (.cons (Mem.no_le _) (.cons (Mem.no_le _) (.cons (Mem.no_le _) (Sub.nil _))))))))), ?_⟩
                refine h_event 4 [true, true, true, true, true, true, true, false, false, true, false].toArray rfl (by kernel_rfl) rfl ?_
                have hq_188 : Reps Kd.u8 Mem.no ([] : List UInt8) _ := (Reps.nil Kd.u8 _)
                refine s_buildSlice hm rfl Try.underlying23 ti5 rfl rfl rfl .nil rfl rfl rfl hS hq_188 rfl ?_
                intro w_184 v_185 M_186 hS' ho_187
                clear hm a; intro a hm
                replace hS : Sep w0 w_184 [N_45, Mem.one g_2 (.cells ([p0_0, p0_1] : List Value).toArray 25 (0, 0)), Mem.no, Mem.one g_6 (.cells ([.slice none 0 0, .slice none 0 0] : List Value).toArray 25 (0, 0)), Mem.no, Mem.no, Mem.no, M_181, Mem.one g_177 (.cells ([.slice none 0 0, .slice none 0 0] : List Value).toArray 25 (0, 0)), M_186] Z := hS'
                clear hS' hq_188
                refine wpList_nil ?_
                refine x_then_n ⟨(hS.sub (.cons (Mem.le.refl _) (.cons (Mem.le.refl _) (.cons (Mem.no_le _) (.cons (Mem.le.refl _) (.cons (Mem.no_le _) (.cons (Mem.no_le _) (.cons (Mem.no_le _) (Sub.nil _))))))))), ?_⟩
                refine h_event 7 [true, true, true, true, true, true, true, true, false, true, false].toArray rfl (by kernel_rfl) rfl ?_
                refine s_append (J := Mem.no) (I' := Mem.no) (p := 9) 140737488355328 hm rfl rfl rfl Try.underlying23 ti5 rfl rfl rfl rfl hS rfl ho_187 (Src.flat flat_u8 (hp0_1.src (hA.trans hS.old))) (Mem.le.refl _) (Mem.le.refl _) et_98 ?_
                intro w_191 v_192 M_193 hS' ho_194
                clear hm a; intro a hm
                replace hS : Sep w0 w_191 [N_45, Mem.one g_2 (.cells ([p0_0, p0_1] : List Value).toArray 25 (0, 0)), Mem.no, Mem.one g_6 (.cells ([.slice none 0 0, .slice none 0 0] : List Value).toArray 25 (0, 0)), Mem.no, Mem.no, Mem.no, M_181, Mem.one g_177 (.cells ([.slice none 0 0, .slice none 0 0] : List Value).toArray 25 (0, 0)), M_193] Z := hS'
                clear hS'
                refine wpList_nil ?_
                refine x_then_n ⟨(hS.sub (.cons (Mem.le.refl _) (.cons (Mem.le.refl _) (.cons (Mem.no_le _) (.cons (Mem.le.refl _) (.cons (Mem.no_le _) (.cons (Mem.no_le _) (.cons (Mem.no_le _) (Sub.nil _))))))))), ?_⟩
                refine h_take 8 [true, true, true, true, true, true, true, true, true, true, false].toArray rfl (by kernel_rfl) (by kernel_rfl) (by kernel_rfl) (fun _ _ _ _ h => h) rfl rfl rfl rfl hm (hS.sub (.cons (Mem.le.refl _) (.cons (Mem.le.refl _) (.cons (Mem.no_le _) (.cons (Mem.le.refl _) (.cons (Mem.no_le _) (.cons (Mem.no_le _) (.cons (Mem.no_le _) (Sub.nil _))))))))) (v := .agg [v_180, v_192].toArray) (fun w hS => r_build hm ti25 pl25 rfl (.cons ho_182.cells (.cons ho_194.cells .nil)) (cs := [v_180, v_192]) rfl) ?_
                clear hm a; intro a hm
                refine h_event 10 [true, true, true, true, true, true, true, true, true, true, true].toArray rfl (by kernel_rfl) rfl ?_
                obtain ⟨w_196, hs', hS'⟩ := hS.store (P := Try.prog) (p := 8) (o := 0) (t := 25) (v := .agg [v_180, v_192].toArray) (vs := [v_180, v_192]) rfl ti25 rfl rfl rfl (by intro u hu; simp only [List.mem_cons, List.not_mem_nil, or_false] at hu; rcases hu with rfl | rfl <;> first | rfl | exact ho_182.one | exact ho_194.one)
                refine s_store hm rfl rfl hs' ?_
                replace hS : Sep w0 w_196 [N_45, Mem.one g_2 (.cells ([p0_0, p0_1] : List Value).toArray 25 (0, 0)), Mem.no, Mem.one g_6 (.cells ([.slice none 0 0, .slice none 0 0] : List Value).toArray 25 (0, 0)), Mem.no, Mem.no, Mem.no, M_181, Mem.one g_177 (.cells ([v_180, v_192] : List Value).toArray 25 (0, 0)), M_193] Z := hS'
                clear hs' hS'
                refine wpList_nil ?_
                refine x_then_n ⟨(hS.sub (.cons (Mem.le.refl _) (.cons (Mem.le.refl _) (.cons (Mem.no_le _) (.cons (Mem.le.refl _) (.cons (Mem.no_le _) (.cons (Mem.no_le _) (.cons (Mem.no_le _) (Sub.nil _))))))))), ?_⟩
                refine h_done (by kernel_rfl) ?_
                replace hm : Fr 71 a [(6, .pointer (some ⟨g_6, 0, none⟩)), (7, .int .i64 t_7.1), (9, .int .i64 t_14.1), (12, v_47), (13, .pointer (some ⟨g_177, 0, none⟩))] := hm.keep [6, 7, 9, 12, 13]
                replace hS : Sep w0 w_196 [N_45, Mem.one g_2 (.cells ([p0_0, p0_1] : List Value).toArray 25 (0, 0)), Mem.no, Mem.one g_6 (.cells ([.slice none 0 0, .slice none 0 0] : List Value).toArray 25 (0, 0)), Mem.no, Mem.no, Mem.no, M_181, Mem.one g_177 (.cells ([v_180, v_192] : List Value).toArray 25 (0, 0)), M_193] Z := hS
                replace hm : Fr 71 a [(6, .pointer (some ⟨g_6, 0, none⟩)), (7, .int .i64 t_7.1), (9, .int .i64 t_14.1), (12, v_47), (13, .pointer (some ⟨g_177, 0, none⟩))] := hm.keep [6, 7, 9, 12, 13]
                exact x_then_n (hJ_j_64 (⟨t_86, t_98⟩ : api_Disk) H _ _ ⟨v_180, v_192, g_177, N_45, M_181, M_193, hm, (Sep.sel hS [0, 1000, 1001, 3, 1003, 1004, 1005, 8, 7, 9] (by decide)), (Mem.le.refl _), ho_182, ho_194⟩)
              · refine ⟨_, [true, true, true, false, true, true, true, false, false, true, false].toArray, rfl, rfl, ?_⟩
                have hq_201 : Reps Kd.u8 Mem.no ([] : List UInt8) _ := (Reps.nil Kd.u8 _)
                refine s_buildSlice hm rfl Try.underlying23 ti5 rfl rfl rfl .nil rfl rfl rfl hS hq_201 rfl ?_
                intro w_197 v_198 M_199 hS' ho_200
                clear hm a; intro a hm
                replace hS : Sep w0 w_197 [N_45, Mem.one g_2 (.cells ([p0_0, p0_1] : List Value).toArray 25 (0, 0)), Mem.no, Mem.one g_6 (.cells ([.slice none 0 0, .slice none 0 0] : List Value).toArray 25 (0, 0)), Mem.no, Mem.no, Mem.no, M_82, Mem.one g_177 (.cells ([.slice none 0 0, .slice none 0 0] : List Value).toArray 25 (0, 0)), M_199] Z := hS'
                clear hS' hq_201
                refine wpList_nil ?_
                refine x_then_n ⟨(hS.sub (.cons (Mem.le.refl _) (.cons (Mem.le.refl _) (.cons (Mem.no_le _) (.cons (Mem.le.refl _) (.cons (Mem.no_le _) (.cons (Mem.no_le _) (.cons (Mem.no_le _) (Sub.nil _))))))))), ?_⟩
                refine h_event 3 [true, true, true, true, true, true, true, false, false, true, false].toArray rfl (by kernel_rfl) rfl ?_
                refine s_append (J := Mem.no) (I' := Mem.no) (p := 7) 140737488355328 hm rfl rfl rfl Try.underlying23 ti5 rfl rfl rfl rfl hS rfl ho_83 (Src.flat flat_u8 (hp0_0.src (hA.trans hS.old))) (Mem.le.refl _) (Mem.le.refl _) et_86 ?_
                intro w_204 v_205 M_206 hS' ho_207
                clear hm a; intro a hm
                replace hS : Sep w0 w_204 [N_45, Mem.one g_2 (.cells ([p0_0, p0_1] : List Value).toArray 25 (0, 0)), Mem.no, Mem.one g_6 (.cells ([.slice none 0 0, .slice none 0 0] : List Value).toArray 25 (0, 0)), Mem.no, Mem.no, Mem.no, M_206, Mem.one g_177 (.cells ([.slice none 0 0, .slice none 0 0] : List Value).toArray 25 (0, 0)), M_199] Z := hS'
                clear hS'
                refine wpList_nil ?_
                refine x_then_n ⟨(hS.sub (.cons (Mem.le.refl _) (.cons (Mem.le.refl _) (.cons (Mem.no_le _) (.cons (Mem.le.refl _) (.cons (Mem.no_le _) (.cons (Mem.no_le _) (.cons (Mem.no_le _) (Sub.nil _))))))))), ?_⟩
                refine h_event 7 [true, true, true, true, true, true, true, true, false, true, false].toArray rfl (by kernel_rfl) rfl ?_
                refine s_append (J := Mem.no) (I' := Mem.no) (p := 9) 140737488355328 hm rfl rfl rfl Try.underlying23 ti5 rfl rfl rfl rfl hS rfl ho_200 (Src.flat flat_u8 (hp0_1.src (hA.trans hS.old))) (Mem.le.refl _) (Mem.le.refl _) et_98 ?_
                intro w_210 v_211 M_212 hS' ho_213
                clear hm a; intro a hm
                replace hS : Sep w0 w_210 [N_45, Mem.one g_2 (.cells ([p0_0, p0_1] : List Value).toArray 25 (0, 0)), Mem.no, Mem.one g_6 (.cells ([.slice none 0 0, .slice none 0 0] : List Value).toArray 25 (0, 0)), Mem.no, Mem.no, Mem.no, M_206, Mem.one g_177 (.cells ([.slice none 0 0, .slice none 0 0] : List Value).toArray 25 (0, 0)), M_212] Z := hS'
                clear hS'
                refine wpList_nil ?_
                refine x_then_n ⟨(hS.sub (.cons (Mem.le.refl _) (.cons (Mem.le.refl _) (.cons (Mem.no_le _) (.cons (Mem.le.refl _) (.cons (Mem.no_le _) (.cons (Mem.no_le _) (.cons (Mem.no_le _) (Sub.nil _))))))))), ?_⟩
                refine h_take 8 [true, true, true, true, true, true, true, true, true, true, false].toArray rfl (by kernel_rfl) (by kernel_rfl) (by kernel_rfl) (fun _ _ _ _ h => h) rfl rfl rfl rfl hm (hS.sub (.cons (Mem.le.refl _) (.cons (Mem.le.refl _) (.cons (Mem.no_le _) (.cons (Mem.le.refl _) (.cons (Mem.no_le _) (.cons (Mem.no_le _) (.cons (Mem.no_le _) (Sub.nil _))))))))) (v := .agg [v_205, v_211].toArray) (fun w hS => r_build hm ti25 pl25 rfl (.cons ho_207.cells (.cons ho_213.cells .nil)) (cs := [v_205, v_211]) rfl) ?_
                clear hm a; intro a hm
                refine h_event 10 [true, true, true, true, true, true, true, true, true, true, true].toArray rfl (by kernel_rfl) rfl ?_
                obtain ⟨w_215, hs', hS'⟩ := hS.store (P := Try.prog) (p := 8) (o := 0) (t := 25) (v := .agg [v_205, v_211].toArray) (vs := [v_205, v_211]) rfl ti25 rfl rfl rfl (by intro u hu; simp only [List.mem_cons, List.not_mem_nil, or_false] at hu; rcases hu with rfl | rfl <;> first | rfl | exact ho_207.one | exact ho_213.one)
                refine s_store hm rfl rfl hs' ?_
                replace hS : Sep w0 w_215 [N_45, Mem.one g_2 (.cells ([p0_0, p0_1] : List Value).toArray 25 (0, 0)), Mem.no, Mem.one g_6 (.cells ([.slice none 0 0, .slice none 0 0] : List Value).toArray 25 (0, 0)), Mem.no, Mem.no, Mem.no, M_206, Mem.one g_177 (.cells ([v_205, v_211] : List Value).toArray 25 (0, 0)), M_212] Z := hS'
                clear hs' hS'
                refine wpList_nil ?_
                refine x_then_n ⟨(hS.sub (.cons (Mem.le.refl _) (.cons (Mem.le.refl _) (.cons (Mem.no_le _) (.cons (Mem.le.refl _) (.cons (Mem.no_le _) (.cons (Mem.no_le _) (.cons (Mem.no_le _) (Sub.nil _))))))))), ?_⟩
                refine h_done (by kernel_rfl) ?_
                replace hm : Fr 71 a [(6, .pointer (some ⟨g_6, 0, none⟩)), (7, .int .i64 t_7.1), (9, .int .i64 t_14.1), (12, v_47), (13, .pointer (some ⟨g_177, 0, none⟩))] := hm.keep [6, 7, 9, 12, 13]
                replace hS : Sep w0 w_215 [N_45, Mem.one g_2 (.cells ([p0_0, p0_1] : List Value).toArray 25 (0, 0)), Mem.no, Mem.one g_6 (.cells ([.slice none 0 0, .slice none 0 0] : List Value).toArray 25 (0, 0)), Mem.no, Mem.no, Mem.no, M_206, Mem.one g_177 (.cells ([v_205, v_211] : List Value).toArray 25 (0, 0)), M_212] Z := hS
                replace hm : Fr 71 a [(6, .pointer (some ⟨g_6, 0, none⟩)), (7, .int .i64 t_7.1), (9, .int .i64 t_14.1), (12, v_47), (13, .pointer (some ⟨g_177, 0, none⟩))] := hm.keep [6, 7, 9, 12, 13]
                exact x_then_n (hJ_j_64 (⟨t_86, t_98⟩ : api_Disk) H _ _ ⟨v_205, v_211, g_177, N_45, M_206, M_212, hm, (Sep.sel hS [0, 1000, 1001, 3, 1003, 1004, 1005, 8, 7, 9] (by decide)), (Mem.le.refl _), ho_207, ho_213⟩)
          · refine ⟨_, [false, true, true, false, true, true, true, false, false, false, false].toArray, rfl, rfl, ?_⟩
            have hq_220 : Reps Kd.u8 Mem.no ([] : List UInt8) _ := (Reps.nil Kd.u8 _)
            refine s_buildSlice hm rfl Try.underlying23 ti5 rfl rfl rfl .nil rfl rfl rfl hS hq_220 rfl ?_
            intro w_216 v_217 M_218 hS' ho_219
            clear hm a; intro a hm
            replace hS : Sep w0 w_216 [N_45, Mem.one g_2 (.cells ([p0_0, p0_1] : List Value).toArray 25 (0, 0)), Mem.no, Mem.one g_6 (.cells ([.slice none 0 0, .slice none 0 0] : List Value).toArray 25 (0, 0)), Mem.no, Mem.no, Mem.no, M_218] Z := hS'
            clear hS' hq_220
            refine wpList_nil ?_
            refine x_then_n ⟨(hS.sub (.cons (Mem.le.refl _) (.cons (Mem.le.refl _) (.cons (Mem.no_le _) (.cons (Mem.le.refl _) (.cons (Mem.no_le _) (.cons (Mem.no_le _) (.cons (Mem.no_le _) (Sub.nil _))))))))), ?_⟩
            refine h_events [0, 9] (by kernel_rfl) (by simp) ?_
            intro i hi; simp only [List.mem_cons, List.not_mem_nil, or_false] at hi; rcases hi with rfl | rfl
            · refine ⟨_, [true, true, true, false, true, true, true, false, false, false, false].toArray, rfl, rfl, ?_⟩
              have hq_226 : Reps Kd.u8 Mem.no ([] : List UInt8) _ := (Reps.nil Kd.u8 _)
              refine s_buildSlice hm rfl Try.underlying23 ti5 rfl rfl rfl .nil rfl rfl rfl hS hq_226 rfl ?_
              intro w_222 v_223 M_224 hS' ho_225
              clear hm a; intro a hm
              replace hS : Sep w0 w_222 [N_45, Mem.one g_2 (.cells ([p0_0, p0_1] : List Value).toArray 25 (0, 0)), Mem.no, Mem.one g_6 (.cells ([.slice none 0 0, .slice none 0 0] : List Value).toArray 25 (0, 0)), Mem.no, Mem.no, Mem.no, M_218, M_224] Z := hS'
              clear hS' hq_226
              refine wpList_nil ?_
              refine x_then_n ⟨(hS.sub (.cons (Mem.le.refl _) (.cons (Mem.le.refl _) (.cons (Mem.no_le _) (.cons (Mem.le.refl _) (.cons (Mem.no_le _) (.cons (Mem.no_le _) (.cons (Mem.no_le _) (Sub.nil _))))))))), ?_⟩
              refine h_events [3, 9] (by kernel_rfl) (by simp) ?_
              intro i hi; simp only [List.mem_cons, List.not_mem_nil, or_false] at hi; rcases hi with rfl | rfl
              · refine ⟨_, [true, true, true, true, true, true, true, false, false, false, false].toArray, rfl, rfl, ?_⟩
                refine s_append (J := Mem.no) (I' := Mem.no) (p := 8) 140737488355328 hm rfl rfl rfl Try.underlying23 ti5 rfl rfl rfl rfl hS rfl ho_225 (Src.flat flat_u8 (hp0_0.src (hA.trans hS.old))) (Mem.le.refl _) (Mem.le.refl _) et_86 ?_
                intro w_229 v_230 M_231 hS' ho_232
                clear hm a; intro a hm
                replace hS : Sep w0 w_229 [N_45, Mem.one g_2 (.cells ([p0_0, p0_1] : List Value).toArray 25 (0, 0)), Mem.no, Mem.one g_6 (.cells ([.slice none 0 0, .slice none 0 0] : List Value).toArray 25 (0, 0)), Mem.no, Mem.no, Mem.no, M_218, M_231] Z := hS'
                clear hS'
                refine wpList_nil ?_
                refine x_then_n ⟨(hS.sub (.cons (Mem.le.refl _) (.cons (Mem.le.refl _) (.cons (Mem.no_le _) (.cons (Mem.le.refl _) (.cons (Mem.no_le _) (.cons (Mem.no_le _) (.cons (Mem.no_le _) (Sub.nil _))))))))), ?_⟩
                refine h_events [7, 9] (by kernel_rfl) (by simp) ?_
                intro i hi; simp only [List.mem_cons, List.not_mem_nil, or_false] at hi; rcases hi with rfl | rfl
                · refine ⟨_, [true, true, true, true, true, true, true, true, false, false, false].toArray, rfl, rfl, ?_⟩
                  refine s_append (J := Mem.no) (I' := Mem.no) (p := 7) 140737488355328 hm rfl rfl rfl Try.underlying23 ti5 rfl rfl rfl rfl hS rfl ho_219 (Src.flat flat_u8 (hp0_1.src (hA.trans hS.old))) (Mem.le.refl _) (Mem.le.refl _) et_98 ?_
                  intro w_235 v_236 M_237 hS' ho_238
                  clear hm a; intro a hm
                  replace hS : Sep w0 w_235 [N_45, Mem.one g_2 (.cells ([p0_0, p0_1] : List Value).toArray 25 (0, 0)), Mem.no, Mem.one g_6 (.cells ([.slice none 0 0, .slice none 0 0] : List Value).toArray 25 (0, 0)), Mem.no, Mem.no, Mem.no, M_237, M_231] Z := hS'
                  clear hS'
                  refine wpList_nil ?_
                  refine x_then_n ⟨(hS.sub (.cons (Mem.le.refl _) (.cons (Mem.le.refl _) (.cons (Mem.no_le _) (.cons (Mem.le.refl _) (.cons (Mem.no_le _) (.cons (Mem.no_le _) (.cons (Mem.no_le _) (Sub.nil _))))))))), ?_⟩
                  refine h_take 8 [true, true, true, true, true, true, true, true, true, false, false].toArray rfl (by kernel_rfl) (by kernel_rfl) (by kernel_rfl) (fun _ _ _ _ h => h) rfl rfl rfl rfl hm (hS.sub (.cons (Mem.le.refl _) (.cons (Mem.le.refl _) (.cons (Mem.no_le _) (.cons (Mem.le.refl _) (.cons (Mem.no_le _) (.cons (Mem.no_le _) (.cons (Mem.no_le _) (Sub.nil _))))))))) (v := .agg [v_230, v_236].toArray) (fun w hS => r_build hm ti25 pl25 rfl (.cons ho_232.cells (.cons ho_238.cells .nil)) (cs := [v_230, v_236]) rfl) ?_
                  clear hm a; intro a hm
                  refine h_event 9 [true, true, true, true, true, true, true, true, true, true, false].toArray rfl (by kernel_rfl) rfl ?_
                  refine v_alloc hm rfl ti25 hS ?_
                  intro w_240 g_241 hS'
                  clear hm a; intro a hm
                  replace hS : Sep w0 w_240 [N_45, Mem.one g_2 (.cells ([p0_0, p0_1] : List Value).toArray 25 (0, 0)), Mem.no, Mem.one g_6 (.cells ([.slice none 0 0, .slice none 0 0] : List Value).toArray 25 (0, 0)), Mem.no, Mem.no, Mem.no, M_237, M_231, Mem.one g_241 (.cells ([.slice none 0 0, .slice none 0 0] : List Value).toArray 25 (0, 0))] Z := hS'
                  clear hS'
                  refine wpList_nil ?_
                  refine x_then_n ⟨(hS.sub (.cons (Mem.le.refl _) (.cons (Mem.le.refl _) (.cons (Mem.no_le _) (.cons (Mem.le.refl _) (.cons (Mem.no_le _) (.cons (Mem.no_le _) (.cons (Mem.no_le _) (Sub.nil _))))))))), ?_⟩
                  refine h_event 10 [true, true, true, true, true, true, true, true, true, true, true].toArray rfl (by kernel_rfl) rfl ?_
                  obtain ⟨w_242, hs', hS'⟩ := hS.store (P := Try.prog) (p := 9) (o := 0) (t := 25) (v := .agg [v_230, v_236].toArray) (vs := [v_230, v_236]) rfl ti25 rfl rfl rfl (by intro u hu; simp only [List.mem_cons, List.not_mem_nil, or_false] at hu; rcases hu with rfl | rfl <;> first | rfl | exact ho_232.one | exact ho_238.one)
                  refine s_store hm rfl rfl hs' ?_
                  replace hS : Sep w0 w_242 [N_45, Mem.one g_2 (.cells ([p0_0, p0_1] : List Value).toArray 25 (0, 0)), Mem.no, Mem.one g_6 (.cells ([.slice none 0 0, .slice none 0 0] : List Value).toArray 25 (0, 0)), Mem.no, Mem.no, Mem.no, M_237, M_231, Mem.one g_241 (.cells ([v_230, v_236] : List Value).toArray 25 (0, 0))] Z := hS'
                  clear hs' hS'
                  refine wpList_nil ?_
                  refine x_then_n ⟨(hS.sub (.cons (Mem.le.refl _) (.cons (Mem.le.refl _) (.cons (Mem.no_le _) (.cons (Mem.le.refl _) (.cons (Mem.no_le _) (.cons (Mem.no_le _) (.cons (Mem.no_le _) (Sub.nil _))))))))), ?_⟩
                  refine h_done (by kernel_rfl) ?_
                  replace hm : Fr 71 a [(6, .pointer (some ⟨g_6, 0, none⟩)), (7, .int .i64 t_7.1), (9, .int .i64 t_14.1), (12, v_47), (13, .pointer (some ⟨g_241, 0, none⟩))] := hm.keep [6, 7, 9, 12, 13]
                  replace hS : Sep w0 w_242 [N_45, Mem.one g_2 (.cells ([p0_0, p0_1] : List Value).toArray 25 (0, 0)), Mem.no, Mem.one g_6 (.cells ([.slice none 0 0, .slice none 0 0] : List Value).toArray 25 (0, 0)), Mem.no, Mem.no, Mem.no, M_237, M_231, Mem.one g_241 (.cells ([v_230, v_236] : List Value).toArray 25 (0, 0))] Z := hS
                  replace hm : Fr 71 a [(6, .pointer (some ⟨g_6, 0, none⟩)), (7, .int .i64 t_7.1), (9, .int .i64 t_14.1), (12, v_47), (13, .pointer (some ⟨g_241, 0, none⟩))] := hm.keep [6, 7, 9, 12, 13]
                  exact x_then_n (hJ_j_64 (⟨t_86, t_98⟩ : api_Disk) H _ _ ⟨v_230, v_236, g_241, N_45, M_231, M_237, hm, (Sep.sel hS [0, 1000, 1001, 3, 1003, 1004, 1005, 9, 8, 7] (by decide)), (Mem.le.refl _), ho_232, ho_238⟩)
                · refine ⟨_, [true, true, true, true, true, true, true, false, false, true, false].toArray, rfl, rfl, ?_⟩
                  refine v_alloc hm rfl ti25 hS ?_
                  intro w_243 g_244 hS'
                  clear hm a; intro a hm
                  replace hS : Sep w0 w_243 [N_45, Mem.one g_2 (.cells ([p0_0, p0_1] : List Value).toArray 25 (0, 0)), Mem.no, Mem.one g_6 (.cells ([.slice none 0 0, .slice none 0 0] : List Value).toArray 25 (0, 0)), Mem.no, Mem.no, Mem.no, M_218, M_231, Mem.one g_244 (.cells ([.slice none 0 0, .slice none 0 0] : List Value).toArray 25 (0, 0))] Z := hS'
                  clear hS'
                  refine wpList_nil ?_
                  refine x_then_n ⟨(hS.sub (.cons (Mem.le.refl _) (.cons (Mem.le.refl _) (.cons (Mem.no_le _) (.cons (Mem.le.refl _) (.cons (Mem.no_le _) (.cons (Mem.no_le _) (.cons (Mem.no_le _) (Sub.nil _))))))))), ?_⟩
                  refine h_event 7 [true, true, true, true, true, true, true, true, false, true, false].toArray rfl (by kernel_rfl) rfl ?_
                  refine s_append (J := Mem.no) (I' := Mem.no) (p := 7) 140737488355328 hm rfl rfl rfl Try.underlying23 ti5 rfl rfl rfl rfl hS rfl ho_219 (Src.flat flat_u8 (hp0_1.src (hA.trans hS.old))) (Mem.le.refl _) (Mem.le.refl _) et_98 ?_
                  intro w_246 v_247 M_248 hS' ho_249
                  clear hm a; intro a hm
                  replace hS : Sep w0 w_246 [N_45, Mem.one g_2 (.cells ([p0_0, p0_1] : List Value).toArray 25 (0, 0)), Mem.no, Mem.one g_6 (.cells ([.slice none 0 0, .slice none 0 0] : List Value).toArray 25 (0, 0)), Mem.no, Mem.no, Mem.no, M_248, M_231, Mem.one g_244 (.cells ([.slice none 0 0, .slice none 0 0] : List Value).toArray 25 (0, 0))] Z := hS'
                  clear hS'
                  refine wpList_nil ?_
                  refine x_then_n ⟨(hS.sub (.cons (Mem.le.refl _) (.cons (Mem.le.refl _) (.cons (Mem.no_le _) (.cons (Mem.le.refl _) (.cons (Mem.no_le _) (.cons (Mem.no_le _) (.cons (Mem.no_le _) (Sub.nil _))))))))), ?_⟩
                  refine h_take 8 [true, true, true, true, true, true, true, true, true, true, false].toArray rfl (by kernel_rfl) (by kernel_rfl) (by kernel_rfl) (fun _ _ _ _ h => h) rfl rfl rfl rfl hm (hS.sub (.cons (Mem.le.refl _) (.cons (Mem.le.refl _) (.cons (Mem.no_le _) (.cons (Mem.le.refl _) (.cons (Mem.no_le _) (.cons (Mem.no_le _) (.cons (Mem.no_le _) (Sub.nil _))))))))) (v := .agg [v_230, v_247].toArray) (fun w hS => r_build hm ti25 pl25 rfl (.cons ho_232.cells (.cons ho_249.cells .nil)) (cs := [v_230, v_247]) rfl) ?_
                  clear hm a; intro a hm
                  refine h_event 10 [true, true, true, true, true, true, true, true, true, true, true].toArray rfl (by kernel_rfl) rfl ?_
                  obtain ⟨w_251, hs', hS'⟩ := hS.store (P := Try.prog) (p := 9) (o := 0) (t := 25) (v := .agg [v_230, v_247].toArray) (vs := [v_230, v_247]) rfl ti25 rfl rfl rfl (by intro u hu; simp only [List.mem_cons, List.not_mem_nil, or_false] at hu; rcases hu with rfl | rfl <;> first | rfl | exact ho_232.one | exact ho_249.one)
                  refine s_store hm rfl rfl hs' ?_
                  replace hS : Sep w0 w_251 [N_45, Mem.one g_2 (.cells ([p0_0, p0_1] : List Value).toArray 25 (0, 0)), Mem.no, Mem.one g_6 (.cells ([.slice none 0 0, .slice none 0 0] : List Value).toArray 25 (0, 0)), Mem.no, Mem.no, Mem.no, M_248, M_231, Mem.one g_244 (.cells ([v_230, v_247] : List Value).toArray 25 (0, 0))] Z := hS'
                  clear hs' hS'
                  refine wpList_nil ?_
                  refine x_then_n ⟨(hS.sub (.cons (Mem.le.refl _) (.cons (Mem.le.refl _) (.cons (Mem.no_le _) (.cons (Mem.le.refl _) (.cons (Mem.no_le _) (.cons (Mem.no_le _) (.cons (Mem.no_le _) (Sub.nil _))))))))), ?_⟩
                  refine h_done (by kernel_rfl) ?_
                  replace hm : Fr 71 a [(6, .pointer (some ⟨g_6, 0, none⟩)), (7, .int .i64 t_7.1), (9, .int .i64 t_14.1), (12, v_47), (13, .pointer (some ⟨g_244, 0, none⟩))] := hm.keep [6, 7, 9, 12, 13]
                  replace hS : Sep w0 w_251 [N_45, Mem.one g_2 (.cells ([p0_0, p0_1] : List Value).toArray 25 (0, 0)), Mem.no, Mem.one g_6 (.cells ([.slice none 0 0, .slice none 0 0] : List Value).toArray 25 (0, 0)), Mem.no, Mem.no, Mem.no, M_248, M_231, Mem.one g_244 (.cells ([v_230, v_247] : List Value).toArray 25 (0, 0))] Z := hS
                  replace hm : Fr 71 a [(6, .pointer (some ⟨g_6, 0, none⟩)), (7, .int .i64 t_7.1), (9, .int .i64 t_14.1), (12, v_47), (13, .pointer (some ⟨g_244, 0, none⟩))] := hm.keep [6, 7, 9, 12, 13]
                  exact x_then_n (hJ_j_64 (⟨t_86, t_98⟩ : api_Disk) H _ _ ⟨v_230, v_247, g_244, N_45, M_231, M_248, hm, (Sep.sel hS [0, 1000, 1001, 3, 1003, 1004, 1005, 9, 8, 7] (by decide)), (Mem.le.refl _), ho_232, ho_249⟩)
              · refine ⟨_, [true, true, true, false, true, true, true, false, false, true, false].toArray, rfl, rfl, ?_⟩
                refine v_alloc hm rfl ti25 hS ?_
                intro w_252 g_253 hS'
                clear hm a; intro a hm
                replace hS : Sep w0 w_252 [N_45, Mem.one g_2 (.cells ([p0_0, p0_1] : List Value).toArray 25 (0, 0)), Mem.no, Mem.one g_6 (.cells ([.slice none 0 0, .slice none 0 0] : List Value).toArray 25 (0, 0)), Mem.no, Mem.no, Mem.no, M_218, M_224, Mem.one g_253 (.cells ([.slice none 0 0, .slice none 0 0] : List Value).toArray 25 (0, 0))] Z := hS'
                clear hS'
                refine wpList_nil ?_
                refine x_then_n ⟨(hS.sub (.cons (Mem.le.refl _) (.cons (Mem.le.refl _) (.cons (Mem.no_le _) (.cons (Mem.le.refl _) (.cons (Mem.no_le _) (.cons (Mem.no_le _) (.cons (Mem.no_le _) (Sub.nil _))))))))), ?_⟩
                refine h_event 3 [true, true, true, true, true, true, true, false, false, true, false].toArray rfl (by kernel_rfl) rfl ?_
                refine s_append (J := Mem.no) (I' := Mem.no) (p := 8) 140737488355328 hm rfl rfl rfl Try.underlying23 ti5 rfl rfl rfl rfl hS rfl ho_225 (Src.flat flat_u8 (hp0_0.src (hA.trans hS.old))) (Mem.le.refl _) (Mem.le.refl _) et_86 ?_
                intro w_255 v_256 M_257 hS' ho_258
                clear hm a; intro a hm
                replace hS : Sep w0 w_255 [N_45, Mem.one g_2 (.cells ([p0_0, p0_1] : List Value).toArray 25 (0, 0)), Mem.no, Mem.one g_6 (.cells ([.slice none 0 0, .slice none 0 0] : List Value).toArray 25 (0, 0)), Mem.no, Mem.no, Mem.no, M_218, M_257, Mem.one g_253 (.cells ([.slice none 0 0, .slice none 0 0] : List Value).toArray 25 (0, 0))] Z := hS'
                clear hS'
                refine wpList_nil ?_
                refine x_then_n ⟨(hS.sub (.cons (Mem.le.refl _) (.cons (Mem.le.refl _) (.cons (Mem.no_le _) (.cons (Mem.le.refl _) (.cons (Mem.no_le _) (.cons (Mem.no_le _) (.cons (Mem.no_le _) (Sub.nil _))))))))), ?_⟩
                refine h_event 7 [true, true, true, true, true, true, true, true, false, true, false].toArray rfl (by kernel_rfl) rfl ?_
                refine s_append (J := Mem.no) (I' := Mem.no) (p := 7) 140737488355328 hm rfl rfl rfl Try.underlying23 ti5 rfl rfl rfl rfl hS rfl ho_219 (Src.flat flat_u8 (hp0_1.src (hA.trans hS.old))) (Mem.le.refl _) (Mem.le.refl _) et_98 ?_
                intro w_261 v_262 M_263 hS' ho_264
                clear hm a; intro a hm
                replace hS : Sep w0 w_261 [N_45, Mem.one g_2 (.cells ([p0_0, p0_1] : List Value).toArray 25 (0, 0)), Mem.no, Mem.one g_6 (.cells ([.slice none 0 0, .slice none 0 0] : List Value).toArray 25 (0, 0)), Mem.no, Mem.no, Mem.no, M_263, M_257, Mem.one g_253 (.cells ([.slice none 0 0, .slice none 0 0] : List Value).toArray 25 (0, 0))] Z := hS'
                clear hS'
                refine wpList_nil ?_
                refine x_then_n ⟨(hS.sub (.cons (Mem.le.refl _) (.cons (Mem.le.refl _) (.cons (Mem.no_le _) (.cons (Mem.le.refl _) (.cons (Mem.no_le _) (.cons (Mem.no_le _) (.cons (Mem.no_le _) (Sub.nil _))))))))), ?_⟩
                refine h_take 8 [true, true, true, true, true, true, true, true, true, true, false].toArray rfl (by kernel_rfl) (by kernel_rfl) (by kernel_rfl) (fun _ _ _ _ h => h) rfl rfl rfl rfl hm (hS.sub (.cons (Mem.le.refl _) (.cons (Mem.le.refl _) (.cons (Mem.no_le _) (.cons (Mem.le.refl _) (.cons (Mem.no_le _) (.cons (Mem.no_le _) (.cons (Mem.no_le _) (Sub.nil _))))))))) (v := .agg [v_256, v_262].toArray) (fun w hS => r_build hm ti25 pl25 rfl (.cons ho_258.cells (.cons ho_264.cells .nil)) (cs := [v_256, v_262]) rfl) ?_
                clear hm a; intro a hm
                refine h_event 10 [true, true, true, true, true, true, true, true, true, true, true].toArray rfl (by kernel_rfl) rfl ?_
                obtain ⟨w_266, hs', hS'⟩ := hS.store (P := Try.prog) (p := 9) (o := 0) (t := 25) (v := .agg [v_256, v_262].toArray) (vs := [v_256, v_262]) rfl ti25 rfl rfl rfl (by intro u hu; simp only [List.mem_cons, List.not_mem_nil, or_false] at hu; rcases hu with rfl | rfl <;> first | rfl | exact ho_258.one | exact ho_264.one)
                refine s_store hm rfl rfl hs' ?_
                replace hS : Sep w0 w_266 [N_45, Mem.one g_2 (.cells ([p0_0, p0_1] : List Value).toArray 25 (0, 0)), Mem.no, Mem.one g_6 (.cells ([.slice none 0 0, .slice none 0 0] : List Value).toArray 25 (0, 0)), Mem.no, Mem.no, Mem.no, M_263, M_257, Mem.one g_253 (.cells ([v_256, v_262] : List Value).toArray 25 (0, 0))] Z := hS'
                clear hs' hS'
                refine wpList_nil ?_
                refine x_then_n ⟨(hS.sub (.cons (Mem.le.refl _) (.cons (Mem.le.refl _) (.cons (Mem.no_le _) (.cons (Mem.le.refl _) (.cons (Mem.no_le _) (.cons (Mem.no_le _) (.cons (Mem.no_le _) (Sub.nil _))))))))), ?_⟩
                refine h_done (by kernel_rfl) ?_
                replace hm : Fr 71 a [(6, .pointer (some ⟨g_6, 0, none⟩)), (7, .int .i64 t_7.1), (9, .int .i64 t_14.1), (12, v_47), (13, .pointer (some ⟨g_253, 0, none⟩))] := hm.keep [6, 7, 9, 12, 13]
                replace hS : Sep w0 w_266 [N_45, Mem.one g_2 (.cells ([p0_0, p0_1] : List Value).toArray 25 (0, 0)), Mem.no, Mem.one g_6 (.cells ([.slice none 0 0, .slice none 0 0] : List Value).toArray 25 (0, 0)), Mem.no, Mem.no, Mem.no, M_263, M_257, Mem.one g_253 (.cells ([v_256, v_262] : List Value).toArray 25 (0, 0))] Z := hS
                replace hm : Fr 71 a [(6, .pointer (some ⟨g_6, 0, none⟩)), (7, .int .i64 t_7.1), (9, .int .i64 t_14.1), (12, v_47), (13, .pointer (some ⟨g_253, 0, none⟩))] := hm.keep [6, 7, 9, 12, 13]
                exact x_then_n (hJ_j_64 (⟨t_86, t_98⟩ : api_Disk) H _ _ ⟨v_256, v_262, g_253, N_45, M_257, M_263, hm, (Sep.sel hS [0, 1000, 1001, 3, 1003, 1004, 1005, 9, 8, 7] (by decide)), (Mem.le.refl _), ho_258, ho_264⟩)
            · refine ⟨_, [false, true, true, false, true, true, true, false, false, true, false].toArray, rfl, rfl, ?_⟩
              refine v_alloc hm rfl ti25 hS ?_
              intro w_267 g_268 hS'
              clear hm a; intro a hm
              replace hS : Sep w0 w_267 [N_45, Mem.one g_2 (.cells ([p0_0, p0_1] : List Value).toArray 25 (0, 0)), Mem.no, Mem.one g_6 (.cells ([.slice none 0 0, .slice none 0 0] : List Value).toArray 25 (0, 0)), Mem.no, Mem.no, Mem.no, M_218, Mem.one g_268 (.cells ([.slice none 0 0, .slice none 0 0] : List Value).toArray 25 (0, 0))] Z := hS'
              clear hS'
              refine wpList_nil ?_
              refine x_then_n ⟨(hS.sub (.cons (Mem.le.refl _) (.cons (Mem.le.refl _) (.cons (Mem.no_le _) (.cons (Mem.le.refl _) (.cons (Mem.no_le _) (.cons (Mem.no_le _) (.cons (Mem.no_le _) (Sub.nil _))))))))), ?_⟩
              refine h_event 0 [true, true, true, false, true, true, true, false, false, true, false].toArray rfl (by kernel_rfl) rfl ?_
              have hq_273 : Reps Kd.u8 Mem.no ([] : List UInt8) _ := (Reps.nil Kd.u8 _)
              refine s_buildSlice hm rfl Try.underlying23 ti5 rfl rfl rfl .nil rfl rfl rfl hS hq_273 rfl ?_
              intro w_269 v_270 M_271 hS' ho_272
              clear hm a; intro a hm
              replace hS : Sep w0 w_269 [N_45, Mem.one g_2 (.cells ([p0_0, p0_1] : List Value).toArray 25 (0, 0)), Mem.no, Mem.one g_6 (.cells ([.slice none 0 0, .slice none 0 0] : List Value).toArray 25 (0, 0)), Mem.no, Mem.no, Mem.no, M_218, Mem.one g_268 (.cells ([.slice none 0 0, .slice none 0 0] : List Value).toArray 25 (0, 0)), M_271] Z := hS'
              clear hS' hq_273
              refine wpList_nil ?_
              refine x_then_n ⟨(hS.sub (.cons (Mem.le.refl _) (.cons (Mem.le.refl _) (.cons (Mem.no_le _) (.cons (Mem.le.refl _) (.cons (Mem.no_le _) (.cons (Mem.no_le _) (.cons (Mem.no_le _) (Sub.nil _))))))))), ?_⟩
              refine h_event 3 [true, true, true, true, true, true, true, false, false, true, false].toArray rfl (by kernel_rfl) rfl ?_
              refine s_append (J := Mem.no) (I' := Mem.no) (p := 9) 140737488355328 hm rfl rfl rfl Try.underlying23 ti5 rfl rfl rfl rfl hS rfl ho_272 (Src.flat flat_u8 (hp0_0.src (hA.trans hS.old))) (Mem.le.refl _) (Mem.le.refl _) et_86 ?_
              intro w_276 v_277 M_278 hS' ho_279
              clear hm a; intro a hm
              replace hS : Sep w0 w_276 [N_45, Mem.one g_2 (.cells ([p0_0, p0_1] : List Value).toArray 25 (0, 0)), Mem.no, Mem.one g_6 (.cells ([.slice none 0 0, .slice none 0 0] : List Value).toArray 25 (0, 0)), Mem.no, Mem.no, Mem.no, M_218, Mem.one g_268 (.cells ([.slice none 0 0, .slice none 0 0] : List Value).toArray 25 (0, 0)), M_278] Z := hS'
              clear hS'
              refine wpList_nil ?_
              refine x_then_n ⟨(hS.sub (.cons (Mem.le.refl _) (.cons (Mem.le.refl _) (.cons (Mem.no_le _) (.cons (Mem.le.refl _) (.cons (Mem.no_le _) (.cons (Mem.no_le _) (.cons (Mem.no_le _) (Sub.nil _))))))))), ?_⟩
              refine h_event 7 [true, true, true, true, true, true, true, true, false, true, false].toArray rfl (by kernel_rfl) rfl ?_
              refine s_append (J := Mem.no) (I' := Mem.no) (p := 7) 140737488355328 hm rfl rfl rfl Try.underlying23 ti5 rfl rfl rfl rfl hS rfl ho_219 (Src.flat flat_u8 (hp0_1.src (hA.trans hS.old))) (Mem.le.refl _) (Mem.le.refl _) et_98 ?_
              intro w_282 v_283 M_284 hS' ho_285
              clear hm a; intro a hm
              replace hS : Sep w0 w_282 [N_45, Mem.one g_2 (.cells ([p0_0, p0_1] : List Value).toArray 25 (0, 0)), Mem.no, Mem.one g_6 (.cells ([.slice none 0 0, .slice none 0 0] : List Value).toArray 25 (0, 0)), Mem.no, Mem.no, Mem.no, M_284, Mem.one g_268 (.cells ([.slice none 0 0, .slice none 0 0] : List Value).toArray 25 (0, 0)), M_278] Z := hS'
              clear hS'
              refine wpList_nil ?_
              refine x_then_n ⟨(hS.sub (.cons (Mem.le.refl _) (.cons (Mem.le.refl _) (.cons (Mem.no_le _) (.cons (Mem.le.refl _) (.cons (Mem.no_le _) (.cons (Mem.no_le _) (.cons (Mem.no_le _) (Sub.nil _))))))))), ?_⟩
              refine h_take 8 [true, true, true, true, true, true, true, true, true, true, false].toArray rfl (by kernel_rfl) (by kernel_rfl) (by kernel_rfl) (fun _ _ _ _ h => h) rfl rfl rfl rfl hm (hS.sub (.cons (Mem.le.refl _) (.cons (Mem.le.refl _) (.cons (Mem.no_le _) (.cons (Mem.le.refl _) (.cons (Mem.no_le _) (.cons (Mem.no_le _) (.cons (Mem.no_le _) (Sub.nil _))))))))) (v := .agg [v_277, v_283].toArray) (fun w hS => r_build hm ti25 pl25 rfl (.cons ho_279.cells (.cons ho_285.cells .nil)) (cs := [v_277, v_283]) rfl) ?_
              clear hm a; intro a hm
              refine h_event 10 [true, true, true, true, true, true, true, true, true, true, true].toArray rfl (by kernel_rfl) rfl ?_
              obtain ⟨w_287, hs', hS'⟩ := hS.store (P := Try.prog) (p := 8) (o := 0) (t := 25) (v := .agg [v_277, v_283].toArray) (vs := [v_277, v_283]) rfl ti25 rfl rfl rfl (by intro u hu; simp only [List.mem_cons, List.not_mem_nil, or_false] at hu; rcases hu with rfl | rfl <;> first | rfl | exact ho_279.one | exact ho_285.one)
              refine s_store hm rfl rfl hs' ?_
              replace hS : Sep w0 w_287 [N_45, Mem.one g_2 (.cells ([p0_0, p0_1] : List Value).toArray 25 (0, 0)), Mem.no, Mem.one g_6 (.cells ([.slice none 0 0, .slice none 0 0] : List Value).toArray 25 (0, 0)), Mem.no, Mem.no, Mem.no, M_284, Mem.one g_268 (.cells ([v_277, v_283] : List Value).toArray 25 (0, 0)), M_278] Z := hS'
              clear hs' hS'
              refine wpList_nil ?_
              refine x_then_n ⟨(hS.sub (.cons (Mem.le.refl _) (.cons (Mem.le.refl _) (.cons (Mem.no_le _) (.cons (Mem.le.refl _) (.cons (Mem.no_le _) (.cons (Mem.no_le _) (.cons (Mem.no_le _) (Sub.nil _))))))))), ?_⟩
              refine h_done (by kernel_rfl) ?_
              replace hm : Fr 71 a [(6, .pointer (some ⟨g_6, 0, none⟩)), (7, .int .i64 t_7.1), (9, .int .i64 t_14.1), (12, v_47), (13, .pointer (some ⟨g_268, 0, none⟩))] := hm.keep [6, 7, 9, 12, 13]
              replace hS : Sep w0 w_287 [N_45, Mem.one g_2 (.cells ([p0_0, p0_1] : List Value).toArray 25 (0, 0)), Mem.no, Mem.one g_6 (.cells ([.slice none 0 0, .slice none 0 0] : List Value).toArray 25 (0, 0)), Mem.no, Mem.no, Mem.no, M_284, Mem.one g_268 (.cells ([v_277, v_283] : List Value).toArray 25 (0, 0)), M_278] Z := hS
              replace hm : Fr 71 a [(6, .pointer (some ⟨g_6, 0, none⟩)), (7, .int .i64 t_7.1), (9, .int .i64 t_14.1), (12, v_47), (13, .pointer (some ⟨g_268, 0, none⟩))] := hm.keep [6, 7, 9, 12, 13]
              exact x_then_n (hJ_j_64 (⟨t_86, t_98⟩ : api_Disk) H _ _ ⟨v_277, v_283, g_268, N_45, M_278, M_284, hm, (Sep.sel hS [0, 1000, 1001, 3, 1003, 1004, 1005, 8, 9, 7] (by decide)), (Mem.le.refl _), ho_279, ho_285⟩)
          · refine ⟨_, [false, true, true, false, false, true, true, false, false, true, false].toArray, rfl, rfl, ?_⟩
            refine v_alloc hm rfl ti25 hS ?_
            intro w_288 g_289 hS'
            clear hm a; intro a hm
            replace hS : Sep w0 w_288 [N_45, Mem.one g_2 (.cells ([p0_0, p0_1] : List Value).toArray 25 (0, 0)), Mem.no, Mem.one g_6 (.cells ([.slice none 0 0, .slice none 0 0] : List Value).toArray 25 (0, 0)), Mem.no, Mem.no, Mem.no, Mem.one g_289 (.cells ([.slice none 0 0, .slice none 0 0] : List Value).toArray 25 (0, 0))] Z := hS'
            clear hS'
            refine wpList_nil ?_
            refine x_then_n ⟨(hS.sub (.cons (Mem.le.refl _) (.cons (Mem.le.refl _) (.cons (Mem.no_le _) (.cons (Mem.le.refl _) (.cons (Mem.no_le _) (.cons (Mem.no_le _) (.cons (Mem.no_le _) (Sub.nil _))))))))), ?_⟩
            refine h_events [0, 4] (by kernel_rfl) (by simp) ?_
            intro i hi; simp only [List.mem_cons, List.not_mem_nil, or_false] at hi; rcases hi with rfl | rfl
            · refine ⟨_, [true, true, true, false, false, true, true, false, false, true, false].toArray, rfl, rfl, ?_⟩
              have hq_294 : Reps Kd.u8 Mem.no ([] : List UInt8) _ := (Reps.nil Kd.u8 _)
              refine s_buildSlice hm rfl Try.underlying23 ti5 rfl rfl rfl .nil rfl rfl rfl hS hq_294 rfl ?_
              intro w_290 v_291 M_292 hS' ho_293
              clear hm a; intro a hm
              replace hS : Sep w0 w_290 [N_45, Mem.one g_2 (.cells ([p0_0, p0_1] : List Value).toArray 25 (0, 0)), Mem.no, Mem.one g_6 (.cells ([.slice none 0 0, .slice none 0 0] : List Value).toArray 25 (0, 0)), Mem.no, Mem.no, Mem.no, Mem.one g_289 (.cells ([.slice none 0 0, .slice none 0 0] : List Value).toArray 25 (0, 0)), M_292] Z := hS'
              clear hS' hq_294
              refine wpList_nil ?_
              refine x_then_n ⟨(hS.sub (.cons (Mem.le.refl _) (.cons (Mem.le.refl _) (.cons (Mem.no_le _) (.cons (Mem.le.refl _) (.cons (Mem.no_le _) (.cons (Mem.no_le _) (.cons (Mem.no_le _) (Sub.nil _))))))))), ?_⟩
              refine h_events [3, 4] (by kernel_rfl) (by simp) ?_
              intro i hi; simp only [List.mem_cons, List.not_mem_nil, or_false] at hi; rcases hi with rfl | rfl
              · refine ⟨_, [true, true, true, true, false, true, true, false, false, true, false].toArray, rfl, rfl, ?_⟩
                refine s_append (J := Mem.no) (I' := Mem.no) (p := 8) 140737488355328 hm rfl rfl rfl Try.underlying23 ti5 rfl rfl rfl rfl hS rfl ho_293 (Src.flat flat_u8 (hp0_0.src (hA.trans hS.old))) (Mem.le.refl _) (Mem.le.refl _) et_86 ?_
                intro w_297 v_298 M_299 hS' ho_300
                clear hm a; intro a hm
                replace hS : Sep w0 w_297 [N_45, Mem.one g_2 (.cells ([p0_0, p0_1] : List Value).toArray 25 (0, 0)), Mem.no, Mem.one g_6 (.cells ([.slice none 0 0, .slice none 0 0] : List Value).toArray 25 (0, 0)), Mem.no, Mem.no, Mem.no, Mem.one g_289 (.cells ([.slice none 0 0, .slice none 0 0] : List Value).toArray 25 (0, 0)), M_299] Z := hS'
                clear hS'
                refine wpList_nil ?_
                refine x_then_n ⟨(hS.sub (.cons (Mem.le.refl _) (.cons (Mem.le.refl _) (.cons (Mem.no_le _) (.cons (Mem.le.refl _) (.cons (Mem.no_le _) (.cons (Mem.no_le _) (.cons (Mem.no_le _) (Sub.nil _))))))))), ?_⟩
                refine h_event 4 [true, true, true, true, true, true, true, false, false, true, false].toArray rfl (by kernel_rfl) rfl ?_
                have hq_306 : Reps Kd.u8 Mem.no ([] : List UInt8) _ := (Reps.nil Kd.u8 _)
                refine s_buildSlice hm rfl Try.underlying23 ti5 rfl rfl rfl .nil rfl rfl rfl hS hq_306 rfl ?_
                intro w_302 v_303 M_304 hS' ho_305
                clear hm a; intro a hm
                replace hS : Sep w0 w_302 [N_45, Mem.one g_2 (.cells ([p0_0, p0_1] : List Value).toArray 25 (0, 0)), Mem.no, Mem.one g_6 (.cells ([.slice none 0 0, .slice none 0 0] : List Value).toArray 25 (0, 0)), Mem.no, Mem.no, Mem.no, Mem.one g_289 (.cells ([.slice none 0 0, .slice none 0 0] : List Value).toArray 25 (0, 0)), M_299, M_304] Z := hS'
                clear hS' hq_306
                refine wpList_nil ?_
                refine x_then_n ⟨(hS.sub (.cons (Mem.le.refl _) (.cons (Mem.le.refl _) (.cons (Mem.no_le _) (.cons (Mem.le.refl _) (.cons (Mem.no_le _) (.cons (Mem.no_le _) (.cons (Mem.no_le _) (Sub.nil _))))))))), ?_⟩
                refine h_event 7 [true, true, true, true, true, true, true, true, false, true, false].toArray rfl (by kernel_rfl) rfl ?_
                refine s_append (J := Mem.no) (I' := Mem.no) (p := 9) 140737488355328 hm rfl rfl rfl Try.underlying23 ti5 rfl rfl rfl rfl hS rfl ho_305 (Src.flat flat_u8 (hp0_1.src (hA.trans hS.old))) (Mem.le.refl _) (Mem.le.refl _) et_98 ?_
                intro w_309 v_310 M_311 hS' ho_312
                clear hm a; intro a hm
                replace hS : Sep w0 w_309 [N_45, Mem.one g_2 (.cells ([p0_0, p0_1] : List Value).toArray 25 (0, 0)), Mem.no, Mem.one g_6 (.cells ([.slice none 0 0, .slice none 0 0] : List Value).toArray 25 (0, 0)), Mem.no, Mem.no, Mem.no, Mem.one g_289 (.cells ([.slice none 0 0, .slice none 0 0] : List Value).toArray 25 (0, 0)), M_299, M_311] Z := hS'
                clear hS'
                refine wpList_nil ?_
                refine x_then_n ⟨(hS.sub (.cons (Mem.le.refl _) (.cons (Mem.le.refl _) (.cons (Mem.no_le _) (.cons (Mem.le.refl _) (.cons (Mem.no_le _) (.cons (Mem.no_le _) (.cons (Mem.no_le _) (Sub.nil _))))))))), ?_⟩
                refine h_take 8 [true, true, true, true, true, true, true, true, true, true, false].toArray rfl (by kernel_rfl) (by kernel_rfl) (by kernel_rfl) (fun _ _ _ _ h => h) rfl rfl rfl rfl hm (hS.sub (.cons (Mem.le.refl _) (.cons (Mem.le.refl _) (.cons (Mem.no_le _) (.cons (Mem.le.refl _) (.cons (Mem.no_le _) (.cons (Mem.no_le _) (.cons (Mem.no_le _) (Sub.nil _))))))))) (v := .agg [v_298, v_310].toArray) (fun w hS => r_build hm ti25 pl25 rfl (.cons ho_300.cells (.cons ho_312.cells .nil)) (cs := [v_298, v_310]) rfl) ?_
                clear hm a; intro a hm
                refine h_event 10 [true, true, true, true, true, true, true, true, true, true, true].toArray rfl (by kernel_rfl) rfl ?_
                obtain ⟨w_314, hs', hS'⟩ := hS.store (P := Try.prog) (p := 7) (o := 0) (t := 25) (v := .agg [v_298, v_310].toArray) (vs := [v_298, v_310]) rfl ti25 rfl rfl rfl (by intro u hu; simp only [List.mem_cons, List.not_mem_nil, or_false] at hu; rcases hu with rfl | rfl <;> first | rfl | exact ho_300.one | exact ho_312.one)
                refine s_store hm rfl rfl hs' ?_
                replace hS : Sep w0 w_314 [N_45, Mem.one g_2 (.cells ([p0_0, p0_1] : List Value).toArray 25 (0, 0)), Mem.no, Mem.one g_6 (.cells ([.slice none 0 0, .slice none 0 0] : List Value).toArray 25 (0, 0)), Mem.no, Mem.no, Mem.no, Mem.one g_289 (.cells ([v_298, v_310] : List Value).toArray 25 (0, 0)), M_299, M_311] Z := hS'
                clear hs' hS'
                refine wpList_nil ?_
                refine x_then_n ⟨(hS.sub (.cons (Mem.le.refl _) (.cons (Mem.le.refl _) (.cons (Mem.no_le _) (.cons (Mem.le.refl _) (.cons (Mem.no_le _) (.cons (Mem.no_le _) (.cons (Mem.no_le _) (Sub.nil _))))))))), ?_⟩
                refine h_done (by kernel_rfl) ?_
                replace hm : Fr 71 a [(6, .pointer (some ⟨g_6, 0, none⟩)), (7, .int .i64 t_7.1), (9, .int .i64 t_14.1), (12, v_47), (13, .pointer (some ⟨g_289, 0, none⟩))] := hm.keep [6, 7, 9, 12, 13]
                replace hS : Sep w0 w_314 [N_45, Mem.one g_2 (.cells ([p0_0, p0_1] : List Value).toArray 25 (0, 0)), Mem.no, Mem.one g_6 (.cells ([.slice none 0 0, .slice none 0 0] : List Value).toArray 25 (0, 0)), Mem.no, Mem.no, Mem.no, Mem.one g_289 (.cells ([v_298, v_310] : List Value).toArray 25 (0, 0)), M_299, M_311] Z := hS
                replace hm : Fr 71 a [(6, .pointer (some ⟨g_6, 0, none⟩)), (7, .int .i64 t_7.1), (9, .int .i64 t_14.1), (12, v_47), (13, .pointer (some ⟨g_289, 0, none⟩))] := hm.keep [6, 7, 9, 12, 13]
                exact x_then_n (hJ_j_64 (⟨t_86, t_98⟩ : api_Disk) H _ _ ⟨v_298, v_310, g_289, N_45, M_299, M_311, hm, (Sep.sel hS [0, 1000, 1001, 3, 1003, 1004, 1005, 7, 8, 9] (by decide)), (Mem.le.refl _), ho_300, ho_312⟩)
              · refine ⟨_, [true, true, true, false, true, true, true, false, false, true, false].toArray, rfl, rfl, ?_⟩
                have hq_319 : Reps Kd.u8 Mem.no ([] : List UInt8) _ := (Reps.nil Kd.u8 _)
                refine s_buildSlice hm rfl Try.underlying23 ti5 rfl rfl rfl .nil rfl rfl rfl hS hq_319 rfl ?_
                intro w_315 v_316 M_317 hS' ho_318
                clear hm a; intro a hm
                replace hS : Sep w0 w_315 [N_45, Mem.one g_2 (.cells ([p0_0, p0_1] : List Value).toArray 25 (0, 0)), Mem.no, Mem.one g_6 (.cells ([.slice none 0 0, .slice none 0 0] : List Value).toArray 25 (0, 0)), Mem.no, Mem.no, Mem.no, Mem.one g_289 (.cells ([.slice none 0 0, .slice none 0 0] : List Value).toArray 25 (0, 0)), M_292, M_317] Z := hS'
                clear hS' hq_319
                refine wpList_nil ?_
                refine x_then_n ⟨(hS.sub (.cons (Mem.le.refl _) (.cons (Mem.le.refl _) (.cons (Mem.no_le _) (.cons (Mem.le.refl _) (.cons (Mem.no_le _) (.cons (Mem.no_le _) (.cons (Mem.no_le _) (Sub.nil _))))))))), ?_⟩
                refine h_event 3 [true, true, true, true, true, true, true, false, false, true, false].toArray rfl (by kernel_rfl) rfl ?_
                refine s_append (J := Mem.no) (I' := Mem.no) (p := 8) 140737488355328 hm rfl rfl rfl Try.underlying23 ti5 rfl rfl rfl rfl hS rfl ho_293 (Src.flat flat_u8 (hp0_0.src (hA.trans hS.old))) (Mem.le.refl _) (Mem.le.refl _) et_86 ?_
                intro w_322 v_323 M_324 hS' ho_325
                clear hm a; intro a hm
                replace hS : Sep w0 w_322 [N_45, Mem.one g_2 (.cells ([p0_0, p0_1] : List Value).toArray 25 (0, 0)), Mem.no, Mem.one g_6 (.cells ([.slice none 0 0, .slice none 0 0] : List Value).toArray 25 (0, 0)), Mem.no, Mem.no, Mem.no, Mem.one g_289 (.cells ([.slice none 0 0, .slice none 0 0] : List Value).toArray 25 (0, 0)), M_324, M_317] Z := hS'
                clear hS'
                refine wpList_nil ?_
                refine x_then_n ⟨(hS.sub (.cons (Mem.le.refl _) (.cons (Mem.le.refl _) (.cons (Mem.no_le _) (.cons (Mem.le.refl _) (.cons (Mem.no_le _) (.cons (Mem.no_le _) (.cons (Mem.no_le _) (Sub.nil _))))))))), ?_⟩
                refine h_event 7 [true, true, true, true, true, true, true, true, false, true, false].toArray rfl (by kernel_rfl) rfl ?_
                refine s_append (J := Mem.no) (I' := Mem.no) (p := 9) 140737488355328 hm rfl rfl rfl Try.underlying23 ti5 rfl rfl rfl rfl hS rfl ho_318 (Src.flat flat_u8 (hp0_1.src (hA.trans hS.old))) (Mem.le.refl _) (Mem.le.refl _) et_98 ?_
                intro w_328 v_329 M_330 hS' ho_331
                clear hm a; intro a hm
                replace hS : Sep w0 w_328 [N_45, Mem.one g_2 (.cells ([p0_0, p0_1] : List Value).toArray 25 (0, 0)), Mem.no, Mem.one g_6 (.cells ([.slice none 0 0, .slice none 0 0] : List Value).toArray 25 (0, 0)), Mem.no, Mem.no, Mem.no, Mem.one g_289 (.cells ([.slice none 0 0, .slice none 0 0] : List Value).toArray 25 (0, 0)), M_324, M_330] Z := hS'
                clear hS'
                refine wpList_nil ?_
                refine x_then_n ⟨(hS.sub (.cons (Mem.le.refl _) (.cons (Mem.le.refl _) (.cons (Mem.no_le _) (.cons (Mem.le.refl _) (.cons (Mem.no_le _) (.cons (Mem.no_le _) (.cons (Mem.no_le _) (Sub.nil _))))))))), ?_⟩
                refine h_take 8 [true, true, true, true, true, true, true, true, true, true, false].toArray rfl (by kernel_rfl) (by kernel_rfl) (by kernel_rfl) (fun _ _ _ _ h => h) rfl rfl rfl rfl hm (hS.sub (.cons (Mem.le.refl _) (.cons (Mem.le.refl _) (.cons (Mem.no_le _) (.cons (Mem.le.refl _) (.cons (Mem.no_le _) (.cons (Mem.no_le _) (.cons (Mem.no_le _) (Sub.nil _))))))))) (v := .agg [v_323, v_329].toArray) (fun w hS => r_build hm ti25 pl25 rfl (.cons ho_325.cells (.cons ho_331.cells .nil)) (cs := [v_323, v_329]) rfl) ?_
                clear hm a; intro a hm
                refine h_event 10 [true, true, true, true, true, true, true, true, true, true, true].toArray rfl (by kernel_rfl) rfl ?_
                obtain ⟨w_333, hs', hS'⟩ := hS.store (P := Try.prog) (p := 7) (o := 0) (t := 25) (v := .agg [v_323, v_329].toArray) (vs := [v_323, v_329]) rfl ti25 rfl rfl rfl (by intro u hu; simp only [List.mem_cons, List.not_mem_nil, or_false] at hu; rcases hu with rfl | rfl <;> first | rfl | exact ho_325.one | exact ho_331.one)
                refine s_store hm rfl rfl hs' ?_
                replace hS : Sep w0 w_333 [N_45, Mem.one g_2 (.cells ([p0_0, p0_1] : List Value).toArray 25 (0, 0)), Mem.no, Mem.one g_6 (.cells ([.slice none 0 0, .slice none 0 0] : List Value).toArray 25 (0, 0)), Mem.no, Mem.no, Mem.no, Mem.one g_289 (.cells ([v_323, v_329] : List Value).toArray 25 (0, 0)), M_324, M_330] Z := hS'
                clear hs' hS'
                refine wpList_nil ?_
                refine x_then_n ⟨(hS.sub (.cons (Mem.le.refl _) (.cons (Mem.le.refl _) (.cons (Mem.no_le _) (.cons (Mem.le.refl _) (.cons (Mem.no_le _) (.cons (Mem.no_le _) (.cons (Mem.no_le _) (Sub.nil _))))))))), ?_⟩
                refine h_done (by kernel_rfl) ?_
                replace hm : Fr 71 a [(6, .pointer (some ⟨g_6, 0, none⟩)), (7, .int .i64 t_7.1), (9, .int .i64 t_14.1), (12, v_47), (13, .pointer (some ⟨g_289, 0, none⟩))] := hm.keep [6, 7, 9, 12, 13]
                replace hS : Sep w0 w_333 [N_45, Mem.one g_2 (.cells ([p0_0, p0_1] : List Value).toArray 25 (0, 0)), Mem.no, Mem.one g_6 (.cells ([.slice none 0 0, .slice none 0 0] : List Value).toArray 25 (0, 0)), Mem.no, Mem.no, Mem.no, Mem.one g_289 (.cells ([v_323, v_329] : List Value).toArray 25 (0, 0)), M_324, M_330] Z := hS
                replace hm : Fr 71 a [(6, .pointer (some ⟨g_6, 0, none⟩)), (7, .int .i64 t_7.1), (9, .int .i64 t_14.1), (12, v_47), (13, .pointer (some ⟨g_289, 0, none⟩))] := hm.keep [6, 7, 9, 12, 13]
                exact x_then_n (hJ_j_64 (⟨t_86, t_98⟩ : api_Disk) H _ _ ⟨v_323, v_329, g_289, N_45, M_324, M_330, hm, (Sep.sel hS [0, 1000, 1001, 3, 1003, 1004, 1005, 7, 8, 9] (by decide)), (Mem.le.refl _), ho_325, ho_331⟩)
            · refine ⟨_, [false, true, true, false, true, true, true, false, false, true, false].toArray, rfl, rfl, ?_⟩
              have hq_338 : Reps Kd.u8 Mem.no ([] : List UInt8) _ := (Reps.nil Kd.u8 _)
              refine s_buildSlice hm rfl Try.underlying23 ti5 rfl rfl rfl .nil rfl rfl rfl hS hq_338 rfl ?_
              intro w_334 v_335 M_336 hS' ho_337
              clear hm a; intro a hm
              replace hS : Sep w0 w_334 [N_45, Mem.one g_2 (.cells ([p0_0, p0_1] : List Value).toArray 25 (0, 0)), Mem.no, Mem.one g_6 (.cells ([.slice none 0 0, .slice none 0 0] : List Value).toArray 25 (0, 0)), Mem.no, Mem.no, Mem.no, Mem.one g_289 (.cells ([.slice none 0 0, .slice none 0 0] : List Value).toArray 25 (0, 0)), M_336] Z := hS'
              clear hS' hq_338
              refine wpList_nil ?_
              refine x_then_n ⟨(hS.sub (.cons (Mem.le.refl _) (.cons (Mem.le.refl _) (.cons (Mem.no_le _) (.cons (Mem.le.refl _) (.cons (Mem.no_le _) (.cons (Mem.no_le _) (.cons (Mem.no_le _) (Sub.nil _))))))))), ?_⟩
              refine h_event 0 [true, true, true, false, true, true, true, false, false, true, false].toArray rfl (by kernel_rfl) rfl ?_
              have hq_344 : Reps Kd.u8 Mem.no ([] : List UInt8) _ := (Reps.nil Kd.u8 _)
              refine s_buildSlice hm rfl Try.underlying23 ti5 rfl rfl rfl .nil rfl rfl rfl hS hq_344 rfl ?_
              intro w_340 v_341 M_342 hS' ho_343
              clear hm a; intro a hm
              replace hS : Sep w0 w_340 [N_45, Mem.one g_2 (.cells ([p0_0, p0_1] : List Value).toArray 25 (0, 0)), Mem.no, Mem.one g_6 (.cells ([.slice none 0 0, .slice none 0 0] : List Value).toArray 25 (0, 0)), Mem.no, Mem.no, Mem.no, Mem.one g_289 (.cells ([.slice none 0 0, .slice none 0 0] : List Value).toArray 25 (0, 0)), M_336, M_342] Z := hS'
              clear hS' hq_344
              refine wpList_nil ?_
              refine x_then_n ⟨(hS.sub (.cons (Mem.le.refl _) (.cons (Mem.le.refl _) (.cons (Mem.no_le _) (.cons (Mem.le.refl _) (.cons (Mem.no_le _) (.cons (Mem.no_le _) (.cons (Mem.no_le _) (Sub.nil _))))))))), ?_⟩
              refine h_event 3 [true, true, true, true, true, true, true, false, false, true, false].toArray rfl (by kernel_rfl) rfl ?_
              refine s_append (J := Mem.no) (I' := Mem.no) (p := 9) 140737488355328 hm rfl rfl rfl Try.underlying23 ti5 rfl rfl rfl rfl hS rfl ho_343 (Src.flat flat_u8 (hp0_0.src (hA.trans hS.old))) (Mem.le.refl _) (Mem.le.refl _) et_86 ?_
              intro w_347 v_348 M_349 hS' ho_350
              clear hm a; intro a hm
              replace hS : Sep w0 w_347 [N_45, Mem.one g_2 (.cells ([p0_0, p0_1] : List Value).toArray 25 (0, 0)), Mem.no, Mem.one g_6 (.cells ([.slice none 0 0, .slice none 0 0] : List Value).toArray 25 (0, 0)), Mem.no, Mem.no, Mem.no, Mem.one g_289 (.cells ([.slice none 0 0, .slice none 0 0] : List Value).toArray 25 (0, 0)), M_336, M_349] Z := hS'
              clear hS'
              refine wpList_nil ?_
              refine x_then_n ⟨(hS.sub (.cons (Mem.le.refl _) (.cons (Mem.le.refl _) (.cons (Mem.no_le _) (.cons (Mem.le.refl _) (.cons (Mem.no_le _) (.cons (Mem.no_le _) (.cons (Mem.no_le _) (Sub.nil _))))))))), ?_⟩
              refine h_event 7 [true, true, true, true, true, true, true, true, false, true, false].toArray rfl (by kernel_rfl) rfl ?_
              refine s_append (J := Mem.no) (I' := Mem.no) (p := 8) 140737488355328 hm rfl rfl rfl Try.underlying23 ti5 rfl rfl rfl rfl hS rfl ho_337 (Src.flat flat_u8 (hp0_1.src (hA.trans hS.old))) (Mem.le.refl _) (Mem.le.refl _) et_98 ?_
              intro w_353 v_354 M_355 hS' ho_356
              clear hm a; intro a hm
              replace hS : Sep w0 w_353 [N_45, Mem.one g_2 (.cells ([p0_0, p0_1] : List Value).toArray 25 (0, 0)), Mem.no, Mem.one g_6 (.cells ([.slice none 0 0, .slice none 0 0] : List Value).toArray 25 (0, 0)), Mem.no, Mem.no, Mem.no, Mem.one g_289 (.cells ([.slice none 0 0, .slice none 0 0] : List Value).toArray 25 (0, 0)), M_355, M_349] Z := hS'
              clear hS'
              refine wpList_nil ?_
              refine x_then_n ⟨(hS.sub (.cons (Mem.le.refl _) (.cons (Mem.le.refl _) (.cons (Mem.no_le _) (.cons (Mem.le.refl _) (.cons (Mem.no_le _) (.cons (Mem.no_le _) (.cons (Mem.no_le _) (Sub.nil _))))))))), ?_⟩
              refine h_take 8 [true, true, true, true, true, true, true, true, true, true, false].toArray rfl (by kernel_rfl) (by kernel_rfl) (by kernel_rfl) (fun _ _ _ _ h => h) rfl rfl rfl rfl hm (hS.sub (.cons (Mem.le.refl _) (.cons (Mem.le.refl _) (.cons (Mem.no_le _) (.cons (Mem.le.refl _) (.cons (Mem.no_le _) (.cons (Mem.no_le _) (.cons (Mem.no_le _) (Sub.nil _))))))))) (v := .agg [v_348, v_354].toArray) (fun w hS => r_build hm ti25 pl25 rfl (.cons ho_350.cells (.cons ho_356.cells .nil)) (cs := [v_348, v_354]) rfl) ?_
              clear hm a; intro a hm
              refine h_event 10 [true, true, true, true, true, true, true, true, true, true, true].toArray rfl (by kernel_rfl) rfl ?_
              obtain ⟨w_358, hs', hS'⟩ := hS.store (P := Try.prog) (p := 7) (o := 0) (t := 25) (v := .agg [v_348, v_354].toArray) (vs := [v_348, v_354]) rfl ti25 rfl rfl rfl (by intro u hu; simp only [List.mem_cons, List.not_mem_nil, or_false] at hu; rcases hu with rfl | rfl <;> first | rfl | exact ho_350.one | exact ho_356.one)
              refine s_store hm rfl rfl hs' ?_
              replace hS : Sep w0 w_358 [N_45, Mem.one g_2 (.cells ([p0_0, p0_1] : List Value).toArray 25 (0, 0)), Mem.no, Mem.one g_6 (.cells ([.slice none 0 0, .slice none 0 0] : List Value).toArray 25 (0, 0)), Mem.no, Mem.no, Mem.no, Mem.one g_289 (.cells ([v_348, v_354] : List Value).toArray 25 (0, 0)), M_355, M_349] Z := hS'
              clear hs' hS'
              refine wpList_nil ?_
              refine x_then_n ⟨(hS.sub (.cons (Mem.le.refl _) (.cons (Mem.le.refl _) (.cons (Mem.no_le _) (.cons (Mem.le.refl _) (.cons (Mem.no_le _) (.cons (Mem.no_le _) (.cons (Mem.no_le _) (Sub.nil _))))))))), ?_⟩
              refine h_done (by kernel_rfl) ?_
              replace hm : Fr 71 a [(6, .pointer (some ⟨g_6, 0, none⟩)), (7, .int .i64 t_7.1), (9, .int .i64 t_14.1), (12, v_47), (13, .pointer (some ⟨g_289, 0, none⟩))] := hm.keep [6, 7, 9, 12, 13]
              replace hS : Sep w0 w_358 [N_45, Mem.one g_2 (.cells ([p0_0, p0_1] : List Value).toArray 25 (0, 0)), Mem.no, Mem.one g_6 (.cells ([.slice none 0 0, .slice none 0 0] : List Value).toArray 25 (0, 0)), Mem.no, Mem.no, Mem.no, Mem.one g_289 (.cells ([v_348, v_354] : List Value).toArray 25 (0, 0)), M_355, M_349] Z := hS
              replace hm : Fr 71 a [(6, .pointer (some ⟨g_6, 0, none⟩)), (7, .int .i64 t_7.1), (9, .int .i64 t_14.1), (12, v_47), (13, .pointer (some ⟨g_289, 0, none⟩))] := hm.keep [6, 7, 9, 12, 13]
              exact x_then_n (hJ_j_64 (⟨t_86, t_98⟩ : api_Disk) H _ _ ⟨v_348, v_354, g_289, N_45, M_349, M_355, hm, (Sep.sel hS [0, 1000, 1001, 3, 1003, 1004, 1005, 7, 9, 8] (by decide)), (Mem.le.refl _), ho_350, ho_356⟩)
        clear hKJ_39
        by_cases hc_359 : x_42 = true
        · rw [if_pos hc_359] at H
          refine c_cond_t hm rfl hc_359 ?_
          refine wp_region_lit ?_
          refine s_move hm rfl rfl ?_
          clear hm a; intro a hm
          refine s_move hm rfl rfl ?_
          clear hm a; intro a hm
          obtain ⟨N_360, hS', le_360, lo_360⟩ := hS.freeze 5 rfl
          replace hS : Sep w0 w_43 [N_360, Mem.one g_2 (.cells ([p0_0, p0_1] : List Value).toArray 25 (0, 0)), Mem.no, Mem.one g_6 (.cells ([.slice none 0 0, .slice none 0 0] : List Value).toArray 25 (0, 0)), Mem.no, Mem.no, Mem.no] Z := hS'
          clear hS'
          obtain ⟨t_361, et_361, H⟩ := Option.bind_eq_some_iff.1 H
          refine s_slice hm rfl Try.underlying23 ti5 rfl rfl (hr_36.rd lo_360 (Mem.no_le _)) rfl rfl et_361 ?_
          intro v_362 hr_363
          clear hm a; intro a hm
          refine s_assign hm rfl rfl ?_
          clear hm a; intro a hm
          refine wpList_nil ?_
          replace hm : Fr 71 a [(3, .pointer (some ⟨g_2, 0, none⟩)), (6, .pointer (some ⟨g_6, 0, none⟩)), (7, .int .i64 t_7.1), (9, .int .i64 t_14.1), (12, v_362)] := hm.keep [3, 6, 7, 9, 12]
          replace hS : Sep w0 w_43 [N_360, Mem.one g_2 (.cells ([p0_0, p0_1] : List Value).toArray 25 (0, 0)), Mem.no, Mem.one g_6 (.cells ([.slice none 0 0, .slice none 0 0] : List Value).toArray 25 (0, 0)), Mem.no, Mem.no, Mem.no] Z := hS
          replace hm : Fr 71 a [(3, .pointer (some ⟨g_2, 0, none⟩)), (6, .pointer (some ⟨g_6, 0, none⟩)), (7, .int .i64 t_7.1), (9, .int .i64 t_14.1), (12, v_362)] := hm.keep [3, 6, 7, 9, 12]
          exact x_then_n (hJ_j_50 t_361 H _ _ ⟨v_362, N_360, hm, (Sep.sel hS [0, 1, 1001, 3, 1003, 1004, 1005] (by decide)), le_360, hr_363⟩)
        · rw [if_neg hc_359] at H
          refine c_cond_f hm rfl (Bool.eq_false_iff.2 hc_359) ?_
          refine wp_skip ?_
          obtain ⟨N_364, hS', le_364, lo_364⟩ := hS.freeze 5 rfl
          replace hS : Sep w0 w_43 [N_364, Mem.one g_2 (.cells ([p0_0, p0_1] : List Value).toArray 25 (0, 0)), Mem.no, Mem.one g_6 (.cells ([.slice none 0 0, .slice none 0 0] : List Value).toArray 25 (0, 0)), Mem.no, Mem.no, Mem.no] Z := hS'
          clear hS'
          replace hS : Sep w0 w_43 [N_364, Mem.one g_2 (.cells ([p0_0, p0_1] : List Value).toArray 25 (0, 0)), Mem.no, Mem.one g_6 (.cells ([.slice none 0 0, .slice none 0 0] : List Value).toArray 25 (0, 0)), Mem.no, Mem.no, Mem.no] Z := hS
          replace hm : Fr 71 a [(3, .pointer (some ⟨g_2, 0, none⟩)), (6, .pointer (some ⟨g_6, 0, none⟩)), (7, .int .i64 t_7.1), (9, .int .i64 t_14.1), (12, v_35)] := hm.keep [3, 6, 7, 9, 12]
          exact x_then_n (hJ_j_50 t_31 H _ _ ⟨v_35, N_364, hm, (Sep.sel hS [0, 1, 1001, 3, 1003, 1004, 1005] (by decide)), le_364, (hr_36.rd lo_364 (Mem.no_le _))⟩)
      clear hKJ_40
      refine wp_region_lit ?_
      refine s_move hm rfl rfl ?_
      clear hm a; intro a hm
      refine s_cmp (b := decide (x2 ≥ 0)) hm rfl rfl rfl (.inr (.inr (.inr (.inr (.inr ⟨rfl, rfl⟩))))) ?_
      clear hm a; intro a hm
      refine s_move hm rfl rfl ?_
      clear hm a; intro a hm
      by_cases hc_365 : x2 ≥ 0
      · rw [if_pos hc_365] at H
        refine s_on hm rfl rfl (decide_eq_true hc_365) ?_
        refine s_move hm rfl rfl ?_
        clear hm a; intro a hm
        refine s_on hm rfl rfl (decide_eq_true hc_365) ?_
        refine s_move hm rfl rfl ?_
        clear hm a; intro a hm
        refine s_on hm rfl rfl (decide_eq_true hc_365) ?_
        refine s_lenO hm rfl Try.underlying23 rfl hr_36 ?_
        clear hm a; intro a hm
        refine s_on hm rfl rfl (decide_eq_true hc_365) ?_
        refine s_cmp (b := decide (x2 < (t_31.length : Int))) hm rfl rfl rfl (.inr (.inr (.inl ⟨rfl, rfl⟩))) ?_
        clear hm a; intro a hm
        refine s_pick_t hm rfl rfl (decide_eq_true hc_365) rfl ?_
        clear hm a; intro a hm
        refine wpList_nil ?_
        replace hm : Fr 71 a [(2, .int .i64 x2), (3, .pointer (some ⟨g_2, 0, none⟩)), (6, .pointer (some ⟨g_6, 0, none⟩)), (7, .int .i64 t_7.1), (9, .int .i64 t_14.1), (12, v_35), (46, .bool (decide (x2 < (t_31.length : Int))))] := hm.keep [2, 3, 6, 7, 9, 12, 46]
        replace hS : Sep w0 w_32 [N_34, Mem.one g_2 (.cells ([p0_0, p0_1] : List Value).toArray 25 (0, 0)), Mem.one g_4 (.cells ([.int .i64 x1.Inc, .int .i64 x1.Prom, .int .i64 x1.Inst] : List Value).toArray 28 (0, 0)), Mem.one g_6 (.cells ([.slice none 0 0, .slice none 0 0] : List Value).toArray 25 (0, 0)), Mem.no, Mem.no, M_37] Z := hS
        replace hm : Fr 71 a [(2, .int .i64 x2), (3, .pointer (some ⟨g_2, 0, none⟩)), (6, .pointer (some ⟨g_6, 0, none⟩)), (7, .int .i64 t_7.1), (9, .int .i64 t_14.1), (12, v_35), (46, .bool (decide (x2 < (t_31.length : Int))))] := hm.keep [2, 3, 6, 7, 9, 12, 46]
        exact x_then_n (hJ_j_44 (decide (x2 < (t_31.length : Int))) H _ _ ⟨N_34, hm, (Sep.sel hS [0, 1, 1001, 3, 1003, 1004, 6] (by decide)), (Mem.le.refl _)⟩)
      · rw [if_neg hc_365] at H
        refine s_off hm rfl rfl rfl (decide_eq_false hc_365) ?_
        clear hm a; intro a hm
        refine s_off hm rfl rfl rfl (decide_eq_false hc_365) ?_
        clear hm a; intro a hm
        refine s_off hm rfl rfl rfl (decide_eq_false hc_365) ?_
        clear hm a; intro a hm
        refine s_off hm rfl rfl rfl (decide_eq_false hc_365) ?_
        clear hm a; intro a hm
        refine s_pick_f hm rfl rfl (decide_eq_false hc_365) rfl ?_
        clear hm a; intro a hm
        refine wpList_nil ?_
        replace hm : Fr 71 a [(2, .int .i64 x2), (3, .pointer (some ⟨g_2, 0, none⟩)), (6, .pointer (some ⟨g_6, 0, none⟩)), (7, .int .i64 t_7.1), (9, .int .i64 t_14.1), (12, v_35), (46, .bool false)] := hm.keep [2, 3, 6, 7, 9, 12, 46]
        replace hS : Sep w0 w_32 [N_34, Mem.one g_2 (.cells ([p0_0, p0_1] : List Value).toArray 25 (0, 0)), Mem.one g_4 (.cells ([.int .i64 x1.Inc, .int .i64 x1.Prom, .int .i64 x1.Inst] : List Value).toArray 28 (0, 0)), Mem.one g_6 (.cells ([.slice none 0 0, .slice none 0 0] : List Value).toArray 25 (0, 0)), Mem.no, Mem.no, M_37] Z := hS
        replace hm : Fr 71 a [(2, .int .i64 x2), (3, .pointer (some ⟨g_2, 0, none⟩)), (6, .pointer (some ⟨g_6, 0, none⟩)), (7, .int .i64 t_7.1), (9, .int .i64 t_14.1), (12, v_35), (46, .bool false)] := hm.keep [2, 3, 6, 7, 9, 12, 46]
        exact x_then_n (hJ_j_44 false H _ _ ⟨N_34, hm, (Sep.sel hS [0, 1, 1001, 3, 1003, 1004, 6] (by decide)), (Mem.le.refl _)⟩)
    clear hKJ_21
    by_cases hc_366 : x_24 = true
    · rw [if_pos hc_366] at H
      refine c_cond_t hm rfl hc_366 ?_
      refine wp_region_lit ?_
      refine s_move hm rfl rfl ?_
      clear hm a; intro a hm
      refine s_move hm rfl rfl ?_
      clear hm a; intro a hm
      refine s_max hm rfl rfl rfl ?_
      clear hm a; intro a hm
      refine s_arith (r := w64 ((mx t_7.1 t_14.1) + 1)) hm rfl rfl rfl (.inl ⟨rfl, rfl⟩) ?_
      clear hm a; intro a hm
      refine s_assign hm rfl rfl ?_
      clear hm a; intro a hm
      refine wpList_nil ?_
      replace hm : Fr 71 a [(2, .int .i64 x2), (3, .pointer (some ⟨g_2, 0, none⟩)), (4, .pointer (some ⟨g_4, 0, none⟩)), (6, .pointer (some ⟨g_6, 0, none⟩)), (7, .int .i64 t_7.1), (9, .int .i64 t_14.1), (11, .int .i64 (w64 ((mx t_7.1 t_14.1) + 1)))] := hm.keep [2, 3, 4, 6, 7, 9, 11]
      replace hS : Sep w0 w_25 [N_23, Mem.one g_2 (.cells ([p0_0, p0_1] : List Value).toArray 25 (0, 0)), Mem.one g_4 (.cells ([.int .i64 x1.Inc, .int .i64 x1.Prom, .int .i64 x1.Inst] : List Value).toArray 28 (0, 0)), Mem.one g_6 (.cells ([.slice none 0 0, .slice none 0 0] : List Value).toArray 25 (0, 0)), Mem.no, Mem.no] Z := hS
      replace hm : Fr 71 a [(2, .int .i64 x2), (3, .pointer (some ⟨g_2, 0, none⟩)), (4, .pointer (some ⟨g_4, 0, none⟩)), (6, .pointer (some ⟨g_6, 0, none⟩)), (7, .int .i64 t_7.1), (9, .int .i64 t_14.1), (11, .int .i64 (w64 ((mx t_7.1 t_14.1) + 1)))] := hm.keep [2, 3, 4, 6, 7, 9, 11]
      exact x_then_n (hJ_j_30 (w64 ((mx t_7.1 t_14.1) + 1)) H _ _ ⟨N_23, hm, (Sep.sel hS [0, 1, 2, 3, 1003, 1004] (by decide)), (Mem.le.refl _)⟩)
    · rw [if_neg hc_366] at H
      refine c_cond_f hm rfl (Bool.eq_false_iff.2 hc_366) ?_
      refine wp_skip ?_
      replace hS : Sep w0 w_25 [N_23, Mem.one g_2 (.cells ([p0_0, p0_1] : List Value).toArray 25 (0, 0)), Mem.one g_4 (.cells ([.int .i64 x1.Inc, .int .i64 x1.Prom, .int .i64 x1.Inst] : List Value).toArray 28 (0, 0)), Mem.one g_6 (.cells ([.slice none 0 0, .slice none 0 0] : List Value).toArray 25 (0, 0)), Mem.no, Mem.no] Z := hS
      replace hm : Fr 71 a [(2, .int .i64 x2), (3, .pointer (some ⟨g_2, 0, none⟩)), (4, .pointer (some ⟨g_4, 0, none⟩)), (6, .pointer (some ⟨g_6, 0, none⟩)), (7, .int .i64 t_7.1), (9, .int .i64 t_14.1), (11, .int .i64 1)] := hm.keep [2, 3, 4, 6, 7, 9, 11]
      exact x_then_n (hJ_j_30 1 H _ _ ⟨N_23, hm, (Sep.sel hS [0, 1, 2, 3, 1003, 1004] (by decide)), (Mem.le.refl _)⟩)
  clear hKJ_22
  refine wp_region_lit ?_
  refine s_move hm rfl rfl ?_
  clear hm a; intro a hm
  refine s_cmp (b := decide (t_7.1 ≥ 0)) hm rfl rfl rfl (.inr (.inr (.inr (.inr (.inr ⟨rfl, rfl⟩))))) ?_
  clear hm a; intro a hm
  refine s_move hm rfl rfl ?_
  clear hm a; intro a hm
  by_cases hc_367 : t_7.1 ≥ 0
  · rw [if_pos hc_367] at H
    refine s_off hm rfl rfl rfl (decide_eq_true hc_367) ?_
    clear hm a; intro a hm
    refine s_off hm rfl rfl rfl (decide_eq_true hc_367) ?_
    clear hm a; intro a hm
    refine s_pick_t hm rfl rfl (decide_eq_true hc_367) rfl ?_
    clear hm a; intro a hm
    refine wpList_nil ?_
    replace hm : Fr 71 a [(2, .int .i64 x2), (3, .pointer (some ⟨g_2, 0, none⟩)), (4, .pointer (some ⟨g_4, 0, none⟩)), (6, .pointer (some ⟨g_6, 0, none⟩)), (7, .int .i64 t_7.1), (9, .int .i64 t_14.1), (11, .int .i64 1), (31, .bool true)] := hm.keep [2, 3, 4, 6, 7, 9, 11, 31]
    replace hS : Sep w0 w_20 [N_17, Mem.one g_2 (.cells ([p0_0, p0_1] : List Value).toArray 25 (0, 0)), Mem.one g_4 (.cells ([.int .i64 x1.Inc, .int .i64 x1.Prom, .int .i64 x1.Inst] : List Value).toArray 28 (0, 0)), Mem.one g_6 (.cells ([.slice none 0 0, .slice none 0 0] : List Value).toArray 25 (0, 0)), Mem.one g_12 (.cells ([.int .i64 t_7.2.Inc, .int .i64 t_7.2.Prom, .int .i64 t_7.2.Inst] : List Value).toArray 28 (0, 0)), Mem.one g_19 (.cells ([.int .i64 t_14.2.Inc, .int .i64 t_14.2.Prom, .int .i64 t_14.2.Inst] : List Value).toArray 28 (0, 0))] Z := hS
    replace hm : Fr 71 a [(2, .int .i64 x2), (3, .pointer (some ⟨g_2, 0, none⟩)), (4, .pointer (some ⟨g_4, 0, none⟩)), (6, .pointer (some ⟨g_6, 0, none⟩)), (7, .int .i64 t_7.1), (9, .int .i64 t_14.1), (11, .int .i64 1), (31, .bool true)] := hm.keep [2, 3, 4, 6, 7, 9, 11, 31]
    exact x_then_n (hJ_j_26 true H _ _ ⟨N_17, hm, (Sep.sel hS [0, 1, 2, 3, 1003, 1004] (by decide)), (Mem.le.refl _)⟩)
  · rw [if_neg hc_367] at H
    refine s_on hm rfl rfl (decide_eq_false hc_367) ?_
    refine s_move hm rfl rfl ?_
    clear hm a; intro a hm
    refine s_on hm rfl rfl (decide_eq_false hc_367) ?_
    refine s_cmp (b := decide (t_14.1 ≥ 0)) hm rfl rfl rfl (.inr (.inr (.inr (.inr (.inr ⟨rfl, rfl⟩))))) ?_
    clear hm a; intro a hm
    refine s_pick_f hm rfl rfl (decide_eq_false hc_367) rfl ?_
    clear hm a; intro a hm
    refine wpList_nil ?_
    replace hm : Fr 71 a [(2, .int .i64 x2), (3, .pointer (some ⟨g_2, 0, none⟩)), (4, .pointer (some ⟨g_4, 0, none⟩)), (6, .pointer (some ⟨g_6, 0, none⟩)), (7, .int .i64 t_7.1), (9, .int .i64 t_14.1), (11, .int .i64 1), (31, .bool (decide (t_14.1 ≥ 0)))] := hm.keep [2, 3, 4, 6, 7, 9, 11, 31]
    replace hS : Sep w0 w_20 [N_17, Mem.one g_2 (.cells ([p0_0, p0_1] : List Value).toArray 25 (0, 0)), Mem.one g_4 (.cells ([.int .i64 x1.Inc, .int .i64 x1.Prom, .int .i64 x1.Inst] : List Value).toArray 28 (0, 0)), Mem.one g_6 (.cells ([.slice none 0 0, .slice none 0 0] : List Value).toArray 25 (0, 0)), Mem.one g_12 (.cells ([.int .i64 t_7.2.Inc, .int .i64 t_7.2.Prom, .int .i64 t_7.2.Inst] : List Value).toArray 28 (0, 0)), Mem.one g_19 (.cells ([.int .i64 t_14.2.Inc, .int .i64 t_14.2.Prom, .int .i64 t_14.2.Inst] : List Value).toArray 28 (0, 0))] Z := hS
    replace hm : Fr 71 a [(2, .int .i64 x2), (3, .pointer (some ⟨g_2, 0, none⟩)), (4, .pointer (some ⟨g_4, 0, none⟩)), (6, .pointer (some ⟨g_6, 0, none⟩)), (7, .int .i64 t_7.1), (9, .int .i64 t_14.1), (11, .int .i64 1), (31, .bool (decide (t_14.1 ≥ 0)))] := hm.keep [2, 3, 4, 6, 7, 9, 11, 31]
    exact x_then_n (hJ_j_26 (decide (t_14.1 ≥ 0)) H _ _ ⟨N_17, hm, (Sep.sel hS [0, 1, 2, 3, 1003, 1004] (by decide)), (Mem.le.refl _)⟩)

set_option maxHeartbeats 4000000 in
set_option maxRecDepth 20000 in
theorem hocketref11_SameDisk.calls (x0 : api_Disk) (p0_0 : Value) (p0_1 : Value) (x1 : api_Disk) (p1_2 : Value) (p1_3 : Value) (r : Bool) (w0 w : World) (Z A : Mem) (hA : A.le Z) (hS : Sep w0 w [] Z) (hp0_0 : Rd Kd.u8 A p0_0 x0.A) (hp0_1 : Rd Kd.u8 A p0_1 x0.B) (hp1_2 : Rd Kd.u8 A p1_2 x1.A) (hp1_3 : Rd Kd.u8 A p1_3 x1.B)
    (H : hocketref11_SameDisk.f x0 x1 = some r) :
    Calls Try.prog 18 [.agg [p0_0, p0_1].toArray, .agg [p1_2, p1_3].toArray].toArray w (Ret fun v w' => ∃ (N : Mem), v = .bool r ∧ Sep w0 w' [N] Z) := by
  unfold hocketref11_SameDisk.f at H
  refine f_enter _ Try.func18 rfl Try.ntmps18 rfl fun a hm => ?_
  replace hm : Fr 21 a [(0, .agg [p0_0, p0_1].toArray), (1, .agg [p1_2, p1_3].toArray)] := hm
  replace hS := hS.start
  replace hS : Sep w0 w [Mem.no] Z := hS
  refine wp_seq ?_
  refine wp_region_lit ?_
  refine v_box (vs := [p0_0, p0_1]) hm rfl rfl rfl hS ?_
  intro w_1 g_2 hS'
  clear hm a; intro a hm
  replace hS : Sep w0 w_1 [Mem.no, Mem.one g_2 (.cells ([p0_0, p0_1] : List Value).toArray 25 (0, 0))] Z := hS'
  clear hS'
  refine v_box (vs := [p1_2, p1_3]) hm rfl rfl rfl hS ?_
  intro w_3 g_4 hS'
  clear hm a; intro a hm
  replace hS : Sep w0 w_3 [Mem.no, Mem.one g_2 (.cells ([p0_0, p0_1] : List Value).toArray 25 (0, 0)), Mem.one g_4 (.cells ([p1_2, p1_3] : List Value).toArray 25 (0, 0))] Z := hS'
  clear hS'
  refine s_assign hm rfl rfl ?_
  clear hm a; intro a hm
  refine wpList_nil ?_
  replace hm : Fr 21 a [(2, .pointer (some ⟨g_2, 0, none⟩)), (3, .pointer (some ⟨g_4, 0, none⟩)), (4, .bool false)] := hm.keep [2, 3, 4]
  refine x_then_n ?_
  refine c_seq fun KJ_5 hKJ_5 => ?_
  refine wp_region_lit ?_
  refine s_fieldAddr hm rfl Try.underlying25 rfl ti23 rfl rfl ?_
  clear hm a; intro a hm
  refine s_load hm rfl rfl (hS.load_one (p := 1) rfl Try.underlying23 rfl rfl) ?_
  clear hm a; intro a hm
  refine s_b2s hm rfl Try.underlying23 Try.underlying5 Try.underlying9 rfl hp0_0 (hA.trans hS.old) ?_
  clear hm a; intro a hm
  refine s_fieldAddr hm rfl Try.underlying25 rfl ti23 rfl rfl ?_
  clear hm a; intro a hm
  refine s_load hm rfl rfl (hS.load_one (p := 2) rfl Try.underlying23 rfl rfl) ?_
  clear hm a; intro a hm
  refine s_b2s hm rfl Try.underlying23 Try.underlying5 Try.underlying9 rfl hp1_2 (hA.trans hS.old) ?_
  clear hm a; intro a hm
  refine s_strEq (b := (x0.A == x1.A)) hm rfl rfl rfl (.inl ⟨rfl, rfl⟩) ?_
  clear hm a; intro a hm
  refine s_move hm rfl rfl ?_
  clear hm a; intro a hm
  by_cases hc_6 : x0.A = x1.A
  · rw [if_pos hc_6] at H
    refine s_on hm rfl rfl (beq_iff_eq.2 hc_6) ?_
    refine s_fieldAddr hm rfl Try.underlying25 rfl ti23 rfl rfl ?_
    clear hm a; intro a hm
    refine s_on hm rfl rfl (beq_iff_eq.2 hc_6) ?_
    refine s_load hm rfl rfl (hS.load_one (p := 1) rfl Try.underlying23 rfl rfl) ?_
    clear hm a; intro a hm
    refine s_on hm rfl rfl (beq_iff_eq.2 hc_6) ?_
    refine s_b2s hm rfl Try.underlying23 Try.underlying5 Try.underlying9 rfl hp0_1 (hA.trans hS.old) ?_
    clear hm a; intro a hm
    refine s_on hm rfl rfl (beq_iff_eq.2 hc_6) ?_
    refine s_fieldAddr hm rfl Try.underlying25 rfl ti23 rfl rfl ?_
    clear hm a; intro a hm
    refine s_on hm rfl rfl (beq_iff_eq.2 hc_6) ?_
    refine s_load hm rfl rfl (hS.load_one (p := 2) rfl Try.underlying23 rfl rfl) ?_
    clear hm a; intro a hm
    refine s_on hm rfl rfl (beq_iff_eq.2 hc_6) ?_
    refine s_b2s hm rfl Try.underlying23 Try.underlying5 Try.underlying9 rfl hp1_3 (hA.trans hS.old) ?_
    clear hm a; intro a hm
    refine s_on hm rfl rfl (beq_iff_eq.2 hc_6) ?_
    refine s_strEq (b := (x0.B == x1.B)) hm rfl rfl rfl (.inl ⟨rfl, rfl⟩) ?_
    clear hm a; intro a hm
    refine s_pick_t hm rfl rfl (beq_iff_eq.2 hc_6) rfl ?_
    clear hm a; intro a hm
    refine s_assign hm rfl rfl ?_
    clear hm a; intro a hm
    refine wpList_nil ?_
    replace hm : Fr 21 a [(4, .bool (x0.B == x1.B))] := hm.keep [4]
    refine x_then_n (hKJ_5 _ _ ?_)
    refine wp_ret ?_
    obtain rfl := Option.some.inj H
    exact f_ret hm (rs := [.tmp 4]) rfl (.tmp rfl .nil) ⟨_, rfl, Mem.no, rfl, (Sep.sel hS [0] (by decide))⟩
  · rw [if_neg hc_6] at H
    refine s_off hm rfl rfl rfl (beq_eq_false_iff_ne.2 hc_6) ?_
    clear hm a; intro a hm
    refine s_off hm rfl rfl rfl (beq_eq_false_iff_ne.2 hc_6) ?_
    clear hm a; intro a hm
    refine s_off hm rfl rfl rfl (beq_eq_false_iff_ne.2 hc_6) ?_
    clear hm a; intro a hm
    refine s_off hm rfl rfl rfl (beq_eq_false_iff_ne.2 hc_6) ?_
    clear hm a; intro a hm
    refine s_off hm rfl rfl rfl (beq_eq_false_iff_ne.2 hc_6) ?_
    clear hm a; intro a hm
    refine s_off hm rfl rfl rfl (beq_eq_false_iff_ne.2 hc_6) ?_
    clear hm a; intro a hm
    refine s_off hm rfl rfl rfl (beq_eq_false_iff_ne.2 hc_6) ?_
    clear hm a; intro a hm
    refine s_pick_f hm rfl rfl (beq_eq_false_iff_ne.2 hc_6) rfl ?_
    clear hm a; intro a hm
    refine s_assign hm rfl rfl ?_
    clear hm a; intro a hm
    refine wpList_nil ?_
    replace hm : Fr 21 a [(4, .bool false)] := hm.keep [4]
    refine x_then_n (hKJ_5 _ _ ?_)
    refine wp_ret ?_
    obtain rfl := Option.some.inj H
    exact f_ret hm (rs := [.tmp 4]) rfl (.tmp rfl .nil) ⟨_, rfl, Mem.no, rfl, (Sep.sel hS [0] (by decide))⟩

set_option maxHeartbeats 4000000 in
set_option maxRecDepth 20000 in
theorem keep_New.calls (x0 : api_Disk) (p0_0 : Value) (p0_1 : Value) (r : (List UInt8) × (List UInt8) × Int × Bool) (w0 w : World) (Z A : Mem) (hA : A.le Z) (hS : Sep w0 w [] Z) (hp0_0 : Rd Kd.u8 A p0_0 x0.A) (hp0_1 : Rd Kd.u8 A p0_1 x0.B)
    (H : keep_New.f x0 = some r) :
    Calls Try.prog 19 [.agg [p0_0, p0_1].toArray].toArray w (Ret fun v w' => ∃ (u0 : Nat) (u1 : Value) (u2 : Value) (N : Mem), v = .pointer (some ⟨u0, 0, none⟩) ∧ Sep w0 w' [N, Mem.one u0 (.cells ([u1, u2, .int .i64 r.2.2.1, .bool r.2.2.2] : List Value).toArray 58 (0, 0))] Z ∧ Rd Kd.u8 N u1 r.1 ∧ Rd Kd.u8 N u2 r.2.1) := by
  unfold keep_New.f at H
  refine f_enter _ Try.func19 rfl Try.ntmps19 rfl fun a hm => ?_
  replace hm : Fr 12 a [(0, .agg [p0_0, p0_1].toArray)] := hm
  replace hS := hS.start
  replace hS : Sep w0 w [Mem.no] Z := hS
  refine wp_seq ?_
  refine wp_region_lit ?_
  refine v_box (vs := [p0_0, p0_1]) hm rfl rfl rfl hS ?_
  intro w_1 g_2 hS'
  clear hm a; intro a hm
  replace hS : Sep w0 w_1 [Mem.no, Mem.one g_2 (.cells ([p0_0, p0_1] : List Value).toArray 25 (0, 0))] Z := hS'
  clear hS'
  refine s_assign hm rfl rfl ?_
  clear hm a; intro a hm
  refine wpList_nil ?_
  replace hm : Fr 12 a [(1, .pointer (some ⟨g_2, 0, none⟩)), (2, .pointer none)] := hm.keep [1, 2]
  refine x_then_n ?_
  refine c_seq fun KJ_3 hKJ_3 => ?_
  refine h_begin (S := fun w => Sep w0 w [Mem.no, Mem.one g_2 (.cells ([p0_0, p0_1] : List Value).toArray 25 (0, 0))] Z) 10 (by kernel_rfl) rfl [false, false, false, false, false, false, false, false, false, false].toArray rfl hS fun w_4 hS => ?_
  replace hS : Sep w0 w_4 [Mem.no, Mem.one g_2 (.cells ([p0_0, p0_1] : List Value).toArray 25 (0, 0))] Z := hS
  refine h_take 0 [true, false, false, false, false, false, false, false, false, false].toArray rfl (by kernel_rfl) (by kernel_rfl) (by kernel_rfl) (fun _ _ _ _ h => h) rfl rfl rfl rfl hm (hS.sub (.cons (Mem.le.refl _) (.cons (Mem.le.refl _) (Sub.nil _)))) (v := .pointer (some ⟨g_2, 0, none⟩)) (fun w hS => r_fieldAddr hm Try.underlying25 rfl ti23 rfl rfl rfl) ?_
  clear hm a; intro a hm
  refine h_take 1 [true, true, false, false, false, false, false, false, false, false].toArray rfl (by kernel_rfl) (by kernel_rfl) (by kernel_rfl) (fun _ _ _ _ h => h) rfl rfl rfl rfl hm (hS.sub (.cons (Mem.le.refl _) (.cons (Mem.le.refl _) (Sub.nil _)))) (v := p0_0) (fun w hS => r_load hm rfl (hS.load_one (p := 1) rfl Try.underlying23 rfl rfl)) ?_
  clear hm a; intro a hm
  refine h_take 3 [true, true, false, true, false, false, false, false, false, false].toArray rfl (by kernel_rfl) (by kernel_rfl) (by kernel_rfl) (fun _ _ _ _ h => h) rfl rfl rfl rfl hm (hS.sub (.cons (Mem.le.refl _) (.cons (Mem.le.refl _) (Sub.nil _)))) (v := .pointer (some ⟨g_2, 1, none⟩)) (fun w hS => r_fieldAddr hm Try.underlying25 rfl ti23 rfl rfl rfl) ?_
  clear hm a; intro a hm
  refine h_take 4 [true, true, false, true, true, false, false, false, false, false].toArray rfl (by kernel_rfl) (by kernel_rfl) (by kernel_rfl) (fun _ _ _ _ h => h) rfl rfl rfl rfl hm (hS.sub (.cons (Mem.le.refl _) (.cons (Mem.le.refl _) (Sub.nil _)))) (v := p0_1) (fun w hS => r_load hm rfl (hS.load_one (p := 1) rfl Try.underlying23 rfl rfl)) ?_
  clear hm a; intro a hm
  refine h_event 2 [true, true, true, true, true, false, false, false, false, false].toArray rfl (by kernel_rfl) rfl ?_
  obtain ⟨t_5, et_5, H⟩ := Option.bind_eq_some_iff.1 H
  refine s_call hm rfl Try.call27 rfl (slices_Clone_sbyte_byte.calls x0.A _ t_5 w0 _ _ _ (Mem.le.refl _) (hS.enter [] (by decide)) (hp0_0.mono (hA.trans (hS.le_zed []))) et_5) ?_
  rintro v_9 w_6 ⟨_, N_7, M_11, rfl, hS', hr_10⟩
  clear hm a; intro a hm
  obtain ⟨N_8, hS'', le_8, ln_8⟩ := hS.call [] (by decide) rfl (l' := []) (ow := [M_11]) rfl hS'
  replace hS : Sep w0 w_6 [N_8, Mem.one g_2 (.cells ([p0_0, p0_1] : List Value).toArray 25 (0, 0)), M_11] Z := hS''
  clear hS' hS''
  refine wpList_nil ?_
  refine x_then_n ⟨(hS.sub (.cons le_8 (.cons (Mem.le.refl _) (Sub.nil _)))), ?_⟩
  refine h_event 5 [true, true, true, true, true, true, false, false, false, false].toArray rfl (by kernel_rfl) rfl ?_
  obtain ⟨t_13, et_13, H⟩ := Option.bind_eq_some_iff.1 H
  refine s_call hm rfl Try.call27 rfl (slices_Clone_sbyte_byte.calls x0.B _ t_13 w0 _ _ _ (Mem.le.refl _) (hS.enter [] (by decide)) (hp0_1.mono (hA.trans (hS.le_zed []))) et_13) ?_
  rintro v_17 w_14 ⟨_, N_15, M_19, rfl, hS', hr_18⟩
  clear hm a; intro a hm
  obtain ⟨N_16, hS'', le_16, ln_16⟩ := hS.call [] (by decide) rfl (l' := []) (ow := [M_19]) rfl hS'
  replace hS : Sep w0 w_14 [N_16, Mem.one g_2 (.cells ([p0_0, p0_1] : List Value).toArray 25 (0, 0)), M_11, M_19] Z := hS''
  clear hS' hS''
  refine wpList_nil ?_
  refine x_then_n ⟨(hS.sub (.cons (le_8.trans le_16) (.cons (Mem.le.refl _) (Sub.nil _)))), ?_⟩
  refine h_take 6 [true, true, true, true, true, true, true, false, false, false].toArray rfl (by kernel_rfl) (by kernel_rfl) (by kernel_rfl) (fun _ _ _ _ h => h) rfl rfl rfl rfl hm (hS.sub (.cons (le_8.trans le_16) (.cons (Mem.le.refl _) (Sub.nil _)))) (v := .agg [v_9, v_17].toArray) (fun w hS => r_build hm ti25 pl25 rfl (.cons hr_10.cells (.cons hr_18.cells .nil)) (cs := [v_9, v_17]) rfl) ?_
  clear hm a; intro a hm
  refine h_take 7 [true, true, true, true, true, true, true, true, false, false].toArray rfl (by kernel_rfl) (by kernel_rfl) (by kernel_rfl) (fun _ _ _ _ h => h) rfl rfl rfl rfl hm (hS.sub (.cons (le_8.trans le_16) (.cons (Mem.le.refl _) (Sub.nil _)))) (v := .agg [v_9, v_17, .int .i64 (-1), .bool false].toArray) (fun w hS => r_build hm ti58 pl58 rfl (.cons rfl (.cons rfl .nil)) (cs := [v_9, v_17, .int .i64 (-1), .bool false]) rfl) ?_
  clear hm a; intro a hm
  refine h_event 8 [true, true, true, true, true, true, true, true, true, false].toArray rfl (by kernel_rfl) rfl ?_
  refine v_box (vs := [v_9, v_17, .int .i64 (-1), .bool false]) hm rfl rfl rfl hS ?_
  intro w_21 g_22 hS'
  clear hm a; intro a hm
  replace hS : Sep w0 w_21 [N_16, Mem.one g_2 (.cells ([p0_0, p0_1] : List Value).toArray 25 (0, 0)), M_11, M_19, Mem.one g_22 (.cells ([v_9, v_17, .int .i64 (-1), .bool false] : List Value).toArray 58 (0, 0))] Z := hS'
  clear hS'
  refine wpList_nil ?_
  refine x_then_n ⟨(hS.sub (.cons (le_8.trans le_16) (.cons (Mem.le.refl _) (Sub.nil _)))), ?_⟩
  refine h_take 9 [true, true, true, true, true, true, true, true, true, true].toArray rfl (by kernel_rfl) (by kernel_rfl) (by kernel_rfl) (fun _ _ _ _ h => h) rfl rfl rfl rfl hm (hS.sub (.cons (le_8.trans le_16) (.cons (Mem.le.refl _) (Sub.nil _)))) (v := .pointer (some ⟨g_22, 0, none⟩)) (fun w hS => r_assign hm rfl) ?_
  clear hm a; intro a hm
  refine h_done (by kernel_rfl) ?_
  replace hm : Fr 12 a [(2, .pointer (some ⟨g_22, 0, none⟩))] := hm.keep [2]
  refine x_then_n (hKJ_3 _ _ ?_)
  refine wp_ret ?_
  obtain ⟨N_23, hS', le_23, lo_23⟩ := hS.freeze 1 rfl
  replace hS : Sep w0 w_21 [N_23, Mem.one g_2 (.cells ([p0_0, p0_1] : List Value).toArray 25 (0, 0)), Mem.no, M_19, Mem.one g_22 (.cells ([v_9, v_17, .int .i64 (-1), .bool false] : List Value).toArray 58 (0, 0))] Z := hS'
  clear hS'
  obtain ⟨N_24, hS', le_24, lo_24⟩ := hS.freeze 2 rfl
  replace hS : Sep w0 w_21 [N_24, Mem.one g_2 (.cells ([p0_0, p0_1] : List Value).toArray 25 (0, 0)), Mem.no, Mem.no, Mem.one g_22 (.cells ([v_9, v_17, .int .i64 (-1), .bool false] : List Value).toArray 58 (0, 0))] Z := hS'
  clear hS'
  obtain rfl := Option.some.inj H
  exact f_ret hm (rs := [.tmp 2]) rfl (.tmp rfl .nil) ⟨_, rfl, g_22, v_9, v_17, N_24, rfl, (Sep.sel hS [0, 4] (by decide)), ((hr_10.rd lo_23 (Mem.no_le _)).mono le_24), (hr_18.rd lo_24 (Mem.no_le _))⟩


end Go.Proofs
