/- What the calls do: each function once. -/
import Derived.Test.YteojmbigbifklaaWaitPlaysc1
namespace Go.Proofs
open Go.Gp
set_option linter.unusedVariables false
set_option maxHeartbeats 4000000 in
set_option maxRecDepth 20000 in
theorem wait_Calls_Next.calls (K : Nat) (g0 : Nat) (x0_l : List wait_call) (p0_0 : Value) (M0_0 : Mem) (x0_done : List api_Reply) (p0_1 : Value) (M0_1 : Mem) (x1 : Int) (r : (List api_Entry) × (List wait_call) × (List api_Reply)) (w0 w : World) (Z A : Mem) (hA : A.le Z) (hS : Sep w0 w [Mem.one g0 (.cells ([p0_0, p0_1] : List Value).toArray 74 (0, 0)), M0_0, M0_1] Z) (hp0_0 : Own k_wait_call 78 M0_0 A p0_0 x0_l) (hp0_1 : Own k_api_Reply 56 M0_1 A p0_1 x0_done)
    (H : wait_Calls_Next.f K x0_l x0_done x1 = some r) :
    Calls Try.prog 24 [.pointer (some ⟨g0, 0, none⟩), .int .i64 x1].toArray w (Ret fun v w' => ∃ (u0 : Value) (u1 : Value) (u2 : Value) (N : Mem) (M0 : Mem) (M100 : Mem) (M101 : Mem), v = u0 ∧ Sep w0 w' [N, Mem.one g0 (.cells ([u1, u2] : List Value).toArray 74 (0, 0)), M100, M101, M0] Z ∧ Own k_api_Entry 45 M0 N u0 r.1 ∧ Own k_wait_call 78 M100 (A.un N) u1 r.2.1 ∧ Own k_api_Reply 56 M101 (A.un N) u2 r.2.2) := by
  unfold wait_Calls_Next.f at H
  refine f_enter _ Try.func24 rfl Try.ntmps24 rfl fun a hm => ?_
  replace hm : Fr 42 a [(0, .pointer (some ⟨g0, 0, none⟩)), (1, .int .i64 x1)] := hm
  replace hS := hS.start
  replace hS : Sep w0 w [Mem.no, Mem.one g0 (.cells ([p0_0, p0_1] : List Value).toArray 74 (0, 0)), M0_0, M0_1] Z := hS
  refine wp_seq ?_
  refine wp_region_lit ?_
  refine s_assign hm rfl rfl ?_
  clear hm a; intro a hm
  refine wpList_nil ?_
  replace hm : Fr 42 a [(0, .pointer (some ⟨g0, 0, none⟩)), (1, .int .i64 x1), (4, .slice none 0 0)] := hm.keep [0, 1, 4]
  refine x_then_n ?_
  refine wp_seq ?_
  refine wp_region_lit ?_
  refine s_assign hm rfl rfl ?_
  clear hm a; intro a hm
  refine wpList_nil ?_
  replace hm : Fr 42 a [(0, .pointer (some ⟨g0, 0, none⟩)), (1, .int .i64 x1), (4, .slice none 0 0), (5, .slice none 0 0)] := hm.keep [0, 1, 4, 5]
  refine x_then_n ?_
  refine c_seq fun KJ_1 hKJ_1 => ?_
  refine wp_seq ?_
  refine wp_region_lit ?_
  refine s_move hm rfl rfl ?_
  clear hm a; intro a hm
  refine s_nilCheck hm rfl rfl ?_
  clear hm a; intro a hm
  refine s_fieldAddr hm rfl Try.underlying74 rfl ti72 rfl rfl ?_
  clear hm a; intro a hm
  refine s_load hm rfl rfl (hS.load_one (p := 1) rfl Try.underlying72 rfl rfl) ?_
  clear hm a; intro a hm
  refine s_lenO hm rfl Try.underlying72 rfl hp0_0 ?_
  clear hm a; intro a hm
  refine s_move hm rfl rfl ?_
  clear hm a; intro a hm
  refine wpList_nil ?_
  replace hm : Fr 42 a [(0, .pointer (some ⟨g0, 0, none⟩)), (1, .int .i64 x1), (4, .slice none 0 0), (5, .slice none 0 0), (11, p0_0), (12, .int .i64 (x0_l.length : Int)), (13, .int .i64 0)] := hm.keep [0, 1, 4, 5, 11, 12, 13]
  refine x_then_n ?_
  have hJ_j_14 : ∀ (x_3 : List api_Entry), ∀ (x_8 : List wait_call), wait_Calls_Next.J1 K x0_done x_3 x_8 = some r → ∀ (a : Act) (w_13 : World), (∃ (v_6 : Value) (v_11 : Value) (N_2 : Mem) (M_4 : Mem) (M_9 : Mem), Fr 42 a [(4, .slice none 0 0), (5, v_6)] ∧ Sep w0 w_13 [N_2, Mem.one g0 (.cells ([v_11, p0_1] : List Value).toArray 74 (0, 0)), M_9, M0_1, M_4] Z ∧ Mem.no.le N_2 ∧ Own k_api_Entry 45 M_4 N_2 v_6 x_3 ∧ Own k_wait_call 78 M_9 (A.un N_2) v_11 x_8) → KJ_1 a w_13 := by
    clear H hm hS a
    rintro x_3 x_8 H a w_13 ⟨v_6, v_11, N_2, M_4, M_9, hm, hS, le_2, ho_7, ho_12⟩
    unfold wait_Calls_Next.J1 at H
    refine hKJ_1 _ _ ?_
    refine wp_seq ?_
    refine wp_region_lit ?_
    refine s_move hm rfl rfl ?_
    clear hm a; intro a hm
    refine s_assign hm rfl rfl ?_
    clear hm a; intro a hm
    refine wpList_nil ?_
    replace hm : Fr 42 a [(4, v_6)] := hm.keep [4]
    refine x_then_n ?_
    refine wp_ret ?_
    obtain rfl := Option.some.inj H
    exact f_ret hm (rs := [.tmp 4]) rfl (.tmp rfl .nil) ⟨_, rfl, v_6, v_11, p0_1, N_2, M_4, M_9, M0_1, rfl, (Sep.sel hS [0, 1, 2, 3, 4] (by decide)), (ho_7.mono (Mem.le.refl _)), (ho_12.mono (Mem.un_left (Mem.le.refl _))), (hp0_1.mono (Mem.le_un _ _))⟩
  clear hKJ_1
  have hS' := hS.room
  replace hS : Sep w0 w [Mem.no, Mem.one g0 (.cells ([p0_0, p0_1] : List Value).toArray 74 (0, 0)), M0_0, M0_1, Mem.no] Z := hS'
  clear hS'
  replace hS : Sep w0 w [Mem.no, Mem.one g0 (.cells ([p0_0, p0_1] : List Value).toArray 74 (0, 0)), M0_0, M0_1, Mem.no] Z := hS
  replace hm : Fr 42 a [(0, .pointer (some ⟨g0, 0, none⟩)), (1, .int .i64 x1), (4, .slice none 0 0), (5, .slice none 0 0), (11, p0_0), (12, .int .i64 (x0_l.length : Int)), (13, .int .i64 0)] := hm.keep [0, 1, 4, 5, 11, 12, 13]
  refine c_block ?_
  refine c_loop (fun k_28 a w_28 => ∃ (x_16 : List api_Entry) (x_21 : List wait_call) (x_26 : Int) (v_19 : Value) (v_24 : Value) (N_15 : Mem) (M_17 : Mem) (M_22 : Mem), wait_Calls_Next.L1 K x0_l x1 (fun v => wait_Calls_Next.J1 K x0_done v.1 v.2) k_28 (x_16, x_21, x_26) = some r ∧ Fr 42 a [(0, .pointer (some ⟨g0, 0, none⟩)), (1, .int .i64 x1), (4, .slice none 0 0), (5, v_19), (11, v_24), (12, .int .i64 (x0_l.length : Int)), (13, .int .i64 x_26)] ∧ Sep w0 w_28 [N_15, Mem.one g0 (.cells ([v_24, p0_1] : List Value).toArray 74 (0, 0)), M_22, M0_1, M_17] Z ∧ Mem.no.le N_15 ∧ Own k_api_Entry 45 M_17 N_15 v_19 x_16 ∧ Own k_wait_call 78 M_22 (A.un N_15) v_24 x_21) K ⟨([] : List api_Entry), x0_l, 0, .slice none 0 0, p0_0, Mem.no, Mem.no, M0_0, H, hm, (Sep.sel hS [0, 1, 2, 3, 4] (by decide)), (Mem.le.refl _), ((Own.nil k_api_Entry 45 Mem.no).mono (Mem.le.refl _)), (hp0_0.mono (Mem.le_un _ _))⟩ (fun a w h => by obtain ⟨_, _, _, _, _, _, _, _, H, _⟩ := h; cases (show (none : Option ((List api_Entry) × (List wait_call) × (List api_Reply))) = some r from H)) ?_
  clear hm hS a H
  rintro k_28 a w_28 KL_28 hKL_28 ⟨x_16, x_21, x_26, v_19, v_24, N_15, M_17, M_22, H, hm, hS, le_15, ho_20, ho_25⟩
  replace H : wait_Calls_Next.B1 K x0_l x1 (fun v => wait_Calls_Next.J1 K x0_done v.1 v.2) (wait_Calls_Next.L1 K x0_l x1 (fun v => wait_Calls_Next.J1 K x0_done v.1 v.2) k_28) x_16 x_21 x_26 = some r := H
  unfold wait_Calls_Next.B1 at H
  refine wp_seq ?_
  refine wp_region_lit ?_
  refine s_cmp (b := decide (x_26 < (x0_l.length : Int))) hm rfl rfl rfl (.inr (.inr (.inl ⟨rfl, rfl⟩))) ?_
  clear hm a; intro a hm
  refine wpList_nil ?_
  replace hm : Fr 42 a [(0, .pointer (some ⟨g0, 0, none⟩)), (1, .int .i64 x1), (4, .slice none 0 0), (5, v_19), (11, v_24), (12, .int .i64 (x0_l.length : Int)), (13, .int .i64 x_26), (14, .bool (decide (x_26 < (x0_l.length : Int))))] := hm.keep [0, 1, 4, 5, 11, 12, 13, 14]
  refine x_then_n ?_
  refine c_seq fun KJ_31 hKJ_31 => ?_
  by_cases hc_32 : x_26 < (x0_l.length : Int)
  · rw [if_pos hc_32] at H
    refine c_cond_t hm rfl (decide_eq_true hc_32) ?_
    refine wp_skip ?_
    refine x_then_n (hKJ_31 _ _ ?_)
    refine c_seq fun KJ_33 hKJ_33 => ?_
    refine c_block ?_
    refine wp_seq ?_
    refine wp_region_lit ?_
    refine s_move hm rfl rfl ?_
    clear hm a; intro a hm
    obtain ⟨t_34, et_34, H⟩ := Option.bind_eq_some_iff.1 H
    refine v_indexO hm rfl Try.underlying72 ti78 rfl rfl rfl ho_25 (hS.own 2) et_34 ?_
    intro ad_35 cs_36 hk_37 hc_38
    obtain ⟨v_39, v_41, v_43, rfl, hr_40, hr_42, hr_44⟩ := k_wait_call.open' hk_37
    clear hm a; intro a hm
    refine s_load hm rfl rfl (el_agg (o := 0) (us := [.int .i64 t_34.e.Sess, .int .i64 t_34.e.Seq, .int .i64 t_34.e.Cmd.Kind, .int .i64 t_34.e.Cmd.Who, v_39, v_41, v_43, .bool t_34.sent]) hc_38 Try.underlying78 rfl ti78 rfl rfl) ?_
    clear hm a; intro a hm
    refine v_alloc hm rfl ti78 hS ?_
    intro w_45 g_46 hS'
    clear hm a; intro a hm
    replace hS : Sep w0 w_45 [N_15, Mem.one g0 (.cells ([v_24, p0_1] : List Value).toArray 74 (0, 0)), M_22, M0_1, M_17, Mem.one g_46 (.cells ([.int .i64 0, .int .i64 0, .int .i64 0, .int .i64 0, .slice none 0 0, .slice none 0 0, .slice none 0 0, .bool false] : List Value).toArray 78 (0, 0))] Z := hS'
    clear hS'
    refine s_assign hm rfl rfl ?_
    clear hm a; intro a hm
    obtain ⟨w_47, hs', hS'⟩ := hS.store (P := Try.prog) (p := 5) (o := 0) (t := 78) (v := .agg ([.int .i64 t_34.e.Sess, .int .i64 t_34.e.Seq, .int .i64 t_34.e.Cmd.Kind, .int .i64 t_34.e.Cmd.Who, v_39, v_41, v_43, .bool t_34.sent] : List Value).toArray) (vs := [.int .i64 t_34.e.Sess, .int .i64 t_34.e.Seq, .int .i64 t_34.e.Cmd.Kind, .int .i64 t_34.e.Cmd.Who, v_39, v_41, v_43, .bool t_34.sent]) rfl ti78 rfl rfl rfl (by intro u hu; simp only [List.mem_cons, List.not_mem_nil, or_false] at hu; rcases hu with rfl | rfl | rfl | rfl | rfl | rfl | rfl | rfl <;> first | rfl | exact hr_40.one | exact hr_42.one | exact hr_44.one)
    refine s_store hm rfl rfl hs' ?_
    replace hS : Sep w0 w_47 [N_15, Mem.one g0 (.cells ([v_24, p0_1] : List Value).toArray 74 (0, 0)), M_22, M0_1, M_17, Mem.one g_46 (.cells ([.int .i64 t_34.e.Sess, .int .i64 t_34.e.Seq, .int .i64 t_34.e.Cmd.Kind, .int .i64 t_34.e.Cmd.Who, v_39, v_41, v_43, .bool t_34.sent] : List Value).toArray 78 (0, 0))] Z := hS'
    clear hs' hS'
    refine wpList_nil ?_
    replace hm : Fr 42 a [(0, .pointer (some ⟨g0, 0, none⟩)), (1, .int .i64 x1), (4, .slice none 0 0), (5, v_19), (6, .int .i64 x_26), (7, .pointer (some ⟨g_46, 0, none⟩)), (11, v_24), (12, .int .i64 (x0_l.length : Int)), (13, .int .i64 x_26)] := hm.keep [0, 1, 4, 5, 6, 7, 11, 12, 13]
    refine x_then_n ?_
    refine c_seq fun KJ_48 hKJ_48 => ?_
    have hJ_j_52 : ∀ (x_50 : Bool), wait_Calls_Next.J2 K x_21 x_26 t_34 x_16 (wait_Calls_Next.L1 K x0_l x1 (fun v => wait_Calls_Next.J1 K x0_done v.1 v.2) k_28) x_50 = some r → ∀ (a : Act) (w_51 : World), (∃ (N_49 : Mem), Fr 42 a [(0, .pointer (some ⟨g0, 0, none⟩)), (1, .int .i64 x1), (4, .slice none 0 0), (5, v_19), (6, .int .i64 x_26), (7, .pointer (some ⟨g_46, 0, none⟩)), (11, v_24), (12, .int .i64 (x0_l.length : Int)), (13, .int .i64 x_26), (26, .bool x_50)] ∧ Sep w0 w_51 [N_49, Mem.one g0 (.cells ([v_24, p0_1] : List Value).toArray 74 (0, 0)), M_22, M0_1, M_17, Mem.one g_46 (.cells ([.int .i64 t_34.e.Sess, .int .i64 t_34.e.Seq, .int .i64 t_34.e.Cmd.Kind, .int .i64 t_34.e.Cmd.Who, v_39, v_41, v_43, .bool t_34.sent] : List Value).toArray 78 (0, 0))] Z ∧ N_15.le N_49) → KJ_48 a w_51 := by
      clear H hm hS a
      rintro x_50 H a w_51 ⟨N_49, hm, hS, le_49⟩
      unfold wait_Calls_Next.J2 at H
      refine hKJ_48 _ _ ?_
      by_cases hc_53 : x_50 = true
      · rw [if_pos hc_53] at H
        refine c_cond_t hm rfl hc_53 ?_
        refine wp_seq ?_
        refine wp_region_lit ?_
        refine s_move hm rfl rfl ?_
        clear hm a; intro a hm
        refine s_nilCheck hm rfl rfl ?_
        clear hm a; intro a hm
        refine s_fieldAddr hm rfl Try.underlying74 rfl ti72 rfl rfl ?_
        clear hm a; intro a hm
        refine s_load hm rfl rfl (hS.load_one (p := 1) rfl Try.underlying72 rfl rfl) ?_
        clear hm a; intro a hm
        refine s_move hm rfl rfl ?_
        clear hm a; intro a hm
        obtain ⟨t_54, et_54, H⟩ := Option.bind_eq_some_iff.1 H
        refine s_indexOwn hm rfl Try.underlying72 ti78 rfl rfl rfl ho_25 et_54 ?_
        intro g_55 cur_56 hM_57
        clear hm a; intro a hm
        refine s_fieldAddr hm rfl Try.underlying78 rfl ti4 rfl rfl ?_
        clear hm a; intro a hm
        obtain ⟨w_58, M_59, hs', hS', ho_60⟩ := Own.stored (P := Try.prog) (p := 2) (t := 4) (o := 7) (nv := .bool true) (vs := [.bool true]) (u' := (⟨t_54.e, true⟩ : wait_call)) hS rfl (ho_25.mono (Mem.un_left le_49)) hM_57 et_54 ti4 rfl rfl rfl (by intro u hu; simp only [List.mem_cons, List.not_mem_nil, or_false] at hu; rcases hu with rfl <;> rfl) (by intro cs hk; obtain ⟨v_61, v_62, v_63, rfl, hr_64, hr_65, hr_66⟩ := k_wait_call.open' hk; exact k_wait_call.mk' hr_64 hr_65 hr_66)
        refine s_store hm rfl rfl hs' ?_
        replace hS : Sep w0 w_58 [N_49, Mem.one g0 (.cells ([v_24, p0_1] : List Value).toArray 74 (0, 0)), M_59, M0_1, M_17, Mem.one g_46 (.cells ([.int .i64 t_34.e.Sess, .int .i64 t_34.e.Seq, .int .i64 t_34.e.Cmd.Kind, .int .i64 t_34.e.Cmd.Who, v_39, v_41, v_43, .bool t_34.sent] : List Value).toArray 78 (0, 0))] Z := hS'
        clear hs' hS'
        refine wpList_nil ?_
        replace hm : Fr 42 a [(0, .pointer (some ⟨g0, 0, none⟩)), (1, .int .i64 x1), (4, .slice none 0 0), (5, v_19), (7, .pointer (some ⟨g_46, 0, none⟩)), (11, v_24), (12, .int .i64 (x0_l.length : Int)), (13, .int .i64 x_26)] := hm.keep [0, 1, 4, 5, 7, 11, 12, 13]
        refine x_then_n ?_
        refine wp_region_lit ?_
        refine s_move hm rfl rfl ?_
        clear hm a; intro a hm
        refine s_fieldAddr hm rfl Try.underlying78 rfl ti45 rfl rfl ?_
        clear hm a; intro a hm
        refine s_load hm rfl rfl (hS.load_agg (p := 5) (us := [.int .i64 t_34.e.Sess, .int .i64 t_34.e.Seq, .int .i64 t_34.e.Cmd.Kind, .int .i64 t_34.e.Cmd.Who, v_39, v_41, v_43]) rfl Try.underlying45 rfl ti45 rfl rfl) ?_
        clear hm a; intro a hm
        obtain ⟨t_67, et_67, H⟩ := Option.bind_eq_some_iff.1 H
        refine s_call hm rfl Try.call47 rfl (mach_StillEntry.calls t_34.e _ _ _ t_67 w0 _ _ _ (Mem.le.refl _) (hS.enter [] (by decide)) (hr_40.mono (Mem.un_le (hA.trans (hS.le_zed [])) (le_49.trans (hS.new_zed [])))) (hr_42.mono (Mem.un_le (hA.trans (hS.le_zed [])) (le_49.trans (hS.new_zed [])))) (hr_44.mono (Mem.un_le (hA.trans (hS.le_zed [])) (le_49.trans (hS.new_zed [])))) et_67) ?_
        rintro _ w_68 ⟨v_71, v_75, v_79, N_69, M_73, M_77, M_81, rfl, hS', hr_72, hr_76, hr_80⟩
        clear hm a; intro a hm
        obtain ⟨N_70, hS'', le_70, ln_70⟩ := hS.call [] (by decide) rfl (l' := []) (ow := [M_73, M_77, M_81]) rfl hS'
        replace hS : Sep w0 w_68 [N_70, Mem.one g0 (.cells ([v_24, p0_1] : List Value).toArray 74 (0, 0)), M_59, M0_1, M_17, Mem.one g_46 (.cells ([.int .i64 t_34.e.Sess, .int .i64 t_34.e.Seq, .int .i64 t_34.e.Cmd.Kind, .int .i64 t_34.e.Cmd.Who, v_39, v_41, v_43, .bool t_34.sent] : List Value).toArray 78 (0, 0)), M_73, M_77, M_81] Z := hS''
        clear hS' hS''
        obtain ⟨N_83, hS', le_83, lo_83⟩ := hS.freeze 5 rfl
        replace hS : Sep w0 w_68 [N_83, Mem.one g0 (.cells ([v_24, p0_1] : List Value).toArray 74 (0, 0)), M_59, M0_1, M_17, Mem.one g_46 (.cells ([.int .i64 t_34.e.Sess, .int .i64 t_34.e.Seq, .int .i64 t_34.e.Cmd.Kind, .int .i64 t_34.e.Cmd.Who, v_39, v_41, v_43, .bool t_34.sent] : List Value).toArray 78 (0, 0)), Mem.no, M_77, M_81] Z := hS'
        clear hS'
        obtain ⟨N_84, hS', le_84, lo_84⟩ := hS.freeze 6 rfl
        replace hS : Sep w0 w_68 [N_84, Mem.one g0 (.cells ([v_24, p0_1] : List Value).toArray 74 (0, 0)), M_59, M0_1, M_17, Mem.one g_46 (.cells ([.int .i64 t_34.e.Sess, .int .i64 t_34.e.Seq, .int .i64 t_34.e.Cmd.Kind, .int .i64 t_34.e.Cmd.Who, v_39, v_41, v_43, .bool t_34.sent] : List Value).toArray 78 (0, 0)), Mem.no, Mem.no, M_81] Z := hS'
        clear hS'
        obtain ⟨N_85, hS', le_85, lo_85⟩ := hS.freeze 7 rfl
        replace hS : Sep w0 w_68 [N_85, Mem.one g0 (.cells ([v_24, p0_1] : List Value).toArray 74 (0, 0)), M_59, M0_1, M_17, Mem.one g_46 (.cells ([.int .i64 t_34.e.Sess, .int .i64 t_34.e.Seq, .int .i64 t_34.e.Cmd.Kind, .int .i64 t_34.e.Cmd.Who, v_39, v_41, v_43, .bool t_34.sent] : List Value).toArray 78 (0, 0)), Mem.no, Mem.no, Mem.no] Z := hS'
        clear hS'
        have hq_90 : Reps k_api_Entry N_85 ([t_67] : List api_Entry) _ := ((Reps.one (d := k_api_Entry) (x := t_67) (k_api_Entry.mk' ((hr_72.rd lo_83 (Mem.no_le _)).mono (le_84.trans le_85)) ((hr_76.rd lo_84 (Mem.no_le _)).mono le_85) (hr_80.rd lo_85 (Mem.no_le _)))).append (Reps.nil k_api_Entry _))
        refine s_buildSlice hm rfl Try.underlying48 ti45 rfl rfl rfl (.cons rfl .nil) rfl rfl rfl hS hq_90 rfl ?_
        intro w_86 v_87 M_88 hS' ho_89
        clear hm a; intro a hm
        replace hS : Sep w0 w_86 [N_85, Mem.one g0 (.cells ([v_24, p0_1] : List Value).toArray 74 (0, 0)), M_59, M0_1, M_17, Mem.one g_46 (.cells ([.int .i64 t_34.e.Sess, .int .i64 t_34.e.Seq, .int .i64 t_34.e.Cmd.Kind, .int .i64 t_34.e.Cmd.Who, v_39, v_41, v_43, .bool t_34.sent] : List Value).toArray 78 (0, 0)), Mem.no, Mem.no, Mem.no, M_88] Z := hS'
        clear hS' hq_90
        obtain ⟨t_92, et_92, H⟩ := Option.bind_eq_some_iff.1 H
        refine s_append (J := N_85) (I' := N_85) (p := 4) 1353245080339 hm rfl rfl rfl Try.underlying48 ti45 rfl rfl rfl rfl hS rfl ho_20 (ho_89.src (hS.own 9)) (le_49.trans (le_70.trans (le_83.trans (le_84.trans le_85)))) (Mem.le.refl _) et_92 ?_
        intro w_93 v_94 M_95 hS' ho_96
        clear hm a; intro a hm
        replace hS : Sep w0 w_93 [N_85, Mem.one g0 (.cells ([v_24, p0_1] : List Value).toArray 74 (0, 0)), M_59, M0_1, M_95, Mem.one g_46 (.cells ([.int .i64 t_34.e.Sess, .int .i64 t_34.e.Seq, .int .i64 t_34.e.Cmd.Kind, .int .i64 t_34.e.Cmd.Who, v_39, v_41, v_43, .bool t_34.sent] : List Value).toArray 78 (0, 0)), Mem.no, Mem.no, Mem.no, M_88] Z := hS'
        clear hS'
        refine s_assign hm rfl rfl ?_
        clear hm a; intro a hm
        refine wpList_nil ?_
        replace hm : Fr 42 a [(0, .pointer (some ⟨g0, 0, none⟩)), (1, .int .i64 x1), (4, .slice none 0 0), (5, v_94), (11, v_24), (12, .int .i64 (x0_l.length : Int)), (13, .int .i64 x_26)] := hm.keep [0, 1, 4, 5, 11, 12, 13]
        refine x_block_n ?_
        refine x_then_n (hKJ_33 _ _ ?_)
        refine wp_region_lit ?_
        refine s_arith (r := w64 (x_26 + 1)) hm rfl rfl rfl (.inl ⟨rfl, rfl⟩) ?_
        clear hm a; intro a hm
        refine s_move hm rfl rfl ?_
        clear hm a; intro a hm
        refine wpList_nil ?_
        replace hm : Fr 42 a [(0, .pointer (some ⟨g0, 0, none⟩)), (1, .int .i64 x1), (4, .slice none 0 0), (5, v_94), (11, v_24), (12, .int .i64 (x0_l.length : Int)), (13, .int .i64 (w64 (x_26 + 1)))] := hm.keep [0, 1, 4, 5, 11, 12, 13]
        refine x_then_n (hKL_28 _ _ ?_)
        replace hS : Sep w0 w_93 [N_85, Mem.one g0 (.cells ([v_24, p0_1] : List Value).toArray 74 (0, 0)), M_59, M0_1, M_95, Mem.one g_46 (.cells ([.int .i64 t_34.e.Sess, .int .i64 t_34.e.Seq, .int .i64 t_34.e.Cmd.Kind, .int .i64 t_34.e.Cmd.Who, v_39, v_41, v_43, .bool t_34.sent] : List Value).toArray 78 (0, 0)), Mem.no, Mem.no, Mem.no, M_88] Z := hS
        replace hm : Fr 42 a [(0, .pointer (some ⟨g0, 0, none⟩)), (1, .int .i64 x1), (4, .slice none 0 0), (5, v_94), (11, v_24), (12, .int .i64 (x0_l.length : Int)), (13, .int .i64 (w64 (x_26 + 1)))] := hm.keep [0, 1, 4, 5, 11, 12, 13]
        exact ⟨t_92, (x_21.set (x_26).toNat (⟨t_54.e, true⟩ : wait_call)), w64 (x_26 + 1), v_94, v_24, N_85, M_95, M_59, H, hm, (Sep.sel hS [0, 1, 2, 3, 4] (by decide)), (le_15.trans (le_49.trans (le_70.trans (le_83.trans (le_84.trans le_85))))), (ho_96.mono (Mem.le.refl _)), (ho_60.mono (Mem.un_left (le_70.trans (le_83.trans (le_84.trans le_85)))))⟩
      · rw [if_neg hc_53] at H
        refine c_cond_f hm rfl (Bool.eq_false_iff.2 hc_53) ?_
        refine wp_skip ?_
        refine x_block_n ?_
        refine x_then_n (hKJ_33 _ _ ?_)
        refine wp_region_lit ?_
        refine s_arith (r := w64 (x_26 + 1)) hm rfl rfl rfl (.inl ⟨rfl, rfl⟩) ?_
        clear hm a; intro a hm
        refine s_move hm rfl rfl ?_
        clear hm a; intro a hm
        refine wpList_nil ?_
        replace hm : Fr 42 a [(0, .pointer (some ⟨g0, 0, none⟩)), (1, .int .i64 x1), (4, .slice none 0 0), (5, v_19), (11, v_24), (12, .int .i64 (x0_l.length : Int)), (13, .int .i64 (w64 (x_26 + 1)))] := hm.keep [0, 1, 4, 5, 11, 12, 13]
        refine x_then_n (hKL_28 _ _ ?_)
        replace hS : Sep w0 w_51 [N_49, Mem.one g0 (.cells ([v_24, p0_1] : List Value).toArray 74 (0, 0)), M_22, M0_1, M_17, Mem.one g_46 (.cells ([.int .i64 t_34.e.Sess, .int .i64 t_34.e.Seq, .int .i64 t_34.e.Cmd.Kind, .int .i64 t_34.e.Cmd.Who, v_39, v_41, v_43, .bool t_34.sent] : List Value).toArray 78 (0, 0))] Z := hS
        replace hm : Fr 42 a [(0, .pointer (some ⟨g0, 0, none⟩)), (1, .int .i64 x1), (4, .slice none 0 0), (5, v_19), (11, v_24), (12, .int .i64 (x0_l.length : Int)), (13, .int .i64 (w64 (x_26 + 1)))] := hm.keep [0, 1, 4, 5, 11, 12, 13]
        exact ⟨x_16, x_21, w64 (x_26 + 1), v_19, v_24, N_49, M_17, M_22, H, hm, (Sep.sel hS [0, 1, 2, 3, 4] (by decide)), (le_15.trans le_49), (ho_20.mono le_49), (ho_25.mono (Mem.un_left le_49))⟩
    clear hKJ_48
    refine wp_region_lit ?_
    refine s_fieldAddr hm rfl Try.underlying78 rfl ti4 rfl rfl ?_
    clear hm a; intro a hm
    refine s_load hm rfl rfl (hS.load_one (p := 5) rfl Try.underlying4 rfl rfl) ?_
    clear hm a; intro a hm
    refine s_not hm rfl rfl ?_
    clear hm a; intro a hm
    refine s_move hm rfl rfl ?_
    clear hm a; intro a hm
    by_cases hc_98 : t_34.sent = true
    · rw [if_pos hc_98] at H
      refine s_off hm rfl rfl rfl (nf hc_98) ?_
      clear hm a; intro a hm
      refine s_off hm rfl rfl rfl (nf hc_98) ?_
      clear hm a; intro a hm
      refine s_off hm rfl rfl rfl (nf hc_98) ?_
      clear hm a; intro a hm
      refine s_off hm rfl rfl rfl (nf hc_98) ?_
      clear hm a; intro a hm
      refine s_pick_f hm rfl rfl (nf hc_98) rfl ?_
      clear hm a; intro a hm
      refine wpList_nil ?_
      replace hm : Fr 42 a [(0, .pointer (some ⟨g0, 0, none⟩)), (1, .int .i64 x1), (4, .slice none 0 0), (5, v_19), (6, .int .i64 x_26), (7, .pointer (some ⟨g_46, 0, none⟩)), (11, v_24), (12, .int .i64 (x0_l.length : Int)), (13, .int .i64 x_26), (26, .bool false)] := hm.keep [0, 1, 4, 5, 6, 7, 11, 12, 13, 26]
      replace hS : Sep w0 w_47 [N_15, Mem.one g0 (.cells ([v_24, p0_1] : List Value).toArray 74 (0, 0)), M_22, M0_1, M_17, Mem.one g_46 (.cells ([.int .i64 t_34.e.Sess, .int .i64 t_34.e.Seq, .int .i64 t_34.e.Cmd.Kind, .int .i64 t_34.e.Cmd.Who, v_39, v_41, v_43, .bool t_34.sent] : List Value).toArray 78 (0, 0))] Z := hS
      replace hm : Fr 42 a [(0, .pointer (some ⟨g0, 0, none⟩)), (1, .int .i64 x1), (4, .slice none 0 0), (5, v_19), (6, .int .i64 x_26), (7, .pointer (some ⟨g_46, 0, none⟩)), (11, v_24), (12, .int .i64 (x0_l.length : Int)), (13, .int .i64 x_26), (26, .bool false)] := hm.keep [0, 1, 4, 5, 6, 7, 11, 12, 13, 26]
      exact x_then_n (hJ_j_52 false H _ _ ⟨N_15, hm, (Sep.sel hS [0, 1, 2, 3, 4, 5] (by decide)), (Mem.le.refl _)⟩)
    · rw [if_neg hc_98] at H
      refine s_on hm rfl rfl (nt (Bool.eq_false_iff.2 hc_98)) ?_
      refine s_move hm rfl rfl ?_
      clear hm a; intro a hm
      refine s_on hm rfl rfl (nt (Bool.eq_false_iff.2 hc_98)) ?_
      refine s_lenO hm rfl Try.underlying48 rfl ho_20 ?_
      clear hm a; intro a hm
      refine s_on hm rfl rfl (nt (Bool.eq_false_iff.2 hc_98)) ?_
      refine s_move hm rfl rfl ?_
      clear hm a; intro a hm
      refine s_on hm rfl rfl (nt (Bool.eq_false_iff.2 hc_98)) ?_
      refine s_cmp (b := decide ((x_16.length : Int) < x1)) hm rfl rfl rfl (.inr (.inr (.inl ⟨rfl, rfl⟩))) ?_
      clear hm a; intro a hm
      refine s_pick_t hm rfl rfl (nt (Bool.eq_false_iff.2 hc_98)) rfl ?_
      clear hm a; intro a hm
      refine wpList_nil ?_
      replace hm : Fr 42 a [(0, .pointer (some ⟨g0, 0, none⟩)), (1, .int .i64 x1), (4, .slice none 0 0), (5, v_19), (6, .int .i64 x_26), (7, .pointer (some ⟨g_46, 0, none⟩)), (11, v_24), (12, .int .i64 (x0_l.length : Int)), (13, .int .i64 x_26), (26, .bool (decide ((x_16.length : Int) < x1)))] := hm.keep [0, 1, 4, 5, 6, 7, 11, 12, 13, 26]
      replace hS : Sep w0 w_47 [N_15, Mem.one g0 (.cells ([v_24, p0_1] : List Value).toArray 74 (0, 0)), M_22, M0_1, M_17, Mem.one g_46 (.cells ([.int .i64 t_34.e.Sess, .int .i64 t_34.e.Seq, .int .i64 t_34.e.Cmd.Kind, .int .i64 t_34.e.Cmd.Who, v_39, v_41, v_43, .bool t_34.sent] : List Value).toArray 78 (0, 0))] Z := hS
      replace hm : Fr 42 a [(0, .pointer (some ⟨g0, 0, none⟩)), (1, .int .i64 x1), (4, .slice none 0 0), (5, v_19), (6, .int .i64 x_26), (7, .pointer (some ⟨g_46, 0, none⟩)), (11, v_24), (12, .int .i64 (x0_l.length : Int)), (13, .int .i64 x_26), (26, .bool (decide ((x_16.length : Int) < x1)))] := hm.keep [0, 1, 4, 5, 6, 7, 11, 12, 13, 26]
      exact x_then_n (hJ_j_52 (decide ((x_16.length : Int) < x1)) H _ _ ⟨N_15, hm, (Sep.sel hS [0, 1, 2, 3, 4, 5] (by decide)), (Mem.le.refl _)⟩)
  · rw [if_neg hc_32] at H
    refine c_cond_f hm rfl (decide_eq_false hc_32) ?_
    refine wp_exit (x_then_x (x_then_x (x_block_t ?_)))
    replace hS : Sep w0 w_28 [N_15, Mem.one g0 (.cells ([v_24, p0_1] : List Value).toArray 74 (0, 0)), M_22, M0_1, M_17] Z := hS
    replace hm : Fr 42 a [(4, .slice none 0 0), (5, v_19)] := hm.keep [4, 5]
    exact x_then_n (hJ_j_14 x_16 x_21 H _ _ ⟨v_19, v_24, N_15, M_17, M_22, hm, (Sep.sel hS [0, 1, 2, 3, 4] (by decide)), le_15, (ho_20.mono (Mem.le.refl _)), (ho_25.mono (Mem.un_left (Mem.le.refl _)))⟩)

set_option maxHeartbeats 4000000 in
set_option maxRecDepth 20000 in
theorem slices_Delete_shocket_wait_call_hocket_wait_call.calls (x0 : List wait_call) (p0_0 : Value) (M0_0 : Mem) (x1 : Int) (x2 : Int) (r : (List wait_call)) (w0 w : World) (Z A : Mem) (hA : A.le Z) (hS : Sep w0 w [M0_0] Z) (hp0_0 : Own k_wait_call 78 M0_0 A p0_0 x0)
    (H : slices_Delete_shocket_wait_call_hocket_wait_call.f x0 x1 x2 = some r) :
    Calls Try.prog 48 [p0_0, .int .i64 x1, .int .i64 x2].toArray w (Ret fun v w' => ∃ (u0 : Value) (N : Mem) (M0 : Mem), v = u0 ∧ Sep w0 w' [N, Mem.no, M0] Z ∧ Own k_wait_call 78 M0 (A.un N) u0 r) := by
  unfold slices_Delete_shocket_wait_call_hocket_wait_call.f at H
  refine f_enter _ Try.func48 rfl Try.ntmps48 rfl fun a hm => ?_
  replace hm : Fr 33 a [(0, p0_0), (1, .int .i64 x1), (2, .int .i64 x2)] := hm
  replace hS := hS.start
  replace hS : Sep w0 w [Mem.no, M0_0] Z := hS
  refine wp_seq ?_
  refine wp_region_lit ?_
  refine s_assign hm rfl rfl ?_
  clear hm a; intro a hm
  refine wpList_nil ?_
  replace hm : Fr 33 a [(0, p0_0), (1, .int .i64 x1), (2, .int .i64 x2), (6, .slice none 0 0)] := hm.keep [0, 1, 2, 6]
  refine x_then_n ?_
  refine wp_seq ?_
  refine wp_region_lit ?_
  refine s_move hm rfl rfl ?_
  clear hm a; intro a hm
  refine s_move hm rfl rfl ?_
  clear hm a; intro a hm
  refine s_move hm rfl rfl ?_
  clear hm a; intro a hm
  refine s_move hm rfl rfl ?_
  clear hm a; intro a hm
  refine s_lenO hm rfl Try.underlying72 rfl hp0_0 ?_
  clear hm a; intro a hm
  obtain ⟨u_1, eu_1, H⟩ := Option.bind_eq_some_iff.1 H
  refine s_slice3 hm rfl Try.underlying72 ti78 rfl rfl rfl rfl hp0_0 (must_some eu_1) ?_
  intro v_2
  clear hm a; intro a hm
  refine wpList_nil ?_
  replace hm : Fr 33 a [(0, p0_0), (1, .int .i64 x1), (2, .int .i64 x2), (6, .slice none 0 0)] := hm.keep [0, 1, 2, 6]
  refine x_then_n ?_
  refine c_seq fun KJ_3 hKJ_3 => ?_
  refine wp_seq ?_
  refine wp_region_lit ?_
  refine s_move hm rfl rfl ?_
  clear hm a; intro a hm
  refine s_move hm rfl rfl ?_
  clear hm a; intro a hm
  refine s_cmp (b := (x1 == x2)) hm rfl rfl rfl (.inl ⟨rfl, rfl⟩) ?_
  clear hm a; intro a hm
  refine wpList_nil ?_
  replace hm : Fr 33 a [(0, p0_0), (1, .int .i64 x1), (2, .int .i64 x2), (6, .slice none 0 0), (16, .bool (x1 == x2))] := hm.keep [0, 1, 2, 6, 16]
  refine x_then_n ?_
  by_cases hc_4 : x1 = x2
  · rw [if_pos hc_4] at H
    refine c_cond_t hm rfl (beq_iff_eq.2 hc_4) ?_
    refine wp_seq ?_
    refine wp_region_lit ?_
    refine s_move hm rfl rfl ?_
    clear hm a; intro a hm
    refine s_assign hm rfl rfl ?_
    clear hm a; intro a hm
    refine wpList_nil ?_
    replace hm : Fr 33 a [(0, p0_0), (1, .int .i64 x1), (2, .int .i64 x2), (6, p0_0)] := hm.keep [0, 1, 2, 6]
    refine x_then_n ?_
    refine wp_ret (x_then_r ?_)
    obtain rfl := Option.some.inj H
    exact f_ret hm (rs := [.tmp 6]) rfl (.tmp rfl .nil) ⟨_, rfl, p0_0, Mem.no, M0_0, rfl, (Sep.sel hS [0, 1000, 1] (by decide)), (hp0_0.mono (Mem.le_un _ _))⟩
  · rw [if_neg hc_4] at H
    refine c_cond_f hm rfl (beq_eq_false_iff_ne.2 hc_4) ?_
    refine wp_skip ?_
    refine x_then_n (hKJ_3 _ _ ?_)
    refine wp_seq ?_
    refine wp_region_lit ?_
    refine s_move hm rfl rfl ?_
    clear hm a; intro a hm
    refine s_lenO hm rfl Try.underlying72 rfl hp0_0 ?_
    clear hm a; intro a hm
    refine s_assign hm rfl rfl ?_
    clear hm a; intro a hm
    refine wpList_nil ?_
    replace hm : Fr 33 a [(0, p0_0), (1, .int .i64 x1), (2, .int .i64 x2), (6, .slice none 0 0), (7, .int .i64 (x0.length : Int))] := hm.keep [0, 1, 2, 6, 7]
    refine x_then_n ?_
    refine c_seq fun KJ_5 hKJ_5 => ?_
    refine h_begin (S := fun w => Sep w0 w [Mem.no, Mem.no] Z) 8 (by kernel_rfl) rfl [false, false, false, false, false, false, false, false].toArray rfl hS fun w_6 hS => ?_
    replace hS : Sep w0 w_6 [Mem.no, M0_0] Z := hS
    refine h_take 0 [true, false, false, false, false, false, false, false].toArray rfl (by kernel_rfl) (by kernel_rfl) (by kernel_rfl) (fun _ _ _ _ h => h) rfl rfl rfl rfl hm (hS.sub (.cons (Mem.le.refl _) (.cons (Mem.no_le _) (Sub.nil _)))) (v := p0_0) (fun w hS => r_move hm rfl) ?_
    clear hm a; intro a hm
    refine h_take 1 [true, true, false, false, false, false, false, false].toArray rfl (by kernel_rfl) (by kernel_rfl) (by kernel_rfl) (fun _ _ _ _ h => h) rfl rfl rfl rfl hm (hS.sub (.cons (Mem.le.refl _) (.cons (Mem.no_le _) (Sub.nil _)))) (v := .int .i64 x1) (fun w hS => r_move hm rfl) ?_
    clear hm a; intro a hm
    refine h_takeE 2 [true, true, true, false, false, false, false, false].toArray rfl (by kernel_rfl) (by kernel_rfl) (by kernel_rfl) (fun _ _ _ _ h => h) rfl rfl rfl rfl hm (hS.sub (.cons (Mem.le.refl _) (.cons (Mem.no_le _) (Sub.nil _)))) (f := fun v => v) (r_piece hm Try.underlying72 ti78 rfl rfl hp0_0 (hp0_0.room) rfl rfl (by have := (must_some eu_1); (try simp only [List.length_append, List.length_take, List.length_drop]); omega)) ?_
    intro v_7 hq_8
    clear hm a; intro a hm
    refine h_take 3 [true, true, true, true, false, false, false, false].toArray rfl (by kernel_rfl) (by kernel_rfl) (by kernel_rfl) (fun _ _ _ _ h => h) rfl rfl rfl rfl hm (hS.sub (.cons (Mem.le.refl _) (.cons (Mem.no_le _) (Sub.nil _)))) (v := p0_0) (fun w hS => r_move hm rfl) ?_
    clear hm a; intro a hm
    refine h_take 4 [true, true, true, true, true, false, false, false].toArray rfl (by kernel_rfl) (by kernel_rfl) (by kernel_rfl) (fun _ _ _ _ h => h) rfl rfl rfl rfl hm (hS.sub (.cons (Mem.le.refl _) (.cons (Mem.no_le _) (Sub.nil _)))) (v := .int .i64 x2) (fun w hS => r_move hm rfl) ?_
    clear hm a; intro a hm
    refine h_takeE 5 [true, true, true, true, true, true, false, false].toArray rfl (by kernel_rfl) (by kernel_rfl) (by kernel_rfl) (fun _ _ _ _ h => h) rfl rfl rfl rfl hm (hS.sub (.cons (Mem.le.refl _) (.cons (Mem.no_le _) (Sub.nil _)))) (f := fun v => v) (r_piece hm Try.underlying72 ti78 rfl rfl hp0_0 (hp0_0.room) rfl rfl (by have := (must_some eu_1); (try simp only [List.length_append, List.length_take, List.length_drop]); omega)) ?_
    intro v_9 hq_10
    clear hm a; intro a hm
    refine h_event 6 [true, true, true, true, true, true, true, false].toArray rfl (by kernel_rfl) rfl ?_
    refine s_appendP (p := 1) hm rfl Try.underlying72 ti78 rfl rfl rfl hp0_0 (by simpa using hq_8) hq_10 (by have := (must_some eu_1); omega) (by have := (must_some eu_1); omega) hS rfl ?_
    intro w_11 v_12 M_13 hS' ho_14 hr_15
    clear hm a; intro a hm
    replace hS : Sep w0 w_11 [Mem.no, M_13] Z := hS'
    clear hS'
    refine wpList_nil ?_
    refine x_then_n ⟨(hS.sub (.cons (Mem.le.refl _) (.cons (Mem.no_le _) (Sub.nil _)))), ?_⟩
    refine h_take 7 [true, true, true, true, true, true, true, true].toArray rfl (by kernel_rfl) (by kernel_rfl) (by kernel_rfl) (fun _ _ _ _ h => h) rfl rfl rfl rfl hm (hS.sub (.cons (Mem.le.refl _) (.cons (Mem.no_le _) (Sub.nil _)))) (v := v_12) (fun w hS => r_assign hm rfl) ?_
    clear hm a; intro a hm
    refine h_done (by kernel_rfl) ?_
    replace hm : Fr 33 a [(0, v_12), (6, .slice none 0 0), (7, .int .i64 (x0.length : Int))] := hm.keep [0, 6, 7]
    refine x_then_n (hKJ_5 _ _ ?_)
    refine wp_seq ?_
    refine wp_region_lit ?_
    refine s_move hm rfl rfl ?_
    clear hm a; intro a hm
    refine s_move hm rfl rfl ?_
    clear hm a; intro a hm
    refine s_lenO hm rfl Try.underlying72 rfl ho_14 ?_
    clear hm a; intro a hm
    refine s_move hm rfl rfl ?_
    clear hm a; intro a hm
    refine s_piece hm rfl Try.underlying72 ti78 rfl rfl ho_14 (hr_15) rfl rfl (by have := (must_some eu_1); (try simp only [List.length_append, List.length_take, List.length_drop]); omega) ?_
    intro v_17 hq_18
    clear hm a; intro a hm
    refine s_clearP (p := 1) hm Try.underlying72 ti78 rfl (by intro u hu; simp only [List.mem_cons, List.not_mem_nil, or_false] at hu; rcases hu with rfl | rfl | rfl | rfl | rfl | rfl | rfl | rfl <;> rfl) rfl ho_14 hq_18 (Nat.le_of_eq (Int.toNat_natCast _).symm) hS rfl ?_
    intro w_19 M_20 hS' ho_21
    replace hS : Sep w0 w_19 [Mem.no, M_20] Z := hS'
    clear hS'
    refine wpList_nil ?_
    replace hm : Fr 33 a [(0, v_12), (6, .slice none 0 0)] := hm.keep [0, 6]
    refine x_then_n ?_
    refine wp_seq ?_
    refine wp_region_lit ?_
    refine s_move hm rfl rfl ?_
    clear hm a; intro a hm
    refine s_assign hm rfl rfl ?_
    clear hm a; intro a hm
    refine wpList_nil ?_
    replace hm : Fr 33 a [(6, v_12)] := hm.keep [6]
    refine x_then_n ?_
    refine wp_ret ?_
    obtain rfl := Option.some.inj H
    exact f_ret hm (rs := [.tmp 6]) rfl (.tmp rfl .nil) ⟨_, rfl, v_12, Mem.no, M_20, rfl, (Sep.sel hS [0, 1000, 1] (by decide)), (ho_21.mono (Mem.le_un _ _))⟩

set_option maxHeartbeats 4000000 in
theorem slices_Clip_shocket_api_Reply_hocket_api_Reply.calls (v : Value) (w : World) (hf : ∃ A l c, v = .slice A l c ∧ l ≤ c) : Calls Try.prog 50 [v].toArray w (Ret fun u w' => w = w' ∧ Clipped v u) := by
  obtain ⟨A, l, c, rfl, hlc⟩ := hf
  refine f_enter _ Try.func50 rfl Try.ntmps50 rfl fun a hm => ?_
  replace hm : Fr 9 a [(0, .slice A l c)] := hm
  refine wp_seq ?_
  refine wp_region_lit ?_
  refine s_assign hm rfl rfl ?_
  clear hm a; intro a hm
  refine wpList_nil ?_
  refine x_then_n ?_
  refine wp_seq ?_
  refine wp_region_lit ?_
  refine s_move hm rfl rfl ?_
  clear hm a; intro a hm
  refine s_move hm rfl rfl ?_
  clear hm a; intro a hm
  refine s_lenV hm rfl Try.underlying53 rfl ?_
  clear hm a; intro a hm
  refine s_move hm rfl rfl ?_
  clear hm a; intro a hm
  refine s_lenV hm rfl Try.underlying53 rfl ?_
  clear hm a; intro a hm
  refine s_clip hm rfl Try.underlying53 ti56 rfl rfl rfl hlc ?_
  clear hm a; intro a hm
  refine s_assign hm rfl rfl ?_
  clear hm a; intro a hm
  refine wpList_nil ?_
  refine x_then_n ?_
  refine wp_ret ?_
  exact f_ret hm (rs := [.tmp 2]) rfl (.tmp rfl .nil) ⟨_, rfl, rfl, A, l, c, rfl, rfl⟩

set_option maxHeartbeats 4000000 in
set_option maxRecDepth 20000 in
theorem wait_Calls_Take.calls (g0 : Nat) (x0_l : List wait_call) (p0_0 : Value) (M0_0 : Mem) (x0_done : List api_Reply) (p0_1 : Value) (M0_1 : Mem) (r : (List api_Reply) × (List wait_call) × (List api_Reply)) (w0 w : World) (Z A : Mem) (hA : A.le Z) (hS : Sep w0 w [Mem.one g0 (.cells ([p0_0, p0_1] : List Value).toArray 74 (0, 0)), M0_0, M0_1] Z) (hp0_0 : Own k_wait_call 78 M0_0 A p0_0 x0_l) (hp0_1 : Own k_api_Reply 56 M0_1 A p0_1 x0_done)
    (H : wait_Calls_Take.f x0_l x0_done = some r) :
    Calls Try.prog 26 [.pointer (some ⟨g0, 0, none⟩)].toArray w (Ret fun v w' => ∃ (u0 : Value) (u1 : Value) (u2 : Value) (N : Mem) (M0 : Mem) (M100 : Mem) (M101 : Mem), v = u0 ∧ Sep w0 w' [N, Mem.one g0 (.cells ([u1, u2] : List Value).toArray 74 (0, 0)), M100, M101, M0] Z ∧ Own k_api_Reply 56 M0 (A.un N) u0 r.1 ∧ Own k_wait_call 78 M100 (A.un N) u1 r.2.1 ∧ Own k_api_Reply 56 M101 (A.un N) u2 r.2.2) := by
  unfold wait_Calls_Take.f at H
  refine f_enter _ Try.func26 rfl Try.ntmps26 rfl fun a hm => ?_
  replace hm : Fr 13 a [(0, .pointer (some ⟨g0, 0, none⟩))] := hm
  replace hS := hS.start
  replace hS : Sep w0 w [Mem.no, Mem.one g0 (.cells ([p0_0, p0_1] : List Value).toArray 74 (0, 0)), M0_0, M0_1] Z := hS
  refine wp_seq ?_
  refine wp_region_lit ?_
  refine s_assign hm rfl rfl ?_
  clear hm a; intro a hm
  refine wpList_nil ?_
  replace hm : Fr 13 a [(0, .pointer (some ⟨g0, 0, none⟩)), (2, .slice none 0 0)] := hm.keep [0, 2]
  refine x_then_n ?_
  refine wp_seq ?_
  refine wp_region_lit ?_
  refine s_move hm rfl rfl ?_
  clear hm a; intro a hm
  refine s_nilCheck hm rfl rfl ?_
  clear hm a; intro a hm
  refine s_fieldAddr hm rfl Try.underlying74 rfl ti53 rfl rfl ?_
  clear hm a; intro a hm
  refine s_load hm rfl rfl (hS.load_one (p := 1) rfl Try.underlying53 rfl rfl) ?_
  clear hm a; intro a hm
  refine s_call hm rfl Try.call50 rfl (slices_Clip_shocket_api_Reply_hocket_api_Reply.calls _ _ hp0_1.slform) ?_
  rintro v_1 _ ⟨rfl, hk_2⟩
  clear hm a; intro a hm
  refine s_assign hm rfl rfl ?_
  clear hm a; intro a hm
  refine wpList_nil ?_
  replace hm : Fr 13 a [(0, .pointer (some ⟨g0, 0, none⟩)), (2, .slice none 0 0), (3, v_1)] := hm.keep [0, 2, 3]
  refine x_then_n ?_
  refine wp_seq ?_
  refine wp_region_lit ?_
  refine s_move hm rfl rfl ?_
  clear hm a; intro a hm
  refine s_nilCheck hm rfl rfl ?_
  clear hm a; intro a hm
  refine s_fieldAddr hm rfl Try.underlying74 rfl ti53 rfl rfl ?_
  clear hm a; intro a hm
  obtain ⟨w_4, hs', hS'⟩ := hS.store (P := Try.prog) (p := 1) (o := 1) (t := 53) (v := .slice none 0 0) (vs := [.slice none 0 0]) rfl ti53 rfl rfl rfl (by intro u hu; simp only [List.mem_cons, List.not_mem_nil, or_false] at hu; rcases hu with rfl <;> rfl)
  refine s_store hm rfl rfl hs' ?_
  replace hS : Sep w0 w_4 [Mem.no, Mem.one g0 (.cells ([p0_0, .slice none 0 0] : List Value).toArray 74 (0, 0)), M0_0, M0_1] Z := hS'
  clear hs' hS'
  refine wpList_nil ?_
  replace hm : Fr 13 a [(2, .slice none 0 0), (3, v_1)] := hm.keep [2, 3]
  refine x_then_n ?_
  refine wp_seq ?_
  refine wp_region_lit ?_
  refine s_move hm rfl rfl ?_
  clear hm a; intro a hm
  refine s_assign hm rfl rfl ?_
  clear hm a; intro a hm
  refine wpList_nil ?_
  replace hm : Fr 13 a [(2, v_1)] := hm.keep [2]
  refine x_then_n ?_
  refine wp_ret ?_
  have hS' := hS.room
  replace hS : Sep w0 w_4 [Mem.no, Mem.one g0 (.cells ([p0_0, .slice none 0 0] : List Value).toArray 74 (0, 0)), M0_0, M0_1, Mem.no] Z := hS'
  clear hS'
  replace hS : Sep w0 w_4 [Mem.no, Mem.one g0 (.cells ([p0_0, .slice none 0 0] : List Value).toArray 74 (0, 0)), M0_0, M0_1, Mem.no] Z := hS
  obtain rfl := Option.some.inj H
  exact f_ret hm (rs := [.tmp 2]) rfl (.tmp rfl .nil) ⟨_, rfl, v_1, p0_0, .slice none 0 0, Mem.no, M0_1, M0_0, Mem.no, rfl, (Sep.sel hS [0, 1, 2, 4, 3] (by decide)), ((hp0_1.clip hk_2).mono (Mem.le_un _ _)), (hp0_0.mono (Mem.le_un _ _)), ((Own.nil k_api_Reply 56 Mem.no).mono ((Mem.le.refl _).trans (hS.sndA hA)))⟩

set_option maxHeartbeats 4000000 in
set_option maxRecDepth 20000 in
theorem wait_Calls_Again.calls (K : Nat) (g0 : Nat) (x0_l : List wait_call) (p0_0 : Value) (M0_0 : Mem) (x0_done : List api_Reply) (p0_1 : Value) (M0_1 : Mem) (r : (List wait_call) × (List api_Reply)) (w0 w : World) (Z A : Mem) (hA : A.le Z) (hS : Sep w0 w [Mem.one g0 (.cells ([p0_0, p0_1] : List Value).toArray 74 (0, 0)), M0_0, M0_1] Z) (hp0_0 : Own k_wait_call 78 M0_0 A p0_0 x0_l) (hp0_1 : Own k_api_Reply 56 M0_1 A p0_1 x0_done)
    (H : wait_Calls_Again.f K x0_l x0_done = some r) :
    Calls Try.prog 30 [.pointer (some ⟨g0, 0, none⟩)].toArray w (Ret fun v w' => ∃ (u0 : Value) (u1 : Value) (N : Mem) (M100 : Mem) (M101 : Mem), v = .tuple [].toArray ∧ Sep w0 w' [N, Mem.one g0 (.cells ([u0, u1] : List Value).toArray 74 (0, 0)), M100, M101] Z ∧ Own k_wait_call 78 M100 (A.un N) u0 r.1 ∧ Own k_api_Reply 56 M101 (A.un N) u1 r.2) := by
  unfold wait_Calls_Again.f at H
  refine f_enter _ Try.func30 rfl Try.ntmps30 rfl fun a hm => ?_
  replace hm : Fr 19 a [(0, .pointer (some ⟨g0, 0, none⟩))] := hm
  replace hS := hS.start
  replace hS : Sep w0 w [Mem.no, Mem.one g0 (.cells ([p0_0, p0_1] : List Value).toArray 74 (0, 0)), M0_0, M0_1] Z := hS
  refine wp_seq ?_
  refine wp_region_lit ?_
  refine s_move hm rfl rfl ?_
  clear hm a; intro a hm
  refine s_nilCheck hm rfl rfl ?_
  clear hm a; intro a hm
  refine s_fieldAddr hm rfl Try.underlying74 rfl ti72 rfl rfl ?_
  clear hm a; intro a hm
  refine s_load hm rfl rfl (hS.load_one (p := 1) rfl Try.underlying72 rfl rfl) ?_
  clear hm a; intro a hm
  refine s_lenO hm rfl Try.underlying72 rfl hp0_0 ?_
  clear hm a; intro a hm
  refine s_move hm rfl rfl ?_
  clear hm a; intro a hm
  refine wpList_nil ?_
  replace hm : Fr 19 a [(0, .pointer (some ⟨g0, 0, none⟩)), (7, .int .i64 (x0_l.length : Int)), (8, .int .i64 0)] := hm.keep [0, 7, 8]
  refine x_then_n ?_
  refine c_last fun KJ_1 hKJ_1 => ?_
  have hJ_j_9 : ∀ (x_3 : List wait_call), wait_Calls_Again.J1 K x0_done x_3 = some r → ∀ (a : Act) (w_8 : World), (∃ (v_6 : Value) (N_2 : Mem) (M_4 : Mem), Fr 19 a [] ∧ Sep w0 w_8 [N_2, Mem.one g0 (.cells ([v_6, p0_1] : List Value).toArray 74 (0, 0)), M_4, M0_1] Z ∧ Mem.no.le N_2 ∧ Own k_wait_call 78 M_4 (A.un N_2) v_6 x_3) → KJ_1 a w_8 := by
    clear H hm hS a
    rintro x_3 H a w_8 ⟨v_6, N_2, M_4, hm, hS, le_2, ho_7⟩
    unfold wait_Calls_Again.J1 at H
    refine hKJ_1 _ _ ?_
    refine f_end ?_
    obtain rfl := Option.some.inj H
    exact f_ret hm (rs := []) rfl .nil ⟨_, rfl, v_6, p0_1, N_2, M_4, M0_1, rfl, (Sep.sel hS [0, 1, 2, 3] (by decide)), (ho_7.mono (Mem.un_left (Mem.le.refl _))), (hp0_1.mono (Mem.le_un _ _))⟩
  clear hKJ_1
  replace hS : Sep w0 w [Mem.no, Mem.one g0 (.cells ([p0_0, p0_1] : List Value).toArray 74 (0, 0)), M0_0, M0_1] Z := hS
  replace hm : Fr 19 a [(0, .pointer (some ⟨g0, 0, none⟩)), (7, .int .i64 (x0_l.length : Int)), (8, .int .i64 0)] := hm.keep [0, 7, 8]
  refine c_block ?_
  refine c_loop (fun k_17 a w_17 => ∃ (x_11 : Int) (x_12 : List wait_call) (v_15 : Value) (N_10 : Mem) (M_13 : Mem), wait_Calls_Again.L1 K x0_l (fun v => wait_Calls_Again.J1 K x0_done v) k_17 (x_11, x_12) = some r ∧ Fr 19 a [(0, .pointer (some ⟨g0, 0, none⟩)), (7, .int .i64 (x0_l.length : Int)), (8, .int .i64 x_11)] ∧ Sep w0 w_17 [N_10, Mem.one g0 (.cells ([v_15, p0_1] : List Value).toArray 74 (0, 0)), M_13, M0_1] Z ∧ Mem.no.le N_10 ∧ Own k_wait_call 78 M_13 (A.un N_10) v_15 x_12) K ⟨0, x0_l, p0_0, Mem.no, M0_0, H, hm, (Sep.sel hS [0, 1, 2, 3] (by decide)), (Mem.le.refl _), (hp0_0.mono (Mem.le_un _ _))⟩ (fun a w h => by obtain ⟨_, _, _, _, _, H, _⟩ := h; cases (show (none : Option ((List wait_call) × (List api_Reply))) = some r from H)) ?_
  clear hm hS a H
  rintro k_17 a w_17 KL_17 hKL_17 ⟨x_11, x_12, v_15, N_10, M_13, H, hm, hS, le_10, ho_16⟩
  replace H : wait_Calls_Again.B1 K x0_l (fun v => wait_Calls_Again.J1 K x0_done v) (wait_Calls_Again.L1 K x0_l (fun v => wait_Calls_Again.J1 K x0_done v) k_17) x_11 x_12 = some r := H
  unfold wait_Calls_Again.B1 at H
  refine wp_seq ?_
  refine wp_region_lit ?_
  refine s_cmp (b := decide (x_11 < (x0_l.length : Int))) hm rfl rfl rfl (.inr (.inr (.inl ⟨rfl, rfl⟩))) ?_
  clear hm a; intro a hm
  refine wpList_nil ?_
  replace hm : Fr 19 a [(0, .pointer (some ⟨g0, 0, none⟩)), (7, .int .i64 (x0_l.length : Int)), (8, .int .i64 x_11), (9, .bool (decide (x_11 < (x0_l.length : Int))))] := hm.keep [0, 7, 8, 9]
  refine x_then_n ?_
  refine c_seq fun KJ_19 hKJ_19 => ?_
  by_cases hc_20 : x_11 < (x0_l.length : Int)
  · rw [if_pos hc_20] at H
    refine c_cond_t hm rfl (decide_eq_true hc_20) ?_
    refine wp_skip ?_
    refine x_then_n (hKJ_19 _ _ ?_)
    refine wp_seq ?_
    refine c_block ?_
    refine wp_seq ?_
    refine wp_region_lit ?_
    refine s_move hm rfl rfl ?_
    clear hm a; intro a hm
    refine s_assign hm rfl rfl ?_
    clear hm a; intro a hm
    refine wpList_nil ?_
    replace hm : Fr 19 a [(0, .pointer (some ⟨g0, 0, none⟩)), (2, .int .i64 x_11), (7, .int .i64 (x0_l.length : Int)), (8, .int .i64 x_11)] := hm.keep [0, 2, 7, 8]
    refine x_then_n ?_
    refine wp_region_lit ?_
    refine s_move hm rfl rfl ?_
    clear hm a; intro a hm
    refine s_nilCheck hm rfl rfl ?_
    clear hm a; intro a hm
    refine s_fieldAddr hm rfl Try.underlying74 rfl ti72 rfl rfl ?_
    clear hm a; intro a hm
    refine s_load hm rfl rfl (hS.load_one (p := 1) rfl Try.underlying72 rfl rfl) ?_
    clear hm a; intro a hm
    refine s_move hm rfl rfl ?_
    clear hm a; intro a hm
    obtain ⟨t_21, et_21, H⟩ := Option.bind_eq_some_iff.1 H
    refine s_indexOwn hm rfl Try.underlying72 ti78 rfl rfl rfl ho_16 et_21 ?_
    intro g_22 cur_23 hM_24
    clear hm a; intro a hm
    refine s_fieldAddr hm rfl Try.underlying78 rfl ti4 rfl rfl ?_
    clear hm a; intro a hm
    obtain ⟨w_25, M_26, hs', hS', ho_27⟩ := Own.stored (P := Try.prog) (p := 2) (t := 4) (o := 7) (nv := .bool false) (vs := [.bool false]) (u' := (⟨t_21.e, false⟩ : wait_call)) hS rfl ho_16 hM_24 et_21 ti4 rfl rfl rfl (by intro u hu; simp only [List.mem_cons, List.not_mem_nil, or_false] at hu; rcases hu with rfl <;> rfl) (by intro cs hk; obtain ⟨v_28, v_29, v_30, rfl, hr_31, hr_32, hr_33⟩ := k_wait_call.open' hk; exact k_wait_call.mk' hr_31 hr_32 hr_33)
    refine s_store hm rfl rfl hs' ?_
    replace hS : Sep w0 w_25 [N_10, Mem.one g0 (.cells ([v_15, p0_1] : List Value).toArray 74 (0, 0)), M_26, M0_1] Z := hS'
    clear hs' hS'
    refine wpList_nil ?_
    replace hm : Fr 19 a [(0, .pointer (some ⟨g0, 0, none⟩)), (7, .int .i64 (x0_l.length : Int)), (8, .int .i64 x_11)] := hm.keep [0, 7, 8]
    refine x_block_n ?_
    refine x_then_n ?_
    refine wp_region_lit ?_
    refine s_arith (r := w64 (x_11 + 1)) hm rfl rfl rfl (.inl ⟨rfl, rfl⟩) ?_
    clear hm a; intro a hm
    refine s_move hm rfl rfl ?_
    clear hm a; intro a hm
    refine wpList_nil ?_
    replace hm : Fr 19 a [(0, .pointer (some ⟨g0, 0, none⟩)), (7, .int .i64 (x0_l.length : Int)), (8, .int .i64 (w64 (x_11 + 1)))] := hm.keep [0, 7, 8]
    refine x_then_n (hKL_17 _ _ ?_)
    replace hS : Sep w0 w_25 [N_10, Mem.one g0 (.cells ([v_15, p0_1] : List Value).toArray 74 (0, 0)), M_26, M0_1] Z := hS
    replace hm : Fr 19 a [(0, .pointer (some ⟨g0, 0, none⟩)), (7, .int .i64 (x0_l.length : Int)), (8, .int .i64 (w64 (x_11 + 1)))] := hm.keep [0, 7, 8]
    exact ⟨w64 (x_11 + 1), (x_12.set (x_11).toNat (⟨t_21.e, false⟩ : wait_call)), v_15, N_10, M_26, H, hm, (Sep.sel hS [0, 1, 2, 3] (by decide)), le_10, (ho_27.mono (Mem.un_left (Mem.le.refl _)))⟩
  · rw [if_neg hc_20] at H
    refine c_cond_f hm rfl (decide_eq_false hc_20) ?_
    refine wp_exit (x_then_x (x_then_x (x_block_t ?_)))
    replace hS : Sep w0 w_17 [N_10, Mem.one g0 (.cells ([v_15, p0_1] : List Value).toArray 74 (0, 0)), M_13, M0_1] Z := hS
    replace hm : Fr 19 a [] := hm.keep []
    exact x_then_n (hJ_j_9 x_12 H _ _ ⟨v_15, N_10, M_13, hm, (Sep.sel hS [0, 1, 2, 3] (by decide)), le_10, (ho_16.mono (Mem.un_left (Mem.le.refl _)))⟩)

set_option maxHeartbeats 4000000 in
set_option maxRecDepth 20000 in
theorem hocketlaw7_Keys.calls (x0 : Int) (r : (List UInt8)) (w0 w : World) (Z A : Mem) (hA : A.le Z) (hS : Sep w0 w [] Z)
    (H : hocketlaw7_Keys.f x0 = some r) :
    Calls Try.prog 54 [.int .i64 x0].toArray w (Ret fun v w' => ∃ (u0 : Value) (N : Mem), v = u0 ∧ Sep w0 w' [N] Z ∧ Rd Kd.u8 N u0 r) := by
  unfold hocketlaw7_Keys.f at H
  refine f_enter _ Try.func54 rfl Try.ntmps54 rfl fun a hm => ?_
  replace hm : Fr 9 a [(0, .int .i64 x0)] := hm
  replace hS := hS.start
  replace hS : Sep w0 w [Mem.no] Z := hS
  refine wp_seq ?_
  refine wp_region_lit ?_
  refine s_assign hm rfl rfl ?_
  clear hm a; intro a hm
  refine wpList_nil ?_
  replace hm : Fr 9 a [(0, .int .i64 x0), (2, .slice none 0 0)] := hm.keep [0, 2]
  refine x_then_n ?_
  refine wp_seq ?_
  refine wp_region_lit ?_
  have hq_5 : Reps Kd.str Mem.no ([([] : List UInt8), ([97] : List UInt8), ([98] : List UInt8), ([99] : List UInt8), ([97, 98] : List UInt8), ([97, 98, 99] : List UInt8), ([122] : List UInt8), ([0] : List UInt8), ([255] : List UInt8), ([97, 98, 99, 100, 101, 102, 103, 104] : List UInt8), ([97, 98, 99, 100, 101, 102, 103, 104, 105] : List UInt8), ([107, 49] : List UInt8), ([107, 50] : List UInt8), ([107, 51] : List UInt8), ([107, 52] : List UInt8), ([107, 53] : List UInt8)] : List (List UInt8)) _ := ((Reps.one (d := Kd.str) (x := ([] : List UInt8)) (show Kd.str.K _ _ [.string ⟨([] : List UInt8).toArray⟩] from rfl)).append ((Reps.one (d := Kd.str) (x := ([97] : List UInt8)) (show Kd.str.K _ _ [.string ⟨([97] : List UInt8).toArray⟩] from rfl)).append ((Reps.one (d := Kd.str) (x := ([98] : List UInt8)) (show Kd.str.K _ _ [.string ⟨([98] : List UInt8).toArray⟩] from rfl)).append ((Reps.one (d := Kd.str) (x := ([99] : List UInt8)) (show Kd.str.K _ _ [.string ⟨([99] : List UInt8).toArray⟩] from rfl)).append ((Reps.one (d := Kd.str) (x := ([97, 98] : List UInt8)) (show Kd.str.K _ _ [.string ⟨([97, 98] : List UInt8).toArray⟩] from rfl)).append ((Reps.one (d := Kd.str) (x := ([97, 98, 99] : List UInt8)) (show Kd.str.K _ _ [.string ⟨([97, 98, 99] : List UInt8).toArray⟩] from rfl)).append ((Reps.one (d := Kd.str) (x := ([122] : List UInt8)) (show Kd.str.K _ _ [.string ⟨([122] : List UInt8).toArray⟩] from rfl)).append ((Reps.one (d := Kd.str) (x := ([0] : List UInt8)) (show Kd.str.K _ _ [.string ⟨([0] : List UInt8).toArray⟩] from rfl)).append ((Reps.one (d := Kd.str) (x := ([255] : List UInt8)) (show Kd.str.K _ _ [.string ⟨([255] : List UInt8).toArray⟩] from rfl)).append ((Reps.one (d := Kd.str) (x := ([97, 98, 99, 100, 101, 102, 103, 104] : List UInt8)) (show Kd.str.K _ _ [.string ⟨([97, 98, 99, 100, 101, 102, 103, 104] : List UInt8).toArray⟩] from rfl)).append ((Reps.one (d := Kd.str) (x := ([97, 98, 99, 100, 101, 102, 103, 104, 105] : List UInt8)) (show Kd.str.K _ _ [.string ⟨([97, 98, 99, 100, 101, 102, 103, 104, 105] : List UInt8).toArray⟩] from rfl)).append ((Reps.one (d := Kd.str) (x := ([107, 49] : List UInt8)) (show Kd.str.K _ _ [.string ⟨([107, 49] : List UInt8).toArray⟩] from rfl)).append ((Reps.one (d := Kd.str) (x := ([107, 50] : List UInt8)) (show Kd.str.K _ _ [.string ⟨([107, 50] : List UInt8).toArray⟩] from rfl)).append ((Reps.one (d := Kd.str) (x := ([107, 51] : List UInt8)) (show Kd.str.K _ _ [.string ⟨([107, 51] : List UInt8).toArray⟩] from rfl)).append ((Reps.one (d := Kd.str) (x := ([107, 52] : List UInt8)) (show Kd.str.K _ _ [.string ⟨([107, 52] : List UInt8).toArray⟩] from rfl)).append ((Reps.one (d := Kd.str) (x := ([107, 53] : List UInt8)) (show Kd.str.K _ _ [.string ⟨([107, 53] : List UInt8).toArray⟩] from rfl)).append (Reps.nil Kd.str _)))))))))))))))))
  refine s_buildSlice hm rfl Try.underlying87 ti9 rfl rfl rfl (.cons rfl (.cons rfl (.cons rfl (.cons rfl (.cons rfl (.cons rfl (.cons rfl (.cons rfl (.cons rfl (.cons rfl (.cons rfl (.cons rfl (.cons rfl (.cons rfl (.cons rfl (.cons rfl .nil)))))))))))))))) rfl rfl rfl hS hq_5 rfl ?_
  intro w_1 v_2 M_3 hS' ho_4
  clear hm a; intro a hm
  replace hS : Sep w0 w_1 [Mem.no, M_3] Z := hS'
  clear hS' hq_5
  refine s_move hm rfl rfl ?_
  clear hm a; intro a hm
  refine s_bits (i := x0) (j := 15) (r := band .i64 x0 15) hm rfl rfl rfl (.inl ⟨rfl, rfl⟩) ?_
  clear hm a; intro a hm
  obtain ⟨t_7, et_7, H⟩ := Option.bind_eq_some_iff.1 H
  refine v_indexO hm rfl Try.underlying87 ti9 rfl rfl rfl ho_4 (hS.own 1) et_7 ?_
  intro ad_8 cs_9 hk_10 hc_11
  obtain rfl := (show cs_9 = [.string ⟨t_7.toArray⟩] from hk_10)
  clear hm a; intro a hm
  refine s_load hm rfl rfl (el_one (o := 0) hc_11 Try.underlying9 rfl rfl) ?_
  clear hm a; intro a hm
  obtain ⟨u_12, eu_12, H⟩ := Option.bind_eq_some_iff.1 H
  refine s_s2b hm rfl Try.underlying9 Try.underlying26 Try.underlying5 rfl (must_some eu_12) hS ?_
  intro w_13 v_14 M_15 hS' hr_16
  clear hm a; intro a hm
  obtain ⟨N_17, hS'', le_17, lo_17⟩ := Sep.freeze (l := [M_3, M_15]) hS' 1 rfl
  replace hS : Sep w0 w_13 [N_17, M_3, Mem.no] Z := hS''
  clear hS' hS''
  refine s_assign hm rfl rfl ?_
  clear hm a; intro a hm
  refine wpList_nil ?_
  replace hm : Fr 9 a [(2, v_14)] := hm.keep [2]
  refine x_then_n ?_
  refine wp_ret ?_
  obtain rfl := Option.some.inj H
  exact f_ret hm (rs := [.tmp 2]) rfl (.tmp rfl .nil) ⟨_, rfl, v_14, N_17, rfl, (Sep.sel hS [0] (by decide)), (hr_16.mono lo_17)⟩


end Go.Proofs
