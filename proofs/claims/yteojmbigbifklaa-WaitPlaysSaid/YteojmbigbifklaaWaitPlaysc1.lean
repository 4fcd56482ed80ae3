/- What the calls do: each function once. -/
import Derived.Test.YteojmbigbifklaaWaitPlaysc0
namespace Go.Proofs
open Go.Gp
set_option linter.unusedVariables false
set_option maxHeartbeats 4000000 in
set_option maxRecDepth 20000 in
theorem mach_StillEntry.calls (x0 : api_Entry) (p0_0 : Value) (p0_1 : Value) (p0_2 : Value) (r : api_Entry) (w0 w : World) (Z A : Mem) (hA : A.le Z) (hS : Sep w0 w [] Z) (hp0_0 : Rd Kd.u8 A p0_0 x0.Cmd.Key) (hp0_1 : Rd Kd.u8 A p0_1 x0.Cmd.Val) (hp0_2 : Rd Kd.u8 A p0_2 x0.Cmd.Old)
    (H : mach_StillEntry.f x0 = some r) :
    Calls Try.prog 47 [.agg ([.int .i64 x0.Sess, .int .i64 x0.Seq, .int .i64 x0.Cmd.Kind, .int .i64 x0.Cmd.Who, p0_0, p0_1, p0_2] : List Value).toArray].toArray w (Ret fun v w' => ∃ (u0 : Value) (u1 : Value) (u2 : Value) (N : Mem) (M0 : Mem) (M1 : Mem) (M2 : Mem), v = .agg [.int .i64 r.Sess, .int .i64 r.Seq, .int .i64 r.Cmd.Kind, .int .i64 r.Cmd.Who, u0, u1, u2].toArray ∧ Sep w0 w' [N, M0, M1, M2] Z ∧ Own Kd.u8 5 M0 Mem.no u0 r.Cmd.Key ∧ Own Kd.u8 5 M1 Mem.no u1 r.Cmd.Val ∧ Own Kd.u8 5 M2 Mem.no u2 r.Cmd.Old) := by
  unfold mach_StillEntry.f at H
  refine f_enter _ Try.func47 rfl Try.ntmps47 rfl fun a hm => ?_
  replace hm : Fr 22 a [(0, .agg ([.int .i64 x0.Sess, .int .i64 x0.Seq, .int .i64 x0.Cmd.Kind, .int .i64 x0.Cmd.Who, p0_0, p0_1, p0_2] : List Value).toArray)] := hm
  replace hS := hS.start
  replace hS : Sep w0 w [Mem.no] Z := hS
  refine wp_seq ?_
  refine wp_region_lit ?_
  refine v_box (vs := [.int .i64 x0.Sess, .int .i64 x0.Seq, .int .i64 x0.Cmd.Kind, .int .i64 x0.Cmd.Who, p0_0, p0_1, p0_2]) hm rfl rfl rfl hS ?_
  intro w_1 g_2 hS'
  clear hm a; intro a hm
  replace hS : Sep w0 w_1 [Mem.no, Mem.one g_2 (.cells ([.int .i64 x0.Sess, .int .i64 x0.Seq, .int .i64 x0.Cmd.Kind, .int .i64 x0.Cmd.Who, p0_0, p0_1, p0_2] : List Value).toArray 45 (0, 0))] Z := hS'
  clear hS'
  refine v_alloc hm rfl ti45 hS ?_
  intro w_3 g_4 hS'
  clear hm a; intro a hm
  replace hS : Sep w0 w_3 [Mem.no, Mem.one g_2 (.cells ([.int .i64 x0.Sess, .int .i64 x0.Seq, .int .i64 x0.Cmd.Kind, .int .i64 x0.Cmd.Who, p0_0, p0_1, p0_2] : List Value).toArray 45 (0, 0)), Mem.one g_4 (.cells ([.int .i64 0, .int .i64 0, .int .i64 0, .int .i64 0, .slice none 0 0, .slice none 0 0, .slice none 0 0] : List Value).toArray 45 (0, 0))] Z := hS'
  clear hS'
  refine wpList_nil ?_
  replace hm : Fr 22 a [(1, .pointer (some ⟨g_2, 0, none⟩)), (2, .pointer (some ⟨g_4, 0, none⟩))] := hm.keep [1, 2]
  refine x_then_n ?_
  refine c_seq fun KJ_5 hKJ_5 => ?_
  refine h_begin (S := fun w => Sep w0 w [Mem.no, Mem.no, Mem.one g_4 (.cells ([.int .i64 0, .int .i64 0, .int .i64 0, .int .i64 0, .slice none 0 0, .slice none 0 0, .slice none 0 0] : List Value).toArray 45 (0, 0))] Z) 21 (by kernel_rfl) rfl [false, false, false, false, false, false, false, false, false, false, false, false, false, false, false, false, false, false, false, false, false].toArray rfl hS fun w_6 hS => ?_
  replace hS : Sep w0 w_6 [Mem.no, Mem.one g_2 (.cells ([.int .i64 x0.Sess, .int .i64 x0.Seq, .int .i64 x0.Cmd.Kind, .int .i64 x0.Cmd.Who, p0_0, p0_1, p0_2] : List Value).toArray 45 (0, 0)), Mem.one g_4 (.cells ([.int .i64 0, .int .i64 0, .int .i64 0, .int .i64 0, .slice none 0 0, .slice none 0 0, .slice none 0 0] : List Value).toArray 45 (0, 0))] Z := hS
  refine h_take 0 [true, false, false, false, false, false, false, false, false, false, false, false, false, false, false, false, false, false, false, false, false].toArray rfl (by kernel_rfl) (by kernel_rfl) (by kernel_rfl) (fun _ _ _ _ h => h) rfl rfl rfl rfl hm (hS.sub (.cons (Mem.le.refl _) (.cons (Mem.no_le _) (.cons (Mem.le.refl _) (Sub.nil _))))) (v := .pointer (some ⟨g_2, 2, none⟩)) (fun w hS => r_fieldAddr hm Try.underlying45 rfl ti43 rfl rfl rfl) ?_
  clear hm a; intro a hm
  refine h_take 1 [true, true, false, false, false, false, false, false, false, false, false, false, false, false, false, false, false, false, false, false, false].toArray rfl (by kernel_rfl) (by kernel_rfl) (by kernel_rfl) (fun _ _ _ _ h => h) rfl rfl rfl rfl hm (hS.sub (.cons (Mem.le.refl _) (.cons (Mem.no_le _) (.cons (Mem.le.refl _) (Sub.nil _))))) (v := .pointer (some ⟨g_2, 4, none⟩)) (fun w hS => r_fieldAddr hm Try.underlying43 rfl ti26 rfl rfl rfl) ?_
  clear hm a; intro a hm
  refine h_take 4 [true, true, false, false, true, false, false, false, false, false, false, false, false, false, false, false, false, false, false, false, false].toArray rfl (by kernel_rfl) (by kernel_rfl) (by kernel_rfl) (fun _ _ _ _ h => h) rfl rfl rfl rfl hm (hS.sub (.cons (Mem.le.refl _) (.cons (Mem.no_le _) (.cons (Mem.le.refl _) (Sub.nil _))))) (v := .pointer (some ⟨g_2, 2, none⟩)) (fun w hS => r_fieldAddr hm Try.underlying45 rfl ti43 rfl rfl rfl) ?_
  clear hm a; intro a hm
  refine h_take 5 [true, true, false, false, true, true, false, false, false, false, false, false, false, false, false, false, false, false, false, false, false].toArray rfl (by kernel_rfl) (by kernel_rfl) (by kernel_rfl) (fun _ _ _ _ h => h) rfl rfl rfl rfl hm (hS.sub (.cons (Mem.le.refl _) (.cons (Mem.no_le _) (.cons (Mem.le.refl _) (Sub.nil _))))) (v := .pointer (some ⟨g_2, 5, none⟩)) (fun w hS => r_fieldAddr hm Try.underlying43 rfl ti26 rfl rfl rfl) ?_
  clear hm a; intro a hm
  refine h_take 8 [true, true, false, false, true, true, false, false, true, false, false, false, false, false, false, false, false, false, false, false, false].toArray rfl (by kernel_rfl) (by kernel_rfl) (by kernel_rfl) (fun _ _ _ _ h => h) rfl rfl rfl rfl hm (hS.sub (.cons (Mem.le.refl _) (.cons (Mem.no_le _) (.cons (Mem.le.refl _) (Sub.nil _))))) (v := .pointer (some ⟨g_2, 2, none⟩)) (fun w hS => r_fieldAddr hm Try.underlying45 rfl ti43 rfl rfl rfl) ?_
  clear hm a; intro a hm
  refine h_take 9 [true, true, false, false, true, true, false, false, true, true, false, false, false, false, false, false, false, false, false, false, false].toArray rfl (by kernel_rfl) (by kernel_rfl) (by kernel_rfl) (fun _ _ _ _ h => h) rfl rfl rfl rfl hm (hS.sub (.cons (Mem.le.refl _) (.cons (Mem.no_le _) (.cons (Mem.le.refl _) (Sub.nil _))))) (v := .pointer (some ⟨g_2, 6, none⟩)) (fun w hS => r_fieldAddr hm Try.underlying43 rfl ti26 rfl rfl rfl) ?_
  clear hm a; intro a hm
  obtain ⟨t_7, et_7, H⟩ := Option.bind_eq_some_iff.1 H
  obtain ⟨t_15, et_15, H⟩ := Option.bind_eq_some_iff.1 H
  obtain ⟨t_23, et_23, H⟩ := Option.bind_eq_some_iff.1 H
  refine h_events [2, 6, 10] (by kernel_rfl) (by simp) ?_
  intro i hi; simp only [List.mem_cons, List.not_mem_nil, or_false] at hi; rcases hi with rfl | rfl | rfl
  · refine ⟨_, [true, true, true, false, true, true, false, false, true, true, false, false, false, false, false, false, false, false, false, false, false].toArray, rfl, rfl, ?_⟩
    refine s_load hm rfl rfl (hS.load_one (p := 1) rfl Try.underlying26 rfl rfl) ?_
    clear hm a; intro a hm
    refine wpList_nil ?_
    refine x_then_n ⟨(hS.sub (.cons (Mem.le.refl _) (.cons (Mem.no_le _) (.cons (Mem.le.refl _) (Sub.nil _))))), ?_⟩
    refine h_events [3, 6, 10] (by kernel_rfl) (by simp) ?_
    intro i hi; simp only [List.mem_cons, List.not_mem_nil, or_false] at hi; rcases hi with rfl | rfl | rfl
    · refine ⟨_, [true, true, true, true, true, true, false, false, true, true, false, false, false, false, false, false, false, false, false, false, false].toArray, rfl, rfl, ?_⟩
      refine s_call hm rfl Try.call49 rfl (slices_Clone_sbyte_byte.calls x0.Cmd.Key _ t_7 w0 _ _ _ (Mem.le.refl _) (hS.enter [] (by decide)) (hp0_0.mono (hA.trans (hS.le_zed []))) et_7) ?_
      rintro v_11 w_8 ⟨_, N_9, M_13, rfl, hS', hr_12⟩
      clear hm a; intro a hm
      obtain ⟨N_10, hS'', le_10, ln_10⟩ := hS.call [] (by decide) rfl (l' := []) (ow := [M_13]) rfl hS'
      replace hS : Sep w0 w_8 [N_10, Mem.one g_2 (.cells ([.int .i64 x0.Sess, .int .i64 x0.Seq, .int .i64 x0.Cmd.Kind, .int .i64 x0.Cmd.Who, p0_0, p0_1, p0_2] : List Value).toArray 45 (0, 0)), Mem.one g_4 (.cells ([.int .i64 0, .int .i64 0, .int .i64 0, .int .i64 0, .slice none 0 0, .slice none 0 0, .slice none 0 0] : List Value).toArray 45 (0, 0)), M_13] Z := hS''
      clear hS' hS''
      refine wpList_nil ?_
      refine x_then_n ⟨(hS.sub (.cons le_10 (.cons (Mem.no_le _) (.cons (Mem.le.refl _) (Sub.nil _))))), ?_⟩
      refine h_events [6, 10] (by kernel_rfl) (by simp) ?_
      intro i hi; simp only [List.mem_cons, List.not_mem_nil, or_false] at hi; rcases hi with rfl | rfl
      · refine ⟨_, [true, true, true, true, true, true, true, false, true, true, false, false, false, false, false, false, false, false, false, false, false].toArray, rfl, rfl, ?_⟩
        refine s_load hm rfl rfl (hS.load_one (p := 1) rfl Try.underlying26 rfl rfl) ?_
        clear hm a; intro a hm
        refine wpList_nil ?_
        refine x_then_n ⟨(hS.sub (.cons le_10 (.cons (Mem.no_le _) (.cons (Mem.le.refl _) (Sub.nil _))))), ?_⟩
        refine h_events [7, 10] (by kernel_rfl) (by simp) ?_
        intro i hi; simp only [List.mem_cons, List.not_mem_nil, or_false] at hi; rcases hi with rfl | rfl
        · refine ⟨_, [true, true, true, true, true, true, true, true, true, true, false, false, false, false, false, false, false, false, false, false, false].toArray, rfl, rfl, ?_⟩
          refine s_call hm rfl Try.call49 rfl (slices_Clone_sbyte_byte.calls x0.Cmd.Val _ t_15 w0 _ _ _ (Mem.le.refl _) (hS.enter [] (by decide)) (hp0_1.mono (hA.trans (hS.le_zed []))) et_15) ?_
          rintro v_19 w_16 ⟨_, N_17, M_21, rfl, hS', hr_20⟩
          clear hm a; intro a hm
          obtain ⟨N_18, hS'', le_18, ln_18⟩ := hS.call [] (by decide) rfl (l' := []) (ow := [M_21]) rfl hS'
          replace hS : Sep w0 w_16 [N_18, Mem.one g_2 (.cells ([.int .i64 x0.Sess, .int .i64 x0.Seq, .int .i64 x0.Cmd.Kind, .int .i64 x0.Cmd.Who, p0_0, p0_1, p0_2] : List Value).toArray 45 (0, 0)), Mem.one g_4 (.cells ([.int .i64 0, .int .i64 0, .int .i64 0, .int .i64 0, .slice none 0 0, .slice none 0 0, .slice none 0 0] : List Value).toArray 45 (0, 0)), M_13, M_21] Z := hS''
          clear hS' hS''
          refine wpList_nil ?_
          refine x_then_n ⟨(hS.sub (.cons (le_10.trans le_18) (.cons (Mem.no_le _) (.cons (Mem.le.refl _) (Sub.nil _))))), ?_⟩
          refine h_event 10 [true, true, true, true, true, true, true, true, true, true, true, false, false, false, false, false, false, false, false, false, false].toArray rfl (by kernel_rfl) rfl ?_
          refine s_load hm rfl rfl (hS.load_one (p := 1) rfl Try.underlying26 rfl rfl) ?_
          clear hm a; intro a hm
          refine wpList_nil ?_
          refine x_then_n ⟨(hS.sub (.cons (le_10.trans le_18) (.cons (Mem.no_le _) (.cons (Mem.le.refl _) (Sub.nil _))))), ?_⟩
          refine h_take 12 [true, true, true, true, true, true, true, true, true, true, true, false, true, false, false, false, false, false, false, false, false].toArray rfl (by kernel_rfl) (by kernel_rfl) (by kernel_rfl) (fun _ _ _ _ h => h) rfl rfl rfl rfl hm (hS.sub (.cons (le_10.trans le_18) (.cons (Mem.no_le _) (.cons (Mem.le.refl _) (Sub.nil _))))) (v := .pointer (some ⟨g_2, 2, none⟩)) (fun w hS => r_fieldAddr hm Try.underlying45 rfl ti43 rfl rfl rfl) ?_
          clear hm a; intro a hm
          refine h_take 13 [true, true, true, true, true, true, true, true, true, true, true, false, true, true, false, false, false, false, false, false, false].toArray rfl (by kernel_rfl) (by kernel_rfl) (by kernel_rfl) (fun _ _ _ _ h => h) rfl rfl rfl rfl hm (hS.sub (.cons (le_10.trans le_18) (.cons (Mem.no_le _) (.cons (Mem.le.refl _) (Sub.nil _))))) (v := .pointer (some ⟨g_2, 4, none⟩)) (fun w hS => r_fieldAddr hm Try.underlying43 rfl ti26 rfl rfl rfl) ?_
          clear hm a; intro a hm
          refine h_event 11 [true, true, true, true, true, true, true, true, true, true, true, true, true, true, false, false, false, false, false, false, false].toArray rfl (by kernel_rfl) rfl ?_
          refine s_call hm rfl Try.call49 rfl (slices_Clone_sbyte_byte.calls x0.Cmd.Old _ t_23 w0 _ _ _ (Mem.le.refl _) (hS.enter [] (by decide)) (hp0_2.mono (hA.trans (hS.le_zed []))) et_23) ?_
          rintro v_27 w_24 ⟨_, N_25, M_29, rfl, hS', hr_28⟩
          clear hm a; intro a hm
          obtain ⟨N_26, hS'', le_26, ln_26⟩ := hS.call [] (by decide) rfl (l' := []) (ow := [M_29]) rfl hS'
          replace hS : Sep w0 w_24 [N_26, Mem.one g_2 (.cells ([.int .i64 x0.Sess, .int .i64 x0.Seq, .int .i64 x0.Cmd.Kind, .int .i64 x0.Cmd.Who, p0_0, p0_1, p0_2] : List Value).toArray 45 (0, 0)), Mem.one g_4 (.cells ([.int .i64 0, .int .i64 0, .int .i64 0, .int .i64 0, .slice none 0 0, .slice none 0 0, .slice none 0 0] : List Value).toArray 45 (0, 0)), M_13, M_21, M_29] Z := hS''
          clear hS' hS''
          refine wpList_nil ?_
          refine x_then_n ⟨(hS.sub (.cons (le_10.trans (le_18.trans le_26)) (.cons (Mem.no_le _) (.cons (Mem.le.refl _) (Sub.nil _))))), ?_⟩
          refine h_event 14 [true, true, true, true, true, true, true, true, true, true, true, true, true, true, true, false, false, false, false, false, false].toArray rfl (by kernel_rfl) rfl ?_
          obtain ⟨w_31, hs', hS'⟩ := hS.store (P := Try.prog) (p := 1) (o := 4) (t := 26) (v := v_11) (vs := [v_11]) rfl ti26 hr_12.cellsA rfl rfl (by intro u hu; simp only [List.mem_cons, List.not_mem_nil, or_false] at hu; rcases hu with rfl <;> first | rfl | exact hr_12.one)
          refine s_store hm rfl rfl hs' ?_
          replace hS : Sep w0 w_31 [N_26, Mem.one g_2 (.cells ([.int .i64 x0.Sess, .int .i64 x0.Seq, .int .i64 x0.Cmd.Kind, .int .i64 x0.Cmd.Who, v_11, p0_1, p0_2] : List Value).toArray 45 (0, 0)), Mem.one g_4 (.cells ([.int .i64 0, .int .i64 0, .int .i64 0, .int .i64 0, .slice none 0 0, .slice none 0 0, .slice none 0 0] : List Value).toArray 45 (0, 0)), M_13, M_21, M_29] Z := hS'
          clear hs' hS'
          refine wpList_nil ?_
          refine x_then_n ⟨(hS.sub (.cons (le_10.trans (le_18.trans le_26)) (.cons (Mem.no_le _) (.cons (Mem.le.refl _) (Sub.nil _))))), ?_⟩
          refine h_take 15 [true, true, true, true, true, true, true, true, true, true, true, true, true, true, true, true, false, false, false, false, false].toArray rfl (by kernel_rfl) (by kernel_rfl) (by kernel_rfl) (fun _ _ _ _ h => h) rfl rfl rfl rfl hm (hS.sub (.cons (le_10.trans (le_18.trans le_26)) (.cons (Mem.no_le _) (.cons (Mem.le.refl _) (Sub.nil _))))) (v := .pointer (some ⟨g_2, 2, none⟩)) (fun w hS => r_fieldAddr hm Try.underlying45 rfl ti43 rfl rfl rfl) ?_
          clear hm a; intro a hm
          refine h_take 16 [true, true, true, true, true, true, true, true, true, true, true, true, true, true, true, true, true, false, false, false, false].toArray rfl (by kernel_rfl) (by kernel_rfl) (by kernel_rfl) (fun _ _ _ _ h => h) rfl rfl rfl rfl hm (hS.sub (.cons (le_10.trans (le_18.trans le_26)) (.cons (Mem.no_le _) (.cons (Mem.le.refl _) (Sub.nil _))))) (v := .pointer (some ⟨g_2, 5, none⟩)) (fun w hS => r_fieldAddr hm Try.underlying43 rfl ti26 rfl rfl rfl) ?_
          clear hm a; intro a hm
          refine h_event 17 [true, true, true, true, true, true, true, true, true, true, true, true, true, true, true, true, true, true, false, false, false].toArray rfl (by kernel_rfl) rfl ?_
          obtain ⟨w_32, hs', hS'⟩ := hS.store (P := Try.prog) (p := 1) (o := 5) (t := 26) (v := v_19) (vs := [v_19]) rfl ti26 hr_20.cellsA rfl rfl (by intro u hu; simp only [List.mem_cons, List.not_mem_nil, or_false] at hu; rcases hu with rfl <;> first | rfl | exact hr_20.one)
          refine s_store hm rfl rfl hs' ?_
          replace hS : Sep w0 w_32 [N_26, Mem.one g_2 (.cells ([.int .i64 x0.Sess, .int .i64 x0.Seq, .int .i64 x0.Cmd.Kind, .int .i64 x0.Cmd.Who, v_11, v_19, p0_2] : List Value).toArray 45 (0, 0)), Mem.one g_4 (.cells ([.int .i64 0, .int .i64 0, .int .i64 0, .int .i64 0, .slice none 0 0, .slice none 0 0, .slice none 0 0] : List Value).toArray 45 (0, 0)), M_13, M_21, M_29] Z := hS'
          clear hs' hS'
          refine wpList_nil ?_
          refine x_then_n ⟨(hS.sub (.cons (le_10.trans (le_18.trans le_26)) (.cons (Mem.no_le _) (.cons (Mem.le.refl _) (Sub.nil _))))), ?_⟩
          refine h_take 18 [true, true, true, true, true, true, true, true, true, true, true, true, true, true, true, true, true, true, true, false, false].toArray rfl (by kernel_rfl) (by kernel_rfl) (by kernel_rfl) (fun _ _ _ _ h => h) rfl rfl rfl rfl hm (hS.sub (.cons (le_10.trans (le_18.trans le_26)) (.cons (Mem.no_le _) (.cons (Mem.le.refl _) (Sub.nil _))))) (v := .pointer (some ⟨g_2, 2, none⟩)) (fun w hS => r_fieldAddr hm Try.underlying45 rfl ti43 rfl rfl rfl) ?_
          clear hm a; intro a hm
          refine h_take 19 [true, true, true, true, true, true, true, true, true, true, true, true, true, true, true, true, true, true, true, true, false].toArray rfl (by kernel_rfl) (by kernel_rfl) (by kernel_rfl) (fun _ _ _ _ h => h) rfl rfl rfl rfl hm (hS.sub (.cons (le_10.trans (le_18.trans le_26)) (.cons (Mem.no_le _) (.cons (Mem.le.refl _) (Sub.nil _))))) (v := .pointer (some ⟨g_2, 6, none⟩)) (fun w hS => r_fieldAddr hm Try.underlying43 rfl ti26 rfl rfl rfl) ?_
          clear hm a; intro a hm
          refine h_event 20 [true, true, true, true, true, true, true, true, true, true, true, true, true, true, true, true, true, true, true, true, true].toArray rfl (by kernel_rfl) rfl ?_
          obtain ⟨w_33, hs', hS'⟩ := hS.store (P := Try.prog) (p := 1) (o := 6) (t := 26) (v := v_27) (vs := [v_27]) rfl ti26 hr_28.cellsA rfl rfl (by intro u hu; simp only [List.mem_cons, List.not_mem_nil, or_false] at hu; rcases hu with rfl <;> first | rfl | exact hr_28.one)
          refine s_store hm rfl rfl hs' ?_
          replace hS : Sep w0 w_33 [N_26, Mem.one g_2 (.cells ([.int .i64 x0.Sess, .int .i64 x0.Seq, .int .i64 x0.Cmd.Kind, .int .i64 x0.Cmd.Who, v_11, v_19, v_27] : List Value).toArray 45 (0, 0)), Mem.one g_4 (.cells ([.int .i64 0, .int .i64 0, .int .i64 0, .int .i64 0, .slice none 0 0, .slice none 0 0, .slice none 0 0] : List Value).toArray 45 (0, 0)), M_13, M_21, M_29] Z := hS'
          clear hs' hS'
          refine wpList_nil ?_
          refine x_then_n ⟨(hS.sub (.cons (le_10.trans (le_18.trans le_26)) (.cons (Mem.no_le _) (.cons (Mem.le.refl _) (Sub.nil _))))), ?_⟩
          refine h_done (by kernel_rfl) ?_
          replace hm : Fr 22 a [(1, .pointer (some ⟨g_2, 0, none⟩)), (2, .pointer (some ⟨g_4, 0, none⟩))] := hm.keep [1, 2]
          refine x_then_n (hKJ_5 _ _ ?_)
          refine wp_seq ?_
          refine wp_region_lit ?_
          refine s_load hm rfl rfl (hS.load_agg (p := 1) (us := [.int .i64 x0.Sess, .int .i64 x0.Seq, .int .i64 x0.Cmd.Kind, .int .i64 x0.Cmd.Who, v_11, v_19, v_27]) rfl Try.underlying45 rfl ti45 rfl rfl) ?_
          clear hm a; intro a hm
          obtain ⟨w_34, hs', hS'⟩ := hS.store (P := Try.prog) (p := 2) (o := 0) (t := 45) (v := .agg ([.int .i64 x0.Sess, .int .i64 x0.Seq, .int .i64 x0.Cmd.Kind, .int .i64 x0.Cmd.Who, v_11, v_19, v_27] : List Value).toArray) (vs := [.int .i64 x0.Sess, .int .i64 x0.Seq, .int .i64 x0.Cmd.Kind, .int .i64 x0.Cmd.Who, v_11, v_19, v_27]) rfl ti45 rfl rfl rfl (by intro u hu; simp only [List.mem_cons, List.not_mem_nil, or_false] at hu; rcases hu with rfl | rfl | rfl | rfl | rfl | rfl | rfl <;> first | rfl | exact hr_12.one | exact hr_20.one | exact hr_28.one)
          refine s_store hm rfl rfl hs' ?_
          replace hS : Sep w0 w_34 [N_26, Mem.one g_2 (.cells ([.int .i64 x0.Sess, .int .i64 x0.Seq, .int .i64 x0.Cmd.Kind, .int .i64 x0.Cmd.Who, v_11, v_19, v_27] : List Value).toArray 45 (0, 0)), Mem.one g_4 (.cells ([.int .i64 x0.Sess, .int .i64 x0.Seq, .int .i64 x0.Cmd.Kind, .int .i64 x0.Cmd.Who, v_11, v_19, v_27] : List Value).toArray 45 (0, 0)), M_13, M_21, M_29] Z := hS'
          clear hs' hS'
          refine wpList_nil ?_
          replace hm : Fr 22 a [(2, .pointer (some ⟨g_4, 0, none⟩))] := hm.keep [2]
          refine x_then_n ?_
          refine wp_ret ?_
          obtain rfl := Option.some.inj H
          exact f_ret hm (rs := [.cell 2 45]) rfl (.cell rfl (hS.load_agg (p := 2) (us := [.int .i64 x0.Sess, .int .i64 x0.Seq, .int .i64 x0.Cmd.Kind, .int .i64 x0.Cmd.Who, v_11, v_19, v_27]) rfl Try.underlying45 rfl ti45 rfl rfl) .nil) ⟨_, rfl, v_11, v_19, v_27, N_26, M_13, M_21, M_29, rfl, (Sep.sel hS [0, 3, 4, 5] (by decide)), hr_12, hr_20, hr_28⟩
        · refine ⟨_, [true, true, true, true, true, true, true, false, true, true, true, false, false, false, false, false, false, false, false, false, false].toArray, rfl, rfl, ?_⟩
          refine s_load hm rfl rfl (hS.load_one (p := 1) rfl Try.underlying26 rfl rfl) ?_
          clear hm a; intro a hm
          refine wpList_nil ?_
          refine x_then_n ⟨(hS.sub (.cons le_10 (.cons (Mem.no_le _) (.cons (Mem.le.refl _) (Sub.nil _))))), ?_⟩
          refine h_take 12 [true, true, true, true, true, true, true, false, true, true, true, false, true, false, false, false, false, false, false, false, false].toArray rfl (by kernel_rfl) (by kernel_rfl) (by kernel_rfl) (fun _ _ _ _ h => h) rfl rfl rfl rfl hm (hS.sub (.cons le_10 (.cons (Mem.no_le _) (.cons (Mem.le.refl _) (Sub.nil _))))) (v := .pointer (some ⟨g_2, 2, none⟩)) (fun w hS => r_fieldAddr hm Try.underlying45 rfl ti43 rfl rfl rfl) ?_
          clear hm a; intro a hm
          refine h_take 13 [true, true, true, true, true, true, true, false, true, true, true, false, true, true, false, false, false, false, false, false, false].toArray rfl (by kernel_rfl) (by kernel_rfl) (by kernel_rfl) (fun _ _ _ _ h => h) rfl rfl rfl rfl hm (hS.sub (.cons le_10 (.cons (Mem.no_le _) (.cons (Mem.le.refl _) (Sub.nil _))))) (v := .pointer (some ⟨g_2, 4, none⟩)) (fun w hS => r_fieldAddr hm Try.underlying43 rfl ti26 rfl rfl rfl) ?_
          clear hm a; intro a hm
          refine h_event 7 [true, true, true, true, true, true, true, true, true, true, true, false, true, true, false, false, false, false, false, false, false].toArray rfl (by kernel_rfl) rfl ?_
          refine s_call hm rfl Try.call49 rfl (slices_Clone_sbyte_byte.calls x0.Cmd.Val _ t_15 w0 _ _ _ (Mem.le.refl _) (hS.enter [] (by decide)) (hp0_1.mono (hA.trans (hS.le_zed []))) et_15) ?_
          rintro v_39 w_36 ⟨_, N_37, M_41, rfl, hS', hr_40⟩
          clear hm a; intro a hm
          obtain ⟨N_38, hS'', le_38, ln_38⟩ := hS.call [] (by decide) rfl (l' := []) (ow := [M_41]) rfl hS'
          replace hS : Sep w0 w_36 [N_38, Mem.one g_2 (.cells ([.int .i64 x0.Sess, .int .i64 x0.Seq, .int .i64 x0.Cmd.Kind, .int .i64 x0.Cmd.Who, p0_0, p0_1, p0_2] : List Value).toArray 45 (0, 0)), Mem.one g_4 (.cells ([.int .i64 0, .int .i64 0, .int .i64 0, .int .i64 0, .slice none 0 0, .slice none 0 0, .slice none 0 0] : List Value).toArray 45 (0, 0)), M_13, M_41] Z := hS''
          clear hS' hS''
          refine wpList_nil ?_
          refine x_then_n ⟨(hS.sub (.cons (le_10.trans le_38) (.cons (Mem.no_le _) (.cons (Mem.le.refl _) (Sub.nil _))))), ?_⟩
          refine h_event 11 [true, true, true, true, true, true, true, true, true, true, true, true, true, true, false, false, false, false, false, false, false].toArray rfl (by kernel_rfl) rfl ?_
          refine s_call hm rfl Try.call49 rfl (slices_Clone_sbyte_byte.calls x0.Cmd.Old _ t_23 w0 _ _ _ (Mem.le.refl _) (hS.enter [] (by decide)) (hp0_2.mono (hA.trans (hS.le_zed []))) et_23) ?_
          rintro v_47 w_44 ⟨_, N_45, M_49, rfl, hS', hr_48⟩
          clear hm a; intro a hm
          obtain ⟨N_46, hS'', le_46, ln_46⟩ := hS.call [] (by decide) rfl (l' := []) (ow := [M_49]) rfl hS'
          replace hS : Sep w0 w_44 [N_46, Mem.one g_2 (.cells ([.int .i64 x0.Sess, .int .i64 x0.Seq, .int .i64 x0.Cmd.Kind, .int .i64 x0.Cmd.Who, p0_0, p0_1, p0_2] : List Value).toArray 45 (0, 0)), Mem.one g_4 (.cells ([.int .i64 0, .int .i64 0, .int .i64 0, .int .i64 0, .slice none 0 0, .slice none 0 0, .slice none 0 0] : List Value).toArray 45 (0, 0)), M_13, M_41, M_49] Z := hS''
          clear hS' hS''
          refine wpList_nil ?_
          refine x_then_n ⟨(hS.sub (.cons (le_10.trans (le_38.trans le_46)) (.cons (Mem.no_le _) (.cons (Mem.le.refl _) (Sub.nil _))))), ?_⟩
          refine h_event 14 [true, true, true, true, true, true, true, true, true, true, true, true, true, true, true, false, false, false, false, false, false].toArray rfl (by kernel_rfl) rfl ?_
          obtain ⟨w_51, hs', hS'⟩ := hS.store (P := Try.prog) (p := 1) (o := 4) (t := 26) (v := v_11) (vs := [v_11]) rfl ti26 hr_12.cellsA rfl rfl (by intro u hu; simp only [List.mem_cons, List.not_mem_nil, or_false] at hu; rcases hu with rfl <;> first | rfl | exact hr_12.one)
          refine s_store hm rfl rfl hs' ?_
          replace hS : Sep w0 w_51 [N_46, Mem.one g_2 (.cells ([.int .i64 x0.Sess, .int .i64 x0.Seq, .int .i64 x0.Cmd.Kind, .int .i64 x0.Cmd.Who, v_11, p0_1, p0_2] : List Value).toArray 45 (0, 0)), Mem.one g_4 (.cells ([.int .i64 0, .int .i64 0, .int .i64 0, .int .i64 0, .slice none 0 0, .slice none 0 0, .slice none 0 0] : List Value).toArray 45 (0, 0)), M_13, M_41, M_49] Z := hS'
          clear hs' hS'
          refine wpList_nil ?_
          refine x_then_n ⟨(hS.sub (.cons (le_10.trans (le_38.trans le_46)) (.cons (Mem.no_le _) (.cons (Mem.le.refl _) (Sub.nil _))))), ?_⟩
          refine h_take 15 [true, true, true, true, true, true, true, true, true, true, true, true, true, true, true, true, false, false, false, false, false].toArray rfl (by kernel_rfl) (by kernel_rfl) (by kernel_rfl) (fun _ _ _ _ h => h) rfl rfl rfl rfl hm (hS.sub (.cons (le_10.trans (le_38.trans le_46)) (.cons (Mem.no_le _) (.cons (Mem.le.refl _) (Sub.nil _))))) (v := .pointer (some ⟨g_2, 2, none⟩)) (fun w hS => r_fieldAddr hm Try.underlying45 rfl ti43 rfl rfl rfl) ?_
          clear hm a; intro a hm
          refine h_take 16 [true, true, true, true, true, true, true, true, true, true, true, true, true, true, true, true, true, false, false, false, false].toArray rfl (by kernel_rfl) (by kernel_rfl) (by kernel_rfl) (fun _ _ _ _ h => h) rfl rfl rfl rfl hm (hS.sub (.cons (le_10.trans (le_38.trans le_46)) (.cons (Mem.no_le _) (.cons (Mem.le.refl _) (Sub.nil _))))) (v := .pointer (some ⟨g_2, 5, none⟩)) (fun w hS => r_fieldAddr hm Try.underlying43 rfl ti26 rfl rfl rfl) ?_
          clear hm a; intro a hm
          refine h_event 17 [true, true, true, true, true, true, true, true, true, true, true, true, true, true, true, true, true, true, false, false, false].toArray rfl (by kernel_rfl) rfl ?_
          obtain ⟨w_52, hs', hS'⟩ := hS.store (P := Try.prog) (p := 1) (o := 5) (t := 26) (v := v_39) (vs := [v_39]) rfl ti26 hr_40.cellsA rfl rfl (by intro u hu; simp only [List.mem_cons, List.not_mem_nil, or_false] at hu; rcases hu with rfl <;> first | rfl | exact hr_40.one)
          refine s_store hm rfl rfl hs' ?_
          replace hS : Sep w0 w_52 [N_46, Mem.one g_2 (.cells ([.int .i64 x0.Sess, .int .i64 x0.Seq, .int .i64 x0.Cmd.Kind, .int .i64 x0.Cmd.Who, v_11, v_39, p0_2] : List Value).toArray 45 (0, 0)), Mem.one g_4 (.cells ([.int .i64 0, .int .i64 0, .int .i64 0, .int .i64 0, .slice none 0 0, .slice none 0 0, .slice none 0 0] : List Value).toArray 45 (0, 0)), M_13, M_41, M_49] Z := hS'
          clear hs' hS'
          refine wpList_nil ?_
          refine x_then_n ⟨(hS.sub (.cons (le_10.trans (le_38.trans le_46)) (.cons (Mem.no_le _) (.cons (Mem.le.refl _) (Sub.nil _))))), ?_⟩
          refine h_take 18 [true, true, true, true, true, true, true, true, true, true, true, true, true, true, true, true, true, true, true, false, false].toArray rfl (by kernel_rfl) (by kernel_rfl) (by kernel_rfl) (fun _ _ _ _ h => h) rfl rfl rfl rfl hm (hS.sub (.cons (le_10.trans (le_38.trans le_46)) (.cons (Mem.no_le _) (.cons (Mem.le.refl _) (Sub.nil _))))) (v := .pointer (some ⟨g_2, 2, none⟩)) (fun w hS => r_fieldAddr hm Try.underlying45 rfl ti43 rfl rfl rfl) ?_
          clear hm a; intro a hm
          refine h_take 19 [true, true, true, true, true, true, true, true, true, true, true, true, true, true, true, true, true, true, true, true, false].toArray rfl (by kernel_rfl) (by kernel_rfl) (by kernel_rfl) (fun _ _ _ _ h => h) rfl rfl rfl rfl hm (hS.sub (.cons (le_10.trans (le_38.trans le_46)) (.cons (Mem.no_le _) (.cons (Mem.le.refl _) (Sub.nil _))))) (v := .pointer (some ⟨g_2, 6, none⟩)) (fun w hS => r_fieldAddr hm Try.underlying43 rfl ti26 rfl rfl rfl) ?_
          clear hm a; intro a hm
          refine h_event 20 [true, true, true, true, true, true, true, true, true, true, true, true, true, true, true, true, true, true, true, true, true].toArray rfl (by kernel_rfl) rfl ?_
          obtain ⟨w_53, hs', hS'⟩ := hS.store (P := Try.prog) (p := 1) (o := 6) (t := 26) (v := v_47) (vs := [v_47]) rfl ti26 hr_48.cellsA rfl rfl (by intro u hu; simp only [List.mem_cons, List.not_mem_nil, or_false] at hu; rcases hu with rfl <;> first | rfl | exact hr_48.one)
          refine s_store hm rfl rfl hs' ?_
          replace hS : Sep w0 w_53 [N_46, Mem.one g_2 (.cells ([.int .i64 x0.Sess, .int .i64 x0.Seq, .int .i64 x0.Cmd.Kind, .int .i64 x0.Cmd.Who, v_11, v_39, v_47] : List Value).toArray 45 (0, 0)), Mem.one g_4 (.cells ([.int .i64 0, .int .i64 0, .int .i64 0, .int .i64 0, .slice none 0 0, .slice none 0 0, .slice none 0 0] : List Value).toArray 45 (0, 0)), M_13, M_41, M_49] Z := hS'
          clear hs' hS'
          refine wpList_nil ?_
          refine x_then_n ⟨(hS.sub (.cons (le_10.trans (le_38.trans le_46)) (.cons (Mem.no_le _) (.cons (Mem.le.refl _) (Sub.nil _))))), ?_⟩
          refine h_done (by kernel_rfl) ?_
          replace hm : Fr 22 a [(1, .pointer (some ⟨g_2, 0, none⟩)), (2, .pointer (some ⟨g_4, 0, none⟩))] := hm.keep [1, 2]
          refine x_then_n (hKJ_5 _ _ ?_)
          refine wp_seq ?_
          refine wp_region_lit ?_
          refine s_load hm rfl rfl (hS.load_agg (p := 1) (us := [.int .i64 x0.Sess, .int .i64 x0.Seq, .int .i64 x0.Cmd.Kind, .int .i64 x0.Cmd.Who, v_11, v_39, v_47]) rfl Try.underlying45 rfl ti45 rfl rfl) ?_
          clear hm a; intro a hm
          obtain ⟨w_54, hs', hS'⟩ := hS.store (P := Try.prog) (p := 2) (o := 0) (t := 45) (v := .agg ([.int .i64 x0.Sess, .int .i64 x0.Seq, .int .i64 x0.Cmd.Kind, .int .i64 x0.Cmd.Who, v_11, v_39, v_47] : List Value).toArray) (vs := [.int .i64 x0.Sess, .int .i64 x0.Seq, .int .i64 x0.Cmd.Kind, .int .i64 x0.Cmd.Who, v_11, v_39, v_47]) rfl ti45 rfl rfl rfl (by intro u hu; simp only [List.mem_cons, List.not_mem_nil, or_false] at hu; rcases hu with rfl | rfl | rfl | rfl | rfl | rfl | rfl <;> first | rfl | exact hr_12.one | exact hr_40.one | exact hr_48.one)
          refine s_store hm rfl rfl hs' ?_
          replace hS : Sep w0 w_54 [N_46, Mem.one g_2 (.cells ([.int .i64 x0.Sess, .int .i64 x0.Seq, .int .i64 x0.Cmd.Kind, .int .i64 x0.Cmd.Who, v_11, v_39, v_47] : List Value).toArray 45 (0, 0)), Mem.one g_4 (.cells ([.int .i64 x0.Sess, .int .i64 x0.Seq, .int .i64 x0.Cmd.Kind, .int .i64 x0.Cmd.Who, v_11, v_39, v_47] : List Value).toArray 45 (0, 0)), M_13, M_41, M_49] Z := hS'
          clear hs' hS'
          refine wpList_nil ?_
          replace hm : Fr 22 a [(2, .pointer (some ⟨g_4, 0, none⟩))] := hm.keep [2]
          refine x_then_n ?_
          refine wp_ret ?_
          obtain rfl := Option.some.inj H
          exact f_ret hm (rs := [.cell 2 45]) rfl (.cell rfl (hS.load_agg (p := 2) (us := [.int .i64 x0.Sess, .int .i64 x0.Seq, .int .i64 x0.Cmd.Kind, .int .i64 x0.Cmd.Who, v_11, v_39, v_47]) rfl Try.underlying45 rfl ti45 rfl rfl) .nil) ⟨_, rfl, v_11, v_39, v_47, N_46, M_13, M_41, M_49, rfl, (Sep.sel hS [0, 3, 4, 5] (by decide)), hr_12, hr_40, hr_48⟩
      · refine ⟨_, [true, true, true, true, true, true, false, false, true, true, true, false, false, false, false, false, false, false, false, false, false].toArray, rfl, rfl, ?_⟩
        refine s_load hm rfl rfl (hS.load_one (p := 1) rfl Try.underlying26 rfl rfl) ?_
        clear hm a; intro a hm
        refine wpList_nil ?_
        refine x_then_n ⟨(hS.sub (.cons le_10 (.cons (Mem.no_le _) (.cons (Mem.le.refl _) (Sub.nil _))))), ?_⟩
        refine h_event 6 [true, true, true, true, true, true, true, false, true, true, true, false, false, false, false, false, false, false, false, false, false].toArray rfl (by kernel_rfl) rfl ?_
        refine s_load hm rfl rfl (hS.load_one (p := 1) rfl Try.underlying26 rfl rfl) ?_
        clear hm a; intro a hm
        refine wpList_nil ?_
        refine x_then_n ⟨(hS.sub (.cons le_10 (.cons (Mem.no_le _) (.cons (Mem.le.refl _) (Sub.nil _))))), ?_⟩
        refine h_take 12 [true, true, true, true, true, true, true, false, true, true, true, false, true, false, false, false, false, false, false, false, false].toArray rfl (by kernel_rfl) (by kernel_rfl) (by kernel_rfl) (fun _ _ _ _ h => h) rfl rfl rfl rfl hm (hS.sub (.cons le_10 (.cons (Mem.no_le _) (.cons (Mem.le.refl _) (Sub.nil _))))) (v := .pointer (some ⟨g_2, 2, none⟩)) (fun w hS => r_fieldAddr hm Try.underlying45 rfl ti43 rfl rfl rfl) ?_
        clear hm a; intro a hm
        refine h_take 13 [true, true, true, true, true, true, true, false, true, true, true, false, true, true, false, false, false, false, false, false, false].toArray rfl (by kernel_rfl) (by kernel_rfl) (by kernel_rfl) (fun _ _ _ _ h => h) rfl rfl rfl rfl hm (hS.sub (.cons le_10 (.cons (Mem.no_le _) (.cons (Mem.le.refl _) (Sub.nil _))))) (v := .pointer (some ⟨g_2, 4, none⟩)) (fun w hS => r_fieldAddr hm Try.underlying43 rfl ti26 rfl rfl rfl) ?_
        clear hm a; intro a hm
        refine h_event 7 [true, true, true, true, true, true, true, true, true, true, true, false, true, true, false, false, false, false, false, false, false].toArray rfl (by kernel_rfl) rfl ?_
        refine s_call hm rfl Try.call49 rfl (slices_Clone_sbyte_byte.calls x0.Cmd.Val _ t_15 w0 _ _ _ (Mem.le.refl _) (hS.enter [] (by decide)) (hp0_1.mono (hA.trans (hS.le_zed []))) et_15) ?_
        rintro v_59 w_56 ⟨_, N_57, M_61, rfl, hS', hr_60⟩
        clear hm a; intro a hm
        obtain ⟨N_58, hS'', le_58, ln_58⟩ := hS.call [] (by decide) rfl (l' := []) (ow := [M_61]) rfl hS'
        replace hS : Sep w0 w_56 [N_58, Mem.one g_2 (.cells ([.int .i64 x0.Sess, .int .i64 x0.Seq, .int .i64 x0.Cmd.Kind, .int .i64 x0.Cmd.Who, p0_0, p0_1, p0_2] : List Value).toArray 45 (0, 0)), Mem.one g_4 (.cells ([.int .i64 0, .int .i64 0, .int .i64 0, .int .i64 0, .slice none 0 0, .slice none 0 0, .slice none 0 0] : List Value).toArray 45 (0, 0)), M_13, M_61] Z := hS''
        clear hS' hS''
        refine wpList_nil ?_
        refine x_then_n ⟨(hS.sub (.cons (le_10.trans le_58) (.cons (Mem.no_le _) (.cons (Mem.le.refl _) (Sub.nil _))))), ?_⟩
        refine h_event 11 [true, true, true, true, true, true, true, true, true, true, true, true, true, true, false, false, false, false, false, false, false].toArray rfl (by kernel_rfl) rfl ?_
        refine s_call hm rfl Try.call49 rfl (slices_Clone_sbyte_byte.calls x0.Cmd.Old _ t_23 w0 _ _ _ (Mem.le.refl _) (hS.enter [] (by decide)) (hp0_2.mono (hA.trans (hS.le_zed []))) et_23) ?_
        rintro v_67 w_64 ⟨_, N_65, M_69, rfl, hS', hr_68⟩
        clear hm a; intro a hm
        obtain ⟨N_66, hS'', le_66, ln_66⟩ := hS.call [] (by decide) rfl (l' := []) (ow := [M_69]) rfl hS'
        replace hS : Sep w0 w_64 [N_66, Mem.one g_2 (.cells ([.int .i64 x0.Sess, .int .i64 x0.Seq, .int .i64 x0.Cmd.Kind, .int .i64 x0.Cmd.Who, p0_0, p0_1, p0_2] : List Value).toArray 45 (0, 0)), Mem.one g_4 (.cells ([.int .i64 0, .int .i64 0, .int .i64 0, .int .i64 0, .slice none 0 0, .slice none 0 0, .slice none 0 0] : List Value).toArray 45 (0, 0)), M_13, M_61, M_69] Z := hS''
        clear hS' hS''
        refine wpList_nil ?_
        refine x_then_n ⟨(hS.sub (.cons (le_10.trans (le_58.trans le_66)) (.cons (Mem.no_le _) (.cons (Mem.le.refl _) (Sub.nil _))))), ?_⟩
        refine h_event 14 [true, true, true, true, true, true, true, true, true, true, true, true, true, true, true, false, false, false, false, false, false].toArray rfl (by kernel_rfl) rfl ?_
        obtain ⟨w_71, hs', hS'⟩ := hS.store (P := Try.prog) (p := 1) (o := 4) (t := 26) (v := v_11) (vs := [v_11]) rfl ti26 hr_12.cellsA rfl rfl (by intro u hu; simp only [List.mem_cons, List.not_mem_nil, or_false] at hu; rcases hu with rfl <;> first | rfl | exact hr_12.one)
        refine s_store hm rfl rfl hs' ?_
        replace hS : Sep w0 w_71 [N_66, Mem.one g_2 (.cells ([.int .i64 x0.Sess, .int .i64 x0.Seq, .int .i64 x0.Cmd.Kind, .int .i64 x0.Cmd.Who, v_11, p0_1, p0_2] : List Value).toArray 45 (0, 0)), Mem.one g_4 (.cells ([.int .i64 0, .int .i64 0, .int .i64 0, .int .i64 0, .slice none 0 0, .slice none 0 0, .slice none 0 0] : List Value).toArray 45 (0, 0)), M_13, M_61, M_69] Z := hS'
        clear hs' hS'
        refine wpList_nil ?_
        refine x_then_n ⟨(hS.sub (.cons (le_10.trans (le_58.trans le_66)) (.cons (Mem.no_le _) (.cons (Mem.le.refl _) (Sub.nil _))))), ?_⟩
        refine h_take 15 [true, true, true, true, true, true, true, true, true, true, true, true, true, true, true, true, false, false, false, false, false].toArray rfl (by kernel_rfl) (by kernel_rfl) (by kernel_rfl) (fun _ _ _ _ h => h) rfl rfl rfl rfl hm (hS.sub (.cons (le_10.trans (le_58.trans le_66)) (.cons (Mem.no_le _) (.cons (Mem.le.refl _) (Sub.nil _))))) (v := .pointer (some ⟨g_2, 2, none⟩)) (fun w hS => r_fieldAddr hm Try.underlying45 rfl ti43 rfl rfl rfl) ?_
        clear hm a; intro a hm
        refine h_take 16 [true, true, true, true, true, true, true, true, true, true, true, true, true, true, true, true, true, false, false, false, false].toArray rfl (by kernel_rfl) (by kernel_rfl) (by kernel_rfl) (fun _ _ _ _ h => h) rfl rfl rfl rfl hm (hS.sub (.cons (le_10.trans (le_58.trans le_66)) (.cons (Mem.no_le _) (.cons (Mem.le.refl _) (Sub.nil _))))) (v := .pointer (some ⟨g_2, 5, none⟩)) (fun w hS => r_fieldAddr hm Try.underlying43 rfl ti26 rfl rfl rfl) ?_
        clear hm a; intro a hm
        refine h_event 17 [true, true, true, true, true, true, true, true, true, true, true, true, true, true, true, true, true, true, false, false, false].toArray rfl (by kernel_rfl) rfl ?_
        obtain ⟨w_72, hs', hS'⟩ := hS.store (P := Try.prog) (p := 1) (o := 5) (t := 26) (v := v_59) (vs := [v_59]) rfl ti26 hr_60.cellsA rfl rfl (by intro u hu; simp only [List.mem_cons, List.not_mem_nil, or_false] at hu; rcases hu with rfl <;> first | rfl | exact hr_60.one)
        refine s_store hm rfl rfl hs' ?_
        replace hS : Sep w0 w_72 [N_66, Mem.one g_2 (.cells ([.int .i64 x0.Sess, .int .i64 x0.Seq, .int .i64 x0.Cmd.Kind, .int .i64 x0.Cmd.Who, v_11, v_59, p0_2] : List Value).toArray 45 (0, 0)), Mem.one g_4 (.cells ([.int .i64 0, .int .i64 0, .int .i64 0, .int .i64 0, .slice none 0 0, .slice none 0 0, .slice none 0 0] : List Value).toArray 45 (0, 0)), M_13, M_61, M_69] Z := hS'
        clear hs' hS'
        refine wpList_nil ?_
        refine x_then_n ⟨(hS.sub (.cons (le_10.trans (le_58.trans le_66)) (.cons (Mem.no_le _) (.cons (Mem.le.refl _) (Sub.nil _))))), ?_⟩
        refine h_take 18 [true, true, true, true, true, true, true, true, true, true, true, true, true, true, true, true, true, true, true, false, false].toArray rfl (by kernel_rfl) (by kernel_rfl) (by kernel_rfl) (fun _ _ _ _ h => h) rfl rfl rfl rfl hm (hS.sub (.cons (le_10.trans (le_58.trans le_66)) (.cons (Mem.no_le _) (.cons (Mem.le.refl _) (Sub.nil _))))) (v := .pointer (some ⟨g_2, 2, none⟩)) (fun w hS => r_fieldAddr hm Try.underlying45 rfl ti43 rfl rfl rfl) ?_
        clear hm a; intro a hm
        refine h_take 19 [true, true, true, true, true, true, true, true, true, true, true, true, true, true, true, true, true, true, true, true, false].toArray rfl (by kernel_rfl) (by kernel_rfl) (by kernel_rfl) (fun _ _ _ _ h => h) rfl rfl rfl rfl hm (hS.sub (.cons (le_10.trans (le_58.trans le_66)) (.cons (Mem.no_le _) (.cons (Mem.le.refl _) (Sub.nil _))))) (v := .pointer (some ⟨g_2, 6, none⟩)) (fun w hS => r_fieldAddr hm Try.underlying43 rfl ti26 rfl rfl rfl) ?_
        clear hm a; intro a hm
        refine h_event 20 [true, true, true, true, true, true, true, true, true, true, true, true, true, true, true, true, true, true, true, true, true].toArray rfl (by kernel_rfl) rfl ?_
        obtain ⟨w_73, hs', hS'⟩ := hS.store (P := Try.prog) (p := 1) (o := 6) (t := 26) (v := v_67) (vs := [v_67]) rfl ti26 hr_68.cellsA rfl rfl (by intro u hu; simp only [List.mem_cons, List.not_mem_nil, or_false] at hu; rcases hu with rfl <;> first | rfl | exact hr_68.one)
        refine s_store hm rfl rfl hs' ?_
        replace hS : Sep w0 w_73 [N_66, Mem.one g_2 (.cells ([.int .i64 x0.Sess, .int .i64 x0.Seq, .int .i64 x0.Cmd.Kind, .int .i64 x0.Cmd.Who, v_11, v_59, v_67] : List Value).toArray 45 (0, 0)), Mem.one g_4 (.cells ([.int .i64 0, .int .i64 0, .int .i64 0, .int .i64 0, .slice none 0 0, .slice none 0 0, .slice none 0 0] : List Value).toArray 45 (0, 0)), M_13, M_61, M_69] Z := hS'
        clear hs' hS'
        refine wpList_nil ?_
        refine x_then_n ⟨(hS.sub (.cons (le_10.trans (le_58.trans le_66)) (.cons (Mem.no_le _) (.cons (Mem.le.refl _) (Sub.nil _))))), ?_⟩
        refine h_done (by kernel_rfl) ?_
        replace hm : Fr 22 a [(1, .pointer (some ⟨g_2, 0, none⟩)), (2, .pointer (some ⟨g_4, 0, none⟩))] := hm.keep [1, 2]
        refine x_then_n (hKJ_5 _ _ ?_)
        refine wp_seq ?_
        refine wp_region_lit ?_
        refine s_load hm rfl rfl (hS.load_agg (p := 1) (us := [.int .i64 x0.Sess, .int .i64 x0.Seq, .int .i64 x0.Cmd.Kind, .int .i64 x0.Cmd.Who, v_11, v_59, v_67]) rfl Try.underlying45 rfl ti45 rfl rfl) ?_
        clear hm a; intro a hm
        obtain ⟨w_74, hs', hS'⟩ := hS.store (P := Try.prog) (p := 2) (o := 0) (t := 45) (v := .agg ([.int .i64 x0.Sess, .int .i64 x0.Seq, .int .i64 x0.Cmd.Kind, .int .i64 x0.Cmd.Who, v_11, v_59, v_67] : List Value).toArray) (vs := [.int .i64 x0.Sess, .int .i64 x0.Seq, .int .i64 x0.Cmd.Kind, .int .i64 x0.Cmd.Who, v_11, v_59, v_67]) rfl ti45 rfl rfl rfl (by intro u hu; simp only [List.mem_cons, List.not_mem_nil, or_false] at hu; rcases hu with rfl | rfl | rfl | rfl | rfl | rfl | rfl <;> first | rfl | exact hr_12.one | exact hr_60.one | exact hr_68.one)
        refine s_store hm rfl rfl hs' ?_
        replace hS : Sep w0 w_74 [N_66, Mem.one g_2 (.cells ([.int .i64 x0.Sess, .int .i64 x0.Seq, .int .i64 x0.Cmd.Kind, .int .i64 x0.Cmd.Who, v_11, v_59, v_67] : List Value).toArray 45 (0, 0)), Mem.one g_4 (.cells ([.int .i64 x0.Sess, .int .i64 x0.Seq, .int .i64 x0.Cmd.Kind, .int .i64 x0.Cmd.Who, v_11, v_59, v_67] : List Value).toArray 45 (0, 0)), M_13, M_61, M_69] Z := hS'
        clear hs' hS'
        refine wpList_nil ?_
        replace hm : Fr 22 a [(2, .pointer (some ⟨g_4, 0, none⟩))] := hm.keep [2]
        refine x_then_n ?_
        refine wp_ret ?_
        obtain rfl := Option.some.inj H
        exact f_ret hm (rs := [.cell 2 45]) rfl (.cell rfl (hS.load_agg (p := 2) (us := [.int .i64 x0.Sess, .int .i64 x0.Seq, .int .i64 x0.Cmd.Kind, .int .i64 x0.Cmd.Who, v_11, v_59, v_67]) rfl Try.underlying45 rfl ti45 rfl rfl) .nil) ⟨_, rfl, v_11, v_59, v_67, N_66, M_13, M_61, M_69, rfl, (Sep.sel hS [0, 3, 4, 5] (by decide)), hr_12, hr_60, hr_68⟩
    · refine ⟨_, [true, true, true, false, true, true, true, false, true, true, false, false, false, false, false, false, false, false, false, false, false].toArray, rfl, rfl, ?_⟩
      refine s_load hm rfl rfl (hS.load_one (p := 1) rfl Try.underlying26 rfl rfl) ?_
      clear hm a; intro a hm
      refine wpList_nil ?_
      refine x_then_n ⟨(hS.sub (.cons (Mem.le.refl _) (.cons (Mem.no_le _) (.cons (Mem.le.refl _) (Sub.nil _))))), ?_⟩
      refine h_events [3, 10] (by kernel_rfl) (by simp) ?_
      intro i hi; simp only [List.mem_cons, List.not_mem_nil, or_false] at hi; rcases hi with rfl | rfl
      · refine ⟨_, [true, true, true, true, true, true, true, false, true, true, false, false, false, false, false, false, false, false, false, false, false].toArray, rfl, rfl, ?_⟩
        refine s_call hm rfl Try.call49 rfl (slices_Clone_sbyte_byte.calls x0.Cmd.Key _ t_7 w0 _ _ _ (Mem.le.refl _) (hS.enter [] (by decide)) (hp0_0.mono (hA.trans (hS.le_zed []))) et_7) ?_
        rintro v_79 w_76 ⟨_, N_77, M_81, rfl, hS', hr_80⟩
        clear hm a; intro a hm
        obtain ⟨N_78, hS'', le_78, ln_78⟩ := hS.call [] (by decide) rfl (l' := []) (ow := [M_81]) rfl hS'
        replace hS : Sep w0 w_76 [N_78, Mem.one g_2 (.cells ([.int .i64 x0.Sess, .int .i64 x0.Seq, .int .i64 x0.Cmd.Kind, .int .i64 x0.Cmd.Who, p0_0, p0_1, p0_2] : List Value).toArray 45 (0, 0)), Mem.one g_4 (.cells ([.int .i64 0, .int .i64 0, .int .i64 0, .int .i64 0, .slice none 0 0, .slice none 0 0, .slice none 0 0] : List Value).toArray 45 (0, 0)), M_81] Z := hS''
        clear hS' hS''
        refine wpList_nil ?_
        refine x_then_n ⟨(hS.sub (.cons le_78 (.cons (Mem.no_le _) (.cons (Mem.le.refl _) (Sub.nil _))))), ?_⟩
        refine h_events [7, 10] (by kernel_rfl) (by simp) ?_
        intro i hi; simp only [List.mem_cons, List.not_mem_nil, or_false] at hi; rcases hi with rfl | rfl
        · refine ⟨_, [true, true, true, true, true, true, true, true, true, true, false, false, false, false, false, false, false, false, false, false, false].toArray, rfl, rfl, ?_⟩
          refine s_call hm rfl Try.call49 rfl (slices_Clone_sbyte_byte.calls x0.Cmd.Val _ t_15 w0 _ _ _ (Mem.le.refl _) (hS.enter [] (by decide)) (hp0_1.mono (hA.trans (hS.le_zed []))) et_15) ?_
          rintro v_87 w_84 ⟨_, N_85, M_89, rfl, hS', hr_88⟩
          clear hm a; intro a hm
          obtain ⟨N_86, hS'', le_86, ln_86⟩ := hS.call [] (by decide) rfl (l' := []) (ow := [M_89]) rfl hS'
          replace hS : Sep w0 w_84 [N_86, Mem.one g_2 (.cells ([.int .i64 x0.Sess, .int .i64 x0.Seq, .int .i64 x0.Cmd.Kind, .int .i64 x0.Cmd.Who, p0_0, p0_1, p0_2] : List Value).toArray 45 (0, 0)), Mem.one g_4 (.cells ([.int .i64 0, .int .i64 0, .int .i64 0, .int .i64 0, .slice none 0 0, .slice none 0 0, .slice none 0 0] : List Value).toArray 45 (0, 0)), M_81, M_89] Z := hS''
          clear hS' hS''
          refine wpList_nil ?_
          refine x_then_n ⟨(hS.sub (.cons (le_78.trans le_86) (.cons (Mem.no_le _) (.cons (Mem.le.refl _) (Sub.nil _))))), ?_⟩
          refine h_event 10 [true, true, true, true, true, true, true, true, true, true, true, false, false, false, false, false, false, false, false, false, false].toArray rfl (by kernel_rfl) rfl ?_
          refine s_load hm rfl rfl (hS.load_one (p := 1) rfl Try.underlying26 rfl rfl) ?_
          clear hm a; intro a hm
          refine wpList_nil ?_
          refine x_then_n ⟨(hS.sub (.cons (le_78.trans le_86) (.cons (Mem.no_le _) (.cons (Mem.le.refl _) (Sub.nil _))))), ?_⟩
          refine h_take 12 [true, true, true, true, true, true, true, true, true, true, true, false, true, false, false, false, false, false, false, false, false].toArray rfl (by kernel_rfl) (by kernel_rfl) (by kernel_rfl) (fun _ _ _ _ h => h) rfl rfl rfl rfl hm (hS.sub (.cons (le_78.trans le_86) (.cons (Mem.no_le _) (.cons (Mem.le.refl _) (Sub.nil _))))) (v := .pointer (some ⟨g_2, 2, none⟩)) (fun w hS => r_fieldAddr hm Try.underlying45 rfl ti43 rfl rfl rfl) ?_
          clear hm a; intro a hm
          refine h_take 13 [true, true, true, true, true, true, true, true, true, true, true, false, true, true, false, false, false, false, false, false, false].toArray rfl (by kernel_rfl) (by kernel_rfl) (by kernel_rfl) (fun _ _ _ _ h => h) rfl rfl rfl rfl hm (hS.sub (.cons (le_78.trans le_86) (.cons (Mem.no_le _) (.cons (Mem.le.refl _) (Sub.nil _))))) (v := .pointer (some ⟨g_2, 4, none⟩)) (fun w hS => r_fieldAddr hm Try.underlying43 rfl ti26 rfl rfl rfl) ?_
          clear hm a; intro a hm
          refine h_event 11 [true, true, true, true, true, true, true, true, true, true, true, true, true, true, false, false, false, false, false, false, false].toArray rfl (by kernel_rfl) rfl ?_
          refine s_call hm rfl Try.call49 rfl (slices_Clone_sbyte_byte.calls x0.Cmd.Old _ t_23 w0 _ _ _ (Mem.le.refl _) (hS.enter [] (by decide)) (hp0_2.mono (hA.trans (hS.le_zed []))) et_23) ?_
          rintro v_95 w_92 ⟨_, N_93, M_97, rfl, hS', hr_96⟩
          clear hm a; intro a hm
          obtain ⟨N_94, hS'', le_94, ln_94⟩ := hS.call [] (by decide) rfl (l' := []) (ow := [M_97]) rfl hS'
          replace hS : Sep w0 w_92 [N_94, Mem.one g_2 (.cells ([.int .i64 x0.Sess, .int .i64 x0.Seq, .int .i64 x0.Cmd.Kind, .int .i64 x0.Cmd.Who, p0_0, p0_1, p0_2] : List Value).toArray 45 (0, 0)), Mem.one g_4 (.cells ([.int .i64 0, .int .i64 0, .int .i64 0, .int .i64 0, .slice none 0 0, .slice none 0 0, .slice none 0 0] : List Value).toArray 45 (0, 0)), M_81, M_89, M_97] Z := hS''
          clear hS' hS''
          refine wpList_nil ?_
          refine x_then_n ⟨(hS.sub (.cons (le_78.trans (le_86.trans le_94)) (.cons (Mem.no_le _) (.cons (Mem.le.refl _) (Sub.nil _))))), ?_⟩
          refine h_event 14 [true, true, true, true, true, true, true, true, true, true, true, true, true, true, true, false, false, false, false, false, false].toArray rfl (by kernel_rfl) rfl ?_
          obtain ⟨w_99, hs', hS'⟩ := hS.store (P := Try.prog) (p := 1) (o := 4) (t := 26) (v := v_79) (vs := [v_79]) rfl ti26 hr_80.cellsA rfl rfl (by intro u hu; simp only [List.mem_cons, List.not_mem_nil, or_false] at hu; rcases hu with rfl <;> first | rfl | exact hr_80.one)
          refine s_store hm rfl rfl hs' ?_
          replace hS : Sep w0 w_99 [N_94, Mem.one g_2 (.cells ([.int .i64 x0.Sess, .int .i64 x0.Seq, .int .i64 x0.Cmd.Kind, .int .i64 x0.Cmd.Who, v_79, p0_1, p0_2] : List Value).toArray 45 (0, 0)), Mem.one g_4 (.cells ([.int .i64 0, .int .i64 0, .int .i64 0, .int .i64 0, .slice none 0 0, .slice none 0 0, .slice none 0 0] : List Value).toArray 45 (0, 0)), M_81, M_89, M_97] Z := hS'
          clear hs' hS'
          refine wpList_nil ?_
          refine x_then_n ⟨(hS.sub (.cons (le_78.trans (le_86.trans le_94)) (.cons (Mem.no_le _) (.cons (Mem.le.refl _) (Sub.nil _))))), ?_⟩
          refine h_take 15 [true, true, true, true, true, true, true, true, true, true, true, true, true, true, true, true, false, false, false, false, false].toArray rfl (by kernel_rfl) (by kernel_rfl) (by kernel_rfl) (fun _ _ _ _ h => h) rfl rfl rfl rfl hm (hS.sub (.cons (le_78.trans (le_86.trans le_94)) (.cons (Mem.no_le _) (.cons (Mem.le.refl _) (Sub.nil _))))) (v := .pointer (some ⟨g_2, 2, none⟩)) (fun w hS => r_fieldAddr hm Try.underlying45 rfl ti43 rfl rfl rfl) ?_
          clear hm a; intro a hm
          refine h_take 16 [true, true, true, true, true, true, true, true, true, true, true, true, true, true, true, true, true, false, false, false, false].toArray rfl (by kernel_rfl) (by kernel_rfl) (by kernel_rfl) (fun _ _ _ _ h => h) rfl rfl rfl rfl hm (hS.sub (.cons (le_78.trans (le_86.trans le_94)) (.cons (Mem.no_le _) (.cons (Mem.le.refl _) (Sub.nil _))))) (v := .pointer (some ⟨g_2, 5, none⟩)) (fun w hS => r_fieldAddr hm Try.underlying43 rfl ti26 rfl rfl rfl) ?_
          clear hm a; intro a hm
          refine h_event 17 [true, true, true, true, true, true, true, true, true, true, true, true, true, true, true, true, true, true, false, false, false].toArray rfl (by kernel_rfl) rfl ?_
          obtain ⟨w_100, hs', hS'⟩ := hS.store (P := Try.prog) (p := 1) (o := 5) (t := 26) (v := v_87) (vs := [v_87]) rfl ti26 hr_88.cellsA rfl rfl (by intro u hu; simp only [List.mem_cons, List.not_mem_nil, or_false] at hu; rcases hu with rfl <;> first | rfl | exact hr_88.one)
          refine s_store hm rfl rfl hs' ?_
          replace hS : Sep w0 w_100 [N_94, Mem.one g_2 (.cells ([.int .i64 x0.Sess, .int .i64 x0.Seq, .int .i64 x0.Cmd.Kind, .int .i64 x0.Cmd.Who, v_79, v_87, p0_2] : List Value).toArray 45 (0, 0)), Mem.one g_4 (.cells ([.int .i64 0, .int .i64 0, .int .i64 0, .int .i64 0, .slice none 0 0, .slice none 0 0, .slice none 0 0] : List Value).toArray 45 (0, 0)), M_81, M_89, M_97] Z := hS'
          clear hs' hS'
          refine wpList_nil ?_
          refine x_then_n ⟨(hS.sub (.cons (le_78.trans (le_86.trans le_94)) (.cons (Mem.no_le _) (.cons (Mem.le.refl _) (Sub.nil _))))), ?_⟩
          refine h_take 18 [true, true, true, true, true, true, true, true, true, true, true, true, true, true, true, true, true, true, true, false, false].toArray rfl (by kernel_rfl) (by kernel_rfl) (by kernel_rfl) (fun _ _ _ _ h => h) rfl rfl rfl rfl hm (hS.sub (.cons (le_78.trans (le_86.trans le_94)) (.cons (Mem.no_le _) (.cons (Mem.le.refl _) (Sub.nil _))))) (v := .pointer (some ⟨g_2, 2, none⟩)) (fun w hS => r_fieldAddr hm Try.underlying45 rfl ti43 rfl rfl rfl) ?_
          clear hm a; intro a hm
          refine h_take 19 [true, true, true, true, true, true, true, true, true, true, true, true, true, true, true, true, true, true, true, true, false].toArray rfl (by kernel_rfl) (by kernel_rfl) (by kernel_rfl) (fun _ _ _ _ h => h) rfl rfl rfl rfl hm (hS.sub (.cons (le_78.trans (le_86.trans le_94)) (.cons (Mem.no_le _) (.cons (Mem.le.refl _) (Sub.nil _))))) (v := .pointer (some ⟨g_2, 6, none⟩)) (fun w hS => r_fieldAddr hm Try.underlying43 rfl ti26 rfl rfl rfl) ?_
          clear hm a; intro a hm
          refine h_event 20 [true, true, true, true, true, true, true, true, true, true, true, true, true, true, true, true, true, true, true, true, true].toArray rfl (by kernel_rfl) rfl ?_
          obtain ⟨w_101, hs', hS'⟩ := hS.store (P := Try.prog) (p := 1) (o := 6) (t := 26) (v := v_95) (vs := [v_95]) rfl ti26 hr_96.cellsA rfl rfl (by intro u hu; simp only [List.mem_cons, List.not_mem_nil, or_false] at hu; rcases hu with rfl <;> first | rfl | exact hr_96.one)
          refine s_store hm rfl rfl hs' ?_
          replace hS : Sep w0 w_101 [N_94, Mem.one g_2 (.cells ([.int .i64 x0.Sess, .int .i64 x0.Seq, .int .i64 x0.Cmd.Kind, .int .i64 x0.Cmd.Who, v_79, v_87, v_95] : List Value).toArray 45 (0, 0)), Mem.one g_4 (.cells ([.int .i64 0, .int .i64 0, .int .i64 0, .int .i64 0, .slice none 0 0, .slice none 0 0, .slice none 0 0] : List Value).toArray 45 (0, 0)), M_81, M_89, M_97] Z := hS'
          clear hs' hS'
          refine wpList_nil ?_
          refine x_then_n ⟨(hS.sub (.cons (le_78.trans (le_86.trans le_94)) (.cons (Mem.no_le _) (.cons (Mem.le.refl _) (Sub.nil _))))), ?_⟩
          refine h_done (by kernel_rfl) ?_
          replace hm : Fr 22 a [(1, .pointer (some ⟨g_2, 0, none⟩)), (2, .pointer (some ⟨g_4, 0, none⟩))] := hm.keep [1, 2]
          refine x_then_n (hKJ_5 _ _ ?_)
          refine wp_seq ?_
          refine wp_region_lit ?_
          refine s_load hm rfl rfl (hS.load_agg (p := 1) (us := [.int .i64 x0.Sess, .int .i64 x0.Seq, .int .i64 x0.Cmd.Kind, .int .i64 x0.Cmd.Who, v_79, v_87, v_95]) rfl Try.underlying45 rfl ti45 rfl rfl) ?_
          clear hm a; intro a hm
          obtain ⟨w_102, hs', hS'⟩ := hS.store (P := Try.prog) (p := 2) (o := 0) (t := 45) (v := .agg ([.int .i64 x0.Sess, .int .i64 x0.Seq, .int .i64 x0.Cmd.Kind, .int .i64 x0.Cmd.Who, v_79, v_87, v_95] : List Value).toArray) (vs := [.int .i64 x0.Sess, .int .i64 x0.Seq, .int .i64 x0.Cmd.Kind, .int .i64 x0.Cmd.Who, v_79, v_87, v_95]) rfl ti45 rfl rfl rfl (by intro u hu; simp only [List.mem_cons, List.not_mem_nil, or_false] at hu; rcases hu with rfl | rfl | rfl | rfl | rfl | rfl | rfl <;> first | rfl | exact hr_80.one | exact hr_88.one | exact hr_96.one)
          refine s_store hm rfl rfl hs' ?_
          replace hS : Sep w0 w_102 [N_94, Mem.one g_2 (.cells ([.int .i64 x0.Sess, .int .i64 x0.Seq, .int .i64 x0.Cmd.Kind, .int .i64 x0.Cmd.Who, v_79, v_87, v_95] : List Value).toArray 45 (0, 0)), Mem.one g_4 (.cells ([.int .i64 x0.Sess, .int .i64 x0.Seq, .int .i64 x0.Cmd.Kind, .int .i64 x0.Cmd.Who, v_79, v_87, v_95] : List Value).toArray 45 (0, 0)), M_81, M_89, M_97] Z := hS'
          clear hs' hS'
          refine wpList_nil ?_
          replace hm : Fr 22 a [(2, .pointer (some ⟨g_4, 0, none⟩))] := hm.keep [2]
          refine x_then_n ?_
          refine wp_ret ?_
          obtain rfl := Option.some.inj H
          exact f_ret hm (rs := [.cell 2 45]) rfl (.cell rfl (hS.load_agg (p := 2) (us := [.int .i64 x0.Sess, .int .i64 x0.Seq, .int .i64 x0.Cmd.Kind, .int .i64 x0.Cmd.Who, v_79, v_87, v_95]) rfl Try.underlying45 rfl ti45 rfl rfl) .nil) ⟨_, rfl, v_79, v_87, v_95, N_94, M_81, M_89, M_97, rfl, (Sep.sel hS [0, 3, 4, 5] (by decide)), hr_80, hr_88, hr_96⟩
        · refine ⟨_, [true, true, true, true, true, true, true, false, true, true, true, false, false, false, false, false, false, false, false, false, false].toArray, rfl, rfl, ?_⟩
          refine s_load hm rfl rfl (hS.load_one (p := 1) rfl Try.underlying26 rfl rfl) ?_
          clear hm a; intro a hm
          refine wpList_nil ?_
          refine x_then_n ⟨(hS.sub (.cons le_78 (.cons (Mem.no_le _) (.cons (Mem.le.refl _) (Sub.nil _))))), ?_⟩
          refine h_take 12 [true, true, true, true, true, true, true, false, true, true, true, false, true, false, false, false, false, false, false, false, false].toArray rfl (by kernel_rfl) (by kernel_rfl) (by kernel_rfl) (fun _ _ _ _ h => h) rfl rfl rfl rfl hm (hS.sub (.cons le_78 (.cons (Mem.no_le _) (.cons (Mem.le.refl _) (Sub.nil _))))) (v := .pointer (some ⟨g_2, 2, none⟩)) (fun w hS => r_fieldAddr hm Try.underlying45 rfl ti43 rfl rfl rfl) ?_
          clear hm a; intro a hm
          refine h_take 13 [true, true, true, true, true, true, true, false, true, true, true, false, true, true, false, false, false, false, false, false, false].toArray rfl (by kernel_rfl) (by kernel_rfl) (by kernel_rfl) (fun _ _ _ _ h => h) rfl rfl rfl rfl hm (hS.sub (.cons le_78 (.cons (Mem.no_le _) (.cons (Mem.le.refl _) (Sub.nil _))))) (v := .pointer (some ⟨g_2, 4, none⟩)) (fun w hS => r_fieldAddr hm Try.underlying43 rfl ti26 rfl rfl rfl) ?_
          clear hm a; intro a hm
          refine h_event 7 [true, true, true, true, true, true, true, true, true, true, true, false, true, true, false, false, false, false, false, false, false].toArray rfl (by kernel_rfl) rfl ?_
          refine s_call hm rfl Try.call49 rfl (slices_Clone_sbyte_byte.calls x0.Cmd.Val _ t_15 w0 _ _ _ (Mem.le.refl _) (hS.enter [] (by decide)) (hp0_1.mono (hA.trans (hS.le_zed []))) et_15) ?_
          rintro v_107 w_104 ⟨_, N_105, M_109, rfl, hS', hr_108⟩
          clear hm a; intro a hm
          obtain ⟨N_106, hS'', le_106, ln_106⟩ := hS.call [] (by decide) rfl (l' := []) (ow := [M_109]) rfl hS'
          replace hS : Sep w0 w_104 [N_106, Mem.one g_2 (.cells ([.int .i64 x0.Sess, .int .i64 x0.Seq, .int .i64 x0.Cmd.Kind, .int .i64 x0.Cmd.Who, p0_0, p0_1, p0_2] : List Value).toArray 45 (0, 0)), Mem.one g_4 (.cells ([.int .i64 0, .int .i64 0, .int .i64 0, .int .i64 0, .slice none 0 0, .slice none 0 0, .slice none 0 0] : List Value).toArray 45 (0, 0)), M_81, M_109] Z := hS''
          clear hS' hS''
          refine wpList_nil ?_
          refine x_then_n ⟨(hS.sub (.cons (le_78.trans le_106) (.cons (Mem.no_le _) (.cons (Mem.le.refl _) (Sub.nil _))))), ?_⟩
          refine h_event 11 [true, true, true, true, true, true, true, true, true, true, true, true, true, true, false, false, false, false, false, false, false].toArray rfl (by kernel_rfl) rfl ?_
          refine s_call hm rfl Try.call49 rfl (slices_Clone_sbyte_byte.calls x0.Cmd.Old _ t_23 w0 _ _ _ (Mem.le.refl _) (hS.enter [] (by decide)) (hp0_2.mono (hA.trans (hS.le_zed []))) et_23) ?_
          rintro v_115 w_112 ⟨_, N_113, M_117, rfl, hS', hr_116⟩
          clear hm a; intro a hm
          obtain ⟨N_114, hS'', le_114, ln_114⟩ := hS.call [] (by decide) rfl (l' := []) (ow := [M_117]) rfl hS'
          replace hS : Sep w0 w_112 [N_114, Mem.one g_2 (.cells ([.int .i64 x0.Sess, .int .i64 x0.Seq, .int .i64 x0.Cmd.Kind, .int .i64 x0.Cmd.Who, p0_0, p0_1, p0_2] : List Value).toArray 45 (0, 0)), Mem.one g_4 (.cells ([.int .i64 0, .int .i64 0, .int .i64 0, .int .i64 0, .slice none 0 0, .slice none 0 0, .slice none 0 0] : List Value).toArray 45 (0, 0)), M_81, M_109, M_117] Z := hS''
          clear hS' hS''
          refine wpList_nil ?_
          refine x_then_n ⟨(hS.sub (.cons (le_78.trans (le_106.trans le_114)) (.cons (Mem.no_le _) (.cons (Mem.le.refl _) (Sub.nil _))))), ?_⟩
          refine h_event 14 [true, true, true, true, true, true, true, true, true, true, true, true, true, true, true, false, false, false, false, false, false].toArray rfl (by kernel_rfl) rfl ?_
          obtain ⟨w_119, hs', hS'⟩ := hS.store (P := Try.prog) (p := 1) (o := 4) (t := 26) (v := v_79) (vs := [v_79]) rfl ti26 hr_80.cellsA rfl rfl (by intro u hu; simp only [List.mem_cons, List.not_mem_nil, or_false] at hu; rcases hu with rfl <;> first | rfl | exact hr_80.one)
          refine s_store hm rfl rfl hs' ?_
          replace hS : Sep w0 w_119 [N_114, Mem.one g_2 (.cells ([.int .i64 x0.Sess, .int .i64 x0.Seq, .int .i64 x0.Cmd.Kind, .int .i64 x0.Cmd.Who, v_79, p0_1, p0_2] : List Value).toArray 45 (0, 0)), Mem.one g_4 (.cells ([.int .i64 0, .int .i64 0, .int .i64 0, .int .i64 0, .slice none 0 0, .slice none 0 0, .slice none 0 0] : List Value).toArray 45 (0, 0)), M_81, M_109, M_117] Z := hS'
          clear hs' hS'
          refine wpList_nil ?_
          refine x_then_n ⟨(hS.sub (.cons (le_78.trans (le_106.trans le_114)) (.cons (Mem.no_le _) (.cons (Mem.le.refl _) (Sub.nil _))))), ?_⟩
          refine h_take 15 [true, true, true, true, true, true, true, true, true, true, true, true, true, true, true, true, false, false, false, false, false].toArray rfl (by kernel_rfl) (by kernel_rfl) (by kernel_rfl) (fun _ _ _ _ h => h) rfl rfl rfl rfl hm (hS.sub (.cons (le_78.trans (le_106.trans le_114)) (.cons (Mem.no_le _) (.cons (Mem.le.refl _) (Sub.nil _))))) (v := .pointer (some ⟨g_2, 2, none⟩)) (fun w hS => r_fieldAddr hm Try.underlying45 rfl ti43 rfl rfl rfl) ?_
          clear hm a; intro a hm
          refine h_take 16 [true, true, true, true, true, true, true, true, true, true, true, true, true, true, true, true, true, false, false, false, false].toArray rfl (by kernel_rfl) (by kernel_rfl) (by kernel_rfl) (fun _ _ _ _ h => h) rfl rfl rfl rfl hm (hS.sub (.cons (le_78.trans (le_106.trans le_114)) (.cons (Mem.no_le _) (.cons (Mem.le.refl _) (Sub.nil _))))) (v := .pointer (some ⟨g_2, 5, none⟩)) (fun w hS => r_fieldAddr hm Try.underlying43 rfl ti26 rfl rfl rfl) ?_
          clear hm a; intro a hm
          refine h_event 17 [true, true, true, true, true, true, true, true, true, true, true, true, true, true, true, true, true, true, false, false, false].toArray rfl (by kernel_rfl) rfl ?_
          obtain ⟨w_120, hs', hS'⟩ := hS.store (P := Try.prog) (p := 1) (o := 5) (t := 26) (v := v_107) (vs := [v_107]) rfl ti26 hr_108.cellsA rfl rfl (by intro u hu; simp only [List.mem_cons, List.not_mem_nil, or_false] at hu; rcases hu with rfl <;> first | rfl | exact hr_108.one)
          refine s_store hm rfl rfl hs' ?_
          replace hS : Sep w0 w_120 [N_114, Mem.one g_2 (.cells ([.int .i64 x0.Sess, .int .i64 x0.Seq, .int .i64 x0.Cmd.Kind, .int .i64 x0.Cmd.Who, v_79, v_107, p0_2] : List Value).toArray 45 (0, 0)), Mem.one g_4 (.cells ([.int .i64 0, .int .i64 0, .int .i64 0, .int .i64 0, .slice none 0 0, .slice none 0 0, .slice none 0 0] : List Value).toArray 45 (0, 0)), M_81, M_109, M_117] Z := hS'
          clear hs' hS'
          refine wpList_nil ?_
          refine x_then_n ⟨(hS.sub (.cons (le_78.trans (le_106.trans le_114)) (.cons (Mem.no_le _) (.cons (Mem.le.refl _) (Sub.nil _))))), ?_⟩
          refine h_take 18 [true, true, true, true, true, true, true, true, true, true, true, true, true, true, true, true, true, true, true, false, false].toArray rfl (by kernel_rfl) (by kernel_rfl) (by kernel_rfl) (fun _ _ _ _ h => h) rfl rfl rfl rfl hm (hS.sub (.cons (le_78.trans (le_106.trans le_114)) (.cons (Mem.no_le _) (.cons (Mem.le.refl _) (Sub.nil _))))) (v := .pointer (some ⟨g_2, 2, none⟩)) (fun w hS => r_fieldAddr hm Try.underlying45 rfl ti43 rfl rfl rfl) ?_
          clear hm a; intro a hm
          refine h_take 19 [true, true, true, true, true, true, true, true, true, true, true, true, true, true, true, true, true, true, true, true, false].toArray rfl (by kernel_rfl) (by kernel_rfl) (by kernel_rfl) (fun _ _ _ _ h => h) rfl rfl rfl rfl hm (hS.sub (.cons (le_78.trans (le_106.trans le_114)) (.cons (Mem.no_le _) (.cons (Mem.le.refl _) (Sub.nil _))))) (v := .pointer (some ⟨g_2, 6, none⟩)) (fun w hS => r_fieldAddr hm Try.underlying43 rfl ti26 rfl rfl rfl) ?_
          clear hm a; intro a hm
          refine h_event 20 [true, true, true, true, true, true, true, true, true, true, true, true, true, true, true, true, true, true, true, true, true].toArray rfl (by kernel_rfl) rfl ?_
          obtain ⟨w_121, hs', hS'⟩ := hS.store (P := Try.prog) (p := 1) (o := 6) (t := 26) (v := v_115) (vs := [v_115]) rfl ti26 hr_116.cellsA rfl rfl (by intro u hu; simp only [List.mem_cons, List.not_mem_nil, or_false] at hu; rcases hu with rfl <;> first | rfl | exact hr_116.one)
          refine s_store hm rfl rfl hs' ?_
          replace hS : Sep w0 w_121 [N_114, Mem.one g_2 (.cells ([.int .i64 x0.Sess, .int .i64 x0.Seq, .int .i64 x0.Cmd.Kind, .int .i64 x0.Cmd.Who, v_79, v_107, v_115] : List Value).toArray 45 (0, 0)), Mem.one g_4 (.cells ([.int .i64 0, .int .i64 0, .int .i64 0, .int .i64 0, .slice none 0 0, .slice none 0 0, .slice none 0 0] : List Value).toArray 45 (0, 0)), M_81, M_109, M_117] Z := hS'
          clear hs' hS'
          refine wpList_nil ?_
          refine x_then_n ⟨(hS.sub (.cons (le_78.trans (le_106.trans le_114)) (.cons (Mem.no_le _) (.cons (Mem.le.refl _) (Sub.nil _))))), ?_⟩
          refine h_done (by kernel_rfl) ?_
          replace hm : Fr 22 a [(1, .pointer (some ⟨g_2, 0, none⟩)), (2, .pointer (some ⟨g_4, 0, none⟩))] := hm.keep [1, 2]
          refine x_then_n (hKJ_5 _ _ ?_)
          refine wp_seq ?_
          refine wp_region_lit ?_
          refine s_load hm rfl rfl (hS.load_agg (p := 1) (us := [.int .i64 x0.Sess, .int .i64 x0.Seq, .int .i64 x0.Cmd.Kind, .int .i64 x0.Cmd.Who, v_79, v_107, v_115]) rfl Try.underlying45 rfl ti45 rfl rfl) ?_
          clear hm a; intro a hm
          obtain ⟨w_122, hs', hS'⟩ := hS.store (P := Try.prog) (p := 2) (o := 0) (t := 45) (v := .agg ([.int .i64 x0.Sess, .int .i64 x0.Seq, .int .i64 x0.Cmd.Kind, .int .i64 x0.Cmd.Who, v_79, v_107, v_115] : List Value).toArray) (vs := [.int .i64 x0.Sess, .int .i64 x0.Seq, .int .i64 x0.Cmd.Kind, .int .i64 x0.Cmd.Who, v_79, v_107, v_115]) rfl ti45 rfl rfl rfl (by intro u hu; simp only [List.mem_cons, List.not_mem_nil, or_false] at hu; rcases hu with rfl | rfl | rfl | rfl | rfl | rfl | rfl <;> first | rfl | exact hr_80.one | exact hr_108.one | exact hr_116.one)
          refine s_store hm rfl rfl hs' ?_
          replace hS : Sep w0 w_122 [N_114, Mem.one g_2 (.cells ([.int .i64 x0.Sess, .int .i64 x0.Seq, .int .i64 x0.Cmd.Kind, .int .i64 x0.Cmd.Who, v_79, v_107, v_115] : List Value).toArray 45 (0, 0)), Mem.one g_4 (.cells ([.int .i64 x0.Sess, .int .i64 x0.Seq, .int .i64 x0.Cmd.Kind, .int .i64 x0.Cmd.Who, v_79, v_107, v_115] : List Value).toArray 45 (0, 0)), M_81, M_109, M_117] Z := hS'
          clear hs' hS'
          refine wpList_nil ?_
          replace hm : Fr 22 a [(2, .pointer (some ⟨g_4, 0, none⟩))] := hm.keep [2]
          refine x_then_n ?_
          refine wp_ret ?_
          obtain rfl := Option.some.inj H
          exact f_ret hm (rs := [.cell 2 45]) rfl (.cell rfl (hS.load_agg (p := 2) (us := [.int .i64 x0.Sess, .int .i64 x0.Seq, .int .i64 x0.Cmd.Kind, .int .i64 x0.Cmd.Who, v_79, v_107, v_115]) rfl Try.underlying45 rfl ti45 rfl rfl) .nil) ⟨_, rfl, v_79, v_107, v_115, N_114, M_81, M_109, M_117, rfl, (Sep.sel hS [0, 3, 4, 5] (by decide)), hr_80, hr_108, hr_116⟩
      · refine ⟨_, [true, true, true, false, true, true, true, false, true, true, true, false, false, false, false, false, false, false, false, false, false].toArray, rfl, rfl, ?_⟩
        refine s_load hm rfl rfl (hS.load_one (p := 1) rfl Try.underlying26 rfl rfl) ?_
        clear hm a; intro a hm
        refine wpList_nil ?_
        refine x_then_n ⟨(hS.sub (.cons (Mem.le.refl _) (.cons (Mem.no_le _) (.cons (Mem.le.refl _) (Sub.nil _))))), ?_⟩
        refine h_event 3 [true, true, true, true, true, true, true, false, true, true, true, false, false, false, false, false, false, false, false, false, false].toArray rfl (by kernel_rfl) rfl ?_
        refine s_call hm rfl Try.call49 rfl (slices_Clone_sbyte_byte.calls x0.Cmd.Key _ t_7 w0 _ _ _ (Mem.le.refl _) (hS.enter [] (by decide)) (hp0_0.mono (hA.trans (hS.le_zed []))) et_7) ?_
        rintro v_127 w_124 ⟨_, N_125, M_129, rfl, hS', hr_128⟩
        clear hm a; intro a hm
        obtain ⟨N_126, hS'', le_126, ln_126⟩ := hS.call [] (by decide) rfl (l' := []) (ow := [M_129]) rfl hS'
        replace hS : Sep w0 w_124 [N_126, Mem.one g_2 (.cells ([.int .i64 x0.Sess, .int .i64 x0.Seq, .int .i64 x0.Cmd.Kind, .int .i64 x0.Cmd.Who, p0_0, p0_1, p0_2] : List Value).toArray 45 (0, 0)), Mem.one g_4 (.cells ([.int .i64 0, .int .i64 0, .int .i64 0, .int .i64 0, .slice none 0 0, .slice none 0 0, .slice none 0 0] : List Value).toArray 45 (0, 0)), M_129] Z := hS''
        clear hS' hS''
        refine wpList_nil ?_
        refine x_then_n ⟨(hS.sub (.cons le_126 (.cons (Mem.no_le _) (.cons (Mem.le.refl _) (Sub.nil _))))), ?_⟩
        refine h_take 12 [true, true, true, true, true, true, true, false, true, true, true, false, true, false, false, false, false, false, false, false, false].toArray rfl (by kernel_rfl) (by kernel_rfl) (by kernel_rfl) (fun _ _ _ _ h => h) rfl rfl rfl rfl hm (hS.sub (.cons le_126 (.cons (Mem.no_le _) (.cons (Mem.le.refl _) (Sub.nil _))))) (v := .pointer (some ⟨g_2, 2, none⟩)) (fun w hS => r_fieldAddr hm Try.underlying45 rfl ti43 rfl rfl rfl) ?_
        clear hm a; intro a hm
        refine h_take 13 [true, true, true, true, true, true, true, false, true, true, true, false, true, true, false, false, false, false, false, false, false].toArray rfl (by kernel_rfl) (by kernel_rfl) (by kernel_rfl) (fun _ _ _ _ h => h) rfl rfl rfl rfl hm (hS.sub (.cons le_126 (.cons (Mem.no_le _) (.cons (Mem.le.refl _) (Sub.nil _))))) (v := .pointer (some ⟨g_2, 4, none⟩)) (fun w hS => r_fieldAddr hm Try.underlying43 rfl ti26 rfl rfl rfl) ?_
        clear hm a; intro a hm
        refine h_event 7 [true, true, true, true, true, true, true, true, true, true, true, false, true, true, false, false, false, false, false, false, false].toArray rfl (by kernel_rfl) rfl ?_
        refine s_call hm rfl Try.call49 rfl (slices_Clone_sbyte_byte.calls x0.Cmd.Val _ t_15 w0 _ _ _ (Mem.le.refl _) (hS.enter [] (by decide)) (hp0_1.mono (hA.trans (hS.le_zed []))) et_15) ?_
        rintro v_135 w_132 ⟨_, N_133, M_137, rfl, hS', hr_136⟩
        clear hm a; intro a hm
        obtain ⟨N_134, hS'', le_134, ln_134⟩ := hS.call [] (by decide) rfl (l' := []) (ow := [M_137]) rfl hS'
        replace hS : Sep w0 w_132 [N_134, Mem.one g_2 (.cells ([.int .i64 x0.Sess, .int .i64 x0.Seq, .int .i64 x0.Cmd.Kind, .int .i64 x0.Cmd.Who, p0_0, p0_1, p0_2] : List Value).toArray 45 (0, 0)), Mem.one g_4 (.cells ([.int .i64 0, .int .i64 0, .int .i64 0, .int .i64 0, .slice none 0 0, .slice none 0 0, .slice none 0 0] : List Value).toArray 45 (0, 0)), M_129, M_137] Z := hS''
        clear hS' hS''
        refine wpList_nil ?_
        refine x_then_n ⟨(hS.sub (.cons (le_126.trans le_134) (.cons (Mem.no_le _) (.cons (Mem.le.refl _) (Sub.nil _))))), ?_⟩
        refine h_event 11 [true, true, true, true, true, true, true, true, true, true, true, true, true, true, false, false, false, false, false, false, false].toArray rfl (by kernel_rfl) rfl ?_
        refine s_call hm rfl Try.call49 rfl (slices_Clone_sbyte_byte.calls x0.Cmd.Old _ t_23 w0 _ _ _ (Mem.le.refl _) (hS.enter [] (by decide)) (hp0_2.mono (hA.trans (hS.le_zed []))) et_23) ?_
        rintro v_143 w_140 ⟨_, N_141, M_145, rfl, hS', hr_144⟩
        clear hm a; intro a hm
        obtain ⟨N_142, hS'', le_142, ln_142⟩ := hS.call [] (by decide) rfl (l' := []) (ow := [M_145]) rfl hS'
        replace hS : Sep w0 w_140 [N_142, Mem.one g_2 (.cells ([.int .i64 x0.Sess, .int .i64 x0.Seq, .int .i64 x0.Cmd.Kind, .int .i64 x0.Cmd.Who, p0_0, p0_1, p0_2] : List Value).toArray 45 (0, 0)), Mem.one g_4 (.cells ([.int .i64 0, .int .i64 0, .int .i64 0, .int .i64 0, .slice none 0 0, .slice none 0 0, .slice none 0 0] : List Value).toArray 45 (0, 0)), M_129, M_137, M_145] Z := hS''
        clear hS' hS''
        refine wpList_nil ?_
        refine x_then_n ⟨(hS.sub (.cons (le_126.trans (le_134.trans le_142)) (.cons (Mem.no_le _) (.cons (Mem.le.refl _) (Sub.nil _))))), ?_⟩
        refine h_event 14 [true, true, true, true, true, true, true, true, true, true, true, true, true, true, true, false, false, false, false, false, false].toArray rfl (by kernel_rfl) rfl ?_
        obtain ⟨w_147, hs', hS'⟩ := hS.store (P := Try.prog) (p := 1) (o := 4) (t := 26) (v := v_127) (vs := [v_127]) rfl ti26 hr_128.cellsA rfl rfl (by intro u hu; simp only [List.mem_cons, List.not_mem_nil, or_false] at hu; rcases hu with rfl <;> first | rfl | exact hr_128.one)
        refine s_store hm rfl rfl hs' ?_
        replace hS : Sep w0 w_147 [N_142, Mem.one g_2 (.cells ([.int .i64 x0.Sess, .int .i64 x0.Seq, .int .i64 x0.Cmd.Kind, .int .i64 x0.Cmd.Who, v_127, p0_1, p0_2] : List Value).toArray 45 (0, 0)), Mem.one g_4 (.cells ([.int .i64 0, .int .i64 0, .int .i64 0, .int .i64 0, .slice none 0 0, .slice none 0 0, .slice none 0 0] : List Value).toArray 45 (0, 0)), M_129, M_137, M_145] Z := hS'
        clear hs' hS'
        refine wpList_nil ?_
        refine x_then_n ⟨(hS.sub (.cons (le_126.trans (le_134.trans le_142)) (.cons (Mem.no_le _) (.cons (Mem.le.refl _) (Sub.nil _))))), ?_⟩
        refine h_take 15 [true, true, true, true, true, true, true, true, true, true, true, true, true, true, true, true, false, false, false, false, false].toArray rfl (by kernel_rfl) (by kernel_rfl) (by kernel_rfl) (fun _ _ _ _ h => h) rfl rfl rfl rfl hm (hS.sub (.cons (le_126.trans (le_134.trans le_142)) (.cons (Mem.no_le _) (.cons (Mem.le.refl _) (Sub.nil _))))) (v := .pointer (some ⟨g_2, 2, none⟩)) (fun w hS => r_fieldAddr hm Try.underlying45 rfl ti43 rfl rfl rfl) ?_
        clear hm a; intro a hm
        refine h_take 16 [true, true, true, true, true, true, true, true, true, true, true, true, true, true, true, true, true, false, false, false, false].toArray rfl (by kernel_rfl) (by kernel_rfl) (by kernel_rfl) (fun _ _ _ _ h => h) rfl rfl rfl rfl hm (hS.sub (.cons (le_126.trans (le_134.trans le_142)) (.cons (Mem.no_le _) (.cons (Mem.le.refl _) (Sub.nil _))))) (v := .pointer (some ⟨g_2, 5, none⟩)) (fun w hS => r_fieldAddr hm Try.underlying43 rfl ti26 rfl rfl rfl) ?_
        clear hm a; intro a hm
        refine h_event 17 [true, true, true, true, true, true, true, true, true, true, true, true, true, true, true, true, true, true, false, false, false].toArray rfl (by kernel_rfl) rfl ?_
        obtain ⟨w_148, hs', hS'⟩ := hS.store (P := Try.prog) (p := 1) (o := 5) (t := 26) (v := v_135) (vs := [v_135]) rfl ti26 hr_136.cellsA rfl rfl (by intro u hu; simp only [List.mem_cons, List.not_mem_nil, or_false] at hu; rcases hu with rfl <;> first | rfl | exact hr_136.one)
        refine s_store hm rfl rfl hs' ?_
        replace hS : Sep w0 w_148 [N_142, Mem.one g_2 (.cells ([.int .i64 x0.Sess, .int .i64 x0.Seq, .int .i64 x0.Cmd.Kind, .int .i64 x0.Cmd.Who, v_127, v_135, p0_2] : List Value).toArray 45 (0, 0)), Mem.one g_4 (.cells ([.int .i64 0, .int .i64 0, .int .i64 0, .int .i64 0, .slice none 0 0, .slice none 0 0, .slice none 0 0] : List Value).toArray 45 (0, 0)), M_129, M_137, M_145] Z := hS'
        clear hs' hS'
        refine wpList_nil ?_
        refine x_then_n ⟨(hS.sub (.cons (le_126.trans (le_134.trans le_142)) (.cons (Mem.no_le _) (.cons (Mem.le.refl _) (Sub.nil _))))), ?_⟩
        refine h_take 18 [true, true, true, true, true, true, true, true, true, true, true, true, true, true, true, true, true, true, true, false, false].toArray rfl (by kernel_rfl) (by kernel_rfl) (by kernel_rfl) (fun _ _ _ _ h => h) rfl rfl rfl rfl hm (hS.sub (.cons (le_126.trans (le_134.trans le_142)) (.cons (Mem.no_le _) (.cons (Mem.le.refl _) (Sub.nil _))))) (v := .pointer (some ⟨g_2, 2, none⟩)) (fun w hS => r_fieldAddr hm Try.underlying45 rfl ti43 rfl rfl rfl) ?_
        clear hm a; intro a hm
        refine h_take 19 [true, true, true, true, true, true, true, true, true, true, true, true, true, true, true, true, true, true, true, true, false].toArray rfl (by kernel_rfl) (by kernel_rfl) (by kernel_rfl) (fun _ _ _ _ h => h) rfl rfl rfl rfl hm (hS.sub (.cons (le_126.trans (le_134.trans le_142)) (.cons (Mem.no_le _) (.cons (Mem.le.refl _) (Sub.nil _))))) (v := .pointer (some ⟨g_2, 6, none⟩)) (fun w hS => r_fieldAddr hm Try.underlying43 rfl ti26 rfl rfl rfl) ?_
        clear hm a; intro a hm
        refine h_event 20 [true, true, true, true, true, true, true, true, true, true, true, true, true, true, true, true, true, true, true, true, true].toArray rfl (by kernel_rfl) rfl ?_
        obtain ⟨w_149, hs', hS'⟩ := hS.store (P := Try.prog) (p := 1) (o := 6) (t := 26) (v := v_143) (vs := [v_143]) rfl ti26 hr_144.cellsA rfl rfl (by intro u hu; simp only [List.mem_cons, List.not_mem_nil, or_false] at hu; rcases hu with rfl <;> first | rfl | exact hr_144.one)
        refine s_store hm rfl rfl hs' ?_
        replace hS : Sep w0 w_149 [N_142, Mem.one g_2 (.cells ([.int .i64 x0.Sess, .int .i64 x0.Seq, .int .i64 x0.Cmd.Kind, .int .i64 x0.Cmd.Who, v_127, v_135, v_143] : List Value).toArray 45 (0, 0)), Mem.one g_4 (.cells ([.int .i64 0, .int .i64 0, .int .i64 0, .int .i64 0, .slice none 0 0, .slice none 0 0, .slice none 0 0] : List Value).toArray 45 (0, 0)), M_129, M_137, M_145] Z := hS'
        clear hs' hS'
        refine wpList_nil ?_
        refine x_then_n ⟨(hS.sub (.cons (le_126.trans (le_134.trans le_142)) (.cons (Mem.no_le _) (.cons (Mem.le.refl _) (Sub.nil _))))), ?_⟩
        refine h_done (by kernel_rfl) ?_
        replace hm : Fr 22 a [(1, .pointer (some ⟨g_2, 0, none⟩)), (2, .pointer (some ⟨g_4, 0, none⟩))] := hm.keep [1, 2]
        refine x_then_n (hKJ_5 _ _ ?_)
        refine wp_seq ?_
        refine wp_region_lit ?_
        refine s_load hm rfl rfl (hS.load_agg (p := 1) (us := [.int .i64 x0.Sess, .int .i64 x0.Seq, .int .i64 x0.Cmd.Kind, .int .i64 x0.Cmd.Who, v_127, v_135, v_143]) rfl Try.underlying45 rfl ti45 rfl rfl) ?_
        clear hm a; intro a hm
        obtain ⟨w_150, hs', hS'⟩ := hS.store (P := Try.prog) (p := 2) (o := 0) (t := 45) (v := .agg ([.int .i64 x0.Sess, .int .i64 x0.Seq, .int .i64 x0.Cmd.Kind, .int .i64 x0.Cmd.Who, v_127, v_135, v_143] : List Value).toArray) (vs := [.int .i64 x0.Sess, .int .i64 x0.Seq, .int .i64 x0.Cmd.Kind, .int .i64 x0.Cmd.Who, v_127, v_135, v_143]) rfl ti45 rfl rfl rfl (by intro u hu; simp only [List.mem_cons, List.not_mem_nil, or_false] at hu; rcases hu with rfl | rfl | rfl | rfl | rfl | rfl | rfl <;> first | rfl | exact hr_128.one | exact hr_136.one | exact hr_144.one)
        refine s_store hm rfl rfl hs' ?_
        replace hS : Sep w0 w_150 [N_142, Mem.one g_2 (.cells ([.int .i64 x0.Sess, .int .i64 x0.Seq, .int .i64 x0.Cmd.Kind, .int .i64 x0.Cmd.Who, v_127, v_135, v_143] : List Value).toArray 45 (0, 0)), Mem.one g_4 (.cells ([.int .i64 x0.Sess, .int .i64 x0.Seq, .int .i64 x0.Cmd.Kind, .int .i64 x0.Cmd.Who, v_127, v_135, v_143] : List Value).toArray 45 (0, 0)), M_129, M_137, M_145] Z := hS'
        clear hs' hS'
        refine wpList_nil ?_
        replace hm : Fr 22 a [(2, .pointer (some ⟨g_4, 0, none⟩))] := hm.keep [2]
        refine x_then_n ?_
        refine wp_ret ?_
        obtain rfl := Option.some.inj H
        exact f_ret hm (rs := [.cell 2 45]) rfl (.cell rfl (hS.load_agg (p := 2) (us := [.int .i64 x0.Sess, .int .i64 x0.Seq, .int .i64 x0.Cmd.Kind, .int .i64 x0.Cmd.Who, v_127, v_135, v_143]) rfl Try.underlying45 rfl ti45 rfl rfl) .nil) ⟨_, rfl, v_127, v_135, v_143, N_142, M_129, M_137, M_145, rfl, (Sep.sel hS [0, 3, 4, 5] (by decide)), hr_128, hr_136, hr_144⟩
    · refine ⟨_, [true, true, true, false, true, true, false, false, true, true, true, false, false, false, false, false, false, false, false, false, false].toArray, rfl, rfl, ?_⟩
      refine s_load hm rfl rfl (hS.load_one (p := 1) rfl Try.underlying26 rfl rfl) ?_
      clear hm a; intro a hm
      refine wpList_nil ?_
      refine x_then_n ⟨(hS.sub (.cons (Mem.le.refl _) (.cons (Mem.no_le _) (.cons (Mem.le.refl _) (Sub.nil _))))), ?_⟩
      refine h_events [3, 6] (by kernel_rfl) (by simp) ?_
      intro i hi; simp only [List.mem_cons, List.not_mem_nil, or_false] at hi; rcases hi with rfl | rfl
      · refine ⟨_, [true, true, true, true, true, true, false, false, true, true, true, false, false, false, false, false, false, false, false, false, false].toArray, rfl, rfl, ?_⟩
        refine s_call hm rfl Try.call49 rfl (slices_Clone_sbyte_byte.calls x0.Cmd.Key _ t_7 w0 _ _ _ (Mem.le.refl _) (hS.enter [] (by decide)) (hp0_0.mono (hA.trans (hS.le_zed []))) et_7) ?_
        rintro v_155 w_152 ⟨_, N_153, M_157, rfl, hS', hr_156⟩
        clear hm a; intro a hm
        obtain ⟨N_154, hS'', le_154, ln_154⟩ := hS.call [] (by decide) rfl (l' := []) (ow := [M_157]) rfl hS'
        replace hS : Sep w0 w_152 [N_154, Mem.one g_2 (.cells ([.int .i64 x0.Sess, .int .i64 x0.Seq, .int .i64 x0.Cmd.Kind, .int .i64 x0.Cmd.Who, p0_0, p0_1, p0_2] : List Value).toArray 45 (0, 0)), Mem.one g_4 (.cells ([.int .i64 0, .int .i64 0, .int .i64 0, .int .i64 0, .slice none 0 0, .slice none 0 0, .slice none 0 0] : List Value).toArray 45 (0, 0)), M_157] Z := hS''
        clear hS' hS''
        refine wpList_nil ?_
        refine x_then_n ⟨(hS.sub (.cons le_154 (.cons (Mem.no_le _) (.cons (Mem.le.refl _) (Sub.nil _))))), ?_⟩
        refine h_event 6 [true, true, true, true, true, true, true, false, true, true, true, false, false, false, false, false, false, false, false, false, false].toArray rfl (by kernel_rfl) rfl ?_
        refine s_load hm rfl rfl (hS.load_one (p := 1) rfl Try.underlying26 rfl rfl) ?_
        clear hm a; intro a hm
        refine wpList_nil ?_
        refine x_then_n ⟨(hS.sub (.cons le_154 (.cons (Mem.no_le _) (.cons (Mem.le.refl _) (Sub.nil _))))), ?_⟩
        refine h_take 12 [true, true, true, true, true, true, true, false, true, true, true, false, true, false, false, false, false, false, false, false, false].toArray rfl (by kernel_rfl) (by kernel_rfl) (by kernel_rfl) (fun _ _ _ _ h => h) rfl rfl rfl rfl hm (hS.sub (.cons le_154 (.cons (Mem.no_le _) (.cons (Mem.le.refl _) (Sub.nil _))))) (v := .pointer (some ⟨g_2, 2, none⟩)) (fun w hS => r_fieldAddr hm Try.underlying45 rfl ti43 rfl rfl rfl) ?_
        clear hm a; intro a hm
        refine h_take 13 [true, true, true, true, true, true, true, false, true, true, true, false, true, true, false, false, false, false, false, false, false].toArray rfl (by kernel_rfl) (by kernel_rfl) (by kernel_rfl) (fun _ _ _ _ h => h) rfl rfl rfl rfl hm (hS.sub (.cons le_154 (.cons (Mem.no_le _) (.cons (Mem.le.refl _) (Sub.nil _))))) (v := .pointer (some ⟨g_2, 4, none⟩)) (fun w hS => r_fieldAddr hm Try.underlying43 rfl ti26 rfl rfl rfl) ?_
        clear hm a; intro a hm
        refine h_event 7 [true, true, true, true, true, true, true, true, true, true, true, false, true, true, false, false, false, false, false, false, false].toArray rfl (by kernel_rfl) rfl ?_
        refine s_call hm rfl Try.call49 rfl (slices_Clone_sbyte_byte.calls x0.Cmd.Val _ t_15 w0 _ _ _ (Mem.le.refl _) (hS.enter [] (by decide)) (hp0_1.mono (hA.trans (hS.le_zed []))) et_15) ?_
        rintro v_163 w_160 ⟨_, N_161, M_165, rfl, hS', hr_164⟩
        clear hm a; intro a hm
        obtain ⟨N_162, hS'', le_162, ln_162⟩ := hS.call [] (by decide) rfl (l' := []) (ow := [M_165]) rfl hS'
        replace hS : Sep w0 w_160 [N_162, Mem.one g_2 (.cells ([.int .i64 x0.Sess, .int .i64 x0.Seq, .int .i64 x0.Cmd.Kind, .int .i64 x0.Cmd.Who, p0_0, p0_1, p0_2] : List Value).toArray 45 (0, 0)), Mem.one g_4 (.cells ([.int .i64 0, .int .i64 0, .int .i64 0, .int .i64 0, .slice none 0 0, .slice none 0 0, .slice none 0 0] : List Value).toArray 45 (0, 0)), M_157, M_165] Z := hS''
        clear hS' hS''
        refine wpList_nil ?_
        refine x_then_n ⟨(hS.sub (.cons (le_154.trans le_162) (.cons (Mem.no_le _) (.cons (Mem.le.refl _) (Sub.nil _))))), ?_⟩
        refine h_event 11 [true, true, true, true, true, true, true, true, true, true, true, true, true, true, false, false, false, false, false, false, false].toArray rfl (by kernel_rfl) rfl ?_
        refine s_call hm rfl Try.call49 rfl (slices_Clone_sbyte_byte.calls x0.Cmd.Old _ t_23 w0 _ _ _ (Mem.le.refl _) (hS.enter [] (by decide)) (hp0_2.mono (hA.trans (hS.le_zed []))) et_23) ?_
        rintro v_171 w_168 ⟨_, N_169, M_173, rfl, hS', hr_172⟩
        clear hm a; intro a hm
        obtain ⟨N_170, hS'', le_170, ln_170⟩ := hS.call [] (by decide) rfl (l' := []) (ow := [M_173]) rfl hS'
        replace hS : Sep w0 w_168 [N_170, Mem.one g_2 (.cells ([.int .i64 x0.Sess, .int .i64 x0.Seq, .int .i64 x0.Cmd.Kind, .int .i64 x0.Cmd.Who, p0_0, p0_1, p0_2] : List Value).toArray 45 (0, 0)), Mem.one g_4 (.cells ([.int .i64 0, .int .i64 0, .int .i64 0, .int .i64 0, .slice none 0 0, .slice none 0 0, .slice none 0 0] : List Value).toArray 45 (0, 0)), M_157, M_165, M_173] Z := hS''
        clear hS' hS''
        refine wpList_nil ?_
        refine x_then_n ⟨(hS.sub (.cons (le_154.trans (le_162.trans le_170)) (.cons (Mem.no_le _) (.cons (Mem.le.refl _) (Sub.nil _))))), ?_⟩
        refine h_event 14 [true, true, true, true, true, true, true, true, true, true, true, true, true, true, true, false, false, false, false, false, false].toArray rfl (by kernel_rfl) rfl ?_
        obtain ⟨w_175, hs', hS'⟩ := hS.store (P := Try.prog) (p := 1) (o := 4) (t := 26) (v := v_155) (vs := [v_155]) rfl ti26 hr_156.cellsA rfl rfl (by intro u hu; simp only [List.mem_cons, List.not_mem_nil, or_false] at hu; rcases hu with rfl <;> first | rfl | exact hr_156.one)
        refine s_store hm rfl rfl hs' ?_
        replace hS : Sep w0 w_175 [N_170, Mem.one g_2 (.cells ([.int .i64 x0.Sess, .int .i64 x0.Seq, .int .i64 x0.Cmd.Kind, .int .i64 x0.Cmd.Who, v_155, p0_1, p0_2] : List Value).toArray 45 (0, 0)), Mem.one g_4 (.cells ([.int .i64 0, .int .i64 0, .int .i64 0, .int .i64 0, .slice none 0 0, .slice none 0 0, .slice none 0 0] : List Value).toArray 45 (0, 0)), M_157, M_165, M_173] Z := hS'
        clear hs' hS'
        refine wpList_nil ?_
        refine x_then_n ⟨(hS.sub (.cons (le_154.trans (le_162.trans le_170)) (.cons (Mem.no_le _) (.cons (Mem.le.refl _) (Sub.nil _))))), ?_⟩
        refine h_take 15 [true, true, true, true, true, true, true, true, true, true, true, true, true, true, true, true, false, false, false, false, false].toArray rfl (by kernel_rfl) (by kernel_rfl) (by kernel_rfl) (fun _ _ _ _ h => h) rfl rfl rfl rfl hm (hS.sub (.cons (le_154.trans (le_162.trans le_170)) (.cons (Mem.no_le _) (.cons (Mem.le.refl _) (Sub.nil _))))) (v := .pointer (some ⟨g_2, 2, none⟩)) (fun w hS => r_fieldAddr hm Try.underlying45 rfl ti43 rfl rfl rfl) ?_
        clear hm a; intro a hm
        refine h_take 16 [true, true, true, true, true, true, true, true, true, true, true, true, true, true, true, true, true, false, false, false, false].toArray rfl (by kernel_rfl) (by kernel_rfl) (by kernel_rfl) (fun _ _ _ _ h => h) rfl rfl rfl rfl hm (hS.sub (.cons (le_154.trans (le_162.trans le_170)) (.cons (Mem.no_le _) (.cons (Mem.le.refl _) (Sub.nil _))))) (v := .pointer (some ⟨g_2, 5, none⟩)) (fun w hS => r_fieldAddr hm Try.underlying43 rfl ti26 rfl rfl rfl) ?_
        clear hm a; intro a hm
        refine h_event 17 [true, true, true, true, true, true, true, true, true, true, true, true, true, true, true, true, true, true, false, false, false].toArray rfl (by kernel_rfl) rfl ?_
        obtain ⟨w_176, hs', hS'⟩ := hS.store (P := Try.prog) (p := 1) (o := 5) (t := 26) (v := v_163) (vs := [v_163]) rfl ti26 hr_164.cellsA rfl rfl (by intro u hu; simp only [List.mem_cons, List.not_mem_nil, or_false] at hu; rcases hu with rfl <;> first | rfl | exact hr_164.one)
        refine s_store hm rfl rfl hs' ?_
        replace hS : Sep w0 w_176 [N_170, Mem.one g_2 (.cells ([.int .i64 x0.Sess, .int .i64 x0.Seq, .int .i64 x0.Cmd.Kind, .int .i64 x0.Cmd.Who, v_155, v_163, p0_2] : List Value).toArray 45 (0, 0)), Mem.one g_4 (.cells ([.int .i64 0, .int .i64 0, .int .i64 0, .int .i64 0, .slice none 0 0, .slice none 0 0, .slice none 0 0] : List Value).toArray 45 (0, 0)), M_157, M_165, M_173] Z := hS'
        clear hs' hS'
        refine wpList_nil ?_
        refine x_then_n ⟨(hS.sub (.cons (le_154.trans (le_162.trans le_170)) (.cons (Mem.no_le _) (.cons (Mem.le.refl _) (Sub.nil _))))), ?_⟩
        refine h_take 18 [true, true, true, true, true, true, true, true, true, true, true, true, true, true, true, true, true, true, true, false, false].toArray rfl (by kernel_rfl) (by kernel_rfl) (by kernel_rfl) (fun _ _ _ _ h => h) rfl rfl rfl rfl hm (hS.sub (.cons (le_154.trans (le_162.trans le_170)) (.cons (Mem.no_le _) (.cons (Mem.le.refl _) (Sub.nil _))))) (v := .pointer (some ⟨g_2, 2, none⟩)) (fun w hS => r_fieldAddr hm Try.underlying45 rfl ti43 rfl rfl rfl) ?_
        clear hm a; intro a hm
        refine h_take 19 [true, true, true, true, true, true, true, true, true, true, true, true, true, true, true, true, true, true, true, true, false].toArray rfl (by kernel_rfl) (by kernel_rfl) (by kernel_rfl) (fun _ _ _ _ h => h) rfl rfl rfl rfl hm (hS.sub (.cons (le_154.trans (le_162.trans le_170)) (.cons (Mem.no_le _) (.cons (Mem.le.refl _) (Sub.nil _))))) (v := .pointer (some ⟨g_2, 6, none⟩)) (fun w hS => r_fieldAddr hm Try.underlying43 rfl ti26 rfl rfl rfl) ?_
        clear hm a; intro a hm
        refine h_event 20 [true, true, true, true, true, true, true, true, true, true, true, true, true, true, true, true, true, true, true, true, true].toArray rfl (by kernel_rfl) rfl ?_
        obtain ⟨w_177, hs', hS'⟩ := hS.store (P := Try.prog) (p := 1) (o := 6) (t := 26) (v := v_171) (vs := [v_171]) rfl ti26 hr_172.cellsA rfl rfl (by intro u hu; simp only [List.mem_cons, List.not_mem_nil, or_false] at hu; rcases hu with rfl <;> first | rfl | exact hr_172.one)
        refine s_store hm rfl rfl hs' ?_
        replace hS : Sep w0 w_177 [N_170, Mem.one g_2 (.cells ([.int .i64 x0.Sess, .int .i64 x0.Seq, .int .i64 x0.Cmd.Kind, .int .i64 x0.Cmd.Who, v_155, v_163, v_171] : List Value).toArray 45 (0, 0)), Mem.one g_4 (.cells ([.int .i64 0, .int .i64 0, .int .i64 0, .int .i64 0, .slice none 0 0, .slice none 0 0, .slice none 0 0] : List Value).toArray 45 (0, 0)), M_157, M_165, M_173] Z := hS'
        clear hs' hS'
        refine wpList_nil ?_
        refine x_then_n ⟨(hS.sub (.cons (le_154.trans (le_162.trans le_170)) (.cons (Mem.no_le _) (.cons (Mem.le.refl _) (Sub.nil _))))), ?_⟩
        refine h_done (by kernel_rfl) ?_
        replace hm : Fr 22 a [(1, .pointer (some ⟨g_2, 0, none⟩)), (2, .pointer (some ⟨g_4, 0, none⟩))] := hm.keep [1, 2]
        refine x_then_n (hKJ_5 _ _ ?_)
        refine wp_seq ?_
        refine wp_region_lit ?_
        refine s_load hm rfl rfl (hS.load_agg (p := 1) (us := [.int .i64 x0.Sess, .int .i64 x0.Seq, .int .i64 x0.Cmd.Kind, .int .i64 x0.Cmd.Who, v_155, v_163, v_171]) rfl Try.underlying45 rfl ti45 rfl rfl) ?_
        clear hm a; intro a hm
        obtain ⟨w_178, hs', hS'⟩ := hS.store (P := Try.prog) (p := 2) (o := 0) (t := 45) (v := .agg ([.int .i64 x0.Sess, .int .i64 x0.Seq, .int .i64 x0.Cmd.Kind, .int .i64 x0.Cmd.Who, v_155, v_163, v_171] : List Value).toArray) (vs := [.int .i64 x0.Sess, .int .i64 x0.Seq, .int .i64 x0.Cmd.Kind, .int .i64 x0.Cmd.Who, v_155, v_163, v_171]) rfl ti45 rfl rfl rfl (by intro u hu; simp only [List.mem_cons, List.not_mem_nil, or_false] at hu; rcases hu with rfl | rfl | rfl | rfl | rfl | rfl | rfl <;> first | rfl | exact hr_156.one | exact hr_164.one | exact hr_172.one)
        refine s_store hm rfl rfl hs' ?_
        replace hS : Sep w0 w_178 [N_170, Mem.one g_2 (.cells ([.int .i64 x0.Sess, .int .i64 x0.Seq, .int .i64 x0.Cmd.Kind, .int .i64 x0.Cmd.Who, v_155, v_163, v_171] : List Value).toArray 45 (0, 0)), Mem.one g_4 (.cells ([.int .i64 x0.Sess, .int .i64 x0.Seq, .int .i64 x0.Cmd.Kind, .int .i64 x0.Cmd.Who, v_155, v_163, v_171] : List Value).toArray 45 (0, 0)), M_157, M_165, M_173] Z := hS'
        clear hs' hS'
        refine wpList_nil ?_
        replace hm : Fr 22 a [(2, .pointer (some ⟨g_4, 0, none⟩))] := hm.keep [2]
        refine x_then_n ?_
        refine wp_ret ?_
        obtain rfl := Option.some.inj H
        exact f_ret hm (rs := [.cell 2 45]) rfl (.cell rfl (hS.load_agg (p := 2) (us := [.int .i64 x0.Sess, .int .i64 x0.Seq, .int .i64 x0.Cmd.Kind, .int .i64 x0.Cmd.Who, v_155, v_163, v_171]) rfl Try.underlying45 rfl ti45 rfl rfl) .nil) ⟨_, rfl, v_155, v_163, v_171, N_170, M_157, M_165, M_173, rfl, (Sep.sel hS [0, 3, 4, 5] (by decide)), hr_156, hr_164, hr_172⟩
      · refine ⟨_, [true, true, true, false, true, true, true, false, true, true, true, false, false, false, false, false, false, false, false, false, false].toArray, rfl, rfl, ?_⟩
        refine s_load hm rfl rfl (hS.load_one (p := 1) rfl Try.underlying26 rfl rfl) ?_
        clear hm a; intro a hm
        refine wpList_nil ?_
        refine x_then_n ⟨(hS.sub (.cons (Mem.le.refl _) (.cons (Mem.no_le _) (.cons (Mem.le.refl _) (Sub.nil _))))), ?_⟩
        refine h_event 3 [true, true, true, true, true, true, true, false, true, true, true, false, false, false, false, false, false, false, false, false, false].toArray rfl (by kernel_rfl) rfl ?_
        refine s_call hm rfl Try.call49 rfl (slices_Clone_sbyte_byte.calls x0.Cmd.Key _ t_7 w0 _ _ _ (Mem.le.refl _) (hS.enter [] (by decide)) (hp0_0.mono (hA.trans (hS.le_zed []))) et_7) ?_
        rintro v_183 w_180 ⟨_, N_181, M_185, rfl, hS', hr_184⟩
        clear hm a; intro a hm
        obtain ⟨N_182, hS'', le_182, ln_182⟩ := hS.call [] (by decide) rfl (l' := []) (ow := [M_185]) rfl hS'
        replace hS : Sep w0 w_180 [N_182, Mem.one g_2 (.cells ([.int .i64 x0.Sess, .int .i64 x0.Seq, .int .i64 x0.Cmd.Kind, .int .i64 x0.Cmd.Who, p0_0, p0_1, p0_2] : List Value).toArray 45 (0, 0)), Mem.one g_4 (.cells ([.int .i64 0, .int .i64 0, .int .i64 0, .int .i64 0, .slice none 0 0, .slice none 0 0, .slice none 0 0] : List Value).toArray 45 (0, 0)), M_185] Z := hS''
        clear hS' hS''
        refine wpList_nil ?_
        refine x_then_n ⟨(hS.sub (.cons le_182 (.cons (Mem.no_le _) (.cons (Mem.le.refl _) (Sub.nil _))))), ?_⟩
        refine h_take 12 [true, true, true, true, true, true, true, false, true, true, true, false, true, false, false, false, false, false, false, false, false].toArray rfl (by kernel_rfl) (by kernel_rfl) (by kernel_rfl) (fun _ _ _ _ h => h) rfl rfl rfl rfl hm (hS.sub (.cons le_182 (.cons (Mem.no_le _) (.cons (Mem.le.refl _) (Sub.nil _))))) (v := .pointer (some ⟨g_2, 2, none⟩)) (fun w hS => r_fieldAddr hm Try.underlying45 rfl ti43 rfl rfl rfl) ?_
        clear hm a; intro a hm
        refine h_take 13 [true, true, true, true, true, true, true, false, true, true, true, false, true, true, false, false, false, false, false, false, false].toArray rfl (by kernel_rfl) (by kernel_rfl) (by kernel_rfl) (fun _ _ _ _ h => h) rfl rfl rfl rfl hm (hS.sub (.cons le_182 (.cons (Mem.no_le _) (.cons (Mem.le.refl _) (Sub.nil _))))) (v := .pointer (some ⟨g_2, 4, none⟩)) (fun w hS => r_fieldAddr hm Try.underlying43 rfl ti26 rfl rfl rfl) ?_
        clear hm a; intro a hm
        refine h_event 7 [true, true, true, true, true, true, true, true, true, true, true, false, true, true, false, false, false, false, false, false, false].toArray rfl (by kernel_rfl) rfl ?_
        refine s_call hm rfl Try.call49 rfl (slices_Clone_sbyte_byte.calls x0.Cmd.Val _ t_15 w0 _ _ _ (Mem.le.refl _) (hS.enter [] (by decide)) (hp0_1.mono (hA.trans (hS.le_zed []))) et_15) ?_
        rintro v_191 w_188 ⟨_, N_189, M_193, rfl, hS', hr_192⟩
        clear hm a; intro a hm
        obtain ⟨N_190, hS'', le_190, ln_190⟩ := hS.call [] (by decide) rfl (l' := []) (ow := [M_193]) rfl hS'
        replace hS : Sep w0 w_188 [N_190, Mem.one g_2 (.cells ([.int .i64 x0.Sess, .int .i64 x0.Seq, .int .i64 x0.Cmd.Kind, .int .i64 x0.Cmd.Who, p0_0, p0_1, p0_2] : List Value).toArray 45 (0, 0)), Mem.one g_4 (.cells ([.int .i64 0, .int .i64 0, .int .i64 0, .int .i64 0, .slice none 0 0, .slice none 0 0, .slice none 0 0] : List Value).toArray 45 (0, 0)), M_185, M_193] Z := hS''
        clear hS' hS''
        refine wpList_nil ?_
        refine x_then_n ⟨(hS.sub (.cons (le_182.trans le_190) (.cons (Mem.no_le _) (.cons (Mem.le.refl _) (Sub.nil _))))), ?_⟩
        refine h_event 11 [true, true, true, true, true, true, true, true, true, true, true, true, true, true, false, false, false, false, false, false, false].toArray rfl (by kernel_rfl) rfl ?_
        refine s_call hm rfl Try.call49 rfl (slices_Clone_sbyte_byte.calls x0.Cmd.Old _ t_23 w0 _ _ _ (Mem.le.refl _) (hS.enter [] (by decide)) (hp0_2.mono (hA.trans (hS.le_zed []))) et_23) ?_
        rintro v_199 w_196 ⟨_, N_197, M_201, rfl, hS', hr_200⟩
        clear hm a; intro a hm
        obtain ⟨N_198, hS'', le_198, ln_198⟩ := hS.call [] (by decide) rfl (l' := []) (ow := [M_201]) rfl hS'
        replace hS : Sep w0 w_196 [N_198, Mem.one g_2 (.cells ([.int .i64 x0.Sess, .int .i64 x0.Seq, .int .i64 x0.Cmd.Kind, .int .i64 x0.Cmd.Who, p0_0, p0_1, p0_2] : List Value).toArray 45 (0, 0)), Mem.one g_4 (.cells ([.int .i64 0, .int .i64 0, .int .i64 0, .int .i64 0, .slice none 0 0, .slice none 0 0, .slice none 0 0] : List Value).toArray 45 (0, 0)), M_185, M_193, M_201] Z := hS''
        clear hS' hS''
        refine wpList_nil ?_
        refine x_then_n ⟨(hS.sub (.cons (le_182.trans (le_190.trans le_198)) (.cons (Mem.no_le _) (.cons (Mem.le.refl _) (Sub.nil _))))), ?_⟩
        refine h_event 14 [true, true, true, true, true, true, true, true, true, true, true, true, true, true, true, false, false, false, false, false, false].toArray rfl (by kernel_rfl) rfl ?_
        obtain ⟨w_203, hs', hS'⟩ := hS.store (P := Try.prog) (p := 1) (o := 4) (t := 26) (v := v_183) (vs := [v_183]) rfl ti26 hr_184.cellsA rfl rfl (by intro u hu; simp only [List.mem_cons, List.not_mem_nil, or_false] at hu; rcases hu with rfl <;> first | rfl | exact hr_184.one)
        refine s_store hm rfl rfl hs' ?_
        replace hS : Sep w0 w_203 [N_198, Mem.one g_2 (.cells ([.int .i64 x0.Sess, .int .i64 x0.Seq, .int .i64 x0.Cmd.Kind, .int .i64 x0.Cmd.Who, v_183, p0_1, p0_2] : List Value).toArray 45 (0, 0)), Mem.one g_4 (.cells ([.int .i64 0, .int .i64 0, .int .i64 0, .int .i64 0, .slice none 0 0, .slice none 0 0, .slice none 0 0] : List Value).toArray 45 (0, 0)), M_185, M_193, M_201] Z := hS'
        clear hs' hS'
        refine wpList_nil ?_
        refine x_then_n ⟨(hS.sub (.cons (le_182.trans (le_190.trans le_198)) (.cons (Mem.no_le _) (.cons (Mem.le.refl _) (Sub.nil _))))), ?_⟩
        refine h_take 15 [true, true, true, true, true, true, true, true, true, true, true, true, true, true, true, true, false, false, false, false, false].toArray rfl (by kernel_rfl) (by kernel_rfl) (by kernel_rfl) (fun _ _ _ _ h => h) rfl rfl rfl rfl hm (hS.sub (.cons (le_182.trans (le_190.trans le_198)) (.cons (Mem.no_le _) (.cons (Mem.le.refl _) (Sub.nil _))))) (v := .pointer (some ⟨g_2, 2, none⟩)) (fun w hS => r_fieldAddr hm Try.underlying45 rfl ti43 rfl rfl rfl) ?_
        clear hm a; intro a hm
        refine h_take 16 [true, true, true, true, true, true, true, true, true, true, true, true, true, true, true, true, true, false, false, false, false].toArray rfl (by kernel_rfl) (by kernel_rfl) (by kernel_rfl) (fun _ _ _ _ h => h) rfl rfl rfl rfl hm (hS.sub (.cons (le_182.trans (le_190.trans le_198)) (.cons (Mem.no_le _) (.cons (Mem.le.refl _) (Sub.nil _))))) (v := .pointer (some ⟨g_2, 5, none⟩)) (fun w hS => r_fieldAddr hm Try.underlying43 rfl ti26 rfl rfl rfl) ?_
        clear hm a; intro a hm
        refine h_event 17 [true, true, true, true, true, true, true, true, true, true, true, true, true, true, true, true, true, true, false, false, false].toArray rfl (by kernel_rfl) rfl ?_
        obtain ⟨w_204, hs', hS'⟩ := hS.store (P := Try.prog) (p := 1) (o := 5) (t := 26) (v := v_191) (vs := [v_191]) rfl ti26 hr_192.cellsA rfl rfl (by intro u hu; simp only [List.mem_cons, List.not_mem_nil, or_false] at hu; rcases hu with rfl <;> first | rfl | exact hr_192.one)
        refine s_store hm rfl rfl hs' ?_
        replace hS : Sep w0 w_204 [N_198, Mem.one g_2 (.cells ([.int .i64 x0.Sess, .int .i64 x0.Seq, .int .i64 x0.Cmd.Kind, .int .i64 x0.Cmd.Who, v_183, v_191, p0_2] : List Value).toArray 45 (0, 0)), Mem.one g_4 (.cells ([.int .i64 0, .int .i64 0, .int .i64 0, .int .i64 0, .slice none 0 0, .slice none 0 0, .slice none 0 0] : List Value).toArray 45 (0, 0)), M_185, M_193, M_201] Z := hS'
        clear hs' hS'
        refine wpList_nil ?_
        refine x_then_n ⟨(hS.sub (.cons (le_182.trans (le_190.trans le_198)) (.cons (Mem.no_le _) (.cons (Mem.le.refl _) (Sub.nil _))))), ?_⟩
        refine h_take 18 [true, true, true, true, true, true, true, true, true, true, true, true, true, true, true, true, true, true, true, false, false].toArray rfl (by kernel_rfl) (by kernel_rfl) (by kernel_rfl) (fun _ _ _ _ h => h) rfl rfl rfl rfl hm (hS.sub (.cons (le_182.trans (le_190.trans le_198)) (.cons (Mem.no_le _) (.cons (Mem.le.refl _) (Sub.nil _))))) (v := .pointer (some ⟨g_2, 2, none⟩)) (fun w hS => r_fieldAddr hm Try.underlying45 rfl ti43 rfl rfl rfl) ?_
        clear hm a; intro a hm
        refine h_take 19 [true, true, true, true, true, true, true, true, true, true, true, true, true, true, true, true, true, true, true, true, false].toArray rfl (by kernel_rfl) (by kernel_rfl) (by kernel_rfl) (fun _ _ _ _ h => h) rfl rfl rfl rfl hm (hS.sub (.cons (le_182.trans (le_190.trans le_198)) (.cons (Mem.no_le _) (.cons (Mem.le.refl _) (Sub.nil _))))) (v := .pointer (some ⟨g_2, 6, none⟩)) (fun w hS => r_fieldAddr hm Try.underlying43 rfl ti26 rfl rfl rfl) ?_
        clear hm a; intro a hm
        refine h_event 20 [true, true, true, true, true, true, true, true, true, true, true, true, true, true, true, true, true, true, true, true, true].toArray rfl (by kernel_rfl) rfl ?_
        obtain ⟨w_205, hs', hS'⟩ := hS.store (P := Try.prog) (p := 1) (o := 6) (t := 26) (v := v_199) (vs := [v_199]) rfl ti26 hr_200.cellsA rfl rfl (by intro u hu; simp only [List.mem_cons, List.not_mem_nil, or_false] at hu; rcases hu with rfl <;> first | rfl | exact hr_200.one)
        refine s_store hm rfl rfl hs' ?_
        replace hS : Sep w0 w_205 [N_198, Mem.one g_2 (.cells ([.int .i64 x0.Sess, .int .i64 x0.Seq, .int .i64 x0.Cmd.Kind, .int .i64 x0.Cmd.Who, v_183, v_191, v_199] : List Value).toArray 45 (0, 0)), Mem.one g_4 (.cells ([.int .i64 0, .int .i64 0, .int .i64 0, .int .i64 0, .slice none 0 0, .slice none 0 0, .slice none 0 0] : List Value).toArray 45 (0, 0)), M_185, M_193, M_201] Z := hS'
        clear hs' hS'
        refine wpList_nil ?_
        refine x_then_n ⟨(hS.sub (.cons (le_182.trans (le_190.trans le_198)) (.cons (Mem.no_le _) (.cons (Mem.le.refl _) (Sub.nil _))))), ?_⟩
        refine h_done (by kernel_rfl) ?_
        replace hm : Fr 22 a [(1, .pointer (some ⟨g_2, 0, none⟩)), (2, .pointer (some ⟨g_4, 0, none⟩))] := hm.keep [1, 2]
        refine x_then_n (hKJ_5 _ _ ?_)
        refine wp_seq ?_
        refine wp_region_lit ?_
        refine s_load hm rfl rfl (hS.load_agg (p := 1) (us := [.int .i64 x0.Sess, .int .i64 x0.Seq, .int .i64 x0.Cmd.Kind, .int .i64 x0.Cmd.Who, v_183, v_191, v_199]) rfl Try.underlying45 rfl ti45 rfl rfl) ?_
        clear hm a; intro a hm
        obtain ⟨w_206, hs', hS'⟩ := hS.store (P := Try.prog) (p := 2) (o := 0) (t := 45) (v := .agg ([.int .i64 x0.Sess, .int .i64 x0.Seq, .int .i64 x0.Cmd.Kind, .int .i64 x0.Cmd.Who, v_183, v_191, v_199] : List Value).toArray) (vs := [.int .i64 x0.Sess, .int .i64 x0.Seq, .int .i64 x0.Cmd.Kind, .int .i64 x0.Cmd.Who, v_183, v_191, v_199]) rfl ti45 rfl rfl rfl (by intro u hu; simp only [List.mem_cons, List.not_mem_nil, or_false] at hu; rcases hu with rfl | rfl | rfl | rfl | rfl | rfl | rfl <;> first | rfl | exact hr_184.one | exact hr_192.one | exact hr_200.one)
        refine s_store hm rfl rfl hs' ?_
        replace hS : Sep w0 w_206 [N_198, Mem.one g_2 (.cells ([.int .i64 x0.Sess, .int .i64 x0.Seq, .int .i64 x0.Cmd.Kind, .int .i64 x0.Cmd.Who, v_183, v_191, v_199] : List Value).toArray 45 (0, 0)), Mem.one g_4 (.cells ([.int .i64 x0.Sess, .int .i64 x0.Seq, .int .i64 x0.Cmd.Kind, .int .i64 x0.Cmd.Who, v_183, v_191, v_199] : List Value).toArray 45 (0, 0)), M_185, M_193, M_201] Z := hS'
        clear hs' hS'
        refine wpList_nil ?_
        replace hm : Fr 22 a [(2, .pointer (some ⟨g_4, 0, none⟩))] := hm.keep [2]
        refine x_then_n ?_
        refine wp_ret ?_
        obtain rfl := Option.some.inj H
        exact f_ret hm (rs := [.cell 2 45]) rfl (.cell rfl (hS.load_agg (p := 2) (us := [.int .i64 x0.Sess, .int .i64 x0.Seq, .int .i64 x0.Cmd.Kind, .int .i64 x0.Cmd.Who, v_183, v_191, v_199]) rfl Try.underlying45 rfl ti45 rfl rfl) .nil) ⟨_, rfl, v_183, v_191, v_199, N_198, M_185, M_193, M_201, rfl, (Sep.sel hS [0, 3, 4, 5] (by decide)), hr_184, hr_192, hr_200⟩
  · refine ⟨_, [true, true, false, false, true, true, true, false, true, true, false, false, false, false, false, false, false, false, false, false, false].toArray, rfl, rfl, ?_⟩
    refine s_load hm rfl rfl (hS.load_one (p := 1) rfl Try.underlying26 rfl rfl) ?_
    clear hm a; intro a hm
    refine wpList_nil ?_
    refine x_then_n ⟨(hS.sub (.cons (Mem.le.refl _) (.cons (Mem.no_le _) (.cons (Mem.le.refl _) (Sub.nil _))))), ?_⟩
    refine h_events [2, 10] (by kernel_rfl) (by simp) ?_
    intro i hi; simp only [List.mem_cons, List.not_mem_nil, or_false] at hi; rcases hi with rfl | rfl
    · refine ⟨_, [true, true, true, false, true, true, true, false, true, true, false, false, false, false, false, false, false, false, false, false, false].toArray, rfl, rfl, ?_⟩
      refine s_load hm rfl rfl (hS.load_one (p := 1) rfl Try.underlying26 rfl rfl) ?_
      clear hm a; intro a hm
      refine wpList_nil ?_
      refine x_then_n ⟨(hS.sub (.cons (Mem.le.refl _) (.cons (Mem.no_le _) (.cons (Mem.le.refl _) (Sub.nil _))))), ?_⟩
      refine h_events [3, 10] (by kernel_rfl) (by simp) ?_
      intro i hi; simp only [List.mem_cons, List.not_mem_nil, or_false] at hi; rcases hi with rfl | rfl
      · refine ⟨_, [true, true, true, true, true, true, true, false, true, true, false, false, false, false, false, false, false, false, false, false, false].toArray, rfl, rfl, ?_⟩
        refine s_call hm rfl Try.call49 rfl (slices_Clone_sbyte_byte.calls x0.Cmd.Key _ t_7 w0 _ _ _ (Mem.le.refl _) (hS.enter [] (by decide)) (hp0_0.mono (hA.trans (hS.le_zed []))) et_7) ?_
        rintro v_211 w_208 ⟨_, N_209, M_213, rfl, hS', hr_212⟩
        clear hm a; intro a hm
        obtain ⟨N_210, hS'', le_210, ln_210⟩ := hS.call [] (by decide) rfl (l' := []) (ow := [M_213]) rfl hS'
        replace hS : Sep w0 w_208 [N_210, Mem.one g_2 (.cells ([.int .i64 x0.Sess, .int .i64 x0.Seq, .int .i64 x0.Cmd.Kind, .int .i64 x0.Cmd.Who, p0_0, p0_1, p0_2] : List Value).toArray 45 (0, 0)), Mem.one g_4 (.cells ([.int .i64 0, .int .i64 0, .int .i64 0, .int .i64 0, .slice none 0 0, .slice none 0 0, .slice none 0 0] : List Value).toArray 45 (0, 0)), M_213] Z := hS''
        clear hS' hS''
        refine wpList_nil ?_
        refine x_then_n ⟨(hS.sub (.cons le_210 (.cons (Mem.no_le _) (.cons (Mem.le.refl _) (Sub.nil _))))), ?_⟩
        refine h_events [7, 10] (by kernel_rfl) (by simp) ?_
        intro i hi; simp only [List.mem_cons, List.not_mem_nil, or_false] at hi; rcases hi with rfl | rfl
        · refine ⟨_, [true, true, true, true, true, true, true, true, true, true, false, false, false, false, false, false, false, false, false, false, false].toArray, rfl, rfl, ?_⟩
          refine s_call hm rfl Try.call49 rfl (slices_Clone_sbyte_byte.calls x0.Cmd.Val _ t_15 w0 _ _ _ (Mem.le.refl _) (hS.enter [] (by decide)) (hp0_1.mono (hA.trans (hS.le_zed []))) et_15) ?_
          rintro v_219 w_216 ⟨_, N_217, M_221, rfl, hS', hr_220⟩
          clear hm a; intro a hm
          obtain ⟨N_218, hS'', le_218, ln_218⟩ := hS.call [] (by decide) rfl (l' := []) (ow := [M_221]) rfl hS'
          replace hS : Sep w0 w_216 [N_218, Mem.one g_2 (.cells ([.int .i64 x0.Sess, .int .i64 x0.Seq, .int .i64 x0.Cmd.Kind, .int .i64 x0.Cmd.Who, p0_0, p0_1, p0_2] : List Value).toArray 45 (0, 0)), Mem.one g_4 (.cells ([.int .i64 0, .int .i64 0, .int .i64 0, .int .i64 0, .slice none 0 0, .slice none 0 0, .slice none 0 0] : List Value).toArray 45 (0, 0)), M_213, M_221] Z := hS''
          clear hS' hS''
          refine wpList_nil ?_
          refine x_then_n ⟨(hS.sub (.cons (le_210.trans le_218) (.cons (Mem.no_le _) (.cons (Mem.le.refl _) (Sub.nil _))))), ?_⟩
          refine h_event 10 [true, true, true, true, true, true, true, true, true, true, true, false, false, false, false, false, false, false, false, false, false].toArray rfl (by kernel_rfl) rfl ?_
          refine s_load hm rfl rfl (hS.load_one (p := 1) rfl Try.underlying26 rfl rfl) ?_
          clear hm a; intro a hm
          refine wpList_nil ?_
          refine x_then_n ⟨(hS.sub (.cons (le_210.trans le_218) (.cons (Mem.no_le _) (.cons (Mem.le.refl _) (Sub.nil _))))), ?_⟩
          refine h_take 12 [true, true, true, true, true, true, true, true, true, true, true, false, true, false, false, false, false, false, false, false, false].toArray rfl (by kernel_rfl) (by kernel_rfl) (by kernel_rfl) (fun _ _ _ _ h => h) rfl rfl rfl rfl hm (hS.sub (.cons (le_210.trans le_218) (.cons (Mem.no_le _) (.cons (Mem.le.refl _) (Sub.nil _))))) (v := .pointer (some ⟨g_2, 2, none⟩)) (fun w hS => r_fieldAddr hm Try.underlying45 rfl ti43 rfl rfl rfl) ?_
          clear hm a; intro a hm
          refine h_take 13 [true, true, true, true, true, true, true, true, true, true, true, false, true, true, false, false, false, false, false, false, false].toArray rfl (by kernel_rfl) (by kernel_rfl) (by kernel_rfl) (fun _ _ _ _ h => h) rfl rfl rfl rfl hm (hS.sub (.cons (le_210.trans le_218) (.cons (Mem.no_le _) (.cons (Mem.le.refl _) (Sub.nil _))))) (v := .pointer (some ⟨g_2, 4, none⟩)) (fun w hS => r_fieldAddr hm Try.underlying43 rfl ti26 rfl rfl rfl) ?_
          clear hm a; intro a hm
          refine h_event 11 [true, true, true, true, true, true, true, true, true, true, true, true, true, true, false, false, false, false, false, false, false].toArray rfl (by kernel_rfl) rfl ?_
          refine s_call hm rfl Try.call49 rfl (slices_Clone_sbyte_byte.calls x0.Cmd.Old _ t_23 w0 _ _ _ (Mem.le.refl _) (hS.enter [] (by decide)) (hp0_2.mono (hA.trans (hS.le_zed []))) et_23) ?_
          rintro v_227 w_224 ⟨_, N_225, M_229, rfl, hS', hr_228⟩
          clear hm a; intro a hm
          obtain ⟨N_226, hS'', le_226, ln_226⟩ := hS.call [] (by decide) rfl (l' := []) (ow := [M_229]) rfl hS'
          replace hS : Sep w0 w_224 [N_226, Mem.one g_2 (.cells ([.int .i64 x0.Sess, .int .i64 x0.Seq, .int .i64 x0.Cmd.Kind, .int .i64 x0.Cmd.Who, p0_0, p0_1, p0_2] : List Value).toArray 45 (0, 0)), Mem.one g_4 (.cells ([.int .i64 0, .int .i64 0, .int .i64 0, .int .i64 0, .slice none 0 0, .slice none 0 0, .slice none 0 0] : List Value).toArray 45 (0, 0)), M_213, M_221, M_229] Z := hS''
          clear hS' hS''
          refine wpList_nil ?_
          refine x_then_n ⟨(hS.sub (.cons (le_210.trans (le_218.trans le_226)) (.cons (Mem.no_le _) (.cons (Mem.le.refl _) (Sub.nil _))))), ?_⟩
          refine h_event 14 [true, true, true, true, true, true, true, true, true, true, true, true, true, true, true, false, false, false, false, false, false].toArray rfl (by kernel_rfl) rfl ?_
          obtain ⟨w_231, hs', hS'⟩ := hS.store (P := Try.prog) (p := 1) (o := 4) (t := 26) (v := v_211) (vs := [v_211]) rfl ti26 hr_212.cellsA rfl rfl (by intro u hu; simp only [List.mem_cons, List.not_mem_nil, or_false] at hu; rcases hu with rfl <;> first | rfl | exact hr_212.one)
          refine s_store hm rfl rfl hs' ?_
          replace hS : Sep w0 w_231 [N_226, Mem.one g_2 (.cells ([.int .i64 x0.Sess, .int .i64 x0.Seq, .int .i64 x0.Cmd.Kind, .int .i64 x0.Cmd.Who, v_211, p0_1, p0_2] : List Value).toArray 45 (0, 0)), Mem.one g_4 (.cells ([.int .i64 0, .int .i64 0, .int .i64 0, .int .i64 0, .slice none 0 0, .slice none 0 0, .slice none 0 0] : List Value).toArray 45 (0, 0)), M_213, M_221, M_229] Z := hS'
          clear hs' hS'
          refine wpList_nil ?_
          refine x_then_n ⟨(hS.sub (.cons (le_210.trans (le_218.trans le_226)) (.cons (Mem.no_le _) (.cons (Mem.le.refl _) (Sub.nil _))))), ?_⟩
          refine h_take 15 [true, true, true, true, true, true, true, true, true, true, true, true, true, true, true, true, false, false, false, false, false].toArray rfl (by kernel_rfl) (by kernel_rfl) (by kernel_rfl) (fun _ _ _ _ h => h) rfl rfl rfl rfl hm (hS.sub (.cons (le_210.trans (le_218.trans le_226)) (.cons (Mem.no_le _) (.cons (Mem.le.refl _) (Sub.nil _))))) (v := .pointer (some ⟨g_2, 2, none⟩)) (fun w hS => r_fieldAddr hm Try.underlying45 rfl ti43 rfl rfl rfl) ?_
          clear hm a; intro a hm
          refine h_take 16 [true, true, true, true, true, true, true, true, true, true, true, true, true, true, true, true, true, false, false, false, false].toArray rfl (by kernel_rfl) (by kernel_rfl) (by kernel_rfl) (fun _ _ _ _ h => h) rfl rfl rfl rfl hm (hS.sub (.cons (le_210.trans (le_218.trans le_226)) (.cons (Mem.no_le _) (.cons (Mem.le.refl _) (Sub.nil _))))) (v := .pointer (some ⟨g_2, 5, none⟩)) (fun w hS => r_fieldAddr hm Try.underlying43 rfl ti26 rfl rfl rfl) ?_
          clear hm a; intro a hm
          refine h_event 17 [true, true, true, true, true, true, true, true, true, true, true, true, true, true, true, true, true, true, false, false, false].toArray rfl (by kernel_rfl) rfl ?_
          obtain ⟨w_232, hs', hS'⟩ := hS.store (P := Try.prog) (p := 1) (o := 5) (t := 26) (v := v_219) (vs := [v_219]) rfl ti26 hr_220.cellsA rfl rfl (by intro u hu; simp only [List.mem_cons, List.not_mem_nil, or_false] at hu; rcases hu with rfl <;> first | rfl | exact hr_220.one)
          refine s_store hm rfl rfl hs' ?_
          replace hS : Sep w0 w_232 [N_226, Mem.one g_2 (.cells ([.int .i64 x0.Sess, .int .i64 x0.Seq, .int .i64 x0.Cmd.Kind, .int .i64 x0.Cmd.Who, v_211, v_219, p0_2] : List Value).toArray 45 (0, 0)), Mem.one g_4 (.cells ([.int .i64 0, .int .i64 0, .int .i64 0, .int .i64 0, .slice none 0 0, .slice none 0 0, .slice none 0 0] : List Value).toArray 45 (0, 0)), M_213, M_221, M_229] Z := hS'
          clear hs' hS'
          refine wpList_nil ?_
          refine x_then_n ⟨(hS.sub (.cons (le_210.trans (le_218.trans le_226)) (.cons (Mem.no_le _) (.cons (Mem.le.refl _) (Sub.nil _))))), ?_⟩
          refine h_take 18 [true, true, true, true, true, true, true, true, true, true, true, true, true, true, true, true, true, true, true, false, false].toArray rfl (by kernel_rfl) (by kernel_rfl) (by kernel_rfl) (fun _ _ _ _ h => h) rfl rfl rfl rfl hm (hS.sub (.cons (le_210.trans (le_218.trans le_226)) (.cons (Mem.no_le _) (.cons (Mem.le.refl _) (Sub.nil _))))) (v := .pointer (some ⟨g_2, 2, none⟩)) (fun w hS => r_fieldAddr hm Try.underlying45 rfl ti43 rfl rfl rfl) ?_
          clear hm a; intro a hm
          refine h_take 19 [true, true, true, true, true, true, true, true, true, true, true, true, true, true, true, true, true, true, true, true, false].toArray rfl (by kernel_rfl) (by kernel_rfl) (by kernel_rfl) (fun _ _ _ _ h => h) rfl rfl rfl rfl hm (hS.sub (.cons (le_210.trans (le_218.trans le_226)) (.cons (Mem.no_le _) (.cons (Mem.le.refl _) (Sub.nil _))))) (v := .pointer (some ⟨g_2, 6, none⟩)) (fun w hS => r_fieldAddr hm Try.underlying43 rfl ti26 rfl rfl rfl) ?_
          clear hm a; intro a hm
          refine h_event 20 [true, true, true, true, true, true, true, true, true, true, true, true, true, true, true, true, true, true, true, true, true].toArray rfl (by kernel_rfl) rfl ?_
          obtain ⟨w_233, hs', hS'⟩ := hS.store (P := Try.prog) (p := 1) (o := 6) (t := 26) (v := v_227) (vs := [v_227]) rfl ti26 hr_228.cellsA rfl rfl (by intro u hu; simp only [List.mem_cons, List.not_mem_nil, or_false] at hu; rcases hu with rfl <;> first | rfl | exact hr_228.one)
          refine s_store hm rfl rfl hs' ?_
          replace hS : Sep w0 w_233 [N_226, Mem.one g_2 (.cells ([.int .i64 x0.Sess, .int .i64 x0.Seq, .int .i64 x0.Cmd.Kind, .int .i64 x0.Cmd.Who, v_211, v_219, v_227] : List Value).toArray 45 (0, 0)), Mem.one g_4 (.cells ([.int .i64 0, .int .i64 0, .int .i64 0, .int .i64 0, .slice none 0 0, .slice none 0 0, .slice none 0 0] : List Value).toArray 45 (0, 0)), M_213, M_221, M_229] Z := hS'
          clear hs' hS'
          refine wpList_nil ?_
          refine x_then_n ⟨(hS.sub (.cons (le_210.trans (le_218.trans le_226)) (.cons (Mem.no_le _) (.cons (Mem.le.refl _) (Sub.nil _))))), ?_⟩
          refine h_done (by kernel_rfl) ?_
          replace hm : Fr 22 a [(1, .pointer (some ⟨g_2, 0, none⟩)), (2, .pointer (some ⟨g_4, 0, none⟩))] := hm.keep [1, 2]
          refine x_then_n (hKJ_5 _ _ ?_)
          refine wp_seq ?_
          refine wp_region_lit ?_
          refine s_load hm rfl rfl (hS.load_agg (p := 1) (us := [.int .i64 x0.Sess, .int .i64 x0.Seq, .int .i64 x0.Cmd.Kind, .int .i64 x0.Cmd.Who, v_211, v_219, v_227]) rfl Try.underlying45 rfl ti45 rfl rfl) ?_
          clear hm a; intro a hm
          obtain ⟨w_234, hs', hS'⟩ := hS.store (P := Try.prog) (p := 2) (o := 0) (t := 45) (v := .agg ([.int .i64 x0.Sess, .int .i64 x0.Seq, .int .i64 x0.Cmd.Kind, .int .i64 x0.Cmd.Who, v_211, v_219, v_227] : List Value).toArray) (vs := [.int .i64 x0.Sess, .int .i64 x0.Seq, .int .i64 x0.Cmd.Kind, .int .i64 x0.Cmd.Who, v_211, v_219, v_227]) rfl ti45 rfl rfl rfl (by intro u hu; simp only [List.mem_cons, List.not_mem_nil, or_false] at hu; rcases hu with rfl | rfl | rfl | rfl | rfl | rfl | rfl <;> first | rfl | exact hr_212.one | exact hr_220.one | exact hr_228.one)
          refine s_store hm rfl rfl hs' ?_
          replace hS : Sep w0 w_234 [N_226, Mem.one g_2 (.cells ([.int .i64 x0.Sess, .int .i64 x0.Seq, .int .i64 x0.Cmd.Kind, .int .i64 x0.Cmd.Who, v_211, v_219, v_227] : List Value).toArray 45 (0, 0)), Mem.one g_4 (.cells ([.int .i64 x0.Sess, .int .i64 x0.Seq, .int .i64 x0.Cmd.Kind, .int .i64 x0.Cmd.Who, v_211, v_219, v_227] : List Value).toArray 45 (0, 0)), M_213, M_221, M_229] Z := hS'
          clear hs' hS'
          refine wpList_nil ?_
          replace hm : Fr 22 a [(2, .pointer (some ⟨g_4, 0, none⟩))] := hm.keep [2]
          refine x_then_n ?_
          refine wp_ret ?_
          obtain rfl := Option.some.inj H
          exact f_ret hm (rs := [.cell 2 45]) rfl (.cell rfl (hS.load_agg (p := 2) (us := [.int .i64 x0.Sess, .int .i64 x0.Seq, .int .i64 x0.Cmd.Kind, .int .i64 x0.Cmd.Who, v_211, v_219, v_227]) rfl Try.underlying45 rfl ti45 rfl rfl) .nil) ⟨_, rfl, v_211, v_219, v_227, N_226, M_213, M_221, M_229, rfl, (Sep.sel hS [0, 3, 4, 5] (by decide)), hr_212, hr_220, hr_228⟩
        · refine ⟨_, [true, true, true, true, true, true, true, false, true, true, true, false, false, false, false, false, false, false, false, false, false].toArray, rfl, rfl, ?_⟩
          refine s_load hm rfl rfl (hS.load_one (p := 1) rfl Try.underlying26 rfl rfl) ?_
          clear hm a; intro a hm
          refine wpList_nil ?_
          refine x_then_n ⟨(hS.sub (.cons le_210 (.cons (Mem.no_le _) (.cons (Mem.le.refl _) (Sub.nil _))))), ?_⟩
          refine h_take 12 [true, true, true, true, true, true, true, false, true, true, true, false, true, false, false, false, false, false, false, false, false].toArray rfl (by kernel_rfl) (by kernel_rfl) (by kernel_rfl) (fun _ _ _ _ h => h) rfl rfl rfl rfl hm (hS.sub (.cons le_210 (.cons (Mem.no_le _) (.cons (Mem.le.refl _) (Sub.nil _))))) (v := .pointer (some ⟨g_2, 2, none⟩)) (fun w hS => r_fieldAddr hm Try.underlying45 rfl ti43 rfl rfl rfl) ?_
          clear hm a; intro a hm
          refine h_take 13 [true, true, true, true, true, true, true, false, true, true, true, false, true, true, false, false, false, false, false, false, false].toArray rfl (by kernel_rfl) (by kernel_rfl) (by kernel_rfl) (fun _ _ _ _ h => h) rfl rfl rfl rfl hm (hS.sub (.cons le_210 (.cons (Mem.no_le _) (.cons (Mem.le.refl _) (Sub.nil _))))) (v := .pointer (some ⟨g_2, 4, none⟩)) (fun w hS => r_fieldAddr hm Try.underlying43 rfl ti26 rfl rfl rfl) ?_
          clear hm a; intro a hm
          refine h_event 7 [true, true, true, true, true, true, true, true, true, true, true, false, true, true, false, false, false, false, false, false, false].toArray rfl (by kernel_rfl) rfl ?_
          refine s_call hm rfl Try.call49 rfl (slices_Clone_sbyte_byte.calls x0.Cmd.Val _ t_15 w0 _ _ _ (Mem.le.refl _) (hS.enter [] (by decide)) (hp0_1.mono (hA.trans (hS.le_zed []))) et_15) ?_
          rintro v_239 w_236 ⟨_, N_237, M_241, rfl, hS', hr_240⟩
          clear hm a; intro a hm
          obtain ⟨N_238, hS'', le_238, ln_238⟩ := hS.call [] (by decide) rfl (l' := []) (ow := [M_241]) rfl hS'
          replace hS : Sep w0 w_236 [N_238, Mem.one g_2 (.cells ([.int .i64 x0.Sess, .int .i64 x0.Seq, .int .i64 x0.Cmd.Kind, .int .i64 x0.Cmd.Who, p0_0, p0_1, p0_2] : List Value).toArray 45 (0, 0)), Mem.one g_4 (.cells ([.int .i64 0, .int .i64 0, .int .i64 0, .int .i64 0, .slice none 0 0, .slice none 0 0, .slice none 0 0] : List Value).toArray 45 (0, 0)), M_213, M_241] Z := hS''
          clear hS' hS''
          refine wpList_nil ?_
          refine x_then_n ⟨(hS.sub (.cons (le_210.trans le_238) (.cons (Mem.no_le _) (.cons (Mem.le.refl _) (Sub.nil _))))), ?_⟩
          refine h_event 11 [true, true, true, true, true, true, true, true, true, true, true, true, true, true, false, false, false, false, false, false, false].toArray rfl (by kernel_rfl) rfl ?_
          refine s_call hm rfl Try.call49 rfl (slices_Clone_sbyte_byte.calls x0.Cmd.Old _ t_23 w0 _ _ _ (Mem.le.refl _) (hS.enter [] (by decide)) (hp0_2.mono (hA.trans (hS.le_zed []))) et_23) ?_
          rintro v_247 w_244 ⟨_, N_245, M_249, rfl, hS', hr_248⟩
          clear hm a; intro a hm
          obtain ⟨N_246, hS'', le_246, ln_246⟩ := hS.call [] (by decide) rfl (l' := []) (ow := [M_249]) rfl hS'
          replace hS : Sep w0 w_244 [N_246, Mem.one g_2 (.cells ([.int .i64 x0.Sess, .int .i64 x0.Seq, .int .i64 x0.Cmd.Kind, .int .i64 x0.Cmd.Who, p0_0, p0_1, p0_2] : List Value).toArray 45 (0, 0)), Mem.one g_4 (.cells ([.int .i64 0, .int .i64 0, .int .i64 0, .int .i64 0, .slice none 0 0, .slice none 0 0, .slice none 0 0] : List Value).toArray 45 (0, 0)), M_213, M_241, M_249] Z := hS''
          clear hS' hS''
          refine wpList_nil ?_
          refine x_then_n ⟨(hS.sub (.cons (le_210.trans (le_238.trans le_246)) (.cons (Mem.no_le _) (.cons (Mem.le.refl _) (Sub.nil _))))), ?_⟩
          refine h_event 14 [true, true, true, true, true, true, true, true, true, true, true, true, true, true, true, false, false, false, false, false, false].toArray rfl (by kernel_rfl) rfl ?_
          obtain ⟨w_251, hs', hS'⟩ := hS.store (P := Try.prog) (p := 1) (o := 4) (t := 26) (v := v_211) (vs := [v_211]) rfl ti26 hr_212.cellsA rfl rfl (by intro u hu; simp only [List.mem_cons, List.not_mem_nil, or_false] at hu; rcases hu with rfl <;> first | rfl | exact hr_212.one)
          refine s_store hm rfl rfl hs' ?_
          replace hS : Sep w0 w_251 [N_246, Mem.one g_2 (.cells ([.int .i64 x0.Sess, .int .i64 x0.Seq, .int .i64 x0.Cmd.Kind, .int .i64 x0.Cmd.Who, v_211, p0_1, p0_2] : List Value).toArray 45 (0, 0)), Mem.one g_4 (.cells ([.int .i64 0, .int .i64 0, .int .i64 0, .int .i64 0, .slice none 0 0, .slice none 0 0, .slice none 0 0] : List Value).toArray 45 (0, 0)), M_213, M_241, M_249] Z := hS'
          clear hs' hS'
          refine wpList_nil ?_
          refine x_then_n ⟨(hS.sub (.cons (le_210.trans (le_238.trans le_246)) (.cons (Mem.no_le _) (.cons (Mem.le.refl _) (Sub.nil _))))), ?_⟩
          refine h_take 15 [true, true, true, true, true, true, true, true, true, true, true, true, true, true, true, true, false, false, false, false, false].toArray rfl (by kernel_rfl) (by kernel_rfl) (by kernel_rfl) (fun _ _ _ _ h => h) rfl rfl rfl rfl hm (hS.sub (.cons (le_210.trans (le_238.trans le_246)) (.cons (Mem.no_le _) (.cons (Mem.le.refl _) (Sub.nil _))))) (v := .pointer (some ⟨g_2, 2, none⟩)) (fun w hS => r_fieldAddr hm Try.underlying45 rfl ti43 rfl rfl rfl) ?_
          clear hm a; intro a hm
          refine h_take 16 [true, true, true, true, true, true, true, true, true, true, true, true, true, true, true, true, true, false, false, false, false].toArray rfl (by kernel_rfl) (by kernel_rfl) (by kernel_rfl) (fun _ _ _ _ h => h) rfl rfl rfl rfl hm (hS.sub (.cons (le_210.trans (le_238.trans le_246)) (.cons (Mem.no_le _) (.cons (Mem.le.refl _) (Sub.nil _))))) (v := .pointer (some ⟨g_2, 5, none⟩)) (fun w hS => r_fieldAddr hm Try.underlying43 rfl ti26 rfl rfl rfl) ?_
          clear hm a; intro a hm
          refine h_event 17 [true, true, true, true, true, true, true, true, true, true, true, true, true, true, true, true, true, true, false, false, false].toArray rfl (by kernel_rfl) rfl ?_
          obtain ⟨w_252, hs', hS'⟩ := hS.store (P := Try.prog) (p := 1) (o := 5) (t := 26) (v := v_239) (vs := [v_239]) rfl ti26 hr_240.cellsA rfl rfl (by intro u hu; simp only [List.mem_cons, List.not_mem_nil, or_false] at hu; rcases hu with rfl <;> first | rfl | exact hr_240.one)
          refine s_store hm rfl rfl hs' ?_
          replace hS : Sep w0 w_252 [N_246, Mem.one g_2 (.cells ([.int .i64 x0.Sess, .int .i64 x0.Seq, .int .i64 x0.Cmd.Kind, .int .i64 x0.Cmd.Who, v_211, v_239, p0_2] : List Value).toArray 45 (0, 0)), Mem.one g_4 (.cells ([.int .i64 0, .int .i64 0, .int .i64 0, .int .i64 0, .slice none 0 0, .slice none 0 0, .slice none 0 0] : List Value).toArray 45 (0, 0)), M_213, M_241, M_249] Z := hS'
          clear hs' hS'
          refine wpList_nil ?_
          refine x_then_n ⟨(hS.sub (.cons (le_210.trans (le_238.trans le_246)) (.cons (Mem.no_le _) (.cons (Mem.le.refl _) (Sub.nil _))))), ?_⟩
          refine h_take 18 [true, true, true, true, true, true, true, true, true, true, true, true, true, true, true, true, true, true, true, false, false].toArray rfl (by kernel_rfl) (by kernel_rfl) (by kernel_rfl) (fun _ _ _ _ h => h) rfl rfl rfl rfl hm (hS.sub (.cons (le_210.trans (le_238.trans le_246)) (.cons (Mem.no_le _) (.cons (Mem.le.refl _) (Sub.nil _))))) (v := .pointer (some ⟨g_2, 2, none⟩)) (fun w hS => r_fieldAddr hm Try.underlying45 rfl ti43 rfl rfl rfl) ?_
          clear hm a; intro a hm
          refine h_take 19 [true, true, true, true, true, true, true, true, true, true, true, true, true, true, true, true, true, true, true, true, false].toArray rfl (by kernel_rfl) (by kernel_rfl) (by kernel_rfl) (fun _ _ _ _ h => h) rfl rfl rfl rfl hm (hS.sub (.cons (le_210.trans (le_238.trans le_246)) (.cons (Mem.no_le _) (.cons (Mem.le.refl _) (Sub.nil _))))) (v := .pointer (some ⟨g_2, 6, none⟩)) (fun w hS => r_fieldAddr hm Try.underlying43 rfl ti26 rfl rfl rfl) ?_
          clear hm a; intro a hm
          refine h_event 20 [true, true, true, true, true, true, true, true, true, true, true, true, true, true, true, true, true, true, true, true, true].toArray rfl (by kernel_rfl) rfl ?_
          obtain ⟨w_253, hs', hS'⟩ := hS.store (P := Try.prog) (p := 1) (o := 6) (t := 26) (v := v_247) (vs := [v_247]) rfl ti26 hr_248.cellsA rfl rfl (by intro u hu; simp only [List.mem_cons, List.not_mem_nil, or_false] at hu; rcases hu with rfl <;> first | rfl | exact hr_248.one)
          refine s_store hm rfl rfl hs' ?_
          replace hS : Sep w0 w_253 [N_246, Mem.one g_2 (.cells ([.int .i64 x0.Sess, .int .i64 x0.Seq, .int .i64 x0.Cmd.Kind, .int .i64 x0.Cmd.Who, v_211, v_239, v_247] : List Value).toArray 45 (0, 0)), Mem.one g_4 (.cells ([.int .i64 0, .int .i64 0, .int .i64 0, .int .i64 0, .slice none 0 0, .slice none 0 0, .slice none 0 0] : List Value).toArray 45 (0, 0)), M_213, M_241, M_249] Z := hS'
          clear hs' hS'
          refine wpList_nil ?_
          refine x_then_n ⟨(hS.sub (.cons (le_210.trans (le_238.trans le_246)) (.cons (Mem.no_le _) (.cons (Mem.le.refl _) (Sub.nil _))))), ?_⟩
          refine h_done (by kernel_rfl) ?_
          replace hm : Fr 22 a [(1, .pointer (some ⟨g_2, 0, none⟩)), (2, .pointer (some ⟨g_4, 0, none⟩))] := hm.keep [1, 2]
          refine x_then_n (hKJ_5 _ _ ?_)
          refine wp_seq ?_
          refine wp_region_lit ?_
          refine s_load hm rfl rfl (hS.load_agg (p := 1) (us := [.int .i64 x0.Sess, .int .i64 x0.Seq, .int .i64 x0.Cmd.Kind, .int .i64 x0.Cmd.Who, v_211, v_239, v_247]) rfl Try.underlying45 rfl ti45 rfl rfl) ?_
          clear hm a; intro a hm
          obtain ⟨w_254, hs', hS'⟩ := hS.store (P := Try.prog) (p := 2) (o := 0) (t := 45) (v := .agg ([.int .i64 x0.Sess, .int .i64 x0.Seq, .int .i64 x0.Cmd.Kind, .int .i64 x0.Cmd.Who, v_211, v_239, v_247] : List Value).toArray) (vs := [.int .i64 x0.Sess, .int .i64 x0.Seq, .int .i64 x0.Cmd.Kind, .int .i64 x0.Cmd.Who, v_211, v_239, v_247]) rfl ti45 rfl rfl rfl (by intro u hu; simp only [List.mem_cons, List.not_mem_nil, or_false] at hu; rcases hu with rfl | rfl | rfl | rfl | rfl | rfl | rfl <;> first | rfl | exact hr_212.one | exact hr_240.one | exact hr_248.one)
          refine s_store hm rfl rfl hs' ?_
          replace hS : Sep w0 w_254 [N_246, Mem.one g_2 (.cells ([.int .i64 x0.Sess, .int .i64 x0.Seq, .int .i64 x0.Cmd.Kind, .int .i64 x0.Cmd.Who, v_211, v_239, v_247] : List Value).toArray 45 (0, 0)), Mem.one g_4 (.cells ([.int .i64 x0.Sess, .int .i64 x0.Seq, .int .i64 x0.Cmd.Kind, .int .i64 x0.Cmd.Who, v_211, v_239, v_247] : List Value).toArray 45 (0, 0)), M_213, M_241, M_249] Z := hS'
          clear hs' hS'
          refine wpList_nil ?_
          replace hm : Fr 22 a [(2, .pointer (some ⟨g_4, 0, none⟩))] := hm.keep [2]
          refine x_then_n ?_
          refine wp_ret ?_
          obtain rfl := Option.some.inj H
          exact f_ret hm (rs := [.cell 2 45]) rfl (.cell rfl (hS.load_agg (p := 2) (us := [.int .i64 x0.Sess, .int .i64 x0.Seq, .int .i64 x0.Cmd.Kind, .int .i64 x0.Cmd.Who, v_211, v_239, v_247]) rfl Try.underlying45 rfl ti45 rfl rfl) .nil) ⟨_, rfl, v_211, v_239, v_247, N_246, M_213, M_241, M_249, rfl, (Sep.sel hS [0, 3, 4, 5] (by decide)), hr_212, hr_240, hr_248⟩
      · refine ⟨_, [true, true, true, false, true, true, true, false, true, true, true, false, false, false, false, false, false, false, false, false, false].toArray, rfl, rfl, ?_⟩
        refine s_load hm rfl rfl (hS.load_one (p := 1) rfl Try.underlying26 rfl rfl) ?_
        clear hm a; intro a hm
        refine wpList_nil ?_
        refine x_then_n ⟨(hS.sub (.cons (Mem.le.refl _) (.cons (Mem.no_le _) (.cons (Mem.le.refl _) (Sub.nil _))))), ?_⟩
        refine h_event 3 [true, true, true, true, true, true, true, false, true, true, true, false, false, false, false, false, false, false, false, false, false].toArray rfl (by kernel_rfl) rfl ?_
        refine s_call hm rfl Try.call49 rfl (slices_Clone_sbyte_byte.calls x0.Cmd.Key _ t_7 w0 _ _ _ (Mem.le.refl _) (hS.enter [] (by decide)) (hp0_0.mono (hA.trans (hS.le_zed []))) et_7) ?_
        rintro v_259 w_256 ⟨_, N_257, M_261, rfl, hS', hr_260⟩
        clear hm a; intro a hm
        obtain ⟨N_258, hS'', le_258, ln_258⟩ := hS.call [] (by decide) rfl (l' := []) (ow := [M_261]) rfl hS'
        replace hS : Sep w0 w_256 [N_258, Mem.one g_2 (.cells ([.int .i64 x0.Sess, .int .i64 x0.Seq, .int .i64 x0.Cmd.Kind, .int .i64 x0.Cmd.Who, p0_0, p0_1, p0_2] : List Value).toArray 45 (0, 0)), Mem.one g_4 (.cells ([.int .i64 0, .int .i64 0, .int .i64 0, .int .i64 0, .slice none 0 0, .slice none 0 0, .slice none 0 0] : List Value).toArray 45 (0, 0)), M_261] Z := hS''
        clear hS' hS''
        refine wpList_nil ?_
        refine x_then_n ⟨(hS.sub (.cons le_258 (.cons (Mem.no_le _) (.cons (Mem.le.refl _) (Sub.nil _))))), ?_⟩
        refine h_take 12 [true, true, true, true, true, true, true, false, true, true, true, false, true, false, false, false, false, false, false, false, false].toArray rfl (by kernel_rfl) (by kernel_rfl) (by kernel_rfl) (fun _ _ _ _ h => h) rfl rfl rfl rfl hm (hS.sub (.cons le_258 (.cons (Mem.no_le _) (.cons (Mem.le.refl _) (Sub.nil _))))) (v := .pointer (some ⟨g_2, 2, none⟩)) (fun w hS => r_fieldAddr hm Try.underlying45 rfl ti43 rfl rfl rfl) ?_
        clear hm a; intro a hm
        refine h_take 13 [true, true, true, true, true, true, true, false, true, true, true, false, true, true, false, false, false, false, false, false, false].toArray rfl (by kernel_rfl) (by kernel_rfl) (by kernel_rfl) (fun _ _ _ _ h => h) rfl rfl rfl rfl hm (hS.sub (.cons le_258 (.cons (Mem.no_le _) (.cons (Mem.le.refl _) (Sub.nil _))))) (v := .pointer (some ⟨g_2, 4, none⟩)) (fun w hS => r_fieldAddr hm Try.underlying43 rfl ti26 rfl rfl rfl) ?_
        clear hm a; intro a hm
        refine h_event 7 [true, true, true, true, true, true, true, true, true, true, true, false, true, true, false, false, false, false, false, false, false].toArray rfl (by kernel_rfl) rfl ?_
        refine s_call hm rfl Try.call49 rfl (slices_Clone_sbyte_byte.calls x0.Cmd.Val _ t_15 w0 _ _ _ (Mem.le.refl _) (hS.enter [] (by decide)) (hp0_1.mono (hA.trans (hS.le_zed []))) et_15) ?_
        rintro v_267 w_264 ⟨_, N_265, M_269, rfl, hS', hr_268⟩
        clear hm a; intro a hm
        obtain ⟨N_266, hS'', le_266, ln_266⟩ := hS.call [] (by decide) rfl (l' := []) (ow := [M_269]) rfl hS'
        replace hS : Sep w0 w_264 [N_266, Mem.one g_2 (.cells ([.int .i64 x0.Sess, .int .i64 x0.Seq, .int .i64 x0.Cmd.Kind, .int .i64 x0.Cmd.Who, p0_0, p0_1, p0_2] : List Value).toArray 45 (0, 0)), Mem.one g_4 (.cells ([.int .i64 0, .int .i64 0, .int .i64 0, .int .i64 0, .slice none 0 0, .slice none 0 0, .slice none 0 0] : List Value).toArray 45 (0, 0)), M_261, M_269] Z := hS''
        clear hS' hS''
        refine wpList_nil ?_
        refine x_then_n ⟨(hS.sub (.cons (le_258.trans le_266) (.cons (Mem.no_le _) (.cons (Mem.le.refl _) (Sub.nil _))))), ?_⟩
        refine h_event 11 [true, true, true, true, true, true, true, true, true, true, true, true, true, true, false, false, false, false, false, false, false].toArray rfl (by kernel_rfl) rfl ?_
        refine s_call hm rfl Try.call49 rfl (slices_Clone_sbyte_byte.calls x0.Cmd.Old _ t_23 w0 _ _ _ (Mem.le.refl _) (hS.enter [] (by decide)) (hp0_2.mono (hA.trans (hS.le_zed []))) et_23) ?_
        rintro v_275 w_272 ⟨_, N_273, M_277, rfl, hS', hr_276⟩
        clear hm a; intro a hm
        obtain ⟨N_274, hS'', le_274, ln_274⟩ := hS.call [] (by decide) rfl (l' := []) (ow := [M_277]) rfl hS'
        replace hS : Sep w0 w_272 [N_274, Mem.one g_2 (.cells ([.int .i64 x0.Sess, .int .i64 x0.Seq, .int .i64 x0.Cmd.Kind, .int .i64 x0.Cmd.Who, p0_0, p0_1, p0_2] : List Value).toArray 45 (0, 0)), Mem.one g_4 (.cells ([.int .i64 0, .int .i64 0, .int .i64 0, .int .i64 0, .slice none 0 0, .slice none 0 0, .slice none 0 0] : List Value).toArray 45 (0, 0)), M_261, M_269, M_277] Z := hS''
        clear hS' hS''
        refine wpList_nil ?_
        refine x_then_n ⟨(hS.sub (.cons (le_258.trans (le_266.trans le_274)) (.cons (Mem.no_le _) (.cons (Mem.le.refl _) (Sub.nil _))))), ?_⟩
        refine h_event 14 [true, true, true, true, true, true, true, true, true, true, true, true, true, true, true, false, false, false, false, false, false].toArray rfl (by kernel_rfl) rfl ?_
        obtain ⟨w_279, hs', hS'⟩ := hS.store (P := Try.prog) (p := 1) (o := 4) (t := 26) (v := v_259) (vs := [v_259]) rfl ti26 hr_260.cellsA rfl rfl (by intro u hu; simp only [List.mem_cons, List.not_mem_nil, or_false] at hu; rcases hu with rfl <;> first | rfl | exact hr_260.one)
        refine s_store hm rfl rfl hs' ?_
        replace hS : Sep w0 w_279 [N_274, Mem.one g_2 (.cells ([.int .i64 x0.Sess, .int .i64 x0.Seq, .int .i64 x0.Cmd.Kind, .int .i64 x0.Cmd.Who, v_259, p0_1, p0_2] : List Value).toArray 45 (0, 0)), Mem.one g_4 (.cells ([.int .i64 0, .int .i64 0, .int .i64 0, .int .i64 0, .slice none 0 0, .slice none 0 0, .slice none 0 0] : List Value).toArray 45 (0, 0)), M_261, M_269, M_277] Z := hS'
        clear hs' hS'
        refine wpList_nil ?_
        refine x_then_n ⟨(hS.sub (.cons (le_258.trans (le_266.trans le_274)) (.cons (Mem.no_le _) (.cons (Mem.le.refl _) (Sub.nil _))))), ?_⟩
        refine h_take 15 [true, true, true, true, true, true, true, true, true, true, true, true, true, true, true, true, false, false, false, false, false].toArray rfl (by kernel_rfl) (by kernel_rfl) (by kernel_rfl) (fun _ _ _ _ h => h) rfl rfl rfl rfl hm (hS.sub (.cons (le_258.trans (le_266.trans le_274)) (.cons (Mem.no_le _) (.cons (Mem.le.refl _) (Sub.nil _))))) (v := .pointer (some ⟨g_2, 2, none⟩)) (fun w hS => r_fieldAddr hm Try.underlying45 rfl ti43 rfl rfl rfl) ?_
        clear hm a; intro a hm
        refine h_take 16 [true, true, true, true, true, true, true, true, true, true, true, true, true, true, true, true, true, false, false, false, false].toArray rfl (by kernel_rfl) (by kernel_rfl) (by kernel_rfl) (fun _ _ _ _ h => h) rfl rfl rfl rfl hm (hS.sub (.cons (le_258.trans (le_266.trans le_274)) (.cons (Mem.no_le _) (.cons (Mem.le.refl _) (Sub.nil _))))) (v := .pointer (some ⟨g_2, 5, none⟩)) (fun w hS => r_fieldAddr hm Try.underlying43 rfl ti26 rfl rfl rfl) ?_
        clear hm a; intro a hm
        refine h_event 17 [true, true, true, true, true, true, true, true, true, true, true, true, true, true, true, true, true, true, false, false, false].toArray rfl (by kernel_rfl) rfl ?_
        obtain ⟨w_280, hs', hS'⟩ := hS.store (P := Try.prog) (p := 1) (o := 5) (t := 26) (v := v_267) (vs := [v_267]) rfl ti26 hr_268.cellsA rfl rfl (by intro u hu; simp only [List.mem_cons, List.not_mem_nil, or_false] at hu; rcases hu with rfl <;> first | rfl | exact hr_268.one)
        refine s_store hm rfl rfl hs' ?_
        replace hS : Sep w0 w_280 [N_274, Mem.one g_2 (.cells ([.int .i64 x0.Sess, .int .i64 x0.Seq, .int .i64 x0.Cmd.Kind, .int .i64 x0.Cmd.Who, v_259, v_267, p0_2] : List Value).toArray 45 (0, 0)), Mem.one g_4 (.cells ([.int .i64 0, .int .i64 0, .int .i64 0, .int .i64 0, .slice none 0 0, .slice none 0 0, .slice none 0 0] : List Value).toArray 45 (0, 0)), M_261, M_269, M_277] Z := hS'
        clear hs' hS'
        refine wpList_nil ?_
        refine x_then_n ⟨(hS.sub (.cons (le_258.trans (le_266.trans le_274)) (.cons (Mem.no_le _) (.cons (Mem.le.refl _) (Sub.nil _))))), ?_⟩
        refine h_take 18 [true, true, true, true, true, true, true, true, true, true, true, true, true, true, true, true, true, true, true, false, false].toArray rfl (by kernel_rfl) (by kernel_rfl) (by kernel_rfl) (fun _ _ _ _ h => h) rfl rfl rfl rfl hm (hS.sub (.cons (le_258.trans (le_266.trans le_274)) (.cons (Mem.no_le _) (.cons (Mem.le.refl _) (Sub.nil _))))) (v := .pointer (some ⟨g_2, 2, none⟩)) (fun w hS => r_fieldAddr hm Try.underlying45 rfl ti43 rfl rfl rfl) ?_
        clear hm a; intro a hm
        refine h_take 19 [true, true, true, true, true, true, true, true, true, true, true, true, true, true, true, true, true, true, true, true, false].toArray rfl (by kernel_rfl) (by kernel_rfl) (by kernel_rfl) (fun _ _ _ _ h => h) rfl rfl rfl rfl hm (hS.sub (.cons (le_258.trans (le_266.trans le_274)) (.cons (Mem.no_le _) (.cons (Mem.le.refl _) (Sub.nil _))))) (v := .pointer (some ⟨g_2, 6, none⟩)) (fun w hS => r_fieldAddr hm Try.underlying43 rfl ti26 rfl rfl rfl) ?_
        clear hm a; intro a hm
        refine h_event 20 [true, true, true, true, true, true, true, true, true, true, true, true, true, true, true, true, true, true, true, true, true].toArray rfl (by kernel_rfl) rfl ?_
        obtain ⟨w_281, hs', hS'⟩ := hS.store (P := Try.prog) (p := 1) (o := 6) (t := 26) (v := v_275) (vs := [v_275]) rfl ti26 hr_276.cellsA rfl rfl (by intro u hu; simp only [List.mem_cons, List.not_mem_nil, or_false] at hu; rcases hu with rfl <;> first | rfl | exact hr_276.one)
        refine s_store hm rfl rfl hs' ?_
        replace hS : Sep w0 w_281 [N_274, Mem.one g_2 (.cells ([.int .i64 x0.Sess, .int .i64 x0.Seq, .int .i64 x0.Cmd.Kind, .int .i64 x0.Cmd.Who, v_259, v_267, v_275] : List Value).toArray 45 (0, 0)), Mem.one g_4 (.cells ([.int .i64 0, .int .i64 0, .int .i64 0, .int .i64 0, .slice none 0 0, .slice none 0 0, .slice none 0 0] : List Value).toArray 45 (0, 0)), M_261, M_269, M_277] Z := hS'
        clear hs' hS'
        refine wpList_nil ?_
        refine x_then_n ⟨(hS.sub (.cons (le_258.trans (le_266.trans le_274)) (.cons (Mem.no_le _) (.cons (Mem.le.refl _) (Sub.nil _))))), ?_⟩
        refine h_done (by kernel_rfl) ?_
        replace hm : Fr 22 a [(1, .pointer (some ⟨g_2, 0, none⟩)), (2, .pointer (some ⟨g_4, 0, none⟩))] := hm.keep [1, 2]
        refine x_then_n (hKJ_5 _ _ ?_)
        refine wp_seq ?_
        refine wp_region_lit ?_
        refine s_load hm rfl rfl (hS.load_agg (p := 1) (us := [.int .i64 x0.Sess, .int .i64 x0.Seq, .int .i64 x0.Cmd.Kind, .int .i64 x0.Cmd.Who, v_259, v_267, v_275]) rfl Try.underlying45 rfl ti45 rfl rfl) ?_
        clear hm a; intro a hm
        obtain ⟨w_282, hs', hS'⟩ := hS.store (P := Try.prog) (p := 2) (o := 0) (t := 45) (v := .agg ([.int .i64 x0.Sess, .int .i64 x0.Seq, .int .i64 x0.Cmd.Kind, .int .i64 x0.Cmd.Who, v_259, v_267, v_275] : List Value).toArray) (vs := [.int .i64 x0.Sess, .int .i64 x0.Seq, .int .i64 x0.Cmd.Kind, .int .i64 x0.Cmd.Who, v_259, v_267, v_275]) rfl ti45 rfl rfl rfl (by intro u hu; simp only [List.mem_cons, List.not_mem_nil, or_false] at hu; rcases hu with rfl | rfl | rfl | rfl | rfl | rfl | rfl <;> first | rfl | exact hr_260.one | exact hr_268.one | exact hr_276.one)
        refine s_store hm rfl rfl hs' ?_
        replace hS : Sep w0 w_282 [N_274, Mem.one g_2 (.cells ([.int .i64 x0.Sess, .int .i64 x0.Seq, .int .i64 x0.Cmd.Kind, .int .i64 x0.Cmd.Who, v_259, v_267, v_275] : List Value).toArray 45 (0, 0)), Mem.one g_4 (.cells ([.int .i64 x0.Sess, .int .i64 x0.Seq, .int .i64 x0.Cmd.Kind, .int .i64 x0.Cmd.Who, v_259, v_267, v_275] : List Value).toArray 45 (0, 0)), M_261, M_269, M_277] Z := hS'
        clear hs' hS'
        refine wpList_nil ?_
        replace hm : Fr 22 a [(2, .pointer (some ⟨g_4, 0, none⟩))] := hm.keep [2]
        refine x_then_n ?_
        refine wp_ret ?_
        obtain rfl := Option.some.inj H
        exact f_ret hm (rs := [.cell 2 45]) rfl (.cell rfl (hS.load_agg (p := 2) (us := [.int .i64 x0.Sess, .int .i64 x0.Seq, .int .i64 x0.Cmd.Kind, .int .i64 x0.Cmd.Who, v_259, v_267, v_275]) rfl Try.underlying45 rfl ti45 rfl rfl) .nil) ⟨_, rfl, v_259, v_267, v_275, N_274, M_261, M_269, M_277, rfl, (Sep.sel hS [0, 3, 4, 5] (by decide)), hr_260, hr_268, hr_276⟩
    · refine ⟨_, [true, true, false, false, true, true, true, false, true, true, true, false, false, false, false, false, false, false, false, false, false].toArray, rfl, rfl, ?_⟩
      refine s_load hm rfl rfl (hS.load_one (p := 1) rfl Try.underlying26 rfl rfl) ?_
      clear hm a; intro a hm
      refine wpList_nil ?_
      refine x_then_n ⟨(hS.sub (.cons (Mem.le.refl _) (.cons (Mem.no_le _) (.cons (Mem.le.refl _) (Sub.nil _))))), ?_⟩
      refine h_event 2 [true, true, true, false, true, true, true, false, true, true, true, false, false, false, false, false, false, false, false, false, false].toArray rfl (by kernel_rfl) rfl ?_
      refine s_load hm rfl rfl (hS.load_one (p := 1) rfl Try.underlying26 rfl rfl) ?_
      clear hm a; intro a hm
      refine wpList_nil ?_
      refine x_then_n ⟨(hS.sub (.cons (Mem.le.refl _) (.cons (Mem.no_le _) (.cons (Mem.le.refl _) (Sub.nil _))))), ?_⟩
      refine h_event 3 [true, true, true, true, true, true, true, false, true, true, true, false, false, false, false, false, false, false, false, false, false].toArray rfl (by kernel_rfl) rfl ?_
      refine s_call hm rfl Try.call49 rfl (slices_Clone_sbyte_byte.calls x0.Cmd.Key _ t_7 w0 _ _ _ (Mem.le.refl _) (hS.enter [] (by decide)) (hp0_0.mono (hA.trans (hS.le_zed []))) et_7) ?_
      rintro v_287 w_284 ⟨_, N_285, M_289, rfl, hS', hr_288⟩
      clear hm a; intro a hm
      obtain ⟨N_286, hS'', le_286, ln_286⟩ := hS.call [] (by decide) rfl (l' := []) (ow := [M_289]) rfl hS'
      replace hS : Sep w0 w_284 [N_286, Mem.one g_2 (.cells ([.int .i64 x0.Sess, .int .i64 x0.Seq, .int .i64 x0.Cmd.Kind, .int .i64 x0.Cmd.Who, p0_0, p0_1, p0_2] : List Value).toArray 45 (0, 0)), Mem.one g_4 (.cells ([.int .i64 0, .int .i64 0, .int .i64 0, .int .i64 0, .slice none 0 0, .slice none 0 0, .slice none 0 0] : List Value).toArray 45 (0, 0)), M_289] Z := hS''
      clear hS' hS''
      refine wpList_nil ?_
      refine x_then_n ⟨(hS.sub (.cons le_286 (.cons (Mem.no_le _) (.cons (Mem.le.refl _) (Sub.nil _))))), ?_⟩
      refine h_take 12 [true, true, true, true, true, true, true, false, true, true, true, false, true, false, false, false, false, false, false, false, false].toArray rfl (by kernel_rfl) (by kernel_rfl) (by kernel_rfl) (fun _ _ _ _ h => h) rfl rfl rfl rfl hm (hS.sub (.cons le_286 (.cons (Mem.no_le _) (.cons (Mem.le.refl _) (Sub.nil _))))) (v := .pointer (some ⟨g_2, 2, none⟩)) (fun w hS => r_fieldAddr hm Try.underlying45 rfl ti43 rfl rfl rfl) ?_
      clear hm a; intro a hm
      refine h_take 13 [true, true, true, true, true, true, true, false, true, true, true, false, true, true, false, false, false, false, false, false, false].toArray rfl (by kernel_rfl) (by kernel_rfl) (by kernel_rfl) (fun _ _ _ _ h => h) rfl rfl rfl rfl hm (hS.sub (.cons le_286 (.cons (Mem.no_le _) (.cons (Mem.le.refl _) (Sub.nil _))))) (v := .pointer (some ⟨g_2, 4, none⟩)) (fun w hS => r_fieldAddr hm Try.underlying43 rfl ti26 rfl rfl rfl) ?_
      clear hm a; intro a hm
      refine h_event 7 [true, true, true, true, true, true, true, true, true, true, true, false, true, true, false, false, false, false, false, false, false].toArray rfl (by kernel_rfl) rfl ?_
      refine s_call hm rfl Try.call49 rfl (slices_Clone_sbyte_byte.calls x0.Cmd.Val _ t_15 w0 _ _ _ (Mem.le.refl _) (hS.enter [] (by decide)) (hp0_1.mono (hA.trans (hS.le_zed []))) et_15) ?_
      rintro v_295 w_292 ⟨_, N_293, M_297, rfl, hS', hr_296⟩
      clear hm a; intro a hm
      obtain ⟨N_294, hS'', le_294, ln_294⟩ := hS.call [] (by decide) rfl (l' := []) (ow := [M_297]) rfl hS'
      replace hS : Sep w0 w_292 [N_294, Mem.one g_2 (.cells ([.int .i64 x0.Sess, .int .i64 x0.Seq, .int .i64 x0.Cmd.Kind, .int .i64 x0.Cmd.Who, p0_0, p0_1, p0_2] : List Value).toArray 45 (0, 0)), Mem.one g_4 (.cells ([.int .i64 0, .int .i64 0, .int .i64 0, .int .i64 0, .slice none 0 0, .slice none 0 0, .slice none 0 0] : List Value).toArray 45 (0, 0)), M_289, M_297] Z := hS''
      clear hS' hS''
      refine wpList_nil ?_
      refine x_then_n ⟨(hS.sub (.cons (le_286.trans le_294) (.cons (Mem.no_le _) (.cons (Mem.le.refl _) (Sub.nil _))))), ?_⟩
      refine h_event 11 [true, true, true, true, true, true, true, true, true, true, true, true, true, true, false, false, false, false, false, false, false].toArray rfl (by kernel_rfl) rfl ?_
      refine s_call hm rfl Try.call49 rfl (slices_Clone_sbyte_byte.calls x0.Cmd.Old _ t_23 w0 _ _ _ (Mem.le.refl _) (hS.enter [] (by decide)) (hp0_2.mono (hA.trans (hS.le_zed []))) et_23) ?_
      rintro v_303 w_300 ⟨_, N_301, M_305, rfl, hS', hr_304⟩
      clear hm a; intro a hm
      obtain ⟨N_302, hS'', le_302, ln_302⟩ := hS.call [] (by decide) rfl (l' := []) (ow := [M_305]) rfl hS'
      replace hS : Sep w0 w_300 [N_302, Mem.one g_2 (.cells ([.int .i64 x0.Sess, .int .i64 x0.Seq, .int .i64 x0.Cmd.Kind, .int .i64 x0.Cmd.Who, p0_0, p0_1, p0_2] : List Value).toArray 45 (0, 0)), Mem.one g_4 (.cells ([.int .i64 0, .int .i64 0, .int .i64 0, .int .i64 0, .slice none 0 0, .slice none 0 0, .slice none 0 0] : List Value).toArray 45 (0, 0)), M_289, M_297, M_305] Z := hS''
      clear hS' hS''
      refine wpList_nil ?_
      refine x_then_n ⟨(hS.sub (.cons (le_286.trans (le_294.trans le_302)) (.cons (Mem.no_le _) (.cons (Mem.le.refl _) (Sub.nil _))))), ?_⟩
      refine h_event 14 [true, true, true, true, true, true, true, true, true, true, true, true, true, true, true, false, false, false, false, false, false].toArray rfl (by kernel_rfl) rfl ?_
      obtain ⟨w_307, hs', hS'⟩ := hS.store (P := Try.prog) (p := 1) (o := 4) (t := 26) (v := v_287) (vs := [v_287]) rfl ti26 hr_288.cellsA rfl rfl (by intro u hu; simp only [List.mem_cons, List.not_mem_nil, or_false] at hu; rcases hu with rfl <;> first | rfl | exact hr_288.one)
      refine s_store hm rfl rfl hs' ?_
      replace hS : Sep w0 w_307 [N_302, Mem.one g_2 (.cells ([.int .i64 x0.Sess, .int .i64 x0.Seq, .int .i64 x0.Cmd.Kind, .int .i64 x0.Cmd.Who, v_287, p0_1, p0_2] : List Value).toArray 45 (0, 0)), Mem.one g_4 (.cells ([.int .i64 0, .int .i64 0, .int .i64 0, .int .i64 0, .slice none 0 0, .slice none 0 0, .slice none 0 0] : List Value).toArray 45 (0, 0)), M_289, M_297, M_305] Z := hS'
      clear hs' hS'
      refine wpList_nil ?_
      refine x_then_n ⟨(hS.sub (.cons (le_286.trans (le_294.trans le_302)) (.cons (Mem.no_le _) (.cons (Mem.le.refl _) (Sub.nil _))))), ?_⟩
      refine h_take 15 [true, true, true, true, true, true, true, true, true, true, true, true, true, true, true, true, false, false, false, false, false].toArray rfl (by kernel_rfl) (by kernel_rfl) (by kernel_rfl) (fun _ _ _ _ h => h) rfl rfl rfl rfl hm (hS.sub (.cons (le_286.trans (le_294.trans le_302)) (.cons (Mem.no_le _) (.cons (Mem.le.refl _) (Sub.nil _))))) (v := .pointer (some ⟨g_2, 2, none⟩)) (fun w hS => r_fieldAddr hm Try.underlying45 rfl ti43 rfl rfl rfl) ?_
      clear hm a; intro a hm
      refine h_take 16 [true, true, true, true, true, true, true, true, true, true, true, true, true, true, true, true, true, false, false, false, false].toArray rfl (by kernel_rfl) (by kernel_rfl) (by kernel_rfl) (fun _ _ _ _ h => h) rfl rfl rfl rfl hm (hS.sub (.cons (le_286.trans (le_294.trans le_302)) (.cons (Mem.no_le _) (.cons (Mem.le.refl _) (Sub.nil _))))) (v := .pointer (some ⟨g_2, 5, none⟩)) (fun w hS => r_fieldAddr hm Try.underlying43 rfl ti26 rfl rfl rfl) ?_
      clear hm a; intro a hm
      refine h_event 17 [true, true, true, true, true, true, true, true, true, true, true, true, true, true, true, true, true, true, false, false, false].toArray rfl (by kernel_rfl) rfl ?_
      obtain ⟨w_308, hs', hS'⟩ := hS.store (P := Try.prog) (p := 1) (o := 5) (t := 26) (v := v_295) (vs := [v_295]) rfl ti26 hr_296.cellsA rfl rfl (by intro u hu; simp only [List.mem_cons, List.not_mem_nil, or_false] at hu; rcases hu with rfl <;> first | rfl | exact hr_296.one)
      refine s_store hm rfl rfl hs' ?_
      replace hS : Sep w0 w_308 [N_302, Mem.one g_2 (.cells ([.int .i64 x0.Sess, .int .i64 x0.Seq, .int .i64 x0.Cmd.Kind, .int .i64 x0.Cmd.Who, v_287, v_295, p0_2] : List Value).toArray 45 (0, 0)), Mem.one g_4 (.cells ([.int .i64 0, .int .i64 0, .int .i64 0, .int .i64 0, .slice none 0 0, .slice none 0 0, .slice none 0 0] : List Value).toArray 45 (0, 0)), M_289, M_297, M_305] Z := hS'
      clear hs' hS'
      refine wpList_nil ?_
      refine x_then_n ⟨(hS.sub (.cons (le_286.trans (le_294.trans le_302)) (.cons (Mem.no_le _) (.cons (Mem.le.refl _) (Sub.nil _))))), ?_⟩
      refine h_take 18 [true, true, true, true, true, true, true, true, true, true, true, true, true, true, true, true, true, true, true, false, false].toArray rfl (by kernel_rfl) (by kernel_rfl) (by kernel_rfl) (fun _ _ _ _ h => h) rfl rfl rfl rfl hm (hS.sub (.cons (le_286.trans (le_294.trans le_302)) (.cons (Mem.no_le _) (.cons (Mem.le.refl _) (Sub.nil _))))) (v := .pointer (some ⟨g_2, 2, none⟩)) (fun w hS => r_fieldAddr hm Try.underlying45 rfl ti43 rfl rfl rfl) ?_
      clear hm a; intro a hm
      refine h_take 19 [true, true, true, true, true, true, true, true, true, true, true, true, true, true, true, true, true, true, true, true, false].toArray rfl (by kernel_rfl) (by kernel_rfl) (by kernel_rfl) (fun _ _ _ _ h => h) rfl rfl rfl rfl hm (hS.sub (.cons (le_286.trans (le_294.trans le_302)) (.cons (Mem.no_le _) (.cons (Mem.le.refl _) (Sub.nil _))))) (v := .pointer (some ⟨g_2, 6, none⟩)) (fun w hS => r_fieldAddr hm Try.underlying43 rfl ti26 rfl rfl rfl) ?_
      clear hm a; intro a hm
      refine h_event 20 [true, true, true, true, true, true, true, true, true, true, true, true, true, true, true, true, true, true, true, true, true].toArray rfl (by kernel_rfl) rfl ?_
      obtain ⟨w_309, hs', hS'⟩ := hS.store (P := Try.prog) (p := 1) (o := 6) (t := 26) (v := v_303) (vs := [v_303]) rfl ti26 hr_304.cellsA rfl rfl (by intro u hu; simp only [List.mem_cons, List.not_mem_nil, or_false] at hu; rcases hu with rfl <;> first | rfl | exact hr_304.one)
      refine s_store hm rfl rfl hs' ?_
      replace hS : Sep w0 w_309 [N_302, Mem.one g_2 (.cells ([.int .i64 x0.Sess, .int .i64 x0.Seq, .int .i64 x0.Cmd.Kind, .int .i64 x0.Cmd.Who, v_287, v_295, v_303] : List Value).toArray 45 (0, 0)), Mem.one g_4 (.cells ([.int .i64 0, .int .i64 0, .int .i64 0, .int .i64 0, .slice none 0 0, .slice none 0 0, .slice none 0 0] : List Value).toArray 45 (0, 0)), M_289, M_297, M_305] Z := hS'
      clear hs' hS'
      refine wpList_nil ?_
      refine x_then_n ⟨(hS.sub (.cons (le_286.trans (le_294.trans le_302)) (.cons (Mem.no_le _) (.cons (Mem.le.refl _) (Sub.nil _))))), ?_⟩
      refine h_done (by kernel_rfl) ?_
      replace hm : Fr 22 a [(1, .pointer (some ⟨g_2, 0, none⟩)), (2, .pointer (some ⟨g_4, 0, none⟩))] := hm.keep [1, 2]
      refine x_then_n (hKJ_5 _ _ ?_)
      refine wp_seq ?_
      refine wp_region_lit ?_
      refine s_load hm rfl rfl (hS.load_agg (p := 1) (us := [.int .i64 x0.Sess, .int .i64 x0.Seq, .int .i64 x0.Cmd.Kind, .int .i64 x0.Cmd.Who, v_287, v_295, v_303]) rfl Try.underlying45 rfl ti45 rfl rfl) ?_
      clear hm a; intro a hm
      obtain ⟨w_310, hs', hS'⟩ := hS.store (P := Try.prog) (p := 2) (o := 0) (t := 45) (v := .agg ([.int .i64 x0.Sess, .int .i64 x0.Seq, .int .i64 x0.Cmd.Kind, .int .i64 x0.Cmd.Who, v_287, v_295, v_303] : List Value).toArray) (vs := [.int .i64 x0.Sess, .int .i64 x0.Seq, .int .i64 x0.Cmd.Kind, .int .i64 x0.Cmd.Who, v_287, v_295, v_303]) rfl ti45 rfl rfl rfl (by intro u hu; simp only [List.mem_cons, List.not_mem_nil, or_false] at hu; rcases hu with rfl | rfl | rfl | rfl | rfl | rfl | rfl <;> first | rfl | exact hr_288.one | exact hr_296.one | exact hr_304.one)
      refine s_store hm rfl rfl hs' ?_
      replace hS : Sep w0 w_310 [N_302, Mem.one g_2 (.cells ([.int .i64 x0.Sess, .int .i64 x0.Seq, .int .i64 x0.Cmd.Kind, .int .i64 x0.Cmd.Who, v_287, v_295, v_303] : List Value).toArray 45 (0, 0)), Mem.one g_4 (.cells ([.int .i64 x0.Sess, .int .i64 x0.Seq, .int .i64 x0.Cmd.Kind, .int .i64 x0.Cmd.Who, v_287, v_295, v_303] : List Value).toArray 45 (0, 0)), M_289, M_297, M_305] Z := hS'
      clear hs' hS'
      refine wpList_nil ?_
      replace hm : Fr 22 a [(2, .pointer (some ⟨g_4, 0, none⟩))] := hm.keep [2]
      refine x_then_n ?_
      refine wp_ret ?_
      obtain rfl := Option.some.inj H
      exact f_ret hm (rs := [.cell 2 45]) rfl (.cell rfl (hS.load_agg (p := 2) (us := [.int .i64 x0.Sess, .int .i64 x0.Seq, .int .i64 x0.Cmd.Kind, .int .i64 x0.Cmd.Who, v_287, v_295, v_303]) rfl Try.underlying45 rfl ti45 rfl rfl) .nil) ⟨_, rfl, v_287, v_295, v_303, N_302, M_289, M_297, M_305, rfl, (Sep.sel hS [0, 3, 4, 5] (by decide)), hr_288, hr_296, hr_304⟩
  · refine ⟨_, [true, true, false, false, true, true, false, false, true, true, true, false, false, false, false, false, false, false, false, false, false].toArray, rfl, rfl, ?_⟩
    refine s_load hm rfl rfl (hS.load_one (p := 1) rfl Try.underlying26 rfl rfl) ?_
    clear hm a; intro a hm
    refine wpList_nil ?_
    refine x_then_n ⟨(hS.sub (.cons (Mem.le.refl _) (.cons (Mem.no_le _) (.cons (Mem.le.refl _) (Sub.nil _))))), ?_⟩
    refine h_events [2, 6] (by kernel_rfl) (by simp) ?_
    intro i hi; simp only [List.mem_cons, List.not_mem_nil, or_false] at hi; rcases hi with rfl | rfl
    · refine ⟨_, [true, true, true, false, true, true, false, false, true, true, true, false, false, false, false, false, false, false, false, false, false].toArray, rfl, rfl, ?_⟩
      refine s_load hm rfl rfl (hS.load_one (p := 1) rfl Try.underlying26 rfl rfl) ?_
      clear hm a; intro a hm
      refine wpList_nil ?_
      refine x_then_n ⟨(hS.sub (.cons (Mem.le.refl _) (.cons (Mem.no_le _) (.cons (Mem.le.refl _) (Sub.nil _))))), ?_⟩
      refine h_events [3, 6] (by kernel_rfl) (by simp) ?_
      intro i hi; simp only [List.mem_cons, List.not_mem_nil, or_false] at hi; rcases hi with rfl | rfl
      · refine ⟨_, [true, true, true, true, true, true, false, false, true, true, true, false, false, false, false, false, false, false, false, false, false].toArray, rfl, rfl, ?_⟩
        refine s_call hm rfl Try.call49 rfl (slices_Clone_sbyte_byte.calls x0.Cmd.Key _ t_7 w0 _ _ _ (Mem.le.refl _) (hS.enter [] (by decide)) (hp0_0.mono (hA.trans (hS.le_zed []))) et_7) ?_
        rintro v_315 w_312 ⟨_, N_313, M_317, rfl, hS', hr_316⟩
        clear hm a; intro a hm
        obtain ⟨N_314, hS'', le_314, ln_314⟩ := hS.call [] (by decide) rfl (l' := []) (ow := [M_317]) rfl hS'
        replace hS : Sep w0 w_312 [N_314, Mem.one g_2 (.cells ([.int .i64 x0.Sess, .int .i64 x0.Seq, .int .i64 x0.Cmd.Kind, .int .i64 x0.Cmd.Who, p0_0, p0_1, p0_2] : List Value).toArray 45 (0, 0)), Mem.one g_4 (.cells ([.int .i64 0, .int .i64 0, .int .i64 0, .int .i64 0, .slice none 0 0, .slice none 0 0, .slice none 0 0] : List Value).toArray 45 (0, 0)), M_317] Z := hS''
        clear hS' hS''
        refine wpList_nil ?_
        refine x_then_n ⟨(hS.sub (.cons le_314 (.cons (Mem.no_le _) (.cons (Mem.le.refl _) (Sub.nil _))))), ?_⟩
        refine h_event 6 [true, true, true, true, true, true, true, false, true, true, true, false, false, false, false, false, false, false, false, false, false].toArray rfl (by kernel_rfl) rfl ?_
        refine s_load hm rfl rfl (hS.load_one (p := 1) rfl Try.underlying26 rfl rfl) ?_
        clear hm a; intro a hm
        refine wpList_nil ?_
        refine x_then_n ⟨(hS.sub (.cons le_314 (.cons (Mem.no_le _) (.cons (Mem.le.refl _) (Sub.nil _))))), ?_⟩
        refine h_take 12 [true, true, true, true, true, true, true, false, true, true, true, false, true, false, false, false, false, false, false, false, false].toArray rfl (by kernel_rfl) (by kernel_rfl) (by kernel_rfl) (fun _ _ _ _ h => h) rfl rfl rfl rfl hm (hS.sub (.cons le_314 (.cons (Mem.no_le _) (.cons (Mem.le.refl _) (Sub.nil _))))) (v := .pointer (some ⟨g_2, 2, none⟩)) (fun w hS => r_fieldAddr hm Try.underlying45 rfl ti43 rfl rfl rfl) ?_
        clear hm a; intro a hm
        refine h_take 13 [true, true, true, true, true, true, true, false, true, true, true, false, true, true, false, false, false, false, false, false, false].toArray rfl (by kernel_rfl) (by kernel_rfl) (by kernel_rfl) (fun _ _ _ _ h => h) rfl rfl rfl rfl hm (hS.sub (.cons le_314 (.cons (Mem.no_le _) (.cons (Mem.le.refl _) (Sub.nil _))))) (v := .pointer (some ⟨g_2, 4, none⟩)) (fun w hS => r_fieldAddr hm Try.underlying43 rfl ti26 rfl rfl rfl) ?_
        clear hm a; intro a hm
        refine h_event 7 [true, true, true, true, true, true, true, true, true, true, true, false, true, true, false, false, false, false, false, false, false].toArray rfl (by kernel_rfl) rfl ?_
        refine s_call hm rfl Try.call49 rfl (slices_Clone_sbyte_byte.calls x0.Cmd.Val _ t_15 w0 _ _ _ (Mem.le.refl _) (hS.enter [] (by decide)) (hp0_1.mono (hA.trans (hS.le_zed []))) et_15) ?_
        rintro v_323 w_320 ⟨_, N_321, M_325, rfl, hS', hr_324⟩
        clear hm a; intro a hm
        obtain ⟨N_322, hS'', le_322, ln_322⟩ := hS.call [] (by decide) rfl (l' := []) (ow := [M_325]) rfl hS'
        replace hS : Sep w0 w_320 [N_322, Mem.one g_2 (.cells ([.int .i64 x0.Sess, .int .i64 x0.Seq, .int .i64 x0.Cmd.Kind, .int .i64 x0.Cmd.Who, p0_0, p0_1, p0_2] : List Value).toArray 45 (0, 0)), Mem.one g_4 (.cells ([.int .i64 0, .int .i64 0, .int .i64 0, .int .i64 0, .slice none 0 0, .slice none 0 0, .slice none 0 0] : List Value).toArray 45 (0, 0)), M_317, M_325] Z := hS''
        clear hS' hS''
        refine wpList_nil ?_
        refine x_then_n ⟨(hS.sub (.cons (le_314.trans le_322) (.cons (Mem.no_le _) (.cons (Mem.le.refl _) (Sub.nil _))))), ?_⟩
        refine h_event 11 [true, true, true, true, true, true, true, true, true, true, true, true, true, true, false, false, false, false, false, false, false].toArray rfl (by kernel_rfl) rfl ?_
        refine s_call hm rfl Try.call49 rfl (slices_Clone_sbyte_byte.calls x0.Cmd.Old _ t_23 w0 _ _ _ (Mem.le.refl _) (hS.enter [] (by decide)) (hp0_2.mono (hA.trans (hS.le_zed []))) et_23) ?_
        rintro v_331 w_328 ⟨_, N_329, M_333, rfl, hS', hr_332⟩
        clear hm a; intro a hm
        obtain ⟨N_330, hS'', le_330, ln_330⟩ := hS.call [] (by decide) rfl (l' := []) (ow := [M_333]) rfl hS'
        replace hS : Sep w0 w_328 [N_330, Mem.one g_2 (.cells ([.int .i64 x0.Sess, .int .i64 x0.Seq, .int .i64 x0.Cmd.Kind, .int .i64 x0.Cmd.Who, p0_0, p0_1, p0_2] : List Value).toArray 45 (0, 0)), Mem.one g_4 (.cells ([.int .i64 0, .int .i64 0, .int .i64 0, .int .i64 0, .slice none 0 0, .slice none 0 0, .slice none 0 0] : List Value).toArray 45 (0, 0)), M_317, M_325, M_333] Z := hS''
        clear hS' hS''
        refine wpList_nil ?_
        refine x_then_n ⟨(hS.sub (.cons (le_314.trans (le_322.trans le_330)) (.cons (Mem.no_le _) (.cons (Mem.le.refl _) (Sub.nil _))))), ?_⟩
        refine h_event 14 [true, true, true, true, true, true, true, true, true, true, true, true, true, true, true, false, false, false, false, false, false].toArray rfl (by kernel_rfl) rfl ?_
        obtain ⟨w_335, hs', hS'⟩ := hS.store (P := Try.prog) (p := 1) (o := 4) (t := 26) (v := v_315) (vs := [v_315]) rfl ti26 hr_316.cellsA rfl rfl (by intro u hu; simp only [List.mem_cons, List.not_mem_nil, or_false] at hu; rcases hu with rfl <;> first | rfl | exact hr_316.one)
        refine s_store hm rfl rfl hs' ?_
        replace hS : Sep w0 w_335 [N_330, Mem.one g_2 (.cells ([.int .i64 x0.Sess, .int .i64 x0.Seq, .int .i64 x0.Cmd.Kind, .int .i64 x0.Cmd.Who, v_315, p0_1, p0_2] : List Value).toArray 45 (0, 0)), Mem.one g_4 (.cells ([.int .i64 0, .int .i64 0, .int .i64 0, .int .i64 0, .slice none 0 0, .slice none 0 0, .slice none 0 0] : List Value).toArray 45 (0, 0)), M_317, M_325, M_333] Z := hS'
        clear hs' hS'
        refine wpList_nil ?_
        refine x_then_n ⟨(hS.sub (.cons (le_314.trans (le_322.trans le_330)) (.cons (Mem.no_le _) (.cons (Mem.le.refl _) (Sub.nil _))))), ?_⟩
        refine h_take 15 [true, true, true, true, true, true, true, true, true, true, true, true, true, true, true, true, false, false, false, false, false].toArray rfl (by kernel_rfl) (by kernel_rfl) (by kernel_rfl) (fun _ _ _ _ h => h) rfl rfl rfl rfl hm (hS.sub (.cons (le_314.trans (le_322.trans le_330)) (.cons (Mem.no_le _) (.cons (Mem.le.refl _) (Sub.nil _))))) (v := .pointer (some ⟨g_2, 2, none⟩)) (fun w hS => r_fieldAddr hm Try.underlying45 rfl ti43 rfl rfl rfl) ?_
        clear hm a; intro a hm
        refine h_take 16 [true, true, true, true, true, true, true, true, true, true, true, true, true, true, true, true, true, false, false, false, false].toArray rfl (by kernel_rfl) (by kernel_rfl) (by kernel_rfl) (fun _ _ _ _ h => h) rfl rfl rfl rfl hm (hS.sub (.cons (le_314.trans (le_322.trans le_330)) (.cons (Mem.no_le _) (.cons (Mem.le.refl _) (Sub.nil _))))) (v := .pointer (some ⟨g_2, 5, none⟩)) (fun w hS => r_fieldAddr hm Try.underlying43 rfl ti26 rfl rfl rfl) ?_
        clear hm a; intro a hm
        refine h_event 17 [true, true, true, true, true, true, true, true, true, true, true, true, true, true, true, true, true, true, false, false, false].toArray rfl (by kernel_rfl) rfl ?_
        obtain ⟨w_336, hs', hS'⟩ := hS.store (P := Try.prog) (p := 1) (o := 5) (t := 26) (v := v_323) (vs := [v_323]) rfl ti26 hr_324.cellsA rfl rfl (by intro u hu; simp only [List.mem_cons, List.not_mem_nil, or_false] at hu; rcases hu with rfl <;> first | rfl | exact hr_324.one)
        refine s_store hm rfl rfl hs' ?_
        replace hS : Sep w0 w_336 [N_330, Mem.one g_2 (.cells ([.int .i64 x0.Sess, .int .i64 x0.Seq, .int .i64 x0.Cmd.Kind, .int .i64 x0.Cmd.Who, v_315, v_323, p0_2] : List Value).toArray 45 (0, 0)), Mem.one g_4 (.cells ([.int .i64 0, .int .i64 0, .int .i64 0, .int .i64 0, .slice none 0 0, .slice none 0 0, .slice none 0 0] : List Value).toArray 45 (0, 0)), M_317, M_325, M_333] Z := hS'
        clear hs' hS'
        refine wpList_nil ?_
        refine x_then_n ⟨(hS.sub (.cons (le_314.trans (le_322.trans le_330)) (.cons (Mem.no_le _) (.cons (Mem.le.refl _) (Sub.nil _))))), ?_⟩
        refine h_take 18 [true, true, true, true, true, true, true, true, true, true, true, true, true, true, true, true, true, true, true, false, false].toArray rfl (by kernel_rfl) (by kernel_rfl) (by kernel_rfl) (fun _ _ _ _ h => h) rfl rfl rfl rfl hm (hS.sub (.cons (le_314.trans (le_322.trans le_330)) (.cons (Mem.no_le _) (.cons (Mem.le.refl _) (Sub.nil _))))) (v := .pointer (some ⟨g_2, 2, none⟩)) (fun w hS => r_fieldAddr hm Try.underlying45 rfl ti43 rfl rfl rfl) ?_
        clear hm a; intro a hm
        refine h_take 19 [true, true, true, true, true, true, true, true, true, true, true, true, true, true, true, true, true, true, true, true, false].toArray rfl (by kernel_rfl) (by kernel_rfl) (by kernel_rfl) (fun _ _ _ _ h => h) rfl rfl rfl rfl hm (hS.sub (.cons (le_314.trans (le_322.trans le_330)) (.cons (Mem.no_le _) (.cons (Mem.le.refl _) (Sub.nil _))))) (v := .pointer (some ⟨g_2, 6, none⟩)) (fun w hS => r_fieldAddr hm Try.underlying43 rfl ti26 rfl rfl rfl) ?_
        clear hm a; intro a hm
        refine h_event 20 [true, true, true, true, true, true, true, true, true, true, true, true, true, true, true, true, true, true, true, true, true].toArray rfl (by kernel_rfl) rfl ?_
        obtain ⟨w_337, hs', hS'⟩ := hS.store (P := Try.prog) (p := 1) (o := 6) (t := 26) (v := v_331) (vs := [v_331]) rfl ti26 hr_332.cellsA rfl rfl (by intro u hu; simp only [List.mem_cons, List.not_mem_nil, or_false] at hu; rcases hu with rfl <;> first | rfl | exact hr_332.one)
        refine s_store hm rfl rfl hs' ?_
        replace hS : Sep w0 w_337 [N_330, Mem.one g_2 (.cells ([.int .i64 x0.Sess, .int .i64 x0.Seq, .int .i64 x0.Cmd.Kind, .int .i64 x0.Cmd.Who, v_315, v_323, v_331] : List Value).toArray 45 (0, 0)), Mem.one g_4 (.cells ([.int .i64 0, .int .i64 0, .int .i64 0, .int .i64 0, .slice none 0 0, .slice none 0 0, .slice none 0 0] : List Value).toArray 45 (0, 0)), M_317, M_325, M_333] Z := hS'
        clear hs' hS'
        refine wpList_nil ?_
        refine x_then_n ⟨(hS.sub (.cons (le_314.trans (le_322.trans le_330)) (.cons (Mem.no_le _) (.cons (Mem.le.refl _) (Sub.nil _))))), ?_⟩
        refine h_done (by kernel_rfl) ?_
        replace hm : Fr 22 a [(1, .pointer (some ⟨g_2, 0, none⟩)), (2, .pointer (some ⟨g_4, 0, none⟩))] := hm.keep [1, 2]
        refine x_then_n (hKJ_5 _ _ ?_)
        refine wp_seq ?_
        refine wp_region_lit ?_
        refine s_load hm rfl rfl (hS.load_agg (p := 1) (us := [.int .i64 x0.Sess, .int .i64 x0.Seq, .int .i64 x0.Cmd.Kind, .int .i64 x0.Cmd.Who, v_315, v_323, v_331]) rfl Try.underlying45 rfl ti45 rfl rfl) ?_
        clear hm a; intro a hm
        obtain ⟨w_338, hs', hS'⟩ := hS.store (P := Try.prog) (p := 2) (o := 0) (t := 45) (v := .agg ([.int .i64 x0.Sess, .int .i64 x0.Seq, .int .i64 x0.Cmd.Kind, .int .i64 x0.Cmd.Who, v_315, v_323, v_331] : List Value).toArray) (vs := [.int .i64 x0.Sess, .int .i64 x0.Seq, .int .i64 x0.Cmd.Kind, .int .i64 x0.Cmd.Who, v_315, v_323, v_331]) rfl ti45 rfl rfl rfl (by intro u hu; simp only [List.mem_cons, List.not_mem_nil, or_false] at hu; rcases hu with rfl | rfl | rfl | rfl | rfl | rfl | rfl <;> first | rfl | exact hr_316.one | exact hr_324.one | exact hr_332.one)
        refine s_store hm rfl rfl hs' ?_
        replace hS : Sep w0 w_338 [N_330, Mem.one g_2 (.cells ([.int .i64 x0.Sess, .int .i64 x0.Seq, .int .i64 x0.Cmd.Kind, .int .i64 x0.Cmd.Who, v_315, v_323, v_331] : List Value).toArray 45 (0, 0)), Mem.one g_4 (.cells ([.int .i64 x0.Sess, .int .i64 x0.Seq, .int .i64 x0.Cmd.Kind, .int .i64 x0.Cmd.Who, v_315, v_323, v_331] : List Value).toArray 45 (0, 0)), M_317, M_325, M_333] Z := hS'
        clear hs' hS'
        refine wpList_nil ?_
        replace hm : Fr 22 a [(2, .pointer (some ⟨g_4, 0, none⟩))] := hm.keep [2]
        refine x_then_n ?_
        refine wp_ret ?_
        obtain rfl := Option.some.inj H
        exact f_ret hm (rs := [.cell 2 45]) rfl (.cell rfl (hS.load_agg (p := 2) (us := [.int .i64 x0.Sess, .int .i64 x0.Seq, .int .i64 x0.Cmd.Kind, .int .i64 x0.Cmd.Who, v_315, v_323, v_331]) rfl Try.underlying45 rfl ti45 rfl rfl) .nil) ⟨_, rfl, v_315, v_323, v_331, N_330, M_317, M_325, M_333, rfl, (Sep.sel hS [0, 3, 4, 5] (by decide)), hr_316, hr_324, hr_332⟩
      · refine ⟨_, [true, true, true, false, true, true, true, false, true, true, true, false, false, false, false, false, false, false, false, false, false].toArray, rfl, rfl, ?_⟩
        refine s_load hm rfl rfl (hS.load_one (p := 1) rfl Try.underlying26 rfl rfl) ?_
        clear hm a; intro a hm
        refine wpList_nil ?_
        refine x_then_n ⟨(hS.sub (.cons (Mem.le.refl _) (.cons (Mem.no_le _) (.cons (Mem.le.refl _) (Sub.nil _))))), ?_⟩
        refine h_event 3 [true, true, true, true, true, true, true, false, true, true, true, false, false, false, false, false, false, false, false, false, false].toArray rfl (by kernel_rfl) rfl ?_
        refine s_call hm rfl Try.call49 rfl (slices_Clone_sbyte_byte.calls x0.Cmd.Key _ t_7 w0 _ _ _ (Mem.le.refl _) (hS.enter [] (by decide)) (hp0_0.mono (hA.trans (hS.le_zed []))) et_7) ?_
        rintro v_343 w_340 ⟨_, N_341, M_345, rfl, hS', hr_344⟩
        clear hm a; intro a hm
        obtain ⟨N_342, hS'', le_342, ln_342⟩ := hS.call [] (by decide) rfl (l' := []) (ow := [M_345]) rfl hS'
        replace hS : Sep w0 w_340 [N_342, Mem.one g_2 (.cells ([.int .i64 x0.Sess, .int .i64 x0.Seq, .int .i64 x0.Cmd.Kind, .int .i64 x0.Cmd.Who, p0_0, p0_1, p0_2] : List Value).toArray 45 (0, 0)), Mem.one g_4 (.cells ([.int .i64 0, .int .i64 0, .int .i64 0, .int .i64 0, .slice none 0 0, .slice none 0 0, .slice none 0 0] : List Value).toArray 45 (0, 0)), M_345] Z := hS''
        clear hS' hS''
        refine wpList_nil ?_
        refine x_then_n ⟨(hS.sub (.cons le_342 (.cons (Mem.no_le _) (.cons (Mem.le.refl _) (Sub.nil _))))), ?_⟩
        refine h_take 12 [true, true, true, true, true, true, true, false, true, true, true, false, true, false, false, false, false, false, false, false, false].toArray rfl (by kernel_rfl) (by kernel_rfl) (by kernel_rfl) (fun _ _ _ _ h => h) rfl rfl rfl rfl hm (hS.sub (.cons le_342 (.cons (Mem.no_le _) (.cons (Mem.le.refl _) (Sub.nil _))))) (v := .pointer (some ⟨g_2, 2, none⟩)) (fun w hS => r_fieldAddr hm Try.underlying45 rfl ti43 rfl rfl rfl) ?_
        clear hm a; intro a hm
        refine h_take 13 [true, true, true, true, true, true, true, false, true, true, true, false, true, true, false, false, false, false, false, false, false].toArray rfl (by kernel_rfl) (by kernel_rfl) (by kernel_rfl) (fun _ _ _ _ h => h) rfl rfl rfl rfl hm (hS.sub (.cons le_342 (.cons (Mem.no_le _) (.cons (Mem.le.refl _) (Sub.nil _))))) (v := .pointer (some ⟨g_2, 4, none⟩)) (fun w hS => r_fieldAddr hm Try.underlying43 rfl ti26 rfl rfl rfl) ?_
        clear hm a; intro a hm
        refine h_event 7 [true, true, true, true, true, true, true, true, true, true, true, false, true, true, false, false, false, false, false, false, false].toArray rfl (by kernel_rfl) rfl ?_
        refine s_call hm rfl Try.call49 rfl (slices_Clone_sbyte_byte.calls x0.Cmd.Val _ t_15 w0 _ _ _ (Mem.le.refl _) (hS.enter [] (by decide)) (hp0_1.mono (hA.trans (hS.le_zed []))) et_15) ?_
        rintro v_351 w_348 ⟨_, N_349, M_353, rfl, hS', hr_352⟩
        clear hm a; intro a hm
        obtain ⟨N_350, hS'', le_350, ln_350⟩ := hS.call [] (by decide) rfl (l' := []) (ow := [M_353]) rfl hS'
        replace hS : Sep w0 w_348 [N_350, Mem.one g_2 (.cells ([.int .i64 x0.Sess, .int .i64 x0.Seq, .int .i64 x0.Cmd.Kind, .int .i64 x0.Cmd.Who, p0_0, p0_1, p0_2] : List Value).toArray 45 (0, 0)), Mem.one g_4 (.cells ([.int .i64 0, .int .i64 0, .int .i64 0, .int .i64 0, .slice none 0 0, .slice none 0 0, .slice none 0 0] : List Value).toArray 45 (0, 0)), M_345, M_353] Z := hS''
        clear hS' hS''
        refine wpList_nil ?_
        refine x_then_n ⟨(hS.sub (.cons (le_342.trans le_350) (.cons (Mem.no_le _) (.cons (Mem.le.refl _) (Sub.nil _))))), ?_⟩
        refine h_event 11 [true, true, true, true, true, true, true, true, true, true, true, true, true, true, false, false, false, false, false, false, false].toArray rfl (by kernel_rfl) rfl ?_
        refine s_call hm rfl Try.call49 rfl (slices_Clone_sbyte_byte.calls x0.Cmd.Old _ t_23 w0 _ _ _ (Mem.le.refl _) (hS.enter [] (by decide)) (hp0_2.mono (hA.trans (hS.le_zed []))) et_23) ?_
        rintro v_359 w_356 ⟨_, N_357, M_361, rfl, hS', hr_360⟩
        clear hm a; intro a hm
        obtain ⟨N_358, hS'', le_358, ln_358⟩ := hS.call [] (by decide) rfl (l' := []) (ow := [M_361]) rfl hS'
        replace hS : Sep w0 w_356 [N_358, Mem.one g_2 (.cells ([.int .i64 x0.Sess, .int .i64 x0.Seq, .int .i64 x0.Cmd.Kind, .int .i64 x0.Cmd.Who, p0_0, p0_1, p0_2] : List Value).toArray 45 (0, 0)), Mem.one g_4 (.cells ([.int .i64 0, .int .i64 0, .int .i64 0, .int .i64 0, .slice none 0 0, .slice none 0 0, .slice none 0 0] : List Value).toArray 45 (0, 0)), M_345, M_353, M_361] Z := hS''
        clear hS' hS''
        refine wpList_nil ?_
        refine x_then_n ⟨(hS.sub (.cons (le_342.trans (le_350.trans le_358)) (.cons (Mem.no_le _) (.cons (Mem.le.refl _) (Sub.nil _))))), ?_⟩
        refine h_event 14 [true, true, true, true, true, true, true, true, true, true, true, true, true, true, true, false, false, false, false, false, false].toArray rfl (by kernel_rfl) rfl ?_
        obtain ⟨w_363, hs', hS'⟩ := hS.store (P := Try.prog) (p := 1) (o := 4) (t := 26) (v := v_343) (vs := [v_343]) rfl ti26 hr_344.cellsA rfl rfl (by intro u hu; simp only [List.mem_cons, List.not_mem_nil, or_false] at hu; rcases hu with rfl <;> first | rfl | exact hr_344.one)
        refine s_store hm rfl rfl hs' ?_
        replace hS : Sep w0 w_363 [N_358, Mem.one g_2 (.cells ([.int .i64 x0.Sess, .int .i64 x0.Seq, .int .i64 x0.Cmd.Kind, .int .i64 x0.Cmd.Who, v_343, p0_1, p0_2] : List Value).toArray 45 (0, 0)), Mem.one g_4 (.cells ([.int .i64 0, .int .i64 0, .int .i64 0, .int .i64 0, .slice none 0 0, .slice none 0 0, .slice none 0 0] : List Value).toArray 45 (0, 0)), M_345, M_353, M_361] Z := hS'
        clear hs' hS'
        refine wpList_nil ?_
        refine x_then_n ⟨(hS.sub (.cons (le_342.trans (le_350.trans le_358)) (.cons (Mem.no_le _) (.cons (Mem.le.refl _) (Sub.nil _))))), ?_⟩
        refine h_take 15 [true, true, true, true, true, true, true, true, true, true, true, true, true, true, true, true, false, false, false, false, false].toArray rfl (by kernel_rfl) (by kernel_rfl) (by kernel_rfl) (fun _ _ _ _ h => h) rfl rfl rfl rfl hm (hS.sub (.cons (le_342.trans (le_350.trans le_358)) (.cons (Mem.no_le _) (.cons (Mem.le.refl _) (Sub.nil _))))) (v := .pointer (some ⟨g_2, 2, none⟩)) (fun w hS => r_fieldAddr hm Try.underlying45 rfl ti43 rfl rfl rfl) ?_
        clear hm a; intro a hm
        refine h_take 16 [true, true, true, true, true, true, true, true, true, true, true, true, true, true, true, true, true, false, false, false, false].toArray rfl (by kernel_rfl) (by kernel_rfl) (by kernel_rfl) (fun _ _ _ _ h => h) rfl rfl rfl rfl hm (hS.sub (.cons (le_342.trans (le_350.trans le_358)) (.cons (Mem.no_le _) (.cons (Mem.le.refl _) (Sub.nil _))))) (v := .pointer (some ⟨g_2, 5, none⟩)) (fun w hS => r_fieldAddr hm Try.underlying43 rfl ti26 rfl rfl rfl) ?_
        clear hm a; intro a hm
        refine h_event 17 [true, true, true, true, true, true, true, true, true, true, true, true, true, true, true, true, true, true, false, false, false].toArray rfl (by kernel_rfl) rfl ?_
        obtain ⟨w_364, hs', hS'⟩ := hS.store (P := Try.prog) (p := 1) (o := 5) (t := 26) (v := v_351) (vs := [v_351]) rfl ti26 hr_352.cellsA rfl rfl (by intro u hu; simp only [List.mem_cons, List.not_mem_nil, or_false] at hu; rcases hu with rfl <;> first | rfl | exact hr_352.one)
        refine s_store hm rfl rfl hs' ?_
        replace hS : Sep w0 w_364 [N_358, Mem.one g_2 (.cells ([.int .i64 x0.Sess, .int .i64 x0.Seq, .int .i64 x0.Cmd.Kind, .int .i64 x0.Cmd.Who, v_343, v_351, p0_2] : List Value).toArray 45 (0, 0)), Mem.one g_4 (.cells ([.int .i64 0, .int .i64 0, .int .i64 0, .int .i64 0, .slice none 0 0, .slice none 0 0, .slice none 0 0] : List Value).toArray 45 (0, 0)), M_345, M_353, M_361] Z := hS'
        clear hs' hS'
        refine wpList_nil ?_
        refine x_then_n ⟨(hS.sub (.cons (le_342.trans (le_350.trans le_358)) (.cons (Mem.no_le _) (.cons (Mem.le.refl _) (Sub.nil _))))), ?_⟩
        refine h_take 18 [true, true, true, true, true, true, true, true, true, true, true, true, true, true, true, true, true, true, true, false, false].toArray rfl (by kernel_rfl) (by kernel_rfl) (by kernel_rfl) (fun _ _ _ _ h => h) rfl rfl rfl rfl hm (hS.sub (.cons (le_342.trans (le_350.trans le_358)) (.cons (Mem.no_le _) (.cons (Mem.le.refl _) (Sub.nil _))))) (v := .pointer (some ⟨g_2, 2, none⟩)) (fun w hS => r_fieldAddr hm Try.underlying45 rfl ti43 rfl rfl rfl) ?_
        clear hm a; intro a hm
        refine h_take 19 [true, true, true, true, true, true, true, true, true, true, true, true, true, true, true, true, true, true, true, true, false].toArray rfl (by kernel_rfl) (by kernel_rfl) (by kernel_rfl) (fun _ _ _ _ h => h) rfl rfl rfl rfl hm (hS.sub (.cons (le_342.trans (le_350.trans le_358)) (.cons (Mem.no_le _) (.cons (Mem.le.refl _) (Sub.nil _))))) (v := .pointer (some ⟨g_2, 6, none⟩)) (fun w hS => r_fieldAddr hm Try.underlying43 rfl ti26 rfl rfl rfl) ?_
        clear hm a; intro a hm
        refine h_event 20 [true, true, true, true, true, true, true, true, true, true, true, true, true, true, true, true, true, true, true, true, true].toArray rfl (by kernel_rfl) rfl ?_
        obtain ⟨w_365, hs', hS'⟩ := hS.store (P := Try.prog) (p := 1) (o := 6) (t := 26) (v := v_359) (vs := [v_359]) rfl ti26 hr_360.cellsA rfl rfl (by intro u hu; simp only [List.mem_cons, List.not_mem_nil, or_false] at hu; rcases hu with rfl <;> first | rfl | exact hr_360.one)
        refine s_store hm rfl rfl hs' ?_
        replace hS : Sep w0 w_365 [N_358, Mem.one g_2 (.cells ([.int .i64 x0.Sess, .int .i64 x0.Seq, .int .i64 x0.Cmd.Kind, .int .i64 x0.Cmd.Who, v_343, v_351, v_359] : List Value).toArray 45 (0, 0)), Mem.one g_4 (.cells ([.int .i64 0, .int .i64 0, .int .i64 0, .int .i64 0, .slice none 0 0, .slice none 0 0, .slice none 0 0] : List Value).toArray 45 (0, 0)), M_345, M_353, M_361] Z := hS'
        clear hs' hS'
        refine wpList_nil ?_
        refine x_then_n ⟨(hS.sub (.cons (le_342.trans (le_350.trans le_358)) (.cons (Mem.no_le _) (.cons (Mem.le.refl _) (Sub.nil _))))), ?_⟩
        refine h_done (by kernel_rfl) ?_
        replace hm : Fr 22 a [(1, .pointer (some ⟨g_2, 0, none⟩)), (2, .pointer (some ⟨g_4, 0, none⟩))] := hm.keep [1, 2]
        refine x_then_n (hKJ_5 _ _ ?_)
        refine wp_seq ?_
        refine wp_region_lit ?_
        refine s_load hm rfl rfl (hS.load_agg (p := 1) (us := [.int .i64 x0.Sess, .int .i64 x0.Seq, .int .i64 x0.Cmd.Kind, .int .i64 x0.Cmd.Who, v_343, v_351, v_359]) rfl Try.underlying45 rfl ti45 rfl rfl) ?_
        clear hm a; intro a hm
        obtain ⟨w_366, hs', hS'⟩ := hS.store (P := Try.prog) (p := 2) (o := 0) (t := 45) (v := .agg ([.int .i64 x0.Sess, .int .i64 x0.Seq, .int .i64 x0.Cmd.Kind, .int .i64 x0.Cmd.Who, v_343, v_351, v_359] : List Value).toArray) (vs := [.int .i64 x0.Sess, .int .i64 x0.Seq, .int .i64 x0.Cmd.Kind, .int .i64 x0.Cmd.Who, v_343, v_351, v_359]) rfl ti45 rfl rfl rfl (by intro u hu; simp only [List.mem_cons, List.not_mem_nil, or_false] at hu; rcases hu with rfl | rfl | rfl | rfl | rfl | rfl | rfl <;> first | rfl | exact hr_344.one | exact hr_352.one | exact hr_360.one)
        refine s_store hm rfl rfl hs' ?_
        replace hS : Sep w0 w_366 [N_358, Mem.one g_2 (.cells ([.int .i64 x0.Sess, .int .i64 x0.Seq, .int .i64 x0.Cmd.Kind, .int .i64 x0.Cmd.Who, v_343, v_351, v_359] : List Value).toArray 45 (0, 0)), Mem.one g_4 (.cells ([.int .i64 x0.Sess, .int .i64 x0.Seq, .int .i64 x0.Cmd.Kind, .int .i64 x0.Cmd.Who, v_343, v_351, v_359] : List Value).toArray 45 (0, 0)), M_345, M_353, M_361] Z := hS'
        clear hs' hS'
        refine wpList_nil ?_
        replace hm : Fr 22 a [(2, .pointer (some ⟨g_4, 0, none⟩))] := hm.keep [2]
        refine x_then_n ?_
        refine wp_ret ?_
        obtain rfl := Option.some.inj H
        exact f_ret hm (rs := [.cell 2 45]) rfl (.cell rfl (hS.load_agg (p := 2) (us := [.int .i64 x0.Sess, .int .i64 x0.Seq, .int .i64 x0.Cmd.Kind, .int .i64 x0.Cmd.Who, v_343, v_351, v_359]) rfl Try.underlying45 rfl ti45 rfl rfl) .nil) ⟨_, rfl, v_343, v_351, v_359, N_358, M_345, M_353, M_361, rfl, (Sep.sel hS [0, 3, 4, 5] (by decide)), hr_344, hr_352, hr_360⟩
    · refine ⟨_, [true, true, false, false, true, true, true, false, true, true, true, false, false, false, false, false, false, false, false, false, false].toArray, rfl, rfl, ?_⟩
      refine s_load hm rfl rfl (hS.load_one (p := 1) rfl Try.underlying26 rfl rfl) ?_
      clear hm a; intro a hm
      refine wpList_nil ?_
      refine x_then_n ⟨(hS.sub (.cons (Mem.le.refl _) (.cons (Mem.no_le _) (.cons (Mem.le.refl _) (Sub.nil _))))), ?_⟩
      refine h_event 2 [true, true, true, false, true, true, true, false, true, true, true, false, false, false, false, false, false, false, false, false, false].toArray rfl (by kernel_rfl) rfl ?_
      refine s_load hm rfl rfl (hS.load_one (p := 1) rfl Try.underlying26 rfl rfl) ?_
      clear hm a; intro a hm
      refine wpList_nil ?_
      refine x_then_n ⟨(hS.sub (.cons (Mem.le.refl _) (.cons (Mem.no_le _) (.cons (Mem.le.refl _) (Sub.nil _))))), ?_⟩
      refine h_event 3 [true, true, true, true, true, true, true, false, true, true, true, false, false, false, false, false, false, false, false, false, false].toArray rfl (by kernel_rfl) rfl ?_
      refine s_call hm rfl Try.call49 rfl (slices_Clone_sbyte_byte.calls x0.Cmd.Key _ t_7 w0 _ _ _ (Mem.le.refl _) (hS.enter [] (by decide)) (hp0_0.mono (hA.trans (hS.le_zed []))) et_7) ?_
      rintro v_371 w_368 ⟨_, N_369, M_373, rfl, hS', hr_372⟩
      clear hm a; intro a hm
      obtain ⟨N_370, hS'', le_370, ln_370⟩ := hS.call [] (by decide) rfl (l' := []) (ow := [M_373]) rfl hS'
      replace hS : Sep w0 w_368 [N_370, Mem.one g_2 (.cells ([.int .i64 x0.Sess, .int .i64 x0.Seq, .int .i64 x0.Cmd.Kind, .int .i64 x0.Cmd.Who, p0_0, p0_1, p0_2] : List Value).toArray 45 (0, 0)), Mem.one g_4 (.cells ([.int .i64 0, .int .i64 0, .int .i64 0, .int .i64 0, .slice none 0 0, .slice none 0 0, .slice none 0 0] : List Value).toArray 45 (0, 0)), M_373] Z := hS''
      clear hS' hS''
      refine wpList_nil ?_
      refine x_then_n ⟨(hS.sub (.cons le_370 (.cons (Mem.no_le _) (.cons (Mem.le.refl _) (Sub.nil _))))), ?_⟩
      refine h_take 12 [true, true, true, true, true, true, true, false, true, true, true, false, true, false, false, false, false, false, false, false, false].toArray rfl (by kernel_rfl) (by kernel_rfl) (by kernel_rfl) (fun _ _ _ _ h => h) rfl rfl rfl rfl hm (hS.sub (.cons le_370 (.cons (Mem.no_le _) (.cons (Mem.le.refl _) (Sub.nil _))))) (v := .pointer (some ⟨g_2, 2, none⟩)) (fun w hS => r_fieldAddr hm Try.underlying45 rfl ti43 rfl rfl rfl) ?_
      clear hm a; intro a hm
      refine h_take 13 [true, true, true, true, true, true, true, false, true, true, true, false, true, true, false, false, false, false, false, false, false].toArray rfl (by kernel_rfl) (by kernel_rfl) (by kernel_rfl) (fun _ _ _ _ h => h) rfl rfl rfl rfl hm (hS.sub (.cons le_370 (.cons (Mem.no_le _) (.cons (Mem.le.refl _) (Sub.nil _))))) (v := .pointer (some ⟨g_2, 4, none⟩)) (fun w hS => r_fieldAddr hm Try.underlying43 rfl ti26 rfl rfl rfl) ?_
      clear hm a; intro a hm
      refine h_event 7 [true, true, true, true, true, true, true, true, true, true, true, false, true, true, false, false, false, false, false, false, false].toArray rfl (by kernel_rfl) rfl ?_
      refine s_call hm rfl Try.call49 rfl (slices_Clone_sbyte_byte.calls x0.Cmd.Val _ t_15 w0 _ _ _ (Mem.le.refl _) (hS.enter [] (by decide)) (hp0_1.mono (hA.trans (hS.le_zed []))) et_15) ?_
      rintro v_379 w_376 ⟨_, N_377, M_381, rfl, hS', hr_380⟩
      clear hm a; intro a hm
      obtain ⟨N_378, hS'', le_378, ln_378⟩ := hS.call [] (by decide) rfl (l' := []) (ow := [M_381]) rfl hS'
      replace hS : Sep w0 w_376 [N_378, Mem.one g_2 (.cells ([.int .i64 x0.Sess, .int .i64 x0.Seq, .int .i64 x0.Cmd.Kind, .int .i64 x0.Cmd.Who, p0_0, p0_1, p0_2] : List Value).toArray 45 (0, 0)), Mem.one g_4 (.cells ([.int .i64 0, .int .i64 0, .int .i64 0, .int .i64 0, .slice none 0 0, .slice none 0 0, .slice none 0 0] : List Value).toArray 45 (0, 0)), M_373, M_381] Z := hS''
      clear hS' hS''
      refine wpList_nil ?_
      refine x_then_n ⟨(hS.sub (.cons (le_370.trans le_378) (.cons (Mem.no_le _) (.cons (Mem.le.refl _) (Sub.nil _))))), ?_⟩
      refine h_event 11 [true, true, true, true, true, true, true, true, true, true, true, true, true, true, false, false, false, false, false, false, false].toArray rfl (by kernel_rfl) rfl ?_
      refine s_call hm rfl Try.call49 rfl (slices_Clone_sbyte_byte.calls x0.Cmd.Old _ t_23 w0 _ _ _ (Mem.le.refl _) (hS.enter [] (by decide)) (hp0_2.mono (hA.trans (hS.le_zed []))) et_23) ?_
      rintro v_387 w_384 ⟨_, N_385, M_389, rfl, hS', hr_388⟩
      clear hm a; intro a hm
      obtain ⟨N_386, hS'', le_386, ln_386⟩ := hS.call [] (by decide) rfl (l' := []) (ow := [M_389]) rfl hS'
      replace hS : Sep w0 w_384 [N_386, Mem.one g_2 (.cells ([.int .i64 x0.Sess, .int .i64 x0.Seq, .int .i64 x0.Cmd.Kind, .int .i64 x0.Cmd.Who, p0_0, p0_1, p0_2] : List Value).toArray 45 (0, 0)), Mem.one g_4 (.cells ([.int .i64 0, .int .i64 0, .int .i64 0, .int .i64 0, .slice none 0 0, .slice none 0 0, .slice none 0 0] : List Value).toArray 45 (0, 0)), M_373, M_381, M_389] Z := hS''
      clear hS' hS''
      refine wpList_nil ?_
      refine x_then_n ⟨(hS.sub (.cons (le_370.trans (le_378.trans le_386)) (.cons (Mem.no_le _) (.cons (Mem.le.refl _) (Sub.nil _))))), ?_⟩
      refine h_event 14 [true, true, true, true, true, true, true, true, true, true, true, true, true, true, true, false, false, false, false, false, false].toArray rfl (by kernel_rfl) rfl ?_
      obtain ⟨w_391, hs', hS'⟩ := hS.store (P := Try.prog) (p := 1) (o := 4) (t := 26) (v := v_371) (vs := [v_371]) rfl ti26 hr_372.cellsA rfl rfl (by intro u hu; simp only [List.mem_cons, List.not_mem_nil, or_false] at hu; rcases hu with rfl <;> first | rfl | exact hr_372.one)
      refine s_store hm rfl rfl hs' ?_
      replace hS : Sep w0 w_391 [N_386, Mem.one g_2 (.cells ([.int .i64 x0.Sess, .int .i64 x0.Seq, .int .i64 x0.Cmd.Kind, .int .i64 x0.Cmd.Who, v_371, p0_1, p0_2] : List Value).toArray 45 (0, 0)), Mem.one g_4 (.cells ([.int .i64 0, .int .i64 0, .int .i64 0, .int .i64 0, .slice none 0 0, .slice none 0 0, .slice none 0 0] : List Value).toArray 45 (0, 0)), M_373, M_381, M_389] Z := hS'
      clear hs' hS'
      refine wpList_nil ?_
      refine x_then_n ⟨(hS.sub (.cons (le_370.trans (le_378.trans le_386)) (.cons (Mem.no_le _) (.cons (Mem.le.refl _) (Sub.nil _))))), ?_⟩
      refine h_take 15 [true, true, true, true, true, true, true, true, true, true, true, true, true, true, true, true, false, false, false, false, false].toArray rfl (by kernel_rfl) (by kernel_rfl) (by kernel_rfl) (fun _ _ _ _ h => h) rfl rfl rfl rfl hm (hS.sub (.cons (le_370.trans (le_378.trans le_386)) (.cons (Mem.no_le _) (.cons (Mem.le.refl _) (Sub.nil _))))) (v := .pointer (some ⟨g_2, 2, none⟩)) (fun w hS => r_fieldAddr hm Try.underlying45 rfl ti43 rfl rfl rfl) ?_
      clear hm a; intro a hm
      refine h_take 16 [true, true, true, true, true, true, true, true, true, true, true, true, true, true, true, true, true, false, false, false, false].toArray rfl (by kernel_rfl) (by kernel_rfl) (by kernel_rfl) (fun _ _ _ _ h => h) rfl rfl rfl rfl hm (hS.sub (.cons (le_370.trans (le_378.trans le_386)) (.cons (Mem.no_le _) (.cons (Mem.le.refl _) (Sub.nil _))))) (v := .pointer (some ⟨g_2, 5, none⟩)) (fun w hS => r_fieldAddr hm Try.underlying43 rfl ti26 rfl rfl rfl) ?_
      clear hm a; intro a hm
      refine h_event 17 [true, true, true, true, true, true, true, true, true, true, true, true, true, true, true, true, true, true, false, false, false].toArray rfl (by kernel_rfl) rfl ?_
      obtain ⟨w_392, hs', hS'⟩ := hS.store (P := Try.prog) (p := 1) (o := 5) (t := 26) (v := v_379) (vs := [v_379]) rfl ti26 hr_380.cellsA rfl rfl (by intro u hu; simp only [List.mem_cons, List.not_mem_nil, or_false] at hu; rcases hu with rfl <;> first | rfl | exact hr_380.one)
      refine s_store hm rfl rfl hs' ?_
      replace hS : Sep w0 w_392 [N_386, Mem.one g_2 (.cells ([.int .i64 x0.Sess, .int .i64 x0.Seq, .int .i64 x0.Cmd.Kind, .int .i64 x0.Cmd.Who, v_371, v_379, p0_2] : List Value).toArray 45 (0, 0)), Mem.one g_4 (.cells ([.int .i64 0, .int .i64 0, .int .i64 0, .int .i64 0, .slice none 0 0, .slice none 0 0, .slice none 0 0] : List Value).toArray 45 (0, 0)), M_373, M_381, M_389] Z := hS'
      clear hs' hS'
      refine wpList_nil ?_
      refine x_then_n ⟨(hS.sub (.cons (le_370.trans (le_378.trans le_386)) (.cons (Mem.no_le _) (.cons (Mem.le.refl _) (Sub.nil _))))), ?_⟩
      refine h_take 18 [true, true, true, true, true, true, true, true, true, true, true, true, true, true, true, true, true, true, true, false, false].toArray rfl (by kernel_rfl) (by kernel_rfl) (by kernel_rfl) (fun _ _ _ _ h => h) rfl rfl rfl rfl hm (hS.sub (.cons (le_370.trans (le_378.trans le_386)) (.cons (Mem.no_le _) (.cons (Mem.le.refl _) (Sub.nil _))))) (v := .pointer (some ⟨g_2, 2, none⟩)) (fun w hS => r_fieldAddr hm Try.underlying45 rfl ti43 rfl rfl rfl) ?_
      clear hm a; intro a hm
      refine h_take 19 [true, true, true, true, true, true, true, true, true, true, true, true, true, true, true, true, true, true, true, true, false].toArray rfl (by kernel_rfl) (by kernel_rfl) (by kernel_rfl) (fun _ _ _ _ h => h) rfl rfl rfl rfl hm (hS.sub (.cons (le_370.trans (le_378.trans le_386)) (.cons (Mem.no_le _) (.cons (Mem.le.refl _) (Sub.nil _))))) (v := .pointer (some ⟨g_2, 6, none⟩)) (fun w hS => r_fieldAddr hm Try.underlying43 rfl ti26 rfl rfl rfl) ?_
      clear hm a; intro a hm
      refine h_event 20 [true, true, true, true, true, true, true, true, true, true, true, true, true, true, true, true, true, true, true, true, true].toArray rfl (by kernel_rfl) rfl ?_
      obtain ⟨w_393, hs', hS'⟩ := hS.store (P := Try.prog) (p := 1) (o := 6) (t := 26) (v := v_387) (vs := [v_387]) rfl ti26 hr_388.cellsA rfl rfl (by intro u hu; simp only [List.mem_cons, List.not_mem_nil, or_false] at hu; rcases hu with rfl <;> first | rfl | exact hr_388.one)
      refine s_store hm rfl rfl hs' ?_
      replace hS : Sep w0 w_393 [N_386, Mem.one g_2 (.cells ([.int .i64 x0.Sess, .int .i64 x0.Seq, .int .i64 x0.Cmd.Kind, .int .i64 x0.Cmd.Who, v_371, v_379, v_387] : List Value).toArray 45 (0, 0)), Mem.one g_4 (.cells ([.int .i64 0, .int .i64 0, .int .i64 0, .int .i64 0, .slice none 0 0, .slice none 0 0, .slice none 0 0] : List Value).toArray 45 (0, 0)), M_373, M_381, M_389] Z := hS'
      clear hs' hS'
      refine wpList_nil ?_
      refine x_then_n ⟨(hS.sub (.cons (le_370.trans (le_378.trans le_386)) (.cons (Mem.no_le _) (.cons (Mem.le.refl _) (Sub.nil _))))), ?_⟩
      refine h_done (by kernel_rfl) ?_
      replace hm : Fr 22 a [(1, .pointer (some ⟨g_2, 0, none⟩)), (2, .pointer (some ⟨g_4, 0, none⟩))] := hm.keep [1, 2]
      refine x_then_n (hKJ_5 _ _ ?_)
      refine wp_seq ?_
      refine wp_region_lit ?_
      refine s_load hm rfl rfl (hS.load_agg (p := 1) (us := [.int .i64 x0.Sess, .int .i64 x0.Seq, .int .i64 x0.Cmd.Kind, .int .i64 x0.Cmd.Who, v_371, v_379, v_387]) rfl Try.underlying45 rfl ti45 rfl rfl) ?_
      clear hm a; intro a hm
      obtain ⟨w_394, hs', hS'⟩ := hS.store (P := Try.prog) (p := 2) (o := 0) (t := 45) (v := .agg ([.int .i64 x0.Sess, .int .i64 x0.Seq, .int .i64 x0.Cmd.Kind, .int .i64 x0.Cmd.Who, v_371, v_379, v_387] : List Value).toArray) (vs := [.int .i64 x0.Sess, .int .i64 x0.Seq, .int .i64 x0.Cmd.Kind, .int .i64 x0.Cmd.Who, v_371, v_379, v_387]) rfl ti45 rfl rfl rfl (by intro u hu; simp only [List.mem_cons, List.not_mem_nil, or_false] at hu; rcases hu with rfl | rfl | rfl | rfl | rfl | rfl | rfl <;> first | rfl | exact hr_372.one | exact hr_380.one | exact hr_388.one)
      refine s_store hm rfl rfl hs' ?_
      replace hS : Sep w0 w_394 [N_386, Mem.one g_2 (.cells ([.int .i64 x0.Sess, .int .i64 x0.Seq, .int .i64 x0.Cmd.Kind, .int .i64 x0.Cmd.Who, v_371, v_379, v_387] : List Value).toArray 45 (0, 0)), Mem.one g_4 (.cells ([.int .i64 x0.Sess, .int .i64 x0.Seq, .int .i64 x0.Cmd.Kind, .int .i64 x0.Cmd.Who, v_371, v_379, v_387] : List Value).toArray 45 (0, 0)), M_373, M_381, M_389] Z := hS'
      clear hs' hS'
      refine wpList_nil ?_
      replace hm : Fr 22 a [(2, .pointer (some ⟨g_4, 0, none⟩))] := hm.keep [2]
      refine x_then_n ?_
      refine wp_ret ?_
      obtain rfl := Option.some.inj H
      exact f_ret hm (rs := [.cell 2 45]) rfl (.cell rfl (hS.load_agg (p := 2) (us := [.int .i64 x0.Sess, .int .i64 x0.Seq, .int .i64 x0.Cmd.Kind, .int .i64 x0.Cmd.Who, v_371, v_379, v_387]) rfl Try.underlying45 rfl ti45 rfl rfl) .nil) ⟨_, rfl, v_371, v_379, v_387, N_386, M_373, M_381, M_389, rfl, (Sep.sel hS [0, 3, 4, 5] (by decide)), hr_372, hr_380, hr_388⟩

set_option maxHeartbeats 4000000 in
set_option maxRecDepth 20000 in
theorem wait_Calls_Waiting.calls (g0 : Nat) (x0_l : List wait_call) (p0_0 : Value) (x0_done : List api_Reply) (p0_1 : Value) (r : Int) (w0 w : World) (Z A : Mem) (hA : A.le Z) (hS : Sep w0 w [Mem.one g0 (.cells ([p0_0, p0_1] : List Value).toArray 74 (0, 0))] Z) (hp0_0 : Rd k_wait_call A p0_0 x0_l) (hp0_1 : Rd k_api_Reply A p0_1 x0_done)
    (H : wait_Calls_Waiting.f x0_l x0_done = some r) :
    Calls Try.prog 23 [.pointer (some ⟨g0, 0, none⟩)].toArray w (Ret fun v w' => ∃ (N : Mem), v = .int .i64 r ∧ Sep w0 w' [N, Mem.one g0 (.cells ([p0_0, p0_1] : List Value).toArray 74 (0, 0))] Z) := by
  unfold wait_Calls_Waiting.f at H
  refine f_enter _ Try.func23 rfl Try.ntmps23 rfl fun a hm => ?_
  replace hm : Fr 8 a [(0, .pointer (some ⟨g0, 0, none⟩))] := hm
  replace hS := hS.start
  replace hS : Sep w0 w [Mem.no, Mem.one g0 (.cells ([p0_0, p0_1] : List Value).toArray 74 (0, 0))] Z := hS
  refine wp_seq ?_
  refine wp_region_lit ?_
  refine s_assign hm rfl rfl ?_
  clear hm a; intro a hm
  refine wpList_nil ?_
  replace hm : Fr 8 a [(0, .pointer (some ⟨g0, 0, none⟩)), (2, .int .i64 0)] := hm.keep [0, 2]
  refine x_then_n ?_
  refine wp_seq ?_
  refine wp_region_lit ?_
  refine s_move hm rfl rfl ?_
  clear hm a; intro a hm
  refine s_nilCheck hm rfl rfl ?_
  clear hm a; intro a hm
  refine s_fieldAddr hm rfl Try.underlying74 rfl ti72 rfl rfl ?_
  clear hm a; intro a hm
  refine s_load hm rfl rfl (hS.load_one (p := 1) rfl Try.underlying72 rfl rfl) ?_
  clear hm a; intro a hm
  refine s_len hm rfl Try.underlying72 rfl hp0_0 ?_
  clear hm a; intro a hm
  refine s_assign hm rfl rfl ?_
  clear hm a; intro a hm
  refine wpList_nil ?_
  replace hm : Fr 8 a [(2, .int .i64 (x0_l.length : Int))] := hm.keep [2]
  refine x_then_n ?_
  refine wp_ret ?_
  obtain rfl := Option.some.inj H
  exact f_ret hm (rs := [.tmp 2]) rfl (.tmp rfl .nil) ⟨_, rfl, Mem.no, rfl, (Sep.sel hS [0, 1] (by decide))⟩


end Go.Proofs
