/- What the calls do: each function once. -/
import Derived.Test.YtabedbggldnkhaaGathFormsc3
namespace Go.Proofs
open Go.Gp
set_option linter.unusedVariables false
set_option maxHeartbeats 4000000 in
set_option maxRecDepth 20000 in
theorem hocketlaw18_GathForms.calls (K : Nat) (x0 : Int) (x1 : Int) (x2 : List Int) (p2_0 : Value) (r : Unit) (w0 w : World) (Z A : Mem) (hA : A.le Z) (hS : Sep w0 w [] Z) (hp2_0 : Rd (Kd.int .i64) A p2_0 x2)
    (H : hocketlaw18_GathForms.f K x0 x1 x2 = some r) :
    Calls Try.prog 10 [.int .i64 x0, .int .i64 x1, p2_0].toArray w (Ret fun v w' => ∃ (N : Mem), v = .bool true ∧ Sep w0 w' [N] Z) := by
  unfold hocketlaw18_GathForms.f at H
  refine f_enter _ Try.func10 rfl Try.ntmps10 rfl fun a hm => ?_
  replace hm : Fr 139 a [(0, .int .i64 x0), (1, .int .i64 x1), (2, p2_0)] := hm
  replace hS := hS.start
  replace hS : Sep w0 w [Mem.no] Z := hS
  refine wp_seq ?_
  refine wp_region_lit ?_
  refine s_assign hm rfl rfl ?_
  clear hm a; intro a hm
  refine wpList_nil ?_
  replace hm : Fr 139 a [(0, .int .i64 x0), (1, .int .i64 x1), (2, p2_0), (6, .bool false)] := hm.keep [0, 1, 2, 6]
  refine x_then_n ?_
  refine wp_seq ?_
  refine wp_region_lit ?_
  refine s_move hm rfl rfl ?_
  clear hm a; intro a hm
  refine s_bits (i := x0) (j := 255) (r := band .i64 x0 255) hm rfl rfl rfl (.inl ⟨rfl, rfl⟩) ?_
  clear hm a; intro a hm
  refine s_div (r := Int.tmod (band .i64 x0 255) 7) hm rfl rfl rfl (by decide) (.inr ⟨rfl, rfl⟩) ?_
  clear hm a; intro a hm
  refine s_arith (r := w64 ((Int.tmod (band .i64 x0 255) 7) + 1)) hm rfl rfl rfl (.inl ⟨rfl, rfl⟩) ?_
  clear hm a; intro a hm
  refine s_assign hm rfl rfl ?_
  clear hm a; intro a hm
  refine wpList_nil ?_
  replace hm : Fr 139 a [(0, .int .i64 (w64 ((Int.tmod (band .i64 x0 255) 7) + 1))), (1, .int .i64 x1), (2, p2_0), (6, .bool false)] := hm.keep [0, 1, 2, 6]
  refine x_then_n ?_
  refine wp_seq ?_
  refine wp_region_lit ?_
  refine s_move hm rfl rfl ?_
  clear hm a; intro a hm
  refine s_bits (i := x1) (j := 255) (r := band .i64 x1 255) hm rfl rfl rfl (.inl ⟨rfl, rfl⟩) ?_
  clear hm a; intro a hm
  refine s_move hm rfl rfl ?_
  clear hm a; intro a hm
  obtain ⟨t_1, et_1, H⟩ := Option.bind_eq_some_iff.1 H
  refine s_div (r := t_1) hm rfl rfl rfl (rem_some et_1).1 (.inr ⟨rfl, (rem_some et_1).2⟩) ?_
  clear hm a; intro a hm
  refine s_assign hm rfl rfl ?_
  clear hm a; intro a hm
  refine wpList_nil ?_
  replace hm : Fr 139 a [(0, .int .i64 (w64 ((Int.tmod (band .i64 x0 255) 7) + 1))), (1, .int .i64 t_1), (2, p2_0), (6, .bool false)] := hm.keep [0, 1, 2, 6]
  refine x_then_n ?_
  refine wp_seq ?_
  refine wp_region_lit ?_
  refine s_move hm rfl rfl ?_
  clear hm a; intro a hm
  refine s_move hm rfl rfl ?_
  clear hm a; intro a hm
  refine s_move hm rfl rfl ?_
  clear hm a; intro a hm
  refine s_build hm rfl ti29 pl29 rfl (.cons rfl (.cons rfl (.cons rfl .nil))) (cs := [.int .i64 2, .int .i64 t_1, .int .i64 0, .int .i64 9, .int .i64 0, .int .i64 0, .bool false, .int .i64 0, .int .i64 0, .int .i64 0, .int .i64 0, .slice none 0 0, .int .i64 0, .int .i64 0, .slice none 0 0, .slice none 0 0, .int .i64 0, .int .i64 0, .int .i64 0, .int .i64 0, .int .i64 0, .slice none 0 0, .slice none 0 0, .slice none 0 0]) rfl ?_
  clear hm a; intro a hm
  obtain ⟨t_2, et_2, H⟩ := Option.bind_eq_some_iff.1 H
  refine s_call hm rfl Try.call41 rfl (gath_New.calls (w64 ((Int.tmod (band .i64 x0 255) 7) + 1)) t_1 9 (⟨2, t_1, 0, 9, 0, 0, false, 0, 0, 0, 0, ([] : List UInt8), 0, 0, ([] : List Int), ([] : List Int), 0, (⟨0, 0, (⟨0, 0, ([] : List UInt8), ([] : List UInt8), ([] : List UInt8)⟩ : api_Cmd)⟩ : api_Entry)⟩ : api_Msg) _ _ _ _ _ _ t_2 w0 _ _ Mem.no (hS.new_zed []) (hS.enter [] (by decide)) (Rd.nil _ _) (Rd.nil _ _) (Rd.nil _ _) (Rd.nil _ _) (Rd.nil _ _) (Rd.nil _ _) et_2) ?_
  rintro _ w_3 ⟨g_6, v_7, v_11, v_13, v_15, v_17, v_19, v_21, N_4, M_9, rfl, hS', hr_8, hr_12, hr_14, hr_16, hr_18, hr_20, hr_22⟩
  clear hm a; intro a hm
  obtain ⟨N_5, hS'', le_5, ln_5⟩ := hS.call [] (by decide) rfl (l' := []) (ow := [Mem.one g_6 (.cells ([.int .i64 t_2.1, .int .i64 t_2.2.1, .int .i64 t_2.2.2.1, v_7, .int .i64 t_2.2.2.2.2.1, .int .i64 t_2.2.2.2.2.2.1, .int .i64 t_2.2.2.2.2.2.2.1, .int .i64 t_2.2.2.2.2.2.2.2.1, .int .i64 t_2.2.2.2.2.2.2.2.2.1, .int .i64 t_2.2.2.2.2.2.2.2.2.2.1, .int .i64 t_2.2.2.2.2.2.2.2.2.2.2.1, .int .i64 t_2.2.2.2.2.2.2.2.2.2.2.2.1, .bool t_2.2.2.2.2.2.2.2.2.2.2.2.2.1, .int .i64 t_2.2.2.2.2.2.2.2.2.2.2.2.2.2.1, .int .i64 t_2.2.2.2.2.2.2.2.2.2.2.2.2.2.2.1, .int .i64 t_2.2.2.2.2.2.2.2.2.2.2.2.2.2.2.2.1, .int .i64 t_2.2.2.2.2.2.2.2.2.2.2.2.2.2.2.2.2.1, v_11, .int .i64 t_2.2.2.2.2.2.2.2.2.2.2.2.2.2.2.2.2.2.2.1, .int .i64 t_2.2.2.2.2.2.2.2.2.2.2.2.2.2.2.2.2.2.2.2.1, v_13, v_15, .int .i64 t_2.2.2.2.2.2.2.2.2.2.2.2.2.2.2.2.2.2.2.2.2.2.2.1, .int .i64 t_2.2.2.2.2.2.2.2.2.2.2.2.2.2.2.2.2.2.2.2.2.2.2.2.1, .int .i64 t_2.2.2.2.2.2.2.2.2.2.2.2.2.2.2.2.2.2.2.2.2.2.2.2.2.1, .int .i64 t_2.2.2.2.2.2.2.2.2.2.2.2.2.2.2.2.2.2.2.2.2.2.2.2.2.2.1, .int .i64 t_2.2.2.2.2.2.2.2.2.2.2.2.2.2.2.2.2.2.2.2.2.2.2.2.2.2.2.1, v_17, v_19, v_21, .bool t_2.2.2.2.2.2.2.2.2.2.2.2.2.2.2.2.2.2.2.2.2.2.2.2.2.2.2.2.2.2.2] : List Value).toArray 80 (0, 0)), M_9]) rfl hS'
  replace hS : Sep w0 w_3 [N_5, Mem.one g_6 (.cells ([.int .i64 t_2.1, .int .i64 t_2.2.1, .int .i64 t_2.2.2.1, v_7, .int .i64 t_2.2.2.2.2.1, .int .i64 t_2.2.2.2.2.2.1, .int .i64 t_2.2.2.2.2.2.2.1, .int .i64 t_2.2.2.2.2.2.2.2.1, .int .i64 t_2.2.2.2.2.2.2.2.2.1, .int .i64 t_2.2.2.2.2.2.2.2.2.2.1, .int .i64 t_2.2.2.2.2.2.2.2.2.2.2.1, .int .i64 t_2.2.2.2.2.2.2.2.2.2.2.2.1, .bool t_2.2.2.2.2.2.2.2.2.2.2.2.2.1, .int .i64 t_2.2.2.2.2.2.2.2.2.2.2.2.2.2.1, .int .i64 t_2.2.2.2.2.2.2.2.2.2.2.2.2.2.2.1, .int .i64 t_2.2.2.2.2.2.2.2.2.2.2.2.2.2.2.2.1, .int .i64 t_2.2.2.2.2.2.2.2.2.2.2.2.2.2.2.2.2.1, v_11, .int .i64 t_2.2.2.2.2.2.2.2.2.2.2.2.2.2.2.2.2.2.2.1, .int .i64 t_2.2.2.2.2.2.2.2.2.2.2.2.2.2.2.2.2.2.2.2.1, v_13, v_15, .int .i64 t_2.2.2.2.2.2.2.2.2.2.2.2.2.2.2.2.2.2.2.2.2.2.2.1, .int .i64 t_2.2.2.2.2.2.2.2.2.2.2.2.2.2.2.2.2.2.2.2.2.2.2.2.1, .int .i64 t_2.2.2.2.2.2.2.2.2.2.2.2.2.2.2.2.2.2.2.2.2.2.2.2.2.1, .int .i64 t_2.2.2.2.2.2.2.2.2.2.2.2.2.2.2.2.2.2.2.2.2.2.2.2.2.2.1, .int .i64 t_2.2.2.2.2.2.2.2.2.2.2.2.2.2.2.2.2.2.2.2.2.2.2.2.2.2.2.1, v_17, v_19, v_21, .bool t_2.2.2.2.2.2.2.2.2.2.2.2.2.2.2.2.2.2.2.2.2.2.2.2.2.2.2.2.2.2.2] : List Value).toArray 80 (0, 0)), M_9] Z := hS''
  clear hS' hS''
  refine s_assign hm rfl rfl ?_
  clear hm a; intro a hm
  refine wpList_nil ?_
  replace hm : Fr 139 a [(0, .int .i64 (w64 ((Int.tmod (band .i64 x0 255) 7) + 1))), (1, .int .i64 t_1), (2, p2_0), (6, .bool false), (7, .pointer (some ⟨g_6, 0, none⟩))] := hm.keep [0, 1, 2, 6, 7]
  refine x_then_n ?_
  refine c_seq fun KJ_23 hKJ_23 => ?_
  refine wp_seq ?_
  refine wp_region_lit ?_
  refine s_move hm rfl rfl ?_
  clear hm a; intro a hm
  refine s_ptrNil (b := false) hm rfl Try.underlying59 rfl (.inl ⟨rfl, rfl⟩) ?_
  clear hm a; intro a hm
  refine wpList_nil ?_
  replace hm : Fr 139 a [(0, .int .i64 (w64 ((Int.tmod (band .i64 x0 255) 7) + 1))), (1, .int .i64 t_1), (2, p2_0), (6, .bool false), (7, .pointer (some ⟨g_6, 0, none⟩)), (29, .bool false)] := hm.keep [0, 1, 2, 6, 7, 29]
  refine x_then_n ?_
  refine c_cond_f hm rfl rfl ?_
  refine wp_skip ?_
  refine x_then_n (hKJ_23 _ _ ?_)
  refine wp_seq ?_
  refine wp_region_lit ?_
  refine s_move hm rfl rfl ?_
  clear hm a; intro a hm
  refine s_conv (wu64 t_1) hm rfl Try.underlying3 Try.underlying38 rfl rfl ?_
  clear hm a; intro a hm
  refine s_shift (r := shl .i64 1 (wu64 t_1)) hm rfl rfl rfl (wu64_nn _) (.inl ⟨rfl, rfl⟩) ?_
  clear hm a; intro a hm
  refine s_assign hm rfl rfl ?_
  clear hm a; intro a hm
  refine wpList_nil ?_
  replace hm : Fr 139 a [(0, .int .i64 (w64 ((Int.tmod (band .i64 x0 255) 7) + 1))), (1, .int .i64 t_1), (2, p2_0), (6, .bool false), (7, .pointer (some ⟨g_6, 0, none⟩)), (8, .int .i64 (shl .i64 1 (wu64 t_1)))] := hm.keep [0, 1, 2, 6, 7, 8]
  refine x_then_n ?_
  refine c_seq fun KJ_24 hKJ_24 => ?_
  refine wp_seq ?_
  refine wp_region_lit ?_
  refine s_assign hm rfl rfl ?_
  clear hm a; intro a hm
  refine wpList_nil ?_
  replace hm : Fr 139 a [(0, .int .i64 (w64 ((Int.tmod (band .i64 x0 255) 7) + 1))), (1, .int .i64 t_1), (2, p2_0), (6, .bool false), (7, .pointer (some ⟨g_6, 0, none⟩)), (8, .int .i64 (shl .i64 1 (wu64 t_1))), (9, .int .i64 0)] := hm.keep [0, 1, 2, 6, 7, 8, 9]
  refine x_then_n ?_
  have hJ_j_44 : ∀ (x_26 : gath_Gather), hocketlaw18_GathForms.J1 K t_1 x_26 = some r → ∀ (a : Act) (w_43 : World), (∃ (v_29 : Value) (v_31 : Value) (v_33 : Value) (v_35 : Value) (v_37 : Value) (v_39 : Value) (v_41 : Value) (N_25 : Mem) (M_27 : Mem), Fr 139 a [(1, .int .i64 t_1), (6, .bool false), (7, .pointer (some ⟨g_6, 0, none⟩))] ∧ Sep w0 w_43 [N_25, Mem.one g_6 (.cells ([.int .i64 x_26.n, .int .i64 x_26.id, .int .i64 x_26.v, v_29, .int .i64 x_26.come, .int .i64 x_26.ready, .int .i64 x_26.commit.Kind, .int .i64 x_26.commit.From, .int .i64 x_26.commit.To, .int .i64 x_26.commit.View, .int .i64 x_26.commit.Inst, .int .i64 x_26.commit.Len, .bool x_26.commit.Has, .int .i64 x_26.commit.Members, .int .i64 x_26.commit.Source, .int .i64 x_26.commit.At, .int .i64 x_26.commit.Total, v_31, .int .i64 x_26.commit.Hop, .int .i64 x_26.commit.Seq, v_33, v_35, .int .i64 x_26.commit.Index, .int .i64 x_26.commit.Entry.Sess, .int .i64 x_26.commit.Entry.Seq, .int .i64 x_26.commit.Entry.Cmd.Kind, .int .i64 x_26.commit.Entry.Cmd.Who, v_37, v_39, v_41, .bool x_26.is] : List Value).toArray 80 (0, 0)), M_27] Z ∧ N_5.le N_25 ∧ Own k_api_Msg 29 M_27 N_25 v_29 x_26.l ∧ Rd Kd.u8 N_25 v_31 x_26.commit.Data ∧ Rd (Kd.int .i64) N_25 v_33 x_26.commit.Have ∧ Rd (Kd.int .i64) N_25 v_35 x_26.commit.Need ∧ Rd Kd.u8 N_25 v_37 x_26.commit.Entry.Cmd.Key ∧ Rd Kd.u8 N_25 v_39 x_26.commit.Entry.Cmd.Val ∧ Rd Kd.u8 N_25 v_41 x_26.commit.Entry.Cmd.Old) → KJ_24 a w_43 := by
    clear H hm hS a
    rintro x_26 H a w_43 ⟨v_29, v_31, v_33, v_35, v_37, v_39, v_41, N_25, M_27, hm, hS, le_25, ho_30, hr_32, hr_34, hr_36, hr_38, hr_40, hr_42⟩
    unfold hocketlaw18_GathForms.J1 at H
    refine hKJ_24 _ _ ?_
    refine wp_seq ?_
    refine wp_region_lit ?_
    refine s_move hm rfl rfl ?_
    clear hm a; intro a hm
    obtain ⟨t_45, et_45, H⟩ := Option.bind_eq_some_iff.1 H
    refine s_call hm rfl Try.call45 rfl (gath_Gather_Commit.calls K _ x_26.n x_26.id x_26.v x_26.l _ _ x_26.come x_26.ready x_26.commit.Kind x_26.commit.From x_26.commit.To x_26.commit.View x_26.commit.Inst x_26.commit.Len x_26.commit.Has x_26.commit.Members x_26.commit.Source x_26.commit.At x_26.commit.Total x_26.commit.Data _ x_26.commit.Hop x_26.commit.Seq x_26.commit.Have _ x_26.commit.Need _ x_26.commit.Index x_26.commit.Entry.Sess x_26.commit.Entry.Seq x_26.commit.Entry.Cmd.Kind x_26.commit.Entry.Cmd.Who x_26.commit.Entry.Cmd.Key _ x_26.commit.Entry.Cmd.Val _ x_26.commit.Entry.Cmd.Old _ x_26.is t_45 w0 _ _ N_25 (hS.new_zed [0, 1]) (hS.enter [0, 1] (by decide)) (ho_30.mono (Mem.le.refl _)) hr_32 hr_34 hr_36 hr_38 hr_40 hr_42 et_45) ?_
    rintro _ w_46 ⟨v_49, v_51, v_53, v_55, v_57, v_59, v_61, v_65, v_67, v_69, v_71, v_73, v_75, N_47, M_63, rfl, hS', hr_50, hr_52, hr_54, hr_56, hr_58, hr_60, hr_62, hr_66, hr_68, hr_70, hr_72, hr_74, hr_76⟩
    clear hm a; intro a hm
    obtain ⟨N_48, hS'', le_48, ln_48⟩ := hS.call [0, 1] (by decide) rfl (l' := [Mem.one g_6 (.cells ([.int .i64 t_45.2.2.1, .int .i64 t_45.2.2.2.1, .int .i64 t_45.2.2.2.2.1, v_61, .int .i64 t_45.2.2.2.2.2.2.1, .int .i64 t_45.2.2.2.2.2.2.2.1, .int .i64 t_45.2.2.2.2.2.2.2.2.1, .int .i64 t_45.2.2.2.2.2.2.2.2.2.1, .int .i64 t_45.2.2.2.2.2.2.2.2.2.2.1, .int .i64 t_45.2.2.2.2.2.2.2.2.2.2.2.1, .int .i64 t_45.2.2.2.2.2.2.2.2.2.2.2.2.1, .int .i64 t_45.2.2.2.2.2.2.2.2.2.2.2.2.2.1, .bool t_45.2.2.2.2.2.2.2.2.2.2.2.2.2.2.1, .int .i64 t_45.2.2.2.2.2.2.2.2.2.2.2.2.2.2.2.1, .int .i64 t_45.2.2.2.2.2.2.2.2.2.2.2.2.2.2.2.2.1, .int .i64 t_45.2.2.2.2.2.2.2.2.2.2.2.2.2.2.2.2.2.1, .int .i64 t_45.2.2.2.2.2.2.2.2.2.2.2.2.2.2.2.2.2.2.1, v_65, .int .i64 t_45.2.2.2.2.2.2.2.2.2.2.2.2.2.2.2.2.2.2.2.2.1, .int .i64 t_45.2.2.2.2.2.2.2.2.2.2.2.2.2.2.2.2.2.2.2.2.2.1, v_67, v_69, .int .i64 t_45.2.2.2.2.2.2.2.2.2.2.2.2.2.2.2.2.2.2.2.2.2.2.2.2.1, .int .i64 t_45.2.2.2.2.2.2.2.2.2.2.2.2.2.2.2.2.2.2.2.2.2.2.2.2.2.1, .int .i64 t_45.2.2.2.2.2.2.2.2.2.2.2.2.2.2.2.2.2.2.2.2.2.2.2.2.2.2.1, .int .i64 t_45.2.2.2.2.2.2.2.2.2.2.2.2.2.2.2.2.2.2.2.2.2.2.2.2.2.2.2.1, .int .i64 t_45.2.2.2.2.2.2.2.2.2.2.2.2.2.2.2.2.2.2.2.2.2.2.2.2.2.2.2.2.1, v_71, v_73, v_75, .bool t_45.2.2.2.2.2.2.2.2.2.2.2.2.2.2.2.2.2.2.2.2.2.2.2.2.2.2.2.2.2.2.2.2] : List Value).toArray 80 (0, 0)), M_63]) (ow := []) rfl hS'
    replace hS : Sep w0 w_46 [N_48, Mem.one g_6 (.cells ([.int .i64 t_45.2.2.1, .int .i64 t_45.2.2.2.1, .int .i64 t_45.2.2.2.2.1, v_61, .int .i64 t_45.2.2.2.2.2.2.1, .int .i64 t_45.2.2.2.2.2.2.2.1, .int .i64 t_45.2.2.2.2.2.2.2.2.1, .int .i64 t_45.2.2.2.2.2.2.2.2.2.1, .int .i64 t_45.2.2.2.2.2.2.2.2.2.2.1, .int .i64 t_45.2.2.2.2.2.2.2.2.2.2.2.1, .int .i64 t_45.2.2.2.2.2.2.2.2.2.2.2.2.1, .int .i64 t_45.2.2.2.2.2.2.2.2.2.2.2.2.2.1, .bool t_45.2.2.2.2.2.2.2.2.2.2.2.2.2.2.1, .int .i64 t_45.2.2.2.2.2.2.2.2.2.2.2.2.2.2.2.1, .int .i64 t_45.2.2.2.2.2.2.2.2.2.2.2.2.2.2.2.2.1, .int .i64 t_45.2.2.2.2.2.2.2.2.2.2.2.2.2.2.2.2.2.1, .int .i64 t_45.2.2.2.2.2.2.2.2.2.2.2.2.2.2.2.2.2.2.1, v_65, .int .i64 t_45.2.2.2.2.2.2.2.2.2.2.2.2.2.2.2.2.2.2.2.2.1, .int .i64 t_45.2.2.2.2.2.2.2.2.2.2.2.2.2.2.2.2.2.2.2.2.2.1, v_67, v_69, .int .i64 t_45.2.2.2.2.2.2.2.2.2.2.2.2.2.2.2.2.2.2.2.2.2.2.2.2.1, .int .i64 t_45.2.2.2.2.2.2.2.2.2.2.2.2.2.2.2.2.2.2.2.2.2.2.2.2.2.1, .int .i64 t_45.2.2.2.2.2.2.2.2.2.2.2.2.2.2.2.2.2.2.2.2.2.2.2.2.2.2.1, .int .i64 t_45.2.2.2.2.2.2.2.2.2.2.2.2.2.2.2.2.2.2.2.2.2.2.2.2.2.2.2.1, .int .i64 t_45.2.2.2.2.2.2.2.2.2.2.2.2.2.2.2.2.2.2.2.2.2.2.2.2.2.2.2.2.1, v_71, v_73, v_75, .bool t_45.2.2.2.2.2.2.2.2.2.2.2.2.2.2.2.2.2.2.2.2.2.2.2.2.2.2.2.2.2.2.2.2] : List Value).toArray 80 (0, 0)), M_63] Z := hS''
    clear hS' hS''
    refine s_move hm rfl rfl ?_
    clear hm a; intro a hm
    refine s_extract hm rfl rfl rfl ?_
    clear hm a; intro a hm
    refine s_extract hm rfl rfl rfl ?_
    clear hm a; intro a hm
    refine v_alloc hm rfl ti29 hS ?_
    intro w_77 g_78 hS'
    clear hm a; intro a hm
    replace hS : Sep w0 w_77 [N_48, Mem.one g_6 (.cells ([.int .i64 t_45.2.2.1, .int .i64 t_45.2.2.2.1, .int .i64 t_45.2.2.2.2.1, v_61, .int .i64 t_45.2.2.2.2.2.2.1, .int .i64 t_45.2.2.2.2.2.2.2.1, .int .i64 t_45.2.2.2.2.2.2.2.2.1, .int .i64 t_45.2.2.2.2.2.2.2.2.2.1, .int .i64 t_45.2.2.2.2.2.2.2.2.2.2.1, .int .i64 t_45.2.2.2.2.2.2.2.2.2.2.2.1, .int .i64 t_45.2.2.2.2.2.2.2.2.2.2.2.2.1, .int .i64 t_45.2.2.2.2.2.2.2.2.2.2.2.2.2.1, .bool t_45.2.2.2.2.2.2.2.2.2.2.2.2.2.2.1, .int .i64 t_45.2.2.2.2.2.2.2.2.2.2.2.2.2.2.2.1, .int .i64 t_45.2.2.2.2.2.2.2.2.2.2.2.2.2.2.2.2.1, .int .i64 t_45.2.2.2.2.2.2.2.2.2.2.2.2.2.2.2.2.2.1, .int .i64 t_45.2.2.2.2.2.2.2.2.2.2.2.2.2.2.2.2.2.2.1, v_65, .int .i64 t_45.2.2.2.2.2.2.2.2.2.2.2.2.2.2.2.2.2.2.2.2.1, .int .i64 t_45.2.2.2.2.2.2.2.2.2.2.2.2.2.2.2.2.2.2.2.2.2.1, v_67, v_69, .int .i64 t_45.2.2.2.2.2.2.2.2.2.2.2.2.2.2.2.2.2.2.2.2.2.2.2.2.1, .int .i64 t_45.2.2.2.2.2.2.2.2.2.2.2.2.2.2.2.2.2.2.2.2.2.2.2.2.2.1, .int .i64 t_45.2.2.2.2.2.2.2.2.2.2.2.2.2.2.2.2.2.2.2.2.2.2.2.2.2.2.1, .int .i64 t_45.2.2.2.2.2.2.2.2.2.2.2.2.2.2.2.2.2.2.2.2.2.2.2.2.2.2.2.1, .int .i64 t_45.2.2.2.2.2.2.2.2.2.2.2.2.2.2.2.2.2.2.2.2.2.2.2.2.2.2.2.2.1, v_71, v_73, v_75, .bool t_45.2.2.2.2.2.2.2.2.2.2.2.2.2.2.2.2.2.2.2.2.2.2.2.2.2.2.2.2.2.2.2.2] : List Value).toArray 80 (0, 0)), M_63, Mem.one g_78 (.cells ([.int .i64 0, .int .i64 0, .int .i64 0, .int .i64 0, .int .i64 0, .int .i64 0, .bool false, .int .i64 0, .int .i64 0, .int .i64 0, .int .i64 0, .slice none 0 0, .int .i64 0, .int .i64 0, .slice none 0 0, .slice none 0 0, .int .i64 0, .int .i64 0, .int .i64 0, .int .i64 0, .int .i64 0, .slice none 0 0, .slice none 0 0, .slice none 0 0] : List Value).toArray 29 (0, 0))] Z := hS'
    clear hS'
    obtain ⟨w_79, hs', hS'⟩ := hS.store (P := Try.prog) (p := 3) (o := 0) (t := 29) (v := .agg ([.int .i64 t_45.1.Kind, .int .i64 t_45.1.From, .int .i64 t_45.1.To, .int .i64 t_45.1.View, .int .i64 t_45.1.Inst, .int .i64 t_45.1.Len, .bool t_45.1.Has, .int .i64 t_45.1.Members, .int .i64 t_45.1.Source, .int .i64 t_45.1.At, .int .i64 t_45.1.Total, v_49, .int .i64 t_45.1.Hop, .int .i64 t_45.1.Seq, v_51, v_53, .int .i64 t_45.1.Index, .int .i64 t_45.1.Entry.Sess, .int .i64 t_45.1.Entry.Seq, .int .i64 t_45.1.Entry.Cmd.Kind, .int .i64 t_45.1.Entry.Cmd.Who, v_55, v_57, v_59] : List Value).toArray) (vs := [.int .i64 t_45.1.Kind, .int .i64 t_45.1.From, .int .i64 t_45.1.To, .int .i64 t_45.1.View, .int .i64 t_45.1.Inst, .int .i64 t_45.1.Len, .bool t_45.1.Has, .int .i64 t_45.1.Members, .int .i64 t_45.1.Source, .int .i64 t_45.1.At, .int .i64 t_45.1.Total, v_49, .int .i64 t_45.1.Hop, .int .i64 t_45.1.Seq, v_51, v_53, .int .i64 t_45.1.Index, .int .i64 t_45.1.Entry.Sess, .int .i64 t_45.1.Entry.Seq, .int .i64 t_45.1.Entry.Cmd.Kind, .int .i64 t_45.1.Entry.Cmd.Who, v_55, v_57, v_59]) rfl ti29 rfl rfl rfl (by intro u hu; simp only [List.mem_cons, List.not_mem_nil, or_false] at hu; rcases hu with rfl | rfl | rfl | rfl | rfl | rfl | rfl | rfl | rfl | rfl | rfl | rfl | rfl | rfl | rfl | rfl | rfl | rfl | rfl | rfl | rfl | rfl | rfl | rfl <;> first | rfl | exact (hr_50.mono (Mem.un_le le_48 ln_48)).one | exact (hr_52.mono (Mem.un_le le_48 ln_48)).one | exact (hr_54.mono (Mem.un_le le_48 ln_48)).one | exact (hr_56.mono (Mem.un_le le_48 ln_48)).one | exact (hr_58.mono (Mem.un_le le_48 ln_48)).one | exact (hr_60.mono (Mem.un_le le_48 ln_48)).one)
    refine s_store hm rfl rfl hs' ?_
    replace hS : Sep w0 w_79 [N_48, Mem.one g_6 (.cells ([.int .i64 t_45.2.2.1, .int .i64 t_45.2.2.2.1, .int .i64 t_45.2.2.2.2.1, v_61, .int .i64 t_45.2.2.2.2.2.2.1, .int .i64 t_45.2.2.2.2.2.2.2.1, .int .i64 t_45.2.2.2.2.2.2.2.2.1, .int .i64 t_45.2.2.2.2.2.2.2.2.2.1, .int .i64 t_45.2.2.2.2.2.2.2.2.2.2.1, .int .i64 t_45.2.2.2.2.2.2.2.2.2.2.2.1, .int .i64 t_45.2.2.2.2.2.2.2.2.2.2.2.2.1, .int .i64 t_45.2.2.2.2.2.2.2.2.2.2.2.2.2.1, .bool t_45.2.2.2.2.2.2.2.2.2.2.2.2.2.2.1, .int .i64 t_45.2.2.2.2.2.2.2.2.2.2.2.2.2.2.2.1, .int .i64 t_45.2.2.2.2.2.2.2.2.2.2.2.2.2.2.2.2.1, .int .i64 t_45.2.2.2.2.2.2.2.2.2.2.2.2.2.2.2.2.2.1, .int .i64 t_45.2.2.2.2.2.2.2.2.2.2.2.2.2.2.2.2.2.2.1, v_65, .int .i64 t_45.2.2.2.2.2.2.2.2.2.2.2.2.2.2.2.2.2.2.2.2.1, .int .i64 t_45.2.2.2.2.2.2.2.2.2.2.2.2.2.2.2.2.2.2.2.2.2.1, v_67, v_69, .int .i64 t_45.2.2.2.2.2.2.2.2.2.2.2.2.2.2.2.2.2.2.2.2.2.2.2.2.1, .int .i64 t_45.2.2.2.2.2.2.2.2.2.2.2.2.2.2.2.2.2.2.2.2.2.2.2.2.2.1, .int .i64 t_45.2.2.2.2.2.2.2.2.2.2.2.2.2.2.2.2.2.2.2.2.2.2.2.2.2.2.1, .int .i64 t_45.2.2.2.2.2.2.2.2.2.2.2.2.2.2.2.2.2.2.2.2.2.2.2.2.2.2.2.1, .int .i64 t_45.2.2.2.2.2.2.2.2.2.2.2.2.2.2.2.2.2.2.2.2.2.2.2.2.2.2.2.2.1, v_71, v_73, v_75, .bool t_45.2.2.2.2.2.2.2.2.2.2.2.2.2.2.2.2.2.2.2.2.2.2.2.2.2.2.2.2.2.2.2.2] : List Value).toArray 80 (0, 0)), M_63, Mem.one g_78 (.cells ([.int .i64 t_45.1.Kind, .int .i64 t_45.1.From, .int .i64 t_45.1.To, .int .i64 t_45.1.View, .int .i64 t_45.1.Inst, .int .i64 t_45.1.Len, .bool t_45.1.Has, .int .i64 t_45.1.Members, .int .i64 t_45.1.Source, .int .i64 t_45.1.At, .int .i64 t_45.1.Total, v_49, .int .i64 t_45.1.Hop, .int .i64 t_45.1.Seq, v_51, v_53, .int .i64 t_45.1.Index, .int .i64 t_45.1.Entry.Sess, .int .i64 t_45.1.Entry.Seq, .int .i64 t_45.1.Entry.Cmd.Kind, .int .i64 t_45.1.Entry.Cmd.Who, v_55, v_57, v_59] : List Value).toArray 29 (0, 0))] Z := hS'
    clear hs' hS'
    refine s_assign hm rfl rfl ?_
    clear hm a; intro a hm
    refine wpList_nil ?_
    replace hm : Fr 139 a [(1, .int .i64 t_1), (6, .bool false), (7, .pointer (some ⟨g_6, 0, none⟩)), (14, .bool t_45.2.1)] := hm.keep [1, 6, 7, 14]
    refine x_then_n ?_
    refine c_seq fun KJ_80 hKJ_80 => ?_
    refine wp_region_lit ?_
    refine s_move hm rfl rfl ?_
    clear hm a; intro a hm
    refine s_not hm rfl rfl ?_
    clear hm a; intro a hm
    refine s_move hm rfl rfl ?_
    clear hm a; intro a hm
    by_cases hc_81 : t_45.2.1 = true
    · rw [if_pos hc_81] at H
      cases H
    · rw [if_neg hc_81] at H
      refine s_on hm rfl rfl (nt (Bool.eq_false_iff.2 hc_81)) ?_
      refine s_move hm rfl rfl ?_
      clear hm a; intro a hm
      refine s_on hm rfl rfl (nt (Bool.eq_false_iff.2 hc_81)) ?_
      obtain ⟨t_82, et_82, H⟩ := Option.bind_eq_some_iff.1 H
      refine s_call hm rfl Try.call46 rfl (gath_Gather_Done.calls K _ t_45.2.2.1 t_45.2.2.2.1 t_45.2.2.2.2.1 t_45.2.2.2.2.2.1 _ t_45.2.2.2.2.2.2.1 t_45.2.2.2.2.2.2.2.1 t_45.2.2.2.2.2.2.2.2.1 t_45.2.2.2.2.2.2.2.2.2.1 t_45.2.2.2.2.2.2.2.2.2.2.1 t_45.2.2.2.2.2.2.2.2.2.2.2.1 t_45.2.2.2.2.2.2.2.2.2.2.2.2.1 t_45.2.2.2.2.2.2.2.2.2.2.2.2.2.1 t_45.2.2.2.2.2.2.2.2.2.2.2.2.2.2.1 t_45.2.2.2.2.2.2.2.2.2.2.2.2.2.2.2.1 t_45.2.2.2.2.2.2.2.2.2.2.2.2.2.2.2.2.1 t_45.2.2.2.2.2.2.2.2.2.2.2.2.2.2.2.2.2.1 t_45.2.2.2.2.2.2.2.2.2.2.2.2.2.2.2.2.2.2.1 t_45.2.2.2.2.2.2.2.2.2.2.2.2.2.2.2.2.2.2.2.1 _ t_45.2.2.2.2.2.2.2.2.2.2.2.2.2.2.2.2.2.2.2.2.1 t_45.2.2.2.2.2.2.2.2.2.2.2.2.2.2.2.2.2.2.2.2.2.1 t_45.2.2.2.2.2.2.2.2.2.2.2.2.2.2.2.2.2.2.2.2.2.2.1 _ t_45.2.2.2.2.2.2.2.2.2.2.2.2.2.2.2.2.2.2.2.2.2.2.2.1 _ t_45.2.2.2.2.2.2.2.2.2.2.2.2.2.2.2.2.2.2.2.2.2.2.2.2.1 t_45.2.2.2.2.2.2.2.2.2.2.2.2.2.2.2.2.2.2.2.2.2.2.2.2.2.1 t_45.2.2.2.2.2.2.2.2.2.2.2.2.2.2.2.2.2.2.2.2.2.2.2.2.2.2.1 t_45.2.2.2.2.2.2.2.2.2.2.2.2.2.2.2.2.2.2.2.2.2.2.2.2.2.2.2.1 t_45.2.2.2.2.2.2.2.2.2.2.2.2.2.2.2.2.2.2.2.2.2.2.2.2.2.2.2.2.1 t_45.2.2.2.2.2.2.2.2.2.2.2.2.2.2.2.2.2.2.2.2.2.2.2.2.2.2.2.2.2.1 _ t_45.2.2.2.2.2.2.2.2.2.2.2.2.2.2.2.2.2.2.2.2.2.2.2.2.2.2.2.2.2.2.1 _ t_45.2.2.2.2.2.2.2.2.2.2.2.2.2.2.2.2.2.2.2.2.2.2.2.2.2.2.2.2.2.2.2.1 _ t_45.2.2.2.2.2.2.2.2.2.2.2.2.2.2.2.2.2.2.2.2.2.2.2.2.2.2.2.2.2.2.2.2 t_82 w0 _ _ _ (Mem.le.refl _) (hS.enter [0] (by decide)) ((hr_62.mono (Mem.un_le le_48 ln_48)).rd (hS.own_zed [0] 1 (by decide)) ((Mem.le.refl _).trans (hS.new_zed [0]))) ((hr_66.mono (Mem.un_le le_48 ln_48)).mono ((Mem.le.refl _).trans (hS.new_zed [0]))) ((hr_68.mono (Mem.un_le le_48 ln_48)).mono ((Mem.le.refl _).trans (hS.new_zed [0]))) ((hr_70.mono (Mem.un_le le_48 ln_48)).mono ((Mem.le.refl _).trans (hS.new_zed [0]))) ((hr_72.mono (Mem.un_le le_48 ln_48)).mono ((Mem.le.refl _).trans (hS.new_zed [0]))) ((hr_74.mono (Mem.un_le le_48 ln_48)).mono ((Mem.le.refl _).trans (hS.new_zed [0]))) ((hr_76.mono (Mem.un_le le_48 ln_48)).mono ((Mem.le.refl _).trans (hS.new_zed [0]))) et_82) ?_
      rintro _ w_83 ⟨N_84, rfl, hS'⟩
      clear hm a; intro a hm
      obtain ⟨N_85, hS'', le_85, ln_85⟩ := hS.call [0] (by decide) rfl (l' := [Mem.one g_6 (.cells ([.int .i64 t_45.2.2.1, .int .i64 t_45.2.2.2.1, .int .i64 t_45.2.2.2.2.1, v_61, .int .i64 t_45.2.2.2.2.2.2.1, .int .i64 t_45.2.2.2.2.2.2.2.1, .int .i64 t_45.2.2.2.2.2.2.2.2.1, .int .i64 t_45.2.2.2.2.2.2.2.2.2.1, .int .i64 t_45.2.2.2.2.2.2.2.2.2.2.1, .int .i64 t_45.2.2.2.2.2.2.2.2.2.2.2.1, .int .i64 t_45.2.2.2.2.2.2.2.2.2.2.2.2.1, .int .i64 t_45.2.2.2.2.2.2.2.2.2.2.2.2.2.1, .bool t_45.2.2.2.2.2.2.2.2.2.2.2.2.2.2.1, .int .i64 t_45.2.2.2.2.2.2.2.2.2.2.2.2.2.2.2.1, .int .i64 t_45.2.2.2.2.2.2.2.2.2.2.2.2.2.2.2.2.1, .int .i64 t_45.2.2.2.2.2.2.2.2.2.2.2.2.2.2.2.2.2.1, .int .i64 t_45.2.2.2.2.2.2.2.2.2.2.2.2.2.2.2.2.2.2.1, v_65, .int .i64 t_45.2.2.2.2.2.2.2.2.2.2.2.2.2.2.2.2.2.2.2.2.1, .int .i64 t_45.2.2.2.2.2.2.2.2.2.2.2.2.2.2.2.2.2.2.2.2.2.1, v_67, v_69, .int .i64 t_45.2.2.2.2.2.2.2.2.2.2.2.2.2.2.2.2.2.2.2.2.2.2.2.2.1, .int .i64 t_45.2.2.2.2.2.2.2.2.2.2.2.2.2.2.2.2.2.2.2.2.2.2.2.2.2.1, .int .i64 t_45.2.2.2.2.2.2.2.2.2.2.2.2.2.2.2.2.2.2.2.2.2.2.2.2.2.2.1, .int .i64 t_45.2.2.2.2.2.2.2.2.2.2.2.2.2.2.2.2.2.2.2.2.2.2.2.2.2.2.2.1, .int .i64 t_45.2.2.2.2.2.2.2.2.2.2.2.2.2.2.2.2.2.2.2.2.2.2.2.2.2.2.2.2.1, v_71, v_73, v_75, .bool t_45.2.2.2.2.2.2.2.2.2.2.2.2.2.2.2.2.2.2.2.2.2.2.2.2.2.2.2.2.2.2.2.2] : List Value).toArray 80 (0, 0))]) (ow := []) rfl hS'
      replace hS : Sep w0 w_83 [N_85, Mem.one g_6 (.cells ([.int .i64 t_45.2.2.1, .int .i64 t_45.2.2.2.1, .int .i64 t_45.2.2.2.2.1, v_61, .int .i64 t_45.2.2.2.2.2.2.1, .int .i64 t_45.2.2.2.2.2.2.2.1, .int .i64 t_45.2.2.2.2.2.2.2.2.1, .int .i64 t_45.2.2.2.2.2.2.2.2.2.1, .int .i64 t_45.2.2.2.2.2.2.2.2.2.2.1, .int .i64 t_45.2.2.2.2.2.2.2.2.2.2.2.1, .int .i64 t_45.2.2.2.2.2.2.2.2.2.2.2.2.1, .int .i64 t_45.2.2.2.2.2.2.2.2.2.2.2.2.2.1, .bool t_45.2.2.2.2.2.2.2.2.2.2.2.2.2.2.1, .int .i64 t_45.2.2.2.2.2.2.2.2.2.2.2.2.2.2.2.1, .int .i64 t_45.2.2.2.2.2.2.2.2.2.2.2.2.2.2.2.2.1, .int .i64 t_45.2.2.2.2.2.2.2.2.2.2.2.2.2.2.2.2.2.1, .int .i64 t_45.2.2.2.2.2.2.2.2.2.2.2.2.2.2.2.2.2.2.1, v_65, .int .i64 t_45.2.2.2.2.2.2.2.2.2.2.2.2.2.2.2.2.2.2.2.2.1, .int .i64 t_45.2.2.2.2.2.2.2.2.2.2.2.2.2.2.2.2.2.2.2.2.2.1, v_67, v_69, .int .i64 t_45.2.2.2.2.2.2.2.2.2.2.2.2.2.2.2.2.2.2.2.2.2.2.2.2.1, .int .i64 t_45.2.2.2.2.2.2.2.2.2.2.2.2.2.2.2.2.2.2.2.2.2.2.2.2.2.1, .int .i64 t_45.2.2.2.2.2.2.2.2.2.2.2.2.2.2.2.2.2.2.2.2.2.2.2.2.2.2.1, .int .i64 t_45.2.2.2.2.2.2.2.2.2.2.2.2.2.2.2.2.2.2.2.2.2.2.2.2.2.2.2.1, .int .i64 t_45.2.2.2.2.2.2.2.2.2.2.2.2.2.2.2.2.2.2.2.2.2.2.2.2.2.2.2.2.1, v_71, v_73, v_75, .bool t_45.2.2.2.2.2.2.2.2.2.2.2.2.2.2.2.2.2.2.2.2.2.2.2.2.2.2.2.2.2.2.2.2] : List Value).toArray 80 (0, 0)), M_63, Mem.one g_78 (.cells ([.int .i64 t_45.1.Kind, .int .i64 t_45.1.From, .int .i64 t_45.1.To, .int .i64 t_45.1.View, .int .i64 t_45.1.Inst, .int .i64 t_45.1.Len, .bool t_45.1.Has, .int .i64 t_45.1.Members, .int .i64 t_45.1.Source, .int .i64 t_45.1.At, .int .i64 t_45.1.Total, v_49, .int .i64 t_45.1.Hop, .int .i64 t_45.1.Seq, v_51, v_53, .int .i64 t_45.1.Index, .int .i64 t_45.1.Entry.Sess, .int .i64 t_45.1.Entry.Seq, .int .i64 t_45.1.Entry.Cmd.Kind, .int .i64 t_45.1.Entry.Cmd.Who, v_55, v_57, v_59] : List Value).toArray 29 (0, 0))] Z := hS''
      clear hS' hS''
      refine s_on hm rfl rfl (nt (Bool.eq_false_iff.2 hc_81)) ?_
      refine s_not hm rfl rfl ?_
      clear hm a; intro a hm
      refine s_pick_t hm rfl rfl (nt (Bool.eq_false_iff.2 hc_81)) rfl ?_
      clear hm a; intro a hm
      refine s_move hm rfl rfl ?_
      clear hm a; intro a hm
      by_cases hc_86 : t_82 = true
      · rw [if_pos hc_86] at H
        cases H
      · rw [if_neg hc_86] at H
        refine s_on hm rfl rfl (nt (Bool.eq_false_iff.2 hc_86)) ?_
        refine s_move hm rfl rfl ?_
        clear hm a; intro a hm
        refine s_on hm rfl rfl (nt (Bool.eq_false_iff.2 hc_86)) ?_
        refine s_move hm rfl rfl ?_
        clear hm a; intro a hm
        refine s_on hm rfl rfl (nt (Bool.eq_false_iff.2 hc_86)) ?_
        obtain ⟨t_87, et_87, H⟩ := Option.bind_eq_some_iff.1 H
        refine s_call hm rfl Try.call47 rfl (gath_Gather_Ready.calls K _ t_45.2.2.1 t_45.2.2.2.1 t_45.2.2.2.2.1 t_45.2.2.2.2.2.1 _ _ t_45.2.2.2.2.2.2.1 t_45.2.2.2.2.2.2.2.1 t_45.2.2.2.2.2.2.2.2.1 t_45.2.2.2.2.2.2.2.2.2.1 t_45.2.2.2.2.2.2.2.2.2.2.1 t_45.2.2.2.2.2.2.2.2.2.2.2.1 t_45.2.2.2.2.2.2.2.2.2.2.2.2.1 t_45.2.2.2.2.2.2.2.2.2.2.2.2.2.1 t_45.2.2.2.2.2.2.2.2.2.2.2.2.2.2.1 t_45.2.2.2.2.2.2.2.2.2.2.2.2.2.2.2.1 t_45.2.2.2.2.2.2.2.2.2.2.2.2.2.2.2.2.1 t_45.2.2.2.2.2.2.2.2.2.2.2.2.2.2.2.2.2.1 t_45.2.2.2.2.2.2.2.2.2.2.2.2.2.2.2.2.2.2.1 t_45.2.2.2.2.2.2.2.2.2.2.2.2.2.2.2.2.2.2.2.1 _ t_45.2.2.2.2.2.2.2.2.2.2.2.2.2.2.2.2.2.2.2.2.1 t_45.2.2.2.2.2.2.2.2.2.2.2.2.2.2.2.2.2.2.2.2.2.1 t_45.2.2.2.2.2.2.2.2.2.2.2.2.2.2.2.2.2.2.2.2.2.2.1 _ t_45.2.2.2.2.2.2.2.2.2.2.2.2.2.2.2.2.2.2.2.2.2.2.2.1 _ t_45.2.2.2.2.2.2.2.2.2.2.2.2.2.2.2.2.2.2.2.2.2.2.2.2.1 t_45.2.2.2.2.2.2.2.2.2.2.2.2.2.2.2.2.2.2.2.2.2.2.2.2.2.1 t_45.2.2.2.2.2.2.2.2.2.2.2.2.2.2.2.2.2.2.2.2.2.2.2.2.2.2.1 t_45.2.2.2.2.2.2.2.2.2.2.2.2.2.2.2.2.2.2.2.2.2.2.2.2.2.2.2.1 t_45.2.2.2.2.2.2.2.2.2.2.2.2.2.2.2.2.2.2.2.2.2.2.2.2.2.2.2.2.1 t_45.2.2.2.2.2.2.2.2.2.2.2.2.2.2.2.2.2.2.2.2.2.2.2.2.2.2.2.2.2.1 _ t_45.2.2.2.2.2.2.2.2.2.2.2.2.2.2.2.2.2.2.2.2.2.2.2.2.2.2.2.2.2.2.1 _ t_45.2.2.2.2.2.2.2.2.2.2.2.2.2.2.2.2.2.2.2.2.2.2.2.2.2.2.2.2.2.2.2.1 _ t_45.2.2.2.2.2.2.2.2.2.2.2.2.2.2.2.2.2.2.2.2.2.2.2.2.2.2.2.2.2.2.2.2 t_1 t_87 w0 _ _ N_85 (hS.new_zed [0, 1]) (hS.enter [0, 1] (by decide)) ((hr_62.mono (Mem.un_le le_48 ln_48)).mono le_85) ((hr_66.mono (Mem.un_le le_48 ln_48)).mono le_85) ((hr_68.mono (Mem.un_le le_48 ln_48)).mono le_85) ((hr_70.mono (Mem.un_le le_48 ln_48)).mono le_85) ((hr_72.mono (Mem.un_le le_48 ln_48)).mono le_85) ((hr_74.mono (Mem.un_le le_48 ln_48)).mono le_85) ((hr_76.mono (Mem.un_le le_48 ln_48)).mono le_85) et_87) ?_
        rintro _ w_88 ⟨v_91, v_95, v_97, v_99, v_101, v_103, v_105, N_89, M_93, rfl, hS', hr_92, hr_96, hr_98, hr_100, hr_102, hr_104, hr_106⟩
        clear hm a; intro a hm
        obtain ⟨N_90, hS'', le_90, ln_90⟩ := hS.call [0, 1] (by decide) rfl (l' := [Mem.one g_6 (.cells ([.int .i64 t_87.2.1, .int .i64 t_87.2.2.1, .int .i64 t_87.2.2.2.1, v_91, .int .i64 t_87.2.2.2.2.2.1, .int .i64 t_87.2.2.2.2.2.2.1, .int .i64 t_87.2.2.2.2.2.2.2.1, .int .i64 t_87.2.2.2.2.2.2.2.2.1, .int .i64 t_87.2.2.2.2.2.2.2.2.2.1, .int .i64 t_87.2.2.2.2.2.2.2.2.2.2.1, .int .i64 t_87.2.2.2.2.2.2.2.2.2.2.2.1, .int .i64 t_87.2.2.2.2.2.2.2.2.2.2.2.2.1, .bool t_87.2.2.2.2.2.2.2.2.2.2.2.2.2.1, .int .i64 t_87.2.2.2.2.2.2.2.2.2.2.2.2.2.2.1, .int .i64 t_87.2.2.2.2.2.2.2.2.2.2.2.2.2.2.2.1, .int .i64 t_87.2.2.2.2.2.2.2.2.2.2.2.2.2.2.2.2.1, .int .i64 t_87.2.2.2.2.2.2.2.2.2.2.2.2.2.2.2.2.2.1, v_95, .int .i64 t_87.2.2.2.2.2.2.2.2.2.2.2.2.2.2.2.2.2.2.2.1, .int .i64 t_87.2.2.2.2.2.2.2.2.2.2.2.2.2.2.2.2.2.2.2.2.1, v_97, v_99, .int .i64 t_87.2.2.2.2.2.2.2.2.2.2.2.2.2.2.2.2.2.2.2.2.2.2.2.1, .int .i64 t_87.2.2.2.2.2.2.2.2.2.2.2.2.2.2.2.2.2.2.2.2.2.2.2.2.1, .int .i64 t_87.2.2.2.2.2.2.2.2.2.2.2.2.2.2.2.2.2.2.2.2.2.2.2.2.2.1, .int .i64 t_87.2.2.2.2.2.2.2.2.2.2.2.2.2.2.2.2.2.2.2.2.2.2.2.2.2.2.1, .int .i64 t_87.2.2.2.2.2.2.2.2.2.2.2.2.2.2.2.2.2.2.2.2.2.2.2.2.2.2.2.1, v_101, v_103, v_105, .bool t_87.2.2.2.2.2.2.2.2.2.2.2.2.2.2.2.2.2.2.2.2.2.2.2.2.2.2.2.2.2.2.2] : List Value).toArray 80 (0, 0)), M_93]) (ow := []) rfl hS'
        replace hS : Sep w0 w_88 [N_90, Mem.one g_6 (.cells ([.int .i64 t_87.2.1, .int .i64 t_87.2.2.1, .int .i64 t_87.2.2.2.1, v_91, .int .i64 t_87.2.2.2.2.2.1, .int .i64 t_87.2.2.2.2.2.2.1, .int .i64 t_87.2.2.2.2.2.2.2.1, .int .i64 t_87.2.2.2.2.2.2.2.2.1, .int .i64 t_87.2.2.2.2.2.2.2.2.2.1, .int .i64 t_87.2.2.2.2.2.2.2.2.2.2.1, .int .i64 t_87.2.2.2.2.2.2.2.2.2.2.2.1, .int .i64 t_87.2.2.2.2.2.2.2.2.2.2.2.2.1, .bool t_87.2.2.2.2.2.2.2.2.2.2.2.2.2.1, .int .i64 t_87.2.2.2.2.2.2.2.2.2.2.2.2.2.2.1, .int .i64 t_87.2.2.2.2.2.2.2.2.2.2.2.2.2.2.2.1, .int .i64 t_87.2.2.2.2.2.2.2.2.2.2.2.2.2.2.2.2.1, .int .i64 t_87.2.2.2.2.2.2.2.2.2.2.2.2.2.2.2.2.2.1, v_95, .int .i64 t_87.2.2.2.2.2.2.2.2.2.2.2.2.2.2.2.2.2.2.2.1, .int .i64 t_87.2.2.2.2.2.2.2.2.2.2.2.2.2.2.2.2.2.2.2.2.1, v_97, v_99, .int .i64 t_87.2.2.2.2.2.2.2.2.2.2.2.2.2.2.2.2.2.2.2.2.2.2.2.1, .int .i64 t_87.2.2.2.2.2.2.2.2.2.2.2.2.2.2.2.2.2.2.2.2.2.2.2.2.1, .int .i64 t_87.2.2.2.2.2.2.2.2.2.2.2.2.2.2.2.2.2.2.2.2.2.2.2.2.2.1, .int .i64 t_87.2.2.2.2.2.2.2.2.2.2.2.2.2.2.2.2.2.2.2.2.2.2.2.2.2.2.1, .int .i64 t_87.2.2.2.2.2.2.2.2.2.2.2.2.2.2.2.2.2.2.2.2.2.2.2.2.2.2.2.1, v_101, v_103, v_105, .bool t_87.2.2.2.2.2.2.2.2.2.2.2.2.2.2.2.2.2.2.2.2.2.2.2.2.2.2.2.2.2.2.2] : List Value).toArray 80 (0, 0)), M_93, Mem.one g_78 (.cells ([.int .i64 t_45.1.Kind, .int .i64 t_45.1.From, .int .i64 t_45.1.To, .int .i64 t_45.1.View, .int .i64 t_45.1.Inst, .int .i64 t_45.1.Len, .bool t_45.1.Has, .int .i64 t_45.1.Members, .int .i64 t_45.1.Source, .int .i64 t_45.1.At, .int .i64 t_45.1.Total, v_49, .int .i64 t_45.1.Hop, .int .i64 t_45.1.Seq, v_51, v_53, .int .i64 t_45.1.Index, .int .i64 t_45.1.Entry.Sess, .int .i64 t_45.1.Entry.Seq, .int .i64 t_45.1.Entry.Cmd.Kind, .int .i64 t_45.1.Entry.Cmd.Who, v_55, v_57, v_59] : List Value).toArray 29 (0, 0))] Z := hS''
        clear hS' hS''
        refine s_on hm rfl rfl (nt (Bool.eq_false_iff.2 hc_86)) ?_
        refine s_not hm rfl rfl ?_
        clear hm a; intro a hm
        refine s_pick_t hm rfl rfl (nt (Bool.eq_false_iff.2 hc_86)) rfl ?_
        clear hm a; intro a hm
        refine s_move hm rfl rfl ?_
        clear hm a; intro a hm
        by_cases hc_107 : t_87.1 = true
        · rw [if_pos hc_107] at H
          cases H
        · rw [if_neg hc_107] at H
          refine s_on hm rfl rfl (nt (Bool.eq_false_iff.2 hc_107)) ?_
          refine s_move hm rfl rfl ?_
          clear hm a; intro a hm
          refine s_on hm rfl rfl (nt (Bool.eq_false_iff.2 hc_107)) ?_
          obtain ⟨t_108, et_108, H⟩ := Option.bind_eq_some_iff.1 H
          refine s_call hm rfl Try.call48 rfl (gath_Gather_Unready.calls K _ t_87.2.1 t_87.2.2.1 t_87.2.2.2.1 t_87.2.2.2.2.1 _ t_87.2.2.2.2.2.1 t_87.2.2.2.2.2.2.1 t_87.2.2.2.2.2.2.2.1 t_87.2.2.2.2.2.2.2.2.1 t_87.2.2.2.2.2.2.2.2.2.1 t_87.2.2.2.2.2.2.2.2.2.2.1 t_87.2.2.2.2.2.2.2.2.2.2.2.1 t_87.2.2.2.2.2.2.2.2.2.2.2.2.1 t_87.2.2.2.2.2.2.2.2.2.2.2.2.2.1 t_87.2.2.2.2.2.2.2.2.2.2.2.2.2.2.1 t_87.2.2.2.2.2.2.2.2.2.2.2.2.2.2.2.1 t_87.2.2.2.2.2.2.2.2.2.2.2.2.2.2.2.2.1 t_87.2.2.2.2.2.2.2.2.2.2.2.2.2.2.2.2.2.1 t_87.2.2.2.2.2.2.2.2.2.2.2.2.2.2.2.2.2.2.1 _ t_87.2.2.2.2.2.2.2.2.2.2.2.2.2.2.2.2.2.2.2.1 t_87.2.2.2.2.2.2.2.2.2.2.2.2.2.2.2.2.2.2.2.2.1 t_87.2.2.2.2.2.2.2.2.2.2.2.2.2.2.2.2.2.2.2.2.2.1 _ t_87.2.2.2.2.2.2.2.2.2.2.2.2.2.2.2.2.2.2.2.2.2.2.1 _ t_87.2.2.2.2.2.2.2.2.2.2.2.2.2.2.2.2.2.2.2.2.2.2.2.1 t_87.2.2.2.2.2.2.2.2.2.2.2.2.2.2.2.2.2.2.2.2.2.2.2.2.1 t_87.2.2.2.2.2.2.2.2.2.2.2.2.2.2.2.2.2.2.2.2.2.2.2.2.2.1 t_87.2.2.2.2.2.2.2.2.2.2.2.2.2.2.2.2.2.2.2.2.2.2.2.2.2.2.1 t_87.2.2.2.2.2.2.2.2.2.2.2.2.2.2.2.2.2.2.2.2.2.2.2.2.2.2.2.1 t_87.2.2.2.2.2.2.2.2.2.2.2.2.2.2.2.2.2.2.2.2.2.2.2.2.2.2.2.2.1 _ t_87.2.2.2.2.2.2.2.2.2.2.2.2.2.2.2.2.2.2.2.2.2.2.2.2.2.2.2.2.2.1 _ t_87.2.2.2.2.2.2.2.2.2.2.2.2.2.2.2.2.2.2.2.2.2.2.2.2.2.2.2.2.2.2.1 _ t_87.2.2.2.2.2.2.2.2.2.2.2.2.2.2.2.2.2.2.2.2.2.2.2.2.2.2.2.2.2.2.2 t_108 w0 _ _ _ (Mem.le.refl _) (hS.enter [0] (by decide)) ((hr_92.mono (Mem.un_le le_90 ln_90)).rd (hS.own_zed [0] 1 (by decide)) ((Mem.le.refl _).trans (hS.new_zed [0]))) ((hr_96.mono (Mem.un_le le_90 ln_90)).mono ((Mem.le.refl _).trans (hS.new_zed [0]))) ((hr_98.mono (Mem.un_le le_90 ln_90)).mono ((Mem.le.refl _).trans (hS.new_zed [0]))) ((hr_100.mono (Mem.un_le le_90 ln_90)).mono ((Mem.le.refl _).trans (hS.new_zed [0]))) ((hr_102.mono (Mem.un_le le_90 ln_90)).mono ((Mem.le.refl _).trans (hS.new_zed [0]))) ((hr_104.mono (Mem.un_le le_90 ln_90)).mono ((Mem.le.refl _).trans (hS.new_zed [0]))) ((hr_106.mono (Mem.un_le le_90 ln_90)).mono ((Mem.le.refl _).trans (hS.new_zed [0]))) et_108) ?_
          rintro v_112 w_109 ⟨_, N_110, M_114, rfl, hS', hr_113⟩
          clear hm a; intro a hm
          obtain ⟨N_111, hS'', le_111, ln_111⟩ := hS.call [0] (by decide) rfl (l' := [Mem.one g_6 (.cells ([.int .i64 t_87.2.1, .int .i64 t_87.2.2.1, .int .i64 t_87.2.2.2.1, v_91, .int .i64 t_87.2.2.2.2.2.1, .int .i64 t_87.2.2.2.2.2.2.1, .int .i64 t_87.2.2.2.2.2.2.2.1, .int .i64 t_87.2.2.2.2.2.2.2.2.1, .int .i64 t_87.2.2.2.2.2.2.2.2.2.1, .int .i64 t_87.2.2.2.2.2.2.2.2.2.2.1, .int .i64 t_87.2.2.2.2.2.2.2.2.2.2.2.1, .int .i64 t_87.2.2.2.2.2.2.2.2.2.2.2.2.1, .bool t_87.2.2.2.2.2.2.2.2.2.2.2.2.2.1, .int .i64 t_87.2.2.2.2.2.2.2.2.2.2.2.2.2.2.1, .int .i64 t_87.2.2.2.2.2.2.2.2.2.2.2.2.2.2.2.1, .int .i64 t_87.2.2.2.2.2.2.2.2.2.2.2.2.2.2.2.2.1, .int .i64 t_87.2.2.2.2.2.2.2.2.2.2.2.2.2.2.2.2.2.1, v_95, .int .i64 t_87.2.2.2.2.2.2.2.2.2.2.2.2.2.2.2.2.2.2.2.1, .int .i64 t_87.2.2.2.2.2.2.2.2.2.2.2.2.2.2.2.2.2.2.2.2.1, v_97, v_99, .int .i64 t_87.2.2.2.2.2.2.2.2.2.2.2.2.2.2.2.2.2.2.2.2.2.2.2.1, .int .i64 t_87.2.2.2.2.2.2.2.2.2.2.2.2.2.2.2.2.2.2.2.2.2.2.2.2.1, .int .i64 t_87.2.2.2.2.2.2.2.2.2.2.2.2.2.2.2.2.2.2.2.2.2.2.2.2.2.1, .int .i64 t_87.2.2.2.2.2.2.2.2.2.2.2.2.2.2.2.2.2.2.2.2.2.2.2.2.2.2.1, .int .i64 t_87.2.2.2.2.2.2.2.2.2.2.2.2.2.2.2.2.2.2.2.2.2.2.2.2.2.2.2.1, v_101, v_103, v_105, .bool t_87.2.2.2.2.2.2.2.2.2.2.2.2.2.2.2.2.2.2.2.2.2.2.2.2.2.2.2.2.2.2.2] : List Value).toArray 80 (0, 0))]) (ow := [M_114]) rfl hS'
          replace hS : Sep w0 w_109 [N_111, Mem.one g_6 (.cells ([.int .i64 t_87.2.1, .int .i64 t_87.2.2.1, .int .i64 t_87.2.2.2.1, v_91, .int .i64 t_87.2.2.2.2.2.1, .int .i64 t_87.2.2.2.2.2.2.1, .int .i64 t_87.2.2.2.2.2.2.2.1, .int .i64 t_87.2.2.2.2.2.2.2.2.1, .int .i64 t_87.2.2.2.2.2.2.2.2.2.1, .int .i64 t_87.2.2.2.2.2.2.2.2.2.2.1, .int .i64 t_87.2.2.2.2.2.2.2.2.2.2.2.1, .int .i64 t_87.2.2.2.2.2.2.2.2.2.2.2.2.1, .bool t_87.2.2.2.2.2.2.2.2.2.2.2.2.2.1, .int .i64 t_87.2.2.2.2.2.2.2.2.2.2.2.2.2.2.1, .int .i64 t_87.2.2.2.2.2.2.2.2.2.2.2.2.2.2.2.1, .int .i64 t_87.2.2.2.2.2.2.2.2.2.2.2.2.2.2.2.2.1, .int .i64 t_87.2.2.2.2.2.2.2.2.2.2.2.2.2.2.2.2.2.1, v_95, .int .i64 t_87.2.2.2.2.2.2.2.2.2.2.2.2.2.2.2.2.2.2.2.1, .int .i64 t_87.2.2.2.2.2.2.2.2.2.2.2.2.2.2.2.2.2.2.2.2.1, v_97, v_99, .int .i64 t_87.2.2.2.2.2.2.2.2.2.2.2.2.2.2.2.2.2.2.2.2.2.2.2.1, .int .i64 t_87.2.2.2.2.2.2.2.2.2.2.2.2.2.2.2.2.2.2.2.2.2.2.2.2.1, .int .i64 t_87.2.2.2.2.2.2.2.2.2.2.2.2.2.2.2.2.2.2.2.2.2.2.2.2.2.1, .int .i64 t_87.2.2.2.2.2.2.2.2.2.2.2.2.2.2.2.2.2.2.2.2.2.2.2.2.2.2.1, .int .i64 t_87.2.2.2.2.2.2.2.2.2.2.2.2.2.2.2.2.2.2.2.2.2.2.2.2.2.2.2.1, v_101, v_103, v_105, .bool t_87.2.2.2.2.2.2.2.2.2.2.2.2.2.2.2.2.2.2.2.2.2.2.2.2.2.2.2.2.2.2.2] : List Value).toArray 80 (0, 0)), M_93, Mem.one g_78 (.cells ([.int .i64 t_45.1.Kind, .int .i64 t_45.1.From, .int .i64 t_45.1.To, .int .i64 t_45.1.View, .int .i64 t_45.1.Inst, .int .i64 t_45.1.Len, .bool t_45.1.Has, .int .i64 t_45.1.Members, .int .i64 t_45.1.Source, .int .i64 t_45.1.At, .int .i64 t_45.1.Total, v_49, .int .i64 t_45.1.Hop, .int .i64 t_45.1.Seq, v_51, v_53, .int .i64 t_45.1.Index, .int .i64 t_45.1.Entry.Sess, .int .i64 t_45.1.Entry.Seq, .int .i64 t_45.1.Entry.Cmd.Kind, .int .i64 t_45.1.Entry.Cmd.Who, v_55, v_57, v_59] : List Value).toArray 29 (0, 0)), M_114] Z := hS''
          clear hS' hS''
          refine s_on hm rfl rfl (nt (Bool.eq_false_iff.2 hc_107)) ?_
          refine s_lenO hm rfl Try.underlying23 rfl hr_113 ?_
          clear hm a; intro a hm
          refine s_on hm rfl rfl (nt (Bool.eq_false_iff.2 hc_107)) ?_
          refine s_cmp (b := ((t_108.length : Int) == 0)) hm rfl rfl rfl (.inl ⟨rfl, rfl⟩) ?_
          clear hm a; intro a hm
          refine s_pick_t hm rfl rfl (nt (Bool.eq_false_iff.2 hc_107)) rfl ?_
          clear hm a; intro a hm
          refine s_move hm rfl rfl ?_
          clear hm a; intro a hm
          by_cases hc_116 : (t_108.length : Int) = 0
          · rw [if_pos hc_116] at H
            refine s_on hm rfl rfl (beq_iff_eq.2 hc_116) ?_
            obtain ⟨t_117, et_117, H⟩ := Option.bind_eq_some_iff.1 H
            refine s_call hm rfl Try.call49 rfl (hocketlaw18_awake.calls K  t_117 w0 _ _ _ (Mem.le.refl _) (hS.enter [] (by decide))  et_117) ?_
            rintro _ w_118 ⟨N_119, rfl, hS'⟩
            clear hm a; intro a hm
            obtain ⟨N_120, hS'', le_120, ln_120⟩ := hS.call [] (by decide) rfl (l' := []) (ow := []) rfl hS'
            replace hS : Sep w0 w_118 [N_120, Mem.one g_6 (.cells ([.int .i64 t_87.2.1, .int .i64 t_87.2.2.1, .int .i64 t_87.2.2.2.1, v_91, .int .i64 t_87.2.2.2.2.2.1, .int .i64 t_87.2.2.2.2.2.2.1, .int .i64 t_87.2.2.2.2.2.2.2.1, .int .i64 t_87.2.2.2.2.2.2.2.2.1, .int .i64 t_87.2.2.2.2.2.2.2.2.2.1, .int .i64 t_87.2.2.2.2.2.2.2.2.2.2.1, .int .i64 t_87.2.2.2.2.2.2.2.2.2.2.2.1, .int .i64 t_87.2.2.2.2.2.2.2.2.2.2.2.2.1, .bool t_87.2.2.2.2.2.2.2.2.2.2.2.2.2.1, .int .i64 t_87.2.2.2.2.2.2.2.2.2.2.2.2.2.2.1, .int .i64 t_87.2.2.2.2.2.2.2.2.2.2.2.2.2.2.2.1, .int .i64 t_87.2.2.2.2.2.2.2.2.2.2.2.2.2.2.2.2.1, .int .i64 t_87.2.2.2.2.2.2.2.2.2.2.2.2.2.2.2.2.2.1, v_95, .int .i64 t_87.2.2.2.2.2.2.2.2.2.2.2.2.2.2.2.2.2.2.2.1, .int .i64 t_87.2.2.2.2.2.2.2.2.2.2.2.2.2.2.2.2.2.2.2.2.1, v_97, v_99, .int .i64 t_87.2.2.2.2.2.2.2.2.2.2.2.2.2.2.2.2.2.2.2.2.2.2.2.1, .int .i64 t_87.2.2.2.2.2.2.2.2.2.2.2.2.2.2.2.2.2.2.2.2.2.2.2.2.1, .int .i64 t_87.2.2.2.2.2.2.2.2.2.2.2.2.2.2.2.2.2.2.2.2.2.2.2.2.2.1, .int .i64 t_87.2.2.2.2.2.2.2.2.2.2.2.2.2.2.2.2.2.2.2.2.2.2.2.2.2.2.1, .int .i64 t_87.2.2.2.2.2.2.2.2.2.2.2.2.2.2.2.2.2.2.2.2.2.2.2.2.2.2.2.1, v_101, v_103, v_105, .bool t_87.2.2.2.2.2.2.2.2.2.2.2.2.2.2.2.2.2.2.2.2.2.2.2.2.2.2.2.2.2.2.2] : List Value).toArray 80 (0, 0)), M_93, Mem.one g_78 (.cells ([.int .i64 t_45.1.Kind, .int .i64 t_45.1.From, .int .i64 t_45.1.To, .int .i64 t_45.1.View, .int .i64 t_45.1.Inst, .int .i64 t_45.1.Len, .bool t_45.1.Has, .int .i64 t_45.1.Members, .int .i64 t_45.1.Source, .int .i64 t_45.1.At, .int .i64 t_45.1.Total, v_49, .int .i64 t_45.1.Hop, .int .i64 t_45.1.Seq, v_51, v_53, .int .i64 t_45.1.Index, .int .i64 t_45.1.Entry.Sess, .int .i64 t_45.1.Entry.Seq, .int .i64 t_45.1.Entry.Cmd.Kind, .int .i64 t_45.1.Entry.Cmd.Who, v_55, v_57, v_59] : List Value).toArray 29 (0, 0)), M_114] Z := hS''
            clear hS' hS''
            refine s_pick_t hm rfl rfl (beq_iff_eq.2 hc_116) rfl ?_
            clear hm a; intro a hm
            refine s_assign hm rfl rfl ?_
            clear hm a; intro a hm
            refine wpList_nil ?_
            replace hm : Fr 139 a [(6, .bool true)] := hm.keep [6]
            refine x_then_n (hKJ_80 _ _ ?_)
            refine wp_ret ?_
            exact f_ret hm (rs := [.tmp 6]) rfl (.tmp rfl .nil) ⟨_, rfl, N_120, rfl, (Sep.sel hS [0] (by decide))⟩
          · rw [if_neg hc_116] at H
            cases H
  clear hKJ_24
  replace hS : Sep w0 w_3 [N_5, Mem.one g_6 (.cells ([.int .i64 t_2.1, .int .i64 t_2.2.1, .int .i64 t_2.2.2.1, v_7, .int .i64 t_2.2.2.2.2.1, .int .i64 t_2.2.2.2.2.2.1, .int .i64 t_2.2.2.2.2.2.2.1, .int .i64 t_2.2.2.2.2.2.2.2.1, .int .i64 t_2.2.2.2.2.2.2.2.2.1, .int .i64 t_2.2.2.2.2.2.2.2.2.2.1, .int .i64 t_2.2.2.2.2.2.2.2.2.2.2.1, .int .i64 t_2.2.2.2.2.2.2.2.2.2.2.2.1, .bool t_2.2.2.2.2.2.2.2.2.2.2.2.2.1, .int .i64 t_2.2.2.2.2.2.2.2.2.2.2.2.2.2.1, .int .i64 t_2.2.2.2.2.2.2.2.2.2.2.2.2.2.2.1, .int .i64 t_2.2.2.2.2.2.2.2.2.2.2.2.2.2.2.2.1, .int .i64 t_2.2.2.2.2.2.2.2.2.2.2.2.2.2.2.2.2.1, v_11, .int .i64 t_2.2.2.2.2.2.2.2.2.2.2.2.2.2.2.2.2.2.2.1, .int .i64 t_2.2.2.2.2.2.2.2.2.2.2.2.2.2.2.2.2.2.2.2.1, v_13, v_15, .int .i64 t_2.2.2.2.2.2.2.2.2.2.2.2.2.2.2.2.2.2.2.2.2.2.2.1, .int .i64 t_2.2.2.2.2.2.2.2.2.2.2.2.2.2.2.2.2.2.2.2.2.2.2.2.1, .int .i64 t_2.2.2.2.2.2.2.2.2.2.2.2.2.2.2.2.2.2.2.2.2.2.2.2.2.1, .int .i64 t_2.2.2.2.2.2.2.2.2.2.2.2.2.2.2.2.2.2.2.2.2.2.2.2.2.2.1, .int .i64 t_2.2.2.2.2.2.2.2.2.2.2.2.2.2.2.2.2.2.2.2.2.2.2.2.2.2.2.1, v_17, v_19, v_21, .bool t_2.2.2.2.2.2.2.2.2.2.2.2.2.2.2.2.2.2.2.2.2.2.2.2.2.2.2.2.2.2.2] : List Value).toArray 80 (0, 0)), M_9] Z := hS
  replace hm : Fr 139 a [(0, .int .i64 (w64 ((Int.tmod (band .i64 x0 255) 7) + 1))), (1, .int .i64 t_1), (2, p2_0), (6, .bool false), (7, .pointer (some ⟨g_6, 0, none⟩)), (8, .int .i64 (shl .i64 1 (wu64 t_1))), (9, .int .i64 0)] := hm.keep [0, 1, 2, 6, 7, 8, 9]
  refine c_block ?_
  refine c_loop (fun k_141 a w_141 => ∃ (x_122 : Int) (x_123 : Int) (x_124 : gath_Gather) (v_127 : Value) (v_129 : Value) (v_131 : Value) (v_133 : Value) (v_135 : Value) (v_137 : Value) (v_139 : Value) (N_121 : Mem) (M_125 : Mem), hocketlaw18_GathForms.L1 K x2 x0 (fun v => hocketlaw18_GathForms.J1 K t_1 v) k_141 (x_122, x_123, x_124) = some r ∧ Fr 139 a [(0, .int .i64 (w64 ((Int.tmod (band .i64 x0 255) 7) + 1))), (1, .int .i64 t_1), (2, p2_0), (6, .bool false), (7, .pointer (some ⟨g_6, 0, none⟩)), (8, .int .i64 x_122), (9, .int .i64 x_123)] ∧ Sep w0 w_141 [N_121, Mem.one g_6 (.cells ([.int .i64 x_124.n, .int .i64 x_124.id, .int .i64 x_124.v, v_127, .int .i64 x_124.come, .int .i64 x_124.ready, .int .i64 x_124.commit.Kind, .int .i64 x_124.commit.From, .int .i64 x_124.commit.To, .int .i64 x_124.commit.View, .int .i64 x_124.commit.Inst, .int .i64 x_124.commit.Len, .bool x_124.commit.Has, .int .i64 x_124.commit.Members, .int .i64 x_124.commit.Source, .int .i64 x_124.commit.At, .int .i64 x_124.commit.Total, v_129, .int .i64 x_124.commit.Hop, .int .i64 x_124.commit.Seq, v_131, v_133, .int .i64 x_124.commit.Index, .int .i64 x_124.commit.Entry.Sess, .int .i64 x_124.commit.Entry.Seq, .int .i64 x_124.commit.Entry.Cmd.Kind, .int .i64 x_124.commit.Entry.Cmd.Who, v_135, v_137, v_139, .bool x_124.is] : List Value).toArray 80 (0, 0)), M_125] Z ∧ N_5.le N_121 ∧ Own k_api_Msg 29 M_125 N_121 v_127 x_124.l ∧ Rd Kd.u8 N_121 v_129 x_124.commit.Data ∧ Rd (Kd.int .i64) N_121 v_131 x_124.commit.Have ∧ Rd (Kd.int .i64) N_121 v_133 x_124.commit.Need ∧ Rd Kd.u8 N_121 v_135 x_124.commit.Entry.Cmd.Key ∧ Rd Kd.u8 N_121 v_137 x_124.commit.Entry.Cmd.Val ∧ Rd Kd.u8 N_121 v_139 x_124.commit.Entry.Cmd.Old) K ⟨shl .i64 1 (wu64 t_1), 0, (⟨t_2.1, t_2.2.1, t_2.2.2.1, t_2.2.2.2.1, t_2.2.2.2.2.1, t_2.2.2.2.2.2.1, (⟨t_2.2.2.2.2.2.2.1, t_2.2.2.2.2.2.2.2.1, t_2.2.2.2.2.2.2.2.2.1, t_2.2.2.2.2.2.2.2.2.2.1, t_2.2.2.2.2.2.2.2.2.2.2.1, t_2.2.2.2.2.2.2.2.2.2.2.2.1, t_2.2.2.2.2.2.2.2.2.2.2.2.2.1, t_2.2.2.2.2.2.2.2.2.2.2.2.2.2.1, t_2.2.2.2.2.2.2.2.2.2.2.2.2.2.2.1, t_2.2.2.2.2.2.2.2.2.2.2.2.2.2.2.2.1, t_2.2.2.2.2.2.2.2.2.2.2.2.2.2.2.2.2.1, t_2.2.2.2.2.2.2.2.2.2.2.2.2.2.2.2.2.2.1, t_2.2.2.2.2.2.2.2.2.2.2.2.2.2.2.2.2.2.2.1, t_2.2.2.2.2.2.2.2.2.2.2.2.2.2.2.2.2.2.2.2.1, t_2.2.2.2.2.2.2.2.2.2.2.2.2.2.2.2.2.2.2.2.2.1, t_2.2.2.2.2.2.2.2.2.2.2.2.2.2.2.2.2.2.2.2.2.2.1, t_2.2.2.2.2.2.2.2.2.2.2.2.2.2.2.2.2.2.2.2.2.2.2.1, (⟨t_2.2.2.2.2.2.2.2.2.2.2.2.2.2.2.2.2.2.2.2.2.2.2.2.1, t_2.2.2.2.2.2.2.2.2.2.2.2.2.2.2.2.2.2.2.2.2.2.2.2.2.1, (⟨t_2.2.2.2.2.2.2.2.2.2.2.2.2.2.2.2.2.2.2.2.2.2.2.2.2.2.1, t_2.2.2.2.2.2.2.2.2.2.2.2.2.2.2.2.2.2.2.2.2.2.2.2.2.2.2.1, t_2.2.2.2.2.2.2.2.2.2.2.2.2.2.2.2.2.2.2.2.2.2.2.2.2.2.2.2.1, t_2.2.2.2.2.2.2.2.2.2.2.2.2.2.2.2.2.2.2.2.2.2.2.2.2.2.2.2.2.1, t_2.2.2.2.2.2.2.2.2.2.2.2.2.2.2.2.2.2.2.2.2.2.2.2.2.2.2.2.2.2.1⟩ : api_Cmd)⟩ : api_Entry)⟩ : api_Msg), t_2.2.2.2.2.2.2.2.2.2.2.2.2.2.2.2.2.2.2.2.2.2.2.2.2.2.2.2.2.2.2⟩ : gath_Gather), v_7, v_11, v_13, v_15, v_17, v_19, v_21, N_5, M_9, H, hm, (Sep.sel hS [0, 1, 2] (by decide)), (Mem.le.refl _), ((hr_8.mono (Mem.un_le le_5 ln_5)).mono (Mem.le.refl _)), (hr_12.mono ln_5), (hr_14.mono ln_5), (hr_16.mono ln_5), (hr_18.mono ln_5), (hr_20.mono ln_5), (hr_22.mono ln_5)⟩ (fun a w h => by obtain ⟨_, _, _, _, _, _, _, _, _, _, _, _, H, _⟩ := h; cases (show (none : Option (Unit)) = some r from H)) ?_
  clear hm hS a H
  rintro k_141 a w_141 KL_141 hKL_141 ⟨x_122, x_123, x_124, v_127, v_129, v_131, v_133, v_135, v_137, v_139, N_121, M_125, H, hm, hS, le_121, ho_128, hr_130, hr_132, hr_134, hr_136, hr_138, hr_140⟩
  replace H : hocketlaw18_GathForms.B1 K x2 x0 (fun v => hocketlaw18_GathForms.J1 K t_1 v) (hocketlaw18_GathForms.L1 K x2 x0 (fun v => hocketlaw18_GathForms.J1 K t_1 v) k_141) x_122 x_123 x_124 = some r := H
  unfold hocketlaw18_GathForms.B1 at H
  refine c_seq fun KJ_143 hKJ_143 => ?_
  refine c_seq fun KJ_144 hKJ_144 => ?_
  have hJ_j_148 : ∀ (x_146 : Bool), hocketlaw18_GathForms.J2 K x2 x_123 x0 x_124 (hocketlaw18_GathForms.L1 K x2 x0 (fun v => hocketlaw18_GathForms.J1 K t_1 v) k_141) x_122 (fun v => hocketlaw18_GathForms.J1 K t_1 v) x_146 = some r → ∀ (a : Act) (w_147 : World), (∃ (N_145 : Mem), Fr 139 a [(0, .int .i64 (w64 ((Int.tmod (band .i64 x0 255) 7) + 1))), (1, .int .i64 t_1), (2, p2_0), (6, .bool false), (7, .pointer (some ⟨g_6, 0, none⟩)), (8, .int .i64 x_122), (9, .int .i64 x_123), (40, .bool x_146)] ∧ Sep w0 w_147 [N_145, Mem.one g_6 (.cells ([.int .i64 x_124.n, .int .i64 x_124.id, .int .i64 x_124.v, v_127, .int .i64 x_124.come, .int .i64 x_124.ready, .int .i64 x_124.commit.Kind, .int .i64 x_124.commit.From, .int .i64 x_124.commit.To, .int .i64 x_124.commit.View, .int .i64 x_124.commit.Inst, .int .i64 x_124.commit.Len, .bool x_124.commit.Has, .int .i64 x_124.commit.Members, .int .i64 x_124.commit.Source, .int .i64 x_124.commit.At, .int .i64 x_124.commit.Total, v_129, .int .i64 x_124.commit.Hop, .int .i64 x_124.commit.Seq, v_131, v_133, .int .i64 x_124.commit.Index, .int .i64 x_124.commit.Entry.Sess, .int .i64 x_124.commit.Entry.Seq, .int .i64 x_124.commit.Entry.Cmd.Kind, .int .i64 x_124.commit.Entry.Cmd.Who, v_135, v_137, v_139, .bool x_124.is] : List Value).toArray 80 (0, 0)), M_125] Z ∧ N_121.le N_145) → KJ_144 a w_147 := by
    clear H hm hS a
    rintro x_146 H a w_147 ⟨N_145, hm, hS, le_145⟩
    unfold hocketlaw18_GathForms.J2 at H
    refine hKJ_144 _ _ ?_
    by_cases hc_149 : x_146 = true
    · rw [if_pos hc_149] at H
      refine c_cond_t hm rfl hc_149 ?_
      refine wp_skip ?_
      refine x_then_n (hKJ_143 _ _ ?_)
      refine c_seq fun KJ_150 hKJ_150 => ?_
      refine c_block ?_
      refine c_seq fun KJ_151 hKJ_151 => ?_
      refine h_begin (S := fun w => Sep w0 w [N_145, Mem.one g_6 (.cells ([.int .i64 x_124.n, .int .i64 x_124.id, .int .i64 x_124.v, v_127, .int .i64 x_124.come, .int .i64 x_124.ready, .int .i64 x_124.commit.Kind, .int .i64 x_124.commit.From, .int .i64 x_124.commit.To, .int .i64 x_124.commit.View, .int .i64 x_124.commit.Inst, .int .i64 x_124.commit.Len, .bool x_124.commit.Has, .int .i64 x_124.commit.Members, .int .i64 x_124.commit.Source, .int .i64 x_124.commit.At, .int .i64 x_124.commit.Total, v_129, .int .i64 x_124.commit.Hop, .int .i64 x_124.commit.Seq, v_131, v_133, .int .i64 x_124.commit.Index, .int .i64 x_124.commit.Entry.Sess, .int .i64 x_124.commit.Entry.Seq, .int .i64 x_124.commit.Entry.Cmd.Kind, .int .i64 x_124.commit.Entry.Cmd.Who, v_135, v_137, v_139, .bool x_124.is] : List Value).toArray 80 (0, 0)), M_125] Z) 16 (by kernel_rfl) rfl [false, false, false, false, false, false, false, false, false, false, false, false, false, false, false, false].toArray rfl hS fun w_152 hS => ?_
      replace hS : Sep w0 w_152 [N_145, Mem.one g_6 (.cells ([.int .i64 x_124.n, .int .i64 x_124.id, .int .i64 x_124.v, v_127, .int .i64 x_124.come, .int .i64 x_124.ready, .int .i64 x_124.commit.Kind, .int .i64 x_124.commit.From, .int .i64 x_124.commit.To, .int .i64 x_124.commit.View, .int .i64 x_124.commit.Inst, .int .i64 x_124.commit.Len, .bool x_124.commit.Has, .int .i64 x_124.commit.Members, .int .i64 x_124.commit.Source, .int .i64 x_124.commit.At, .int .i64 x_124.commit.Total, v_129, .int .i64 x_124.commit.Hop, .int .i64 x_124.commit.Seq, v_131, v_133, .int .i64 x_124.commit.Index, .int .i64 x_124.commit.Entry.Sess, .int .i64 x_124.commit.Entry.Seq, .int .i64 x_124.commit.Entry.Cmd.Kind, .int .i64 x_124.commit.Entry.Cmd.Who, v_135, v_137, v_139, .bool x_124.is] : List Value).toArray 80 (0, 0)), M_125] Z := hS
      refine h_take 0 [true, false, false, false, false, false, false, false, false, false, false, false, false, false, false, false].toArray rfl (by kernel_rfl) (by kernel_rfl) (by kernel_rfl) (fun _ _ _ _ h => h) rfl rfl rfl rfl hm (hS.sub (.cons (Mem.le.refl _) (.cons (Mem.le.refl _) (.cons (Mem.le.refl _) (Sub.nil _))))) (v := p2_0) (fun w hS => r_move hm rfl) ?_
      clear hm a; intro a hm
      refine h_take 1 [true, true, false, false, false, false, false, false, false, false, false, false, false, false, false, false].toArray rfl (by kernel_rfl) (by kernel_rfl) (by kernel_rfl) (fun _ _ _ _ h => h) rfl rfl rfl rfl hm (hS.sub (.cons (Mem.le.refl _) (.cons (Mem.le.refl _) (.cons (Mem.le.refl _) (Sub.nil _))))) (v := .int .i64 x_123) (fun w hS => r_move hm rfl) ?_
      clear hm a; intro a hm
      obtain ⟨t_153, et_153, H⟩ := Option.bind_eq_some_iff.1 H
      refine h_takeE 2 [true, true, true, false, false, false, false, false, false, false, false, false, false, false, false, false].toArray rfl (by kernel_rfl) (by kernel_rfl) (by kernel_rfl) (fun _ _ _ _ h => h) rfl rfl rfl rfl hm (hS.sub (.cons (Mem.le.refl _) (.cons (Mem.le.refl _) (.cons (Mem.le.refl _) (Sub.nil _))))) (f := fun ad => .pointer (some ad)) (r_index hm Try.underlying23 ti3 rfl rfl rfl hp2_0 et_153) ?_
      rintro ad_154 ⟨cs_155, hk_156, hc_157⟩
      obtain rfl := (show cs_155 = [.int .i64 t_153] from hk_156)
      clear hm a; intro a hm
      refine h_take 3 [true, true, true, true, false, false, false, false, false, false, false, false, false, false, false, false].toArray rfl (by kernel_rfl) (by kernel_rfl) (by kernel_rfl) (fun _ _ _ _ h => h) rfl rfl rfl rfl hm (hS.sub (.cons (Mem.le.refl _) (.cons (Mem.le.refl _) (.cons (Mem.le.refl _) (Sub.nil _))))) (v := .int .i64 t_153) (fun w hS => r_load hm rfl (el_one (o := 0) (fun j c h => Mem.cell_le (hA.trans hS.old) (hc_157 j c h)) Try.underlying3 rfl rfl)) ?_
      clear hm a; intro a hm
      refine h_take 4 [true, true, true, true, true, false, false, false, false, false, false, false, false, false, false, false].toArray rfl (by kernel_rfl) (by kernel_rfl) (by kernel_rfl) (fun _ _ _ _ h => h) rfl rfl rfl rfl hm (hS.sub (.cons (Mem.le.refl _) (.cons (Mem.le.refl _) (.cons (Mem.le.refl _) (Sub.nil _))))) (v := .int .i64 (band .i64 t_153 15)) (fun w hS => r_bits (i := t_153) (j := 15) (r := band .i64 t_153 15) hm rfl rfl (.inl ⟨rfl, rfl⟩)) ?_
      clear hm a; intro a hm
      refine h_take 5 [true, true, true, true, true, true, false, false, false, false, false, false, false, false, false, false].toArray rfl (by kernel_rfl) (by kernel_rfl) (by kernel_rfl) (fun _ _ _ _ h => h) rfl rfl rfl rfl hm (hS.sub (.cons (Mem.le.refl _) (.cons (Mem.le.refl _) (.cons (Mem.le.refl _) (Sub.nil _))))) (v := .int .i64 (w64 ((band .i64 t_153 15) - 4))) (fun w hS => r_arith (r := w64 ((band .i64 t_153 15) - 4)) hm rfl rfl (.inr (.inl ⟨rfl, rfl⟩))) ?_
      clear hm a; intro a hm
      refine h_take 6 [true, true, true, true, true, true, true, false, false, false, false, false, false, false, false, false].toArray rfl (by kernel_rfl) (by kernel_rfl) (by kernel_rfl) (fun _ _ _ _ h => h) rfl rfl rfl rfl hm (hS.sub (.cons (Mem.le.refl _) (.cons (Mem.le.refl _) (.cons (Mem.le.refl _) (Sub.nil _))))) (v := p2_0) (fun w hS => r_move hm rfl) ?_
      clear hm a; intro a hm
      refine h_take 7 [true, true, true, true, true, true, true, true, false, false, false, false, false, false, false, false].toArray rfl (by kernel_rfl) (by kernel_rfl) (by kernel_rfl) (fun _ _ _ _ h => h) rfl rfl rfl rfl hm (hS.sub (.cons (Mem.le.refl _) (.cons (Mem.le.refl _) (.cons (Mem.le.refl _) (Sub.nil _))))) (v := .int .i64 x_123) (fun w hS => r_move hm rfl) ?_
      clear hm a; intro a hm
      obtain ⟨t_158, et_158, H⟩ := Option.bind_eq_some_iff.1 H
      refine h_takeE 8 [true, true, true, true, true, true, true, true, true, false, false, false, false, false, false, false].toArray rfl (by kernel_rfl) (by kernel_rfl) (by kernel_rfl) (fun _ _ _ _ h => h) rfl rfl rfl rfl hm (hS.sub (.cons (Mem.le.refl _) (.cons (Mem.le.refl _) (.cons (Mem.le.refl _) (Sub.nil _))))) (f := fun ad => .pointer (some ad)) (r_index hm Try.underlying23 ti3 rfl rfl rfl hp2_0 et_158) ?_
      rintro ad_159 ⟨cs_160, hk_161, hc_162⟩
      obtain rfl := (show cs_160 = [.int .i64 t_158] from hk_161)
      clear hm a; intro a hm
      refine h_take 9 [true, true, true, true, true, true, true, true, true, true, false, false, false, false, false, false].toArray rfl (by kernel_rfl) (by kernel_rfl) (by kernel_rfl) (fun _ _ _ _ h => h) rfl rfl rfl rfl hm (hS.sub (.cons (Mem.le.refl _) (.cons (Mem.le.refl _) (.cons (Mem.le.refl _) (Sub.nil _))))) (v := .int .i64 t_158) (fun w hS => r_load hm rfl (el_one (o := 0) (fun j c h => Mem.cell_le (hA.trans hS.old) (hc_162 j c h)) Try.underlying3 rfl rfl)) ?_
      clear hm a; intro a hm
      refine h_take 10 [true, true, true, true, true, true, true, true, true, true, true, false, false, false, false, false].toArray rfl (by kernel_rfl) (by kernel_rfl) (by kernel_rfl) (fun _ _ _ _ h => h) rfl rfl rfl rfl hm (hS.sub (.cons (Mem.le.refl _) (.cons (Mem.le.refl _) (.cons (Mem.le.refl _) (Sub.nil _))))) (v := .int .i64 (shr .i64 t_158 4)) (fun w hS => r_shift (r := shr .i64 t_158 4) hm rfl rfl (by decide) (.inr ⟨rfl, rfl⟩)) ?_
      clear hm a; intro a hm
      refine h_take 11 [true, true, true, true, true, true, true, true, true, true, true, true, false, false, false, false].toArray rfl (by kernel_rfl) (by kernel_rfl) (by kernel_rfl) (fun _ _ _ _ h => h) rfl rfl rfl rfl hm (hS.sub (.cons (Mem.le.refl _) (.cons (Mem.le.refl _) (.cons (Mem.le.refl _) (Sub.nil _))))) (v := .int .i64 (band .i64 (shr .i64 t_158 4) 7)) (fun w hS => r_bits (i := shr .i64 t_158 4) (j := 7) (r := band .i64 (shr .i64 t_158 4) 7) hm rfl rfl (.inl ⟨rfl, rfl⟩)) ?_
      clear hm a; intro a hm
      refine h_take 12 [true, true, true, true, true, true, true, true, true, true, true, true, true, false, false, false].toArray rfl (by kernel_rfl) (by kernel_rfl) (by kernel_rfl) (fun _ _ _ _ h => h) rfl rfl rfl rfl hm (hS.sub (.cons (Mem.le.refl _) (.cons (Mem.le.refl _) (.cons (Mem.le.refl _) (Sub.nil _))))) (v := .int .i64 (w64 (Int.tdiv (band .i64 (shr .i64 t_158 4) 7) 7))) (fun w hS => r_div (r := w64 (Int.tdiv (band .i64 (shr .i64 t_158 4) 7) 7)) hm rfl rfl (by decide) (.inl ⟨rfl, rfl⟩)) ?_
      clear hm a; intro a hm
      refine h_take 13 [true, true, true, true, true, true, true, true, true, true, true, true, true, true, false, false].toArray rfl (by kernel_rfl) (by kernel_rfl) (by kernel_rfl) (fun _ _ _ _ h => h) rfl rfl rfl rfl hm (hS.sub (.cons (Mem.le.refl _) (.cons (Mem.le.refl _) (.cons (Mem.le.refl _) (Sub.nil _))))) (v := .int .i64 (w64 (9 + (w64 (Int.tdiv (band .i64 (shr .i64 t_158 4) 7) 7))))) (fun w hS => r_arith (r := w64 (9 + (w64 (Int.tdiv (band .i64 (shr .i64 t_158 4) 7) 7)))) hm rfl rfl (.inl ⟨rfl, rfl⟩)) ?_
      clear hm a; intro a hm
      refine h_take 14 [true, true, true, true, true, true, true, true, true, true, true, true, true, true, true, false].toArray rfl (by kernel_rfl) (by kernel_rfl) (by kernel_rfl) (fun _ _ _ _ h => h) rfl rfl rfl rfl hm (hS.sub (.cons (Mem.le.refl _) (.cons (Mem.le.refl _) (.cons (Mem.le.refl _) (Sub.nil _))))) (v := .int .i64 (w64 ((band .i64 t_153 15) - 4))) (fun w hS => r_assign hm rfl) ?_
      clear hm a; intro a hm
      refine h_take 15 [true, true, true, true, true, true, true, true, true, true, true, true, true, true, true, true].toArray rfl (by kernel_rfl) (by kernel_rfl) (by kernel_rfl) (fun _ _ _ _ h => h) rfl rfl rfl rfl hm (hS.sub (.cons (Mem.le.refl _) (.cons (Mem.le.refl _) (.cons (Mem.le.refl _) (Sub.nil _))))) (v := .int .i64 (w64 (9 + (w64 (Int.tdiv (band .i64 (shr .i64 t_158 4) 7) 7))))) (fun w hS => r_assign hm rfl) ?_
      clear hm a; intro a hm
      refine h_done (by kernel_rfl) ?_
      replace hm : Fr 139 a [(0, .int .i64 (w64 ((Int.tmod (band .i64 x0 255) 7) + 1))), (1, .int .i64 t_1), (2, p2_0), (6, .bool false), (7, .pointer (some ⟨g_6, 0, none⟩)), (8, .int .i64 x_122), (9, .int .i64 x_123), (10, .int .i64 (w64 ((band .i64 t_153 15) - 4))), (11, .int .i64 (w64 (9 + (w64 (Int.tdiv (band .i64 (shr .i64 t_158 4) 7) 7)))))] := hm.keep [0, 1, 2, 6, 7, 8, 9, 10, 11]
      refine x_then_n (hKJ_151 _ _ ?_)
      refine c_seq fun KJ_163 hKJ_163 => ?_
      have hJ_j_167 : ∀ (x_165 : Bool), hocketlaw18_GathForms.J3 K x_124 t_153 t_158 x0 (hocketlaw18_GathForms.L1 K x2 x0 (fun v => hocketlaw18_GathForms.J1 K t_1 v) k_141) x_123 x_122 x_165 = some r → ∀ (a : Act) (w_166 : World), (∃ (N_164 : Mem), Fr 139 a [(0, .int .i64 (w64 ((Int.tmod (band .i64 x0 255) 7) + 1))), (1, .int .i64 t_1), (2, p2_0), (6, .bool false), (7, .pointer (some ⟨g_6, 0, none⟩)), (8, .int .i64 x_122), (9, .int .i64 x_123), (10, .int .i64 (w64 ((band .i64 t_153 15) - 4))), (11, .int .i64 (w64 (9 + (w64 (Int.tdiv (band .i64 (shr .i64 t_158 4) 7) 7))))), (12, .bool x_165)] ∧ Sep w0 w_166 [N_164, Mem.one g_6 (.cells ([.int .i64 x_124.n, .int .i64 x_124.id, .int .i64 x_124.v, v_127, .int .i64 x_124.come, .int .i64 x_124.ready, .int .i64 x_124.commit.Kind, .int .i64 x_124.commit.From, .int .i64 x_124.commit.To, .int .i64 x_124.commit.View, .int .i64 x_124.commit.Inst, .int .i64 x_124.commit.Len, .bool x_124.commit.Has, .int .i64 x_124.commit.Members, .int .i64 x_124.commit.Source, .int .i64 x_124.commit.At, .int .i64 x_124.commit.Total, v_129, .int .i64 x_124.commit.Hop, .int .i64 x_124.commit.Seq, v_131, v_133, .int .i64 x_124.commit.Index, .int .i64 x_124.commit.Entry.Sess, .int .i64 x_124.commit.Entry.Seq, .int .i64 x_124.commit.Entry.Cmd.Kind, .int .i64 x_124.commit.Entry.Cmd.Who, v_135, v_137, v_139, .bool x_124.is] : List Value).toArray 80 (0, 0)), M_125] Z ∧ N_145.le N_164) → KJ_163 a w_166 := by
        clear H hm hS a
        rintro x_165 H a w_166 ⟨N_164, hm, hS, le_164⟩
        unfold hocketlaw18_GathForms.J3 at H
        refine hKJ_163 _ _ ?_
        refine c_seq fun KJ_168 hKJ_168 => ?_
        refine wp_seq ?_
        refine wp_region_lit ?_
        refine s_move hm rfl rfl ?_
        clear hm a; intro a hm
        refine s_move hm rfl rfl ?_
        clear hm a; intro a hm
        refine s_move hm rfl rfl ?_
        clear hm a; intro a hm
        refine s_build hm rfl ti29 pl29 rfl (.cons rfl (.cons rfl (.cons rfl .nil))) (cs := [.int .i64 2, .int .i64 (w64 ((band .i64 t_153 15) - 4)), .int .i64 0, .int .i64 (w64 (9 + (w64 (Int.tdiv (band .i64 (shr .i64 t_158 4) 7) 7)))), .int .i64 0, .int .i64 0, .bool false, .int .i64 0, .int .i64 0, .int .i64 0, .int .i64 0, .slice none 0 0, .int .i64 0, .int .i64 0, .slice none 0 0, .slice none 0 0, .int .i64 0, .int .i64 0, .int .i64 0, .int .i64 0, .int .i64 0, .slice none 0 0, .slice none 0 0, .slice none 0 0]) rfl ?_
        clear hm a; intro a hm
        obtain ⟨t_169, et_169, H⟩ := Option.bind_eq_some_iff.1 H
        refine s_call hm rfl Try.call42 rfl (gath_Gather_Take.calls _ x_124.n x_124.id x_124.v x_124.l _ _ x_124.come x_124.ready x_124.commit.Kind x_124.commit.From x_124.commit.To x_124.commit.View x_124.commit.Inst x_124.commit.Len x_124.commit.Has x_124.commit.Members x_124.commit.Source x_124.commit.At x_124.commit.Total x_124.commit.Data _ x_124.commit.Hop x_124.commit.Seq x_124.commit.Have _ x_124.commit.Need _ x_124.commit.Index x_124.commit.Entry.Sess x_124.commit.Entry.Seq x_124.commit.Entry.Cmd.Kind x_124.commit.Entry.Cmd.Who x_124.commit.Entry.Cmd.Key _ x_124.commit.Entry.Cmd.Val _ x_124.commit.Entry.Cmd.Old _ x_124.is (⟨2, w64 ((band .i64 t_153 15) - 4), 0, w64 (9 + (w64 (Int.tdiv (band .i64 (shr .i64 t_158 4) 7) 7))), 0, 0, false, 0, 0, 0, 0, ([] : List UInt8), 0, 0, ([] : List Int), ([] : List Int), 0, (⟨0, 0, (⟨0, 0, ([] : List UInt8), ([] : List UInt8), ([] : List UInt8)⟩ : api_Cmd)⟩ : api_Entry)⟩ : api_Msg) _ _ _ _ _ _ t_169 w0 _ _ N_164 (hS.new_zed [0, 1]) (hS.enter [0, 1] (by decide)) (ho_128.mono (le_145.trans le_164)) (hr_130.mono (le_145.trans le_164)) (hr_132.mono (le_145.trans le_164)) (hr_134.mono (le_145.trans le_164)) (hr_136.mono (le_145.trans le_164)) (hr_138.mono (le_145.trans le_164)) (hr_140.mono (le_145.trans le_164)) (Rd.nil _ _) (Rd.nil _ _) (Rd.nil _ _) (Rd.nil _ _) (Rd.nil _ _) (Rd.nil _ _) et_169) ?_
        rintro _ w_170 ⟨v_173, v_177, v_179, v_181, v_183, v_185, v_187, N_171, M_175, rfl, hS', hr_174, hr_178, hr_180, hr_182, hr_184, hr_186, hr_188⟩
        clear hm a; intro a hm
        obtain ⟨N_172, hS'', le_172, ln_172⟩ := hS.call [0, 1] (by decide) rfl (l' := [Mem.one g_6 (.cells ([.int .i64 t_169.2.1, .int .i64 t_169.2.2.1, .int .i64 t_169.2.2.2.1, v_173, .int .i64 t_169.2.2.2.2.2.1, .int .i64 t_169.2.2.2.2.2.2.1, .int .i64 t_169.2.2.2.2.2.2.2.1, .int .i64 t_169.2.2.2.2.2.2.2.2.1, .int .i64 t_169.2.2.2.2.2.2.2.2.2.1, .int .i64 t_169.2.2.2.2.2.2.2.2.2.2.1, .int .i64 t_169.2.2.2.2.2.2.2.2.2.2.2.1, .int .i64 t_169.2.2.2.2.2.2.2.2.2.2.2.2.1, .bool t_169.2.2.2.2.2.2.2.2.2.2.2.2.2.1, .int .i64 t_169.2.2.2.2.2.2.2.2.2.2.2.2.2.2.1, .int .i64 t_169.2.2.2.2.2.2.2.2.2.2.2.2.2.2.2.1, .int .i64 t_169.2.2.2.2.2.2.2.2.2.2.2.2.2.2.2.2.1, .int .i64 t_169.2.2.2.2.2.2.2.2.2.2.2.2.2.2.2.2.2.1, v_177, .int .i64 t_169.2.2.2.2.2.2.2.2.2.2.2.2.2.2.2.2.2.2.2.1, .int .i64 t_169.2.2.2.2.2.2.2.2.2.2.2.2.2.2.2.2.2.2.2.2.1, v_179, v_181, .int .i64 t_169.2.2.2.2.2.2.2.2.2.2.2.2.2.2.2.2.2.2.2.2.2.2.2.1, .int .i64 t_169.2.2.2.2.2.2.2.2.2.2.2.2.2.2.2.2.2.2.2.2.2.2.2.2.1, .int .i64 t_169.2.2.2.2.2.2.2.2.2.2.2.2.2.2.2.2.2.2.2.2.2.2.2.2.2.1, .int .i64 t_169.2.2.2.2.2.2.2.2.2.2.2.2.2.2.2.2.2.2.2.2.2.2.2.2.2.2.1, .int .i64 t_169.2.2.2.2.2.2.2.2.2.2.2.2.2.2.2.2.2.2.2.2.2.2.2.2.2.2.2.1, v_183, v_185, v_187, .bool t_169.2.2.2.2.2.2.2.2.2.2.2.2.2.2.2.2.2.2.2.2.2.2.2.2.2.2.2.2.2.2.2] : List Value).toArray 80 (0, 0)), M_175]) (ow := []) rfl hS'
        replace hS : Sep w0 w_170 [N_172, Mem.one g_6 (.cells ([.int .i64 t_169.2.1, .int .i64 t_169.2.2.1, .int .i64 t_169.2.2.2.1, v_173, .int .i64 t_169.2.2.2.2.2.1, .int .i64 t_169.2.2.2.2.2.2.1, .int .i64 t_169.2.2.2.2.2.2.2.1, .int .i64 t_169.2.2.2.2.2.2.2.2.1, .int .i64 t_169.2.2.2.2.2.2.2.2.2.1, .int .i64 t_169.2.2.2.2.2.2.2.2.2.2.1, .int .i64 t_169.2.2.2.2.2.2.2.2.2.2.2.1, .int .i64 t_169.2.2.2.2.2.2.2.2.2.2.2.2.1, .bool t_169.2.2.2.2.2.2.2.2.2.2.2.2.2.1, .int .i64 t_169.2.2.2.2.2.2.2.2.2.2.2.2.2.2.1, .int .i64 t_169.2.2.2.2.2.2.2.2.2.2.2.2.2.2.2.1, .int .i64 t_169.2.2.2.2.2.2.2.2.2.2.2.2.2.2.2.2.1, .int .i64 t_169.2.2.2.2.2.2.2.2.2.2.2.2.2.2.2.2.2.1, v_177, .int .i64 t_169.2.2.2.2.2.2.2.2.2.2.2.2.2.2.2.2.2.2.2.1, .int .i64 t_169.2.2.2.2.2.2.2.2.2.2.2.2.2.2.2.2.2.2.2.2.1, v_179, v_181, .int .i64 t_169.2.2.2.2.2.2.2.2.2.2.2.2.2.2.2.2.2.2.2.2.2.2.2.1, .int .i64 t_169.2.2.2.2.2.2.2.2.2.2.2.2.2.2.2.2.2.2.2.2.2.2.2.2.1, .int .i64 t_169.2.2.2.2.2.2.2.2.2.2.2.2.2.2.2.2.2.2.2.2.2.2.2.2.2.1, .int .i64 t_169.2.2.2.2.2.2.2.2.2.2.2.2.2.2.2.2.2.2.2.2.2.2.2.2.2.2.1, .int .i64 t_169.2.2.2.2.2.2.2.2.2.2.2.2.2.2.2.2.2.2.2.2.2.2.2.2.2.2.2.1, v_183, v_185, v_187, .bool t_169.2.2.2.2.2.2.2.2.2.2.2.2.2.2.2.2.2.2.2.2.2.2.2.2.2.2.2.2.2.2.2] : List Value).toArray 80 (0, 0)), M_175] Z := hS''
        clear hS' hS''
        refine s_move hm rfl rfl ?_
        clear hm a; intro a hm
        refine s_beq (b := !(t_169.1 == x_165)) hm rfl Try.underlying4 rfl rfl (.inr ⟨rfl, rfl⟩) ?_
        clear hm a; intro a hm
        refine wpList_nil ?_
        replace hm : Fr 139 a [(0, .int .i64 (w64 ((Int.tmod (band .i64 x0 255) 7) + 1))), (1, .int .i64 t_1), (2, p2_0), (6, .bool false), (7, .pointer (some ⟨g_6, 0, none⟩)), (8, .int .i64 x_122), (9, .int .i64 x_123), (10, .int .i64 (w64 ((band .i64 t_153 15) - 4))), (12, .bool x_165), (83, .bool (!(t_169.1 == x_165)))] := hm.keep [0, 1, 2, 6, 7, 8, 9, 10, 12, 83]
        refine x_then_n ?_
        by_cases hc_189 : t_169.1 = x_165
        · rw [if_pos hc_189] at H
          refine c_cond_f hm rfl (nf (beq_iff_eq.2 hc_189)) ?_
          refine wp_skip ?_
          refine x_then_n (hKJ_168 _ _ ?_)
          refine c_seq fun KJ_190 hKJ_190 => ?_
          refine wp_seq ?_
          refine wp_region_lit ?_
          refine s_move hm rfl rfl ?_
          clear hm a; intro a hm
          refine wpList_nil ?_
          replace hm : Fr 139 a [(0, .int .i64 (w64 ((Int.tmod (band .i64 x0 255) 7) + 1))), (1, .int .i64 t_1), (2, p2_0), (6, .bool false), (7, .pointer (some ⟨g_6, 0, none⟩)), (8, .int .i64 x_122), (9, .int .i64 x_123), (10, .int .i64 (w64 ((band .i64 t_153 15) - 4))), (84, .bool x_165)] := hm.keep [0, 1, 2, 6, 7, 8, 9, 10, 84]
          refine x_then_n ?_
          have hJ_j_194 : ∀ (x_192 : Int), hocketlaw18_GathForms.J4 K t_169 x0 (hocketlaw18_GathForms.L1 K x2 x0 (fun v => hocketlaw18_GathForms.J1 K t_1 v) k_141) x_123 x_192 = some r → ∀ (a : Act) (w_193 : World), (∃ (N_191 : Mem), Fr 139 a [(0, .int .i64 (w64 ((Int.tmod (band .i64 x0 255) 7) + 1))), (1, .int .i64 t_1), (2, p2_0), (6, .bool false), (7, .pointer (some ⟨g_6, 0, none⟩)), (8, .int .i64 x_192), (9, .int .i64 x_123)] ∧ Sep w0 w_193 [N_191, Mem.one g_6 (.cells ([.int .i64 t_169.2.1, .int .i64 t_169.2.2.1, .int .i64 t_169.2.2.2.1, v_173, .int .i64 t_169.2.2.2.2.2.1, .int .i64 t_169.2.2.2.2.2.2.1, .int .i64 t_169.2.2.2.2.2.2.2.1, .int .i64 t_169.2.2.2.2.2.2.2.2.1, .int .i64 t_169.2.2.2.2.2.2.2.2.2.1, .int .i64 t_169.2.2.2.2.2.2.2.2.2.2.1, .int .i64 t_169.2.2.2.2.2.2.2.2.2.2.2.1, .int .i64 t_169.2.2.2.2.2.2.2.2.2.2.2.2.1, .bool t_169.2.2.2.2.2.2.2.2.2.2.2.2.2.1, .int .i64 t_169.2.2.2.2.2.2.2.2.2.2.2.2.2.2.1, .int .i64 t_169.2.2.2.2.2.2.2.2.2.2.2.2.2.2.2.1, .int .i64 t_169.2.2.2.2.2.2.2.2.2.2.2.2.2.2.2.2.1, .int .i64 t_169.2.2.2.2.2.2.2.2.2.2.2.2.2.2.2.2.2.1, v_177, .int .i64 t_169.2.2.2.2.2.2.2.2.2.2.2.2.2.2.2.2.2.2.2.1, .int .i64 t_169.2.2.2.2.2.2.2.2.2.2.2.2.2.2.2.2.2.2.2.2.1, v_179, v_181, .int .i64 t_169.2.2.2.2.2.2.2.2.2.2.2.2.2.2.2.2.2.2.2.2.2.2.2.1, .int .i64 t_169.2.2.2.2.2.2.2.2.2.2.2.2.2.2.2.2.2.2.2.2.2.2.2.2.1, .int .i64 t_169.2.2.2.2.2.2.2.2.2.2.2.2.2.2.2.2.2.2.2.2.2.2.2.2.2.1, .int .i64 t_169.2.2.2.2.2.2.2.2.2.2.2.2.2.2.2.2.2.2.2.2.2.2.2.2.2.2.1, .int .i64 t_169.2.2.2.2.2.2.2.2.2.2.2.2.2.2.2.2.2.2.2.2.2.2.2.2.2.2.2.1, v_183, v_185, v_187, .bool t_169.2.2.2.2.2.2.2.2.2.2.2.2.2.2.2.2.2.2.2.2.2.2.2.2.2.2.2.2.2.2.2] : List Value).toArray 80 (0, 0)), M_175] Z ∧ N_172.le N_191) → KJ_190 a w_193 := by
            clear H hm hS a
            rintro x_192 H a w_193 ⟨N_191, hm, hS, le_191⟩
            unfold hocketlaw18_GathForms.J4 at H
            refine hKJ_190 _ _ ?_
            refine c_seq fun KJ_195 hKJ_195 => ?_
            have hJ_j_199 : ∀ (x_197 : Bool), hocketlaw18_GathForms.J5 K (hocketlaw18_GathForms.L1 K x2 x0 (fun v => hocketlaw18_GathForms.J1 K t_1 v) k_141) x_192 x_123 t_169 x_197 = some r → ∀ (a : Act) (w_198 : World), (∃ (N_196 : Mem), Fr 139 a [(0, .int .i64 (w64 ((Int.tmod (band .i64 x0 255) 7) + 1))), (1, .int .i64 t_1), (2, p2_0), (6, .bool false), (7, .pointer (some ⟨g_6, 0, none⟩)), (8, .int .i64 x_192), (9, .int .i64 x_123), (111, .bool x_197)] ∧ Sep w0 w_198 [N_196, Mem.one g_6 (.cells ([.int .i64 t_169.2.1, .int .i64 t_169.2.2.1, .int .i64 t_169.2.2.2.1, v_173, .int .i64 t_169.2.2.2.2.2.1, .int .i64 t_169.2.2.2.2.2.2.1, .int .i64 t_169.2.2.2.2.2.2.2.1, .int .i64 t_169.2.2.2.2.2.2.2.2.1, .int .i64 t_169.2.2.2.2.2.2.2.2.2.1, .int .i64 t_169.2.2.2.2.2.2.2.2.2.2.1, .int .i64 t_169.2.2.2.2.2.2.2.2.2.2.2.1, .int .i64 t_169.2.2.2.2.2.2.2.2.2.2.2.2.1, .bool t_169.2.2.2.2.2.2.2.2.2.2.2.2.2.1, .int .i64 t_169.2.2.2.2.2.2.2.2.2.2.2.2.2.2.1, .int .i64 t_169.2.2.2.2.2.2.2.2.2.2.2.2.2.2.2.1, .int .i64 t_169.2.2.2.2.2.2.2.2.2.2.2.2.2.2.2.2.1, .int .i64 t_169.2.2.2.2.2.2.2.2.2.2.2.2.2.2.2.2.2.1, v_177, .int .i64 t_169.2.2.2.2.2.2.2.2.2.2.2.2.2.2.2.2.2.2.2.1, .int .i64 t_169.2.2.2.2.2.2.2.2.2.2.2.2.2.2.2.2.2.2.2.2.1, v_179, v_181, .int .i64 t_169.2.2.2.2.2.2.2.2.2.2.2.2.2.2.2.2.2.2.2.2.2.2.2.1, .int .i64 t_169.2.2.2.2.2.2.2.2.2.2.2.2.2.2.2.2.2.2.2.2.2.2.2.2.1, .int .i64 t_169.2.2.2.2.2.2.2.2.2.2.2.2.2.2.2.2.2.2.2.2.2.2.2.2.2.1, .int .i64 t_169.2.2.2.2.2.2.2.2.2.2.2.2.2.2.2.2.2.2.2.2.2.2.2.2.2.2.1, .int .i64 t_169.2.2.2.2.2.2.2.2.2.2.2.2.2.2.2.2.2.2.2.2.2.2.2.2.2.2.2.1, v_183, v_185, v_187, .bool t_169.2.2.2.2.2.2.2.2.2.2.2.2.2.2.2.2.2.2.2.2.2.2.2.2.2.2.2.2.2.2.2] : List Value).toArray 80 (0, 0)), M_175] Z ∧ N_191.le N_196) → KJ_195 a w_198 := by
              clear H hm hS a
              rintro x_197 H a w_198 ⟨N_196, hm, hS, le_196⟩
              unfold hocketlaw18_GathForms.J5 at H
              refine hKJ_195 _ _ ?_
              by_cases hc_200 : x_197 = true
              · rw [if_pos hc_200] at H
                cases H
              · rw [if_neg hc_200] at H
                refine c_cond_f hm rfl (Bool.eq_false_iff.2 hc_200) ?_
                refine wp_skip ?_
                refine x_block_n ?_
                refine x_then_n (hKJ_150 _ _ ?_)
                refine wp_region_lit ?_
                refine s_move hm rfl rfl ?_
                clear hm a; intro a hm
                refine s_arith (r := w64 (x_123 + 1)) hm rfl rfl rfl (.inl ⟨rfl, rfl⟩) ?_
                clear hm a; intro a hm
                refine s_assign hm rfl rfl ?_
                clear hm a; intro a hm
                refine wpList_nil ?_
                replace hm : Fr 139 a [(0, .int .i64 (w64 ((Int.tmod (band .i64 x0 255) 7) + 1))), (1, .int .i64 t_1), (2, p2_0), (6, .bool false), (7, .pointer (some ⟨g_6, 0, none⟩)), (8, .int .i64 x_192), (9, .int .i64 (w64 (x_123 + 1)))] := hm.keep [0, 1, 2, 6, 7, 8, 9]
                refine x_then_n (hKL_141 _ _ ?_)
                replace hS : Sep w0 w_198 [N_196, Mem.one g_6 (.cells ([.int .i64 t_169.2.1, .int .i64 t_169.2.2.1, .int .i64 t_169.2.2.2.1, v_173, .int .i64 t_169.2.2.2.2.2.1, .int .i64 t_169.2.2.2.2.2.2.1, .int .i64 t_169.2.2.2.2.2.2.2.1, .int .i64 t_169.2.2.2.2.2.2.2.2.1, .int .i64 t_169.2.2.2.2.2.2.2.2.2.1, .int .i64 t_169.2.2.2.2.2.2.2.2.2.2.1, .int .i64 t_169.2.2.2.2.2.2.2.2.2.2.2.1, .int .i64 t_169.2.2.2.2.2.2.2.2.2.2.2.2.1, .bool t_169.2.2.2.2.2.2.2.2.2.2.2.2.2.1, .int .i64 t_169.2.2.2.2.2.2.2.2.2.2.2.2.2.2.1, .int .i64 t_169.2.2.2.2.2.2.2.2.2.2.2.2.2.2.2.1, .int .i64 t_169.2.2.2.2.2.2.2.2.2.2.2.2.2.2.2.2.1, .int .i64 t_169.2.2.2.2.2.2.2.2.2.2.2.2.2.2.2.2.2.1, v_177, .int .i64 t_169.2.2.2.2.2.2.2.2.2.2.2.2.2.2.2.2.2.2.2.1, .int .i64 t_169.2.2.2.2.2.2.2.2.2.2.2.2.2.2.2.2.2.2.2.2.1, v_179, v_181, .int .i64 t_169.2.2.2.2.2.2.2.2.2.2.2.2.2.2.2.2.2.2.2.2.2.2.2.1, .int .i64 t_169.2.2.2.2.2.2.2.2.2.2.2.2.2.2.2.2.2.2.2.2.2.2.2.2.1, .int .i64 t_169.2.2.2.2.2.2.2.2.2.2.2.2.2.2.2.2.2.2.2.2.2.2.2.2.2.1, .int .i64 t_169.2.2.2.2.2.2.2.2.2.2.2.2.2.2.2.2.2.2.2.2.2.2.2.2.2.2.1, .int .i64 t_169.2.2.2.2.2.2.2.2.2.2.2.2.2.2.2.2.2.2.2.2.2.2.2.2.2.2.2.1, v_183, v_185, v_187, .bool t_169.2.2.2.2.2.2.2.2.2.2.2.2.2.2.2.2.2.2.2.2.2.2.2.2.2.2.2.2.2.2.2] : List Value).toArray 80 (0, 0)), M_175] Z := hS
                replace hm : Fr 139 a [(0, .int .i64 (w64 ((Int.tmod (band .i64 x0 255) 7) + 1))), (1, .int .i64 t_1), (2, p2_0), (6, .bool false), (7, .pointer (some ⟨g_6, 0, none⟩)), (8, .int .i64 x_192), (9, .int .i64 (w64 (x_123 + 1)))] := hm.keep [0, 1, 2, 6, 7, 8, 9]
                exact ⟨x_192, w64 (x_123 + 1), (⟨t_169.2.1, t_169.2.2.1, t_169.2.2.2.1, t_169.2.2.2.2.1, t_169.2.2.2.2.2.1, t_169.2.2.2.2.2.2.1, (⟨t_169.2.2.2.2.2.2.2.1, t_169.2.2.2.2.2.2.2.2.1, t_169.2.2.2.2.2.2.2.2.2.1, t_169.2.2.2.2.2.2.2.2.2.2.1, t_169.2.2.2.2.2.2.2.2.2.2.2.1, t_169.2.2.2.2.2.2.2.2.2.2.2.2.1, t_169.2.2.2.2.2.2.2.2.2.2.2.2.2.1, t_169.2.2.2.2.2.2.2.2.2.2.2.2.2.2.1, t_169.2.2.2.2.2.2.2.2.2.2.2.2.2.2.2.1, t_169.2.2.2.2.2.2.2.2.2.2.2.2.2.2.2.2.1, t_169.2.2.2.2.2.2.2.2.2.2.2.2.2.2.2.2.2.1, t_169.2.2.2.2.2.2.2.2.2.2.2.2.2.2.2.2.2.2.1, t_169.2.2.2.2.2.2.2.2.2.2.2.2.2.2.2.2.2.2.2.1, t_169.2.2.2.2.2.2.2.2.2.2.2.2.2.2.2.2.2.2.2.2.1, t_169.2.2.2.2.2.2.2.2.2.2.2.2.2.2.2.2.2.2.2.2.2.1, t_169.2.2.2.2.2.2.2.2.2.2.2.2.2.2.2.2.2.2.2.2.2.2.1, t_169.2.2.2.2.2.2.2.2.2.2.2.2.2.2.2.2.2.2.2.2.2.2.2.1, (⟨t_169.2.2.2.2.2.2.2.2.2.2.2.2.2.2.2.2.2.2.2.2.2.2.2.2.1, t_169.2.2.2.2.2.2.2.2.2.2.2.2.2.2.2.2.2.2.2.2.2.2.2.2.2.1, (⟨t_169.2.2.2.2.2.2.2.2.2.2.2.2.2.2.2.2.2.2.2.2.2.2.2.2.2.2.1, t_169.2.2.2.2.2.2.2.2.2.2.2.2.2.2.2.2.2.2.2.2.2.2.2.2.2.2.2.1, t_169.2.2.2.2.2.2.2.2.2.2.2.2.2.2.2.2.2.2.2.2.2.2.2.2.2.2.2.2.1, t_169.2.2.2.2.2.2.2.2.2.2.2.2.2.2.2.2.2.2.2.2.2.2.2.2.2.2.2.2.2.1, t_169.2.2.2.2.2.2.2.2.2.2.2.2.2.2.2.2.2.2.2.2.2.2.2.2.2.2.2.2.2.2.1⟩ : api_Cmd)⟩ : api_Entry)⟩ : api_Msg), t_169.2.2.2.2.2.2.2.2.2.2.2.2.2.2.2.2.2.2.2.2.2.2.2.2.2.2.2.2.2.2.2⟩ : gath_Gather), v_173, v_177, v_179, v_181, v_183, v_185, v_187, N_196, M_175, H, hm, (Sep.sel hS [0, 1, 2] (by decide)), (le_121.trans (le_145.trans (le_164.trans (le_172.trans (le_191.trans le_196))))), ((hr_174.mono (Mem.un_le le_172 ln_172)).mono (le_191.trans le_196)), ((hr_178.mono (Mem.un_le le_172 ln_172)).mono (le_191.trans le_196)), ((hr_180.mono (Mem.un_le le_172 ln_172)).mono (le_191.trans le_196)), ((hr_182.mono (Mem.un_le le_172 ln_172)).mono (le_191.trans le_196)), ((hr_184.mono (Mem.un_le le_172 ln_172)).mono (le_191.trans le_196)), ((hr_186.mono (Mem.un_le le_172 ln_172)).mono (le_191.trans le_196)), ((hr_188.mono (Mem.un_le le_172 ln_172)).mono (le_191.trans le_196))⟩
            clear hKJ_195
            refine wp_region_lit ?_
            refine s_move hm rfl rfl ?_
            clear hm a; intro a hm
            obtain ⟨t_201, et_201, H⟩ := Option.bind_eq_some_iff.1 H
            refine s_call hm rfl Try.call43 rfl (gath_Gather_Absent.calls K _ t_169.2.1 t_169.2.2.1 t_169.2.2.2.1 t_169.2.2.2.2.1 _ t_169.2.2.2.2.2.1 t_169.2.2.2.2.2.2.1 t_169.2.2.2.2.2.2.2.1 t_169.2.2.2.2.2.2.2.2.1 t_169.2.2.2.2.2.2.2.2.2.1 t_169.2.2.2.2.2.2.2.2.2.2.1 t_169.2.2.2.2.2.2.2.2.2.2.2.1 t_169.2.2.2.2.2.2.2.2.2.2.2.2.1 t_169.2.2.2.2.2.2.2.2.2.2.2.2.2.1 t_169.2.2.2.2.2.2.2.2.2.2.2.2.2.2.1 t_169.2.2.2.2.2.2.2.2.2.2.2.2.2.2.2.1 t_169.2.2.2.2.2.2.2.2.2.2.2.2.2.2.2.2.1 t_169.2.2.2.2.2.2.2.2.2.2.2.2.2.2.2.2.2.1 t_169.2.2.2.2.2.2.2.2.2.2.2.2.2.2.2.2.2.2.1 _ t_169.2.2.2.2.2.2.2.2.2.2.2.2.2.2.2.2.2.2.2.1 t_169.2.2.2.2.2.2.2.2.2.2.2.2.2.2.2.2.2.2.2.2.1 t_169.2.2.2.2.2.2.2.2.2.2.2.2.2.2.2.2.2.2.2.2.2.1 _ t_169.2.2.2.2.2.2.2.2.2.2.2.2.2.2.2.2.2.2.2.2.2.2.1 _ t_169.2.2.2.2.2.2.2.2.2.2.2.2.2.2.2.2.2.2.2.2.2.2.2.1 t_169.2.2.2.2.2.2.2.2.2.2.2.2.2.2.2.2.2.2.2.2.2.2.2.2.1 t_169.2.2.2.2.2.2.2.2.2.2.2.2.2.2.2.2.2.2.2.2.2.2.2.2.2.1 t_169.2.2.2.2.2.2.2.2.2.2.2.2.2.2.2.2.2.2.2.2.2.2.2.2.2.2.1 t_169.2.2.2.2.2.2.2.2.2.2.2.2.2.2.2.2.2.2.2.2.2.2.2.2.2.2.2.1 t_169.2.2.2.2.2.2.2.2.2.2.2.2.2.2.2.2.2.2.2.2.2.2.2.2.2.2.2.2.1 _ t_169.2.2.2.2.2.2.2.2.2.2.2.2.2.2.2.2.2.2.2.2.2.2.2.2.2.2.2.2.2.1 _ t_169.2.2.2.2.2.2.2.2.2.2.2.2.2.2.2.2.2.2.2.2.2.2.2.2.2.2.2.2.2.2.1 _ t_169.2.2.2.2.2.2.2.2.2.2.2.2.2.2.2.2.2.2.2.2.2.2.2.2.2.2.2.2.2.2.2 t_201 w0 _ _ _ (Mem.le.refl _) (hS.enter [0] (by decide)) ((hr_174.mono (Mem.un_le le_172 ln_172)).rd (hS.own_zed [0] 1 (by decide)) (le_191.trans (hS.new_zed [0]))) ((hr_178.mono (Mem.un_le le_172 ln_172)).mono (le_191.trans (hS.new_zed [0]))) ((hr_180.mono (Mem.un_le le_172 ln_172)).mono (le_191.trans (hS.new_zed [0]))) ((hr_182.mono (Mem.un_le le_172 ln_172)).mono (le_191.trans (hS.new_zed [0]))) ((hr_184.mono (Mem.un_le le_172 ln_172)).mono (le_191.trans (hS.new_zed [0]))) ((hr_186.mono (Mem.un_le le_172 ln_172)).mono (le_191.trans (hS.new_zed [0]))) ((hr_188.mono (Mem.un_le le_172 ln_172)).mono (le_191.trans (hS.new_zed [0]))) et_201) ?_
            rintro v_205 w_202 ⟨_, N_203, M_207, rfl, hS', hr_206⟩
            clear hm a; intro a hm
            obtain ⟨N_204, hS'', le_204, ln_204⟩ := hS.call [0] (by decide) rfl (l' := [Mem.one g_6 (.cells ([.int .i64 t_169.2.1, .int .i64 t_169.2.2.1, .int .i64 t_169.2.2.2.1, v_173, .int .i64 t_169.2.2.2.2.2.1, .int .i64 t_169.2.2.2.2.2.2.1, .int .i64 t_169.2.2.2.2.2.2.2.1, .int .i64 t_169.2.2.2.2.2.2.2.2.1, .int .i64 t_169.2.2.2.2.2.2.2.2.2.1, .int .i64 t_169.2.2.2.2.2.2.2.2.2.2.1, .int .i64 t_169.2.2.2.2.2.2.2.2.2.2.2.1, .int .i64 t_169.2.2.2.2.2.2.2.2.2.2.2.2.1, .bool t_169.2.2.2.2.2.2.2.2.2.2.2.2.2.1, .int .i64 t_169.2.2.2.2.2.2.2.2.2.2.2.2.2.2.1, .int .i64 t_169.2.2.2.2.2.2.2.2.2.2.2.2.2.2.2.1, .int .i64 t_169.2.2.2.2.2.2.2.2.2.2.2.2.2.2.2.2.1, .int .i64 t_169.2.2.2.2.2.2.2.2.2.2.2.2.2.2.2.2.2.1, v_177, .int .i64 t_169.2.2.2.2.2.2.2.2.2.2.2.2.2.2.2.2.2.2.2.1, .int .i64 t_169.2.2.2.2.2.2.2.2.2.2.2.2.2.2.2.2.2.2.2.2.1, v_179, v_181, .int .i64 t_169.2.2.2.2.2.2.2.2.2.2.2.2.2.2.2.2.2.2.2.2.2.2.2.1, .int .i64 t_169.2.2.2.2.2.2.2.2.2.2.2.2.2.2.2.2.2.2.2.2.2.2.2.2.1, .int .i64 t_169.2.2.2.2.2.2.2.2.2.2.2.2.2.2.2.2.2.2.2.2.2.2.2.2.2.1, .int .i64 t_169.2.2.2.2.2.2.2.2.2.2.2.2.2.2.2.2.2.2.2.2.2.2.2.2.2.2.1, .int .i64 t_169.2.2.2.2.2.2.2.2.2.2.2.2.2.2.2.2.2.2.2.2.2.2.2.2.2.2.2.1, v_183, v_185, v_187, .bool t_169.2.2.2.2.2.2.2.2.2.2.2.2.2.2.2.2.2.2.2.2.2.2.2.2.2.2.2.2.2.2.2] : List Value).toArray 80 (0, 0))]) (ow := [M_207]) rfl hS'
            replace hS : Sep w0 w_202 [N_204, Mem.one g_6 (.cells ([.int .i64 t_169.2.1, .int .i64 t_169.2.2.1, .int .i64 t_169.2.2.2.1, v_173, .int .i64 t_169.2.2.2.2.2.1, .int .i64 t_169.2.2.2.2.2.2.1, .int .i64 t_169.2.2.2.2.2.2.2.1, .int .i64 t_169.2.2.2.2.2.2.2.2.1, .int .i64 t_169.2.2.2.2.2.2.2.2.2.1, .int .i64 t_169.2.2.2.2.2.2.2.2.2.2.1, .int .i64 t_169.2.2.2.2.2.2.2.2.2.2.2.1, .int .i64 t_169.2.2.2.2.2.2.2.2.2.2.2.2.1, .bool t_169.2.2.2.2.2.2.2.2.2.2.2.2.2.1, .int .i64 t_169.2.2.2.2.2.2.2.2.2.2.2.2.2.2.1, .int .i64 t_169.2.2.2.2.2.2.2.2.2.2.2.2.2.2.2.1, .int .i64 t_169.2.2.2.2.2.2.2.2.2.2.2.2.2.2.2.2.1, .int .i64 t_169.2.2.2.2.2.2.2.2.2.2.2.2.2.2.2.2.2.1, v_177, .int .i64 t_169.2.2.2.2.2.2.2.2.2.2.2.2.2.2.2.2.2.2.2.1, .int .i64 t_169.2.2.2.2.2.2.2.2.2.2.2.2.2.2.2.2.2.2.2.2.1, v_179, v_181, .int .i64 t_169.2.2.2.2.2.2.2.2.2.2.2.2.2.2.2.2.2.2.2.2.2.2.2.1, .int .i64 t_169.2.2.2.2.2.2.2.2.2.2.2.2.2.2.2.2.2.2.2.2.2.2.2.2.1, .int .i64 t_169.2.2.2.2.2.2.2.2.2.2.2.2.2.2.2.2.2.2.2.2.2.2.2.2.2.1, .int .i64 t_169.2.2.2.2.2.2.2.2.2.2.2.2.2.2.2.2.2.2.2.2.2.2.2.2.2.2.1, .int .i64 t_169.2.2.2.2.2.2.2.2.2.2.2.2.2.2.2.2.2.2.2.2.2.2.2.2.2.2.2.1, v_183, v_185, v_187, .bool t_169.2.2.2.2.2.2.2.2.2.2.2.2.2.2.2.2.2.2.2.2.2.2.2.2.2.2.2.2.2.2.2] : List Value).toArray 80 (0, 0)), M_175, M_207] Z := hS''
            clear hS' hS''
            refine s_move hm rfl rfl ?_
            clear hm a; intro a hm
            refine s_conv (wu64 (w64 ((Int.tmod (band .i64 x0 255) 7) + 1))) hm rfl Try.underlying3 Try.underlying38 rfl rfl ?_
            clear hm a; intro a hm
            refine s_shift (r := shl .i64 1 (wu64 (w64 ((Int.tmod (band .i64 x0 255) 7) + 1)))) hm rfl rfl rfl (wu64_nn _) (.inl ⟨rfl, rfl⟩) ?_
            clear hm a; intro a hm
            refine s_arith (r := w64 ((shl .i64 1 (wu64 (w64 ((Int.tmod (band .i64 x0 255) 7) + 1)))) - 1)) hm rfl rfl rfl (.inr (.inl ⟨rfl, rfl⟩)) ?_
            clear hm a; intro a hm
            refine s_move hm rfl rfl ?_
            clear hm a; intro a hm
            refine s_bits (i := w64 ((shl .i64 1 (wu64 (w64 ((Int.tmod (band .i64 x0 255) 7) + 1)))) - 1)) (j := x_192) (r := bandn .i64 (w64 ((shl .i64 1 (wu64 (w64 ((Int.tmod (band .i64 x0 255) 7) + 1)))) - 1)) x_192) hm rfl rfl rfl (.inr (.inr (.inr ⟨rfl, rfl⟩))) ?_
            clear hm a; intro a hm
            obtain ⟨t_209, et_209, H⟩ := Option.bind_eq_some_iff.1 H
            refine s_call hm rfl Try.call26 rfl (hocketref11_Members.calls K (bandn .i64 (w64 ((shl .i64 1 (wu64 (w64 ((Int.tmod (band .i64 x0 255) 7) + 1)))) - 1)) x_192) t_209 w0 _ _ _ (Mem.le.refl _) (hS.enter [] (by decide))  et_209) ?_
            rintro v_213 w_210 ⟨_, N_211, M_215, rfl, hS', hr_214⟩
            clear hm a; intro a hm
            obtain ⟨N_212, hS'', le_212, ln_212⟩ := hS.call [] (by decide) rfl (l' := []) (ow := [M_215]) rfl hS'
            replace hS : Sep w0 w_210 [N_212, Mem.one g_6 (.cells ([.int .i64 t_169.2.1, .int .i64 t_169.2.2.1, .int .i64 t_169.2.2.2.1, v_173, .int .i64 t_169.2.2.2.2.2.1, .int .i64 t_169.2.2.2.2.2.2.1, .int .i64 t_169.2.2.2.2.2.2.2.1, .int .i64 t_169.2.2.2.2.2.2.2.2.1, .int .i64 t_169.2.2.2.2.2.2.2.2.2.1, .int .i64 t_169.2.2.2.2.2.2.2.2.2.2.1, .int .i64 t_169.2.2.2.2.2.2.2.2.2.2.2.1, .int .i64 t_169.2.2.2.2.2.2.2.2.2.2.2.2.1, .bool t_169.2.2.2.2.2.2.2.2.2.2.2.2.2.1, .int .i64 t_169.2.2.2.2.2.2.2.2.2.2.2.2.2.2.1, .int .i64 t_169.2.2.2.2.2.2.2.2.2.2.2.2.2.2.2.1, .int .i64 t_169.2.2.2.2.2.2.2.2.2.2.2.2.2.2.2.2.1, .int .i64 t_169.2.2.2.2.2.2.2.2.2.2.2.2.2.2.2.2.2.1, v_177, .int .i64 t_169.2.2.2.2.2.2.2.2.2.2.2.2.2.2.2.2.2.2.2.1, .int .i64 t_169.2.2.2.2.2.2.2.2.2.2.2.2.2.2.2.2.2.2.2.2.1, v_179, v_181, .int .i64 t_169.2.2.2.2.2.2.2.2.2.2.2.2.2.2.2.2.2.2.2.2.2.2.2.1, .int .i64 t_169.2.2.2.2.2.2.2.2.2.2.2.2.2.2.2.2.2.2.2.2.2.2.2.2.1, .int .i64 t_169.2.2.2.2.2.2.2.2.2.2.2.2.2.2.2.2.2.2.2.2.2.2.2.2.2.1, .int .i64 t_169.2.2.2.2.2.2.2.2.2.2.2.2.2.2.2.2.2.2.2.2.2.2.2.2.2.2.1, .int .i64 t_169.2.2.2.2.2.2.2.2.2.2.2.2.2.2.2.2.2.2.2.2.2.2.2.2.2.2.2.1, v_183, v_185, v_187, .bool t_169.2.2.2.2.2.2.2.2.2.2.2.2.2.2.2.2.2.2.2.2.2.2.2.2.2.2.2.2.2.2.2] : List Value).toArray 80 (0, 0)), M_175, M_207, M_215] Z := hS''
            clear hS' hS''
            obtain ⟨t_217, et_217, H⟩ := Option.bind_eq_some_iff.1 H
            refine s_call hm rfl Try.call25 rfl (hocketref1_SameInts.calls K t_201 _ t_209 _ t_217 w0 _ _ _ (Mem.le.refl _) (hS.enter [] (by decide)) (hr_206.rd (hS.own_zed [] 2 (by decide)) (Mem.no_le _)) (hr_214.rd (hS.own_zed [] 3 (by decide)) (Mem.no_le _)) et_217) ?_
            rintro _ w_218 ⟨N_219, rfl, hS'⟩
            clear hm a; intro a hm
            obtain ⟨N_220, hS'', le_220, ln_220⟩ := hS.call [] (by decide) rfl (l' := []) (ow := []) rfl hS'
            replace hS : Sep w0 w_218 [N_220, Mem.one g_6 (.cells ([.int .i64 t_169.2.1, .int .i64 t_169.2.2.1, .int .i64 t_169.2.2.2.1, v_173, .int .i64 t_169.2.2.2.2.2.1, .int .i64 t_169.2.2.2.2.2.2.1, .int .i64 t_169.2.2.2.2.2.2.2.1, .int .i64 t_169.2.2.2.2.2.2.2.2.1, .int .i64 t_169.2.2.2.2.2.2.2.2.2.1, .int .i64 t_169.2.2.2.2.2.2.2.2.2.2.1, .int .i64 t_169.2.2.2.2.2.2.2.2.2.2.2.1, .int .i64 t_169.2.2.2.2.2.2.2.2.2.2.2.2.1, .bool t_169.2.2.2.2.2.2.2.2.2.2.2.2.2.1, .int .i64 t_169.2.2.2.2.2.2.2.2.2.2.2.2.2.2.1, .int .i64 t_169.2.2.2.2.2.2.2.2.2.2.2.2.2.2.2.1, .int .i64 t_169.2.2.2.2.2.2.2.2.2.2.2.2.2.2.2.2.1, .int .i64 t_169.2.2.2.2.2.2.2.2.2.2.2.2.2.2.2.2.2.1, v_177, .int .i64 t_169.2.2.2.2.2.2.2.2.2.2.2.2.2.2.2.2.2.2.2.1, .int .i64 t_169.2.2.2.2.2.2.2.2.2.2.2.2.2.2.2.2.2.2.2.2.1, v_179, v_181, .int .i64 t_169.2.2.2.2.2.2.2.2.2.2.2.2.2.2.2.2.2.2.2.2.2.2.2.1, .int .i64 t_169.2.2.2.2.2.2.2.2.2.2.2.2.2.2.2.2.2.2.2.2.2.2.2.2.1, .int .i64 t_169.2.2.2.2.2.2.2.2.2.2.2.2.2.2.2.2.2.2.2.2.2.2.2.2.2.1, .int .i64 t_169.2.2.2.2.2.2.2.2.2.2.2.2.2.2.2.2.2.2.2.2.2.2.2.2.2.2.1, .int .i64 t_169.2.2.2.2.2.2.2.2.2.2.2.2.2.2.2.2.2.2.2.2.2.2.2.2.2.2.2.1, v_183, v_185, v_187, .bool t_169.2.2.2.2.2.2.2.2.2.2.2.2.2.2.2.2.2.2.2.2.2.2.2.2.2.2.2.2.2.2.2] : List Value).toArray 80 (0, 0)), M_175, M_207, M_215] Z := hS''
            clear hS' hS''
            refine s_not hm rfl rfl ?_
            clear hm a; intro a hm
            refine s_move hm rfl rfl ?_
            clear hm a; intro a hm
            by_cases hc_221 : t_217 = true
            · rw [if_pos hc_221] at H
              refine s_on hm rfl rfl (nf hc_221) ?_
              refine s_move hm rfl rfl ?_
              clear hm a; intro a hm
              refine s_on hm rfl rfl (nf hc_221) ?_
              obtain ⟨t_222, et_222, H⟩ := Option.bind_eq_some_iff.1 H
              refine s_call hm rfl Try.call44 rfl (gath_Gather_All.calls K _ t_169.2.1 t_169.2.2.1 t_169.2.2.2.1 t_169.2.2.2.2.1 _ t_169.2.2.2.2.2.1 t_169.2.2.2.2.2.2.1 t_169.2.2.2.2.2.2.2.1 t_169.2.2.2.2.2.2.2.2.1 t_169.2.2.2.2.2.2.2.2.2.1 t_169.2.2.2.2.2.2.2.2.2.2.1 t_169.2.2.2.2.2.2.2.2.2.2.2.1 t_169.2.2.2.2.2.2.2.2.2.2.2.2.1 t_169.2.2.2.2.2.2.2.2.2.2.2.2.2.1 t_169.2.2.2.2.2.2.2.2.2.2.2.2.2.2.1 t_169.2.2.2.2.2.2.2.2.2.2.2.2.2.2.2.1 t_169.2.2.2.2.2.2.2.2.2.2.2.2.2.2.2.2.1 t_169.2.2.2.2.2.2.2.2.2.2.2.2.2.2.2.2.2.1 t_169.2.2.2.2.2.2.2.2.2.2.2.2.2.2.2.2.2.2.1 _ t_169.2.2.2.2.2.2.2.2.2.2.2.2.2.2.2.2.2.2.2.1 t_169.2.2.2.2.2.2.2.2.2.2.2.2.2.2.2.2.2.2.2.2.1 t_169.2.2.2.2.2.2.2.2.2.2.2.2.2.2.2.2.2.2.2.2.2.1 _ t_169.2.2.2.2.2.2.2.2.2.2.2.2.2.2.2.2.2.2.2.2.2.2.1 _ t_169.2.2.2.2.2.2.2.2.2.2.2.2.2.2.2.2.2.2.2.2.2.2.2.1 t_169.2.2.2.2.2.2.2.2.2.2.2.2.2.2.2.2.2.2.2.2.2.2.2.2.1 t_169.2.2.2.2.2.2.2.2.2.2.2.2.2.2.2.2.2.2.2.2.2.2.2.2.2.1 t_169.2.2.2.2.2.2.2.2.2.2.2.2.2.2.2.2.2.2.2.2.2.2.2.2.2.2.1 t_169.2.2.2.2.2.2.2.2.2.2.2.2.2.2.2.2.2.2.2.2.2.2.2.2.2.2.2.1 t_169.2.2.2.2.2.2.2.2.2.2.2.2.2.2.2.2.2.2.2.2.2.2.2.2.2.2.2.2.1 _ t_169.2.2.2.2.2.2.2.2.2.2.2.2.2.2.2.2.2.2.2.2.2.2.2.2.2.2.2.2.2.1 _ t_169.2.2.2.2.2.2.2.2.2.2.2.2.2.2.2.2.2.2.2.2.2.2.2.2.2.2.2.2.2.2.1 _ t_169.2.2.2.2.2.2.2.2.2.2.2.2.2.2.2.2.2.2.2.2.2.2.2.2.2.2.2.2.2.2.2 t_222 w0 _ _ _ (Mem.le.refl _) (hS.enter [0] (by decide)) ((hr_174.mono (Mem.un_le le_172 ln_172)).rd (hS.own_zed [0] 1 (by decide)) ((le_191.trans (le_204.trans (le_212.trans le_220))).trans (hS.new_zed [0]))) ((hr_178.mono (Mem.un_le le_172 ln_172)).mono ((le_191.trans (le_204.trans (le_212.trans le_220))).trans (hS.new_zed [0]))) ((hr_180.mono (Mem.un_le le_172 ln_172)).mono ((le_191.trans (le_204.trans (le_212.trans le_220))).trans (hS.new_zed [0]))) ((hr_182.mono (Mem.un_le le_172 ln_172)).mono ((le_191.trans (le_204.trans (le_212.trans le_220))).trans (hS.new_zed [0]))) ((hr_184.mono (Mem.un_le le_172 ln_172)).mono ((le_191.trans (le_204.trans (le_212.trans le_220))).trans (hS.new_zed [0]))) ((hr_186.mono (Mem.un_le le_172 ln_172)).mono ((le_191.trans (le_204.trans (le_212.trans le_220))).trans (hS.new_zed [0]))) ((hr_188.mono (Mem.un_le le_172 ln_172)).mono ((le_191.trans (le_204.trans (le_212.trans le_220))).trans (hS.new_zed [0]))) et_222) ?_
              rintro _ w_223 ⟨N_224, rfl, hS'⟩
              clear hm a; intro a hm
              obtain ⟨N_225, hS'', le_225, ln_225⟩ := hS.call [0] (by decide) rfl (l' := [Mem.one g_6 (.cells ([.int .i64 t_169.2.1, .int .i64 t_169.2.2.1, .int .i64 t_169.2.2.2.1, v_173, .int .i64 t_169.2.2.2.2.2.1, .int .i64 t_169.2.2.2.2.2.2.1, .int .i64 t_169.2.2.2.2.2.2.2.1, .int .i64 t_169.2.2.2.2.2.2.2.2.1, .int .i64 t_169.2.2.2.2.2.2.2.2.2.1, .int .i64 t_169.2.2.2.2.2.2.2.2.2.2.1, .int .i64 t_169.2.2.2.2.2.2.2.2.2.2.2.1, .int .i64 t_169.2.2.2.2.2.2.2.2.2.2.2.2.1, .bool t_169.2.2.2.2.2.2.2.2.2.2.2.2.2.1, .int .i64 t_169.2.2.2.2.2.2.2.2.2.2.2.2.2.2.1, .int .i64 t_169.2.2.2.2.2.2.2.2.2.2.2.2.2.2.2.1, .int .i64 t_169.2.2.2.2.2.2.2.2.2.2.2.2.2.2.2.2.1, .int .i64 t_169.2.2.2.2.2.2.2.2.2.2.2.2.2.2.2.2.2.1, v_177, .int .i64 t_169.2.2.2.2.2.2.2.2.2.2.2.2.2.2.2.2.2.2.2.1, .int .i64 t_169.2.2.2.2.2.2.2.2.2.2.2.2.2.2.2.2.2.2.2.2.1, v_179, v_181, .int .i64 t_169.2.2.2.2.2.2.2.2.2.2.2.2.2.2.2.2.2.2.2.2.2.2.2.1, .int .i64 t_169.2.2.2.2.2.2.2.2.2.2.2.2.2.2.2.2.2.2.2.2.2.2.2.2.1, .int .i64 t_169.2.2.2.2.2.2.2.2.2.2.2.2.2.2.2.2.2.2.2.2.2.2.2.2.2.1, .int .i64 t_169.2.2.2.2.2.2.2.2.2.2.2.2.2.2.2.2.2.2.2.2.2.2.2.2.2.2.1, .int .i64 t_169.2.2.2.2.2.2.2.2.2.2.2.2.2.2.2.2.2.2.2.2.2.2.2.2.2.2.2.1, v_183, v_185, v_187, .bool t_169.2.2.2.2.2.2.2.2.2.2.2.2.2.2.2.2.2.2.2.2.2.2.2.2.2.2.2.2.2.2.2] : List Value).toArray 80 (0, 0))]) (ow := []) rfl hS'
              replace hS : Sep w0 w_223 [N_225, Mem.one g_6 (.cells ([.int .i64 t_169.2.1, .int .i64 t_169.2.2.1, .int .i64 t_169.2.2.2.1, v_173, .int .i64 t_169.2.2.2.2.2.1, .int .i64 t_169.2.2.2.2.2.2.1, .int .i64 t_169.2.2.2.2.2.2.2.1, .int .i64 t_169.2.2.2.2.2.2.2.2.1, .int .i64 t_169.2.2.2.2.2.2.2.2.2.1, .int .i64 t_169.2.2.2.2.2.2.2.2.2.2.1, .int .i64 t_169.2.2.2.2.2.2.2.2.2.2.2.1, .int .i64 t_169.2.2.2.2.2.2.2.2.2.2.2.2.1, .bool t_169.2.2.2.2.2.2.2.2.2.2.2.2.2.1, .int .i64 t_169.2.2.2.2.2.2.2.2.2.2.2.2.2.2.1, .int .i64 t_169.2.2.2.2.2.2.2.2.2.2.2.2.2.2.2.1, .int .i64 t_169.2.2.2.2.2.2.2.2.2.2.2.2.2.2.2.2.1, .int .i64 t_169.2.2.2.2.2.2.2.2.2.2.2.2.2.2.2.2.2.1, v_177, .int .i64 t_169.2.2.2.2.2.2.2.2.2.2.2.2.2.2.2.2.2.2.2.1, .int .i64 t_169.2.2.2.2.2.2.2.2.2.2.2.2.2.2.2.2.2.2.2.2.1, v_179, v_181, .int .i64 t_169.2.2.2.2.2.2.2.2.2.2.2.2.2.2.2.2.2.2.2.2.2.2.2.1, .int .i64 t_169.2.2.2.2.2.2.2.2.2.2.2.2.2.2.2.2.2.2.2.2.2.2.2.2.1, .int .i64 t_169.2.2.2.2.2.2.2.2.2.2.2.2.2.2.2.2.2.2.2.2.2.2.2.2.2.1, .int .i64 t_169.2.2.2.2.2.2.2.2.2.2.2.2.2.2.2.2.2.2.2.2.2.2.2.2.2.2.1, .int .i64 t_169.2.2.2.2.2.2.2.2.2.2.2.2.2.2.2.2.2.2.2.2.2.2.2.2.2.2.2.1, v_183, v_185, v_187, .bool t_169.2.2.2.2.2.2.2.2.2.2.2.2.2.2.2.2.2.2.2.2.2.2.2.2.2.2.2.2.2.2.2] : List Value).toArray 80 (0, 0)), M_175, M_207, M_215] Z := hS''
              clear hS' hS''
              refine s_on hm rfl rfl (nf hc_221) ?_
              refine s_move hm rfl rfl ?_
              clear hm a; intro a hm
              refine s_on hm rfl rfl (nf hc_221) ?_
              refine s_move hm rfl rfl ?_
              clear hm a; intro a hm
              refine s_on hm rfl rfl (nf hc_221) ?_
              refine s_conv (wu64 (w64 ((Int.tmod (band .i64 x0 255) 7) + 1))) hm rfl Try.underlying3 Try.underlying38 rfl rfl ?_
              clear hm a; intro a hm
              refine s_on hm rfl rfl (nf hc_221) ?_
              refine s_shift (r := shl .i64 1 (wu64 (w64 ((Int.tmod (band .i64 x0 255) 7) + 1)))) hm rfl rfl rfl (wu64_nn _) (.inl ⟨rfl, rfl⟩) ?_
              clear hm a; intro a hm
              refine s_on hm rfl rfl (nf hc_221) ?_
              refine s_arith (r := w64 ((shl .i64 1 (wu64 (w64 ((Int.tmod (band .i64 x0 255) 7) + 1)))) - 1)) hm rfl rfl rfl (.inr (.inl ⟨rfl, rfl⟩)) ?_
              clear hm a; intro a hm
              refine s_on hm rfl rfl (nf hc_221) ?_
              refine s_cmp (b := (x_192 == (w64 ((shl .i64 1 (wu64 (w64 ((Int.tmod (band .i64 x0 255) 7) + 1)))) - 1)))) hm rfl rfl rfl (.inl ⟨rfl, rfl⟩) ?_
              clear hm a; intro a hm
              refine s_on hm rfl rfl (nf hc_221) ?_
              refine s_beq (b := !(t_222 == (x_192 == (w64 ((shl .i64 1 (wu64 (w64 ((Int.tmod (band .i64 x0 255) 7) + 1)))) - 1))))) hm rfl Try.underlying4 rfl rfl (.inr ⟨rfl, rfl⟩) ?_
              clear hm a; intro a hm
              refine s_pick_f hm rfl rfl (nf hc_221) rfl ?_
              clear hm a; intro a hm
              refine wpList_nil ?_
              replace hm : Fr 139 a [(0, .int .i64 (w64 ((Int.tmod (band .i64 x0 255) 7) + 1))), (1, .int .i64 t_1), (2, p2_0), (6, .bool false), (7, .pointer (some ⟨g_6, 0, none⟩)), (8, .int .i64 x_192), (9, .int .i64 x_123), (111, .bool (!(t_222 == (x_192 == (w64 ((shl .i64 1 (wu64 (w64 ((Int.tmod (band .i64 x0 255) 7) + 1)))) - 1))))))] := hm.keep [0, 1, 2, 6, 7, 8, 9, 111]
              replace hS : Sep w0 w_223 [N_225, Mem.one g_6 (.cells ([.int .i64 t_169.2.1, .int .i64 t_169.2.2.1, .int .i64 t_169.2.2.2.1, v_173, .int .i64 t_169.2.2.2.2.2.1, .int .i64 t_169.2.2.2.2.2.2.1, .int .i64 t_169.2.2.2.2.2.2.2.1, .int .i64 t_169.2.2.2.2.2.2.2.2.1, .int .i64 t_169.2.2.2.2.2.2.2.2.2.1, .int .i64 t_169.2.2.2.2.2.2.2.2.2.2.1, .int .i64 t_169.2.2.2.2.2.2.2.2.2.2.2.1, .int .i64 t_169.2.2.2.2.2.2.2.2.2.2.2.2.1, .bool t_169.2.2.2.2.2.2.2.2.2.2.2.2.2.1, .int .i64 t_169.2.2.2.2.2.2.2.2.2.2.2.2.2.2.1, .int .i64 t_169.2.2.2.2.2.2.2.2.2.2.2.2.2.2.2.1, .int .i64 t_169.2.2.2.2.2.2.2.2.2.2.2.2.2.2.2.2.1, .int .i64 t_169.2.2.2.2.2.2.2.2.2.2.2.2.2.2.2.2.2.1, v_177, .int .i64 t_169.2.2.2.2.2.2.2.2.2.2.2.2.2.2.2.2.2.2.2.1, .int .i64 t_169.2.2.2.2.2.2.2.2.2.2.2.2.2.2.2.2.2.2.2.2.1, v_179, v_181, .int .i64 t_169.2.2.2.2.2.2.2.2.2.2.2.2.2.2.2.2.2.2.2.2.2.2.2.1, .int .i64 t_169.2.2.2.2.2.2.2.2.2.2.2.2.2.2.2.2.2.2.2.2.2.2.2.2.1, .int .i64 t_169.2.2.2.2.2.2.2.2.2.2.2.2.2.2.2.2.2.2.2.2.2.2.2.2.2.1, .int .i64 t_169.2.2.2.2.2.2.2.2.2.2.2.2.2.2.2.2.2.2.2.2.2.2.2.2.2.2.1, .int .i64 t_169.2.2.2.2.2.2.2.2.2.2.2.2.2.2.2.2.2.2.2.2.2.2.2.2.2.2.2.1, v_183, v_185, v_187, .bool t_169.2.2.2.2.2.2.2.2.2.2.2.2.2.2.2.2.2.2.2.2.2.2.2.2.2.2.2.2.2.2.2] : List Value).toArray 80 (0, 0)), M_175, M_207, M_215] Z := hS
              replace hm : Fr 139 a [(0, .int .i64 (w64 ((Int.tmod (band .i64 x0 255) 7) + 1))), (1, .int .i64 t_1), (2, p2_0), (6, .bool false), (7, .pointer (some ⟨g_6, 0, none⟩)), (8, .int .i64 x_192), (9, .int .i64 x_123), (111, .bool (!(t_222 == (x_192 == (w64 ((shl .i64 1 (wu64 (w64 ((Int.tmod (band .i64 x0 255) 7) + 1)))) - 1))))))] := hm.keep [0, 1, 2, 6, 7, 8, 9, 111]
              exact x_then_n (hJ_j_199 (!(t_222 == (x_192 == (w64 ((shl .i64 1 (wu64 (w64 ((Int.tmod (band .i64 x0 255) 7) + 1)))) - 1))))) H _ _ ⟨N_225, hm, (Sep.sel hS [0, 1, 2] (by decide)), (le_204.trans (le_212.trans (le_220.trans le_225)))⟩)
            · rw [if_neg hc_221] at H
              refine s_off hm rfl rfl rfl (nt (Bool.eq_false_iff.2 hc_221)) ?_
              clear hm a; intro a hm
              refine s_off hm rfl rfl rfl (nt (Bool.eq_false_iff.2 hc_221)) ?_
              clear hm a; intro a hm
              refine s_off hm rfl rfl rfl (nt (Bool.eq_false_iff.2 hc_221)) ?_
              clear hm a; intro a hm
              refine s_off hm rfl rfl rfl (nt (Bool.eq_false_iff.2 hc_221)) ?_
              clear hm a; intro a hm
              refine s_off hm rfl rfl rfl (nt (Bool.eq_false_iff.2 hc_221)) ?_
              clear hm a; intro a hm
              refine s_off hm rfl rfl rfl (nt (Bool.eq_false_iff.2 hc_221)) ?_
              clear hm a; intro a hm
              refine s_off hm rfl rfl rfl (nt (Bool.eq_false_iff.2 hc_221)) ?_
              clear hm a; intro a hm
              refine s_off hm rfl rfl rfl (nt (Bool.eq_false_iff.2 hc_221)) ?_
              clear hm a; intro a hm
              refine s_off hm rfl rfl rfl (nt (Bool.eq_false_iff.2 hc_221)) ?_
              clear hm a; intro a hm
              refine s_pick_t hm rfl rfl (nt (Bool.eq_false_iff.2 hc_221)) rfl ?_
              clear hm a; intro a hm
              refine wpList_nil ?_
              replace hm : Fr 139 a [(0, .int .i64 (w64 ((Int.tmod (band .i64 x0 255) 7) + 1))), (1, .int .i64 t_1), (2, p2_0), (6, .bool false), (7, .pointer (some ⟨g_6, 0, none⟩)), (8, .int .i64 x_192), (9, .int .i64 x_123), (111, .bool true)] := hm.keep [0, 1, 2, 6, 7, 8, 9, 111]
              replace hS : Sep w0 w_218 [N_220, Mem.one g_6 (.cells ([.int .i64 t_169.2.1, .int .i64 t_169.2.2.1, .int .i64 t_169.2.2.2.1, v_173, .int .i64 t_169.2.2.2.2.2.1, .int .i64 t_169.2.2.2.2.2.2.1, .int .i64 t_169.2.2.2.2.2.2.2.1, .int .i64 t_169.2.2.2.2.2.2.2.2.1, .int .i64 t_169.2.2.2.2.2.2.2.2.2.1, .int .i64 t_169.2.2.2.2.2.2.2.2.2.2.1, .int .i64 t_169.2.2.2.2.2.2.2.2.2.2.2.1, .int .i64 t_169.2.2.2.2.2.2.2.2.2.2.2.2.1, .bool t_169.2.2.2.2.2.2.2.2.2.2.2.2.2.1, .int .i64 t_169.2.2.2.2.2.2.2.2.2.2.2.2.2.2.1, .int .i64 t_169.2.2.2.2.2.2.2.2.2.2.2.2.2.2.2.1, .int .i64 t_169.2.2.2.2.2.2.2.2.2.2.2.2.2.2.2.2.1, .int .i64 t_169.2.2.2.2.2.2.2.2.2.2.2.2.2.2.2.2.2.1, v_177, .int .i64 t_169.2.2.2.2.2.2.2.2.2.2.2.2.2.2.2.2.2.2.2.1, .int .i64 t_169.2.2.2.2.2.2.2.2.2.2.2.2.2.2.2.2.2.2.2.2.1, v_179, v_181, .int .i64 t_169.2.2.2.2.2.2.2.2.2.2.2.2.2.2.2.2.2.2.2.2.2.2.2.1, .int .i64 t_169.2.2.2.2.2.2.2.2.2.2.2.2.2.2.2.2.2.2.2.2.2.2.2.2.1, .int .i64 t_169.2.2.2.2.2.2.2.2.2.2.2.2.2.2.2.2.2.2.2.2.2.2.2.2.2.1, .int .i64 t_169.2.2.2.2.2.2.2.2.2.2.2.2.2.2.2.2.2.2.2.2.2.2.2.2.2.2.1, .int .i64 t_169.2.2.2.2.2.2.2.2.2.2.2.2.2.2.2.2.2.2.2.2.2.2.2.2.2.2.2.1, v_183, v_185, v_187, .bool t_169.2.2.2.2.2.2.2.2.2.2.2.2.2.2.2.2.2.2.2.2.2.2.2.2.2.2.2.2.2.2.2] : List Value).toArray 80 (0, 0)), M_175, M_207, M_215] Z := hS
              replace hm : Fr 139 a [(0, .int .i64 (w64 ((Int.tmod (band .i64 x0 255) 7) + 1))), (1, .int .i64 t_1), (2, p2_0), (6, .bool false), (7, .pointer (some ⟨g_6, 0, none⟩)), (8, .int .i64 x_192), (9, .int .i64 x_123), (111, .bool true)] := hm.keep [0, 1, 2, 6, 7, 8, 9, 111]
              exact x_then_n (hJ_j_199 true H _ _ ⟨N_220, hm, (Sep.sel hS [0, 1, 2] (by decide)), (le_204.trans (le_212.trans le_220))⟩)
          clear hKJ_190
          by_cases hc_226 : x_165 = true
          · rw [if_pos hc_226] at H
            refine c_cond_t hm rfl hc_226 ?_
            refine wp_region_lit ?_
            refine s_move hm rfl rfl ?_
            clear hm a; intro a hm
            refine s_move hm rfl rfl ?_
            clear hm a; intro a hm
            refine s_conv (wu64 (w64 ((band .i64 t_153 15) - 4))) hm rfl Try.underlying3 Try.underlying38 rfl rfl ?_
            clear hm a; intro a hm
            refine s_shift (r := shl .i64 1 (wu64 (w64 ((band .i64 t_153 15) - 4)))) hm rfl rfl rfl (wu64_nn _) (.inl ⟨rfl, rfl⟩) ?_
            clear hm a; intro a hm
            refine s_bits (i := x_122) (j := shl .i64 1 (wu64 (w64 ((band .i64 t_153 15) - 4)))) (r := bor .i64 x_122 (shl .i64 1 (wu64 (w64 ((band .i64 t_153 15) - 4))))) hm rfl rfl rfl (.inr (.inl ⟨rfl, rfl⟩)) ?_
            clear hm a; intro a hm
            refine s_assign hm rfl rfl ?_
            clear hm a; intro a hm
            refine wpList_nil ?_
            replace hm : Fr 139 a [(0, .int .i64 (w64 ((Int.tmod (band .i64 x0 255) 7) + 1))), (1, .int .i64 t_1), (2, p2_0), (6, .bool false), (7, .pointer (some ⟨g_6, 0, none⟩)), (8, .int .i64 (bor .i64 x_122 (shl .i64 1 (wu64 (w64 ((band .i64 t_153 15) - 4)))))), (9, .int .i64 x_123)] := hm.keep [0, 1, 2, 6, 7, 8, 9]
            replace hS : Sep w0 w_170 [N_172, Mem.one g_6 (.cells ([.int .i64 t_169.2.1, .int .i64 t_169.2.2.1, .int .i64 t_169.2.2.2.1, v_173, .int .i64 t_169.2.2.2.2.2.1, .int .i64 t_169.2.2.2.2.2.2.1, .int .i64 t_169.2.2.2.2.2.2.2.1, .int .i64 t_169.2.2.2.2.2.2.2.2.1, .int .i64 t_169.2.2.2.2.2.2.2.2.2.1, .int .i64 t_169.2.2.2.2.2.2.2.2.2.2.1, .int .i64 t_169.2.2.2.2.2.2.2.2.2.2.2.1, .int .i64 t_169.2.2.2.2.2.2.2.2.2.2.2.2.1, .bool t_169.2.2.2.2.2.2.2.2.2.2.2.2.2.1, .int .i64 t_169.2.2.2.2.2.2.2.2.2.2.2.2.2.2.1, .int .i64 t_169.2.2.2.2.2.2.2.2.2.2.2.2.2.2.2.1, .int .i64 t_169.2.2.2.2.2.2.2.2.2.2.2.2.2.2.2.2.1, .int .i64 t_169.2.2.2.2.2.2.2.2.2.2.2.2.2.2.2.2.2.1, v_177, .int .i64 t_169.2.2.2.2.2.2.2.2.2.2.2.2.2.2.2.2.2.2.2.1, .int .i64 t_169.2.2.2.2.2.2.2.2.2.2.2.2.2.2.2.2.2.2.2.2.1, v_179, v_181, .int .i64 t_169.2.2.2.2.2.2.2.2.2.2.2.2.2.2.2.2.2.2.2.2.2.2.2.1, .int .i64 t_169.2.2.2.2.2.2.2.2.2.2.2.2.2.2.2.2.2.2.2.2.2.2.2.2.1, .int .i64 t_169.2.2.2.2.2.2.2.2.2.2.2.2.2.2.2.2.2.2.2.2.2.2.2.2.2.1, .int .i64 t_169.2.2.2.2.2.2.2.2.2.2.2.2.2.2.2.2.2.2.2.2.2.2.2.2.2.2.1, .int .i64 t_169.2.2.2.2.2.2.2.2.2.2.2.2.2.2.2.2.2.2.2.2.2.2.2.2.2.2.2.1, v_183, v_185, v_187, .bool t_169.2.2.2.2.2.2.2.2.2.2.2.2.2.2.2.2.2.2.2.2.2.2.2.2.2.2.2.2.2.2.2] : List Value).toArray 80 (0, 0)), M_175] Z := hS
            replace hm : Fr 139 a [(0, .int .i64 (w64 ((Int.tmod (band .i64 x0 255) 7) + 1))), (1, .int .i64 t_1), (2, p2_0), (6, .bool false), (7, .pointer (some ⟨g_6, 0, none⟩)), (8, .int .i64 (bor .i64 x_122 (shl .i64 1 (wu64 (w64 ((band .i64 t_153 15) - 4)))))), (9, .int .i64 x_123)] := hm.keep [0, 1, 2, 6, 7, 8, 9]
            exact x_then_n (hJ_j_194 (bor .i64 x_122 (shl .i64 1 (wu64 (w64 ((band .i64 t_153 15) - 4))))) H _ _ ⟨N_172, hm, (Sep.sel hS [0, 1, 2] (by decide)), (Mem.le.refl _)⟩)
          · rw [if_neg hc_226] at H
            refine c_cond_f hm rfl (Bool.eq_false_iff.2 hc_226) ?_
            refine wp_skip ?_
            replace hS : Sep w0 w_170 [N_172, Mem.one g_6 (.cells ([.int .i64 t_169.2.1, .int .i64 t_169.2.2.1, .int .i64 t_169.2.2.2.1, v_173, .int .i64 t_169.2.2.2.2.2.1, .int .i64 t_169.2.2.2.2.2.2.1, .int .i64 t_169.2.2.2.2.2.2.2.1, .int .i64 t_169.2.2.2.2.2.2.2.2.1, .int .i64 t_169.2.2.2.2.2.2.2.2.2.1, .int .i64 t_169.2.2.2.2.2.2.2.2.2.2.1, .int .i64 t_169.2.2.2.2.2.2.2.2.2.2.2.1, .int .i64 t_169.2.2.2.2.2.2.2.2.2.2.2.2.1, .bool t_169.2.2.2.2.2.2.2.2.2.2.2.2.2.1, .int .i64 t_169.2.2.2.2.2.2.2.2.2.2.2.2.2.2.1, .int .i64 t_169.2.2.2.2.2.2.2.2.2.2.2.2.2.2.2.1, .int .i64 t_169.2.2.2.2.2.2.2.2.2.2.2.2.2.2.2.2.1, .int .i64 t_169.2.2.2.2.2.2.2.2.2.2.2.2.2.2.2.2.2.1, v_177, .int .i64 t_169.2.2.2.2.2.2.2.2.2.2.2.2.2.2.2.2.2.2.2.1, .int .i64 t_169.2.2.2.2.2.2.2.2.2.2.2.2.2.2.2.2.2.2.2.2.1, v_179, v_181, .int .i64 t_169.2.2.2.2.2.2.2.2.2.2.2.2.2.2.2.2.2.2.2.2.2.2.2.1, .int .i64 t_169.2.2.2.2.2.2.2.2.2.2.2.2.2.2.2.2.2.2.2.2.2.2.2.2.1, .int .i64 t_169.2.2.2.2.2.2.2.2.2.2.2.2.2.2.2.2.2.2.2.2.2.2.2.2.2.1, .int .i64 t_169.2.2.2.2.2.2.2.2.2.2.2.2.2.2.2.2.2.2.2.2.2.2.2.2.2.2.1, .int .i64 t_169.2.2.2.2.2.2.2.2.2.2.2.2.2.2.2.2.2.2.2.2.2.2.2.2.2.2.2.1, v_183, v_185, v_187, .bool t_169.2.2.2.2.2.2.2.2.2.2.2.2.2.2.2.2.2.2.2.2.2.2.2.2.2.2.2.2.2.2.2] : List Value).toArray 80 (0, 0)), M_175] Z := hS
            replace hm : Fr 139 a [(0, .int .i64 (w64 ((Int.tmod (band .i64 x0 255) 7) + 1))), (1, .int .i64 t_1), (2, p2_0), (6, .bool false), (7, .pointer (some ⟨g_6, 0, none⟩)), (8, .int .i64 x_122), (9, .int .i64 x_123)] := hm.keep [0, 1, 2, 6, 7, 8, 9]
            exact x_then_n (hJ_j_194 x_122 H _ _ ⟨N_172, hm, (Sep.sel hS [0, 1, 2] (by decide)), (Mem.le.refl _)⟩)
        · rw [if_neg hc_189] at H
          cases H
      clear hKJ_163
      refine wp_region_lit ?_
      refine s_move hm rfl rfl ?_
      clear hm a; intro a hm
      refine s_cmp (b := decide ((w64 ((band .i64 t_153 15) - 4)) ≥ 0)) hm rfl rfl rfl (.inr (.inr (.inr (.inr (.inr ⟨rfl, rfl⟩))))) ?_
      clear hm a; intro a hm
      refine s_move hm rfl rfl ?_
      clear hm a; intro a hm
      by_cases hc_227 : (w64 ((band .i64 t_153 15) - 4)) ≥ 0
      · rw [if_pos hc_227] at H
        refine s_on hm rfl rfl (decide_eq_true hc_227) ?_
        refine s_move hm rfl rfl ?_
        clear hm a; intro a hm
        refine s_on hm rfl rfl (decide_eq_true hc_227) ?_
        refine s_move hm rfl rfl ?_
        clear hm a; intro a hm
        refine s_on hm rfl rfl (decide_eq_true hc_227) ?_
        refine s_cmp (b := decide ((w64 ((band .i64 t_153 15) - 4)) < (w64 ((Int.tmod (band .i64 x0 255) 7) + 1)))) hm rfl rfl rfl (.inr (.inr (.inl ⟨rfl, rfl⟩))) ?_
        clear hm a; intro a hm
        refine s_pick_t hm rfl rfl (decide_eq_true hc_227) rfl ?_
        clear hm a; intro a hm
        refine s_move hm rfl rfl ?_
        clear hm a; intro a hm
        by_cases hc_228 : (w64 ((band .i64 t_153 15) - 4)) < (w64 ((Int.tmod (band .i64 x0 255) 7) + 1))
        · rw [if_pos hc_228] at H
          refine s_on hm rfl rfl (decide_eq_true hc_228) ?_
          refine s_move hm rfl rfl ?_
          clear hm a; intro a hm
          refine s_on hm rfl rfl (decide_eq_true hc_228) ?_
          refine s_cmp (b := ((w64 (9 + (w64 (Int.tdiv (band .i64 (shr .i64 t_158 4) 7) 7)))) == 9)) hm rfl rfl rfl (.inl ⟨rfl, rfl⟩) ?_
          clear hm a; intro a hm
          refine s_pick_t hm rfl rfl (decide_eq_true hc_228) rfl ?_
          clear hm a; intro a hm
          refine s_move hm rfl rfl ?_
          clear hm a; intro a hm
          by_cases hc_229 : (w64 (9 + (w64 (Int.tdiv (band .i64 (shr .i64 t_158 4) 7) 7)))) = 9
          · rw [if_pos hc_229] at H
            refine s_on hm rfl rfl (beq_iff_eq.2 hc_229) ?_
            refine s_move hm rfl rfl ?_
            clear hm a; intro a hm
            refine s_on hm rfl rfl (beq_iff_eq.2 hc_229) ?_
            refine s_move hm rfl rfl ?_
            clear hm a; intro a hm
            refine s_on hm rfl rfl (beq_iff_eq.2 hc_229) ?_
            refine s_max hm rfl rfl rfl ?_
            clear hm a; intro a hm
            refine s_on hm rfl rfl (beq_iff_eq.2 hc_229) ?_
            refine s_conv (wu64 (mx (w64 ((band .i64 t_153 15) - 4)) 0)) hm rfl Try.underlying3 Try.underlying38 rfl rfl ?_
            clear hm a; intro a hm
            refine s_on hm rfl rfl (beq_iff_eq.2 hc_229) ?_
            refine s_shift (r := shr .i64 x_122 (wu64 (mx (w64 ((band .i64 t_153 15) - 4)) 0))) hm rfl rfl rfl (wu64_nn _) (.inr ⟨rfl, rfl⟩) ?_
            clear hm a; intro a hm
            refine s_on hm rfl rfl (beq_iff_eq.2 hc_229) ?_
            refine s_bits (i := shr .i64 x_122 (wu64 (mx (w64 ((band .i64 t_153 15) - 4)) 0))) (j := 1) (r := band .i64 (shr .i64 x_122 (wu64 (mx (w64 ((band .i64 t_153 15) - 4)) 0))) 1) hm rfl rfl rfl (.inl ⟨rfl, rfl⟩) ?_
            clear hm a; intro a hm
            refine s_on hm rfl rfl (beq_iff_eq.2 hc_229) ?_
            refine s_cmp (b := ((band .i64 (shr .i64 x_122 (wu64 (mx (w64 ((band .i64 t_153 15) - 4)) 0))) 1) == 0)) hm rfl rfl rfl (.inl ⟨rfl, rfl⟩) ?_
            clear hm a; intro a hm
            refine s_pick_t hm rfl rfl (beq_iff_eq.2 hc_229) rfl ?_
            clear hm a; intro a hm
            refine s_assign hm rfl rfl ?_
            clear hm a; intro a hm
            refine wpList_nil ?_
            replace hm : Fr 139 a [(0, .int .i64 (w64 ((Int.tmod (band .i64 x0 255) 7) + 1))), (1, .int .i64 t_1), (2, p2_0), (6, .bool false), (7, .pointer (some ⟨g_6, 0, none⟩)), (8, .int .i64 x_122), (9, .int .i64 x_123), (10, .int .i64 (w64 ((band .i64 t_153 15) - 4))), (11, .int .i64 (w64 (9 + (w64 (Int.tdiv (band .i64 (shr .i64 t_158 4) 7) 7))))), (12, .bool ((band .i64 (shr .i64 x_122 (wu64 (mx (w64 ((band .i64 t_153 15) - 4)) 0))) 1) == 0))] := hm.keep [0, 1, 2, 6, 7, 8, 9, 10, 11, 12]
            replace hS : Sep w0 w_152 [N_145, Mem.one g_6 (.cells ([.int .i64 x_124.n, .int .i64 x_124.id, .int .i64 x_124.v, v_127, .int .i64 x_124.come, .int .i64 x_124.ready, .int .i64 x_124.commit.Kind, .int .i64 x_124.commit.From, .int .i64 x_124.commit.To, .int .i64 x_124.commit.View, .int .i64 x_124.commit.Inst, .int .i64 x_124.commit.Len, .bool x_124.commit.Has, .int .i64 x_124.commit.Members, .int .i64 x_124.commit.Source, .int .i64 x_124.commit.At, .int .i64 x_124.commit.Total, v_129, .int .i64 x_124.commit.Hop, .int .i64 x_124.commit.Seq, v_131, v_133, .int .i64 x_124.commit.Index, .int .i64 x_124.commit.Entry.Sess, .int .i64 x_124.commit.Entry.Seq, .int .i64 x_124.commit.Entry.Cmd.Kind, .int .i64 x_124.commit.Entry.Cmd.Who, v_135, v_137, v_139, .bool x_124.is] : List Value).toArray 80 (0, 0)), M_125] Z := hS
            replace hm : Fr 139 a [(0, .int .i64 (w64 ((Int.tmod (band .i64 x0 255) 7) + 1))), (1, .int .i64 t_1), (2, p2_0), (6, .bool false), (7, .pointer (some ⟨g_6, 0, none⟩)), (8, .int .i64 x_122), (9, .int .i64 x_123), (10, .int .i64 (w64 ((band .i64 t_153 15) - 4))), (11, .int .i64 (w64 (9 + (w64 (Int.tdiv (band .i64 (shr .i64 t_158 4) 7) 7))))), (12, .bool ((band .i64 (shr .i64 x_122 (wu64 (mx (w64 ((band .i64 t_153 15) - 4)) 0))) 1) == 0))] := hm.keep [0, 1, 2, 6, 7, 8, 9, 10, 11, 12]
            exact x_then_n (hJ_j_167 ((band .i64 (shr .i64 x_122 (wu64 (mx (w64 ((band .i64 t_153 15) - 4)) 0))) 1) == 0) H _ _ ⟨N_145, hm, (Sep.sel hS [0, 1, 2] (by decide)), (Mem.le.refl _)⟩)
          · rw [if_neg hc_229] at H
            refine s_off hm rfl rfl rfl (beq_eq_false_iff_ne.2 hc_229) ?_
            clear hm a; intro a hm
            refine s_off hm rfl rfl rfl (beq_eq_false_iff_ne.2 hc_229) ?_
            clear hm a; intro a hm
            refine s_off hm rfl rfl rfl (beq_eq_false_iff_ne.2 hc_229) ?_
            clear hm a; intro a hm
            refine s_off hm rfl rfl rfl (beq_eq_false_iff_ne.2 hc_229) ?_
            clear hm a; intro a hm
            refine s_off hm rfl rfl rfl (beq_eq_false_iff_ne.2 hc_229) ?_
            clear hm a; intro a hm
            refine s_off hm rfl rfl rfl (beq_eq_false_iff_ne.2 hc_229) ?_
            clear hm a; intro a hm
            refine s_off hm rfl rfl rfl (beq_eq_false_iff_ne.2 hc_229) ?_
            clear hm a; intro a hm
            refine s_pick_f hm rfl rfl (beq_eq_false_iff_ne.2 hc_229) rfl ?_
            clear hm a; intro a hm
            refine s_assign hm rfl rfl ?_
            clear hm a; intro a hm
            refine wpList_nil ?_
            replace hm : Fr 139 a [(0, .int .i64 (w64 ((Int.tmod (band .i64 x0 255) 7) + 1))), (1, .int .i64 t_1), (2, p2_0), (6, .bool false), (7, .pointer (some ⟨g_6, 0, none⟩)), (8, .int .i64 x_122), (9, .int .i64 x_123), (10, .int .i64 (w64 ((band .i64 t_153 15) - 4))), (11, .int .i64 (w64 (9 + (w64 (Int.tdiv (band .i64 (shr .i64 t_158 4) 7) 7))))), (12, .bool false)] := hm.keep [0, 1, 2, 6, 7, 8, 9, 10, 11, 12]
            replace hS : Sep w0 w_152 [N_145, Mem.one g_6 (.cells ([.int .i64 x_124.n, .int .i64 x_124.id, .int .i64 x_124.v, v_127, .int .i64 x_124.come, .int .i64 x_124.ready, .int .i64 x_124.commit.Kind, .int .i64 x_124.commit.From, .int .i64 x_124.commit.To, .int .i64 x_124.commit.View, .int .i64 x_124.commit.Inst, .int .i64 x_124.commit.Len, .bool x_124.commit.Has, .int .i64 x_124.commit.Members, .int .i64 x_124.commit.Source, .int .i64 x_124.commit.At, .int .i64 x_124.commit.Total, v_129, .int .i64 x_124.commit.Hop, .int .i64 x_124.commit.Seq, v_131, v_133, .int .i64 x_124.commit.Index, .int .i64 x_124.commit.Entry.Sess, .int .i64 x_124.commit.Entry.Seq, .int .i64 x_124.commit.Entry.Cmd.Kind, .int .i64 x_124.commit.Entry.Cmd.Who, v_135, v_137, v_139, .bool x_124.is] : List Value).toArray 80 (0, 0)), M_125] Z := hS
            replace hm : Fr 139 a [(0, .int .i64 (w64 ((Int.tmod (band .i64 x0 255) 7) + 1))), (1, .int .i64 t_1), (2, p2_0), (6, .bool false), (7, .pointer (some ⟨g_6, 0, none⟩)), (8, .int .i64 x_122), (9, .int .i64 x_123), (10, .int .i64 (w64 ((band .i64 t_153 15) - 4))), (11, .int .i64 (w64 (9 + (w64 (Int.tdiv (band .i64 (shr .i64 t_158 4) 7) 7))))), (12, .bool false)] := hm.keep [0, 1, 2, 6, 7, 8, 9, 10, 11, 12]
            exact x_then_n (hJ_j_167 false H _ _ ⟨N_145, hm, (Sep.sel hS [0, 1, 2] (by decide)), (Mem.le.refl _)⟩)
        · rw [if_neg hc_228] at H
          refine s_off hm rfl rfl rfl (decide_eq_false hc_228) ?_
          clear hm a; intro a hm
          refine s_off hm rfl rfl rfl (decide_eq_false hc_228) ?_
          clear hm a; intro a hm
          refine s_pick_f hm rfl rfl (decide_eq_false hc_228) rfl ?_
          clear hm a; intro a hm
          refine s_move hm rfl rfl ?_
          clear hm a; intro a hm
          refine s_off hm rfl rfl rfl rfl ?_
          clear hm a; intro a hm
          refine s_off hm rfl rfl rfl rfl ?_
          clear hm a; intro a hm
          refine s_off hm rfl rfl rfl rfl ?_
          clear hm a; intro a hm
          refine s_off hm rfl rfl rfl rfl ?_
          clear hm a; intro a hm
          refine s_off hm rfl rfl rfl rfl ?_
          clear hm a; intro a hm
          refine s_off hm rfl rfl rfl rfl ?_
          clear hm a; intro a hm
          refine s_off hm rfl rfl rfl rfl ?_
          clear hm a; intro a hm
          refine s_pick_f hm rfl rfl rfl rfl ?_
          clear hm a; intro a hm
          refine s_assign hm rfl rfl ?_
          clear hm a; intro a hm
          refine wpList_nil ?_
          replace hm : Fr 139 a [(0, .int .i64 (w64 ((Int.tmod (band .i64 x0 255) 7) + 1))), (1, .int .i64 t_1), (2, p2_0), (6, .bool false), (7, .pointer (some ⟨g_6, 0, none⟩)), (8, .int .i64 x_122), (9, .int .i64 x_123), (10, .int .i64 (w64 ((band .i64 t_153 15) - 4))), (11, .int .i64 (w64 (9 + (w64 (Int.tdiv (band .i64 (shr .i64 t_158 4) 7) 7))))), (12, .bool false)] := hm.keep [0, 1, 2, 6, 7, 8, 9, 10, 11, 12]
          replace hS : Sep w0 w_152 [N_145, Mem.one g_6 (.cells ([.int .i64 x_124.n, .int .i64 x_124.id, .int .i64 x_124.v, v_127, .int .i64 x_124.come, .int .i64 x_124.ready, .int .i64 x_124.commit.Kind, .int .i64 x_124.commit.From, .int .i64 x_124.commit.To, .int .i64 x_124.commit.View, .int .i64 x_124.commit.Inst, .int .i64 x_124.commit.Len, .bool x_124.commit.Has, .int .i64 x_124.commit.Members, .int .i64 x_124.commit.Source, .int .i64 x_124.commit.At, .int .i64 x_124.commit.Total, v_129, .int .i64 x_124.commit.Hop, .int .i64 x_124.commit.Seq, v_131, v_133, .int .i64 x_124.commit.Index, .int .i64 x_124.commit.Entry.Sess, .int .i64 x_124.commit.Entry.Seq, .int .i64 x_124.commit.Entry.Cmd.Kind, .int .i64 x_124.commit.Entry.Cmd.Who, v_135, v_137, v_139, .bool x_124.is] : List Value).toArray 80 (0, 0)), M_125] Z := hS
          replace hm : Fr 139 a [(0, .int .i64 (w64 ((Int.tmod (band .i64 x0 255) 7) + 1))), (1, .int .i64 t_1), (2, p2_0), (6, .bool false), (7, .pointer (some ⟨g_6, 0, none⟩)), (8, .int .i64 x_122), (9, .int .i64 x_123), (10, .int .i64 (w64 ((band .i64 t_153 15) - 4))), (11, .int .i64 (w64 (9 + (w64 (Int.tdiv (band .i64 (shr .i64 t_158 4) 7) 7))))), (12, .bool false)] := hm.keep [0, 1, 2, 6, 7, 8, 9, 10, 11, 12]
          exact x_then_n (hJ_j_167 false H _ _ ⟨N_145, hm, (Sep.sel hS [0, 1, 2] (by decide)), (Mem.le.refl _)⟩)
      · rw [if_neg hc_227] at H
        refine s_off hm rfl rfl rfl (decide_eq_false hc_227) ?_
        clear hm a; intro a hm
        refine s_off hm rfl rfl rfl (decide_eq_false hc_227) ?_
        clear hm a; intro a hm
        refine s_off hm rfl rfl rfl (decide_eq_false hc_227) ?_
        clear hm a; intro a hm
        refine s_pick_f hm rfl rfl (decide_eq_false hc_227) rfl ?_
        clear hm a; intro a hm
        refine s_move hm rfl rfl ?_
        clear hm a; intro a hm
        refine s_off hm rfl rfl rfl rfl ?_
        clear hm a; intro a hm
        refine s_off hm rfl rfl rfl rfl ?_
        clear hm a; intro a hm
        refine s_pick_f hm rfl rfl rfl rfl ?_
        clear hm a; intro a hm
        refine s_move hm rfl rfl ?_
        clear hm a; intro a hm
        refine s_off hm rfl rfl rfl rfl ?_
        clear hm a; intro a hm
        refine s_off hm rfl rfl rfl rfl ?_
        clear hm a; intro a hm
        refine s_off hm rfl rfl rfl rfl ?_
        clear hm a; intro a hm
        refine s_off hm rfl rfl rfl rfl ?_
        clear hm a; intro a hm
        refine s_off hm rfl rfl rfl rfl ?_
        clear hm a; intro a hm
        refine s_off hm rfl rfl rfl rfl ?_
        clear hm a; intro a hm
        refine s_off hm rfl rfl rfl rfl ?_
        clear hm a; intro a hm
        refine s_pick_f hm rfl rfl rfl rfl ?_
        clear hm a; intro a hm
        refine s_assign hm rfl rfl ?_
        clear hm a; intro a hm
        refine wpList_nil ?_
        replace hm : Fr 139 a [(0, .int .i64 (w64 ((Int.tmod (band .i64 x0 255) 7) + 1))), (1, .int .i64 t_1), (2, p2_0), (6, .bool false), (7, .pointer (some ⟨g_6, 0, none⟩)), (8, .int .i64 x_122), (9, .int .i64 x_123), (10, .int .i64 (w64 ((band .i64 t_153 15) - 4))), (11, .int .i64 (w64 (9 + (w64 (Int.tdiv (band .i64 (shr .i64 t_158 4) 7) 7))))), (12, .bool false)] := hm.keep [0, 1, 2, 6, 7, 8, 9, 10, 11, 12]
        replace hS : Sep w0 w_152 [N_145, Mem.one g_6 (.cells ([.int .i64 x_124.n, .int .i64 x_124.id, .int .i64 x_124.v, v_127, .int .i64 x_124.come, .int .i64 x_124.ready, .int .i64 x_124.commit.Kind, .int .i64 x_124.commit.From, .int .i64 x_124.commit.To, .int .i64 x_124.commit.View, .int .i64 x_124.commit.Inst, .int .i64 x_124.commit.Len, .bool x_124.commit.Has, .int .i64 x_124.commit.Members, .int .i64 x_124.commit.Source, .int .i64 x_124.commit.At, .int .i64 x_124.commit.Total, v_129, .int .i64 x_124.commit.Hop, .int .i64 x_124.commit.Seq, v_131, v_133, .int .i64 x_124.commit.Index, .int .i64 x_124.commit.Entry.Sess, .int .i64 x_124.commit.Entry.Seq, .int .i64 x_124.commit.Entry.Cmd.Kind, .int .i64 x_124.commit.Entry.Cmd.Who, v_135, v_137, v_139, .bool x_124.is] : List Value).toArray 80 (0, 0)), M_125] Z := hS
        replace hm : Fr 139 a [(0, .int .i64 (w64 ((Int.tmod (band .i64 x0 255) 7) + 1))), (1, .int .i64 t_1), (2, p2_0), (6, .bool false), (7, .pointer (some ⟨g_6, 0, none⟩)), (8, .int .i64 x_122), (9, .int .i64 x_123), (10, .int .i64 (w64 ((band .i64 t_153 15) - 4))), (11, .int .i64 (w64 (9 + (w64 (Int.tdiv (band .i64 (shr .i64 t_158 4) 7) 7))))), (12, .bool false)] := hm.keep [0, 1, 2, 6, 7, 8, 9, 10, 11, 12]
        exact x_then_n (hJ_j_167 false H _ _ ⟨N_145, hm, (Sep.sel hS [0, 1, 2] (by decide)), (Mem.le.refl _)⟩)
    · rw [if_neg hc_149] at H
      refine c_cond_f hm rfl (Bool.eq_false_iff.2 hc_149) ?_
      refine wp_exit (x_then_x (x_then_x (x_block_t ?_)))
      replace hS : Sep w0 w_147 [N_145, Mem.one g_6 (.cells ([.int .i64 x_124.n, .int .i64 x_124.id, .int .i64 x_124.v, v_127, .int .i64 x_124.come, .int .i64 x_124.ready, .int .i64 x_124.commit.Kind, .int .i64 x_124.commit.From, .int .i64 x_124.commit.To, .int .i64 x_124.commit.View, .int .i64 x_124.commit.Inst, .int .i64 x_124.commit.Len, .bool x_124.commit.Has, .int .i64 x_124.commit.Members, .int .i64 x_124.commit.Source, .int .i64 x_124.commit.At, .int .i64 x_124.commit.Total, v_129, .int .i64 x_124.commit.Hop, .int .i64 x_124.commit.Seq, v_131, v_133, .int .i64 x_124.commit.Index, .int .i64 x_124.commit.Entry.Sess, .int .i64 x_124.commit.Entry.Seq, .int .i64 x_124.commit.Entry.Cmd.Kind, .int .i64 x_124.commit.Entry.Cmd.Who, v_135, v_137, v_139, .bool x_124.is] : List Value).toArray 80 (0, 0)), M_125] Z := hS
      replace hm : Fr 139 a [(1, .int .i64 t_1), (6, .bool false), (7, .pointer (some ⟨g_6, 0, none⟩))] := hm.keep [1, 6, 7]
      exact x_then_n (hJ_j_44 x_124 H _ _ ⟨v_127, v_129, v_131, v_133, v_135, v_137, v_139, N_145, M_125, hm, (Sep.sel hS [0, 1, 2] (by decide)), (le_121.trans le_145), (ho_128.mono le_145), (hr_130.mono le_145), (hr_132.mono le_145), (hr_134.mono le_145), (hr_136.mono le_145), (hr_138.mono le_145), (hr_140.mono le_145)⟩)
  clear hKJ_144
  refine wp_region_lit ?_
  refine s_move hm rfl rfl ?_
  clear hm a; intro a hm
  refine s_move hm rfl rfl ?_
  clear hm a; intro a hm
  refine s_len hm rfl Try.underlying23 rfl hp2_0 ?_
  clear hm a; intro a hm
  refine s_cmp (b := decide (x_123 < (x2.length : Int))) hm rfl rfl rfl (.inr (.inr (.inl ⟨rfl, rfl⟩))) ?_
  clear hm a; intro a hm
  refine s_move hm rfl rfl ?_
  clear hm a; intro a hm
  by_cases hc_230 : x_123 < (x2.length : Int)
  · rw [if_pos hc_230] at H
    refine s_on hm rfl rfl (decide_eq_true hc_230) ?_
    refine s_move hm rfl rfl ?_
    clear hm a; intro a hm
    refine s_on hm rfl rfl (decide_eq_true hc_230) ?_
    refine s_cmp (b := decide (x_123 < 30)) hm rfl rfl rfl (.inr (.inr (.inl ⟨rfl, rfl⟩))) ?_
    clear hm a; intro a hm
    refine s_pick_t hm rfl rfl (decide_eq_true hc_230) rfl ?_
    clear hm a; intro a hm
    refine wpList_nil ?_
    replace hm : Fr 139 a [(0, .int .i64 (w64 ((Int.tmod (band .i64 x0 255) 7) + 1))), (1, .int .i64 t_1), (2, p2_0), (6, .bool false), (7, .pointer (some ⟨g_6, 0, none⟩)), (8, .int .i64 x_122), (9, .int .i64 x_123), (40, .bool (decide (x_123 < 30)))] := hm.keep [0, 1, 2, 6, 7, 8, 9, 40]
    replace hS : Sep w0 w_141 [N_121, Mem.one g_6 (.cells ([.int .i64 x_124.n, .int .i64 x_124.id, .int .i64 x_124.v, v_127, .int .i64 x_124.come, .int .i64 x_124.ready, .int .i64 x_124.commit.Kind, .int .i64 x_124.commit.From, .int .i64 x_124.commit.To, .int .i64 x_124.commit.View, .int .i64 x_124.commit.Inst, .int .i64 x_124.commit.Len, .bool x_124.commit.Has, .int .i64 x_124.commit.Members, .int .i64 x_124.commit.Source, .int .i64 x_124.commit.At, .int .i64 x_124.commit.Total, v_129, .int .i64 x_124.commit.Hop, .int .i64 x_124.commit.Seq, v_131, v_133, .int .i64 x_124.commit.Index, .int .i64 x_124.commit.Entry.Sess, .int .i64 x_124.commit.Entry.Seq, .int .i64 x_124.commit.Entry.Cmd.Kind, .int .i64 x_124.commit.Entry.Cmd.Who, v_135, v_137, v_139, .bool x_124.is] : List Value).toArray 80 (0, 0)), M_125] Z := hS
    replace hm : Fr 139 a [(0, .int .i64 (w64 ((Int.tmod (band .i64 x0 255) 7) + 1))), (1, .int .i64 t_1), (2, p2_0), (6, .bool false), (7, .pointer (some ⟨g_6, 0, none⟩)), (8, .int .i64 x_122), (9, .int .i64 x_123), (40, .bool (decide (x_123 < 30)))] := hm.keep [0, 1, 2, 6, 7, 8, 9, 40]
    exact x_then_n (hJ_j_148 (decide (x_123 < 30)) H _ _ ⟨N_121, hm, (Sep.sel hS [0, 1, 2] (by decide)), (Mem.le.refl _)⟩)
  · rw [if_neg hc_230] at H
    refine s_off hm rfl rfl rfl (decide_eq_false hc_230) ?_
    clear hm a; intro a hm
    refine s_off hm rfl rfl rfl (decide_eq_false hc_230) ?_
    clear hm a; intro a hm
    refine s_pick_f hm rfl rfl (decide_eq_false hc_230) rfl ?_
    clear hm a; intro a hm
    refine wpList_nil ?_
    replace hm : Fr 139 a [(0, .int .i64 (w64 ((Int.tmod (band .i64 x0 255) 7) + 1))), (1, .int .i64 t_1), (2, p2_0), (6, .bool false), (7, .pointer (some ⟨g_6, 0, none⟩)), (8, .int .i64 x_122), (9, .int .i64 x_123), (40, .bool false)] := hm.keep [0, 1, 2, 6, 7, 8, 9, 40]
    replace hS : Sep w0 w_141 [N_121, Mem.one g_6 (.cells ([.int .i64 x_124.n, .int .i64 x_124.id, .int .i64 x_124.v, v_127, .int .i64 x_124.come, .int .i64 x_124.ready, .int .i64 x_124.commit.Kind, .int .i64 x_124.commit.From, .int .i64 x_124.commit.To, .int .i64 x_124.commit.View, .int .i64 x_124.commit.Inst, .int .i64 x_124.commit.Len, .bool x_124.commit.Has, .int .i64 x_124.commit.Members, .int .i64 x_124.commit.Source, .int .i64 x_124.commit.At, .int .i64 x_124.commit.Total, v_129, .int .i64 x_124.commit.Hop, .int .i64 x_124.commit.Seq, v_131, v_133, .int .i64 x_124.commit.Index, .int .i64 x_124.commit.Entry.Sess, .int .i64 x_124.commit.Entry.Seq, .int .i64 x_124.commit.Entry.Cmd.Kind, .int .i64 x_124.commit.Entry.Cmd.Who, v_135, v_137, v_139, .bool x_124.is] : List Value).toArray 80 (0, 0)), M_125] Z := hS
    replace hm : Fr 139 a [(0, .int .i64 (w64 ((Int.tmod (band .i64 x0 255) 7) + 1))), (1, .int .i64 t_1), (2, p2_0), (6, .bool false), (7, .pointer (some ⟨g_6, 0, none⟩)), (8, .int .i64 x_122), (9, .int .i64 x_123), (40, .bool false)] := hm.keep [0, 1, 2, 6, 7, 8, 9, 40]
    exact x_then_n (hJ_j_148 false H _ _ ⟨N_121, hm, (Sep.sel hS [0, 1, 2] (by decide)), (Mem.le.refl _)⟩)


end Go.Proofs
