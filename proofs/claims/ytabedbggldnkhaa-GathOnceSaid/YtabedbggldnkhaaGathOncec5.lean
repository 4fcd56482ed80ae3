/- What the calls do: each function once. -/
import Derived.Test.YtabedbggldnkhaaGathOncec4
namespace Go.Proofs
open Go.Gp
set_option linter.unusedVariables false
set_option maxHeartbeats 4000000 in
set_option maxRecDepth 20000 in
theorem hocketlaw18_GathOnce.calls (K : Nat) (x0 : Int) (x1 : List Int) (p1_0 : Value) (x2 : List Int) (p2_1 : Value) (r : Unit) (w0 w : World) (Z A : Mem) (hA : A.le Z) (hS : Sep w0 w [] Z) (hp1_0 : Rd (Kd.int .i64) A p1_0 x1) (hp2_1 : Rd (Kd.int .i64) A p2_1 x2)
    (H : hocketlaw18_GathOnce.f K x0 x1 x2 = some r) :
    Calls Try.prog 14 [.int .i64 x0, p1_0, p2_1].toArray w (Ret fun v w' => ∃ (N : Mem), v = .bool true ∧ Sep w0 w' [N] Z) := by
  unfold hocketlaw18_GathOnce.f at H
  refine f_enter _ Try.func14 rfl Try.ntmps14 rfl fun a hm => ?_
  replace hm : Fr 156 a [(0, .int .i64 x0), (1, p1_0), (2, p2_1)] := hm
  replace hS := hS.start
  replace hS : Sep w0 w [Mem.no] Z := hS
  refine wp_seq ?_
  refine wp_region_lit ?_
  refine s_assign hm rfl rfl ?_
  clear hm a; intro a hm
  refine wpList_nil ?_
  replace hm : Fr 156 a [(0, .int .i64 x0), (1, p1_0), (2, p2_1), (6, .bool false)] := hm.keep [0, 1, 2, 6]
  refine x_then_n ?_
  refine wp_seq ?_
  refine wp_region_lit ?_
  refine s_move hm rfl rfl ?_
  clear hm a; intro a hm
  refine s_bits (i := x0) (j := 255) (r := band .i64 x0 255) hm rfl rfl rfl (.inl ⟨rfl, rfl⟩) ?_
  clear hm a; intro a hm
  refine s_div (r := Int.tmod (band .i64 x0 255) 7) hm rfl rfl rfl (by decide) (.inr ⟨rfl, rfl⟩) ?_
  clear hm a; intro a hm
  refine s_arith (r := w64 ((Int.tmod (band .i64 x0 255) 7) + 1)) hm rfl rfl rfl (.inl ⟨rfl, rfl⟩) ?_
  clear hm a; intro a hm
  refine s_assign hm rfl rfl ?_
  clear hm a; intro a hm
  refine wpList_nil ?_
  replace hm : Fr 156 a [(0, .int .i64 (w64 ((Int.tmod (band .i64 x0 255) 7) + 1))), (1, p1_0), (2, p2_1), (6, .bool false)] := hm.keep [0, 1, 2, 6]
  refine x_then_n ?_
  refine wp_seq ?_
  refine wp_region_lit ?_
  refine s_move hm rfl rfl ?_
  clear hm a; intro a hm
  refine s_build hm rfl ti29 pl29 rfl (.cons rfl (.cons rfl (.cons rfl (.cons rfl .nil)))) (cs := [.int .i64 2, .int .i64 0, .int .i64 0, .int .i64 8, .int .i64 0, .int .i64 0, .bool true, .int .i64 0, .int .i64 0, .int .i64 0, .int .i64 0, .slice none 0 0, .int .i64 0, .int .i64 0, .slice none 0 0, .slice none 0 0, .int .i64 0, .int .i64 0, .int .i64 0, .int .i64 0, .int .i64 0, .slice none 0 0, .slice none 0 0, .slice none 0 0]) rfl ?_
  clear hm a; intro a hm
  obtain ⟨t_1, et_1, H⟩ := Option.bind_eq_some_iff.1 H
  refine s_call hm rfl Try.call41 rfl (gath_New.calls (w64 ((Int.tmod (band .i64 x0 255) 7) + 1)) 0 8 (⟨2, 0, 0, 8, 0, 0, true, 0, 0, 0, 0, ([] : List UInt8), 0, 0, ([] : List Int), ([] : List Int), 0, (⟨0, 0, (⟨0, 0, ([] : List UInt8), ([] : List UInt8), ([] : List UInt8)⟩ : api_Cmd)⟩ : api_Entry)⟩ : api_Msg) _ _ _ _ _ _ t_1 w0 _ _ Mem.no (hS.new_zed []) (hS.enter [] (by decide)) (Rd.nil _ _) (Rd.nil _ _) (Rd.nil _ _) (Rd.nil _ _) (Rd.nil _ _) (Rd.nil _ _) et_1) ?_
  rintro _ w_2 ⟨g_5, v_6, v_10, v_12, v_14, v_16, v_18, v_20, N_3, M_8, rfl, hS', hr_7, hr_11, hr_13, hr_15, hr_17, hr_19, hr_21⟩
  clear hm a; intro a hm
  obtain ⟨N_4, hS'', le_4, ln_4⟩ := hS.call [] (by decide) rfl (l' := []) (ow := [Mem.one g_5 (.cells ([.int .i64 t_1.1, .int .i64 t_1.2.1, .int .i64 t_1.2.2.1, v_6, .int .i64 t_1.2.2.2.2.1, .int .i64 t_1.2.2.2.2.2.1, .int .i64 t_1.2.2.2.2.2.2.1, .int .i64 t_1.2.2.2.2.2.2.2.1, .int .i64 t_1.2.2.2.2.2.2.2.2.1, .int .i64 t_1.2.2.2.2.2.2.2.2.2.1, .int .i64 t_1.2.2.2.2.2.2.2.2.2.2.1, .int .i64 t_1.2.2.2.2.2.2.2.2.2.2.2.1, .bool t_1.2.2.2.2.2.2.2.2.2.2.2.2.1, .int .i64 t_1.2.2.2.2.2.2.2.2.2.2.2.2.2.1, .int .i64 t_1.2.2.2.2.2.2.2.2.2.2.2.2.2.2.1, .int .i64 t_1.2.2.2.2.2.2.2.2.2.2.2.2.2.2.2.1, .int .i64 t_1.2.2.2.2.2.2.2.2.2.2.2.2.2.2.2.2.1, v_10, .int .i64 t_1.2.2.2.2.2.2.2.2.2.2.2.2.2.2.2.2.2.2.1, .int .i64 t_1.2.2.2.2.2.2.2.2.2.2.2.2.2.2.2.2.2.2.2.1, v_12, v_14, .int .i64 t_1.2.2.2.2.2.2.2.2.2.2.2.2.2.2.2.2.2.2.2.2.2.2.1, .int .i64 t_1.2.2.2.2.2.2.2.2.2.2.2.2.2.2.2.2.2.2.2.2.2.2.2.1, .int .i64 t_1.2.2.2.2.2.2.2.2.2.2.2.2.2.2.2.2.2.2.2.2.2.2.2.2.1, .int .i64 t_1.2.2.2.2.2.2.2.2.2.2.2.2.2.2.2.2.2.2.2.2.2.2.2.2.2.1, .int .i64 t_1.2.2.2.2.2.2.2.2.2.2.2.2.2.2.2.2.2.2.2.2.2.2.2.2.2.2.1, v_16, v_18, v_20, .bool t_1.2.2.2.2.2.2.2.2.2.2.2.2.2.2.2.2.2.2.2.2.2.2.2.2.2.2.2.2.2.2] : List Value).toArray 80 (0, 0)), M_8]) rfl hS'
  replace hS : Sep w0 w_2 [N_4, Mem.one g_5 (.cells ([.int .i64 t_1.1, .int .i64 t_1.2.1, .int .i64 t_1.2.2.1, v_6, .int .i64 t_1.2.2.2.2.1, .int .i64 t_1.2.2.2.2.2.1, .int .i64 t_1.2.2.2.2.2.2.1, .int .i64 t_1.2.2.2.2.2.2.2.1, .int .i64 t_1.2.2.2.2.2.2.2.2.1, .int .i64 t_1.2.2.2.2.2.2.2.2.2.1, .int .i64 t_1.2.2.2.2.2.2.2.2.2.2.1, .int .i64 t_1.2.2.2.2.2.2.2.2.2.2.2.1, .bool t_1.2.2.2.2.2.2.2.2.2.2.2.2.1, .int .i64 t_1.2.2.2.2.2.2.2.2.2.2.2.2.2.1, .int .i64 t_1.2.2.2.2.2.2.2.2.2.2.2.2.2.2.1, .int .i64 t_1.2.2.2.2.2.2.2.2.2.2.2.2.2.2.2.1, .int .i64 t_1.2.2.2.2.2.2.2.2.2.2.2.2.2.2.2.2.1, v_10, .int .i64 t_1.2.2.2.2.2.2.2.2.2.2.2.2.2.2.2.2.2.2.1, .int .i64 t_1.2.2.2.2.2.2.2.2.2.2.2.2.2.2.2.2.2.2.2.1, v_12, v_14, .int .i64 t_1.2.2.2.2.2.2.2.2.2.2.2.2.2.2.2.2.2.2.2.2.2.2.1, .int .i64 t_1.2.2.2.2.2.2.2.2.2.2.2.2.2.2.2.2.2.2.2.2.2.2.2.1, .int .i64 t_1.2.2.2.2.2.2.2.2.2.2.2.2.2.2.2.2.2.2.2.2.2.2.2.2.1, .int .i64 t_1.2.2.2.2.2.2.2.2.2.2.2.2.2.2.2.2.2.2.2.2.2.2.2.2.2.1, .int .i64 t_1.2.2.2.2.2.2.2.2.2.2.2.2.2.2.2.2.2.2.2.2.2.2.2.2.2.2.1, v_16, v_18, v_20, .bool t_1.2.2.2.2.2.2.2.2.2.2.2.2.2.2.2.2.2.2.2.2.2.2.2.2.2.2.2.2.2.2] : List Value).toArray 80 (0, 0)), M_8] Z := hS''
  clear hS' hS''
  refine s_assign hm rfl rfl ?_
  clear hm a; intro a hm
  refine wpList_nil ?_
  replace hm : Fr 156 a [(0, .int .i64 (w64 ((Int.tmod (band .i64 x0 255) 7) + 1))), (1, p1_0), (2, p2_1), (6, .bool false), (7, .pointer (some ⟨g_5, 0, none⟩))] := hm.keep [0, 1, 2, 6, 7]
  refine x_then_n ?_
  refine c_seq fun KJ_22 hKJ_22 => ?_
  refine wp_seq ?_
  refine wp_region_lit ?_
  refine s_move hm rfl rfl ?_
  clear hm a; intro a hm
  refine s_ptrNil (b := false) hm rfl Try.underlying59 rfl (.inl ⟨rfl, rfl⟩) ?_
  clear hm a; intro a hm
  refine wpList_nil ?_
  replace hm : Fr 156 a [(0, .int .i64 (w64 ((Int.tmod (band .i64 x0 255) 7) + 1))), (1, p1_0), (2, p2_1), (6, .bool false), (7, .pointer (some ⟨g_5, 0, none⟩)), (26, .bool false)] := hm.keep [0, 1, 2, 6, 7, 26]
  refine x_then_n ?_
  refine c_cond_f hm rfl rfl ?_
  refine wp_skip ?_
  refine x_then_n (hKJ_22 _ _ ?_)
  refine wp_seq ?_
  refine wp_region_lit ?_
  refine s_assign hm rfl rfl ?_
  clear hm a; intro a hm
  refine wpList_nil ?_
  replace hm : Fr 156 a [(0, .int .i64 (w64 ((Int.tmod (band .i64 x0 255) 7) + 1))), (1, p1_0), (2, p2_1), (6, .bool false), (7, .pointer (some ⟨g_5, 0, none⟩)), (8, .int .i64 1)] := hm.keep [0, 1, 2, 6, 7, 8]
  refine x_then_n ?_
  refine c_seq fun KJ_23 hKJ_23 => ?_
  refine wp_seq ?_
  refine wp_region_lit ?_
  refine s_assign hm rfl rfl ?_
  clear hm a; intro a hm
  refine wpList_nil ?_
  replace hm : Fr 156 a [(0, .int .i64 (w64 ((Int.tmod (band .i64 x0 255) 7) + 1))), (1, p1_0), (2, p2_1), (6, .bool false), (7, .pointer (some ⟨g_5, 0, none⟩)), (8, .int .i64 1), (9, .int .i64 0)] := hm.keep [0, 1, 2, 6, 7, 8, 9]
  refine x_then_n ?_
  have hJ_j_44 : ∀ (x_25 : Int), ∀ (x_26 : gath_Gather), hocketlaw18_GathOnce.J1 K x2 x0 x_25 x_26 = some r → ∀ (a : Act) (w_43 : World), (∃ (v_29 : Value) (v_31 : Value) (v_33 : Value) (v_35 : Value) (v_37 : Value) (v_39 : Value) (v_41 : Value) (N_24 : Mem) (M_27 : Mem), Fr 156 a [(0, .int .i64 (w64 ((Int.tmod (band .i64 x0 255) 7) + 1))), (2, p2_1), (6, .bool false), (7, .pointer (some ⟨g_5, 0, none⟩)), (8, .int .i64 x_25)] ∧ Sep w0 w_43 [N_24, Mem.one g_5 (.cells ([.int .i64 x_26.n, .int .i64 x_26.id, .int .i64 x_26.v, v_29, .int .i64 x_26.come, .int .i64 x_26.ready, .int .i64 x_26.commit.Kind, .int .i64 x_26.commit.From, .int .i64 x_26.commit.To, .int .i64 x_26.commit.View, .int .i64 x_26.commit.Inst, .int .i64 x_26.commit.Len, .bool x_26.commit.Has, .int .i64 x_26.commit.Members, .int .i64 x_26.commit.Source, .int .i64 x_26.commit.At, .int .i64 x_26.commit.Total, v_31, .int .i64 x_26.commit.Hop, .int .i64 x_26.commit.Seq, v_33, v_35, .int .i64 x_26.commit.Index, .int .i64 x_26.commit.Entry.Sess, .int .i64 x_26.commit.Entry.Seq, .int .i64 x_26.commit.Entry.Cmd.Kind, .int .i64 x_26.commit.Entry.Cmd.Who, v_37, v_39, v_41, .bool x_26.is] : List Value).toArray 80 (0, 0)), M_27] Z ∧ N_4.le N_24 ∧ Own k_api_Msg 29 M_27 N_24 v_29 x_26.l ∧ Rd Kd.u8 N_24 v_31 x_26.commit.Data ∧ Rd (Kd.int .i64) N_24 v_33 x_26.commit.Have ∧ Rd (Kd.int .i64) N_24 v_35 x_26.commit.Need ∧ Rd Kd.u8 N_24 v_37 x_26.commit.Entry.Cmd.Key ∧ Rd Kd.u8 N_24 v_39 x_26.commit.Entry.Cmd.Val ∧ Rd Kd.u8 N_24 v_41 x_26.commit.Entry.Cmd.Old) → KJ_23 a w_43 := by
    clear H hm hS a
    rintro x_25 x_26 H a w_43 ⟨v_29, v_31, v_33, v_35, v_37, v_39, v_41, N_24, M_27, hm, hS, le_24, ho_30, hr_32, hr_34, hr_36, hr_38, hr_40, hr_42⟩
    unfold hocketlaw18_GathOnce.J1 at H
    refine hKJ_23 _ _ ?_
    refine wp_seq ?_
    refine wp_region_lit ?_
    refine s_move hm rfl rfl ?_
    clear hm a; intro a hm
    obtain ⟨t_45, et_45, H⟩ := Option.bind_eq_some_iff.1 H
    refine s_call hm rfl Try.call45 rfl (gath_Gather_Commit.calls K _ x_26.n x_26.id x_26.v x_26.l _ _ x_26.come x_26.ready x_26.commit.Kind x_26.commit.From x_26.commit.To x_26.commit.View x_26.commit.Inst x_26.commit.Len x_26.commit.Has x_26.commit.Members x_26.commit.Source x_26.commit.At x_26.commit.Total x_26.commit.Data _ x_26.commit.Hop x_26.commit.Seq x_26.commit.Have _ x_26.commit.Need _ x_26.commit.Index x_26.commit.Entry.Sess x_26.commit.Entry.Seq x_26.commit.Entry.Cmd.Kind x_26.commit.Entry.Cmd.Who x_26.commit.Entry.Cmd.Key _ x_26.commit.Entry.Cmd.Val _ x_26.commit.Entry.Cmd.Old _ x_26.is t_45 w0 _ _ N_24 (hS.new_zed [0, 1]) (hS.enter [0, 1] (by decide)) (ho_30.mono (Mem.le.refl _)) hr_32 hr_34 hr_36 hr_38 hr_40 hr_42 et_45) ?_
    rintro _ w_46 ⟨v_49, v_51, v_53, v_55, v_57, v_59, v_61, v_65, v_67, v_69, v_71, v_73, v_75, N_47, M_63, rfl, hS', hr_50, hr_52, hr_54, hr_56, hr_58, hr_60, hr_62, hr_66, hr_68, hr_70, hr_72, hr_74, hr_76⟩
    clear hm a; intro a hm
    obtain ⟨N_48, hS'', le_48, ln_48⟩ := hS.call [0, 1] (by decide) rfl (l' := [Mem.one g_5 (.cells ([.int .i64 t_45.2.2.1, .int .i64 t_45.2.2.2.1, .int .i64 t_45.2.2.2.2.1, v_61, .int .i64 t_45.2.2.2.2.2.2.1, .int .i64 t_45.2.2.2.2.2.2.2.1, .int .i64 t_45.2.2.2.2.2.2.2.2.1, .int .i64 t_45.2.2.2.2.2.2.2.2.2.1, .int .i64 t_45.2.2.2.2.2.2.2.2.2.2.1, .int .i64 t_45.2.2.2.2.2.2.2.2.2.2.2.1, .int .i64 t_45.2.2.2.2.2.2.2.2.2.2.2.2.1, .int .i64 t_45.2.2.2.2.2.2.2.2.2.2.2.2.2.1, .bool t_45.2.2.2.2.2.2.2.2.2.2.2.2.2.2.1, .int .i64 t_45.2.2.2.2.2.2.2.2.2.2.2.2.2.2.2.1, .int .i64 t_45.2.2.2.2.2.2.2.2.2.2.2.2.2.2.2.2.1, .int .i64 t_45.2.2.2.2.2.2.2.2.2.2.2.2.2.2.2.2.2.1, .int .i64 t_45.2.2.2.2.2.2.2.2.2.2.2.2.2.2.2.2.2.2.1, v_65, .int .i64 t_45.2.2.2.2.2.2.2.2.2.2.2.2.2.2.2.2.2.2.2.2.1, .int .i64 t_45.2.2.2.2.2.2.2.2.2.2.2.2.2.2.2.2.2.2.2.2.2.1, v_67, v_69, .int .i64 t_45.2.2.2.2.2.2.2.2.2.2.2.2.2.2.2.2.2.2.2.2.2.2.2.2.1, .int .i64 t_45.2.2.2.2.2.2.2.2.2.2.2.2.2.2.2.2.2.2.2.2.2.2.2.2.2.1, .int .i64 t_45.2.2.2.2.2.2.2.2.2.2.2.2.2.2.2.2.2.2.2.2.2.2.2.2.2.2.1, .int .i64 t_45.2.2.2.2.2.2.2.2.2.2.2.2.2.2.2.2.2.2.2.2.2.2.2.2.2.2.2.1, .int .i64 t_45.2.2.2.2.2.2.2.2.2.2.2.2.2.2.2.2.2.2.2.2.2.2.2.2.2.2.2.2.1, v_71, v_73, v_75, .bool t_45.2.2.2.2.2.2.2.2.2.2.2.2.2.2.2.2.2.2.2.2.2.2.2.2.2.2.2.2.2.2.2.2] : List Value).toArray 80 (0, 0)), M_63]) (ow := []) rfl hS'
    replace hS : Sep w0 w_46 [N_48, Mem.one g_5 (.cells ([.int .i64 t_45.2.2.1, .int .i64 t_45.2.2.2.1, .int .i64 t_45.2.2.2.2.1, v_61, .int .i64 t_45.2.2.2.2.2.2.1, .int .i64 t_45.2.2.2.2.2.2.2.1, .int .i64 t_45.2.2.2.2.2.2.2.2.1, .int .i64 t_45.2.2.2.2.2.2.2.2.2.1, .int .i64 t_45.2.2.2.2.2.2.2.2.2.2.1, .int .i64 t_45.2.2.2.2.2.2.2.2.2.2.2.1, .int .i64 t_45.2.2.2.2.2.2.2.2.2.2.2.2.1, .int .i64 t_45.2.2.2.2.2.2.2.2.2.2.2.2.2.1, .bool t_45.2.2.2.2.2.2.2.2.2.2.2.2.2.2.1, .int .i64 t_45.2.2.2.2.2.2.2.2.2.2.2.2.2.2.2.1, .int .i64 t_45.2.2.2.2.2.2.2.2.2.2.2.2.2.2.2.2.1, .int .i64 t_45.2.2.2.2.2.2.2.2.2.2.2.2.2.2.2.2.2.1, .int .i64 t_45.2.2.2.2.2.2.2.2.2.2.2.2.2.2.2.2.2.2.1, v_65, .int .i64 t_45.2.2.2.2.2.2.2.2.2.2.2.2.2.2.2.2.2.2.2.2.1, .int .i64 t_45.2.2.2.2.2.2.2.2.2.2.2.2.2.2.2.2.2.2.2.2.2.1, v_67, v_69, .int .i64 t_45.2.2.2.2.2.2.2.2.2.2.2.2.2.2.2.2.2.2.2.2.2.2.2.2.1, .int .i64 t_45.2.2.2.2.2.2.2.2.2.2.2.2.2.2.2.2.2.2.2.2.2.2.2.2.2.1, .int .i64 t_45.2.2.2.2.2.2.2.2.2.2.2.2.2.2.2.2.2.2.2.2.2.2.2.2.2.2.1, .int .i64 t_45.2.2.2.2.2.2.2.2.2.2.2.2.2.2.2.2.2.2.2.2.2.2.2.2.2.2.2.1, .int .i64 t_45.2.2.2.2.2.2.2.2.2.2.2.2.2.2.2.2.2.2.2.2.2.2.2.2.2.2.2.2.1, v_71, v_73, v_75, .bool t_45.2.2.2.2.2.2.2.2.2.2.2.2.2.2.2.2.2.2.2.2.2.2.2.2.2.2.2.2.2.2.2.2] : List Value).toArray 80 (0, 0)), M_63] Z := hS''
    clear hS' hS''
    refine s_move hm rfl rfl ?_
    clear hm a; intro a hm
    refine s_extract hm rfl rfl rfl ?_
    clear hm a; intro a hm
    refine s_extract hm rfl rfl rfl ?_
    clear hm a; intro a hm
    refine v_alloc hm rfl ti29 hS ?_
    intro w_77 g_78 hS'
    clear hm a; intro a hm
    replace hS : Sep w0 w_77 [N_48, Mem.one g_5 (.cells ([.int .i64 t_45.2.2.1, .int .i64 t_45.2.2.2.1, .int .i64 t_45.2.2.2.2.1, v_61, .int .i64 t_45.2.2.2.2.2.2.1, .int .i64 t_45.2.2.2.2.2.2.2.1, .int .i64 t_45.2.2.2.2.2.2.2.2.1, .int .i64 t_45.2.2.2.2.2.2.2.2.2.1, .int .i64 t_45.2.2.2.2.2.2.2.2.2.2.1, .int .i64 t_45.2.2.2.2.2.2.2.2.2.2.2.1, .int .i64 t_45.2.2.2.2.2.2.2.2.2.2.2.2.1, .int .i64 t_45.2.2.2.2.2.2.2.2.2.2.2.2.2.1, .bool t_45.2.2.2.2.2.2.2.2.2.2.2.2.2.2.1, .int .i64 t_45.2.2.2.2.2.2.2.2.2.2.2.2.2.2.2.1, .int .i64 t_45.2.2.2.2.2.2.2.2.2.2.2.2.2.2.2.2.1, .int .i64 t_45.2.2.2.2.2.2.2.2.2.2.2.2.2.2.2.2.2.1, .int .i64 t_45.2.2.2.2.2.2.2.2.2.2.2.2.2.2.2.2.2.2.1, v_65, .int .i64 t_45.2.2.2.2.2.2.2.2.2.2.2.2.2.2.2.2.2.2.2.2.1, .int .i64 t_45.2.2.2.2.2.2.2.2.2.2.2.2.2.2.2.2.2.2.2.2.2.1, v_67, v_69, .int .i64 t_45.2.2.2.2.2.2.2.2.2.2.2.2.2.2.2.2.2.2.2.2.2.2.2.2.1, .int .i64 t_45.2.2.2.2.2.2.2.2.2.2.2.2.2.2.2.2.2.2.2.2.2.2.2.2.2.1, .int .i64 t_45.2.2.2.2.2.2.2.2.2.2.2.2.2.2.2.2.2.2.2.2.2.2.2.2.2.2.1, .int .i64 t_45.2.2.2.2.2.2.2.2.2.2.2.2.2.2.2.2.2.2.2.2.2.2.2.2.2.2.2.1, .int .i64 t_45.2.2.2.2.2.2.2.2.2.2.2.2.2.2.2.2.2.2.2.2.2.2.2.2.2.2.2.2.1, v_71, v_73, v_75, .bool t_45.2.2.2.2.2.2.2.2.2.2.2.2.2.2.2.2.2.2.2.2.2.2.2.2.2.2.2.2.2.2.2.2] : List Value).toArray 80 (0, 0)), M_63, Mem.one g_78 (.cells ([.int .i64 0, .int .i64 0, .int .i64 0, .int .i64 0, .int .i64 0, .int .i64 0, .bool false, .int .i64 0, .int .i64 0, .int .i64 0, .int .i64 0, .slice none 0 0, .int .i64 0, .int .i64 0, .slice none 0 0, .slice none 0 0, .int .i64 0, .int .i64 0, .int .i64 0, .int .i64 0, .int .i64 0, .slice none 0 0, .slice none 0 0, .slice none 0 0] : List Value).toArray 29 (0, 0))] Z := hS'
    clear hS'
    obtain ⟨w_79, hs', hS'⟩ := hS.store (P := Try.prog) (p := 3) (o := 0) (t := 29) (v := .agg ([.int .i64 t_45.1.Kind, .int .i64 t_45.1.From, .int .i64 t_45.1.To, .int .i64 t_45.1.View, .int .i64 t_45.1.Inst, .int .i64 t_45.1.Len, .bool t_45.1.Has, .int .i64 t_45.1.Members, .int .i64 t_45.1.Source, .int .i64 t_45.1.At, .int .i64 t_45.1.Total, v_49, .int .i64 t_45.1.Hop, .int .i64 t_45.1.Seq, v_51, v_53, .int .i64 t_45.1.Index, .int .i64 t_45.1.Entry.Sess, .int .i64 t_45.1.Entry.Seq, .int .i64 t_45.1.Entry.Cmd.Kind, .int .i64 t_45.1.Entry.Cmd.Who, v_55, v_57, v_59] : List Value).toArray) (vs := [.int .i64 t_45.1.Kind, .int .i64 t_45.1.From, .int .i64 t_45.1.To, .int .i64 t_45.1.View, .int .i64 t_45.1.Inst, .int .i64 t_45.1.Len, .bool t_45.1.Has, .int .i64 t_45.1.Members, .int .i64 t_45.1.Source, .int .i64 t_45.1.At, .int .i64 t_45.1.Total, v_49, .int .i64 t_45.1.Hop, .int .i64 t_45.1.Seq, v_51, v_53, .int .i64 t_45.1.Index, .int .i64 t_45.1.Entry.Sess, .int .i64 t_45.1.Entry.Seq, .int .i64 t_45.1.Entry.Cmd.Kind, .int .i64 t_45.1.Entry.Cmd.Who, v_55, v_57, v_59]) rfl ti29 rfl rfl rfl (by intro u hu; simp only [List.mem_cons, List.not_mem_nil, or_false] at hu; rcases hu with rfl | rfl | rfl | rfl | rfl | rfl | rfl | rfl | rfl | rfl | rfl | rfl | rfl | rfl | rfl | rfl | rfl | rfl | rfl | rfl | rfl | rfl | rfl | rfl <;> first | rfl | exact (hr_50.mono (Mem.un_le le_48 ln_48)).one | exact (hr_52.mono (Mem.un_le le_48 ln_48)).one | exact (hr_54.mono (Mem.un_le le_48 ln_48)).one | exact (hr_56.mono (Mem.un_le le_48 ln_48)).one | exact (hr_58.mono (Mem.un_le le_48 ln_48)).one | exact (hr_60.mono (Mem.un_le le_48 ln_48)).one)
    refine s_store hm rfl rfl hs' ?_
    replace hS : Sep w0 w_79 [N_48, Mem.one g_5 (.cells ([.int .i64 t_45.2.2.1, .int .i64 t_45.2.2.2.1, .int .i64 t_45.2.2.2.2.1, v_61, .int .i64 t_45.2.2.2.2.2.2.1, .int .i64 t_45.2.2.2.2.2.2.2.1, .int .i64 t_45.2.2.2.2.2.2.2.2.1, .int .i64 t_45.2.2.2.2.2.2.2.2.2.1, .int .i64 t_45.2.2.2.2.2.2.2.2.2.2.1, .int .i64 t_45.2.2.2.2.2.2.2.2.2.2.2.1, .int .i64 t_45.2.2.2.2.2.2.2.2.2.2.2.2.1, .int .i64 t_45.2.2.2.2.2.2.2.2.2.2.2.2.2.1, .bool t_45.2.2.2.2.2.2.2.2.2.2.2.2.2.2.1, .int .i64 t_45.2.2.2.2.2.2.2.2.2.2.2.2.2.2.2.1, .int .i64 t_45.2.2.2.2.2.2.2.2.2.2.2.2.2.2.2.2.1, .int .i64 t_45.2.2.2.2.2.2.2.2.2.2.2.2.2.2.2.2.2.1, .int .i64 t_45.2.2.2.2.2.2.2.2.2.2.2.2.2.2.2.2.2.2.1, v_65, .int .i64 t_45.2.2.2.2.2.2.2.2.2.2.2.2.2.2.2.2.2.2.2.2.1, .int .i64 t_45.2.2.2.2.2.2.2.2.2.2.2.2.2.2.2.2.2.2.2.2.2.1, v_67, v_69, .int .i64 t_45.2.2.2.2.2.2.2.2.2.2.2.2.2.2.2.2.2.2.2.2.2.2.2.2.1, .int .i64 t_45.2.2.2.2.2.2.2.2.2.2.2.2.2.2.2.2.2.2.2.2.2.2.2.2.2.1, .int .i64 t_45.2.2.2.2.2.2.2.2.2.2.2.2.2.2.2.2.2.2.2.2.2.2.2.2.2.2.1, .int .i64 t_45.2.2.2.2.2.2.2.2.2.2.2.2.2.2.2.2.2.2.2.2.2.2.2.2.2.2.2.1, .int .i64 t_45.2.2.2.2.2.2.2.2.2.2.2.2.2.2.2.2.2.2.2.2.2.2.2.2.2.2.2.2.1, v_71, v_73, v_75, .bool t_45.2.2.2.2.2.2.2.2.2.2.2.2.2.2.2.2.2.2.2.2.2.2.2.2.2.2.2.2.2.2.2.2] : List Value).toArray 80 (0, 0)), M_63, Mem.one g_78 (.cells ([.int .i64 t_45.1.Kind, .int .i64 t_45.1.From, .int .i64 t_45.1.To, .int .i64 t_45.1.View, .int .i64 t_45.1.Inst, .int .i64 t_45.1.Len, .bool t_45.1.Has, .int .i64 t_45.1.Members, .int .i64 t_45.1.Source, .int .i64 t_45.1.At, .int .i64 t_45.1.Total, v_49, .int .i64 t_45.1.Hop, .int .i64 t_45.1.Seq, v_51, v_53, .int .i64 t_45.1.Index, .int .i64 t_45.1.Entry.Sess, .int .i64 t_45.1.Entry.Seq, .int .i64 t_45.1.Entry.Cmd.Kind, .int .i64 t_45.1.Entry.Cmd.Who, v_55, v_57, v_59] : List Value).toArray 29 (0, 0))] Z := hS'
    clear hs' hS'
    refine s_assign hm rfl rfl ?_
    clear hm a; intro a hm
    refine wpList_nil ?_
    replace hm : Fr 156 a [(0, .int .i64 (w64 ((Int.tmod (band .i64 x0 255) 7) + 1))), (2, p2_1), (6, .bool false), (7, .pointer (some ⟨g_5, 0, none⟩)), (8, .int .i64 x_25), (11, .pointer (some ⟨g_78, 0, none⟩)), (12, .bool t_45.2.1)] := hm.keep [0, 2, 6, 7, 8, 11, 12]
    refine x_then_n ?_
    refine c_seq fun KJ_80 hKJ_80 => ?_
    refine wp_seq ?_
    refine wp_region_lit ?_
    refine s_assign hm rfl rfl ?_
    clear hm a; intro a hm
    refine wpList_nil ?_
    replace hm : Fr 156 a [(0, .int .i64 (w64 ((Int.tmod (band .i64 x0 255) 7) + 1))), (2, p2_1), (6, .bool false), (7, .pointer (some ⟨g_5, 0, none⟩)), (8, .int .i64 x_25), (11, .pointer (some ⟨g_78, 0, none⟩)), (12, .bool t_45.2.1), (13, .int .i64 0)] := hm.keep [0, 2, 6, 7, 8, 11, 12, 13]
    refine x_then_n ?_
    have hJ_j_83 : hocketlaw18_GathOnce.J2 K t_45 x_25 x0 = some r → ∀ (a : Act) (w_82 : World), (∃ (N_81 : Mem), Fr 156 a [(0, .int .i64 (w64 ((Int.tmod (band .i64 x0 255) 7) + 1))), (6, .bool false), (8, .int .i64 x_25), (11, .pointer (some ⟨g_78, 0, none⟩)), (12, .bool t_45.2.1)] ∧ Sep w0 w_82 [N_81, Mem.no, Mem.no, Mem.one g_78 (.cells ([.int .i64 t_45.1.Kind, .int .i64 t_45.1.From, .int .i64 t_45.1.To, .int .i64 t_45.1.View, .int .i64 t_45.1.Inst, .int .i64 t_45.1.Len, .bool t_45.1.Has, .int .i64 t_45.1.Members, .int .i64 t_45.1.Source, .int .i64 t_45.1.At, .int .i64 t_45.1.Total, v_49, .int .i64 t_45.1.Hop, .int .i64 t_45.1.Seq, v_51, v_53, .int .i64 t_45.1.Index, .int .i64 t_45.1.Entry.Sess, .int .i64 t_45.1.Entry.Seq, .int .i64 t_45.1.Entry.Cmd.Kind, .int .i64 t_45.1.Entry.Cmd.Who, v_55, v_57, v_59] : List Value).toArray 29 (0, 0))] Z ∧ N_48.le N_81) → KJ_80 a w_82 := by
      clear H hm hS a
      rintro H a w_82 ⟨N_81, hm, hS, le_81⟩
      unfold hocketlaw18_GathOnce.J2 at H
      refine hKJ_80 _ _ ?_
      refine c_seq fun KJ_84 hKJ_84 => ?_
      refine wp_region_lit ?_
      refine s_move hm rfl rfl ?_
      clear hm a; intro a hm
      refine s_not hm rfl rfl ?_
      clear hm a; intro a hm
      refine s_move hm rfl rfl ?_
      clear hm a; intro a hm
      by_cases hc_85 : t_45.2.1 = true
      · rw [if_pos hc_85] at H
        refine s_on hm rfl rfl (nf hc_85) ?_
        refine s_fieldAddr hm rfl Try.underlying29 rfl ti3 rfl rfl ?_
        clear hm a; intro a hm
        refine s_on hm rfl rfl (nf hc_85) ?_
        refine s_load hm rfl rfl (hS.load_one (p := 3) rfl Try.underlying3 rfl rfl) ?_
        clear hm a; intro a hm
        refine s_on hm rfl rfl (nf hc_85) ?_
        refine s_move hm rfl rfl ?_
        clear hm a; intro a hm
        refine s_on hm rfl rfl (nf hc_85) ?_
        refine s_cmp (b := (t_45.1.Members == x_25)) hm rfl rfl rfl (.inl ⟨rfl, rfl⟩) ?_
        clear hm a; intro a hm
        refine s_on hm rfl rfl (nf hc_85) ?_
        refine s_move hm rfl rfl ?_
        clear hm a; intro a hm
        by_cases hc_86 : t_45.1.Members = x_25
        · rw [if_pos hc_86] at H
          refine s_on hm rfl rfl (beq_iff_eq.2 hc_86) ?_
          refine s_fieldAddr hm rfl Try.underlying29 rfl ti3 rfl rfl ?_
          clear hm a; intro a hm
          refine s_on hm rfl rfl (beq_iff_eq.2 hc_86) ?_
          refine s_load hm rfl rfl (hS.load_one (p := 3) rfl Try.underlying3 rfl rfl) ?_
          clear hm a; intro a hm
          refine s_on hm rfl rfl (beq_iff_eq.2 hc_86) ?_
          refine s_move hm rfl rfl ?_
          clear hm a; intro a hm
          refine s_on hm rfl rfl (beq_iff_eq.2 hc_86) ?_
          obtain ⟨t_87, et_87, H⟩ := Option.bind_eq_some_iff.1 H
          refine s_call hm rfl Try.call27 rfl (hocketref11_Most.calls K t_45.1.Members (w64 ((Int.tmod (band .i64 x0 255) 7) + 1)) t_87 w0 _ _ _ (Mem.le.refl _) (hS.enter [] (by decide))  et_87) ?_
          rintro _ w_88 ⟨N_89, rfl, hS'⟩
          clear hm a; intro a hm
          obtain ⟨N_90, hS'', le_90, ln_90⟩ := hS.call [] (by decide) rfl (l' := []) (ow := []) rfl hS'
          replace hS : Sep w0 w_88 [N_90, Mem.no, Mem.no, Mem.one g_78 (.cells ([.int .i64 t_45.1.Kind, .int .i64 t_45.1.From, .int .i64 t_45.1.To, .int .i64 t_45.1.View, .int .i64 t_45.1.Inst, .int .i64 t_45.1.Len, .bool t_45.1.Has, .int .i64 t_45.1.Members, .int .i64 t_45.1.Source, .int .i64 t_45.1.At, .int .i64 t_45.1.Total, v_49, .int .i64 t_45.1.Hop, .int .i64 t_45.1.Seq, v_51, v_53, .int .i64 t_45.1.Index, .int .i64 t_45.1.Entry.Sess, .int .i64 t_45.1.Entry.Seq, .int .i64 t_45.1.Entry.Cmd.Kind, .int .i64 t_45.1.Entry.Cmd.Who, v_55, v_57, v_59] : List Value).toArray 29 (0, 0))] Z := hS''
          clear hS' hS''
          refine s_on hm rfl rfl (nf hc_85) ?_
          refine s_pick_t hm rfl rfl (beq_iff_eq.2 hc_86) rfl ?_
          clear hm a; intro a hm
          refine s_on hm rfl rfl (nf hc_85) ?_
          refine s_move hm rfl rfl ?_
          clear hm a; intro a hm
          by_cases hc_91 : t_87 = true
          · rw [if_pos hc_91] at H
            refine s_on hm rfl rfl hc_91 ?_
            refine s_fieldAddr hm rfl Try.underlying29 rfl ti3 rfl rfl ?_
            clear hm a; intro a hm
            refine s_on hm rfl rfl hc_91 ?_
            refine s_load hm rfl rfl (hS.load_one (p := 3) rfl Try.underlying3 rfl rfl) ?_
            clear hm a; intro a hm
            refine s_on hm rfl rfl hc_91 ?_
            refine s_fieldAddr hm rfl Try.underlying29 rfl ti3 rfl rfl ?_
            clear hm a; intro a hm
            refine s_on hm rfl rfl hc_91 ?_
            refine s_load hm rfl rfl (hS.load_one (p := 3) rfl Try.underlying3 rfl rfl) ?_
            clear hm a; intro a hm
            refine s_on hm rfl rfl hc_91 ?_
            refine s_conv (wu64 t_45.1.Source) hm rfl Try.underlying3 Try.underlying38 rfl rfl ?_
            clear hm a; intro a hm
            refine s_on hm rfl rfl hc_91 ?_
            refine s_shift (r := shr .i64 t_45.1.Members (wu64 t_45.1.Source)) hm rfl rfl rfl (wu64_nn _) (.inr ⟨rfl, rfl⟩) ?_
            clear hm a; intro a hm
            refine s_on hm rfl rfl hc_91 ?_
            refine s_bits (i := shr .i64 t_45.1.Members (wu64 t_45.1.Source)) (j := 1) (r := band .i64 (shr .i64 t_45.1.Members (wu64 t_45.1.Source)) 1) hm rfl rfl rfl (.inl ⟨rfl, rfl⟩) ?_
            clear hm a; intro a hm
            refine s_on hm rfl rfl hc_91 ?_
            refine s_cmp (b := ((band .i64 (shr .i64 t_45.1.Members (wu64 t_45.1.Source)) 1) == 1)) hm rfl rfl rfl (.inl ⟨rfl, rfl⟩) ?_
            clear hm a; intro a hm
            refine s_on hm rfl rfl (nf hc_85) ?_
            refine s_pick_t hm rfl rfl hc_91 rfl ?_
            clear hm a; intro a hm
            refine s_on hm rfl rfl (nf hc_85) ?_
            refine s_move hm rfl rfl ?_
            clear hm a; intro a hm
            by_cases hc_92 : (band .i64 (shr .i64 t_45.1.Members (wu64 t_45.1.Source)) 1) = 1
            · rw [if_pos hc_92] at H
              refine s_on hm rfl rfl (beq_iff_eq.2 hc_92) ?_
              refine s_fieldAddr hm rfl Try.underlying29 rfl ti3 rfl rfl ?_
              clear hm a; intro a hm
              refine s_on hm rfl rfl (beq_iff_eq.2 hc_92) ?_
              refine s_load hm rfl rfl (hS.load_one (p := 3) rfl Try.underlying3 rfl rfl) ?_
              clear hm a; intro a hm
              refine s_on hm rfl rfl (beq_iff_eq.2 hc_92) ?_
              refine s_cmp (b := (t_45.1.View == 8)) hm rfl rfl rfl (.inl ⟨rfl, rfl⟩) ?_
              clear hm a; intro a hm
              refine s_on hm rfl rfl (nf hc_85) ?_
              refine s_pick_t hm rfl rfl (beq_iff_eq.2 hc_92) rfl ?_
              clear hm a; intro a hm
              refine s_pick_f hm rfl rfl (nf hc_85) rfl ?_
              clear hm a; intro a hm
              refine s_move hm rfl rfl ?_
              clear hm a; intro a hm
              by_cases hc_93 : t_45.1.View = 8
              · rw [if_pos hc_93] at H
                refine s_on hm rfl rfl (beq_iff_eq.2 hc_93) ?_
                obtain ⟨t_94, et_94, H⟩ := Option.bind_eq_some_iff.1 H
                refine s_call hm rfl Try.call49 rfl (hocketlaw18_awake.calls K  t_94 w0 _ _ _ (Mem.le.refl _) (hS.enter [] (by decide))  et_94) ?_
                rintro _ w_95 ⟨N_96, rfl, hS'⟩
                clear hm a; intro a hm
                obtain ⟨N_97, hS'', le_97, ln_97⟩ := hS.call [] (by decide) rfl (l' := []) (ow := []) rfl hS'
                replace hS : Sep w0 w_95 [N_97, Mem.no, Mem.no, Mem.one g_78 (.cells ([.int .i64 t_45.1.Kind, .int .i64 t_45.1.From, .int .i64 t_45.1.To, .int .i64 t_45.1.View, .int .i64 t_45.1.Inst, .int .i64 t_45.1.Len, .bool t_45.1.Has, .int .i64 t_45.1.Members, .int .i64 t_45.1.Source, .int .i64 t_45.1.At, .int .i64 t_45.1.Total, v_49, .int .i64 t_45.1.Hop, .int .i64 t_45.1.Seq, v_51, v_53, .int .i64 t_45.1.Index, .int .i64 t_45.1.Entry.Sess, .int .i64 t_45.1.Entry.Seq, .int .i64 t_45.1.Entry.Cmd.Kind, .int .i64 t_45.1.Entry.Cmd.Who, v_55, v_57, v_59] : List Value).toArray 29 (0, 0))] Z := hS''
                clear hS' hS''
                refine s_pick_t hm rfl rfl (beq_iff_eq.2 hc_93) rfl ?_
                clear hm a; intro a hm
                refine s_assign hm rfl rfl ?_
                clear hm a; intro a hm
                refine wpList_nil ?_
                replace hm : Fr 156 a [(6, .bool true)] := hm.keep [6]
                refine x_then_n (hKJ_84 _ _ ?_)
                refine wp_ret ?_
                exact f_ret hm (rs := [.tmp 6]) rfl (.tmp rfl .nil) ⟨_, rfl, N_97, rfl, (Sep.sel hS [0] (by decide))⟩
              · rw [if_neg hc_93] at H
                cases H
            · rw [if_neg hc_92] at H
              cases H
          · rw [if_neg hc_91] at H
            cases H
        · rw [if_neg hc_86] at H
          cases H
      · rw [if_neg hc_85] at H
        refine s_off hm rfl rfl rfl (nt (Bool.eq_false_iff.2 hc_85)) ?_
        clear hm a; intro a hm
        refine s_off hm rfl rfl rfl (nt (Bool.eq_false_iff.2 hc_85)) ?_
        clear hm a; intro a hm
        refine s_off hm rfl rfl rfl (nt (Bool.eq_false_iff.2 hc_85)) ?_
        clear hm a; intro a hm
        refine s_off hm rfl rfl rfl (nt (Bool.eq_false_iff.2 hc_85)) ?_
        clear hm a; intro a hm
        refine s_off hm rfl rfl rfl (nt (Bool.eq_false_iff.2 hc_85)) ?_
        clear hm a; intro a hm
        refine s_offu hm rfl rfl rfl ?_
        clear hm a; intro a hm
        refine s_offu hm rfl rfl rfl ?_
        clear hm a; intro a hm
        refine s_offu hm rfl rfl rfl ?_
        clear hm a; intro a hm
        refine s_offu hm rfl rfl rfl ?_
        clear hm a; intro a hm
        refine s_off hm rfl rfl rfl (nt (Bool.eq_false_iff.2 hc_85)) ?_
        clear hm a; intro a hm
        refine s_off hm rfl rfl rfl (nt (Bool.eq_false_iff.2 hc_85)) ?_
        clear hm a; intro a hm
        refine s_offu hm rfl rfl rfl ?_
        clear hm a; intro a hm
        refine s_offu hm rfl rfl rfl ?_
        clear hm a; intro a hm
        refine s_offu hm rfl rfl rfl ?_
        clear hm a; intro a hm
        refine s_offu hm rfl rfl rfl ?_
        clear hm a; intro a hm
        refine s_offu hm rfl rfl rfl ?_
        clear hm a; intro a hm
        refine s_offu hm rfl rfl rfl ?_
        clear hm a; intro a hm
        refine s_offu hm rfl rfl rfl ?_
        clear hm a; intro a hm
        refine s_offu hm rfl rfl rfl ?_
        clear hm a; intro a hm
        refine s_off hm rfl rfl rfl (nt (Bool.eq_false_iff.2 hc_85)) ?_
        clear hm a; intro a hm
        refine s_off hm rfl rfl rfl (nt (Bool.eq_false_iff.2 hc_85)) ?_
        clear hm a; intro a hm
        refine s_offu hm rfl rfl rfl ?_
        clear hm a; intro a hm
        refine s_offu hm rfl rfl rfl ?_
        clear hm a; intro a hm
        refine s_offu hm rfl rfl rfl ?_
        clear hm a; intro a hm
        refine s_off hm rfl rfl rfl (nt (Bool.eq_false_iff.2 hc_85)) ?_
        clear hm a; intro a hm
        refine s_pick_t hm rfl rfl (nt (Bool.eq_false_iff.2 hc_85)) rfl ?_
        clear hm a; intro a hm
        refine s_move hm rfl rfl ?_
        clear hm a; intro a hm
        refine s_on hm rfl rfl rfl ?_
        obtain ⟨t_98, et_98, H⟩ := Option.bind_eq_some_iff.1 H
        refine s_call hm rfl Try.call49 rfl (hocketlaw18_awake.calls K  t_98 w0 _ _ _ (Mem.le.refl _) (hS.enter [] (by decide))  et_98) ?_
        rintro _ w_99 ⟨N_100, rfl, hS'⟩
        clear hm a; intro a hm
        obtain ⟨N_101, hS'', le_101, ln_101⟩ := hS.call [] (by decide) rfl (l' := []) (ow := []) rfl hS'
        replace hS : Sep w0 w_99 [N_101, Mem.no, Mem.no, Mem.one g_78 (.cells ([.int .i64 t_45.1.Kind, .int .i64 t_45.1.From, .int .i64 t_45.1.To, .int .i64 t_45.1.View, .int .i64 t_45.1.Inst, .int .i64 t_45.1.Len, .bool t_45.1.Has, .int .i64 t_45.1.Members, .int .i64 t_45.1.Source, .int .i64 t_45.1.At, .int .i64 t_45.1.Total, v_49, .int .i64 t_45.1.Hop, .int .i64 t_45.1.Seq, v_51, v_53, .int .i64 t_45.1.Index, .int .i64 t_45.1.Entry.Sess, .int .i64 t_45.1.Entry.Seq, .int .i64 t_45.1.Entry.Cmd.Kind, .int .i64 t_45.1.Entry.Cmd.Who, v_55, v_57, v_59] : List Value).toArray 29 (0, 0))] Z := hS''
        clear hS' hS''
        refine s_pick_t hm rfl rfl rfl rfl ?_
        clear hm a; intro a hm
        refine s_assign hm rfl rfl ?_
        clear hm a; intro a hm
        refine wpList_nil ?_
        replace hm : Fr 156 a [(6, .bool true)] := hm.keep [6]
        refine x_then_n (hKJ_84 _ _ ?_)
        refine wp_ret ?_
        exact f_ret hm (rs := [.tmp 6]) rfl (.tmp rfl .nil) ⟨_, rfl, N_101, rfl, (Sep.sel hS [0] (by decide))⟩
    clear hKJ_80
    replace hS : Sep w0 w_79 [N_48, Mem.one g_5 (.cells ([.int .i64 t_45.2.2.1, .int .i64 t_45.2.2.2.1, .int .i64 t_45.2.2.2.2.1, v_61, .int .i64 t_45.2.2.2.2.2.2.1, .int .i64 t_45.2.2.2.2.2.2.2.1, .int .i64 t_45.2.2.2.2.2.2.2.2.1, .int .i64 t_45.2.2.2.2.2.2.2.2.2.1, .int .i64 t_45.2.2.2.2.2.2.2.2.2.2.1, .int .i64 t_45.2.2.2.2.2.2.2.2.2.2.2.1, .int .i64 t_45.2.2.2.2.2.2.2.2.2.2.2.2.1, .int .i64 t_45.2.2.2.2.2.2.2.2.2.2.2.2.2.1, .bool t_45.2.2.2.2.2.2.2.2.2.2.2.2.2.2.1, .int .i64 t_45.2.2.2.2.2.2.2.2.2.2.2.2.2.2.2.1, .int .i64 t_45.2.2.2.2.2.2.2.2.2.2.2.2.2.2.2.2.1, .int .i64 t_45.2.2.2.2.2.2.2.2.2.2.2.2.2.2.2.2.2.1, .int .i64 t_45.2.2.2.2.2.2.2.2.2.2.2.2.2.2.2.2.2.2.1, v_65, .int .i64 t_45.2.2.2.2.2.2.2.2.2.2.2.2.2.2.2.2.2.2.2.2.1, .int .i64 t_45.2.2.2.2.2.2.2.2.2.2.2.2.2.2.2.2.2.2.2.2.2.1, v_67, v_69, .int .i64 t_45.2.2.2.2.2.2.2.2.2.2.2.2.2.2.2.2.2.2.2.2.2.2.2.2.1, .int .i64 t_45.2.2.2.2.2.2.2.2.2.2.2.2.2.2.2.2.2.2.2.2.2.2.2.2.2.1, .int .i64 t_45.2.2.2.2.2.2.2.2.2.2.2.2.2.2.2.2.2.2.2.2.2.2.2.2.2.2.1, .int .i64 t_45.2.2.2.2.2.2.2.2.2.2.2.2.2.2.2.2.2.2.2.2.2.2.2.2.2.2.2.1, .int .i64 t_45.2.2.2.2.2.2.2.2.2.2.2.2.2.2.2.2.2.2.2.2.2.2.2.2.2.2.2.2.1, v_71, v_73, v_75, .bool t_45.2.2.2.2.2.2.2.2.2.2.2.2.2.2.2.2.2.2.2.2.2.2.2.2.2.2.2.2.2.2.2.2] : List Value).toArray 80 (0, 0)), M_63, Mem.one g_78 (.cells ([.int .i64 t_45.1.Kind, .int .i64 t_45.1.From, .int .i64 t_45.1.To, .int .i64 t_45.1.View, .int .i64 t_45.1.Inst, .int .i64 t_45.1.Len, .bool t_45.1.Has, .int .i64 t_45.1.Members, .int .i64 t_45.1.Source, .int .i64 t_45.1.At, .int .i64 t_45.1.Total, v_49, .int .i64 t_45.1.Hop, .int .i64 t_45.1.Seq, v_51, v_53, .int .i64 t_45.1.Index, .int .i64 t_45.1.Entry.Sess, .int .i64 t_45.1.Entry.Seq, .int .i64 t_45.1.Entry.Cmd.Kind, .int .i64 t_45.1.Entry.Cmd.Who, v_55, v_57, v_59] : List Value).toArray 29 (0, 0))] Z := hS
    replace hm : Fr 156 a [(0, .int .i64 (w64 ((Int.tmod (band .i64 x0 255) 7) + 1))), (2, p2_1), (6, .bool false), (7, .pointer (some ⟨g_5, 0, none⟩)), (8, .int .i64 x_25), (11, .pointer (some ⟨g_78, 0, none⟩)), (12, .bool t_45.2.1), (13, .int .i64 0)] := hm.keep [0, 2, 6, 7, 8, 11, 12, 13]
    refine c_block ?_
    refine c_loop (fun k_121 a w_121 => ∃ (x_103 : Int) (x_104 : gath_Gather) (v_107 : Value) (v_109 : Value) (v_111 : Value) (v_113 : Value) (v_115 : Value) (v_117 : Value) (v_119 : Value) (N_102 : Mem) (M_105 : Mem), hocketlaw18_GathOnce.L1 K x2 t_45 (fun v => hocketlaw18_GathOnce.J2 K t_45 x_25 x0) k_121 (x_103, x_104) = some r ∧ Fr 156 a [(0, .int .i64 (w64 ((Int.tmod (band .i64 x0 255) 7) + 1))), (2, p2_1), (6, .bool false), (7, .pointer (some ⟨g_5, 0, none⟩)), (8, .int .i64 x_25), (11, .pointer (some ⟨g_78, 0, none⟩)), (12, .bool t_45.2.1), (13, .int .i64 x_103)] ∧ Sep w0 w_121 [N_102, Mem.one g_5 (.cells ([.int .i64 x_104.n, .int .i64 x_104.id, .int .i64 x_104.v, v_107, .int .i64 x_104.come, .int .i64 x_104.ready, .int .i64 x_104.commit.Kind, .int .i64 x_104.commit.From, .int .i64 x_104.commit.To, .int .i64 x_104.commit.View, .int .i64 x_104.commit.Inst, .int .i64 x_104.commit.Len, .bool x_104.commit.Has, .int .i64 x_104.commit.Members, .int .i64 x_104.commit.Source, .int .i64 x_104.commit.At, .int .i64 x_104.commit.Total, v_109, .int .i64 x_104.commit.Hop, .int .i64 x_104.commit.Seq, v_111, v_113, .int .i64 x_104.commit.Index, .int .i64 x_104.commit.Entry.Sess, .int .i64 x_104.commit.Entry.Seq, .int .i64 x_104.commit.Entry.Cmd.Kind, .int .i64 x_104.commit.Entry.Cmd.Who, v_115, v_117, v_119, .bool x_104.is] : List Value).toArray 80 (0, 0)), M_105, Mem.one g_78 (.cells ([.int .i64 t_45.1.Kind, .int .i64 t_45.1.From, .int .i64 t_45.1.To, .int .i64 t_45.1.View, .int .i64 t_45.1.Inst, .int .i64 t_45.1.Len, .bool t_45.1.Has, .int .i64 t_45.1.Members, .int .i64 t_45.1.Source, .int .i64 t_45.1.At, .int .i64 t_45.1.Total, v_49, .int .i64 t_45.1.Hop, .int .i64 t_45.1.Seq, v_51, v_53, .int .i64 t_45.1.Index, .int .i64 t_45.1.Entry.Sess, .int .i64 t_45.1.Entry.Seq, .int .i64 t_45.1.Entry.Cmd.Kind, .int .i64 t_45.1.Entry.Cmd.Who, v_55, v_57, v_59] : List Value).toArray 29 (0, 0))] Z ∧ N_48.le N_102 ∧ Own k_api_Msg 29 M_105 N_102 v_107 x_104.l ∧ Rd Kd.u8 N_102 v_109 x_104.commit.Data ∧ Rd (Kd.int .i64) N_102 v_111 x_104.commit.Have ∧ Rd (Kd.int .i64) N_102 v_113 x_104.commit.Need ∧ Rd Kd.u8 N_102 v_115 x_104.commit.Entry.Cmd.Key ∧ Rd Kd.u8 N_102 v_117 x_104.commit.Entry.Cmd.Val ∧ Rd Kd.u8 N_102 v_119 x_104.commit.Entry.Cmd.Old) K ⟨0, (⟨t_45.2.2.1, t_45.2.2.2.1, t_45.2.2.2.2.1, t_45.2.2.2.2.2.1, t_45.2.2.2.2.2.2.1, t_45.2.2.2.2.2.2.2.1, (⟨t_45.2.2.2.2.2.2.2.2.1, t_45.2.2.2.2.2.2.2.2.2.1, t_45.2.2.2.2.2.2.2.2.2.2.1, t_45.2.2.2.2.2.2.2.2.2.2.2.1, t_45.2.2.2.2.2.2.2.2.2.2.2.2.1, t_45.2.2.2.2.2.2.2.2.2.2.2.2.2.1, t_45.2.2.2.2.2.2.2.2.2.2.2.2.2.2.1, t_45.2.2.2.2.2.2.2.2.2.2.2.2.2.2.2.1, t_45.2.2.2.2.2.2.2.2.2.2.2.2.2.2.2.2.1, t_45.2.2.2.2.2.2.2.2.2.2.2.2.2.2.2.2.2.1, t_45.2.2.2.2.2.2.2.2.2.2.2.2.2.2.2.2.2.2.1, t_45.2.2.2.2.2.2.2.2.2.2.2.2.2.2.2.2.2.2.2.1, t_45.2.2.2.2.2.2.2.2.2.2.2.2.2.2.2.2.2.2.2.2.1, t_45.2.2.2.2.2.2.2.2.2.2.2.2.2.2.2.2.2.2.2.2.2.1, t_45.2.2.2.2.2.2.2.2.2.2.2.2.2.2.2.2.2.2.2.2.2.2.1, t_45.2.2.2.2.2.2.2.2.2.2.2.2.2.2.2.2.2.2.2.2.2.2.2.1, t_45.2.2.2.2.2.2.2.2.2.2.2.2.2.2.2.2.2.2.2.2.2.2.2.2.1, (⟨t_45.2.2.2.2.2.2.2.2.2.2.2.2.2.2.2.2.2.2.2.2.2.2.2.2.2.1, t_45.2.2.2.2.2.2.2.2.2.2.2.2.2.2.2.2.2.2.2.2.2.2.2.2.2.2.1, (⟨t_45.2.2.2.2.2.2.2.2.2.2.2.2.2.2.2.2.2.2.2.2.2.2.2.2.2.2.2.1, t_45.2.2.2.2.2.2.2.2.2.2.2.2.2.2.2.2.2.2.2.2.2.2.2.2.2.2.2.2.1, t_45.2.2.2.2.2.2.2.2.2.2.2.2.2.2.2.2.2.2.2.2.2.2.2.2.2.2.2.2.2.1, t_45.2.2.2.2.2.2.2.2.2.2.2.2.2.2.2.2.2.2.2.2.2.2.2.2.2.2.2.2.2.2.1, t_45.2.2.2.2.2.2.2.2.2.2.2.2.2.2.2.2.2.2.2.2.2.2.2.2.2.2.2.2.2.2.2.1⟩ : api_Cmd)⟩ : api_Entry)⟩ : api_Msg), t_45.2.2.2.2.2.2.2.2.2.2.2.2.2.2.2.2.2.2.2.2.2.2.2.2.2.2.2.2.2.2.2.2⟩ : gath_Gather), v_61, v_65, v_67, v_69, v_71, v_73, v_75, N_48, M_63, H, hm, (Sep.sel hS [0, 1, 2, 3] (by decide)), (Mem.le.refl _), ((hr_62.mono (Mem.un_le le_48 ln_48)).mono (Mem.le.refl _)), (hr_66.mono (Mem.un_le le_48 ln_48)), (hr_68.mono (Mem.un_le le_48 ln_48)), (hr_70.mono (Mem.un_le le_48 ln_48)), (hr_72.mono (Mem.un_le le_48 ln_48)), (hr_74.mono (Mem.un_le le_48 ln_48)), (hr_76.mono (Mem.un_le le_48 ln_48))⟩ (fun a w h => by obtain ⟨_, _, _, _, _, _, _, _, _, _, _, H, _⟩ := h; cases (show (none : Option (Unit)) = some r from H)) ?_
    clear hm hS a H
    rintro k_121 a w_121 KL_121 hKL_121 ⟨x_103, x_104, v_107, v_109, v_111, v_113, v_115, v_117, v_119, N_102, M_105, H, hm, hS, le_102, ho_108, hr_110, hr_112, hr_114, hr_116, hr_118, hr_120⟩
    replace H : hocketlaw18_GathOnce.B1 K x2 t_45 (fun v => hocketlaw18_GathOnce.J2 K t_45 x_25 x0) (hocketlaw18_GathOnce.L1 K x2 t_45 (fun v => hocketlaw18_GathOnce.J2 K t_45 x_25 x0) k_121) x_103 x_104 = some r := H
    unfold hocketlaw18_GathOnce.B1 at H
    refine c_seq fun KJ_123 hKJ_123 => ?_
    refine c_seq fun KJ_124 hKJ_124 => ?_
    have hJ_j_128 : ∀ (x_126 : Bool), hocketlaw18_GathOnce.J3 K x2 x_103 x_104 t_45 (hocketlaw18_GathOnce.L1 K x2 t_45 (fun v => hocketlaw18_GathOnce.J2 K t_45 x_25 x0) k_121) (fun v => hocketlaw18_GathOnce.J2 K t_45 x_25 x0) x_126 = some r → ∀ (a : Act) (w_127 : World), (∃ (N_125 : Mem), Fr 156 a [(0, .int .i64 (w64 ((Int.tmod (band .i64 x0 255) 7) + 1))), (2, p2_1), (6, .bool false), (7, .pointer (some ⟨g_5, 0, none⟩)), (8, .int .i64 x_25), (11, .pointer (some ⟨g_78, 0, none⟩)), (12, .bool t_45.2.1), (13, .int .i64 x_103), (84, .bool x_126)] ∧ Sep w0 w_127 [N_125, Mem.one g_5 (.cells ([.int .i64 x_104.n, .int .i64 x_104.id, .int .i64 x_104.v, v_107, .int .i64 x_104.come, .int .i64 x_104.ready, .int .i64 x_104.commit.Kind, .int .i64 x_104.commit.From, .int .i64 x_104.commit.To, .int .i64 x_104.commit.View, .int .i64 x_104.commit.Inst, .int .i64 x_104.commit.Len, .bool x_104.commit.Has, .int .i64 x_104.commit.Members, .int .i64 x_104.commit.Source, .int .i64 x_104.commit.At, .int .i64 x_104.commit.Total, v_109, .int .i64 x_104.commit.Hop, .int .i64 x_104.commit.Seq, v_111, v_113, .int .i64 x_104.commit.Index, .int .i64 x_104.commit.Entry.Sess, .int .i64 x_104.commit.Entry.Seq, .int .i64 x_104.commit.Entry.Cmd.Kind, .int .i64 x_104.commit.Entry.Cmd.Who, v_115, v_117, v_119, .bool x_104.is] : List Value).toArray 80 (0, 0)), M_105, Mem.one g_78 (.cells ([.int .i64 t_45.1.Kind, .int .i64 t_45.1.From, .int .i64 t_45.1.To, .int .i64 t_45.1.View, .int .i64 t_45.1.Inst, .int .i64 t_45.1.Len, .bool t_45.1.Has, .int .i64 t_45.1.Members, .int .i64 t_45.1.Source, .int .i64 t_45.1.At, .int .i64 t_45.1.Total, v_49, .int .i64 t_45.1.Hop, .int .i64 t_45.1.Seq, v_51, v_53, .int .i64 t_45.1.Index, .int .i64 t_45.1.Entry.Sess, .int .i64 t_45.1.Entry.Seq, .int .i64 t_45.1.Entry.Cmd.Kind, .int .i64 t_45.1.Entry.Cmd.Who, v_55, v_57, v_59] : List Value).toArray 29 (0, 0))] Z ∧ N_102.le N_125) → KJ_124 a w_127 := by
      clear H hm hS a
      rintro x_126 H a w_127 ⟨N_125, hm, hS, le_125⟩
      unfold hocketlaw18_GathOnce.J3 at H
      refine hKJ_124 _ _ ?_
      by_cases hc_129 : x_126 = true
      · rw [if_pos hc_129] at H
        refine c_cond_t hm rfl hc_129 ?_
        refine wp_skip ?_
        refine x_then_n (hKJ_123 _ _ ?_)
        refine c_seq fun KJ_130 hKJ_130 => ?_
        refine c_block ?_
        refine wp_seq ?_
        refine wp_region_lit ?_
        refine s_move hm rfl rfl ?_
        clear hm a; intro a hm
        refine s_move hm rfl rfl ?_
        clear hm a; intro a hm
        obtain ⟨t_131, et_131, H⟩ := Option.bind_eq_some_iff.1 H
        refine v_index hm rfl Try.underlying23 ti3 rfl rfl rfl hp2_1 (hA.trans hS.old) et_131 ?_
        intro ad_132 cs_133 hk_134 hc_135
        obtain rfl := (show cs_133 = [.int .i64 t_131] from hk_134)
        clear hm a; intro a hm
        refine s_load hm rfl rfl (el_one (o := 0) hc_135 Try.underlying3 rfl rfl) ?_
        clear hm a; intro a hm
        refine s_bits (i := t_131) (j := 7) (r := band .i64 t_131 7) hm rfl rfl rfl (.inl ⟨rfl, rfl⟩) ?_
        clear hm a; intro a hm
        refine s_build hm rfl ti29 pl29 rfl (.cons rfl (.cons rfl (.cons rfl (.cons rfl (.cons rfl (.cons rfl .nil)))))) (cs := [.int .i64 2, .int .i64 (band .i64 t_131 7), .int .i64 0, .int .i64 8, .int .i64 800, .int .i64 99, .bool true, .int .i64 0, .int .i64 0, .int .i64 0, .int .i64 0, .slice none 0 0, .int .i64 0, .int .i64 0, .slice none 0 0, .slice none 0 0, .int .i64 0, .int .i64 0, .int .i64 0, .int .i64 0, .int .i64 0, .slice none 0 0, .slice none 0 0, .slice none 0 0]) rfl ?_
        clear hm a; intro a hm
        refine v_alloc hm rfl ti29 hS ?_
        intro w_136 g_137 hS'
        clear hm a; intro a hm
        replace hS : Sep w0 w_136 [N_125, Mem.one g_5 (.cells ([.int .i64 x_104.n, .int .i64 x_104.id, .int .i64 x_104.v, v_107, .int .i64 x_104.come, .int .i64 x_104.ready, .int .i64 x_104.commit.Kind, .int .i64 x_104.commit.From, .int .i64 x_104.commit.To, .int .i64 x_104.commit.View, .int .i64 x_104.commit.Inst, .int .i64 x_104.commit.Len, .bool x_104.commit.Has, .int .i64 x_104.commit.Members, .int .i64 x_104.commit.Source, .int .i64 x_104.commit.At, .int .i64 x_104.commit.Total, v_109, .int .i64 x_104.commit.Hop, .int .i64 x_104.commit.Seq, v_111, v_113, .int .i64 x_104.commit.Index, .int .i64 x_104.commit.Entry.Sess, .int .i64 x_104.commit.Entry.Seq, .int .i64 x_104.commit.Entry.Cmd.Kind, .int .i64 x_104.commit.Entry.Cmd.Who, v_115, v_117, v_119, .bool x_104.is] : List Value).toArray 80 (0, 0)), M_105, Mem.one g_78 (.cells ([.int .i64 t_45.1.Kind, .int .i64 t_45.1.From, .int .i64 t_45.1.To, .int .i64 t_45.1.View, .int .i64 t_45.1.Inst, .int .i64 t_45.1.Len, .bool t_45.1.Has, .int .i64 t_45.1.Members, .int .i64 t_45.1.Source, .int .i64 t_45.1.At, .int .i64 t_45.1.Total, v_49, .int .i64 t_45.1.Hop, .int .i64 t_45.1.Seq, v_51, v_53, .int .i64 t_45.1.Index, .int .i64 t_45.1.Entry.Sess, .int .i64 t_45.1.Entry.Seq, .int .i64 t_45.1.Entry.Cmd.Kind, .int .i64 t_45.1.Entry.Cmd.Who, v_55, v_57, v_59] : List Value).toArray 29 (0, 0)), Mem.one g_137 (.cells ([.int .i64 0, .int .i64 0, .int .i64 0, .int .i64 0, .int .i64 0, .int .i64 0, .bool false, .int .i64 0, .int .i64 0, .int .i64 0, .int .i64 0, .slice none 0 0, .int .i64 0, .int .i64 0, .slice none 0 0, .slice none 0 0, .int .i64 0, .int .i64 0, .int .i64 0, .int .i64 0, .int .i64 0, .slice none 0 0, .slice none 0 0, .slice none 0 0] : List Value).toArray 29 (0, 0))] Z := hS'
        clear hS'
        obtain ⟨w_138, hs', hS'⟩ := hS.store (P := Try.prog) (p := 4) (o := 0) (t := 29) (v := .agg ([.int .i64 2, .int .i64 (band .i64 t_131 7), .int .i64 0, .int .i64 8, .int .i64 800, .int .i64 99, .bool true, .int .i64 0, .int .i64 0, .int .i64 0, .int .i64 0, .slice none 0 0, .int .i64 0, .int .i64 0, .slice none 0 0, .slice none 0 0, .int .i64 0, .int .i64 0, .int .i64 0, .int .i64 0, .int .i64 0, .slice none 0 0, .slice none 0 0, .slice none 0 0] : List Value).toArray) (vs := [.int .i64 2, .int .i64 (band .i64 t_131 7), .int .i64 0, .int .i64 8, .int .i64 800, .int .i64 99, .bool true, .int .i64 0, .int .i64 0, .int .i64 0, .int .i64 0, .slice none 0 0, .int .i64 0, .int .i64 0, .slice none 0 0, .slice none 0 0, .int .i64 0, .int .i64 0, .int .i64 0, .int .i64 0, .int .i64 0, .slice none 0 0, .slice none 0 0, .slice none 0 0]) rfl ti29 rfl rfl rfl (by intro u hu; simp only [List.mem_cons, List.not_mem_nil, or_false] at hu; rcases hu with rfl | rfl | rfl | rfl | rfl | rfl | rfl | rfl | rfl | rfl | rfl | rfl | rfl | rfl | rfl | rfl | rfl | rfl | rfl | rfl | rfl | rfl | rfl | rfl <;> rfl)
        refine s_store hm rfl rfl hs' ?_
        replace hS : Sep w0 w_138 [N_125, Mem.one g_5 (.cells ([.int .i64 x_104.n, .int .i64 x_104.id, .int .i64 x_104.v, v_107, .int .i64 x_104.come, .int .i64 x_104.ready, .int .i64 x_104.commit.Kind, .int .i64 x_104.commit.From, .int .i64 x_104.commit.To, .int .i64 x_104.commit.View, .int .i64 x_104.commit.Inst, .int .i64 x_104.commit.Len, .bool x_104.commit.Has, .int .i64 x_104.commit.Members, .int .i64 x_104.commit.Source, .int .i64 x_104.commit.At, .int .i64 x_104.commit.Total, v_109, .int .i64 x_104.commit.Hop, .int .i64 x_104.commit.Seq, v_111, v_113, .int .i64 x_104.commit.Index, .int .i64 x_104.commit.Entry.Sess, .int .i64 x_104.commit.Entry.Seq, .int .i64 x_104.commit.Entry.Cmd.Kind, .int .i64 x_104.commit.Entry.Cmd.Who, v_115, v_117, v_119, .bool x_104.is] : List Value).toArray 80 (0, 0)), M_105, Mem.one g_78 (.cells ([.int .i64 t_45.1.Kind, .int .i64 t_45.1.From, .int .i64 t_45.1.To, .int .i64 t_45.1.View, .int .i64 t_45.1.Inst, .int .i64 t_45.1.Len, .bool t_45.1.Has, .int .i64 t_45.1.Members, .int .i64 t_45.1.Source, .int .i64 t_45.1.At, .int .i64 t_45.1.Total, v_49, .int .i64 t_45.1.Hop, .int .i64 t_45.1.Seq, v_51, v_53, .int .i64 t_45.1.Index, .int .i64 t_45.1.Entry.Sess, .int .i64 t_45.1.Entry.Seq, .int .i64 t_45.1.Entry.Cmd.Kind, .int .i64 t_45.1.Entry.Cmd.Who, v_55, v_57, v_59] : List Value).toArray 29 (0, 0)), Mem.one g_137 (.cells ([.int .i64 2, .int .i64 (band .i64 t_131 7), .int .i64 0, .int .i64 8, .int .i64 800, .int .i64 99, .bool true, .int .i64 0, .int .i64 0, .int .i64 0, .int .i64 0, .slice none 0 0, .int .i64 0, .int .i64 0, .slice none 0 0, .slice none 0 0, .int .i64 0, .int .i64 0, .int .i64 0, .int .i64 0, .int .i64 0, .slice none 0 0, .slice none 0 0, .slice none 0 0] : List Value).toArray 29 (0, 0))] Z := hS'
        clear hs' hS'
        refine wpList_nil ?_
        replace hm : Fr 156 a [(0, .int .i64 (w64 ((Int.tmod (band .i64 x0 255) 7) + 1))), (2, p2_1), (6, .bool false), (7, .pointer (some ⟨g_5, 0, none⟩)), (8, .int .i64 x_25), (11, .pointer (some ⟨g_78, 0, none⟩)), (12, .bool t_45.2.1), (13, .int .i64 x_103), (14, .pointer (some ⟨g_137, 0, none⟩))] := hm.keep [0, 2, 6, 7, 8, 11, 12, 13, 14]
        refine x_then_n ?_
        refine c_seq fun KJ_139 hKJ_139 => ?_
        refine wp_seq ?_
        refine wp_region_lit ?_
        refine s_move hm rfl rfl ?_
        clear hm a; intro a hm
        refine s_load hm rfl rfl (hS.load_agg (p := 4) (us := [.int .i64 2, .int .i64 (band .i64 t_131 7), .int .i64 0, .int .i64 8, .int .i64 800, .int .i64 99, .bool true, .int .i64 0, .int .i64 0, .int .i64 0, .int .i64 0, .slice none 0 0, .int .i64 0, .int .i64 0, .slice none 0 0, .slice none 0 0, .int .i64 0, .int .i64 0, .int .i64 0, .int .i64 0, .int .i64 0, .slice none 0 0, .slice none 0 0, .slice none 0 0]) rfl Try.underlying29 rfl ti29 rfl rfl) ?_
        clear hm a; intro a hm
        obtain ⟨t_140, et_140, H⟩ := Option.bind_eq_some_iff.1 H
        refine s_call hm rfl Try.call42 rfl (gath_Gather_Take.calls _ x_104.n x_104.id x_104.v x_104.l _ _ x_104.come x_104.ready x_104.commit.Kind x_104.commit.From x_104.commit.To x_104.commit.View x_104.commit.Inst x_104.commit.Len x_104.commit.Has x_104.commit.Members x_104.commit.Source x_104.commit.At x_104.commit.Total x_104.commit.Data _ x_104.commit.Hop x_104.commit.Seq x_104.commit.Have _ x_104.commit.Need _ x_104.commit.Index x_104.commit.Entry.Sess x_104.commit.Entry.Seq x_104.commit.Entry.Cmd.Kind x_104.commit.Entry.Cmd.Who x_104.commit.Entry.Cmd.Key _ x_104.commit.Entry.Cmd.Val _ x_104.commit.Entry.Cmd.Old _ x_104.is (⟨2, band .i64 t_131 7, 0, 8, 800, 99, true, 0, 0, 0, 0, ([] : List UInt8), 0, 0, ([] : List Int), ([] : List Int), 0, (⟨0, 0, (⟨0, 0, ([] : List UInt8), ([] : List UInt8), ([] : List UInt8)⟩ : api_Cmd)⟩ : api_Entry)⟩ : api_Msg) _ _ _ _ _ _ t_140 w0 _ _ N_125 (hS.new_zed [0, 1]) (hS.enter [0, 1] (by decide)) (ho_108.mono le_125) (hr_110.mono le_125) (hr_112.mono le_125) (hr_114.mono le_125) (hr_116.mono le_125) (hr_118.mono le_125) (hr_120.mono le_125) (Rd.nil _ _) (Rd.nil _ _) (Rd.nil _ _) (Rd.nil _ _) (Rd.nil _ _) (Rd.nil _ _) et_140) ?_
        rintro _ w_141 ⟨v_144, v_148, v_150, v_152, v_154, v_156, v_158, N_142, M_146, rfl, hS', hr_145, hr_149, hr_151, hr_153, hr_155, hr_157, hr_159⟩
        clear hm a; intro a hm
        obtain ⟨N_143, hS'', le_143, ln_143⟩ := hS.call [0, 1] (by decide) rfl (l' := [Mem.one g_5 (.cells ([.int .i64 t_140.2.1, .int .i64 t_140.2.2.1, .int .i64 t_140.2.2.2.1, v_144, .int .i64 t_140.2.2.2.2.2.1, .int .i64 t_140.2.2.2.2.2.2.1, .int .i64 t_140.2.2.2.2.2.2.2.1, .int .i64 t_140.2.2.2.2.2.2.2.2.1, .int .i64 t_140.2.2.2.2.2.2.2.2.2.1, .int .i64 t_140.2.2.2.2.2.2.2.2.2.2.1, .int .i64 t_140.2.2.2.2.2.2.2.2.2.2.2.1, .int .i64 t_140.2.2.2.2.2.2.2.2.2.2.2.2.1, .bool t_140.2.2.2.2.2.2.2.2.2.2.2.2.2.1, .int .i64 t_140.2.2.2.2.2.2.2.2.2.2.2.2.2.2.1, .int .i64 t_140.2.2.2.2.2.2.2.2.2.2.2.2.2.2.2.1, .int .i64 t_140.2.2.2.2.2.2.2.2.2.2.2.2.2.2.2.2.1, .int .i64 t_140.2.2.2.2.2.2.2.2.2.2.2.2.2.2.2.2.2.1, v_148, .int .i64 t_140.2.2.2.2.2.2.2.2.2.2.2.2.2.2.2.2.2.2.2.1, .int .i64 t_140.2.2.2.2.2.2.2.2.2.2.2.2.2.2.2.2.2.2.2.2.1, v_150, v_152, .int .i64 t_140.2.2.2.2.2.2.2.2.2.2.2.2.2.2.2.2.2.2.2.2.2.2.2.1, .int .i64 t_140.2.2.2.2.2.2.2.2.2.2.2.2.2.2.2.2.2.2.2.2.2.2.2.2.1, .int .i64 t_140.2.2.2.2.2.2.2.2.2.2.2.2.2.2.2.2.2.2.2.2.2.2.2.2.2.1, .int .i64 t_140.2.2.2.2.2.2.2.2.2.2.2.2.2.2.2.2.2.2.2.2.2.2.2.2.2.2.1, .int .i64 t_140.2.2.2.2.2.2.2.2.2.2.2.2.2.2.2.2.2.2.2.2.2.2.2.2.2.2.2.1, v_154, v_156, v_158, .bool t_140.2.2.2.2.2.2.2.2.2.2.2.2.2.2.2.2.2.2.2.2.2.2.2.2.2.2.2.2.2.2.2] : List Value).toArray 80 (0, 0)), M_146]) (ow := []) rfl hS'
        replace hS : Sep w0 w_141 [N_143, Mem.one g_5 (.cells ([.int .i64 t_140.2.1, .int .i64 t_140.2.2.1, .int .i64 t_140.2.2.2.1, v_144, .int .i64 t_140.2.2.2.2.2.1, .int .i64 t_140.2.2.2.2.2.2.1, .int .i64 t_140.2.2.2.2.2.2.2.1, .int .i64 t_140.2.2.2.2.2.2.2.2.1, .int .i64 t_140.2.2.2.2.2.2.2.2.2.1, .int .i64 t_140.2.2.2.2.2.2.2.2.2.2.1, .int .i64 t_140.2.2.2.2.2.2.2.2.2.2.2.1, .int .i64 t_140.2.2.2.2.2.2.2.2.2.2.2.2.1, .bool t_140.2.2.2.2.2.2.2.2.2.2.2.2.2.1, .int .i64 t_140.2.2.2.2.2.2.2.2.2.2.2.2.2.2.1, .int .i64 t_140.2.2.2.2.2.2.2.2.2.2.2.2.2.2.2.1, .int .i64 t_140.2.2.2.2.2.2.2.2.2.2.2.2.2.2.2.2.1, .int .i64 t_140.2.2.2.2.2.2.2.2.2.2.2.2.2.2.2.2.2.1, v_148, .int .i64 t_140.2.2.2.2.2.2.2.2.2.2.2.2.2.2.2.2.2.2.2.1, .int .i64 t_140.2.2.2.2.2.2.2.2.2.2.2.2.2.2.2.2.2.2.2.2.1, v_150, v_152, .int .i64 t_140.2.2.2.2.2.2.2.2.2.2.2.2.2.2.2.2.2.2.2.2.2.2.2.1, .int .i64 t_140.2.2.2.2.2.2.2.2.2.2.2.2.2.2.2.2.2.2.2.2.2.2.2.2.1, .int .i64 t_140.2.2.2.2.2.2.2.2.2.2.2.2.2.2.2.2.2.2.2.2.2.2.2.2.2.1, .int .i64 t_140.2.2.2.2.2.2.2.2.2.2.2.2.2.2.2.2.2.2.2.2.2.2.2.2.2.2.1, .int .i64 t_140.2.2.2.2.2.2.2.2.2.2.2.2.2.2.2.2.2.2.2.2.2.2.2.2.2.2.2.1, v_154, v_156, v_158, .bool t_140.2.2.2.2.2.2.2.2.2.2.2.2.2.2.2.2.2.2.2.2.2.2.2.2.2.2.2.2.2.2.2] : List Value).toArray 80 (0, 0)), M_146, Mem.one g_78 (.cells ([.int .i64 t_45.1.Kind, .int .i64 t_45.1.From, .int .i64 t_45.1.To, .int .i64 t_45.1.View, .int .i64 t_45.1.Inst, .int .i64 t_45.1.Len, .bool t_45.1.Has, .int .i64 t_45.1.Members, .int .i64 t_45.1.Source, .int .i64 t_45.1.At, .int .i64 t_45.1.Total, v_49, .int .i64 t_45.1.Hop, .int .i64 t_45.1.Seq, v_51, v_53, .int .i64 t_45.1.Index, .int .i64 t_45.1.Entry.Sess, .int .i64 t_45.1.Entry.Seq, .int .i64 t_45.1.Entry.Cmd.Kind, .int .i64 t_45.1.Entry.Cmd.Who, v_55, v_57, v_59] : List Value).toArray 29 (0, 0)), Mem.one g_137 (.cells ([.int .i64 2, .int .i64 (band .i64 t_131 7), .int .i64 0, .int .i64 8, .int .i64 800, .int .i64 99, .bool true, .int .i64 0, .int .i64 0, .int .i64 0, .int .i64 0, .slice none 0 0, .int .i64 0, .int .i64 0, .slice none 0 0, .slice none 0 0, .int .i64 0, .int .i64 0, .int .i64 0, .int .i64 0, .int .i64 0, .slice none 0 0, .slice none 0 0, .slice none 0 0] : List Value).toArray 29 (0, 0))] Z := hS''
        clear hS' hS''
        refine s_assign hm rfl rfl ?_
        clear hm a; intro a hm
        refine wpList_nil ?_
        replace hm : Fr 156 a [(0, .int .i64 (w64 ((Int.tmod (band .i64 x0 255) 7) + 1))), (2, p2_1), (6, .bool false), (7, .pointer (some ⟨g_5, 0, none⟩)), (8, .int .i64 x_25), (11, .pointer (some ⟨g_78, 0, none⟩)), (12, .bool t_45.2.1), (13, .int .i64 x_103), (15, .bool t_140.1)] := hm.keep [0, 2, 6, 7, 8, 11, 12, 13, 15]
        refine x_then_n ?_
        refine c_seq fun KJ_160 hKJ_160 => ?_
        have hJ_j_164 : ∀ (x_162 : Bool), hocketlaw18_GathOnce.J4 K x2 x_103 t_140 t_45 (hocketlaw18_GathOnce.L1 K x2 t_45 (fun v => hocketlaw18_GathOnce.J2 K t_45 x_25 x0) k_121) x_162 = some r → ∀ (a : Act) (w_163 : World), (∃ (N_161 : Mem), Fr 156 a [(0, .int .i64 (w64 ((Int.tmod (band .i64 x0 255) 7) + 1))), (2, p2_1), (6, .bool false), (7, .pointer (some ⟨g_5, 0, none⟩)), (8, .int .i64 x_25), (11, .pointer (some ⟨g_78, 0, none⟩)), (12, .bool t_45.2.1), (13, .int .i64 x_103), (99, .bool x_162)] ∧ Sep w0 w_163 [N_161, Mem.one g_5 (.cells ([.int .i64 t_140.2.1, .int .i64 t_140.2.2.1, .int .i64 t_140.2.2.2.1, v_144, .int .i64 t_140.2.2.2.2.2.1, .int .i64 t_140.2.2.2.2.2.2.1, .int .i64 t_140.2.2.2.2.2.2.2.1, .int .i64 t_140.2.2.2.2.2.2.2.2.1, .int .i64 t_140.2.2.2.2.2.2.2.2.2.1, .int .i64 t_140.2.2.2.2.2.2.2.2.2.2.1, .int .i64 t_140.2.2.2.2.2.2.2.2.2.2.2.1, .int .i64 t_140.2.2.2.2.2.2.2.2.2.2.2.2.1, .bool t_140.2.2.2.2.2.2.2.2.2.2.2.2.2.1, .int .i64 t_140.2.2.2.2.2.2.2.2.2.2.2.2.2.2.1, .int .i64 t_140.2.2.2.2.2.2.2.2.2.2.2.2.2.2.2.1, .int .i64 t_140.2.2.2.2.2.2.2.2.2.2.2.2.2.2.2.2.1, .int .i64 t_140.2.2.2.2.2.2.2.2.2.2.2.2.2.2.2.2.2.1, v_148, .int .i64 t_140.2.2.2.2.2.2.2.2.2.2.2.2.2.2.2.2.2.2.2.1, .int .i64 t_140.2.2.2.2.2.2.2.2.2.2.2.2.2.2.2.2.2.2.2.2.1, v_150, v_152, .int .i64 t_140.2.2.2.2.2.2.2.2.2.2.2.2.2.2.2.2.2.2.2.2.2.2.2.1, .int .i64 t_140.2.2.2.2.2.2.2.2.2.2.2.2.2.2.2.2.2.2.2.2.2.2.2.2.1, .int .i64 t_140.2.2.2.2.2.2.2.2.2.2.2.2.2.2.2.2.2.2.2.2.2.2.2.2.2.1, .int .i64 t_140.2.2.2.2.2.2.2.2.2.2.2.2.2.2.2.2.2.2.2.2.2.2.2.2.2.2.1, .int .i64 t_140.2.2.2.2.2.2.2.2.2.2.2.2.2.2.2.2.2.2.2.2.2.2.2.2.2.2.2.1, v_154, v_156, v_158, .bool t_140.2.2.2.2.2.2.2.2.2.2.2.2.2.2.2.2.2.2.2.2.2.2.2.2.2.2.2.2.2.2.2] : List Value).toArray 80 (0, 0)), M_146, Mem.one g_78 (.cells ([.int .i64 t_45.1.Kind, .int .i64 t_45.1.From, .int .i64 t_45.1.To, .int .i64 t_45.1.View, .int .i64 t_45.1.Inst, .int .i64 t_45.1.Len, .bool t_45.1.Has, .int .i64 t_45.1.Members, .int .i64 t_45.1.Source, .int .i64 t_45.1.At, .int .i64 t_45.1.Total, v_49, .int .i64 t_45.1.Hop, .int .i64 t_45.1.Seq, v_51, v_53, .int .i64 t_45.1.Index, .int .i64 t_45.1.Entry.Sess, .int .i64 t_45.1.Entry.Seq, .int .i64 t_45.1.Entry.Cmd.Kind, .int .i64 t_45.1.Entry.Cmd.Who, v_55, v_57, v_59] : List Value).toArray 29 (0, 0)), Mem.no] Z ∧ N_143.le N_161) → KJ_160 a w_163 := by
          clear H hm hS a
          rintro x_162 H a w_163 ⟨N_161, hm, hS, le_161⟩
          unfold hocketlaw18_GathOnce.J4 at H
          refine hKJ_160 _ _ ?_
          by_cases hc_165 : x_162 = true
          · rw [if_pos hc_165] at H
            cases H
          · rw [if_neg hc_165] at H
            refine c_cond_f hm rfl (Bool.eq_false_iff.2 hc_165) ?_
            refine wp_skip ?_
            refine x_then_n (hKJ_139 _ _ ?_)
            refine wp_seq ?_
            refine wp_region_lit ?_
            refine s_move hm rfl rfl ?_
            clear hm a; intro a hm
            refine s_move hm rfl rfl ?_
            clear hm a; intro a hm
            refine s_move hm rfl rfl ?_
            clear hm a; intro a hm
            obtain ⟨t_166, et_166, H⟩ := Option.bind_eq_some_iff.1 H
            refine v_index hm rfl Try.underlying23 ti3 rfl rfl rfl hp2_1 (hA.trans hS.old) et_166 ?_
            intro ad_167 cs_168 hk_169 hc_170
            obtain rfl := (show cs_168 = [.int .i64 t_166] from hk_169)
            clear hm a; intro a hm
            refine s_load hm rfl rfl (el_one (o := 0) hc_170 Try.underlying3 rfl rfl) ?_
            clear hm a; intro a hm
            refine s_shift (r := shr .i64 t_166 3) hm rfl rfl rfl (by decide) (.inr ⟨rfl, rfl⟩) ?_
            clear hm a; intro a hm
            refine s_bits (i := shr .i64 t_166 3) (j := 7) (r := band .i64 (shr .i64 t_166 3) 7) hm rfl rfl rfl (.inl ⟨rfl, rfl⟩) ?_
            clear hm a; intro a hm
            obtain ⟨t_171, et_171, H⟩ := Option.bind_eq_some_iff.1 H
            refine s_call hm rfl Try.call47 rfl (gath_Gather_Ready.calls K _ t_140.2.1 t_140.2.2.1 t_140.2.2.2.1 t_140.2.2.2.2.1 _ _ t_140.2.2.2.2.2.1 t_140.2.2.2.2.2.2.1 t_140.2.2.2.2.2.2.2.1 t_140.2.2.2.2.2.2.2.2.1 t_140.2.2.2.2.2.2.2.2.2.1 t_140.2.2.2.2.2.2.2.2.2.2.1 t_140.2.2.2.2.2.2.2.2.2.2.2.1 t_140.2.2.2.2.2.2.2.2.2.2.2.2.1 t_140.2.2.2.2.2.2.2.2.2.2.2.2.2.1 t_140.2.2.2.2.2.2.2.2.2.2.2.2.2.2.1 t_140.2.2.2.2.2.2.2.2.2.2.2.2.2.2.2.1 t_140.2.2.2.2.2.2.2.2.2.2.2.2.2.2.2.2.1 t_140.2.2.2.2.2.2.2.2.2.2.2.2.2.2.2.2.2.1 t_140.2.2.2.2.2.2.2.2.2.2.2.2.2.2.2.2.2.2.1 _ t_140.2.2.2.2.2.2.2.2.2.2.2.2.2.2.2.2.2.2.2.1 t_140.2.2.2.2.2.2.2.2.2.2.2.2.2.2.2.2.2.2.2.2.1 t_140.2.2.2.2.2.2.2.2.2.2.2.2.2.2.2.2.2.2.2.2.2.1 _ t_140.2.2.2.2.2.2.2.2.2.2.2.2.2.2.2.2.2.2.2.2.2.2.1 _ t_140.2.2.2.2.2.2.2.2.2.2.2.2.2.2.2.2.2.2.2.2.2.2.2.1 t_140.2.2.2.2.2.2.2.2.2.2.2.2.2.2.2.2.2.2.2.2.2.2.2.2.1 t_140.2.2.2.2.2.2.2.2.2.2.2.2.2.2.2.2.2.2.2.2.2.2.2.2.2.1 t_140.2.2.2.2.2.2.2.2.2.2.2.2.2.2.2.2.2.2.2.2.2.2.2.2.2.2.1 t_140.2.2.2.2.2.2.2.2.2.2.2.2.2.2.2.2.2.2.2.2.2.2.2.2.2.2.2.1 t_140.2.2.2.2.2.2.2.2.2.2.2.2.2.2.2.2.2.2.2.2.2.2.2.2.2.2.2.2.1 _ t_140.2.2.2.2.2.2.2.2.2.2.2.2.2.2.2.2.2.2.2.2.2.2.2.2.2.2.2.2.2.1 _ t_140.2.2.2.2.2.2.2.2.2.2.2.2.2.2.2.2.2.2.2.2.2.2.2.2.2.2.2.2.2.2.1 _ t_140.2.2.2.2.2.2.2.2.2.2.2.2.2.2.2.2.2.2.2.2.2.2.2.2.2.2.2.2.2.2.2 (band .i64 (shr .i64 t_166 3) 7) t_171 w0 _ _ N_161 (hS.new_zed [0, 1]) (hS.enter [0, 1] (by decide)) ((hr_145.mono (Mem.un_le le_143 ln_143)).mono le_161) ((hr_149.mono (Mem.un_le le_143 ln_143)).mono le_161) ((hr_151.mono (Mem.un_le le_143 ln_143)).mono le_161) ((hr_153.mono (Mem.un_le le_143 ln_143)).mono le_161) ((hr_155.mono (Mem.un_le le_143 ln_143)).mono le_161) ((hr_157.mono (Mem.un_le le_143 ln_143)).mono le_161) ((hr_159.mono (Mem.un_le le_143 ln_143)).mono le_161) et_171) ?_
            rintro _ w_172 ⟨v_175, v_179, v_181, v_183, v_185, v_187, v_189, N_173, M_177, rfl, hS', hr_176, hr_180, hr_182, hr_184, hr_186, hr_188, hr_190⟩
            clear hm a; intro a hm
            obtain ⟨N_174, hS'', le_174, ln_174⟩ := hS.call [0, 1] (by decide) rfl (l' := [Mem.one g_5 (.cells ([.int .i64 t_171.2.1, .int .i64 t_171.2.2.1, .int .i64 t_171.2.2.2.1, v_175, .int .i64 t_171.2.2.2.2.2.1, .int .i64 t_171.2.2.2.2.2.2.1, .int .i64 t_171.2.2.2.2.2.2.2.1, .int .i64 t_171.2.2.2.2.2.2.2.2.1, .int .i64 t_171.2.2.2.2.2.2.2.2.2.1, .int .i64 t_171.2.2.2.2.2.2.2.2.2.2.1, .int .i64 t_171.2.2.2.2.2.2.2.2.2.2.2.1, .int .i64 t_171.2.2.2.2.2.2.2.2.2.2.2.2.1, .bool t_171.2.2.2.2.2.2.2.2.2.2.2.2.2.1, .int .i64 t_171.2.2.2.2.2.2.2.2.2.2.2.2.2.2.1, .int .i64 t_171.2.2.2.2.2.2.2.2.2.2.2.2.2.2.2.1, .int .i64 t_171.2.2.2.2.2.2.2.2.2.2.2.2.2.2.2.2.1, .int .i64 t_171.2.2.2.2.2.2.2.2.2.2.2.2.2.2.2.2.2.1, v_179, .int .i64 t_171.2.2.2.2.2.2.2.2.2.2.2.2.2.2.2.2.2.2.2.1, .int .i64 t_171.2.2.2.2.2.2.2.2.2.2.2.2.2.2.2.2.2.2.2.2.1, v_181, v_183, .int .i64 t_171.2.2.2.2.2.2.2.2.2.2.2.2.2.2.2.2.2.2.2.2.2.2.2.1, .int .i64 t_171.2.2.2.2.2.2.2.2.2.2.2.2.2.2.2.2.2.2.2.2.2.2.2.2.1, .int .i64 t_171.2.2.2.2.2.2.2.2.2.2.2.2.2.2.2.2.2.2.2.2.2.2.2.2.2.1, .int .i64 t_171.2.2.2.2.2.2.2.2.2.2.2.2.2.2.2.2.2.2.2.2.2.2.2.2.2.2.1, .int .i64 t_171.2.2.2.2.2.2.2.2.2.2.2.2.2.2.2.2.2.2.2.2.2.2.2.2.2.2.2.1, v_185, v_187, v_189, .bool t_171.2.2.2.2.2.2.2.2.2.2.2.2.2.2.2.2.2.2.2.2.2.2.2.2.2.2.2.2.2.2.2] : List Value).toArray 80 (0, 0)), M_177]) (ow := []) rfl hS'
            replace hS : Sep w0 w_172 [N_174, Mem.one g_5 (.cells ([.int .i64 t_171.2.1, .int .i64 t_171.2.2.1, .int .i64 t_171.2.2.2.1, v_175, .int .i64 t_171.2.2.2.2.2.1, .int .i64 t_171.2.2.2.2.2.2.1, .int .i64 t_171.2.2.2.2.2.2.2.1, .int .i64 t_171.2.2.2.2.2.2.2.2.1, .int .i64 t_171.2.2.2.2.2.2.2.2.2.1, .int .i64 t_171.2.2.2.2.2.2.2.2.2.2.1, .int .i64 t_171.2.2.2.2.2.2.2.2.2.2.2.1, .int .i64 t_171.2.2.2.2.2.2.2.2.2.2.2.2.1, .bool t_171.2.2.2.2.2.2.2.2.2.2.2.2.2.1, .int .i64 t_171.2.2.2.2.2.2.2.2.2.2.2.2.2.2.1, .int .i64 t_171.2.2.2.2.2.2.2.2.2.2.2.2.2.2.2.1, .int .i64 t_171.2.2.2.2.2.2.2.2.2.2.2.2.2.2.2.2.1, .int .i64 t_171.2.2.2.2.2.2.2.2.2.2.2.2.2.2.2.2.2.1, v_179, .int .i64 t_171.2.2.2.2.2.2.2.2.2.2.2.2.2.2.2.2.2.2.2.1, .int .i64 t_171.2.2.2.2.2.2.2.2.2.2.2.2.2.2.2.2.2.2.2.2.1, v_181, v_183, .int .i64 t_171.2.2.2.2.2.2.2.2.2.2.2.2.2.2.2.2.2.2.2.2.2.2.2.1, .int .i64 t_171.2.2.2.2.2.2.2.2.2.2.2.2.2.2.2.2.2.2.2.2.2.2.2.2.1, .int .i64 t_171.2.2.2.2.2.2.2.2.2.2.2.2.2.2.2.2.2.2.2.2.2.2.2.2.2.1, .int .i64 t_171.2.2.2.2.2.2.2.2.2.2.2.2.2.2.2.2.2.2.2.2.2.2.2.2.2.2.1, .int .i64 t_171.2.2.2.2.2.2.2.2.2.2.2.2.2.2.2.2.2.2.2.2.2.2.2.2.2.2.2.1, v_185, v_187, v_189, .bool t_171.2.2.2.2.2.2.2.2.2.2.2.2.2.2.2.2.2.2.2.2.2.2.2.2.2.2.2.2.2.2.2] : List Value).toArray 80 (0, 0)), M_177, Mem.one g_78 (.cells ([.int .i64 t_45.1.Kind, .int .i64 t_45.1.From, .int .i64 t_45.1.To, .int .i64 t_45.1.View, .int .i64 t_45.1.Inst, .int .i64 t_45.1.Len, .bool t_45.1.Has, .int .i64 t_45.1.Members, .int .i64 t_45.1.Source, .int .i64 t_45.1.At, .int .i64 t_45.1.Total, v_49, .int .i64 t_45.1.Hop, .int .i64 t_45.1.Seq, v_51, v_53, .int .i64 t_45.1.Index, .int .i64 t_45.1.Entry.Sess, .int .i64 t_45.1.Entry.Seq, .int .i64 t_45.1.Entry.Cmd.Kind, .int .i64 t_45.1.Entry.Cmd.Who, v_55, v_57, v_59] : List Value).toArray 29 (0, 0)), Mem.no] Z := hS''
            clear hS' hS''
            refine wpList_nil ?_
            replace hm : Fr 156 a [(0, .int .i64 (w64 ((Int.tmod (band .i64 x0 255) 7) + 1))), (2, p2_1), (6, .bool false), (7, .pointer (some ⟨g_5, 0, none⟩)), (8, .int .i64 x_25), (11, .pointer (some ⟨g_78, 0, none⟩)), (12, .bool t_45.2.1), (13, .int .i64 x_103)] := hm.keep [0, 2, 6, 7, 8, 11, 12, 13]
            refine x_then_n ?_
            refine wp_seq ?_
            refine wp_region_lit ?_
            refine s_move hm rfl rfl ?_
            clear hm a; intro a hm
            obtain ⟨t_191, et_191, H⟩ := Option.bind_eq_some_iff.1 H
            refine s_call hm rfl Try.call45 rfl (gath_Gather_Commit.calls K _ t_171.2.1 t_171.2.2.1 t_171.2.2.2.1 t_171.2.2.2.2.1 _ _ t_171.2.2.2.2.2.1 t_171.2.2.2.2.2.2.1 t_171.2.2.2.2.2.2.2.1 t_171.2.2.2.2.2.2.2.2.1 t_171.2.2.2.2.2.2.2.2.2.1 t_171.2.2.2.2.2.2.2.2.2.2.1 t_171.2.2.2.2.2.2.2.2.2.2.2.1 t_171.2.2.2.2.2.2.2.2.2.2.2.2.1 t_171.2.2.2.2.2.2.2.2.2.2.2.2.2.1 t_171.2.2.2.2.2.2.2.2.2.2.2.2.2.2.1 t_171.2.2.2.2.2.2.2.2.2.2.2.2.2.2.2.1 t_171.2.2.2.2.2.2.2.2.2.2.2.2.2.2.2.2.1 t_171.2.2.2.2.2.2.2.2.2.2.2.2.2.2.2.2.2.1 t_171.2.2.2.2.2.2.2.2.2.2.2.2.2.2.2.2.2.2.1 _ t_171.2.2.2.2.2.2.2.2.2.2.2.2.2.2.2.2.2.2.2.1 t_171.2.2.2.2.2.2.2.2.2.2.2.2.2.2.2.2.2.2.2.2.1 t_171.2.2.2.2.2.2.2.2.2.2.2.2.2.2.2.2.2.2.2.2.2.1 _ t_171.2.2.2.2.2.2.2.2.2.2.2.2.2.2.2.2.2.2.2.2.2.2.1 _ t_171.2.2.2.2.2.2.2.2.2.2.2.2.2.2.2.2.2.2.2.2.2.2.2.1 t_171.2.2.2.2.2.2.2.2.2.2.2.2.2.2.2.2.2.2.2.2.2.2.2.2.1 t_171.2.2.2.2.2.2.2.2.2.2.2.2.2.2.2.2.2.2.2.2.2.2.2.2.2.1 t_171.2.2.2.2.2.2.2.2.2.2.2.2.2.2.2.2.2.2.2.2.2.2.2.2.2.2.1 t_171.2.2.2.2.2.2.2.2.2.2.2.2.2.2.2.2.2.2.2.2.2.2.2.2.2.2.2.1 t_171.2.2.2.2.2.2.2.2.2.2.2.2.2.2.2.2.2.2.2.2.2.2.2.2.2.2.2.2.1 _ t_171.2.2.2.2.2.2.2.2.2.2.2.2.2.2.2.2.2.2.2.2.2.2.2.2.2.2.2.2.2.1 _ t_171.2.2.2.2.2.2.2.2.2.2.2.2.2.2.2.2.2.2.2.2.2.2.2.2.2.2.2.2.2.2.1 _ t_171.2.2.2.2.2.2.2.2.2.2.2.2.2.2.2.2.2.2.2.2.2.2.2.2.2.2.2.2.2.2.2 t_191 w0 _ _ N_174 (hS.new_zed [0, 1]) (hS.enter [0, 1] (by decide)) ((hr_176.mono (Mem.un_le le_174 ln_174)).mono (Mem.le.refl _)) (hr_180.mono (Mem.un_le le_174 ln_174)) (hr_182.mono (Mem.un_le le_174 ln_174)) (hr_184.mono (Mem.un_le le_174 ln_174)) (hr_186.mono (Mem.un_le le_174 ln_174)) (hr_188.mono (Mem.un_le le_174 ln_174)) (hr_190.mono (Mem.un_le le_174 ln_174)) et_191) ?_
            rintro _ w_192 ⟨v_195, v_197, v_199, v_201, v_203, v_205, v_207, v_211, v_213, v_215, v_217, v_219, v_221, N_193, M_209, rfl, hS', hr_196, hr_198, hr_200, hr_202, hr_204, hr_206, hr_208, hr_212, hr_214, hr_216, hr_218, hr_220, hr_222⟩
            clear hm a; intro a hm
            obtain ⟨N_194, hS'', le_194, ln_194⟩ := hS.call [0, 1] (by decide) rfl (l' := [Mem.one g_5 (.cells ([.int .i64 t_191.2.2.1, .int .i64 t_191.2.2.2.1, .int .i64 t_191.2.2.2.2.1, v_207, .int .i64 t_191.2.2.2.2.2.2.1, .int .i64 t_191.2.2.2.2.2.2.2.1, .int .i64 t_191.2.2.2.2.2.2.2.2.1, .int .i64 t_191.2.2.2.2.2.2.2.2.2.1, .int .i64 t_191.2.2.2.2.2.2.2.2.2.2.1, .int .i64 t_191.2.2.2.2.2.2.2.2.2.2.2.1, .int .i64 t_191.2.2.2.2.2.2.2.2.2.2.2.2.1, .int .i64 t_191.2.2.2.2.2.2.2.2.2.2.2.2.2.1, .bool t_191.2.2.2.2.2.2.2.2.2.2.2.2.2.2.1, .int .i64 t_191.2.2.2.2.2.2.2.2.2.2.2.2.2.2.2.1, .int .i64 t_191.2.2.2.2.2.2.2.2.2.2.2.2.2.2.2.2.1, .int .i64 t_191.2.2.2.2.2.2.2.2.2.2.2.2.2.2.2.2.2.1, .int .i64 t_191.2.2.2.2.2.2.2.2.2.2.2.2.2.2.2.2.2.2.1, v_211, .int .i64 t_191.2.2.2.2.2.2.2.2.2.2.2.2.2.2.2.2.2.2.2.2.1, .int .i64 t_191.2.2.2.2.2.2.2.2.2.2.2.2.2.2.2.2.2.2.2.2.2.1, v_213, v_215, .int .i64 t_191.2.2.2.2.2.2.2.2.2.2.2.2.2.2.2.2.2.2.2.2.2.2.2.2.1, .int .i64 t_191.2.2.2.2.2.2.2.2.2.2.2.2.2.2.2.2.2.2.2.2.2.2.2.2.2.1, .int .i64 t_191.2.2.2.2.2.2.2.2.2.2.2.2.2.2.2.2.2.2.2.2.2.2.2.2.2.2.1, .int .i64 t_191.2.2.2.2.2.2.2.2.2.2.2.2.2.2.2.2.2.2.2.2.2.2.2.2.2.2.2.1, .int .i64 t_191.2.2.2.2.2.2.2.2.2.2.2.2.2.2.2.2.2.2.2.2.2.2.2.2.2.2.2.2.1, v_217, v_219, v_221, .bool t_191.2.2.2.2.2.2.2.2.2.2.2.2.2.2.2.2.2.2.2.2.2.2.2.2.2.2.2.2.2.2.2.2] : List Value).toArray 80 (0, 0)), M_209]) (ow := []) rfl hS'
            replace hS : Sep w0 w_192 [N_194, Mem.one g_5 (.cells ([.int .i64 t_191.2.2.1, .int .i64 t_191.2.2.2.1, .int .i64 t_191.2.2.2.2.1, v_207, .int .i64 t_191.2.2.2.2.2.2.1, .int .i64 t_191.2.2.2.2.2.2.2.1, .int .i64 t_191.2.2.2.2.2.2.2.2.1, .int .i64 t_191.2.2.2.2.2.2.2.2.2.1, .int .i64 t_191.2.2.2.2.2.2.2.2.2.2.1, .int .i64 t_191.2.2.2.2.2.2.2.2.2.2.2.1, .int .i64 t_191.2.2.2.2.2.2.2.2.2.2.2.2.1, .int .i64 t_191.2.2.2.2.2.2.2.2.2.2.2.2.2.1, .bool t_191.2.2.2.2.2.2.2.2.2.2.2.2.2.2.1, .int .i64 t_191.2.2.2.2.2.2.2.2.2.2.2.2.2.2.2.1, .int .i64 t_191.2.2.2.2.2.2.2.2.2.2.2.2.2.2.2.2.1, .int .i64 t_191.2.2.2.2.2.2.2.2.2.2.2.2.2.2.2.2.2.1, .int .i64 t_191.2.2.2.2.2.2.2.2.2.2.2.2.2.2.2.2.2.2.1, v_211, .int .i64 t_191.2.2.2.2.2.2.2.2.2.2.2.2.2.2.2.2.2.2.2.2.1, .int .i64 t_191.2.2.2.2.2.2.2.2.2.2.2.2.2.2.2.2.2.2.2.2.2.1, v_213, v_215, .int .i64 t_191.2.2.2.2.2.2.2.2.2.2.2.2.2.2.2.2.2.2.2.2.2.2.2.2.1, .int .i64 t_191.2.2.2.2.2.2.2.2.2.2.2.2.2.2.2.2.2.2.2.2.2.2.2.2.2.1, .int .i64 t_191.2.2.2.2.2.2.2.2.2.2.2.2.2.2.2.2.2.2.2.2.2.2.2.2.2.2.1, .int .i64 t_191.2.2.2.2.2.2.2.2.2.2.2.2.2.2.2.2.2.2.2.2.2.2.2.2.2.2.2.1, .int .i64 t_191.2.2.2.2.2.2.2.2.2.2.2.2.2.2.2.2.2.2.2.2.2.2.2.2.2.2.2.2.1, v_217, v_219, v_221, .bool t_191.2.2.2.2.2.2.2.2.2.2.2.2.2.2.2.2.2.2.2.2.2.2.2.2.2.2.2.2.2.2.2.2] : List Value).toArray 80 (0, 0)), M_209, Mem.one g_78 (.cells ([.int .i64 t_45.1.Kind, .int .i64 t_45.1.From, .int .i64 t_45.1.To, .int .i64 t_45.1.View, .int .i64 t_45.1.Inst, .int .i64 t_45.1.Len, .bool t_45.1.Has, .int .i64 t_45.1.Members, .int .i64 t_45.1.Source, .int .i64 t_45.1.At, .int .i64 t_45.1.Total, v_49, .int .i64 t_45.1.Hop, .int .i64 t_45.1.Seq, v_51, v_53, .int .i64 t_45.1.Index, .int .i64 t_45.1.Entry.Sess, .int .i64 t_45.1.Entry.Seq, .int .i64 t_45.1.Entry.Cmd.Kind, .int .i64 t_45.1.Entry.Cmd.Who, v_55, v_57, v_59] : List Value).toArray 29 (0, 0)), Mem.no] Z := hS''
            clear hS' hS''
            refine s_move hm rfl rfl ?_
            clear hm a; intro a hm
            refine s_extract hm rfl rfl rfl ?_
            clear hm a; intro a hm
            refine s_extract hm rfl rfl rfl ?_
            clear hm a; intro a hm
            refine v_alloc hm rfl ti29 hS ?_
            intro w_223 g_224 hS'
            clear hm a; intro a hm
            replace hS : Sep w0 w_223 [N_194, Mem.one g_5 (.cells ([.int .i64 t_191.2.2.1, .int .i64 t_191.2.2.2.1, .int .i64 t_191.2.2.2.2.1, v_207, .int .i64 t_191.2.2.2.2.2.2.1, .int .i64 t_191.2.2.2.2.2.2.2.1, .int .i64 t_191.2.2.2.2.2.2.2.2.1, .int .i64 t_191.2.2.2.2.2.2.2.2.2.1, .int .i64 t_191.2.2.2.2.2.2.2.2.2.2.1, .int .i64 t_191.2.2.2.2.2.2.2.2.2.2.2.1, .int .i64 t_191.2.2.2.2.2.2.2.2.2.2.2.2.1, .int .i64 t_191.2.2.2.2.2.2.2.2.2.2.2.2.2.1, .bool t_191.2.2.2.2.2.2.2.2.2.2.2.2.2.2.1, .int .i64 t_191.2.2.2.2.2.2.2.2.2.2.2.2.2.2.2.1, .int .i64 t_191.2.2.2.2.2.2.2.2.2.2.2.2.2.2.2.2.1, .int .i64 t_191.2.2.2.2.2.2.2.2.2.2.2.2.2.2.2.2.2.1, .int .i64 t_191.2.2.2.2.2.2.2.2.2.2.2.2.2.2.2.2.2.2.1, v_211, .int .i64 t_191.2.2.2.2.2.2.2.2.2.2.2.2.2.2.2.2.2.2.2.2.1, .int .i64 t_191.2.2.2.2.2.2.2.2.2.2.2.2.2.2.2.2.2.2.2.2.2.1, v_213, v_215, .int .i64 t_191.2.2.2.2.2.2.2.2.2.2.2.2.2.2.2.2.2.2.2.2.2.2.2.2.1, .int .i64 t_191.2.2.2.2.2.2.2.2.2.2.2.2.2.2.2.2.2.2.2.2.2.2.2.2.2.1, .int .i64 t_191.2.2.2.2.2.2.2.2.2.2.2.2.2.2.2.2.2.2.2.2.2.2.2.2.2.2.1, .int .i64 t_191.2.2.2.2.2.2.2.2.2.2.2.2.2.2.2.2.2.2.2.2.2.2.2.2.2.2.2.1, .int .i64 t_191.2.2.2.2.2.2.2.2.2.2.2.2.2.2.2.2.2.2.2.2.2.2.2.2.2.2.2.2.1, v_217, v_219, v_221, .bool t_191.2.2.2.2.2.2.2.2.2.2.2.2.2.2.2.2.2.2.2.2.2.2.2.2.2.2.2.2.2.2.2.2] : List Value).toArray 80 (0, 0)), M_209, Mem.one g_78 (.cells ([.int .i64 t_45.1.Kind, .int .i64 t_45.1.From, .int .i64 t_45.1.To, .int .i64 t_45.1.View, .int .i64 t_45.1.Inst, .int .i64 t_45.1.Len, .bool t_45.1.Has, .int .i64 t_45.1.Members, .int .i64 t_45.1.Source, .int .i64 t_45.1.At, .int .i64 t_45.1.Total, v_49, .int .i64 t_45.1.Hop, .int .i64 t_45.1.Seq, v_51, v_53, .int .i64 t_45.1.Index, .int .i64 t_45.1.Entry.Sess, .int .i64 t_45.1.Entry.Seq, .int .i64 t_45.1.Entry.Cmd.Kind, .int .i64 t_45.1.Entry.Cmd.Who, v_55, v_57, v_59] : List Value).toArray 29 (0, 0)), Mem.no, Mem.one g_224 (.cells ([.int .i64 0, .int .i64 0, .int .i64 0, .int .i64 0, .int .i64 0, .int .i64 0, .bool false, .int .i64 0, .int .i64 0, .int .i64 0, .int .i64 0, .slice none 0 0, .int .i64 0, .int .i64 0, .slice none 0 0, .slice none 0 0, .int .i64 0, .int .i64 0, .int .i64 0, .int .i64 0, .int .i64 0, .slice none 0 0, .slice none 0 0, .slice none 0 0] : List Value).toArray 29 (0, 0))] Z := hS'
            clear hS'
            obtain ⟨w_225, hs', hS'⟩ := hS.store (P := Try.prog) (p := 5) (o := 0) (t := 29) (v := .agg ([.int .i64 t_191.1.Kind, .int .i64 t_191.1.From, .int .i64 t_191.1.To, .int .i64 t_191.1.View, .int .i64 t_191.1.Inst, .int .i64 t_191.1.Len, .bool t_191.1.Has, .int .i64 t_191.1.Members, .int .i64 t_191.1.Source, .int .i64 t_191.1.At, .int .i64 t_191.1.Total, v_195, .int .i64 t_191.1.Hop, .int .i64 t_191.1.Seq, v_197, v_199, .int .i64 t_191.1.Index, .int .i64 t_191.1.Entry.Sess, .int .i64 t_191.1.Entry.Seq, .int .i64 t_191.1.Entry.Cmd.Kind, .int .i64 t_191.1.Entry.Cmd.Who, v_201, v_203, v_205] : List Value).toArray) (vs := [.int .i64 t_191.1.Kind, .int .i64 t_191.1.From, .int .i64 t_191.1.To, .int .i64 t_191.1.View, .int .i64 t_191.1.Inst, .int .i64 t_191.1.Len, .bool t_191.1.Has, .int .i64 t_191.1.Members, .int .i64 t_191.1.Source, .int .i64 t_191.1.At, .int .i64 t_191.1.Total, v_195, .int .i64 t_191.1.Hop, .int .i64 t_191.1.Seq, v_197, v_199, .int .i64 t_191.1.Index, .int .i64 t_191.1.Entry.Sess, .int .i64 t_191.1.Entry.Seq, .int .i64 t_191.1.Entry.Cmd.Kind, .int .i64 t_191.1.Entry.Cmd.Who, v_201, v_203, v_205]) rfl ti29 rfl rfl rfl (by intro u hu; simp only [List.mem_cons, List.not_mem_nil, or_false] at hu; rcases hu with rfl | rfl | rfl | rfl | rfl | rfl | rfl | rfl | rfl | rfl | rfl | rfl | rfl | rfl | rfl | rfl | rfl | rfl | rfl | rfl | rfl | rfl | rfl | rfl <;> first | rfl | exact (hr_196.mono (Mem.un_le le_194 ln_194)).one | exact (hr_198.mono (Mem.un_le le_194 ln_194)).one | exact (hr_200.mono (Mem.un_le le_194 ln_194)).one | exact (hr_202.mono (Mem.un_le le_194 ln_194)).one | exact (hr_204.mono (Mem.un_le le_194 ln_194)).one | exact (hr_206.mono (Mem.un_le le_194 ln_194)).one)
            refine s_store hm rfl rfl hs' ?_
            replace hS : Sep w0 w_225 [N_194, Mem.one g_5 (.cells ([.int .i64 t_191.2.2.1, .int .i64 t_191.2.2.2.1, .int .i64 t_191.2.2.2.2.1, v_207, .int .i64 t_191.2.2.2.2.2.2.1, .int .i64 t_191.2.2.2.2.2.2.2.1, .int .i64 t_191.2.2.2.2.2.2.2.2.1, .int .i64 t_191.2.2.2.2.2.2.2.2.2.1, .int .i64 t_191.2.2.2.2.2.2.2.2.2.2.1, .int .i64 t_191.2.2.2.2.2.2.2.2.2.2.2.1, .int .i64 t_191.2.2.2.2.2.2.2.2.2.2.2.2.1, .int .i64 t_191.2.2.2.2.2.2.2.2.2.2.2.2.2.1, .bool t_191.2.2.2.2.2.2.2.2.2.2.2.2.2.2.1, .int .i64 t_191.2.2.2.2.2.2.2.2.2.2.2.2.2.2.2.1, .int .i64 t_191.2.2.2.2.2.2.2.2.2.2.2.2.2.2.2.2.1, .int .i64 t_191.2.2.2.2.2.2.2.2.2.2.2.2.2.2.2.2.2.1, .int .i64 t_191.2.2.2.2.2.2.2.2.2.2.2.2.2.2.2.2.2.2.1, v_211, .int .i64 t_191.2.2.2.2.2.2.2.2.2.2.2.2.2.2.2.2.2.2.2.2.1, .int .i64 t_191.2.2.2.2.2.2.2.2.2.2.2.2.2.2.2.2.2.2.2.2.2.1, v_213, v_215, .int .i64 t_191.2.2.2.2.2.2.2.2.2.2.2.2.2.2.2.2.2.2.2.2.2.2.2.2.1, .int .i64 t_191.2.2.2.2.2.2.2.2.2.2.2.2.2.2.2.2.2.2.2.2.2.2.2.2.2.1, .int .i64 t_191.2.2.2.2.2.2.2.2.2.2.2.2.2.2.2.2.2.2.2.2.2.2.2.2.2.2.1, .int .i64 t_191.2.2.2.2.2.2.2.2.2.2.2.2.2.2.2.2.2.2.2.2.2.2.2.2.2.2.2.1, .int .i64 t_191.2.2.2.2.2.2.2.2.2.2.2.2.2.2.2.2.2.2.2.2.2.2.2.2.2.2.2.2.1, v_217, v_219, v_221, .bool t_191.2.2.2.2.2.2.2.2.2.2.2.2.2.2.2.2.2.2.2.2.2.2.2.2.2.2.2.2.2.2.2.2] : List Value).toArray 80 (0, 0)), M_209, Mem.one g_78 (.cells ([.int .i64 t_45.1.Kind, .int .i64 t_45.1.From, .int .i64 t_45.1.To, .int .i64 t_45.1.View, .int .i64 t_45.1.Inst, .int .i64 t_45.1.Len, .bool t_45.1.Has, .int .i64 t_45.1.Members, .int .i64 t_45.1.Source, .int .i64 t_45.1.At, .int .i64 t_45.1.Total, v_49, .int .i64 t_45.1.Hop, .int .i64 t_45.1.Seq, v_51, v_53, .int .i64 t_45.1.Index, .int .i64 t_45.1.Entry.Sess, .int .i64 t_45.1.Entry.Seq, .int .i64 t_45.1.Entry.Cmd.Kind, .int .i64 t_45.1.Entry.Cmd.Who, v_55, v_57, v_59] : List Value).toArray 29 (0, 0)), Mem.no, Mem.one g_224 (.cells ([.int .i64 t_191.1.Kind, .int .i64 t_191.1.From, .int .i64 t_191.1.To, .int .i64 t_191.1.View, .int .i64 t_191.1.Inst, .int .i64 t_191.1.Len, .bool t_191.1.Has, .int .i64 t_191.1.Members, .int .i64 t_191.1.Source, .int .i64 t_191.1.At, .int .i64 t_191.1.Total, v_195, .int .i64 t_191.1.Hop, .int .i64 t_191.1.Seq, v_197, v_199, .int .i64 t_191.1.Index, .int .i64 t_191.1.Entry.Sess, .int .i64 t_191.1.Entry.Seq, .int .i64 t_191.1.Entry.Cmd.Kind, .int .i64 t_191.1.Entry.Cmd.Who, v_201, v_203, v_205] : List Value).toArray 29 (0, 0))] Z := hS'
            clear hs' hS'
            refine s_assign hm rfl rfl ?_
            clear hm a; intro a hm
            refine wpList_nil ?_
            replace hm : Fr 156 a [(0, .int .i64 (w64 ((Int.tmod (band .i64 x0 255) 7) + 1))), (2, p2_1), (6, .bool false), (7, .pointer (some ⟨g_5, 0, none⟩)), (8, .int .i64 x_25), (11, .pointer (some ⟨g_78, 0, none⟩)), (12, .bool t_45.2.1), (13, .int .i64 x_103), (16, .pointer (some ⟨g_224, 0, none⟩)), (17, .bool t_191.2.1)] := hm.keep [0, 2, 6, 7, 8, 11, 12, 13, 16, 17]
            refine x_then_n ?_
            refine c_seq fun KJ_226 hKJ_226 => ?_
            have hJ_j_230 : ∀ (x_228 : Bool), hocketlaw18_GathOnce.J5 K (hocketlaw18_GathOnce.L1 K x2 t_45 (fun v => hocketlaw18_GathOnce.J2 K t_45 x_25 x0) k_121) x_103 t_191 x_228 = some r → ∀ (a : Act) (w_229 : World), (∃ (N_227 : Mem), Fr 156 a [(0, .int .i64 (w64 ((Int.tmod (band .i64 x0 255) 7) + 1))), (2, p2_1), (6, .bool false), (7, .pointer (some ⟨g_5, 0, none⟩)), (8, .int .i64 x_25), (11, .pointer (some ⟨g_78, 0, none⟩)), (12, .bool t_45.2.1), (13, .int .i64 x_103), (123, .bool x_228)] ∧ Sep w0 w_229 [N_227, Mem.one g_5 (.cells ([.int .i64 t_191.2.2.1, .int .i64 t_191.2.2.2.1, .int .i64 t_191.2.2.2.2.1, v_207, .int .i64 t_191.2.2.2.2.2.2.1, .int .i64 t_191.2.2.2.2.2.2.2.1, .int .i64 t_191.2.2.2.2.2.2.2.2.1, .int .i64 t_191.2.2.2.2.2.2.2.2.2.1, .int .i64 t_191.2.2.2.2.2.2.2.2.2.2.1, .int .i64 t_191.2.2.2.2.2.2.2.2.2.2.2.1, .int .i64 t_191.2.2.2.2.2.2.2.2.2.2.2.2.1, .int .i64 t_191.2.2.2.2.2.2.2.2.2.2.2.2.2.1, .bool t_191.2.2.2.2.2.2.2.2.2.2.2.2.2.2.1, .int .i64 t_191.2.2.2.2.2.2.2.2.2.2.2.2.2.2.2.1, .int .i64 t_191.2.2.2.2.2.2.2.2.2.2.2.2.2.2.2.2.1, .int .i64 t_191.2.2.2.2.2.2.2.2.2.2.2.2.2.2.2.2.2.1, .int .i64 t_191.2.2.2.2.2.2.2.2.2.2.2.2.2.2.2.2.2.2.1, v_211, .int .i64 t_191.2.2.2.2.2.2.2.2.2.2.2.2.2.2.2.2.2.2.2.2.1, .int .i64 t_191.2.2.2.2.2.2.2.2.2.2.2.2.2.2.2.2.2.2.2.2.2.1, v_213, v_215, .int .i64 t_191.2.2.2.2.2.2.2.2.2.2.2.2.2.2.2.2.2.2.2.2.2.2.2.2.1, .int .i64 t_191.2.2.2.2.2.2.2.2.2.2.2.2.2.2.2.2.2.2.2.2.2.2.2.2.2.1, .int .i64 t_191.2.2.2.2.2.2.2.2.2.2.2.2.2.2.2.2.2.2.2.2.2.2.2.2.2.2.1, .int .i64 t_191.2.2.2.2.2.2.2.2.2.2.2.2.2.2.2.2.2.2.2.2.2.2.2.2.2.2.2.1, .int .i64 t_191.2.2.2.2.2.2.2.2.2.2.2.2.2.2.2.2.2.2.2.2.2.2.2.2.2.2.2.2.1, v_217, v_219, v_221, .bool t_191.2.2.2.2.2.2.2.2.2.2.2.2.2.2.2.2.2.2.2.2.2.2.2.2.2.2.2.2.2.2.2.2] : List Value).toArray 80 (0, 0)), M_209, Mem.one g_78 (.cells ([.int .i64 t_45.1.Kind, .int .i64 t_45.1.From, .int .i64 t_45.1.To, .int .i64 t_45.1.View, .int .i64 t_45.1.Inst, .int .i64 t_45.1.Len, .bool t_45.1.Has, .int .i64 t_45.1.Members, .int .i64 t_45.1.Source, .int .i64 t_45.1.At, .int .i64 t_45.1.Total, v_49, .int .i64 t_45.1.Hop, .int .i64 t_45.1.Seq, v_51, v_53, .int .i64 t_45.1.Index, .int .i64 t_45.1.Entry.Sess, .int .i64 t_45.1.Entry.Seq, .int .i64 t_45.1.Entry.Cmd.Kind, .int .i64 t_45.1.Entry.Cmd.Who, v_55, v_57, v_59] : List Value).toArray 29 (0, 0)), Mem.no, Mem.no] Z ∧ N_194.le N_227) → KJ_226 a w_229 := by
              clear H hm hS a
              rintro x_228 H a w_229 ⟨N_227, hm, hS, le_227⟩
              unfold hocketlaw18_GathOnce.J5 at H
              refine hKJ_226 _ _ ?_
              by_cases hc_231 : x_228 = true
              · rw [if_pos hc_231] at H
                cases H
              · rw [if_neg hc_231] at H
                refine c_cond_f hm rfl (Bool.eq_false_iff.2 hc_231) ?_
                refine wp_skip ?_
                refine x_block_n ?_
                refine x_then_n (hKJ_130 _ _ ?_)
                refine wp_region_lit ?_
                refine s_move hm rfl rfl ?_
                clear hm a; intro a hm
                refine s_arith (r := w64 (x_103 + 1)) hm rfl rfl rfl (.inl ⟨rfl, rfl⟩) ?_
                clear hm a; intro a hm
                refine s_assign hm rfl rfl ?_
                clear hm a; intro a hm
                refine wpList_nil ?_
                replace hm : Fr 156 a [(0, .int .i64 (w64 ((Int.tmod (band .i64 x0 255) 7) + 1))), (2, p2_1), (6, .bool false), (7, .pointer (some ⟨g_5, 0, none⟩)), (8, .int .i64 x_25), (11, .pointer (some ⟨g_78, 0, none⟩)), (12, .bool t_45.2.1), (13, .int .i64 (w64 (x_103 + 1)))] := hm.keep [0, 2, 6, 7, 8, 11, 12, 13]
                refine x_then_n (hKL_121 _ _ ?_)
                replace hS : Sep w0 w_229 [N_227, Mem.one g_5 (.cells ([.int .i64 t_191.2.2.1, .int .i64 t_191.2.2.2.1, .int .i64 t_191.2.2.2.2.1, v_207, .int .i64 t_191.2.2.2.2.2.2.1, .int .i64 t_191.2.2.2.2.2.2.2.1, .int .i64 t_191.2.2.2.2.2.2.2.2.1, .int .i64 t_191.2.2.2.2.2.2.2.2.2.1, .int .i64 t_191.2.2.2.2.2.2.2.2.2.2.1, .int .i64 t_191.2.2.2.2.2.2.2.2.2.2.2.1, .int .i64 t_191.2.2.2.2.2.2.2.2.2.2.2.2.1, .int .i64 t_191.2.2.2.2.2.2.2.2.2.2.2.2.2.1, .bool t_191.2.2.2.2.2.2.2.2.2.2.2.2.2.2.1, .int .i64 t_191.2.2.2.2.2.2.2.2.2.2.2.2.2.2.2.1, .int .i64 t_191.2.2.2.2.2.2.2.2.2.2.2.2.2.2.2.2.1, .int .i64 t_191.2.2.2.2.2.2.2.2.2.2.2.2.2.2.2.2.2.1, .int .i64 t_191.2.2.2.2.2.2.2.2.2.2.2.2.2.2.2.2.2.2.1, v_211, .int .i64 t_191.2.2.2.2.2.2.2.2.2.2.2.2.2.2.2.2.2.2.2.2.1, .int .i64 t_191.2.2.2.2.2.2.2.2.2.2.2.2.2.2.2.2.2.2.2.2.2.1, v_213, v_215, .int .i64 t_191.2.2.2.2.2.2.2.2.2.2.2.2.2.2.2.2.2.2.2.2.2.2.2.2.1, .int .i64 t_191.2.2.2.2.2.2.2.2.2.2.2.2.2.2.2.2.2.2.2.2.2.2.2.2.2.1, .int .i64 t_191.2.2.2.2.2.2.2.2.2.2.2.2.2.2.2.2.2.2.2.2.2.2.2.2.2.2.1, .int .i64 t_191.2.2.2.2.2.2.2.2.2.2.2.2.2.2.2.2.2.2.2.2.2.2.2.2.2.2.2.1, .int .i64 t_191.2.2.2.2.2.2.2.2.2.2.2.2.2.2.2.2.2.2.2.2.2.2.2.2.2.2.2.2.1, v_217, v_219, v_221, .bool t_191.2.2.2.2.2.2.2.2.2.2.2.2.2.2.2.2.2.2.2.2.2.2.2.2.2.2.2.2.2.2.2.2] : List Value).toArray 80 (0, 0)), M_209, Mem.one g_78 (.cells ([.int .i64 t_45.1.Kind, .int .i64 t_45.1.From, .int .i64 t_45.1.To, .int .i64 t_45.1.View, .int .i64 t_45.1.Inst, .int .i64 t_45.1.Len, .bool t_45.1.Has, .int .i64 t_45.1.Members, .int .i64 t_45.1.Source, .int .i64 t_45.1.At, .int .i64 t_45.1.Total, v_49, .int .i64 t_45.1.Hop, .int .i64 t_45.1.Seq, v_51, v_53, .int .i64 t_45.1.Index, .int .i64 t_45.1.Entry.Sess, .int .i64 t_45.1.Entry.Seq, .int .i64 t_45.1.Entry.Cmd.Kind, .int .i64 t_45.1.Entry.Cmd.Who, v_55, v_57, v_59] : List Value).toArray 29 (0, 0)), Mem.no, Mem.no] Z := hS
                replace hm : Fr 156 a [(0, .int .i64 (w64 ((Int.tmod (band .i64 x0 255) 7) + 1))), (2, p2_1), (6, .bool false), (7, .pointer (some ⟨g_5, 0, none⟩)), (8, .int .i64 x_25), (11, .pointer (some ⟨g_78, 0, none⟩)), (12, .bool t_45.2.1), (13, .int .i64 (w64 (x_103 + 1)))] := hm.keep [0, 2, 6, 7, 8, 11, 12, 13]
                exact ⟨w64 (x_103 + 1), (⟨t_191.2.2.1, t_191.2.2.2.1, t_191.2.2.2.2.1, t_191.2.2.2.2.2.1, t_191.2.2.2.2.2.2.1, t_191.2.2.2.2.2.2.2.1, (⟨t_191.2.2.2.2.2.2.2.2.1, t_191.2.2.2.2.2.2.2.2.2.1, t_191.2.2.2.2.2.2.2.2.2.2.1, t_191.2.2.2.2.2.2.2.2.2.2.2.1, t_191.2.2.2.2.2.2.2.2.2.2.2.2.1, t_191.2.2.2.2.2.2.2.2.2.2.2.2.2.1, t_191.2.2.2.2.2.2.2.2.2.2.2.2.2.2.1, t_191.2.2.2.2.2.2.2.2.2.2.2.2.2.2.2.1, t_191.2.2.2.2.2.2.2.2.2.2.2.2.2.2.2.2.1, t_191.2.2.2.2.2.2.2.2.2.2.2.2.2.2.2.2.2.1, t_191.2.2.2.2.2.2.2.2.2.2.2.2.2.2.2.2.2.2.1, t_191.2.2.2.2.2.2.2.2.2.2.2.2.2.2.2.2.2.2.2.1, t_191.2.2.2.2.2.2.2.2.2.2.2.2.2.2.2.2.2.2.2.2.1, t_191.2.2.2.2.2.2.2.2.2.2.2.2.2.2.2.2.2.2.2.2.2.1, t_191.2.2.2.2.2.2.2.2.2.2.2.2.2.2.2.2.2.2.2.2.2.2.1, t_191.2.2.2.2.2.2.2.2.2.2.2.2.2.2.2.2.2.2.2.2.2.2.2.1, t_191.2.2.2.2.2.2.2.2.2.2.2.2.2.2.2.2.2.2.2.2.2.2.2.2.1, (⟨t_191.2.2.2.2.2.2.2.2.2.2.2.2.2.2.2.2.2.2.2.2.2.2.2.2.2.1, t_191.2.2.2.2.2.2.2.2.2.2.2.2.2.2.2.2.2.2.2.2.2.2.2.2.2.2.1, (⟨t_191.2.2.2.2.2.2.2.2.2.2.2.2.2.2.2.2.2.2.2.2.2.2.2.2.2.2.2.1, t_191.2.2.2.2.2.2.2.2.2.2.2.2.2.2.2.2.2.2.2.2.2.2.2.2.2.2.2.2.1, t_191.2.2.2.2.2.2.2.2.2.2.2.2.2.2.2.2.2.2.2.2.2.2.2.2.2.2.2.2.2.1, t_191.2.2.2.2.2.2.2.2.2.2.2.2.2.2.2.2.2.2.2.2.2.2.2.2.2.2.2.2.2.2.1, t_191.2.2.2.2.2.2.2.2.2.2.2.2.2.2.2.2.2.2.2.2.2.2.2.2.2.2.2.2.2.2.2.1⟩ : api_Cmd)⟩ : api_Entry)⟩ : api_Msg), t_191.2.2.2.2.2.2.2.2.2.2.2.2.2.2.2.2.2.2.2.2.2.2.2.2.2.2.2.2.2.2.2.2⟩ : gath_Gather), v_207, v_211, v_213, v_215, v_217, v_219, v_221, N_227, M_209, H, hm, (Sep.sel hS [0, 1, 2, 3] (by decide)), (le_102.trans (le_125.trans (le_143.trans (le_161.trans (le_174.trans (le_194.trans le_227)))))), ((hr_208.mono (Mem.un_le le_194 ln_194)).mono le_227), ((hr_212.mono (Mem.un_le le_194 ln_194)).mono le_227), ((hr_214.mono (Mem.un_le le_194 ln_194)).mono le_227), ((hr_216.mono (Mem.un_le le_194 ln_194)).mono le_227), ((hr_218.mono (Mem.un_le le_194 ln_194)).mono le_227), ((hr_220.mono (Mem.un_le le_194 ln_194)).mono le_227), ((hr_222.mono (Mem.un_le le_194 ln_194)).mono le_227)⟩
            clear hKJ_226
            refine wp_region_lit ?_
            refine s_move hm rfl rfl ?_
            clear hm a; intro a hm
            refine s_move hm rfl rfl ?_
            clear hm a; intro a hm
            by_cases hc_232 : t_45.2.1 = true
            · rw [if_pos hc_232] at H
              refine s_on hm rfl rfl hc_232 ?_
              refine s_move hm rfl rfl ?_
              clear hm a; intro a hm
              refine s_on hm rfl rfl hc_232 ?_
              refine s_not hm rfl rfl ?_
              clear hm a; intro a hm
              refine s_on hm rfl rfl hc_232 ?_
              refine s_move hm rfl rfl ?_
              clear hm a; intro a hm
              by_cases hc_233 : t_191.2.1 = true
              · rw [if_pos hc_233] at H
                refine s_on hm rfl rfl (nf hc_233) ?_
                refine s_load hm rfl rfl (hS.load_agg (p := 3) (us := [.int .i64 t_45.1.Kind, .int .i64 t_45.1.From, .int .i64 t_45.1.To, .int .i64 t_45.1.View, .int .i64 t_45.1.Inst, .int .i64 t_45.1.Len, .bool t_45.1.Has, .int .i64 t_45.1.Members, .int .i64 t_45.1.Source, .int .i64 t_45.1.At, .int .i64 t_45.1.Total, v_49, .int .i64 t_45.1.Hop, .int .i64 t_45.1.Seq, v_51, v_53, .int .i64 t_45.1.Index, .int .i64 t_45.1.Entry.Sess, .int .i64 t_45.1.Entry.Seq, .int .i64 t_45.1.Entry.Cmd.Kind, .int .i64 t_45.1.Entry.Cmd.Who, v_55, v_57, v_59]) rfl Try.underlying29 rfl ti29 rfl rfl) ?_
                clear hm a; intro a hm
                refine s_on hm rfl rfl (nf hc_233) ?_
                refine s_load hm rfl rfl (hS.load_agg (p := 5) (us := [.int .i64 t_191.1.Kind, .int .i64 t_191.1.From, .int .i64 t_191.1.To, .int .i64 t_191.1.View, .int .i64 t_191.1.Inst, .int .i64 t_191.1.Len, .bool t_191.1.Has, .int .i64 t_191.1.Members, .int .i64 t_191.1.Source, .int .i64 t_191.1.At, .int .i64 t_191.1.Total, v_195, .int .i64 t_191.1.Hop, .int .i64 t_191.1.Seq, v_197, v_199, .int .i64 t_191.1.Index, .int .i64 t_191.1.Entry.Sess, .int .i64 t_191.1.Entry.Seq, .int .i64 t_191.1.Entry.Cmd.Kind, .int .i64 t_191.1.Entry.Cmd.Who, v_201, v_203, v_205]) rfl Try.underlying29 rfl ti29 rfl rfl) ?_
                clear hm a; intro a hm
                refine s_on hm rfl rfl (nf hc_233) ?_
                obtain ⟨t_234, et_234, H⟩ := Option.bind_eq_some_iff.1 H
                refine s_call hm rfl Try.call39 rfl (hocketref11_Same.calls K t_45.1 _ _ _ _ _ _ t_191.1 _ _ _ _ _ _ t_234 w0 _ _ _ (Mem.le.refl _) (hS.enter [] (by decide)) ((hr_50.mono (Mem.un_le le_48 ln_48)).mono ((le_102.trans (le_125.trans (le_143.trans (le_161.trans (le_174.trans le_194))))).trans (hS.new_zed []))) ((hr_52.mono (Mem.un_le le_48 ln_48)).mono ((le_102.trans (le_125.trans (le_143.trans (le_161.trans (le_174.trans le_194))))).trans (hS.new_zed []))) ((hr_54.mono (Mem.un_le le_48 ln_48)).mono ((le_102.trans (le_125.trans (le_143.trans (le_161.trans (le_174.trans le_194))))).trans (hS.new_zed []))) ((hr_56.mono (Mem.un_le le_48 ln_48)).mono ((le_102.trans (le_125.trans (le_143.trans (le_161.trans (le_174.trans le_194))))).trans (hS.new_zed []))) ((hr_58.mono (Mem.un_le le_48 ln_48)).mono ((le_102.trans (le_125.trans (le_143.trans (le_161.trans (le_174.trans le_194))))).trans (hS.new_zed []))) ((hr_60.mono (Mem.un_le le_48 ln_48)).mono ((le_102.trans (le_125.trans (le_143.trans (le_161.trans (le_174.trans le_194))))).trans (hS.new_zed []))) ((hr_196.mono (Mem.un_le le_194 ln_194)).mono ((Mem.le.refl _).trans (hS.new_zed []))) ((hr_198.mono (Mem.un_le le_194 ln_194)).mono ((Mem.le.refl _).trans (hS.new_zed []))) ((hr_200.mono (Mem.un_le le_194 ln_194)).mono ((Mem.le.refl _).trans (hS.new_zed []))) ((hr_202.mono (Mem.un_le le_194 ln_194)).mono ((Mem.le.refl _).trans (hS.new_zed []))) ((hr_204.mono (Mem.un_le le_194 ln_194)).mono ((Mem.le.refl _).trans (hS.new_zed []))) ((hr_206.mono (Mem.un_le le_194 ln_194)).mono ((Mem.le.refl _).trans (hS.new_zed []))) et_234) ?_
                rintro _ w_235 ⟨N_236, rfl, hS'⟩
                clear hm a; intro a hm
                obtain ⟨N_237, hS'', le_237, ln_237⟩ := hS.call [] (by decide) rfl (l' := []) (ow := []) rfl hS'
                replace hS : Sep w0 w_235 [N_237, Mem.one g_5 (.cells ([.int .i64 t_191.2.2.1, .int .i64 t_191.2.2.2.1, .int .i64 t_191.2.2.2.2.1, v_207, .int .i64 t_191.2.2.2.2.2.2.1, .int .i64 t_191.2.2.2.2.2.2.2.1, .int .i64 t_191.2.2.2.2.2.2.2.2.1, .int .i64 t_191.2.2.2.2.2.2.2.2.2.1, .int .i64 t_191.2.2.2.2.2.2.2.2.2.2.1, .int .i64 t_191.2.2.2.2.2.2.2.2.2.2.2.1, .int .i64 t_191.2.2.2.2.2.2.2.2.2.2.2.2.1, .int .i64 t_191.2.2.2.2.2.2.2.2.2.2.2.2.2.1, .bool t_191.2.2.2.2.2.2.2.2.2.2.2.2.2.2.1, .int .i64 t_191.2.2.2.2.2.2.2.2.2.2.2.2.2.2.2.1, .int .i64 t_191.2.2.2.2.2.2.2.2.2.2.2.2.2.2.2.2.1, .int .i64 t_191.2.2.2.2.2.2.2.2.2.2.2.2.2.2.2.2.2.1, .int .i64 t_191.2.2.2.2.2.2.2.2.2.2.2.2.2.2.2.2.2.2.1, v_211, .int .i64 t_191.2.2.2.2.2.2.2.2.2.2.2.2.2.2.2.2.2.2.2.2.1, .int .i64 t_191.2.2.2.2.2.2.2.2.2.2.2.2.2.2.2.2.2.2.2.2.2.1, v_213, v_215, .int .i64 t_191.2.2.2.2.2.2.2.2.2.2.2.2.2.2.2.2.2.2.2.2.2.2.2.2.1, .int .i64 t_191.2.2.2.2.2.2.2.2.2.2.2.2.2.2.2.2.2.2.2.2.2.2.2.2.2.1, .int .i64 t_191.2.2.2.2.2.2.2.2.2.2.2.2.2.2.2.2.2.2.2.2.2.2.2.2.2.2.1, .int .i64 t_191.2.2.2.2.2.2.2.2.2.2.2.2.2.2.2.2.2.2.2.2.2.2.2.2.2.2.2.1, .int .i64 t_191.2.2.2.2.2.2.2.2.2.2.2.2.2.2.2.2.2.2.2.2.2.2.2.2.2.2.2.2.1, v_217, v_219, v_221, .bool t_191.2.2.2.2.2.2.2.2.2.2.2.2.2.2.2.2.2.2.2.2.2.2.2.2.2.2.2.2.2.2.2.2] : List Value).toArray 80 (0, 0)), M_209, Mem.one g_78 (.cells ([.int .i64 t_45.1.Kind, .int .i64 t_45.1.From, .int .i64 t_45.1.To, .int .i64 t_45.1.View, .int .i64 t_45.1.Inst, .int .i64 t_45.1.Len, .bool t_45.1.Has, .int .i64 t_45.1.Members, .int .i64 t_45.1.Source, .int .i64 t_45.1.At, .int .i64 t_45.1.Total, v_49, .int .i64 t_45.1.Hop, .int .i64 t_45.1.Seq, v_51, v_53, .int .i64 t_45.1.Index, .int .i64 t_45.1.Entry.Sess, .int .i64 t_45.1.Entry.Seq, .int .i64 t_45.1.Entry.Cmd.Kind, .int .i64 t_45.1.Entry.Cmd.Who, v_55, v_57, v_59] : List Value).toArray 29 (0, 0)), Mem.no, Mem.one g_224 (.cells ([.int .i64 t_191.1.Kind, .int .i64 t_191.1.From, .int .i64 t_191.1.To, .int .i64 t_191.1.View, .int .i64 t_191.1.Inst, .int .i64 t_191.1.Len, .bool t_191.1.Has, .int .i64 t_191.1.Members, .int .i64 t_191.1.Source, .int .i64 t_191.1.At, .int .i64 t_191.1.Total, v_195, .int .i64 t_191.1.Hop, .int .i64 t_191.1.Seq, v_197, v_199, .int .i64 t_191.1.Index, .int .i64 t_191.1.Entry.Sess, .int .i64 t_191.1.Entry.Seq, .int .i64 t_191.1.Entry.Cmd.Kind, .int .i64 t_191.1.Entry.Cmd.Who, v_201, v_203, v_205] : List Value).toArray 29 (0, 0))] Z := hS''
                clear hS' hS''
                refine s_on hm rfl rfl (nf hc_233) ?_
                refine s_not hm rfl rfl ?_
                clear hm a; intro a hm
                refine s_on hm rfl rfl hc_232 ?_
                refine s_pick_f hm rfl rfl (nf hc_233) rfl ?_
                clear hm a; intro a hm
                refine s_pick_t hm rfl rfl hc_232 rfl ?_
                clear hm a; intro a hm
                refine wpList_nil ?_
                replace hm : Fr 156 a [(0, .int .i64 (w64 ((Int.tmod (band .i64 x0 255) 7) + 1))), (2, p2_1), (6, .bool false), (7, .pointer (some ⟨g_5, 0, none⟩)), (8, .int .i64 x_25), (11, .pointer (some ⟨g_78, 0, none⟩)), (12, .bool t_45.2.1), (13, .int .i64 x_103), (123, .bool (!t_234))] := hm.keep [0, 2, 6, 7, 8, 11, 12, 13, 123]
                replace hS : Sep w0 w_235 [N_237, Mem.one g_5 (.cells ([.int .i64 t_191.2.2.1, .int .i64 t_191.2.2.2.1, .int .i64 t_191.2.2.2.2.1, v_207, .int .i64 t_191.2.2.2.2.2.2.1, .int .i64 t_191.2.2.2.2.2.2.2.1, .int .i64 t_191.2.2.2.2.2.2.2.2.1, .int .i64 t_191.2.2.2.2.2.2.2.2.2.1, .int .i64 t_191.2.2.2.2.2.2.2.2.2.2.1, .int .i64 t_191.2.2.2.2.2.2.2.2.2.2.2.1, .int .i64 t_191.2.2.2.2.2.2.2.2.2.2.2.2.1, .int .i64 t_191.2.2.2.2.2.2.2.2.2.2.2.2.2.1, .bool t_191.2.2.2.2.2.2.2.2.2.2.2.2.2.2.1, .int .i64 t_191.2.2.2.2.2.2.2.2.2.2.2.2.2.2.2.1, .int .i64 t_191.2.2.2.2.2.2.2.2.2.2.2.2.2.2.2.2.1, .int .i64 t_191.2.2.2.2.2.2.2.2.2.2.2.2.2.2.2.2.2.1, .int .i64 t_191.2.2.2.2.2.2.2.2.2.2.2.2.2.2.2.2.2.2.1, v_211, .int .i64 t_191.2.2.2.2.2.2.2.2.2.2.2.2.2.2.2.2.2.2.2.2.1, .int .i64 t_191.2.2.2.2.2.2.2.2.2.2.2.2.2.2.2.2.2.2.2.2.2.1, v_213, v_215, .int .i64 t_191.2.2.2.2.2.2.2.2.2.2.2.2.2.2.2.2.2.2.2.2.2.2.2.2.1, .int .i64 t_191.2.2.2.2.2.2.2.2.2.2.2.2.2.2.2.2.2.2.2.2.2.2.2.2.2.1, .int .i64 t_191.2.2.2.2.2.2.2.2.2.2.2.2.2.2.2.2.2.2.2.2.2.2.2.2.2.2.1, .int .i64 t_191.2.2.2.2.2.2.2.2.2.2.2.2.2.2.2.2.2.2.2.2.2.2.2.2.2.2.2.1, .int .i64 t_191.2.2.2.2.2.2.2.2.2.2.2.2.2.2.2.2.2.2.2.2.2.2.2.2.2.2.2.2.1, v_217, v_219, v_221, .bool t_191.2.2.2.2.2.2.2.2.2.2.2.2.2.2.2.2.2.2.2.2.2.2.2.2.2.2.2.2.2.2.2.2] : List Value).toArray 80 (0, 0)), M_209, Mem.one g_78 (.cells ([.int .i64 t_45.1.Kind, .int .i64 t_45.1.From, .int .i64 t_45.1.To, .int .i64 t_45.1.View, .int .i64 t_45.1.Inst, .int .i64 t_45.1.Len, .bool t_45.1.Has, .int .i64 t_45.1.Members, .int .i64 t_45.1.Source, .int .i64 t_45.1.At, .int .i64 t_45.1.Total, v_49, .int .i64 t_45.1.Hop, .int .i64 t_45.1.Seq, v_51, v_53, .int .i64 t_45.1.Index, .int .i64 t_45.1.Entry.Sess, .int .i64 t_45.1.Entry.Seq, .int .i64 t_45.1.Entry.Cmd.Kind, .int .i64 t_45.1.Entry.Cmd.Who, v_55, v_57, v_59] : List Value).toArray 29 (0, 0)), Mem.no, Mem.one g_224 (.cells ([.int .i64 t_191.1.Kind, .int .i64 t_191.1.From, .int .i64 t_191.1.To, .int .i64 t_191.1.View, .int .i64 t_191.1.Inst, .int .i64 t_191.1.Len, .bool t_191.1.Has, .int .i64 t_191.1.Members, .int .i64 t_191.1.Source, .int .i64 t_191.1.At, .int .i64 t_191.1.Total, v_195, .int .i64 t_191.1.Hop, .int .i64 t_191.1.Seq, v_197, v_199, .int .i64 t_191.1.Index, .int .i64 t_191.1.Entry.Sess, .int .i64 t_191.1.Entry.Seq, .int .i64 t_191.1.Entry.Cmd.Kind, .int .i64 t_191.1.Entry.Cmd.Who, v_201, v_203, v_205] : List Value).toArray 29 (0, 0))] Z := hS
                replace hm : Fr 156 a [(0, .int .i64 (w64 ((Int.tmod (band .i64 x0 255) 7) + 1))), (2, p2_1), (6, .bool false), (7, .pointer (some ⟨g_5, 0, none⟩)), (8, .int .i64 x_25), (11, .pointer (some ⟨g_78, 0, none⟩)), (12, .bool t_45.2.1), (13, .int .i64 x_103), (123, .bool (!t_234))] := hm.keep [0, 2, 6, 7, 8, 11, 12, 13, 123]
                exact x_then_n (hJ_j_230 (!t_234) H _ _ ⟨N_237, hm, (Sep.sel hS [0, 1, 2, 3, 1003, 1004] (by decide)), le_237⟩)
              · rw [if_neg hc_233] at H
                refine s_off hm rfl rfl rfl (nt (Bool.eq_false_iff.2 hc_233)) ?_
                clear hm a; intro a hm
                refine s_off hm rfl rfl rfl (nt (Bool.eq_false_iff.2 hc_233)) ?_
                clear hm a; intro a hm
                refine s_off hm rfl rfl rfl (nt (Bool.eq_false_iff.2 hc_233)) ?_
                clear hm a; intro a hm
                refine s_off hm rfl rfl rfl (nt (Bool.eq_false_iff.2 hc_233)) ?_
                clear hm a; intro a hm
                refine s_on hm rfl rfl hc_232 ?_
                refine s_pick_t hm rfl rfl (nt (Bool.eq_false_iff.2 hc_233)) rfl ?_
                clear hm a; intro a hm
                refine s_pick_t hm rfl rfl hc_232 rfl ?_
                clear hm a; intro a hm
                refine wpList_nil ?_
                replace hm : Fr 156 a [(0, .int .i64 (w64 ((Int.tmod (band .i64 x0 255) 7) + 1))), (2, p2_1), (6, .bool false), (7, .pointer (some ⟨g_5, 0, none⟩)), (8, .int .i64 x_25), (11, .pointer (some ⟨g_78, 0, none⟩)), (12, .bool t_45.2.1), (13, .int .i64 x_103), (123, .bool true)] := hm.keep [0, 2, 6, 7, 8, 11, 12, 13, 123]
                replace hS : Sep w0 w_225 [N_194, Mem.one g_5 (.cells ([.int .i64 t_191.2.2.1, .int .i64 t_191.2.2.2.1, .int .i64 t_191.2.2.2.2.1, v_207, .int .i64 t_191.2.2.2.2.2.2.1, .int .i64 t_191.2.2.2.2.2.2.2.1, .int .i64 t_191.2.2.2.2.2.2.2.2.1, .int .i64 t_191.2.2.2.2.2.2.2.2.2.1, .int .i64 t_191.2.2.2.2.2.2.2.2.2.2.1, .int .i64 t_191.2.2.2.2.2.2.2.2.2.2.2.1, .int .i64 t_191.2.2.2.2.2.2.2.2.2.2.2.2.1, .int .i64 t_191.2.2.2.2.2.2.2.2.2.2.2.2.2.1, .bool t_191.2.2.2.2.2.2.2.2.2.2.2.2.2.2.1, .int .i64 t_191.2.2.2.2.2.2.2.2.2.2.2.2.2.2.2.1, .int .i64 t_191.2.2.2.2.2.2.2.2.2.2.2.2.2.2.2.2.1, .int .i64 t_191.2.2.2.2.2.2.2.2.2.2.2.2.2.2.2.2.2.1, .int .i64 t_191.2.2.2.2.2.2.2.2.2.2.2.2.2.2.2.2.2.2.1, v_211, .int .i64 t_191.2.2.2.2.2.2.2.2.2.2.2.2.2.2.2.2.2.2.2.2.1, .int .i64 t_191.2.2.2.2.2.2.2.2.2.2.2.2.2.2.2.2.2.2.2.2.2.1, v_213, v_215, .int .i64 t_191.2.2.2.2.2.2.2.2.2.2.2.2.2.2.2.2.2.2.2.2.2.2.2.2.1, .int .i64 t_191.2.2.2.2.2.2.2.2.2.2.2.2.2.2.2.2.2.2.2.2.2.2.2.2.2.1, .int .i64 t_191.2.2.2.2.2.2.2.2.2.2.2.2.2.2.2.2.2.2.2.2.2.2.2.2.2.2.1, .int .i64 t_191.2.2.2.2.2.2.2.2.2.2.2.2.2.2.2.2.2.2.2.2.2.2.2.2.2.2.2.1, .int .i64 t_191.2.2.2.2.2.2.2.2.2.2.2.2.2.2.2.2.2.2.2.2.2.2.2.2.2.2.2.2.1, v_217, v_219, v_221, .bool t_191.2.2.2.2.2.2.2.2.2.2.2.2.2.2.2.2.2.2.2.2.2.2.2.2.2.2.2.2.2.2.2.2] : List Value).toArray 80 (0, 0)), M_209, Mem.one g_78 (.cells ([.int .i64 t_45.1.Kind, .int .i64 t_45.1.From, .int .i64 t_45.1.To, .int .i64 t_45.1.View, .int .i64 t_45.1.Inst, .int .i64 t_45.1.Len, .bool t_45.1.Has, .int .i64 t_45.1.Members, .int .i64 t_45.1.Source, .int .i64 t_45.1.At, .int .i64 t_45.1.Total, v_49, .int .i64 t_45.1.Hop, .int .i64 t_45.1.Seq, v_51, v_53, .int .i64 t_45.1.Index, .int .i64 t_45.1.Entry.Sess, .int .i64 t_45.1.Entry.Seq, .int .i64 t_45.1.Entry.Cmd.Kind, .int .i64 t_45.1.Entry.Cmd.Who, v_55, v_57, v_59] : List Value).toArray 29 (0, 0)), Mem.no, Mem.one g_224 (.cells ([.int .i64 t_191.1.Kind, .int .i64 t_191.1.From, .int .i64 t_191.1.To, .int .i64 t_191.1.View, .int .i64 t_191.1.Inst, .int .i64 t_191.1.Len, .bool t_191.1.Has, .int .i64 t_191.1.Members, .int .i64 t_191.1.Source, .int .i64 t_191.1.At, .int .i64 t_191.1.Total, v_195, .int .i64 t_191.1.Hop, .int .i64 t_191.1.Seq, v_197, v_199, .int .i64 t_191.1.Index, .int .i64 t_191.1.Entry.Sess, .int .i64 t_191.1.Entry.Seq, .int .i64 t_191.1.Entry.Cmd.Kind, .int .i64 t_191.1.Entry.Cmd.Who, v_201, v_203, v_205] : List Value).toArray 29 (0, 0))] Z := hS
                replace hm : Fr 156 a [(0, .int .i64 (w64 ((Int.tmod (band .i64 x0 255) 7) + 1))), (2, p2_1), (6, .bool false), (7, .pointer (some ⟨g_5, 0, none⟩)), (8, .int .i64 x_25), (11, .pointer (some ⟨g_78, 0, none⟩)), (12, .bool t_45.2.1), (13, .int .i64 x_103), (123, .bool true)] := hm.keep [0, 2, 6, 7, 8, 11, 12, 13, 123]
                exact x_then_n (hJ_j_230 true H _ _ ⟨N_194, hm, (Sep.sel hS [0, 1, 2, 3, 1003, 1004] (by decide)), (Mem.le.refl _)⟩)
            · rw [if_neg hc_232] at H
              refine s_off hm rfl rfl rfl (Bool.eq_false_iff.2 hc_232) ?_
              clear hm a; intro a hm
              refine s_off hm rfl rfl rfl (Bool.eq_false_iff.2 hc_232) ?_
              clear hm a; intro a hm
              refine s_off hm rfl rfl rfl (Bool.eq_false_iff.2 hc_232) ?_
              clear hm a; intro a hm
              refine s_offu hm rfl rfl rfl ?_
              clear hm a; intro a hm
              refine s_offu hm rfl rfl rfl ?_
              clear hm a; intro a hm
              refine s_offu hm rfl rfl rfl ?_
              clear hm a; intro a hm
              refine s_offu hm rfl rfl rfl ?_
              clear hm a; intro a hm
              refine s_off hm rfl rfl rfl (Bool.eq_false_iff.2 hc_232) ?_
              clear hm a; intro a hm
              refine s_pick_f hm rfl rfl (Bool.eq_false_iff.2 hc_232) rfl ?_
              clear hm a; intro a hm
              refine wpList_nil ?_
              replace hm : Fr 156 a [(0, .int .i64 (w64 ((Int.tmod (band .i64 x0 255) 7) + 1))), (2, p2_1), (6, .bool false), (7, .pointer (some ⟨g_5, 0, none⟩)), (8, .int .i64 x_25), (11, .pointer (some ⟨g_78, 0, none⟩)), (12, .bool t_45.2.1), (13, .int .i64 x_103), (123, .bool false)] := hm.keep [0, 2, 6, 7, 8, 11, 12, 13, 123]
              replace hS : Sep w0 w_225 [N_194, Mem.one g_5 (.cells ([.int .i64 t_191.2.2.1, .int .i64 t_191.2.2.2.1, .int .i64 t_191.2.2.2.2.1, v_207, .int .i64 t_191.2.2.2.2.2.2.1, .int .i64 t_191.2.2.2.2.2.2.2.1, .int .i64 t_191.2.2.2.2.2.2.2.2.1, .int .i64 t_191.2.2.2.2.2.2.2.2.2.1, .int .i64 t_191.2.2.2.2.2.2.2.2.2.2.1, .int .i64 t_191.2.2.2.2.2.2.2.2.2.2.2.1, .int .i64 t_191.2.2.2.2.2.2.2.2.2.2.2.2.1, .int .i64 t_191.2.2.2.2.2.2.2.2.2.2.2.2.2.1, .bool t_191.2.2.2.2.2.2.2.2.2.2.2.2.2.2.1, .int .i64 t_191.2.2.2.2.2.2.2.2.2.2.2.2.2.2.2.1, .int .i64 t_191.2.2.2.2.2.2.2.2.2.2.2.2.2.2.2.2.1, .int .i64 t_191.2.2.2.2.2.2.2.2.2.2.2.2.2.2.2.2.2.1, .int .i64 t_191.2.2.2.2.2.2.2.2.2.2.2.2.2.2.2.2.2.2.1, v_211, .int .i64 t_191.2.2.2.2.2.2.2.2.2.2.2.2.2.2.2.2.2.2.2.2.1, .int .i64 t_191.2.2.2.2.2.2.2.2.2.2.2.2.2.2.2.2.2.2.2.2.2.1, v_213, v_215, .int .i64 t_191.2.2.2.2.2.2.2.2.2.2.2.2.2.2.2.2.2.2.2.2.2.2.2.2.1, .int .i64 t_191.2.2.2.2.2.2.2.2.2.2.2.2.2.2.2.2.2.2.2.2.2.2.2.2.2.1, .int .i64 t_191.2.2.2.2.2.2.2.2.2.2.2.2.2.2.2.2.2.2.2.2.2.2.2.2.2.2.1, .int .i64 t_191.2.2.2.2.2.2.2.2.2.2.2.2.2.2.2.2.2.2.2.2.2.2.2.2.2.2.2.1, .int .i64 t_191.2.2.2.2.2.2.2.2.2.2.2.2.2.2.2.2.2.2.2.2.2.2.2.2.2.2.2.2.1, v_217, v_219, v_221, .bool t_191.2.2.2.2.2.2.2.2.2.2.2.2.2.2.2.2.2.2.2.2.2.2.2.2.2.2.2.2.2.2.2.2] : List Value).toArray 80 (0, 0)), M_209, Mem.one g_78 (.cells ([.int .i64 t_45.1.Kind, .int .i64 t_45.1.From, .int .i64 t_45.1.To, .int .i64 t_45.1.View, .int .i64 t_45.1.Inst, .int .i64 t_45.1.Len, .bool t_45.1.Has, .int .i64 t_45.1.Members, .int .i64 t_45.1.Source, .int .i64 t_45.1.At, .int .i64 t_45.1.Total, v_49, .int .i64 t_45.1.Hop, .int .i64 t_45.1.Seq, v_51, v_53, .int .i64 t_45.1.Index, .int .i64 t_45.1.Entry.Sess, .int .i64 t_45.1.Entry.Seq, .int .i64 t_45.1.Entry.Cmd.Kind, .int .i64 t_45.1.Entry.Cmd.Who, v_55, v_57, v_59] : List Value).toArray 29 (0, 0)), Mem.no, Mem.one g_224 (.cells ([.int .i64 t_191.1.Kind, .int .i64 t_191.1.From, .int .i64 t_191.1.To, .int .i64 t_191.1.View, .int .i64 t_191.1.Inst, .int .i64 t_191.1.Len, .bool t_191.1.Has, .int .i64 t_191.1.Members, .int .i64 t_191.1.Source, .int .i64 t_191.1.At, .int .i64 t_191.1.Total, v_195, .int .i64 t_191.1.Hop, .int .i64 t_191.1.Seq, v_197, v_199, .int .i64 t_191.1.Index, .int .i64 t_191.1.Entry.Sess, .int .i64 t_191.1.Entry.Seq, .int .i64 t_191.1.Entry.Cmd.Kind, .int .i64 t_191.1.Entry.Cmd.Who, v_201, v_203, v_205] : List Value).toArray 29 (0, 0))] Z := hS
              replace hm : Fr 156 a [(0, .int .i64 (w64 ((Int.tmod (band .i64 x0 255) 7) + 1))), (2, p2_1), (6, .bool false), (7, .pointer (some ⟨g_5, 0, none⟩)), (8, .int .i64 x_25), (11, .pointer (some ⟨g_78, 0, none⟩)), (12, .bool t_45.2.1), (13, .int .i64 x_103), (123, .bool false)] := hm.keep [0, 2, 6, 7, 8, 11, 12, 13, 123]
              exact x_then_n (hJ_j_230 false H _ _ ⟨N_194, hm, (Sep.sel hS [0, 1, 2, 3, 1003, 1004] (by decide)), (Mem.le.refl _)⟩)
        clear hKJ_160
        refine wp_region_lit ?_
        refine s_move hm rfl rfl ?_
        clear hm a; intro a hm
        refine s_move hm rfl rfl ?_
        clear hm a; intro a hm
        by_cases hc_238 : t_140.1 = true
        · rw [if_pos hc_238] at H
          refine s_on hm rfl rfl hc_238 ?_
          refine s_move hm rfl rfl ?_
          clear hm a; intro a hm
          refine s_pick_t hm rfl rfl hc_238 rfl ?_
          clear hm a; intro a hm
          refine wpList_nil ?_
          replace hm : Fr 156 a [(0, .int .i64 (w64 ((Int.tmod (band .i64 x0 255) 7) + 1))), (2, p2_1), (6, .bool false), (7, .pointer (some ⟨g_5, 0, none⟩)), (8, .int .i64 x_25), (11, .pointer (some ⟨g_78, 0, none⟩)), (12, .bool t_45.2.1), (13, .int .i64 x_103), (99, .bool t_45.2.1)] := hm.keep [0, 2, 6, 7, 8, 11, 12, 13, 99]
          replace hS : Sep w0 w_141 [N_143, Mem.one g_5 (.cells ([.int .i64 t_140.2.1, .int .i64 t_140.2.2.1, .int .i64 t_140.2.2.2.1, v_144, .int .i64 t_140.2.2.2.2.2.1, .int .i64 t_140.2.2.2.2.2.2.1, .int .i64 t_140.2.2.2.2.2.2.2.1, .int .i64 t_140.2.2.2.2.2.2.2.2.1, .int .i64 t_140.2.2.2.2.2.2.2.2.2.1, .int .i64 t_140.2.2.2.2.2.2.2.2.2.2.1, .int .i64 t_140.2.2.2.2.2.2.2.2.2.2.2.1, .int .i64 t_140.2.2.2.2.2.2.2.2.2.2.2.2.1, .bool t_140.2.2.2.2.2.2.2.2.2.2.2.2.2.1, .int .i64 t_140.2.2.2.2.2.2.2.2.2.2.2.2.2.2.1, .int .i64 t_140.2.2.2.2.2.2.2.2.2.2.2.2.2.2.2.1, .int .i64 t_140.2.2.2.2.2.2.2.2.2.2.2.2.2.2.2.2.1, .int .i64 t_140.2.2.2.2.2.2.2.2.2.2.2.2.2.2.2.2.2.1, v_148, .int .i64 t_140.2.2.2.2.2.2.2.2.2.2.2.2.2.2.2.2.2.2.2.1, .int .i64 t_140.2.2.2.2.2.2.2.2.2.2.2.2.2.2.2.2.2.2.2.2.1, v_150, v_152, .int .i64 t_140.2.2.2.2.2.2.2.2.2.2.2.2.2.2.2.2.2.2.2.2.2.2.2.1, .int .i64 t_140.2.2.2.2.2.2.2.2.2.2.2.2.2.2.2.2.2.2.2.2.2.2.2.2.1, .int .i64 t_140.2.2.2.2.2.2.2.2.2.2.2.2.2.2.2.2.2.2.2.2.2.2.2.2.2.1, .int .i64 t_140.2.2.2.2.2.2.2.2.2.2.2.2.2.2.2.2.2.2.2.2.2.2.2.2.2.2.1, .int .i64 t_140.2.2.2.2.2.2.2.2.2.2.2.2.2.2.2.2.2.2.2.2.2.2.2.2.2.2.2.1, v_154, v_156, v_158, .bool t_140.2.2.2.2.2.2.2.2.2.2.2.2.2.2.2.2.2.2.2.2.2.2.2.2.2.2.2.2.2.2.2] : List Value).toArray 80 (0, 0)), M_146, Mem.one g_78 (.cells ([.int .i64 t_45.1.Kind, .int .i64 t_45.1.From, .int .i64 t_45.1.To, .int .i64 t_45.1.View, .int .i64 t_45.1.Inst, .int .i64 t_45.1.Len, .bool t_45.1.Has, .int .i64 t_45.1.Members, .int .i64 t_45.1.Source, .int .i64 t_45.1.At, .int .i64 t_45.1.Total, v_49, .int .i64 t_45.1.Hop, .int .i64 t_45.1.Seq, v_51, v_53, .int .i64 t_45.1.Index, .int .i64 t_45.1.Entry.Sess, .int .i64 t_45.1.Entry.Seq, .int .i64 t_45.1.Entry.Cmd.Kind, .int .i64 t_45.1.Entry.Cmd.Who, v_55, v_57, v_59] : List Value).toArray 29 (0, 0)), Mem.one g_137 (.cells ([.int .i64 2, .int .i64 (band .i64 t_131 7), .int .i64 0, .int .i64 8, .int .i64 800, .int .i64 99, .bool true, .int .i64 0, .int .i64 0, .int .i64 0, .int .i64 0, .slice none 0 0, .int .i64 0, .int .i64 0, .slice none 0 0, .slice none 0 0, .int .i64 0, .int .i64 0, .int .i64 0, .int .i64 0, .int .i64 0, .slice none 0 0, .slice none 0 0, .slice none 0 0] : List Value).toArray 29 (0, 0))] Z := hS
          replace hm : Fr 156 a [(0, .int .i64 (w64 ((Int.tmod (band .i64 x0 255) 7) + 1))), (2, p2_1), (6, .bool false), (7, .pointer (some ⟨g_5, 0, none⟩)), (8, .int .i64 x_25), (11, .pointer (some ⟨g_78, 0, none⟩)), (12, .bool t_45.2.1), (13, .int .i64 x_103), (99, .bool t_45.2.1)] := hm.keep [0, 2, 6, 7, 8, 11, 12, 13, 99]
          exact x_then_n (hJ_j_164 t_45.2.1 H _ _ ⟨N_143, hm, (Sep.sel hS [0, 1, 2, 3, 1003] (by decide)), (Mem.le.refl _)⟩)
        · rw [if_neg hc_238] at H
          refine s_off hm rfl rfl rfl (Bool.eq_false_iff.2 hc_238) ?_
          clear hm a; intro a hm
          refine s_pick_f hm rfl rfl (Bool.eq_false_iff.2 hc_238) rfl ?_
          clear hm a; intro a hm
          refine wpList_nil ?_
          replace hm : Fr 156 a [(0, .int .i64 (w64 ((Int.tmod (band .i64 x0 255) 7) + 1))), (2, p2_1), (6, .bool false), (7, .pointer (some ⟨g_5, 0, none⟩)), (8, .int .i64 x_25), (11, .pointer (some ⟨g_78, 0, none⟩)), (12, .bool t_45.2.1), (13, .int .i64 x_103), (99, .bool false)] := hm.keep [0, 2, 6, 7, 8, 11, 12, 13, 99]
          replace hS : Sep w0 w_141 [N_143, Mem.one g_5 (.cells ([.int .i64 t_140.2.1, .int .i64 t_140.2.2.1, .int .i64 t_140.2.2.2.1, v_144, .int .i64 t_140.2.2.2.2.2.1, .int .i64 t_140.2.2.2.2.2.2.1, .int .i64 t_140.2.2.2.2.2.2.2.1, .int .i64 t_140.2.2.2.2.2.2.2.2.1, .int .i64 t_140.2.2.2.2.2.2.2.2.2.1, .int .i64 t_140.2.2.2.2.2.2.2.2.2.2.1, .int .i64 t_140.2.2.2.2.2.2.2.2.2.2.2.1, .int .i64 t_140.2.2.2.2.2.2.2.2.2.2.2.2.1, .bool t_140.2.2.2.2.2.2.2.2.2.2.2.2.2.1, .int .i64 t_140.2.2.2.2.2.2.2.2.2.2.2.2.2.2.1, .int .i64 t_140.2.2.2.2.2.2.2.2.2.2.2.2.2.2.2.1, .int .i64 t_140.2.2.2.2.2.2.2.2.2.2.2.2.2.2.2.2.1, .int .i64 t_140.2.2.2.2.2.2.2.2.2.2.2.2.2.2.2.2.2.1, v_148, .int .i64 t_140.2.2.2.2.2.2.2.2.2.2.2.2.2.2.2.2.2.2.2.1, .int .i64 t_140.2.2.2.2.2.2.2.2.2.2.2.2.2.2.2.2.2.2.2.2.1, v_150, v_152, .int .i64 t_140.2.2.2.2.2.2.2.2.2.2.2.2.2.2.2.2.2.2.2.2.2.2.2.1, .int .i64 t_140.2.2.2.2.2.2.2.2.2.2.2.2.2.2.2.2.2.2.2.2.2.2.2.2.1, .int .i64 t_140.2.2.2.2.2.2.2.2.2.2.2.2.2.2.2.2.2.2.2.2.2.2.2.2.2.1, .int .i64 t_140.2.2.2.2.2.2.2.2.2.2.2.2.2.2.2.2.2.2.2.2.2.2.2.2.2.2.1, .int .i64 t_140.2.2.2.2.2.2.2.2.2.2.2.2.2.2.2.2.2.2.2.2.2.2.2.2.2.2.2.1, v_154, v_156, v_158, .bool t_140.2.2.2.2.2.2.2.2.2.2.2.2.2.2.2.2.2.2.2.2.2.2.2.2.2.2.2.2.2.2.2] : List Value).toArray 80 (0, 0)), M_146, Mem.one g_78 (.cells ([.int .i64 t_45.1.Kind, .int .i64 t_45.1.From, .int .i64 t_45.1.To, .int .i64 t_45.1.View, .int .i64 t_45.1.Inst, .int .i64 t_45.1.Len, .bool t_45.1.Has, .int .i64 t_45.1.Members, .int .i64 t_45.1.Source, .int .i64 t_45.1.At, .int .i64 t_45.1.Total, v_49, .int .i64 t_45.1.Hop, .int .i64 t_45.1.Seq, v_51, v_53, .int .i64 t_45.1.Index, .int .i64 t_45.1.Entry.Sess, .int .i64 t_45.1.Entry.Seq, .int .i64 t_45.1.Entry.Cmd.Kind, .int .i64 t_45.1.Entry.Cmd.Who, v_55, v_57, v_59] : List Value).toArray 29 (0, 0)), Mem.one g_137 (.cells ([.int .i64 2, .int .i64 (band .i64 t_131 7), .int .i64 0, .int .i64 8, .int .i64 800, .int .i64 99, .bool true, .int .i64 0, .int .i64 0, .int .i64 0, .int .i64 0, .slice none 0 0, .int .i64 0, .int .i64 0, .slice none 0 0, .slice none 0 0, .int .i64 0, .int .i64 0, .int .i64 0, .int .i64 0, .int .i64 0, .slice none 0 0, .slice none 0 0, .slice none 0 0] : List Value).toArray 29 (0, 0))] Z := hS
          replace hm : Fr 156 a [(0, .int .i64 (w64 ((Int.tmod (band .i64 x0 255) 7) + 1))), (2, p2_1), (6, .bool false), (7, .pointer (some ⟨g_5, 0, none⟩)), (8, .int .i64 x_25), (11, .pointer (some ⟨g_78, 0, none⟩)), (12, .bool t_45.2.1), (13, .int .i64 x_103), (99, .bool false)] := hm.keep [0, 2, 6, 7, 8, 11, 12, 13, 99]
          exact x_then_n (hJ_j_164 false H _ _ ⟨N_143, hm, (Sep.sel hS [0, 1, 2, 3, 1003] (by decide)), (Mem.le.refl _)⟩)
      · rw [if_neg hc_129] at H
        refine c_cond_f hm rfl (Bool.eq_false_iff.2 hc_129) ?_
        refine wp_exit (x_then_x (x_then_x (x_block_t ?_)))
        replace hS : Sep w0 w_127 [N_125, Mem.one g_5 (.cells ([.int .i64 x_104.n, .int .i64 x_104.id, .int .i64 x_104.v, v_107, .int .i64 x_104.come, .int .i64 x_104.ready, .int .i64 x_104.commit.Kind, .int .i64 x_104.commit.From, .int .i64 x_104.commit.To, .int .i64 x_104.commit.View, .int .i64 x_104.commit.Inst, .int .i64 x_104.commit.Len, .bool x_104.commit.Has, .int .i64 x_104.commit.Members, .int .i64 x_104.commit.Source, .int .i64 x_104.commit.At, .int .i64 x_104.commit.Total, v_109, .int .i64 x_104.commit.Hop, .int .i64 x_104.commit.Seq, v_111, v_113, .int .i64 x_104.commit.Index, .int .i64 x_104.commit.Entry.Sess, .int .i64 x_104.commit.Entry.Seq, .int .i64 x_104.commit.Entry.Cmd.Kind, .int .i64 x_104.commit.Entry.Cmd.Who, v_115, v_117, v_119, .bool x_104.is] : List Value).toArray 80 (0, 0)), M_105, Mem.one g_78 (.cells ([.int .i64 t_45.1.Kind, .int .i64 t_45.1.From, .int .i64 t_45.1.To, .int .i64 t_45.1.View, .int .i64 t_45.1.Inst, .int .i64 t_45.1.Len, .bool t_45.1.Has, .int .i64 t_45.1.Members, .int .i64 t_45.1.Source, .int .i64 t_45.1.At, .int .i64 t_45.1.Total, v_49, .int .i64 t_45.1.Hop, .int .i64 t_45.1.Seq, v_51, v_53, .int .i64 t_45.1.Index, .int .i64 t_45.1.Entry.Sess, .int .i64 t_45.1.Entry.Seq, .int .i64 t_45.1.Entry.Cmd.Kind, .int .i64 t_45.1.Entry.Cmd.Who, v_55, v_57, v_59] : List Value).toArray 29 (0, 0))] Z := hS
        replace hm : Fr 156 a [(0, .int .i64 (w64 ((Int.tmod (band .i64 x0 255) 7) + 1))), (6, .bool false), (8, .int .i64 x_25), (11, .pointer (some ⟨g_78, 0, none⟩)), (12, .bool t_45.2.1)] := hm.keep [0, 6, 8, 11, 12]
        exact x_then_n (hJ_j_83  H _ _ ⟨N_125, hm, (Sep.sel hS [0, 1000, 1001, 3] (by decide)), (le_102.trans le_125)⟩)
    clear hKJ_124
    refine wp_region_lit ?_
    refine s_move hm rfl rfl ?_
    clear hm a; intro a hm
    refine s_move hm rfl rfl ?_
    clear hm a; intro a hm
    refine s_len hm rfl Try.underlying23 rfl hp2_1 ?_
    clear hm a; intro a hm
    refine s_cmp (b := decide (x_103 < (x2.length : Int))) hm rfl rfl rfl (.inr (.inr (.inl ⟨rfl, rfl⟩))) ?_
    clear hm a; intro a hm
    refine s_move hm rfl rfl ?_
    clear hm a; intro a hm
    by_cases hc_239 : x_103 < (x2.length : Int)
    · rw [if_pos hc_239] at H
      refine s_on hm rfl rfl (decide_eq_true hc_239) ?_
      refine s_move hm rfl rfl ?_
      clear hm a; intro a hm
      refine s_on hm rfl rfl (decide_eq_true hc_239) ?_
      refine s_cmp (b := decide (x_103 < 10)) hm rfl rfl rfl (.inr (.inr (.inl ⟨rfl, rfl⟩))) ?_
      clear hm a; intro a hm
      refine s_pick_t hm rfl rfl (decide_eq_true hc_239) rfl ?_
      clear hm a; intro a hm
      refine wpList_nil ?_
      replace hm : Fr 156 a [(0, .int .i64 (w64 ((Int.tmod (band .i64 x0 255) 7) + 1))), (2, p2_1), (6, .bool false), (7, .pointer (some ⟨g_5, 0, none⟩)), (8, .int .i64 x_25), (11, .pointer (some ⟨g_78, 0, none⟩)), (12, .bool t_45.2.1), (13, .int .i64 x_103), (84, .bool (decide (x_103 < 10)))] := hm.keep [0, 2, 6, 7, 8, 11, 12, 13, 84]
      replace hS : Sep w0 w_121 [N_102, Mem.one g_5 (.cells ([.int .i64 x_104.n, .int .i64 x_104.id, .int .i64 x_104.v, v_107, .int .i64 x_104.come, .int .i64 x_104.ready, .int .i64 x_104.commit.Kind, .int .i64 x_104.commit.From, .int .i64 x_104.commit.To, .int .i64 x_104.commit.View, .int .i64 x_104.commit.Inst, .int .i64 x_104.commit.Len, .bool x_104.commit.Has, .int .i64 x_104.commit.Members, .int .i64 x_104.commit.Source, .int .i64 x_104.commit.At, .int .i64 x_104.commit.Total, v_109, .int .i64 x_104.commit.Hop, .int .i64 x_104.commit.Seq, v_111, v_113, .int .i64 x_104.commit.Index, .int .i64 x_104.commit.Entry.Sess, .int .i64 x_104.commit.Entry.Seq, .int .i64 x_104.commit.Entry.Cmd.Kind, .int .i64 x_104.commit.Entry.Cmd.Who, v_115, v_117, v_119, .bool x_104.is] : List Value).toArray 80 (0, 0)), M_105, Mem.one g_78 (.cells ([.int .i64 t_45.1.Kind, .int .i64 t_45.1.From, .int .i64 t_45.1.To, .int .i64 t_45.1.View, .int .i64 t_45.1.Inst, .int .i64 t_45.1.Len, .bool t_45.1.Has, .int .i64 t_45.1.Members, .int .i64 t_45.1.Source, .int .i64 t_45.1.At, .int .i64 t_45.1.Total, v_49, .int .i64 t_45.1.Hop, .int .i64 t_45.1.Seq, v_51, v_53, .int .i64 t_45.1.Index, .int .i64 t_45.1.Entry.Sess, .int .i64 t_45.1.Entry.Seq, .int .i64 t_45.1.Entry.Cmd.Kind, .int .i64 t_45.1.Entry.Cmd.Who, v_55, v_57, v_59] : List Value).toArray 29 (0, 0))] Z := hS
      replace hm : Fr 156 a [(0, .int .i64 (w64 ((Int.tmod (band .i64 x0 255) 7) + 1))), (2, p2_1), (6, .bool false), (7, .pointer (some ⟨g_5, 0, none⟩)), (8, .int .i64 x_25), (11, .pointer (some ⟨g_78, 0, none⟩)), (12, .bool t_45.2.1), (13, .int .i64 x_103), (84, .bool (decide (x_103 < 10)))] := hm.keep [0, 2, 6, 7, 8, 11, 12, 13, 84]
      exact x_then_n (hJ_j_128 (decide (x_103 < 10)) H _ _ ⟨N_102, hm, (Sep.sel hS [0, 1, 2, 3] (by decide)), (Mem.le.refl _)⟩)
    · rw [if_neg hc_239] at H
      refine s_off hm rfl rfl rfl (decide_eq_false hc_239) ?_
      clear hm a; intro a hm
      refine s_off hm rfl rfl rfl (decide_eq_false hc_239) ?_
      clear hm a; intro a hm
      refine s_pick_f hm rfl rfl (decide_eq_false hc_239) rfl ?_
      clear hm a; intro a hm
      refine wpList_nil ?_
      replace hm : Fr 156 a [(0, .int .i64 (w64 ((Int.tmod (band .i64 x0 255) 7) + 1))), (2, p2_1), (6, .bool false), (7, .pointer (some ⟨g_5, 0, none⟩)), (8, .int .i64 x_25), (11, .pointer (some ⟨g_78, 0, none⟩)), (12, .bool t_45.2.1), (13, .int .i64 x_103), (84, .bool false)] := hm.keep [0, 2, 6, 7, 8, 11, 12, 13, 84]
      replace hS : Sep w0 w_121 [N_102, Mem.one g_5 (.cells ([.int .i64 x_104.n, .int .i64 x_104.id, .int .i64 x_104.v, v_107, .int .i64 x_104.come, .int .i64 x_104.ready, .int .i64 x_104.commit.Kind, .int .i64 x_104.commit.From, .int .i64 x_104.commit.To, .int .i64 x_104.commit.View, .int .i64 x_104.commit.Inst, .int .i64 x_104.commit.Len, .bool x_104.commit.Has, .int .i64 x_104.commit.Members, .int .i64 x_104.commit.Source, .int .i64 x_104.commit.At, .int .i64 x_104.commit.Total, v_109, .int .i64 x_104.commit.Hop, .int .i64 x_104.commit.Seq, v_111, v_113, .int .i64 x_104.commit.Index, .int .i64 x_104.commit.Entry.Sess, .int .i64 x_104.commit.Entry.Seq, .int .i64 x_104.commit.Entry.Cmd.Kind, .int .i64 x_104.commit.Entry.Cmd.Who, v_115, v_117, v_119, .bool x_104.is] : List Value).toArray 80 (0, 0)), M_105, Mem.one g_78 (.cells ([.int .i64 t_45.1.Kind, .int .i64 t_45.1.From, .int .i64 t_45.1.To, .int .i64 t_45.1.View, .int .i64 t_45.1.Inst, .int .i64 t_45.1.Len, .bool t_45.1.Has, .int .i64 t_45.1.Members, .int .i64 t_45.1.Source, .int .i64 t_45.1.At, .int .i64 t_45.1.Total, v_49, .int .i64 t_45.1.Hop, .int .i64 t_45.1.Seq, v_51, v_53, .int .i64 t_45.1.Index, .int .i64 t_45.1.Entry.Sess, .int .i64 t_45.1.Entry.Seq, .int .i64 t_45.1.Entry.Cmd.Kind, .int .i64 t_45.1.Entry.Cmd.Who, v_55, v_57, v_59] : List Value).toArray 29 (0, 0))] Z := hS
      replace hm : Fr 156 a [(0, .int .i64 (w64 ((Int.tmod (band .i64 x0 255) 7) + 1))), (2, p2_1), (6, .bool false), (7, .pointer (some ⟨g_5, 0, none⟩)), (8, .int .i64 x_25), (11, .pointer (some ⟨g_78, 0, none⟩)), (12, .bool t_45.2.1), (13, .int .i64 x_103), (84, .bool false)] := hm.keep [0, 2, 6, 7, 8, 11, 12, 13, 84]
      exact x_then_n (hJ_j_128 false H _ _ ⟨N_102, hm, (Sep.sel hS [0, 1, 2, 3] (by decide)), (Mem.le.refl _)⟩)
  clear hKJ_23
  replace hS : Sep w0 w_2 [N_4, Mem.one g_5 (.cells ([.int .i64 t_1.1, .int .i64 t_1.2.1, .int .i64 t_1.2.2.1, v_6, .int .i64 t_1.2.2.2.2.1, .int .i64 t_1.2.2.2.2.2.1, .int .i64 t_1.2.2.2.2.2.2.1, .int .i64 t_1.2.2.2.2.2.2.2.1, .int .i64 t_1.2.2.2.2.2.2.2.2.1, .int .i64 t_1.2.2.2.2.2.2.2.2.2.1, .int .i64 t_1.2.2.2.2.2.2.2.2.2.2.1, .int .i64 t_1.2.2.2.2.2.2.2.2.2.2.2.1, .bool t_1.2.2.2.2.2.2.2.2.2.2.2.2.1, .int .i64 t_1.2.2.2.2.2.2.2.2.2.2.2.2.2.1, .int .i64 t_1.2.2.2.2.2.2.2.2.2.2.2.2.2.2.1, .int .i64 t_1.2.2.2.2.2.2.2.2.2.2.2.2.2.2.2.1, .int .i64 t_1.2.2.2.2.2.2.2.2.2.2.2.2.2.2.2.2.1, v_10, .int .i64 t_1.2.2.2.2.2.2.2.2.2.2.2.2.2.2.2.2.2.2.1, .int .i64 t_1.2.2.2.2.2.2.2.2.2.2.2.2.2.2.2.2.2.2.2.1, v_12, v_14, .int .i64 t_1.2.2.2.2.2.2.2.2.2.2.2.2.2.2.2.2.2.2.2.2.2.2.1, .int .i64 t_1.2.2.2.2.2.2.2.2.2.2.2.2.2.2.2.2.2.2.2.2.2.2.2.1, .int .i64 t_1.2.2.2.2.2.2.2.2.2.2.2.2.2.2.2.2.2.2.2.2.2.2.2.2.1, .int .i64 t_1.2.2.2.2.2.2.2.2.2.2.2.2.2.2.2.2.2.2.2.2.2.2.2.2.2.1, .int .i64 t_1.2.2.2.2.2.2.2.2.2.2.2.2.2.2.2.2.2.2.2.2.2.2.2.2.2.2.1, v_16, v_18, v_20, .bool t_1.2.2.2.2.2.2.2.2.2.2.2.2.2.2.2.2.2.2.2.2.2.2.2.2.2.2.2.2.2.2] : List Value).toArray 80 (0, 0)), M_8] Z := hS
  replace hm : Fr 156 a [(0, .int .i64 (w64 ((Int.tmod (band .i64 x0 255) 7) + 1))), (1, p1_0), (2, p2_1), (6, .bool false), (7, .pointer (some ⟨g_5, 0, none⟩)), (8, .int .i64 1), (9, .int .i64 0)] := hm.keep [0, 1, 2, 6, 7, 8, 9]
  refine c_block ?_
  refine c_loop (fun k_260 a w_260 => ∃ (x_241 : Int) (x_242 : Int) (x_243 : gath_Gather) (v_246 : Value) (v_248 : Value) (v_250 : Value) (v_252 : Value) (v_254 : Value) (v_256 : Value) (v_258 : Value) (N_240 : Mem) (M_244 : Mem), hocketlaw18_GathOnce.L2 K x1 (fun v => hocketlaw18_GathOnce.J1 K x2 x0 v.1 v.2) k_260 (x_241, x_242, x_243) = some r ∧ Fr 156 a [(0, .int .i64 (w64 ((Int.tmod (band .i64 x0 255) 7) + 1))), (1, p1_0), (2, p2_1), (6, .bool false), (7, .pointer (some ⟨g_5, 0, none⟩)), (8, .int .i64 x_241), (9, .int .i64 x_242)] ∧ Sep w0 w_260 [N_240, Mem.one g_5 (.cells ([.int .i64 x_243.n, .int .i64 x_243.id, .int .i64 x_243.v, v_246, .int .i64 x_243.come, .int .i64 x_243.ready, .int .i64 x_243.commit.Kind, .int .i64 x_243.commit.From, .int .i64 x_243.commit.To, .int .i64 x_243.commit.View, .int .i64 x_243.commit.Inst, .int .i64 x_243.commit.Len, .bool x_243.commit.Has, .int .i64 x_243.commit.Members, .int .i64 x_243.commit.Source, .int .i64 x_243.commit.At, .int .i64 x_243.commit.Total, v_248, .int .i64 x_243.commit.Hop, .int .i64 x_243.commit.Seq, v_250, v_252, .int .i64 x_243.commit.Index, .int .i64 x_243.commit.Entry.Sess, .int .i64 x_243.commit.Entry.Seq, .int .i64 x_243.commit.Entry.Cmd.Kind, .int .i64 x_243.commit.Entry.Cmd.Who, v_254, v_256, v_258, .bool x_243.is] : List Value).toArray 80 (0, 0)), M_244] Z ∧ N_4.le N_240 ∧ Own k_api_Msg 29 M_244 N_240 v_246 x_243.l ∧ Rd Kd.u8 N_240 v_248 x_243.commit.Data ∧ Rd (Kd.int .i64) N_240 v_250 x_243.commit.Have ∧ Rd (Kd.int .i64) N_240 v_252 x_243.commit.Need ∧ Rd Kd.u8 N_240 v_254 x_243.commit.Entry.Cmd.Key ∧ Rd Kd.u8 N_240 v_256 x_243.commit.Entry.Cmd.Val ∧ Rd Kd.u8 N_240 v_258 x_243.commit.Entry.Cmd.Old) K ⟨1, 0, (⟨t_1.1, t_1.2.1, t_1.2.2.1, t_1.2.2.2.1, t_1.2.2.2.2.1, t_1.2.2.2.2.2.1, (⟨t_1.2.2.2.2.2.2.1, t_1.2.2.2.2.2.2.2.1, t_1.2.2.2.2.2.2.2.2.1, t_1.2.2.2.2.2.2.2.2.2.1, t_1.2.2.2.2.2.2.2.2.2.2.1, t_1.2.2.2.2.2.2.2.2.2.2.2.1, t_1.2.2.2.2.2.2.2.2.2.2.2.2.1, t_1.2.2.2.2.2.2.2.2.2.2.2.2.2.1, t_1.2.2.2.2.2.2.2.2.2.2.2.2.2.2.1, t_1.2.2.2.2.2.2.2.2.2.2.2.2.2.2.2.1, t_1.2.2.2.2.2.2.2.2.2.2.2.2.2.2.2.2.1, t_1.2.2.2.2.2.2.2.2.2.2.2.2.2.2.2.2.2.1, t_1.2.2.2.2.2.2.2.2.2.2.2.2.2.2.2.2.2.2.1, t_1.2.2.2.2.2.2.2.2.2.2.2.2.2.2.2.2.2.2.2.1, t_1.2.2.2.2.2.2.2.2.2.2.2.2.2.2.2.2.2.2.2.2.1, t_1.2.2.2.2.2.2.2.2.2.2.2.2.2.2.2.2.2.2.2.2.2.1, t_1.2.2.2.2.2.2.2.2.2.2.2.2.2.2.2.2.2.2.2.2.2.2.1, (⟨t_1.2.2.2.2.2.2.2.2.2.2.2.2.2.2.2.2.2.2.2.2.2.2.2.1, t_1.2.2.2.2.2.2.2.2.2.2.2.2.2.2.2.2.2.2.2.2.2.2.2.2.1, (⟨t_1.2.2.2.2.2.2.2.2.2.2.2.2.2.2.2.2.2.2.2.2.2.2.2.2.2.1, t_1.2.2.2.2.2.2.2.2.2.2.2.2.2.2.2.2.2.2.2.2.2.2.2.2.2.2.1, t_1.2.2.2.2.2.2.2.2.2.2.2.2.2.2.2.2.2.2.2.2.2.2.2.2.2.2.2.1, t_1.2.2.2.2.2.2.2.2.2.2.2.2.2.2.2.2.2.2.2.2.2.2.2.2.2.2.2.2.1, t_1.2.2.2.2.2.2.2.2.2.2.2.2.2.2.2.2.2.2.2.2.2.2.2.2.2.2.2.2.2.1⟩ : api_Cmd)⟩ : api_Entry)⟩ : api_Msg), t_1.2.2.2.2.2.2.2.2.2.2.2.2.2.2.2.2.2.2.2.2.2.2.2.2.2.2.2.2.2.2⟩ : gath_Gather), v_6, v_10, v_12, v_14, v_16, v_18, v_20, N_4, M_8, H, hm, (Sep.sel hS [0, 1, 2] (by decide)), (Mem.le.refl _), ((hr_7.mono (Mem.un_le le_4 ln_4)).mono (Mem.le.refl _)), (hr_11.mono ln_4), (hr_13.mono ln_4), (hr_15.mono ln_4), (hr_17.mono ln_4), (hr_19.mono ln_4), (hr_21.mono ln_4)⟩ (fun a w h => by obtain ⟨_, _, _, _, _, _, _, _, _, _, _, _, H, _⟩ := h; cases (show (none : Option (Unit)) = some r from H)) ?_
  clear hm hS a H
  rintro k_260 a w_260 KL_260 hKL_260 ⟨x_241, x_242, x_243, v_246, v_248, v_250, v_252, v_254, v_256, v_258, N_240, M_244, H, hm, hS, le_240, ho_247, hr_249, hr_251, hr_253, hr_255, hr_257, hr_259⟩
  replace H : hocketlaw18_GathOnce.B2 K x1 (fun v => hocketlaw18_GathOnce.J1 K x2 x0 v.1 v.2) (hocketlaw18_GathOnce.L2 K x1 (fun v => hocketlaw18_GathOnce.J1 K x2 x0 v.1 v.2) k_260) x_241 x_242 x_243 = some r := H
  unfold hocketlaw18_GathOnce.B2 at H
  refine c_seq fun KJ_262 hKJ_262 => ?_
  refine c_seq fun KJ_263 hKJ_263 => ?_
  have hJ_j_267 : ∀ (x_265 : Bool), hocketlaw18_GathOnce.J6 K x1 x_242 x_243 (hocketlaw18_GathOnce.L2 K x1 (fun v => hocketlaw18_GathOnce.J1 K x2 x0 v.1 v.2) k_260) x_241 (fun v => hocketlaw18_GathOnce.J1 K x2 x0 v.1 v.2) x_265 = some r → ∀ (a : Act) (w_266 : World), (∃ (N_264 : Mem), Fr 156 a [(0, .int .i64 (w64 ((Int.tmod (band .i64 x0 255) 7) + 1))), (1, p1_0), (2, p2_1), (6, .bool false), (7, .pointer (some ⟨g_5, 0, none⟩)), (8, .int .i64 x_241), (9, .int .i64 x_242), (34, .bool x_265)] ∧ Sep w0 w_266 [N_264, Mem.one g_5 (.cells ([.int .i64 x_243.n, .int .i64 x_243.id, .int .i64 x_243.v, v_246, .int .i64 x_243.come, .int .i64 x_243.ready, .int .i64 x_243.commit.Kind, .int .i64 x_243.commit.From, .int .i64 x_243.commit.To, .int .i64 x_243.commit.View, .int .i64 x_243.commit.Inst, .int .i64 x_243.commit.Len, .bool x_243.commit.Has, .int .i64 x_243.commit.Members, .int .i64 x_243.commit.Source, .int .i64 x_243.commit.At, .int .i64 x_243.commit.Total, v_248, .int .i64 x_243.commit.Hop, .int .i64 x_243.commit.Seq, v_250, v_252, .int .i64 x_243.commit.Index, .int .i64 x_243.commit.Entry.Sess, .int .i64 x_243.commit.Entry.Seq, .int .i64 x_243.commit.Entry.Cmd.Kind, .int .i64 x_243.commit.Entry.Cmd.Who, v_254, v_256, v_258, .bool x_243.is] : List Value).toArray 80 (0, 0)), M_244] Z ∧ N_240.le N_264) → KJ_263 a w_266 := by
    clear H hm hS a
    rintro x_265 H a w_266 ⟨N_264, hm, hS, le_264⟩
    unfold hocketlaw18_GathOnce.J6 at H
    refine hKJ_263 _ _ ?_
    by_cases hc_268 : x_265 = true
    · rw [if_pos hc_268] at H
      refine c_cond_t hm rfl hc_268 ?_
      refine wp_skip ?_
      refine x_then_n (hKJ_262 _ _ ?_)
      refine c_seq fun KJ_269 hKJ_269 => ?_
      refine c_block ?_
      refine c_seq fun KJ_270 hKJ_270 => ?_
      refine h_begin (S := fun w => Sep w0 w [N_264, Mem.one g_5 (.cells ([.int .i64 x_243.n, .int .i64 x_243.id, .int .i64 x_243.v, v_246, .int .i64 x_243.come, .int .i64 x_243.ready, .int .i64 x_243.commit.Kind, .int .i64 x_243.commit.From, .int .i64 x_243.commit.To, .int .i64 x_243.commit.View, .int .i64 x_243.commit.Inst, .int .i64 x_243.commit.Len, .bool x_243.commit.Has, .int .i64 x_243.commit.Members, .int .i64 x_243.commit.Source, .int .i64 x_243.commit.At, .int .i64 x_243.commit.Total, v_248, .int .i64 x_243.commit.Hop, .int .i64 x_243.commit.Seq, v_250, v_252, .int .i64 x_243.commit.Index, .int .i64 x_243.commit.Entry.Sess, .int .i64 x_243.commit.Entry.Seq, .int .i64 x_243.commit.Entry.Cmd.Kind, .int .i64 x_243.commit.Entry.Cmd.Who, v_254, v_256, v_258, .bool x_243.is] : List Value).toArray 80 (0, 0)), M_244] Z) 28 (by kernel_rfl) rfl [false, false, false, false, false, false, false, false, false, false, false, false, false, false, false, false, false, false, false, false, false, false, false, false, false, false, false, false].toArray rfl hS fun w_271 hS => ?_
      replace hS : Sep w0 w_271 [N_264, Mem.one g_5 (.cells ([.int .i64 x_243.n, .int .i64 x_243.id, .int .i64 x_243.v, v_246, .int .i64 x_243.come, .int .i64 x_243.ready, .int .i64 x_243.commit.Kind, .int .i64 x_243.commit.From, .int .i64 x_243.commit.To, .int .i64 x_243.commit.View, .int .i64 x_243.commit.Inst, .int .i64 x_243.commit.Len, .bool x_243.commit.Has, .int .i64 x_243.commit.Members, .int .i64 x_243.commit.Source, .int .i64 x_243.commit.At, .int .i64 x_243.commit.Total, v_248, .int .i64 x_243.commit.Hop, .int .i64 x_243.commit.Seq, v_250, v_252, .int .i64 x_243.commit.Index, .int .i64 x_243.commit.Entry.Sess, .int .i64 x_243.commit.Entry.Seq, .int .i64 x_243.commit.Entry.Cmd.Kind, .int .i64 x_243.commit.Entry.Cmd.Who, v_254, v_256, v_258, .bool x_243.is] : List Value).toArray 80 (0, 0)), M_244] Z := hS
      refine h_take 0 [true, false, false, false, false, false, false, false, false, false, false, false, false, false, false, false, false, false, false, false, false, false, false, false, false, false, false, false].toArray rfl (by kernel_rfl) (by kernel_rfl) (by kernel_rfl) (fun _ _ _ _ h => h) rfl rfl rfl rfl hm (hS.sub (.cons (Mem.le.refl _) (.cons (Mem.le.refl _) (.cons (Mem.le.refl _) (Sub.nil _))))) (v := p1_0) (fun w hS => r_move hm rfl) ?_
      clear hm a; intro a hm
      refine h_take 1 [true, true, false, false, false, false, false, false, false, false, false, false, false, false, false, false, false, false, false, false, false, false, false, false, false, false, false, false].toArray rfl (by kernel_rfl) (by kernel_rfl) (by kernel_rfl) (fun _ _ _ _ h => h) rfl rfl rfl rfl hm (hS.sub (.cons (Mem.le.refl _) (.cons (Mem.le.refl _) (.cons (Mem.le.refl _) (Sub.nil _))))) (v := .int .i64 x_242) (fun w hS => r_move hm rfl) ?_
      clear hm a; intro a hm
      obtain ⟨t_272, et_272, H⟩ := Option.bind_eq_some_iff.1 H
      refine h_takeE 2 [true, true, true, false, false, false, false, false, false, false, false, false, false, false, false, false, false, false, false, false, false, false, false, false, false, false, false, false].toArray rfl (by kernel_rfl) (by kernel_rfl) (by kernel_rfl) (fun _ _ _ _ h => h) rfl rfl rfl rfl hm (hS.sub (.cons (Mem.le.refl _) (.cons (Mem.le.refl _) (.cons (Mem.le.refl _) (Sub.nil _))))) (f := fun ad => .pointer (some ad)) (r_index hm Try.underlying23 ti3 rfl rfl rfl hp1_0 et_272) ?_
      rintro ad_273 ⟨cs_274, hk_275, hc_276⟩
      obtain rfl := (show cs_274 = [.int .i64 t_272] from hk_275)
      clear hm a; intro a hm
      refine h_take 3 [true, true, true, true, false, false, false, false, false, false, false, false, false, false, false, false, false, false, false, false, false, false, false, false, false, false, false, false].toArray rfl (by kernel_rfl) (by kernel_rfl) (by kernel_rfl) (fun _ _ _ _ h => h) rfl rfl rfl rfl hm (hS.sub (.cons (Mem.le.refl _) (.cons (Mem.le.refl _) (.cons (Mem.le.refl _) (Sub.nil _))))) (v := .int .i64 t_272) (fun w hS => r_load hm rfl (el_one (o := 0) (fun j c h => Mem.cell_le (hA.trans hS.old) (hc_276 j c h)) Try.underlying3 rfl rfl)) ?_
      clear hm a; intro a hm
      refine h_take 4 [true, true, true, true, true, false, false, false, false, false, false, false, false, false, false, false, false, false, false, false, false, false, false, false, false, false, false, false].toArray rfl (by kernel_rfl) (by kernel_rfl) (by kernel_rfl) (fun _ _ _ _ h => h) rfl rfl rfl rfl hm (hS.sub (.cons (Mem.le.refl _) (.cons (Mem.le.refl _) (.cons (Mem.le.refl _) (Sub.nil _))))) (v := .int .i64 (band .i64 t_272 7)) (fun w hS => r_bits (i := t_272) (j := 7) (r := band .i64 t_272 7) hm rfl rfl (.inl ⟨rfl, rfl⟩)) ?_
      clear hm a; intro a hm
      refine h_take 5 [true, true, true, true, true, true, false, false, false, false, false, false, false, false, false, false, false, false, false, false, false, false, false, false, false, false, false, false].toArray rfl (by kernel_rfl) (by kernel_rfl) (by kernel_rfl) (fun _ _ _ _ h => h) rfl rfl rfl rfl hm (hS.sub (.cons (Mem.le.refl _) (.cons (Mem.le.refl _) (.cons (Mem.le.refl _) (Sub.nil _))))) (v := p1_0) (fun w hS => r_move hm rfl) ?_
      clear hm a; intro a hm
      refine h_take 6 [true, true, true, true, true, true, true, false, false, false, false, false, false, false, false, false, false, false, false, false, false, false, false, false, false, false, false, false].toArray rfl (by kernel_rfl) (by kernel_rfl) (by kernel_rfl) (fun _ _ _ _ h => h) rfl rfl rfl rfl hm (hS.sub (.cons (Mem.le.refl _) (.cons (Mem.le.refl _) (.cons (Mem.le.refl _) (Sub.nil _))))) (v := .int .i64 x_242) (fun w hS => r_move hm rfl) ?_
      clear hm a; intro a hm
      obtain ⟨t_277, et_277, H⟩ := Option.bind_eq_some_iff.1 H
      refine h_takeE 7 [true, true, true, true, true, true, true, true, false, false, false, false, false, false, false, false, false, false, false, false, false, false, false, false, false, false, false, false].toArray rfl (by kernel_rfl) (by kernel_rfl) (by kernel_rfl) (fun _ _ _ _ h => h) rfl rfl rfl rfl hm (hS.sub (.cons (Mem.le.refl _) (.cons (Mem.le.refl _) (.cons (Mem.le.refl _) (Sub.nil _))))) (f := fun ad => .pointer (some ad)) (r_index hm Try.underlying23 ti3 rfl rfl rfl hp1_0 et_277) ?_
      rintro ad_278 ⟨cs_279, hk_280, hc_281⟩
      obtain rfl := (show cs_279 = [.int .i64 t_277] from hk_280)
      clear hm a; intro a hm
      refine h_take 8 [true, true, true, true, true, true, true, true, true, false, false, false, false, false, false, false, false, false, false, false, false, false, false, false, false, false, false, false].toArray rfl (by kernel_rfl) (by kernel_rfl) (by kernel_rfl) (fun _ _ _ _ h => h) rfl rfl rfl rfl hm (hS.sub (.cons (Mem.le.refl _) (.cons (Mem.le.refl _) (.cons (Mem.le.refl _) (Sub.nil _))))) (v := .int .i64 t_277) (fun w hS => r_load hm rfl (el_one (o := 0) (fun j c h => Mem.cell_le (hA.trans hS.old) (hc_281 j c h)) Try.underlying3 rfl rfl)) ?_
      clear hm a; intro a hm
      refine h_take 9 [true, true, true, true, true, true, true, true, true, true, false, false, false, false, false, false, false, false, false, false, false, false, false, false, false, false, false, false].toArray rfl (by kernel_rfl) (by kernel_rfl) (by kernel_rfl) (fun _ _ _ _ h => h) rfl rfl rfl rfl hm (hS.sub (.cons (Mem.le.refl _) (.cons (Mem.le.refl _) (.cons (Mem.le.refl _) (Sub.nil _))))) (v := .int .i64 (shr .i64 t_277 3)) (fun w hS => r_shift (r := shr .i64 t_277 3) hm rfl rfl (by decide) (.inr ⟨rfl, rfl⟩)) ?_
      clear hm a; intro a hm
      refine h_take 10 [true, true, true, true, true, true, true, true, true, true, true, false, false, false, false, false, false, false, false, false, false, false, false, false, false, false, false, false].toArray rfl (by kernel_rfl) (by kernel_rfl) (by kernel_rfl) (fun _ _ _ _ h => h) rfl rfl rfl rfl hm (hS.sub (.cons (Mem.le.refl _) (.cons (Mem.le.refl _) (.cons (Mem.le.refl _) (Sub.nil _))))) (v := .int .i64 (band .i64 (shr .i64 t_277 3) 3)) (fun w hS => r_bits (i := shr .i64 t_277 3) (j := 3) (r := band .i64 (shr .i64 t_277 3) 3) hm rfl rfl (.inl ⟨rfl, rfl⟩)) ?_
      clear hm a; intro a hm
      refine h_take 11 [true, true, true, true, true, true, true, true, true, true, true, true, false, false, false, false, false, false, false, false, false, false, false, false, false, false, false, false].toArray rfl (by kernel_rfl) (by kernel_rfl) (by kernel_rfl) (fun _ _ _ _ h => h) rfl rfl rfl rfl hm (hS.sub (.cons (Mem.le.refl _) (.cons (Mem.le.refl _) (.cons (Mem.le.refl _) (Sub.nil _))))) (v := .int .i64 (w64 ((band .i64 (shr .i64 t_277 3) 3) * 8))) (fun w hS => r_arith (r := w64 ((band .i64 (shr .i64 t_277 3) 3) * 8)) hm rfl rfl (.inr (.inr ⟨rfl, rfl⟩))) ?_
      clear hm a; intro a hm
      refine h_take 12 [true, true, true, true, true, true, true, true, true, true, true, true, true, false, false, false, false, false, false, false, false, false, false, false, false, false, false, false].toArray rfl (by kernel_rfl) (by kernel_rfl) (by kernel_rfl) (fun _ _ _ _ h => h) rfl rfl rfl rfl hm (hS.sub (.cons (Mem.le.refl _) (.cons (Mem.le.refl _) (.cons (Mem.le.refl _) (Sub.nil _))))) (v := p1_0) (fun w hS => r_move hm rfl) ?_
      clear hm a; intro a hm
      refine h_take 13 [true, true, true, true, true, true, true, true, true, true, true, true, true, true, false, false, false, false, false, false, false, false, false, false, false, false, false, false].toArray rfl (by kernel_rfl) (by kernel_rfl) (by kernel_rfl) (fun _ _ _ _ h => h) rfl rfl rfl rfl hm (hS.sub (.cons (Mem.le.refl _) (.cons (Mem.le.refl _) (.cons (Mem.le.refl _) (Sub.nil _))))) (v := .int .i64 x_242) (fun w hS => r_move hm rfl) ?_
      clear hm a; intro a hm
      obtain ⟨t_282, et_282, H⟩ := Option.bind_eq_some_iff.1 H
      refine h_takeE 14 [true, true, true, true, true, true, true, true, true, true, true, true, true, true, true, false, false, false, false, false, false, false, false, false, false, false, false, false].toArray rfl (by kernel_rfl) (by kernel_rfl) (by kernel_rfl) (fun _ _ _ _ h => h) rfl rfl rfl rfl hm (hS.sub (.cons (Mem.le.refl _) (.cons (Mem.le.refl _) (.cons (Mem.le.refl _) (Sub.nil _))))) (f := fun ad => .pointer (some ad)) (r_index hm Try.underlying23 ti3 rfl rfl rfl hp1_0 et_282) ?_
      rintro ad_283 ⟨cs_284, hk_285, hc_286⟩
      obtain rfl := (show cs_284 = [.int .i64 t_282] from hk_285)
      clear hm a; intro a hm
      refine h_take 15 [true, true, true, true, true, true, true, true, true, true, true, true, true, true, true, true, false, false, false, false, false, false, false, false, false, false, false, false].toArray rfl (by kernel_rfl) (by kernel_rfl) (by kernel_rfl) (fun _ _ _ _ h => h) rfl rfl rfl rfl hm (hS.sub (.cons (Mem.le.refl _) (.cons (Mem.le.refl _) (.cons (Mem.le.refl _) (Sub.nil _))))) (v := .int .i64 t_282) (fun w hS => r_load hm rfl (el_one (o := 0) (fun j c h => Mem.cell_le (hA.trans hS.old) (hc_286 j c h)) Try.underlying3 rfl rfl)) ?_
      clear hm a; intro a hm
      refine h_take 16 [true, true, true, true, true, true, true, true, true, true, true, true, true, true, true, true, true, false, false, false, false, false, false, false, false, false, false, false].toArray rfl (by kernel_rfl) (by kernel_rfl) (by kernel_rfl) (fun _ _ _ _ h => h) rfl rfl rfl rfl hm (hS.sub (.cons (Mem.le.refl _) (.cons (Mem.le.refl _) (.cons (Mem.le.refl _) (Sub.nil _))))) (v := .int .i64 (shr .i64 t_282 5)) (fun w hS => r_shift (r := shr .i64 t_282 5) hm rfl rfl (by decide) (.inr ⟨rfl, rfl⟩)) ?_
      clear hm a; intro a hm
      refine h_take 17 [true, true, true, true, true, true, true, true, true, true, true, true, true, true, true, true, true, true, false, false, false, false, false, false, false, false, false, false].toArray rfl (by kernel_rfl) (by kernel_rfl) (by kernel_rfl) (fun _ _ _ _ h => h) rfl rfl rfl rfl hm (hS.sub (.cons (Mem.le.refl _) (.cons (Mem.le.refl _) (.cons (Mem.le.refl _) (Sub.nil _))))) (v := .int .i64 (band .i64 (shr .i64 t_282 5) 31)) (fun w hS => r_bits (i := shr .i64 t_282 5) (j := 31) (r := band .i64 (shr .i64 t_282 5) 31) hm rfl rfl (.inl ⟨rfl, rfl⟩)) ?_
      clear hm a; intro a hm
      refine h_take 18 [true, true, true, true, true, true, true, true, true, true, true, true, true, true, true, true, true, true, true, false, false, false, false, false, false, false, false, false].toArray rfl (by kernel_rfl) (by kernel_rfl) (by kernel_rfl) (fun _ _ _ _ h => h) rfl rfl rfl rfl hm (hS.sub (.cons (Mem.le.refl _) (.cons (Mem.le.refl _) (.cons (Mem.le.refl _) (Sub.nil _))))) (v := p1_0) (fun w hS => r_move hm rfl) ?_
      clear hm a; intro a hm
      refine h_take 19 [true, true, true, true, true, true, true, true, true, true, true, true, true, true, true, true, true, true, true, true, false, false, false, false, false, false, false, false].toArray rfl (by kernel_rfl) (by kernel_rfl) (by kernel_rfl) (fun _ _ _ _ h => h) rfl rfl rfl rfl hm (hS.sub (.cons (Mem.le.refl _) (.cons (Mem.le.refl _) (.cons (Mem.le.refl _) (Sub.nil _))))) (v := .int .i64 x_242) (fun w hS => r_move hm rfl) ?_
      clear hm a; intro a hm
      obtain ⟨t_287, et_287, H⟩ := Option.bind_eq_some_iff.1 H
      refine h_takeE 20 [true, true, true, true, true, true, true, true, true, true, true, true, true, true, true, true, true, true, true, true, true, false, false, false, false, false, false, false].toArray rfl (by kernel_rfl) (by kernel_rfl) (by kernel_rfl) (fun _ _ _ _ h => h) rfl rfl rfl rfl hm (hS.sub (.cons (Mem.le.refl _) (.cons (Mem.le.refl _) (.cons (Mem.le.refl _) (Sub.nil _))))) (f := fun ad => .pointer (some ad)) (r_index hm Try.underlying23 ti3 rfl rfl rfl hp1_0 et_287) ?_
      rintro ad_288 ⟨cs_289, hk_290, hc_291⟩
      obtain rfl := (show cs_289 = [.int .i64 t_287] from hk_290)
      clear hm a; intro a hm
      refine h_take 21 [true, true, true, true, true, true, true, true, true, true, true, true, true, true, true, true, true, true, true, true, true, true, false, false, false, false, false, false].toArray rfl (by kernel_rfl) (by kernel_rfl) (by kernel_rfl) (fun _ _ _ _ h => h) rfl rfl rfl rfl hm (hS.sub (.cons (Mem.le.refl _) (.cons (Mem.le.refl _) (.cons (Mem.le.refl _) (Sub.nil _))))) (v := .int .i64 t_287) (fun w hS => r_load hm rfl (el_one (o := 0) (fun j c h => Mem.cell_le (hA.trans hS.old) (hc_291 j c h)) Try.underlying3 rfl rfl)) ?_
      clear hm a; intro a hm
      refine h_take 22 [true, true, true, true, true, true, true, true, true, true, true, true, true, true, true, true, true, true, true, true, true, true, true, false, false, false, false, false].toArray rfl (by kernel_rfl) (by kernel_rfl) (by kernel_rfl) (fun _ _ _ _ h => h) rfl rfl rfl rfl hm (hS.sub (.cons (Mem.le.refl _) (.cons (Mem.le.refl _) (.cons (Mem.le.refl _) (Sub.nil _))))) (v := .int .i64 (shr .i64 t_287 10)) (fun w hS => r_shift (r := shr .i64 t_287 10) hm rfl rfl (by decide) (.inr ⟨rfl, rfl⟩)) ?_
      clear hm a; intro a hm
      refine h_take 23 [true, true, true, true, true, true, true, true, true, true, true, true, true, true, true, true, true, true, true, true, true, true, true, true, false, false, false, false].toArray rfl (by kernel_rfl) (by kernel_rfl) (by kernel_rfl) (fun _ _ _ _ h => h) rfl rfl rfl rfl hm (hS.sub (.cons (Mem.le.refl _) (.cons (Mem.le.refl _) (.cons (Mem.le.refl _) (Sub.nil _))))) (v := .int .i64 (band .i64 (shr .i64 t_287 10) 1)) (fun w hS => r_bits (i := shr .i64 t_287 10) (j := 1) (r := band .i64 (shr .i64 t_287 10) 1) hm rfl rfl (.inl ⟨rfl, rfl⟩)) ?_
      clear hm a; intro a hm
      refine h_take 24 [true, true, true, true, true, true, true, true, true, true, true, true, true, true, true, true, true, true, true, true, true, true, true, true, true, false, false, false].toArray rfl (by kernel_rfl) (by kernel_rfl) (by kernel_rfl) (fun _ _ _ _ h => h) rfl rfl rfl rfl hm (hS.sub (.cons (Mem.le.refl _) (.cons (Mem.le.refl _) (.cons (Mem.le.refl _) (Sub.nil _))))) (v := .bool ((band .i64 (shr .i64 t_287 10) 1) == 1)) (fun w hS => r_cmp (b := ((band .i64 (shr .i64 t_287 10) 1) == 1)) hm rfl rfl (.inl ⟨rfl, rfl⟩)) ?_
      clear hm a; intro a hm
      refine h_take 25 [true, true, true, true, true, true, true, true, true, true, true, true, true, true, true, true, true, true, true, true, true, true, true, true, true, true, false, false].toArray rfl (by kernel_rfl) (by kernel_rfl) (by kernel_rfl) (fun _ _ _ _ h => h) rfl rfl rfl rfl hm (hS.sub (.cons (Mem.le.refl _) (.cons (Mem.le.refl _) (.cons (Mem.le.refl _) (Sub.nil _))))) (v := .agg ([.int .i64 2, .int .i64 (band .i64 t_272 7), .int .i64 0, .int .i64 8, .int .i64 (w64 ((band .i64 (shr .i64 t_277 3) 3) * 8)), .int .i64 (band .i64 (shr .i64 t_282 5) 31), .bool ((band .i64 (shr .i64 t_287 10) 1) == 1), .int .i64 0, .int .i64 0, .int .i64 0, .int .i64 0, .slice none 0 0, .int .i64 0, .int .i64 0, .slice none 0 0, .slice none 0 0, .int .i64 0, .int .i64 0, .int .i64 0, .int .i64 0, .int .i64 0, .slice none 0 0, .slice none 0 0, .slice none 0 0] : List Value).toArray) (fun w hS => r_build hm ti29 pl29 rfl (.cons rfl (.cons rfl (.cons rfl (.cons rfl (.cons rfl (.cons rfl .nil)))))) (cs := [.int .i64 2, .int .i64 (band .i64 t_272 7), .int .i64 0, .int .i64 8, .int .i64 (w64 ((band .i64 (shr .i64 t_277 3) 3) * 8)), .int .i64 (band .i64 (shr .i64 t_282 5) 31), .bool ((band .i64 (shr .i64 t_287 10) 1) == 1), .int .i64 0, .int .i64 0, .int .i64 0, .int .i64 0, .slice none 0 0, .int .i64 0, .int .i64 0, .slice none 0 0, .slice none 0 0, .int .i64 0, .int .i64 0, .int .i64 0, .int .i64 0, .int .i64 0, .slice none 0 0, .slice none 0 0, .slice none 0 0]) rfl) ?_
      clear hm a; intro a hm
      refine h_event 26 [true, true, true, true, true, true, true, true, true, true, true, true, true, true, true, true, true, true, true, true, true, true, true, true, true, true, true, false].toArray rfl (by kernel_rfl) rfl ?_
      refine v_alloc hm rfl ti29 hS ?_
      intro w_292 g_293 hS'
      clear hm a; intro a hm
      replace hS : Sep w0 w_292 [N_264, Mem.one g_5 (.cells ([.int .i64 x_243.n, .int .i64 x_243.id, .int .i64 x_243.v, v_246, .int .i64 x_243.come, .int .i64 x_243.ready, .int .i64 x_243.commit.Kind, .int .i64 x_243.commit.From, .int .i64 x_243.commit.To, .int .i64 x_243.commit.View, .int .i64 x_243.commit.Inst, .int .i64 x_243.commit.Len, .bool x_243.commit.Has, .int .i64 x_243.commit.Members, .int .i64 x_243.commit.Source, .int .i64 x_243.commit.At, .int .i64 x_243.commit.Total, v_248, .int .i64 x_243.commit.Hop, .int .i64 x_243.commit.Seq, v_250, v_252, .int .i64 x_243.commit.Index, .int .i64 x_243.commit.Entry.Sess, .int .i64 x_243.commit.Entry.Seq, .int .i64 x_243.commit.Entry.Cmd.Kind, .int .i64 x_243.commit.Entry.Cmd.Who, v_254, v_256, v_258, .bool x_243.is] : List Value).toArray 80 (0, 0)), M_244, Mem.one g_293 (.cells ([.int .i64 0, .int .i64 0, .int .i64 0, .int .i64 0, .int .i64 0, .int .i64 0, .bool false, .int .i64 0, .int .i64 0, .int .i64 0, .int .i64 0, .slice none 0 0, .int .i64 0, .int .i64 0, .slice none 0 0, .slice none 0 0, .int .i64 0, .int .i64 0, .int .i64 0, .int .i64 0, .int .i64 0, .slice none 0 0, .slice none 0 0, .slice none 0 0] : List Value).toArray 29 (0, 0))] Z := hS'
      clear hS'
      refine wpList_nil ?_
      refine x_then_n ⟨(hS.sub (.cons (Mem.le.refl _) (.cons (Mem.le.refl _) (.cons (Mem.le.refl _) (Sub.nil _))))), ?_⟩
      refine h_event 27 [true, true, true, true, true, true, true, true, true, true, true, true, true, true, true, true, true, true, true, true, true, true, true, true, true, true, true, true].toArray rfl (by kernel_rfl) rfl ?_
      obtain ⟨w_294, hs', hS'⟩ := hS.store (P := Try.prog) (p := 3) (o := 0) (t := 29) (v := .agg ([.int .i64 2, .int .i64 (band .i64 t_272 7), .int .i64 0, .int .i64 8, .int .i64 (w64 ((band .i64 (shr .i64 t_277 3) 3) * 8)), .int .i64 (band .i64 (shr .i64 t_282 5) 31), .bool ((band .i64 (shr .i64 t_287 10) 1) == 1), .int .i64 0, .int .i64 0, .int .i64 0, .int .i64 0, .slice none 0 0, .int .i64 0, .int .i64 0, .slice none 0 0, .slice none 0 0, .int .i64 0, .int .i64 0, .int .i64 0, .int .i64 0, .int .i64 0, .slice none 0 0, .slice none 0 0, .slice none 0 0] : List Value).toArray) (vs := [.int .i64 2, .int .i64 (band .i64 t_272 7), .int .i64 0, .int .i64 8, .int .i64 (w64 ((band .i64 (shr .i64 t_277 3) 3) * 8)), .int .i64 (band .i64 (shr .i64 t_282 5) 31), .bool ((band .i64 (shr .i64 t_287 10) 1) == 1), .int .i64 0, .int .i64 0, .int .i64 0, .int .i64 0, .slice none 0 0, .int .i64 0, .int .i64 0, .slice none 0 0, .slice none 0 0, .int .i64 0, .int .i64 0, .int .i64 0, .int .i64 0, .int .i64 0, .slice none 0 0, .slice none 0 0, .slice none 0 0]) rfl ti29 rfl rfl rfl (by intro u hu; simp only [List.mem_cons, List.not_mem_nil, or_false] at hu; rcases hu with rfl | rfl | rfl | rfl | rfl | rfl | rfl | rfl | rfl | rfl | rfl | rfl | rfl | rfl | rfl | rfl | rfl | rfl | rfl | rfl | rfl | rfl | rfl | rfl <;> rfl)
      refine s_store hm rfl rfl hs' ?_
      replace hS : Sep w0 w_294 [N_264, Mem.one g_5 (.cells ([.int .i64 x_243.n, .int .i64 x_243.id, .int .i64 x_243.v, v_246, .int .i64 x_243.come, .int .i64 x_243.ready, .int .i64 x_243.commit.Kind, .int .i64 x_243.commit.From, .int .i64 x_243.commit.To, .int .i64 x_243.commit.View, .int .i64 x_243.commit.Inst, .int .i64 x_243.commit.Len, .bool x_243.commit.Has, .int .i64 x_243.commit.Members, .int .i64 x_243.commit.Source, .int .i64 x_243.commit.At, .int .i64 x_243.commit.Total, v_248, .int .i64 x_243.commit.Hop, .int .i64 x_243.commit.Seq, v_250, v_252, .int .i64 x_243.commit.Index, .int .i64 x_243.commit.Entry.Sess, .int .i64 x_243.commit.Entry.Seq, .int .i64 x_243.commit.Entry.Cmd.Kind, .int .i64 x_243.commit.Entry.Cmd.Who, v_254, v_256, v_258, .bool x_243.is] : List Value).toArray 80 (0, 0)), M_244, Mem.one g_293 (.cells ([.int .i64 2, .int .i64 (band .i64 t_272 7), .int .i64 0, .int .i64 8, .int .i64 (w64 ((band .i64 (shr .i64 t_277 3) 3) * 8)), .int .i64 (band .i64 (shr .i64 t_282 5) 31), .bool ((band .i64 (shr .i64 t_287 10) 1) == 1), .int .i64 0, .int .i64 0, .int .i64 0, .int .i64 0, .slice none 0 0, .int .i64 0, .int .i64 0, .slice none 0 0, .slice none 0 0, .int .i64 0, .int .i64 0, .int .i64 0, .int .i64 0, .int .i64 0, .slice none 0 0, .slice none 0 0, .slice none 0 0] : List Value).toArray 29 (0, 0))] Z := hS'
      clear hs' hS'
      refine wpList_nil ?_
      refine x_then_n ⟨(hS.sub (.cons (Mem.le.refl _) (.cons (Mem.le.refl _) (.cons (Mem.le.refl _) (Sub.nil _))))), ?_⟩
      refine h_done (by kernel_rfl) ?_
      replace hm : Fr 156 a [(0, .int .i64 (w64 ((Int.tmod (band .i64 x0 255) 7) + 1))), (1, p1_0), (2, p2_1), (6, .bool false), (7, .pointer (some ⟨g_5, 0, none⟩)), (8, .int .i64 x_241), (9, .int .i64 x_242), (10, .pointer (some ⟨g_293, 0, none⟩))] := hm.keep [0, 1, 2, 6, 7, 8, 9, 10]
      refine x_then_n (hKJ_270 _ _ ?_)
      refine wp_seq ?_
      refine wp_region_lit ?_
      refine s_move hm rfl rfl ?_
      clear hm a; intro a hm
      refine s_load hm rfl rfl (hS.load_agg (p := 3) (us := [.int .i64 2, .int .i64 (band .i64 t_272 7), .int .i64 0, .int .i64 8, .int .i64 (w64 ((band .i64 (shr .i64 t_277 3) 3) * 8)), .int .i64 (band .i64 (shr .i64 t_282 5) 31), .bool ((band .i64 (shr .i64 t_287 10) 1) == 1), .int .i64 0, .int .i64 0, .int .i64 0, .int .i64 0, .slice none 0 0, .int .i64 0, .int .i64 0, .slice none 0 0, .slice none 0 0, .int .i64 0, .int .i64 0, .int .i64 0, .int .i64 0, .int .i64 0, .slice none 0 0, .slice none 0 0, .slice none 0 0]) rfl Try.underlying29 rfl ti29 rfl rfl) ?_
      clear hm a; intro a hm
      obtain ⟨t_295, et_295, H⟩ := Option.bind_eq_some_iff.1 H
      refine s_call hm rfl Try.call42 rfl (gath_Gather_Take.calls _ x_243.n x_243.id x_243.v x_243.l _ _ x_243.come x_243.ready x_243.commit.Kind x_243.commit.From x_243.commit.To x_243.commit.View x_243.commit.Inst x_243.commit.Len x_243.commit.Has x_243.commit.Members x_243.commit.Source x_243.commit.At x_243.commit.Total x_243.commit.Data _ x_243.commit.Hop x_243.commit.Seq x_243.commit.Have _ x_243.commit.Need _ x_243.commit.Index x_243.commit.Entry.Sess x_243.commit.Entry.Seq x_243.commit.Entry.Cmd.Kind x_243.commit.Entry.Cmd.Who x_243.commit.Entry.Cmd.Key _ x_243.commit.Entry.Cmd.Val _ x_243.commit.Entry.Cmd.Old _ x_243.is (⟨2, band .i64 t_272 7, 0, 8, w64 ((band .i64 (shr .i64 t_277 3) 3) * 8), band .i64 (shr .i64 t_282 5) 31, ((band .i64 (shr .i64 t_287 10) 1) == 1), 0, 0, 0, 0, ([] : List UInt8), 0, 0, ([] : List Int), ([] : List Int), 0, (⟨0, 0, (⟨0, 0, ([] : List UInt8), ([] : List UInt8), ([] : List UInt8)⟩ : api_Cmd)⟩ : api_Entry)⟩ : api_Msg) _ _ _ _ _ _ t_295 w0 _ _ N_264 (hS.new_zed [0, 1]) (hS.enter [0, 1] (by decide)) (ho_247.mono le_264) (hr_249.mono le_264) (hr_251.mono le_264) (hr_253.mono le_264) (hr_255.mono le_264) (hr_257.mono le_264) (hr_259.mono le_264) (Rd.nil _ _) (Rd.nil _ _) (Rd.nil _ _) (Rd.nil _ _) (Rd.nil _ _) (Rd.nil _ _) et_295) ?_
      rintro _ w_296 ⟨v_299, v_303, v_305, v_307, v_309, v_311, v_313, N_297, M_301, rfl, hS', hr_300, hr_304, hr_306, hr_308, hr_310, hr_312, hr_314⟩
      clear hm a; intro a hm
      obtain ⟨N_298, hS'', le_298, ln_298⟩ := hS.call [0, 1] (by decide) rfl (l' := [Mem.one g_5 (.cells ([.int .i64 t_295.2.1, .int .i64 t_295.2.2.1, .int .i64 t_295.2.2.2.1, v_299, .int .i64 t_295.2.2.2.2.2.1, .int .i64 t_295.2.2.2.2.2.2.1, .int .i64 t_295.2.2.2.2.2.2.2.1, .int .i64 t_295.2.2.2.2.2.2.2.2.1, .int .i64 t_295.2.2.2.2.2.2.2.2.2.1, .int .i64 t_295.2.2.2.2.2.2.2.2.2.2.1, .int .i64 t_295.2.2.2.2.2.2.2.2.2.2.2.1, .int .i64 t_295.2.2.2.2.2.2.2.2.2.2.2.2.1, .bool t_295.2.2.2.2.2.2.2.2.2.2.2.2.2.1, .int .i64 t_295.2.2.2.2.2.2.2.2.2.2.2.2.2.2.1, .int .i64 t_295.2.2.2.2.2.2.2.2.2.2.2.2.2.2.2.1, .int .i64 t_295.2.2.2.2.2.2.2.2.2.2.2.2.2.2.2.2.1, .int .i64 t_295.2.2.2.2.2.2.2.2.2.2.2.2.2.2.2.2.2.1, v_303, .int .i64 t_295.2.2.2.2.2.2.2.2.2.2.2.2.2.2.2.2.2.2.2.1, .int .i64 t_295.2.2.2.2.2.2.2.2.2.2.2.2.2.2.2.2.2.2.2.2.1, v_305, v_307, .int .i64 t_295.2.2.2.2.2.2.2.2.2.2.2.2.2.2.2.2.2.2.2.2.2.2.2.1, .int .i64 t_295.2.2.2.2.2.2.2.2.2.2.2.2.2.2.2.2.2.2.2.2.2.2.2.2.1, .int .i64 t_295.2.2.2.2.2.2.2.2.2.2.2.2.2.2.2.2.2.2.2.2.2.2.2.2.2.1, .int .i64 t_295.2.2.2.2.2.2.2.2.2.2.2.2.2.2.2.2.2.2.2.2.2.2.2.2.2.2.1, .int .i64 t_295.2.2.2.2.2.2.2.2.2.2.2.2.2.2.2.2.2.2.2.2.2.2.2.2.2.2.2.1, v_309, v_311, v_313, .bool t_295.2.2.2.2.2.2.2.2.2.2.2.2.2.2.2.2.2.2.2.2.2.2.2.2.2.2.2.2.2.2.2] : List Value).toArray 80 (0, 0)), M_301]) (ow := []) rfl hS'
      replace hS : Sep w0 w_296 [N_298, Mem.one g_5 (.cells ([.int .i64 t_295.2.1, .int .i64 t_295.2.2.1, .int .i64 t_295.2.2.2.1, v_299, .int .i64 t_295.2.2.2.2.2.1, .int .i64 t_295.2.2.2.2.2.2.1, .int .i64 t_295.2.2.2.2.2.2.2.1, .int .i64 t_295.2.2.2.2.2.2.2.2.1, .int .i64 t_295.2.2.2.2.2.2.2.2.2.1, .int .i64 t_295.2.2.2.2.2.2.2.2.2.2.1, .int .i64 t_295.2.2.2.2.2.2.2.2.2.2.2.1, .int .i64 t_295.2.2.2.2.2.2.2.2.2.2.2.2.1, .bool t_295.2.2.2.2.2.2.2.2.2.2.2.2.2.1, .int .i64 t_295.2.2.2.2.2.2.2.2.2.2.2.2.2.2.1, .int .i64 t_295.2.2.2.2.2.2.2.2.2.2.2.2.2.2.2.1, .int .i64 t_295.2.2.2.2.2.2.2.2.2.2.2.2.2.2.2.2.1, .int .i64 t_295.2.2.2.2.2.2.2.2.2.2.2.2.2.2.2.2.2.1, v_303, .int .i64 t_295.2.2.2.2.2.2.2.2.2.2.2.2.2.2.2.2.2.2.2.1, .int .i64 t_295.2.2.2.2.2.2.2.2.2.2.2.2.2.2.2.2.2.2.2.2.1, v_305, v_307, .int .i64 t_295.2.2.2.2.2.2.2.2.2.2.2.2.2.2.2.2.2.2.2.2.2.2.2.1, .int .i64 t_295.2.2.2.2.2.2.2.2.2.2.2.2.2.2.2.2.2.2.2.2.2.2.2.2.1, .int .i64 t_295.2.2.2.2.2.2.2.2.2.2.2.2.2.2.2.2.2.2.2.2.2.2.2.2.2.1, .int .i64 t_295.2.2.2.2.2.2.2.2.2.2.2.2.2.2.2.2.2.2.2.2.2.2.2.2.2.2.1, .int .i64 t_295.2.2.2.2.2.2.2.2.2.2.2.2.2.2.2.2.2.2.2.2.2.2.2.2.2.2.2.1, v_309, v_311, v_313, .bool t_295.2.2.2.2.2.2.2.2.2.2.2.2.2.2.2.2.2.2.2.2.2.2.2.2.2.2.2.2.2.2.2] : List Value).toArray 80 (0, 0)), M_301, Mem.one g_293 (.cells ([.int .i64 2, .int .i64 (band .i64 t_272 7), .int .i64 0, .int .i64 8, .int .i64 (w64 ((band .i64 (shr .i64 t_277 3) 3) * 8)), .int .i64 (band .i64 (shr .i64 t_282 5) 31), .bool ((band .i64 (shr .i64 t_287 10) 1) == 1), .int .i64 0, .int .i64 0, .int .i64 0, .int .i64 0, .slice none 0 0, .int .i64 0, .int .i64 0, .slice none 0 0, .slice none 0 0, .int .i64 0, .int .i64 0, .int .i64 0, .int .i64 0, .int .i64 0, .slice none 0 0, .slice none 0 0, .slice none 0 0] : List Value).toArray 29 (0, 0))] Z := hS''
      clear hS' hS''
      refine wpList_nil ?_
      replace hm : Fr 156 a [(0, .int .i64 (w64 ((Int.tmod (band .i64 x0 255) 7) + 1))), (1, p1_0), (2, p2_1), (6, .bool false), (7, .pointer (some ⟨g_5, 0, none⟩)), (8, .int .i64 x_241), (9, .int .i64 x_242), (10, .pointer (some ⟨g_293, 0, none⟩)), (65, .bool t_295.1)] := hm.keep [0, 1, 2, 6, 7, 8, 9, 10, 65]
      refine x_then_n ?_
      by_cases hc_315 : t_295.1 = true
      · rw [if_pos hc_315] at H
        refine c_cond_t hm rfl hc_315 ?_
        refine wp_region_lit ?_
        refine s_move hm rfl rfl ?_
        clear hm a; intro a hm
        refine s_fieldAddr hm rfl Try.underlying29 rfl ti3 rfl rfl ?_
        clear hm a; intro a hm
        refine s_load hm rfl rfl (hS.load_one (p := 3) rfl Try.underlying3 rfl rfl) ?_
        clear hm a; intro a hm
        refine s_conv (wu64 (band .i64 t_272 7)) hm rfl Try.underlying3 Try.underlying38 rfl rfl ?_
        clear hm a; intro a hm
        refine s_shift (r := shl .i64 1 (wu64 (band .i64 t_272 7))) hm rfl rfl rfl (wu64_nn _) (.inl ⟨rfl, rfl⟩) ?_
        clear hm a; intro a hm
        refine s_bits (i := x_241) (j := shl .i64 1 (wu64 (band .i64 t_272 7))) (r := bor .i64 x_241 (shl .i64 1 (wu64 (band .i64 t_272 7)))) hm rfl rfl rfl (.inr (.inl ⟨rfl, rfl⟩)) ?_
        clear hm a; intro a hm
        refine s_assign hm rfl rfl ?_
        clear hm a; intro a hm
        refine wpList_nil ?_
        replace hm : Fr 156 a [(0, .int .i64 (w64 ((Int.tmod (band .i64 x0 255) 7) + 1))), (1, p1_0), (2, p2_1), (6, .bool false), (7, .pointer (some ⟨g_5, 0, none⟩)), (8, .int .i64 (bor .i64 x_241 (shl .i64 1 (wu64 (band .i64 t_272 7))))), (9, .int .i64 x_242)] := hm.keep [0, 1, 2, 6, 7, 8, 9]
        refine x_block_n ?_
        refine x_then_n (hKJ_269 _ _ ?_)
        refine wp_region_lit ?_
        refine s_move hm rfl rfl ?_
        clear hm a; intro a hm
        refine s_arith (r := w64 (x_242 + 1)) hm rfl rfl rfl (.inl ⟨rfl, rfl⟩) ?_
        clear hm a; intro a hm
        refine s_assign hm rfl rfl ?_
        clear hm a; intro a hm
        refine wpList_nil ?_
        replace hm : Fr 156 a [(0, .int .i64 (w64 ((Int.tmod (band .i64 x0 255) 7) + 1))), (1, p1_0), (2, p2_1), (6, .bool false), (7, .pointer (some ⟨g_5, 0, none⟩)), (8, .int .i64 (bor .i64 x_241 (shl .i64 1 (wu64 (band .i64 t_272 7))))), (9, .int .i64 (w64 (x_242 + 1)))] := hm.keep [0, 1, 2, 6, 7, 8, 9]
        refine x_then_n (hKL_260 _ _ ?_)
        replace hS : Sep w0 w_296 [N_298, Mem.one g_5 (.cells ([.int .i64 t_295.2.1, .int .i64 t_295.2.2.1, .int .i64 t_295.2.2.2.1, v_299, .int .i64 t_295.2.2.2.2.2.1, .int .i64 t_295.2.2.2.2.2.2.1, .int .i64 t_295.2.2.2.2.2.2.2.1, .int .i64 t_295.2.2.2.2.2.2.2.2.1, .int .i64 t_295.2.2.2.2.2.2.2.2.2.1, .int .i64 t_295.2.2.2.2.2.2.2.2.2.2.1, .int .i64 t_295.2.2.2.2.2.2.2.2.2.2.2.1, .int .i64 t_295.2.2.2.2.2.2.2.2.2.2.2.2.1, .bool t_295.2.2.2.2.2.2.2.2.2.2.2.2.2.1, .int .i64 t_295.2.2.2.2.2.2.2.2.2.2.2.2.2.2.1, .int .i64 t_295.2.2.2.2.2.2.2.2.2.2.2.2.2.2.2.1, .int .i64 t_295.2.2.2.2.2.2.2.2.2.2.2.2.2.2.2.2.1, .int .i64 t_295.2.2.2.2.2.2.2.2.2.2.2.2.2.2.2.2.2.1, v_303, .int .i64 t_295.2.2.2.2.2.2.2.2.2.2.2.2.2.2.2.2.2.2.2.1, .int .i64 t_295.2.2.2.2.2.2.2.2.2.2.2.2.2.2.2.2.2.2.2.2.1, v_305, v_307, .int .i64 t_295.2.2.2.2.2.2.2.2.2.2.2.2.2.2.2.2.2.2.2.2.2.2.2.1, .int .i64 t_295.2.2.2.2.2.2.2.2.2.2.2.2.2.2.2.2.2.2.2.2.2.2.2.2.1, .int .i64 t_295.2.2.2.2.2.2.2.2.2.2.2.2.2.2.2.2.2.2.2.2.2.2.2.2.2.1, .int .i64 t_295.2.2.2.2.2.2.2.2.2.2.2.2.2.2.2.2.2.2.2.2.2.2.2.2.2.2.1, .int .i64 t_295.2.2.2.2.2.2.2.2.2.2.2.2.2.2.2.2.2.2.2.2.2.2.2.2.2.2.2.1, v_309, v_311, v_313, .bool t_295.2.2.2.2.2.2.2.2.2.2.2.2.2.2.2.2.2.2.2.2.2.2.2.2.2.2.2.2.2.2.2] : List Value).toArray 80 (0, 0)), M_301, Mem.one g_293 (.cells ([.int .i64 2, .int .i64 (band .i64 t_272 7), .int .i64 0, .int .i64 8, .int .i64 (w64 ((band .i64 (shr .i64 t_277 3) 3) * 8)), .int .i64 (band .i64 (shr .i64 t_282 5) 31), .bool ((band .i64 (shr .i64 t_287 10) 1) == 1), .int .i64 0, .int .i64 0, .int .i64 0, .int .i64 0, .slice none 0 0, .int .i64 0, .int .i64 0, .slice none 0 0, .slice none 0 0, .int .i64 0, .int .i64 0, .int .i64 0, .int .i64 0, .int .i64 0, .slice none 0 0, .slice none 0 0, .slice none 0 0] : List Value).toArray 29 (0, 0))] Z := hS
        replace hm : Fr 156 a [(0, .int .i64 (w64 ((Int.tmod (band .i64 x0 255) 7) + 1))), (1, p1_0), (2, p2_1), (6, .bool false), (7, .pointer (some ⟨g_5, 0, none⟩)), (8, .int .i64 (bor .i64 x_241 (shl .i64 1 (wu64 (band .i64 t_272 7))))), (9, .int .i64 (w64 (x_242 + 1)))] := hm.keep [0, 1, 2, 6, 7, 8, 9]
        exact ⟨bor .i64 x_241 (shl .i64 1 (wu64 (band .i64 t_272 7))), w64 (x_242 + 1), (⟨t_295.2.1, t_295.2.2.1, t_295.2.2.2.1, t_295.2.2.2.2.1, t_295.2.2.2.2.2.1, t_295.2.2.2.2.2.2.1, (⟨t_295.2.2.2.2.2.2.2.1, t_295.2.2.2.2.2.2.2.2.1, t_295.2.2.2.2.2.2.2.2.2.1, t_295.2.2.2.2.2.2.2.2.2.2.1, t_295.2.2.2.2.2.2.2.2.2.2.2.1, t_295.2.2.2.2.2.2.2.2.2.2.2.2.1, t_295.2.2.2.2.2.2.2.2.2.2.2.2.2.1, t_295.2.2.2.2.2.2.2.2.2.2.2.2.2.2.1, t_295.2.2.2.2.2.2.2.2.2.2.2.2.2.2.2.1, t_295.2.2.2.2.2.2.2.2.2.2.2.2.2.2.2.2.1, t_295.2.2.2.2.2.2.2.2.2.2.2.2.2.2.2.2.2.1, t_295.2.2.2.2.2.2.2.2.2.2.2.2.2.2.2.2.2.2.1, t_295.2.2.2.2.2.2.2.2.2.2.2.2.2.2.2.2.2.2.2.1, t_295.2.2.2.2.2.2.2.2.2.2.2.2.2.2.2.2.2.2.2.2.1, t_295.2.2.2.2.2.2.2.2.2.2.2.2.2.2.2.2.2.2.2.2.2.1, t_295.2.2.2.2.2.2.2.2.2.2.2.2.2.2.2.2.2.2.2.2.2.2.1, t_295.2.2.2.2.2.2.2.2.2.2.2.2.2.2.2.2.2.2.2.2.2.2.2.1, (⟨t_295.2.2.2.2.2.2.2.2.2.2.2.2.2.2.2.2.2.2.2.2.2.2.2.2.1, t_295.2.2.2.2.2.2.2.2.2.2.2.2.2.2.2.2.2.2.2.2.2.2.2.2.2.1, (⟨t_295.2.2.2.2.2.2.2.2.2.2.2.2.2.2.2.2.2.2.2.2.2.2.2.2.2.2.1, t_295.2.2.2.2.2.2.2.2.2.2.2.2.2.2.2.2.2.2.2.2.2.2.2.2.2.2.2.1, t_295.2.2.2.2.2.2.2.2.2.2.2.2.2.2.2.2.2.2.2.2.2.2.2.2.2.2.2.2.1, t_295.2.2.2.2.2.2.2.2.2.2.2.2.2.2.2.2.2.2.2.2.2.2.2.2.2.2.2.2.2.1, t_295.2.2.2.2.2.2.2.2.2.2.2.2.2.2.2.2.2.2.2.2.2.2.2.2.2.2.2.2.2.2.1⟩ : api_Cmd)⟩ : api_Entry)⟩ : api_Msg), t_295.2.2.2.2.2.2.2.2.2.2.2.2.2.2.2.2.2.2.2.2.2.2.2.2.2.2.2.2.2.2.2⟩ : gath_Gather), v_299, v_303, v_305, v_307, v_309, v_311, v_313, N_298, M_301, H, hm, (Sep.sel hS [0, 1, 2] (by decide)), (le_240.trans (le_264.trans le_298)), ((hr_300.mono (Mem.un_le le_298 ln_298)).mono (Mem.le.refl _)), (hr_304.mono (Mem.un_le le_298 ln_298)), (hr_306.mono (Mem.un_le le_298 ln_298)), (hr_308.mono (Mem.un_le le_298 ln_298)), (hr_310.mono (Mem.un_le le_298 ln_298)), (hr_312.mono (Mem.un_le le_298 ln_298)), (hr_314.mono (Mem.un_le le_298 ln_298))⟩
      · rw [if_neg hc_315] at H
        refine c_cond_f hm rfl (Bool.eq_false_iff.2 hc_315) ?_
        refine wp_skip ?_
        refine x_block_n ?_
        refine x_then_n (hKJ_269 _ _ ?_)
        refine wp_region_lit ?_
        refine s_move hm rfl rfl ?_
        clear hm a; intro a hm
        refine s_arith (r := w64 (x_242 + 1)) hm rfl rfl rfl (.inl ⟨rfl, rfl⟩) ?_
        clear hm a; intro a hm
        refine s_assign hm rfl rfl ?_
        clear hm a; intro a hm
        refine wpList_nil ?_
        replace hm : Fr 156 a [(0, .int .i64 (w64 ((Int.tmod (band .i64 x0 255) 7) + 1))), (1, p1_0), (2, p2_1), (6, .bool false), (7, .pointer (some ⟨g_5, 0, none⟩)), (8, .int .i64 x_241), (9, .int .i64 (w64 (x_242 + 1)))] := hm.keep [0, 1, 2, 6, 7, 8, 9]
        refine x_then_n (hKL_260 _ _ ?_)
        replace hS : Sep w0 w_296 [N_298, Mem.one g_5 (.cells ([.int .i64 t_295.2.1, .int .i64 t_295.2.2.1, .int .i64 t_295.2.2.2.1, v_299, .int .i64 t_295.2.2.2.2.2.1, .int .i64 t_295.2.2.2.2.2.2.1, .int .i64 t_295.2.2.2.2.2.2.2.1, .int .i64 t_295.2.2.2.2.2.2.2.2.1, .int .i64 t_295.2.2.2.2.2.2.2.2.2.1, .int .i64 t_295.2.2.2.2.2.2.2.2.2.2.1, .int .i64 t_295.2.2.2.2.2.2.2.2.2.2.2.1, .int .i64 t_295.2.2.2.2.2.2.2.2.2.2.2.2.1, .bool t_295.2.2.2.2.2.2.2.2.2.2.2.2.2.1, .int .i64 t_295.2.2.2.2.2.2.2.2.2.2.2.2.2.2.1, .int .i64 t_295.2.2.2.2.2.2.2.2.2.2.2.2.2.2.2.1, .int .i64 t_295.2.2.2.2.2.2.2.2.2.2.2.2.2.2.2.2.1, .int .i64 t_295.2.2.2.2.2.2.2.2.2.2.2.2.2.2.2.2.2.1, v_303, .int .i64 t_295.2.2.2.2.2.2.2.2.2.2.2.2.2.2.2.2.2.2.2.1, .int .i64 t_295.2.2.2.2.2.2.2.2.2.2.2.2.2.2.2.2.2.2.2.2.1, v_305, v_307, .int .i64 t_295.2.2.2.2.2.2.2.2.2.2.2.2.2.2.2.2.2.2.2.2.2.2.2.1, .int .i64 t_295.2.2.2.2.2.2.2.2.2.2.2.2.2.2.2.2.2.2.2.2.2.2.2.2.1, .int .i64 t_295.2.2.2.2.2.2.2.2.2.2.2.2.2.2.2.2.2.2.2.2.2.2.2.2.2.1, .int .i64 t_295.2.2.2.2.2.2.2.2.2.2.2.2.2.2.2.2.2.2.2.2.2.2.2.2.2.2.1, .int .i64 t_295.2.2.2.2.2.2.2.2.2.2.2.2.2.2.2.2.2.2.2.2.2.2.2.2.2.2.2.1, v_309, v_311, v_313, .bool t_295.2.2.2.2.2.2.2.2.2.2.2.2.2.2.2.2.2.2.2.2.2.2.2.2.2.2.2.2.2.2.2] : List Value).toArray 80 (0, 0)), M_301, Mem.one g_293 (.cells ([.int .i64 2, .int .i64 (band .i64 t_272 7), .int .i64 0, .int .i64 8, .int .i64 (w64 ((band .i64 (shr .i64 t_277 3) 3) * 8)), .int .i64 (band .i64 (shr .i64 t_282 5) 31), .bool ((band .i64 (shr .i64 t_287 10) 1) == 1), .int .i64 0, .int .i64 0, .int .i64 0, .int .i64 0, .slice none 0 0, .int .i64 0, .int .i64 0, .slice none 0 0, .slice none 0 0, .int .i64 0, .int .i64 0, .int .i64 0, .int .i64 0, .int .i64 0, .slice none 0 0, .slice none 0 0, .slice none 0 0] : List Value).toArray 29 (0, 0))] Z := hS
        replace hm : Fr 156 a [(0, .int .i64 (w64 ((Int.tmod (band .i64 x0 255) 7) + 1))), (1, p1_0), (2, p2_1), (6, .bool false), (7, .pointer (some ⟨g_5, 0, none⟩)), (8, .int .i64 x_241), (9, .int .i64 (w64 (x_242 + 1)))] := hm.keep [0, 1, 2, 6, 7, 8, 9]
        exact ⟨x_241, w64 (x_242 + 1), (⟨t_295.2.1, t_295.2.2.1, t_295.2.2.2.1, t_295.2.2.2.2.1, t_295.2.2.2.2.2.1, t_295.2.2.2.2.2.2.1, (⟨t_295.2.2.2.2.2.2.2.1, t_295.2.2.2.2.2.2.2.2.1, t_295.2.2.2.2.2.2.2.2.2.1, t_295.2.2.2.2.2.2.2.2.2.2.1, t_295.2.2.2.2.2.2.2.2.2.2.2.1, t_295.2.2.2.2.2.2.2.2.2.2.2.2.1, t_295.2.2.2.2.2.2.2.2.2.2.2.2.2.1, t_295.2.2.2.2.2.2.2.2.2.2.2.2.2.2.1, t_295.2.2.2.2.2.2.2.2.2.2.2.2.2.2.2.1, t_295.2.2.2.2.2.2.2.2.2.2.2.2.2.2.2.2.1, t_295.2.2.2.2.2.2.2.2.2.2.2.2.2.2.2.2.2.1, t_295.2.2.2.2.2.2.2.2.2.2.2.2.2.2.2.2.2.2.1, t_295.2.2.2.2.2.2.2.2.2.2.2.2.2.2.2.2.2.2.2.1, t_295.2.2.2.2.2.2.2.2.2.2.2.2.2.2.2.2.2.2.2.2.1, t_295.2.2.2.2.2.2.2.2.2.2.2.2.2.2.2.2.2.2.2.2.2.1, t_295.2.2.2.2.2.2.2.2.2.2.2.2.2.2.2.2.2.2.2.2.2.2.1, t_295.2.2.2.2.2.2.2.2.2.2.2.2.2.2.2.2.2.2.2.2.2.2.2.1, (⟨t_295.2.2.2.2.2.2.2.2.2.2.2.2.2.2.2.2.2.2.2.2.2.2.2.2.1, t_295.2.2.2.2.2.2.2.2.2.2.2.2.2.2.2.2.2.2.2.2.2.2.2.2.2.1, (⟨t_295.2.2.2.2.2.2.2.2.2.2.2.2.2.2.2.2.2.2.2.2.2.2.2.2.2.2.1, t_295.2.2.2.2.2.2.2.2.2.2.2.2.2.2.2.2.2.2.2.2.2.2.2.2.2.2.2.1, t_295.2.2.2.2.2.2.2.2.2.2.2.2.2.2.2.2.2.2.2.2.2.2.2.2.2.2.2.2.1, t_295.2.2.2.2.2.2.2.2.2.2.2.2.2.2.2.2.2.2.2.2.2.2.2.2.2.2.2.2.2.1, t_295.2.2.2.2.2.2.2.2.2.2.2.2.2.2.2.2.2.2.2.2.2.2.2.2.2.2.2.2.2.2.1⟩ : api_Cmd)⟩ : api_Entry)⟩ : api_Msg), t_295.2.2.2.2.2.2.2.2.2.2.2.2.2.2.2.2.2.2.2.2.2.2.2.2.2.2.2.2.2.2.2⟩ : gath_Gather), v_299, v_303, v_305, v_307, v_309, v_311, v_313, N_298, M_301, H, hm, (Sep.sel hS [0, 1, 2] (by decide)), (le_240.trans (le_264.trans le_298)), ((hr_300.mono (Mem.un_le le_298 ln_298)).mono (Mem.le.refl _)), (hr_304.mono (Mem.un_le le_298 ln_298)), (hr_306.mono (Mem.un_le le_298 ln_298)), (hr_308.mono (Mem.un_le le_298 ln_298)), (hr_310.mono (Mem.un_le le_298 ln_298)), (hr_312.mono (Mem.un_le le_298 ln_298)), (hr_314.mono (Mem.un_le le_298 ln_298))⟩
    · rw [if_neg hc_268] at H
      refine c_cond_f hm rfl (Bool.eq_false_iff.2 hc_268) ?_
      refine wp_exit (x_then_x (x_then_x (x_block_t ?_)))
      replace hS : Sep w0 w_266 [N_264, Mem.one g_5 (.cells ([.int .i64 x_243.n, .int .i64 x_243.id, .int .i64 x_243.v, v_246, .int .i64 x_243.come, .int .i64 x_243.ready, .int .i64 x_243.commit.Kind, .int .i64 x_243.commit.From, .int .i64 x_243.commit.To, .int .i64 x_243.commit.View, .int .i64 x_243.commit.Inst, .int .i64 x_243.commit.Len, .bool x_243.commit.Has, .int .i64 x_243.commit.Members, .int .i64 x_243.commit.Source, .int .i64 x_243.commit.At, .int .i64 x_243.commit.Total, v_248, .int .i64 x_243.commit.Hop, .int .i64 x_243.commit.Seq, v_250, v_252, .int .i64 x_243.commit.Index, .int .i64 x_243.commit.Entry.Sess, .int .i64 x_243.commit.Entry.Seq, .int .i64 x_243.commit.Entry.Cmd.Kind, .int .i64 x_243.commit.Entry.Cmd.Who, v_254, v_256, v_258, .bool x_243.is] : List Value).toArray 80 (0, 0)), M_244] Z := hS
      replace hm : Fr 156 a [(0, .int .i64 (w64 ((Int.tmod (band .i64 x0 255) 7) + 1))), (2, p2_1), (6, .bool false), (7, .pointer (some ⟨g_5, 0, none⟩)), (8, .int .i64 x_241)] := hm.keep [0, 2, 6, 7, 8]
      exact x_then_n (hJ_j_44 x_241 x_243 H _ _ ⟨v_246, v_248, v_250, v_252, v_254, v_256, v_258, N_264, M_244, hm, (Sep.sel hS [0, 1, 2] (by decide)), (le_240.trans le_264), (ho_247.mono le_264), (hr_249.mono le_264), (hr_251.mono le_264), (hr_253.mono le_264), (hr_255.mono le_264), (hr_257.mono le_264), (hr_259.mono le_264)⟩)
  clear hKJ_263
  refine wp_region_lit ?_
  refine s_move hm rfl rfl ?_
  clear hm a; intro a hm
  refine s_move hm rfl rfl ?_
  clear hm a; intro a hm
  refine s_len hm rfl Try.underlying23 rfl hp1_0 ?_
  clear hm a; intro a hm
  refine s_cmp (b := decide (x_242 < (x1.length : Int))) hm rfl rfl rfl (.inr (.inr (.inl ⟨rfl, rfl⟩))) ?_
  clear hm a; intro a hm
  refine s_move hm rfl rfl ?_
  clear hm a; intro a hm
  by_cases hc_316 : x_242 < (x1.length : Int)
  · rw [if_pos hc_316] at H
    refine s_on hm rfl rfl (decide_eq_true hc_316) ?_
    refine s_move hm rfl rfl ?_
    clear hm a; intro a hm
    refine s_on hm rfl rfl (decide_eq_true hc_316) ?_
    refine s_cmp (b := decide (x_242 < 10)) hm rfl rfl rfl (.inr (.inr (.inl ⟨rfl, rfl⟩))) ?_
    clear hm a; intro a hm
    refine s_pick_t hm rfl rfl (decide_eq_true hc_316) rfl ?_
    clear hm a; intro a hm
    refine wpList_nil ?_
    replace hm : Fr 156 a [(0, .int .i64 (w64 ((Int.tmod (band .i64 x0 255) 7) + 1))), (1, p1_0), (2, p2_1), (6, .bool false), (7, .pointer (some ⟨g_5, 0, none⟩)), (8, .int .i64 x_241), (9, .int .i64 x_242), (34, .bool (decide (x_242 < 10)))] := hm.keep [0, 1, 2, 6, 7, 8, 9, 34]
    replace hS : Sep w0 w_260 [N_240, Mem.one g_5 (.cells ([.int .i64 x_243.n, .int .i64 x_243.id, .int .i64 x_243.v, v_246, .int .i64 x_243.come, .int .i64 x_243.ready, .int .i64 x_243.commit.Kind, .int .i64 x_243.commit.From, .int .i64 x_243.commit.To, .int .i64 x_243.commit.View, .int .i64 x_243.commit.Inst, .int .i64 x_243.commit.Len, .bool x_243.commit.Has, .int .i64 x_243.commit.Members, .int .i64 x_243.commit.Source, .int .i64 x_243.commit.At, .int .i64 x_243.commit.Total, v_248, .int .i64 x_243.commit.Hop, .int .i64 x_243.commit.Seq, v_250, v_252, .int .i64 x_243.commit.Index, .int .i64 x_243.commit.Entry.Sess, .int .i64 x_243.commit.Entry.Seq, .int .i64 x_243.commit.Entry.Cmd.Kind, .int .i64 x_243.commit.Entry.Cmd.Who, v_254, v_256, v_258, .bool x_243.is] : List Value).toArray 80 (0, 0)), M_244] Z := hS
    replace hm : Fr 156 a [(0, .int .i64 (w64 ((Int.tmod (band .i64 x0 255) 7) + 1))), (1, p1_0), (2, p2_1), (6, .bool false), (7, .pointer (some ⟨g_5, 0, none⟩)), (8, .int .i64 x_241), (9, .int .i64 x_242), (34, .bool (decide (x_242 < 10)))] := hm.keep [0, 1, 2, 6, 7, 8, 9, 34]
    exact x_then_n (hJ_j_267 (decide (x_242 < 10)) H _ _ ⟨N_240, hm, (Sep.sel hS [0, 1, 2] (by decide)), (Mem.le.refl _)⟩)
  · rw [if_neg hc_316] at H
    refine s_off hm rfl rfl rfl (decide_eq_false hc_316) ?_
    clear hm a; intro a hm
    refine s_off hm rfl rfl rfl (decide_eq_false hc_316) ?_
    clear hm a; intro a hm
    refine s_pick_f hm rfl rfl (decide_eq_false hc_316) rfl ?_
    clear hm a; intro a hm
    refine wpList_nil ?_
    replace hm : Fr 156 a [(0, .int .i64 (w64 ((Int.tmod (band .i64 x0 255) 7) + 1))), (1, p1_0), (2, p2_1), (6, .bool false), (7, .pointer (some ⟨g_5, 0, none⟩)), (8, .int .i64 x_241), (9, .int .i64 x_242), (34, .bool false)] := hm.keep [0, 1, 2, 6, 7, 8, 9, 34]
    replace hS : Sep w0 w_260 [N_240, Mem.one g_5 (.cells ([.int .i64 x_243.n, .int .i64 x_243.id, .int .i64 x_243.v, v_246, .int .i64 x_243.come, .int .i64 x_243.ready, .int .i64 x_243.commit.Kind, .int .i64 x_243.commit.From, .int .i64 x_243.commit.To, .int .i64 x_243.commit.View, .int .i64 x_243.commit.Inst, .int .i64 x_243.commit.Len, .bool x_243.commit.Has, .int .i64 x_243.commit.Members, .int .i64 x_243.commit.Source, .int .i64 x_243.commit.At, .int .i64 x_243.commit.Total, v_248, .int .i64 x_243.commit.Hop, .int .i64 x_243.commit.Seq, v_250, v_252, .int .i64 x_243.commit.Index, .int .i64 x_243.commit.Entry.Sess, .int .i64 x_243.commit.Entry.Seq, .int .i64 x_243.commit.Entry.Cmd.Kind, .int .i64 x_243.commit.Entry.Cmd.Who, v_254, v_256, v_258, .bool x_243.is] : List Value).toArray 80 (0, 0)), M_244] Z := hS
    replace hm : Fr 156 a [(0, .int .i64 (w64 ((Int.tmod (band .i64 x0 255) 7) + 1))), (1, p1_0), (2, p2_1), (6, .bool false), (7, .pointer (some ⟨g_5, 0, none⟩)), (8, .int .i64 x_241), (9, .int .i64 x_242), (34, .bool false)] := hm.keep [0, 1, 2, 6, 7, 8, 9, 34]
    exact x_then_n (hJ_j_267 false H _ _ ⟨N_240, hm, (Sep.sel hS [0, 1, 2] (by decide)), (Mem.le.refl _)⟩)
end Go.Proofs
