/- What the calls do: each function once. -/
import Derived.Test.YtabedbggldnkhaaGathReadyc3
namespace Go.Proofs
open Go.Gp
set_option linter.unusedVariables false
set_option maxHeartbeats 4000000 in
set_option maxRecDepth 20000 in
theorem hocketlaw18_GathReady.calls (K : Nat) (x0 : Int) (x1 : List Int) (p1_0 : Value) (r : Unit) (w0 w : World) (Z A : Mem) (hA : A.le Z) (hS : Sep w0 w [] Z) (hp1_0 : Rd (Kd.int .i64) A p1_0 x1)
    (H : hocketlaw18_GathReady.f K x0 x1 = some r) :
    Calls Try.prog 11 [.int .i64 x0, p1_0].toArray w (Ret fun v w' => ∃ (N : Mem), v = .bool true ∧ Sep w0 w' [N] Z) := by
  unfold hocketlaw18_GathReady.f at H
  refine f_enter _ Try.func11 rfl Try.ntmps11 rfl fun a hm => ?_
  replace hm : Fr 120 a [(0, .int .i64 x0), (1, p1_0)] := hm
  replace hS := hS.start
  replace hS : Sep w0 w [Mem.no] Z := hS
  refine wp_seq ?_
  refine wp_region_lit ?_
  refine s_assign hm rfl rfl ?_
  clear hm a; intro a hm
  refine wpList_nil ?_
  replace hm : Fr 120 a [(0, .int .i64 x0), (1, p1_0), (4, .bool false)] := hm.keep [0, 1, 4]
  refine x_then_n ?_
  refine wp_seq ?_
  refine wp_region_lit ?_
  refine s_move hm rfl rfl ?_
  clear hm a; intro a hm
  refine s_bits (i := x0) (j := 255) (r := band .i64 x0 255) hm rfl rfl rfl (.inl ⟨rfl, rfl⟩) ?_
  clear hm a; intro a hm
  refine s_div (r := Int.tmod (band .i64 x0 255) 7) hm rfl rfl rfl (by decide) (.inr ⟨rfl, rfl⟩) ?_
  clear hm a; intro a hm
  refine s_arith (r := w64 ((Int.tmod (band .i64 x0 255) 7) + 1)) hm rfl rfl rfl (.inl ⟨rfl, rfl⟩) ?_
  clear hm a; intro a hm
  refine s_assign hm rfl rfl ?_
  clear hm a; intro a hm
  refine wpList_nil ?_
  replace hm : Fr 120 a [(0, .int .i64 (w64 ((Int.tmod (band .i64 x0 255) 7) + 1))), (1, p1_0), (4, .bool false)] := hm.keep [0, 1, 4]
  refine x_then_n ?_
  refine wp_seq ?_
  refine wp_region_lit ?_
  refine s_move hm rfl rfl ?_
  clear hm a; intro a hm
  refine s_build hm rfl ti29 pl29 rfl (.cons rfl (.cons rfl (.cons rfl .nil))) (cs := [.int .i64 2, .int .i64 0, .int .i64 0, .int .i64 8, .int .i64 0, .int .i64 0, .bool true, .int .i64 0, .int .i64 0, .int .i64 0, .int .i64 0, .slice none 0 0, .int .i64 0, .int .i64 0, .slice none 0 0, .slice none 0 0, .int .i64 0, .int .i64 0, .int .i64 0, .int .i64 0, .int .i64 0, .slice none 0 0, .slice none 0 0, .slice none 0 0]) rfl ?_
  clear hm a; intro a hm
  obtain ⟨t_1, et_1, H⟩ := Option.bind_eq_some_iff.1 H
  refine s_call hm rfl Try.call41 rfl (gath_New.calls (w64 ((Int.tmod (band .i64 x0 255) 7) + 1)) 0 8 (⟨2, 0, 0, 8, 0, 0, true, 0, 0, 0, 0, ([] : List UInt8), 0, 0, ([] : List Int), ([] : List Int), 0, (⟨0, 0, (⟨0, 0, ([] : List UInt8), ([] : List UInt8), ([] : List UInt8)⟩ : api_Cmd)⟩ : api_Entry)⟩ : api_Msg) _ _ _ _ _ _ t_1 w0 _ _ Mem.no (hS.new_zed []) (hS.enter [] (by decide)) (Rd.nil _ _) (Rd.nil _ _) (Rd.nil _ _) (Rd.nil _ _) (Rd.nil _ _) (Rd.nil _ _) et_1) ?_
  rintro _ w_2 ⟨g_5, v_6, v_10, v_12, v_14, v_16, v_18, v_20, N_3, M_8, rfl, hS', hr_7, hr_11, hr_13, hr_15, hr_17, hr_19, hr_21⟩
  clear hm a; intro a hm
  obtain ⟨N_4, hS'', le_4, ln_4⟩ := hS.call [] (by decide) rfl (l' := []) (ow := [Mem.one g_5 (.cells ([.int .i64 t_1.1, .int .i64 t_1.2.1, .int .i64 t_1.2.2.1, v_6, .int .i64 t_1.2.2.2.2.1, .int .i64 t_1.2.2.2.2.2.1, .int .i64 t_1.2.2.2.2.2.2.1, .int .i64 t_1.2.2.2.2.2.2.2.1, .int .i64 t_1.2.2.2.2.2.2.2.2.1, .int .i64 t_1.2.2.2.2.2.2.2.2.2.1, .int .i64 t_1.2.2.2.2.2.2.2.2.2.2.1, .int .i64 t_1.2.2.2.2.2.2.2.2.2.2.2.1, .bool t_1.2.2.2.2.2.2.2.2.2.2.2.2.1, .int .i64 t_1.2.2.2.2.2.2.2.2.2.2.2.2.2.1, .int .i64 t_1.2.2.2.2.2.2.2.2.2.2.2.2.2.2.1, .int .i64 t_1.2.2.2.2.2.2.2.2.2.2.2.2.2.2.2.1, .int .i64 t_1.2.2.2.2.2.2.2.2.2.2.2.2.2.2.2.2.1, v_10, .int .i64 t_1.2.2.2.2.2.2.2.2.2.2.2.2.2.2.2.2.2.2.1, .int .i64 t_1.2.2.2.2.2.2.2.2.2.2.2.2.2.2.2.2.2.2.2.1, v_12, v_14, .int .i64 t_1.2.2.2.2.2.2.2.2.2.2.2.2.2.2.2.2.2.2.2.2.2.2.1, .int .i64 t_1.2.2.2.2.2.2.2.2.2.2.2.2.2.2.2.2.2.2.2.2.2.2.2.1, .int .i64 t_1.2.2.2.2.2.2.2.2.2.2.2.2.2.2.2.2.2.2.2.2.2.2.2.2.1, .int .i64 t_1.2.2.2.2.2.2.2.2.2.2.2.2.2.2.2.2.2.2.2.2.2.2.2.2.2.1, .int .i64 t_1.2.2.2.2.2.2.2.2.2.2.2.2.2.2.2.2.2.2.2.2.2.2.2.2.2.2.1, v_16, v_18, v_20, .bool t_1.2.2.2.2.2.2.2.2.2.2.2.2.2.2.2.2.2.2.2.2.2.2.2.2.2.2.2.2.2.2] : List Value).toArray 80 (0, 0)), M_8]) rfl hS'
  replace hS : Sep w0 w_2 [N_4, Mem.one g_5 (.cells ([.int .i64 t_1.1, .int .i64 t_1.2.1, .int .i64 t_1.2.2.1, v_6, .int .i64 t_1.2.2.2.2.1, .int .i64 t_1.2.2.2.2.2.1, .int .i64 t_1.2.2.2.2.2.2.1, .int .i64 t_1.2.2.2.2.2.2.2.1, .int .i64 t_1.2.2.2.2.2.2.2.2.1, .int .i64 t_1.2.2.2.2.2.2.2.2.2.1, .int .i64 t_1.2.2.2.2.2.2.2.2.2.2.1, .int .i64 t_1.2.2.2.2.2.2.2.2.2.2.2.1, .bool t_1.2.2.2.2.2.2.2.2.2.2.2.2.1, .int .i64 t_1.2.2.2.2.2.2.2.2.2.2.2.2.2.1, .int .i64 t_1.2.2.2.2.2.2.2.2.2.2.2.2.2.2.1, .int .i64 t_1.2.2.2.2.2.2.2.2.2.2.2.2.2.2.2.1, .int .i64 t_1.2.2.2.2.2.2.2.2.2.2.2.2.2.2.2.2.1, v_10, .int .i64 t_1.2.2.2.2.2.2.2.2.2.2.2.2.2.2.2.2.2.2.1, .int .i64 t_1.2.2.2.2.2.2.2.2.2.2.2.2.2.2.2.2.2.2.2.1, v_12, v_14, .int .i64 t_1.2.2.2.2.2.2.2.2.2.2.2.2.2.2.2.2.2.2.2.2.2.2.1, .int .i64 t_1.2.2.2.2.2.2.2.2.2.2.2.2.2.2.2.2.2.2.2.2.2.2.2.1, .int .i64 t_1.2.2.2.2.2.2.2.2.2.2.2.2.2.2.2.2.2.2.2.2.2.2.2.2.1, .int .i64 t_1.2.2.2.2.2.2.2.2.2.2.2.2.2.2.2.2.2.2.2.2.2.2.2.2.2.1, .int .i64 t_1.2.2.2.2.2.2.2.2.2.2.2.2.2.2.2.2.2.2.2.2.2.2.2.2.2.2.1, v_16, v_18, v_20, .bool t_1.2.2.2.2.2.2.2.2.2.2.2.2.2.2.2.2.2.2.2.2.2.2.2.2.2.2.2.2.2.2] : List Value).toArray 80 (0, 0)), M_8] Z := hS''
  clear hS' hS''
  refine s_assign hm rfl rfl ?_
  clear hm a; intro a hm
  refine wpList_nil ?_
  replace hm : Fr 120 a [(0, .int .i64 (w64 ((Int.tmod (band .i64 x0 255) 7) + 1))), (1, p1_0), (4, .bool false), (5, .pointer (some ⟨g_5, 0, none⟩))] := hm.keep [0, 1, 4, 5]
  refine x_then_n ?_
  refine c_seq fun KJ_22 hKJ_22 => ?_
  refine wp_seq ?_
  refine wp_region_lit ?_
  refine s_move hm rfl rfl ?_
  clear hm a; intro a hm
  refine s_ptrNil (b := false) hm rfl Try.underlying59 rfl (.inl ⟨rfl, rfl⟩) ?_
  clear hm a; intro a hm
  refine wpList_nil ?_
  replace hm : Fr 120 a [(0, .int .i64 (w64 ((Int.tmod (band .i64 x0 255) 7) + 1))), (1, p1_0), (4, .bool false), (5, .pointer (some ⟨g_5, 0, none⟩)), (21, .bool false)] := hm.keep [0, 1, 4, 5, 21]
  refine x_then_n ?_
  refine c_cond_f hm rfl rfl ?_
  refine wp_skip ?_
  refine x_then_n (hKJ_22 _ _ ?_)
  refine c_seq fun KJ_23 hKJ_23 => ?_
  refine wp_seq ?_
  refine wp_region_lit ?_
  refine s_assign hm rfl rfl ?_
  clear hm a; intro a hm
  refine wpList_nil ?_
  replace hm : Fr 120 a [(0, .int .i64 (w64 ((Int.tmod (band .i64 x0 255) 7) + 1))), (1, p1_0), (4, .bool false), (5, .pointer (some ⟨g_5, 0, none⟩)), (6, .int .i64 1)] := hm.keep [0, 1, 4, 5, 6]
  refine x_then_n ?_
  have hJ_j_43 : ∀ (x_25 : gath_Gather), hocketlaw18_GathReady.J1 K x0 x1 x_25 = some r → ∀ (a : Act) (w_42 : World), (∃ (v_28 : Value) (v_30 : Value) (v_32 : Value) (v_34 : Value) (v_36 : Value) (v_38 : Value) (v_40 : Value) (N_24 : Mem) (M_26 : Mem), Fr 120 a [(0, .int .i64 (w64 ((Int.tmod (band .i64 x0 255) 7) + 1))), (1, p1_0), (4, .bool false), (5, .pointer (some ⟨g_5, 0, none⟩))] ∧ Sep w0 w_42 [N_24, Mem.one g_5 (.cells ([.int .i64 x_25.n, .int .i64 x_25.id, .int .i64 x_25.v, v_28, .int .i64 x_25.come, .int .i64 x_25.ready, .int .i64 x_25.commit.Kind, .int .i64 x_25.commit.From, .int .i64 x_25.commit.To, .int .i64 x_25.commit.View, .int .i64 x_25.commit.Inst, .int .i64 x_25.commit.Len, .bool x_25.commit.Has, .int .i64 x_25.commit.Members, .int .i64 x_25.commit.Source, .int .i64 x_25.commit.At, .int .i64 x_25.commit.Total, v_30, .int .i64 x_25.commit.Hop, .int .i64 x_25.commit.Seq, v_32, v_34, .int .i64 x_25.commit.Index, .int .i64 x_25.commit.Entry.Sess, .int .i64 x_25.commit.Entry.Seq, .int .i64 x_25.commit.Entry.Cmd.Kind, .int .i64 x_25.commit.Entry.Cmd.Who, v_36, v_38, v_40, .bool x_25.is] : List Value).toArray 80 (0, 0)), M_26] Z ∧ N_4.le N_24 ∧ Own k_api_Msg 29 M_26 N_24 v_28 x_25.l ∧ Rd Kd.u8 N_24 v_30 x_25.commit.Data ∧ Rd (Kd.int .i64) N_24 v_32 x_25.commit.Have ∧ Rd (Kd.int .i64) N_24 v_34 x_25.commit.Need ∧ Rd Kd.u8 N_24 v_36 x_25.commit.Entry.Cmd.Key ∧ Rd Kd.u8 N_24 v_38 x_25.commit.Entry.Cmd.Val ∧ Rd Kd.u8 N_24 v_40 x_25.commit.Entry.Cmd.Old) → KJ_23 a w_42 := by
    clear H hm hS a
    rintro x_25 H a w_42 ⟨v_28, v_30, v_32, v_34, v_36, v_38, v_40, N_24, M_26, hm, hS, le_24, ho_29, hr_31, hr_33, hr_35, hr_37, hr_39, hr_41⟩
    unfold hocketlaw18_GathReady.J1 at H
    refine hKJ_23 _ _ ?_
    refine wp_seq ?_
    refine wp_region_lit ?_
    refine s_move hm rfl rfl ?_
    clear hm a; intro a hm
    obtain ⟨t_44, et_44, H⟩ := Option.bind_eq_some_iff.1 H
    refine s_call hm rfl Try.call45 rfl (gath_Gather_Commit.calls K _ x_25.n x_25.id x_25.v x_25.l _ _ x_25.come x_25.ready x_25.commit.Kind x_25.commit.From x_25.commit.To x_25.commit.View x_25.commit.Inst x_25.commit.Len x_25.commit.Has x_25.commit.Members x_25.commit.Source x_25.commit.At x_25.commit.Total x_25.commit.Data _ x_25.commit.Hop x_25.commit.Seq x_25.commit.Have _ x_25.commit.Need _ x_25.commit.Index x_25.commit.Entry.Sess x_25.commit.Entry.Seq x_25.commit.Entry.Cmd.Kind x_25.commit.Entry.Cmd.Who x_25.commit.Entry.Cmd.Key _ x_25.commit.Entry.Cmd.Val _ x_25.commit.Entry.Cmd.Old _ x_25.is t_44 w0 _ _ N_24 (hS.new_zed [0, 1]) (hS.enter [0, 1] (by decide)) (ho_29.mono (Mem.le.refl _)) hr_31 hr_33 hr_35 hr_37 hr_39 hr_41 et_44) ?_
    rintro _ w_45 ⟨v_48, v_50, v_52, v_54, v_56, v_58, v_60, v_64, v_66, v_68, v_70, v_72, v_74, N_46, M_62, rfl, hS', hr_49, hr_51, hr_53, hr_55, hr_57, hr_59, hr_61, hr_65, hr_67, hr_69, hr_71, hr_73, hr_75⟩
    clear hm a; intro a hm
    obtain ⟨N_47, hS'', le_47, ln_47⟩ := hS.call [0, 1] (by decide) rfl (l' := [Mem.one g_5 (.cells ([.int .i64 t_44.2.2.1, .int .i64 t_44.2.2.2.1, .int .i64 t_44.2.2.2.2.1, v_60, .int .i64 t_44.2.2.2.2.2.2.1, .int .i64 t_44.2.2.2.2.2.2.2.1, .int .i64 t_44.2.2.2.2.2.2.2.2.1, .int .i64 t_44.2.2.2.2.2.2.2.2.2.1, .int .i64 t_44.2.2.2.2.2.2.2.2.2.2.1, .int .i64 t_44.2.2.2.2.2.2.2.2.2.2.2.1, .int .i64 t_44.2.2.2.2.2.2.2.2.2.2.2.2.1, .int .i64 t_44.2.2.2.2.2.2.2.2.2.2.2.2.2.1, .bool t_44.2.2.2.2.2.2.2.2.2.2.2.2.2.2.1, .int .i64 t_44.2.2.2.2.2.2.2.2.2.2.2.2.2.2.2.1, .int .i64 t_44.2.2.2.2.2.2.2.2.2.2.2.2.2.2.2.2.1, .int .i64 t_44.2.2.2.2.2.2.2.2.2.2.2.2.2.2.2.2.2.1, .int .i64 t_44.2.2.2.2.2.2.2.2.2.2.2.2.2.2.2.2.2.2.1, v_64, .int .i64 t_44.2.2.2.2.2.2.2.2.2.2.2.2.2.2.2.2.2.2.2.2.1, .int .i64 t_44.2.2.2.2.2.2.2.2.2.2.2.2.2.2.2.2.2.2.2.2.2.1, v_66, v_68, .int .i64 t_44.2.2.2.2.2.2.2.2.2.2.2.2.2.2.2.2.2.2.2.2.2.2.2.2.1, .int .i64 t_44.2.2.2.2.2.2.2.2.2.2.2.2.2.2.2.2.2.2.2.2.2.2.2.2.2.1, .int .i64 t_44.2.2.2.2.2.2.2.2.2.2.2.2.2.2.2.2.2.2.2.2.2.2.2.2.2.2.1, .int .i64 t_44.2.2.2.2.2.2.2.2.2.2.2.2.2.2.2.2.2.2.2.2.2.2.2.2.2.2.2.1, .int .i64 t_44.2.2.2.2.2.2.2.2.2.2.2.2.2.2.2.2.2.2.2.2.2.2.2.2.2.2.2.2.1, v_70, v_72, v_74, .bool t_44.2.2.2.2.2.2.2.2.2.2.2.2.2.2.2.2.2.2.2.2.2.2.2.2.2.2.2.2.2.2.2.2] : List Value).toArray 80 (0, 0)), M_62]) (ow := []) rfl hS'
    replace hS : Sep w0 w_45 [N_47, Mem.one g_5 (.cells ([.int .i64 t_44.2.2.1, .int .i64 t_44.2.2.2.1, .int .i64 t_44.2.2.2.2.1, v_60, .int .i64 t_44.2.2.2.2.2.2.1, .int .i64 t_44.2.2.2.2.2.2.2.1, .int .i64 t_44.2.2.2.2.2.2.2.2.1, .int .i64 t_44.2.2.2.2.2.2.2.2.2.1, .int .i64 t_44.2.2.2.2.2.2.2.2.2.2.1, .int .i64 t_44.2.2.2.2.2.2.2.2.2.2.2.1, .int .i64 t_44.2.2.2.2.2.2.2.2.2.2.2.2.1, .int .i64 t_44.2.2.2.2.2.2.2.2.2.2.2.2.2.1, .bool t_44.2.2.2.2.2.2.2.2.2.2.2.2.2.2.1, .int .i64 t_44.2.2.2.2.2.2.2.2.2.2.2.2.2.2.2.1, .int .i64 t_44.2.2.2.2.2.2.2.2.2.2.2.2.2.2.2.2.1, .int .i64 t_44.2.2.2.2.2.2.2.2.2.2.2.2.2.2.2.2.2.1, .int .i64 t_44.2.2.2.2.2.2.2.2.2.2.2.2.2.2.2.2.2.2.1, v_64, .int .i64 t_44.2.2.2.2.2.2.2.2.2.2.2.2.2.2.2.2.2.2.2.2.1, .int .i64 t_44.2.2.2.2.2.2.2.2.2.2.2.2.2.2.2.2.2.2.2.2.2.1, v_66, v_68, .int .i64 t_44.2.2.2.2.2.2.2.2.2.2.2.2.2.2.2.2.2.2.2.2.2.2.2.2.1, .int .i64 t_44.2.2.2.2.2.2.2.2.2.2.2.2.2.2.2.2.2.2.2.2.2.2.2.2.2.1, .int .i64 t_44.2.2.2.2.2.2.2.2.2.2.2.2.2.2.2.2.2.2.2.2.2.2.2.2.2.2.1, .int .i64 t_44.2.2.2.2.2.2.2.2.2.2.2.2.2.2.2.2.2.2.2.2.2.2.2.2.2.2.2.1, .int .i64 t_44.2.2.2.2.2.2.2.2.2.2.2.2.2.2.2.2.2.2.2.2.2.2.2.2.2.2.2.2.1, v_70, v_72, v_74, .bool t_44.2.2.2.2.2.2.2.2.2.2.2.2.2.2.2.2.2.2.2.2.2.2.2.2.2.2.2.2.2.2.2.2] : List Value).toArray 80 (0, 0)), M_62] Z := hS''
    clear hS' hS''
    refine s_move hm rfl rfl ?_
    clear hm a; intro a hm
    refine s_extract hm rfl rfl rfl ?_
    clear hm a; intro a hm
    refine s_extract hm rfl rfl rfl ?_
    clear hm a; intro a hm
    refine v_alloc hm rfl ti29 hS ?_
    intro w_76 g_77 hS'
    clear hm a; intro a hm
    replace hS : Sep w0 w_76 [N_47, Mem.one g_5 (.cells ([.int .i64 t_44.2.2.1, .int .i64 t_44.2.2.2.1, .int .i64 t_44.2.2.2.2.1, v_60, .int .i64 t_44.2.2.2.2.2.2.1, .int .i64 t_44.2.2.2.2.2.2.2.1, .int .i64 t_44.2.2.2.2.2.2.2.2.1, .int .i64 t_44.2.2.2.2.2.2.2.2.2.1, .int .i64 t_44.2.2.2.2.2.2.2.2.2.2.1, .int .i64 t_44.2.2.2.2.2.2.2.2.2.2.2.1, .int .i64 t_44.2.2.2.2.2.2.2.2.2.2.2.2.1, .int .i64 t_44.2.2.2.2.2.2.2.2.2.2.2.2.2.1, .bool t_44.2.2.2.2.2.2.2.2.2.2.2.2.2.2.1, .int .i64 t_44.2.2.2.2.2.2.2.2.2.2.2.2.2.2.2.1, .int .i64 t_44.2.2.2.2.2.2.2.2.2.2.2.2.2.2.2.2.1, .int .i64 t_44.2.2.2.2.2.2.2.2.2.2.2.2.2.2.2.2.2.1, .int .i64 t_44.2.2.2.2.2.2.2.2.2.2.2.2.2.2.2.2.2.2.1, v_64, .int .i64 t_44.2.2.2.2.2.2.2.2.2.2.2.2.2.2.2.2.2.2.2.2.1, .int .i64 t_44.2.2.2.2.2.2.2.2.2.2.2.2.2.2.2.2.2.2.2.2.2.1, v_66, v_68, .int .i64 t_44.2.2.2.2.2.2.2.2.2.2.2.2.2.2.2.2.2.2.2.2.2.2.2.2.1, .int .i64 t_44.2.2.2.2.2.2.2.2.2.2.2.2.2.2.2.2.2.2.2.2.2.2.2.2.2.1, .int .i64 t_44.2.2.2.2.2.2.2.2.2.2.2.2.2.2.2.2.2.2.2.2.2.2.2.2.2.2.1, .int .i64 t_44.2.2.2.2.2.2.2.2.2.2.2.2.2.2.2.2.2.2.2.2.2.2.2.2.2.2.2.1, .int .i64 t_44.2.2.2.2.2.2.2.2.2.2.2.2.2.2.2.2.2.2.2.2.2.2.2.2.2.2.2.2.1, v_70, v_72, v_74, .bool t_44.2.2.2.2.2.2.2.2.2.2.2.2.2.2.2.2.2.2.2.2.2.2.2.2.2.2.2.2.2.2.2.2] : List Value).toArray 80 (0, 0)), M_62, Mem.one g_77 (.cells ([.int .i64 0, .int .i64 0, .int .i64 0, .int .i64 0, .int .i64 0, .int .i64 0, .bool false, .int .i64 0, .int .i64 0, .int .i64 0, .int .i64 0, .slice none 0 0, .int .i64 0, .int .i64 0, .slice none 0 0, .slice none 0 0, .int .i64 0, .int .i64 0, .int .i64 0, .int .i64 0, .int .i64 0, .slice none 0 0, .slice none 0 0, .slice none 0 0] : List Value).toArray 29 (0, 0))] Z := hS'
    clear hS'
    obtain ⟨w_78, hs', hS'⟩ := hS.store (P := Try.prog) (p := 3) (o := 0) (t := 29) (v := .agg ([.int .i64 t_44.1.Kind, .int .i64 t_44.1.From, .int .i64 t_44.1.To, .int .i64 t_44.1.View, .int .i64 t_44.1.Inst, .int .i64 t_44.1.Len, .bool t_44.1.Has, .int .i64 t_44.1.Members, .int .i64 t_44.1.Source, .int .i64 t_44.1.At, .int .i64 t_44.1.Total, v_48, .int .i64 t_44.1.Hop, .int .i64 t_44.1.Seq, v_50, v_52, .int .i64 t_44.1.Index, .int .i64 t_44.1.Entry.Sess, .int .i64 t_44.1.Entry.Seq, .int .i64 t_44.1.Entry.Cmd.Kind, .int .i64 t_44.1.Entry.Cmd.Who, v_54, v_56, v_58] : List Value).toArray) (vs := [.int .i64 t_44.1.Kind, .int .i64 t_44.1.From, .int .i64 t_44.1.To, .int .i64 t_44.1.View, .int .i64 t_44.1.Inst, .int .i64 t_44.1.Len, .bool t_44.1.Has, .int .i64 t_44.1.Members, .int .i64 t_44.1.Source, .int .i64 t_44.1.At, .int .i64 t_44.1.Total, v_48, .int .i64 t_44.1.Hop, .int .i64 t_44.1.Seq, v_50, v_52, .int .i64 t_44.1.Index, .int .i64 t_44.1.Entry.Sess, .int .i64 t_44.1.Entry.Seq, .int .i64 t_44.1.Entry.Cmd.Kind, .int .i64 t_44.1.Entry.Cmd.Who, v_54, v_56, v_58]) rfl ti29 rfl rfl rfl (by intro u hu; simp only [List.mem_cons, List.not_mem_nil, or_false] at hu; rcases hu with rfl | rfl | rfl | rfl | rfl | rfl | rfl | rfl | rfl | rfl | rfl | rfl | rfl | rfl | rfl | rfl | rfl | rfl | rfl | rfl | rfl | rfl | rfl | rfl <;> first | rfl | exact (hr_49.mono (Mem.un_le le_47 ln_47)).one | exact (hr_51.mono (Mem.un_le le_47 ln_47)).one | exact (hr_53.mono (Mem.un_le le_47 ln_47)).one | exact (hr_55.mono (Mem.un_le le_47 ln_47)).one | exact (hr_57.mono (Mem.un_le le_47 ln_47)).one | exact (hr_59.mono (Mem.un_le le_47 ln_47)).one)
    refine s_store hm rfl rfl hs' ?_
    replace hS : Sep w0 w_78 [N_47, Mem.one g_5 (.cells ([.int .i64 t_44.2.2.1, .int .i64 t_44.2.2.2.1, .int .i64 t_44.2.2.2.2.1, v_60, .int .i64 t_44.2.2.2.2.2.2.1, .int .i64 t_44.2.2.2.2.2.2.2.1, .int .i64 t_44.2.2.2.2.2.2.2.2.1, .int .i64 t_44.2.2.2.2.2.2.2.2.2.1, .int .i64 t_44.2.2.2.2.2.2.2.2.2.2.1, .int .i64 t_44.2.2.2.2.2.2.2.2.2.2.2.1, .int .i64 t_44.2.2.2.2.2.2.2.2.2.2.2.2.1, .int .i64 t_44.2.2.2.2.2.2.2.2.2.2.2.2.2.1, .bool t_44.2.2.2.2.2.2.2.2.2.2.2.2.2.2.1, .int .i64 t_44.2.2.2.2.2.2.2.2.2.2.2.2.2.2.2.1, .int .i64 t_44.2.2.2.2.2.2.2.2.2.2.2.2.2.2.2.2.1, .int .i64 t_44.2.2.2.2.2.2.2.2.2.2.2.2.2.2.2.2.2.1, .int .i64 t_44.2.2.2.2.2.2.2.2.2.2.2.2.2.2.2.2.2.2.1, v_64, .int .i64 t_44.2.2.2.2.2.2.2.2.2.2.2.2.2.2.2.2.2.2.2.2.1, .int .i64 t_44.2.2.2.2.2.2.2.2.2.2.2.2.2.2.2.2.2.2.2.2.2.1, v_66, v_68, .int .i64 t_44.2.2.2.2.2.2.2.2.2.2.2.2.2.2.2.2.2.2.2.2.2.2.2.2.1, .int .i64 t_44.2.2.2.2.2.2.2.2.2.2.2.2.2.2.2.2.2.2.2.2.2.2.2.2.2.1, .int .i64 t_44.2.2.2.2.2.2.2.2.2.2.2.2.2.2.2.2.2.2.2.2.2.2.2.2.2.2.1, .int .i64 t_44.2.2.2.2.2.2.2.2.2.2.2.2.2.2.2.2.2.2.2.2.2.2.2.2.2.2.2.1, .int .i64 t_44.2.2.2.2.2.2.2.2.2.2.2.2.2.2.2.2.2.2.2.2.2.2.2.2.2.2.2.2.1, v_70, v_72, v_74, .bool t_44.2.2.2.2.2.2.2.2.2.2.2.2.2.2.2.2.2.2.2.2.2.2.2.2.2.2.2.2.2.2.2.2] : List Value).toArray 80 (0, 0)), M_62, Mem.one g_77 (.cells ([.int .i64 t_44.1.Kind, .int .i64 t_44.1.From, .int .i64 t_44.1.To, .int .i64 t_44.1.View, .int .i64 t_44.1.Inst, .int .i64 t_44.1.Len, .bool t_44.1.Has, .int .i64 t_44.1.Members, .int .i64 t_44.1.Source, .int .i64 t_44.1.At, .int .i64 t_44.1.Total, v_48, .int .i64 t_44.1.Hop, .int .i64 t_44.1.Seq, v_50, v_52, .int .i64 t_44.1.Index, .int .i64 t_44.1.Entry.Sess, .int .i64 t_44.1.Entry.Seq, .int .i64 t_44.1.Entry.Cmd.Kind, .int .i64 t_44.1.Entry.Cmd.Who, v_54, v_56, v_58] : List Value).toArray 29 (0, 0))] Z := hS'
    clear hs' hS'
    refine s_assign hm rfl rfl ?_
    clear hm a; intro a hm
    refine wpList_nil ?_
    replace hm : Fr 120 a [(0, .int .i64 (w64 ((Int.tmod (band .i64 x0 255) 7) + 1))), (1, p1_0), (4, .bool false), (5, .pointer (some ⟨g_5, 0, none⟩)), (7, .pointer (some ⟨g_77, 0, none⟩)), (8, .bool t_44.2.1)] := hm.keep [0, 1, 4, 5, 7, 8]
    refine x_then_n ?_
    refine c_seq fun KJ_79 hKJ_79 => ?_
    refine c_seq fun KJ_80 hKJ_80 => ?_
    have hJ_j_84 : ∀ (x_82 : Bool), hocketlaw18_GathReady.J2 K x1 x0 t_44 x_82 = some r → ∀ (a : Act) (w_83 : World), (∃ (N_81 : Mem), Fr 120 a [(0, .int .i64 (w64 ((Int.tmod (band .i64 x0 255) 7) + 1))), (1, p1_0), (4, .bool false), (5, .pointer (some ⟨g_5, 0, none⟩)), (7, .pointer (some ⟨g_77, 0, none⟩)), (57, .bool x_82)] ∧ Sep w0 w_83 [N_81, Mem.one g_5 (.cells ([.int .i64 t_44.2.2.1, .int .i64 t_44.2.2.2.1, .int .i64 t_44.2.2.2.2.1, v_60, .int .i64 t_44.2.2.2.2.2.2.1, .int .i64 t_44.2.2.2.2.2.2.2.1, .int .i64 t_44.2.2.2.2.2.2.2.2.1, .int .i64 t_44.2.2.2.2.2.2.2.2.2.1, .int .i64 t_44.2.2.2.2.2.2.2.2.2.2.1, .int .i64 t_44.2.2.2.2.2.2.2.2.2.2.2.1, .int .i64 t_44.2.2.2.2.2.2.2.2.2.2.2.2.1, .int .i64 t_44.2.2.2.2.2.2.2.2.2.2.2.2.2.1, .bool t_44.2.2.2.2.2.2.2.2.2.2.2.2.2.2.1, .int .i64 t_44.2.2.2.2.2.2.2.2.2.2.2.2.2.2.2.1, .int .i64 t_44.2.2.2.2.2.2.2.2.2.2.2.2.2.2.2.2.1, .int .i64 t_44.2.2.2.2.2.2.2.2.2.2.2.2.2.2.2.2.2.1, .int .i64 t_44.2.2.2.2.2.2.2.2.2.2.2.2.2.2.2.2.2.2.1, v_64, .int .i64 t_44.2.2.2.2.2.2.2.2.2.2.2.2.2.2.2.2.2.2.2.2.1, .int .i64 t_44.2.2.2.2.2.2.2.2.2.2.2.2.2.2.2.2.2.2.2.2.2.1, v_66, v_68, .int .i64 t_44.2.2.2.2.2.2.2.2.2.2.2.2.2.2.2.2.2.2.2.2.2.2.2.2.1, .int .i64 t_44.2.2.2.2.2.2.2.2.2.2.2.2.2.2.2.2.2.2.2.2.2.2.2.2.2.1, .int .i64 t_44.2.2.2.2.2.2.2.2.2.2.2.2.2.2.2.2.2.2.2.2.2.2.2.2.2.2.1, .int .i64 t_44.2.2.2.2.2.2.2.2.2.2.2.2.2.2.2.2.2.2.2.2.2.2.2.2.2.2.2.1, .int .i64 t_44.2.2.2.2.2.2.2.2.2.2.2.2.2.2.2.2.2.2.2.2.2.2.2.2.2.2.2.2.1, v_70, v_72, v_74, .bool t_44.2.2.2.2.2.2.2.2.2.2.2.2.2.2.2.2.2.2.2.2.2.2.2.2.2.2.2.2.2.2.2.2] : List Value).toArray 80 (0, 0)), M_62, Mem.one g_77 (.cells ([.int .i64 t_44.1.Kind, .int .i64 t_44.1.From, .int .i64 t_44.1.To, .int .i64 t_44.1.View, .int .i64 t_44.1.Inst, .int .i64 t_44.1.Len, .bool t_44.1.Has, .int .i64 t_44.1.Members, .int .i64 t_44.1.Source, .int .i64 t_44.1.At, .int .i64 t_44.1.Total, v_48, .int .i64 t_44.1.Hop, .int .i64 t_44.1.Seq, v_50, v_52, .int .i64 t_44.1.Index, .int .i64 t_44.1.Entry.Sess, .int .i64 t_44.1.Entry.Seq, .int .i64 t_44.1.Entry.Cmd.Kind, .int .i64 t_44.1.Entry.Cmd.Who, v_54, v_56, v_58] : List Value).toArray 29 (0, 0))] Z ∧ N_47.le N_81) → KJ_80 a w_83 := by
      clear H hm hS a
      rintro x_82 H a w_83 ⟨N_81, hm, hS, le_81⟩
      unfold hocketlaw18_GathReady.J2 at H
      refine hKJ_80 _ _ ?_
      by_cases hc_85 : x_82 = true
      · rw [if_pos hc_85] at H
        cases H
      · rw [if_neg hc_85] at H
        refine c_cond_f hm rfl (Bool.eq_false_iff.2 hc_85) ?_
        refine wp_skip ?_
        refine x_then_n (hKJ_79 _ _ ?_)
        refine wp_seq ?_
        refine wp_region_lit ?_
        refine s_assign hm rfl rfl ?_
        clear hm a; intro a hm
        refine wpList_nil ?_
        replace hm : Fr 120 a [(0, .int .i64 (w64 ((Int.tmod (band .i64 x0 255) 7) + 1))), (1, p1_0), (4, .bool false), (5, .pointer (some ⟨g_5, 0, none⟩)), (7, .pointer (some ⟨g_77, 0, none⟩)), (9, .int .i64 0)] := hm.keep [0, 1, 4, 5, 7, 9]
        refine x_then_n ?_
        refine c_seq fun KJ_86 hKJ_86 => ?_
        refine wp_seq ?_
        refine wp_region_lit ?_
        refine s_assign hm rfl rfl ?_
        clear hm a; intro a hm
        refine wpList_nil ?_
        replace hm : Fr 120 a [(0, .int .i64 (w64 ((Int.tmod (band .i64 x0 255) 7) + 1))), (1, p1_0), (4, .bool false), (5, .pointer (some ⟨g_5, 0, none⟩)), (7, .pointer (some ⟨g_77, 0, none⟩)), (9, .int .i64 0), (10, .int .i64 0)] := hm.keep [0, 1, 4, 5, 7, 9, 10]
        refine x_then_n ?_
        have hJ_j_89 : hocketlaw18_GathReady.J3 K = some r → ∀ (a : Act) (w_88 : World), (∃ (N_87 : Mem), Fr 120 a [(4, .bool false)] ∧ Sep w0 w_88 [N_87, Mem.no, Mem.no, Mem.no] Z ∧ N_81.le N_87) → KJ_86 a w_88 := by
          clear H hm hS a
          rintro H a w_88 ⟨N_87, hm, hS, le_87⟩
          unfold hocketlaw18_GathReady.J3 at H
          refine hKJ_86 _ _ ?_
          refine wp_seq ?_
          refine wp_region_lit ?_
          obtain ⟨t_90, et_90, H⟩ := Option.bind_eq_some_iff.1 H
          refine s_call hm rfl Try.call49 rfl (hocketlaw18_awake.calls K  t_90 w0 _ _ _ (Mem.le.refl _) (hS.enter [] (by decide))  et_90) ?_
          rintro _ w_91 ⟨N_92, rfl, hS'⟩
          clear hm a; intro a hm
          obtain ⟨N_93, hS'', le_93, ln_93⟩ := hS.call [] (by decide) rfl (l' := []) (ow := []) rfl hS'
          replace hS : Sep w0 w_91 [N_93, Mem.no, Mem.no, Mem.no] Z := hS''
          clear hS' hS''
          refine s_assign hm rfl rfl ?_
          clear hm a; intro a hm
          refine wpList_nil ?_
          replace hm : Fr 120 a [(4, .bool true)] := hm.keep [4]
          refine x_then_n ?_
          refine wp_ret ?_
          exact f_ret hm (rs := [.tmp 4]) rfl (.tmp rfl .nil) ⟨_, rfl, N_93, rfl, (Sep.sel hS [0] (by decide))⟩
        clear hKJ_86
        replace hS : Sep w0 w_83 [N_81, Mem.one g_5 (.cells ([.int .i64 t_44.2.2.1, .int .i64 t_44.2.2.2.1, .int .i64 t_44.2.2.2.2.1, v_60, .int .i64 t_44.2.2.2.2.2.2.1, .int .i64 t_44.2.2.2.2.2.2.2.1, .int .i64 t_44.2.2.2.2.2.2.2.2.1, .int .i64 t_44.2.2.2.2.2.2.2.2.2.1, .int .i64 t_44.2.2.2.2.2.2.2.2.2.2.1, .int .i64 t_44.2.2.2.2.2.2.2.2.2.2.2.1, .int .i64 t_44.2.2.2.2.2.2.2.2.2.2.2.2.1, .int .i64 t_44.2.2.2.2.2.2.2.2.2.2.2.2.2.1, .bool t_44.2.2.2.2.2.2.2.2.2.2.2.2.2.2.1, .int .i64 t_44.2.2.2.2.2.2.2.2.2.2.2.2.2.2.2.1, .int .i64 t_44.2.2.2.2.2.2.2.2.2.2.2.2.2.2.2.2.1, .int .i64 t_44.2.2.2.2.2.2.2.2.2.2.2.2.2.2.2.2.2.1, .int .i64 t_44.2.2.2.2.2.2.2.2.2.2.2.2.2.2.2.2.2.2.1, v_64, .int .i64 t_44.2.2.2.2.2.2.2.2.2.2.2.2.2.2.2.2.2.2.2.2.1, .int .i64 t_44.2.2.2.2.2.2.2.2.2.2.2.2.2.2.2.2.2.2.2.2.2.1, v_66, v_68, .int .i64 t_44.2.2.2.2.2.2.2.2.2.2.2.2.2.2.2.2.2.2.2.2.2.2.2.2.1, .int .i64 t_44.2.2.2.2.2.2.2.2.2.2.2.2.2.2.2.2.2.2.2.2.2.2.2.2.2.1, .int .i64 t_44.2.2.2.2.2.2.2.2.2.2.2.2.2.2.2.2.2.2.2.2.2.2.2.2.2.2.1, .int .i64 t_44.2.2.2.2.2.2.2.2.2.2.2.2.2.2.2.2.2.2.2.2.2.2.2.2.2.2.2.1, .int .i64 t_44.2.2.2.2.2.2.2.2.2.2.2.2.2.2.2.2.2.2.2.2.2.2.2.2.2.2.2.2.1, v_70, v_72, v_74, .bool t_44.2.2.2.2.2.2.2.2.2.2.2.2.2.2.2.2.2.2.2.2.2.2.2.2.2.2.2.2.2.2.2.2] : List Value).toArray 80 (0, 0)), M_62, Mem.one g_77 (.cells ([.int .i64 t_44.1.Kind, .int .i64 t_44.1.From, .int .i64 t_44.1.To, .int .i64 t_44.1.View, .int .i64 t_44.1.Inst, .int .i64 t_44.1.Len, .bool t_44.1.Has, .int .i64 t_44.1.Members, .int .i64 t_44.1.Source, .int .i64 t_44.1.At, .int .i64 t_44.1.Total, v_48, .int .i64 t_44.1.Hop, .int .i64 t_44.1.Seq, v_50, v_52, .int .i64 t_44.1.Index, .int .i64 t_44.1.Entry.Sess, .int .i64 t_44.1.Entry.Seq, .int .i64 t_44.1.Entry.Cmd.Kind, .int .i64 t_44.1.Entry.Cmd.Who, v_54, v_56, v_58] : List Value).toArray 29 (0, 0))] Z := hS
        replace hm : Fr 120 a [(0, .int .i64 (w64 ((Int.tmod (band .i64 x0 255) 7) + 1))), (1, p1_0), (4, .bool false), (5, .pointer (some ⟨g_5, 0, none⟩)), (7, .pointer (some ⟨g_77, 0, none⟩)), (9, .int .i64 0), (10, .int .i64 0)] := hm.keep [0, 1, 4, 5, 7, 9, 10]
        refine c_block ?_
        refine c_loop (fun k_114 a w_114 => ∃ (x_95 : Int) (x_96 : Int) (x_97 : gath_Gather) (v_100 : Value) (v_102 : Value) (v_104 : Value) (v_106 : Value) (v_108 : Value) (v_110 : Value) (v_112 : Value) (N_94 : Mem) (M_98 : Mem), hocketlaw18_GathReady.L1 K x1 x0 t_44 (fun v => hocketlaw18_GathReady.J3 K) k_114 (x_95, x_96, x_97) = some r ∧ Fr 120 a [(0, .int .i64 (w64 ((Int.tmod (band .i64 x0 255) 7) + 1))), (1, p1_0), (4, .bool false), (5, .pointer (some ⟨g_5, 0, none⟩)), (7, .pointer (some ⟨g_77, 0, none⟩)), (9, .int .i64 x_95), (10, .int .i64 x_96)] ∧ Sep w0 w_114 [N_94, Mem.one g_5 (.cells ([.int .i64 x_97.n, .int .i64 x_97.id, .int .i64 x_97.v, v_100, .int .i64 x_97.come, .int .i64 x_97.ready, .int .i64 x_97.commit.Kind, .int .i64 x_97.commit.From, .int .i64 x_97.commit.To, .int .i64 x_97.commit.View, .int .i64 x_97.commit.Inst, .int .i64 x_97.commit.Len, .bool x_97.commit.Has, .int .i64 x_97.commit.Members, .int .i64 x_97.commit.Source, .int .i64 x_97.commit.At, .int .i64 x_97.commit.Total, v_102, .int .i64 x_97.commit.Hop, .int .i64 x_97.commit.Seq, v_104, v_106, .int .i64 x_97.commit.Index, .int .i64 x_97.commit.Entry.Sess, .int .i64 x_97.commit.Entry.Seq, .int .i64 x_97.commit.Entry.Cmd.Kind, .int .i64 x_97.commit.Entry.Cmd.Who, v_108, v_110, v_112, .bool x_97.is] : List Value).toArray 80 (0, 0)), M_98, Mem.one g_77 (.cells ([.int .i64 t_44.1.Kind, .int .i64 t_44.1.From, .int .i64 t_44.1.To, .int .i64 t_44.1.View, .int .i64 t_44.1.Inst, .int .i64 t_44.1.Len, .bool t_44.1.Has, .int .i64 t_44.1.Members, .int .i64 t_44.1.Source, .int .i64 t_44.1.At, .int .i64 t_44.1.Total, v_48, .int .i64 t_44.1.Hop, .int .i64 t_44.1.Seq, v_50, v_52, .int .i64 t_44.1.Index, .int .i64 t_44.1.Entry.Sess, .int .i64 t_44.1.Entry.Seq, .int .i64 t_44.1.Entry.Cmd.Kind, .int .i64 t_44.1.Entry.Cmd.Who, v_54, v_56, v_58] : List Value).toArray 29 (0, 0))] Z ∧ N_81.le N_94 ∧ Own k_api_Msg 29 M_98 N_94 v_100 x_97.l ∧ Rd Kd.u8 N_94 v_102 x_97.commit.Data ∧ Rd (Kd.int .i64) N_94 v_104 x_97.commit.Have ∧ Rd (Kd.int .i64) N_94 v_106 x_97.commit.Need ∧ Rd Kd.u8 N_94 v_108 x_97.commit.Entry.Cmd.Key ∧ Rd Kd.u8 N_94 v_110 x_97.commit.Entry.Cmd.Val ∧ Rd Kd.u8 N_94 v_112 x_97.commit.Entry.Cmd.Old) K ⟨0, 0, (⟨t_44.2.2.1, t_44.2.2.2.1, t_44.2.2.2.2.1, t_44.2.2.2.2.2.1, t_44.2.2.2.2.2.2.1, t_44.2.2.2.2.2.2.2.1, (⟨t_44.2.2.2.2.2.2.2.2.1, t_44.2.2.2.2.2.2.2.2.2.1, t_44.2.2.2.2.2.2.2.2.2.2.1, t_44.2.2.2.2.2.2.2.2.2.2.2.1, t_44.2.2.2.2.2.2.2.2.2.2.2.2.1, t_44.2.2.2.2.2.2.2.2.2.2.2.2.2.1, t_44.2.2.2.2.2.2.2.2.2.2.2.2.2.2.1, t_44.2.2.2.2.2.2.2.2.2.2.2.2.2.2.2.1, t_44.2.2.2.2.2.2.2.2.2.2.2.2.2.2.2.2.1, t_44.2.2.2.2.2.2.2.2.2.2.2.2.2.2.2.2.2.1, t_44.2.2.2.2.2.2.2.2.2.2.2.2.2.2.2.2.2.2.1, t_44.2.2.2.2.2.2.2.2.2.2.2.2.2.2.2.2.2.2.2.1, t_44.2.2.2.2.2.2.2.2.2.2.2.2.2.2.2.2.2.2.2.2.1, t_44.2.2.2.2.2.2.2.2.2.2.2.2.2.2.2.2.2.2.2.2.2.1, t_44.2.2.2.2.2.2.2.2.2.2.2.2.2.2.2.2.2.2.2.2.2.2.1, t_44.2.2.2.2.2.2.2.2.2.2.2.2.2.2.2.2.2.2.2.2.2.2.2.1, t_44.2.2.2.2.2.2.2.2.2.2.2.2.2.2.2.2.2.2.2.2.2.2.2.2.1, (⟨t_44.2.2.2.2.2.2.2.2.2.2.2.2.2.2.2.2.2.2.2.2.2.2.2.2.2.1, t_44.2.2.2.2.2.2.2.2.2.2.2.2.2.2.2.2.2.2.2.2.2.2.2.2.2.2.1, (⟨t_44.2.2.2.2.2.2.2.2.2.2.2.2.2.2.2.2.2.2.2.2.2.2.2.2.2.2.2.1, t_44.2.2.2.2.2.2.2.2.2.2.2.2.2.2.2.2.2.2.2.2.2.2.2.2.2.2.2.2.1, t_44.2.2.2.2.2.2.2.2.2.2.2.2.2.2.2.2.2.2.2.2.2.2.2.2.2.2.2.2.2.1, t_44.2.2.2.2.2.2.2.2.2.2.2.2.2.2.2.2.2.2.2.2.2.2.2.2.2.2.2.2.2.2.1, t_44.2.2.2.2.2.2.2.2.2.2.2.2.2.2.2.2.2.2.2.2.2.2.2.2.2.2.2.2.2.2.2.1⟩ : api_Cmd)⟩ : api_Entry)⟩ : api_Msg), t_44.2.2.2.2.2.2.2.2.2.2.2.2.2.2.2.2.2.2.2.2.2.2.2.2.2.2.2.2.2.2.2.2⟩ : gath_Gather), v_60, v_64, v_66, v_68, v_70, v_72, v_74, N_81, M_62, H, hm, (Sep.sel hS [0, 1, 2, 3] (by decide)), (Mem.le.refl _), ((hr_61.mono (Mem.un_le le_47 ln_47)).mono le_81), ((hr_65.mono (Mem.un_le le_47 ln_47)).mono le_81), ((hr_67.mono (Mem.un_le le_47 ln_47)).mono le_81), ((hr_69.mono (Mem.un_le le_47 ln_47)).mono le_81), ((hr_71.mono (Mem.un_le le_47 ln_47)).mono le_81), ((hr_73.mono (Mem.un_le le_47 ln_47)).mono le_81), ((hr_75.mono (Mem.un_le le_47 ln_47)).mono le_81)⟩ (fun a w h => by obtain ⟨_, _, _, _, _, _, _, _, _, _, _, _, H, _⟩ := h; cases (show (none : Option (Unit)) = some r from H)) ?_
        clear hm hS a H
        rintro k_114 a w_114 KL_114 hKL_114 ⟨x_95, x_96, x_97, v_100, v_102, v_104, v_106, v_108, v_110, v_112, N_94, M_98, H, hm, hS, le_94, ho_101, hr_103, hr_105, hr_107, hr_109, hr_111, hr_113⟩
        replace H : hocketlaw18_GathReady.B1 K x1 x0 t_44 (fun v => hocketlaw18_GathReady.J3 K) (hocketlaw18_GathReady.L1 K x1 x0 t_44 (fun v => hocketlaw18_GathReady.J3 K) k_114) x_95 x_96 x_97 = some r := H
        unfold hocketlaw18_GathReady.B1 at H
        refine c_seq fun KJ_116 hKJ_116 => ?_
        refine c_seq fun KJ_117 hKJ_117 => ?_
        have hJ_j_121 : ∀ (x_119 : Bool), hocketlaw18_GathReady.J4 K x1 x_96 x0 x_97 t_44 (hocketlaw18_GathReady.L1 K x1 x0 t_44 (fun v => hocketlaw18_GathReady.J3 K) k_114) x_95 (fun v => hocketlaw18_GathReady.J3 K) x_119 = some r → ∀ (a : Act) (w_120 : World), (∃ (N_118 : Mem), Fr 120 a [(0, .int .i64 (w64 ((Int.tmod (band .i64 x0 255) 7) + 1))), (1, p1_0), (4, .bool false), (5, .pointer (some ⟨g_5, 0, none⟩)), (7, .pointer (some ⟨g_77, 0, none⟩)), (9, .int .i64 x_95), (10, .int .i64 x_96), (65, .bool x_119)] ∧ Sep w0 w_120 [N_118, Mem.one g_5 (.cells ([.int .i64 x_97.n, .int .i64 x_97.id, .int .i64 x_97.v, v_100, .int .i64 x_97.come, .int .i64 x_97.ready, .int .i64 x_97.commit.Kind, .int .i64 x_97.commit.From, .int .i64 x_97.commit.To, .int .i64 x_97.commit.View, .int .i64 x_97.commit.Inst, .int .i64 x_97.commit.Len, .bool x_97.commit.Has, .int .i64 x_97.commit.Members, .int .i64 x_97.commit.Source, .int .i64 x_97.commit.At, .int .i64 x_97.commit.Total, v_102, .int .i64 x_97.commit.Hop, .int .i64 x_97.commit.Seq, v_104, v_106, .int .i64 x_97.commit.Index, .int .i64 x_97.commit.Entry.Sess, .int .i64 x_97.commit.Entry.Seq, .int .i64 x_97.commit.Entry.Cmd.Kind, .int .i64 x_97.commit.Entry.Cmd.Who, v_108, v_110, v_112, .bool x_97.is] : List Value).toArray 80 (0, 0)), M_98, Mem.one g_77 (.cells ([.int .i64 t_44.1.Kind, .int .i64 t_44.1.From, .int .i64 t_44.1.To, .int .i64 t_44.1.View, .int .i64 t_44.1.Inst, .int .i64 t_44.1.Len, .bool t_44.1.Has, .int .i64 t_44.1.Members, .int .i64 t_44.1.Source, .int .i64 t_44.1.At, .int .i64 t_44.1.Total, v_48, .int .i64 t_44.1.Hop, .int .i64 t_44.1.Seq, v_50, v_52, .int .i64 t_44.1.Index, .int .i64 t_44.1.Entry.Sess, .int .i64 t_44.1.Entry.Seq, .int .i64 t_44.1.Entry.Cmd.Kind, .int .i64 t_44.1.Entry.Cmd.Who, v_54, v_56, v_58] : List Value).toArray 29 (0, 0))] Z ∧ N_94.le N_118) → KJ_117 a w_120 := by
          clear H hm hS a
          rintro x_119 H a w_120 ⟨N_118, hm, hS, le_118⟩
          unfold hocketlaw18_GathReady.J4 at H
          refine hKJ_117 _ _ ?_
          by_cases hc_122 : x_119 = true
          · rw [if_pos hc_122] at H
            refine c_cond_t hm rfl hc_122 ?_
            refine wp_skip ?_
            refine x_then_n (hKJ_116 _ _ ?_)
            refine c_seq fun KJ_123 hKJ_123 => ?_
            refine c_block ?_
            refine wp_seq ?_
            refine wp_region_lit ?_
            refine s_move hm rfl rfl ?_
            clear hm a; intro a hm
            refine s_move hm rfl rfl ?_
            clear hm a; intro a hm
            obtain ⟨t_124, et_124, H⟩ := Option.bind_eq_some_iff.1 H
            refine v_index hm rfl Try.underlying23 ti3 rfl rfl rfl hp1_0 (hA.trans hS.old) et_124 ?_
            intro ad_125 cs_126 hk_127 hc_128
            obtain rfl := (show cs_126 = [.int .i64 t_124] from hk_127)
            clear hm a; intro a hm
            refine s_load hm rfl rfl (el_one (o := 0) hc_128 Try.underlying3 rfl rfl) ?_
            clear hm a; intro a hm
            refine s_bits (i := t_124) (j := 15) (r := band .i64 t_124 15) hm rfl rfl rfl (.inl ⟨rfl, rfl⟩) ?_
            clear hm a; intro a hm
            refine s_arith (r := w64 ((band .i64 t_124 15) - 4)) hm rfl rfl rfl (.inr (.inl ⟨rfl, rfl⟩)) ?_
            clear hm a; intro a hm
            refine s_assign hm rfl rfl ?_
            clear hm a; intro a hm
            refine wpList_nil ?_
            replace hm : Fr 120 a [(0, .int .i64 (w64 ((Int.tmod (band .i64 x0 255) 7) + 1))), (1, p1_0), (4, .bool false), (5, .pointer (some ⟨g_5, 0, none⟩)), (7, .pointer (some ⟨g_77, 0, none⟩)), (9, .int .i64 x_95), (10, .int .i64 x_96), (11, .int .i64 (w64 ((band .i64 t_124 15) - 4)))] := hm.keep [0, 1, 4, 5, 7, 9, 10, 11]
            refine x_then_n ?_
            refine c_seq fun KJ_129 hKJ_129 => ?_
            have hJ_j_133 : ∀ (x_131 : Bool), hocketlaw18_GathReady.J5 K x_97 t_124 t_44 (hocketlaw18_GathReady.L1 K x1 x0 t_44 (fun v => hocketlaw18_GathReady.J3 K) k_114) x_96 x_95 x_131 = some r → ∀ (a : Act) (w_132 : World), (∃ (N_130 : Mem), Fr 120 a [(0, .int .i64 (w64 ((Int.tmod (band .i64 x0 255) 7) + 1))), (1, p1_0), (4, .bool false), (5, .pointer (some ⟨g_5, 0, none⟩)), (7, .pointer (some ⟨g_77, 0, none⟩)), (9, .int .i64 x_95), (10, .int .i64 x_96), (11, .int .i64 (w64 ((band .i64 t_124 15) - 4))), (12, .bool x_131)] ∧ Sep w0 w_132 [N_130, Mem.one g_5 (.cells ([.int .i64 x_97.n, .int .i64 x_97.id, .int .i64 x_97.v, v_100, .int .i64 x_97.come, .int .i64 x_97.ready, .int .i64 x_97.commit.Kind, .int .i64 x_97.commit.From, .int .i64 x_97.commit.To, .int .i64 x_97.commit.View, .int .i64 x_97.commit.Inst, .int .i64 x_97.commit.Len, .bool x_97.commit.Has, .int .i64 x_97.commit.Members, .int .i64 x_97.commit.Source, .int .i64 x_97.commit.At, .int .i64 x_97.commit.Total, v_102, .int .i64 x_97.commit.Hop, .int .i64 x_97.commit.Seq, v_104, v_106, .int .i64 x_97.commit.Index, .int .i64 x_97.commit.Entry.Sess, .int .i64 x_97.commit.Entry.Seq, .int .i64 x_97.commit.Entry.Cmd.Kind, .int .i64 x_97.commit.Entry.Cmd.Who, v_108, v_110, v_112, .bool x_97.is] : List Value).toArray 80 (0, 0)), M_98, Mem.one g_77 (.cells ([.int .i64 t_44.1.Kind, .int .i64 t_44.1.From, .int .i64 t_44.1.To, .int .i64 t_44.1.View, .int .i64 t_44.1.Inst, .int .i64 t_44.1.Len, .bool t_44.1.Has, .int .i64 t_44.1.Members, .int .i64 t_44.1.Source, .int .i64 t_44.1.At, .int .i64 t_44.1.Total, v_48, .int .i64 t_44.1.Hop, .int .i64 t_44.1.Seq, v_50, v_52, .int .i64 t_44.1.Index, .int .i64 t_44.1.Entry.Sess, .int .i64 t_44.1.Entry.Seq, .int .i64 t_44.1.Entry.Cmd.Kind, .int .i64 t_44.1.Entry.Cmd.Who, v_54, v_56, v_58] : List Value).toArray 29 (0, 0))] Z ∧ N_118.le N_130) → KJ_129 a w_132 := by
              clear H hm hS a
              rintro x_131 H a w_132 ⟨N_130, hm, hS, le_130⟩
              unfold hocketlaw18_GathReady.J5 at H
              refine hKJ_129 _ _ ?_
              refine c_seq fun KJ_134 hKJ_134 => ?_
              refine wp_seq ?_
              refine wp_region_lit ?_
              refine s_move hm rfl rfl ?_
              clear hm a; intro a hm
              refine s_move hm rfl rfl ?_
              clear hm a; intro a hm
              obtain ⟨t_135, et_135, H⟩ := Option.bind_eq_some_iff.1 H
              refine s_call hm rfl Try.call47 rfl (gath_Gather_Ready.calls K _ x_97.n x_97.id x_97.v x_97.l _ _ x_97.come x_97.ready x_97.commit.Kind x_97.commit.From x_97.commit.To x_97.commit.View x_97.commit.Inst x_97.commit.Len x_97.commit.Has x_97.commit.Members x_97.commit.Source x_97.commit.At x_97.commit.Total x_97.commit.Data _ x_97.commit.Hop x_97.commit.Seq x_97.commit.Have _ x_97.commit.Need _ x_97.commit.Index x_97.commit.Entry.Sess x_97.commit.Entry.Seq x_97.commit.Entry.Cmd.Kind x_97.commit.Entry.Cmd.Who x_97.commit.Entry.Cmd.Key _ x_97.commit.Entry.Cmd.Val _ x_97.commit.Entry.Cmd.Old _ x_97.is (w64 ((band .i64 t_124 15) - 4)) t_135 w0 _ _ N_130 (hS.new_zed [0, 1]) (hS.enter [0, 1] (by decide)) (ho_101.mono (le_118.trans le_130)) (hr_103.mono (le_118.trans le_130)) (hr_105.mono (le_118.trans le_130)) (hr_107.mono (le_118.trans le_130)) (hr_109.mono (le_118.trans le_130)) (hr_111.mono (le_118.trans le_130)) (hr_113.mono (le_118.trans le_130)) et_135) ?_
              rintro _ w_136 ⟨v_139, v_143, v_145, v_147, v_149, v_151, v_153, N_137, M_141, rfl, hS', hr_140, hr_144, hr_146, hr_148, hr_150, hr_152, hr_154⟩
              clear hm a; intro a hm
              obtain ⟨N_138, hS'', le_138, ln_138⟩ := hS.call [0, 1] (by decide) rfl (l' := [Mem.one g_5 (.cells ([.int .i64 t_135.2.1, .int .i64 t_135.2.2.1, .int .i64 t_135.2.2.2.1, v_139, .int .i64 t_135.2.2.2.2.2.1, .int .i64 t_135.2.2.2.2.2.2.1, .int .i64 t_135.2.2.2.2.2.2.2.1, .int .i64 t_135.2.2.2.2.2.2.2.2.1, .int .i64 t_135.2.2.2.2.2.2.2.2.2.1, .int .i64 t_135.2.2.2.2.2.2.2.2.2.2.1, .int .i64 t_135.2.2.2.2.2.2.2.2.2.2.2.1, .int .i64 t_135.2.2.2.2.2.2.2.2.2.2.2.2.1, .bool t_135.2.2.2.2.2.2.2.2.2.2.2.2.2.1, .int .i64 t_135.2.2.2.2.2.2.2.2.2.2.2.2.2.2.1, .int .i64 t_135.2.2.2.2.2.2.2.2.2.2.2.2.2.2.2.1, .int .i64 t_135.2.2.2.2.2.2.2.2.2.2.2.2.2.2.2.2.1, .int .i64 t_135.2.2.2.2.2.2.2.2.2.2.2.2.2.2.2.2.2.1, v_143, .int .i64 t_135.2.2.2.2.2.2.2.2.2.2.2.2.2.2.2.2.2.2.2.1, .int .i64 t_135.2.2.2.2.2.2.2.2.2.2.2.2.2.2.2.2.2.2.2.2.1, v_145, v_147, .int .i64 t_135.2.2.2.2.2.2.2.2.2.2.2.2.2.2.2.2.2.2.2.2.2.2.2.1, .int .i64 t_135.2.2.2.2.2.2.2.2.2.2.2.2.2.2.2.2.2.2.2.2.2.2.2.2.1, .int .i64 t_135.2.2.2.2.2.2.2.2.2.2.2.2.2.2.2.2.2.2.2.2.2.2.2.2.2.1, .int .i64 t_135.2.2.2.2.2.2.2.2.2.2.2.2.2.2.2.2.2.2.2.2.2.2.2.2.2.2.1, .int .i64 t_135.2.2.2.2.2.2.2.2.2.2.2.2.2.2.2.2.2.2.2.2.2.2.2.2.2.2.2.1, v_149, v_151, v_153, .bool t_135.2.2.2.2.2.2.2.2.2.2.2.2.2.2.2.2.2.2.2.2.2.2.2.2.2.2.2.2.2.2.2] : List Value).toArray 80 (0, 0)), M_141]) (ow := []) rfl hS'
              replace hS : Sep w0 w_136 [N_138, Mem.one g_5 (.cells ([.int .i64 t_135.2.1, .int .i64 t_135.2.2.1, .int .i64 t_135.2.2.2.1, v_139, .int .i64 t_135.2.2.2.2.2.1, .int .i64 t_135.2.2.2.2.2.2.1, .int .i64 t_135.2.2.2.2.2.2.2.1, .int .i64 t_135.2.2.2.2.2.2.2.2.1, .int .i64 t_135.2.2.2.2.2.2.2.2.2.1, .int .i64 t_135.2.2.2.2.2.2.2.2.2.2.1, .int .i64 t_135.2.2.2.2.2.2.2.2.2.2.2.1, .int .i64 t_135.2.2.2.2.2.2.2.2.2.2.2.2.1, .bool t_135.2.2.2.2.2.2.2.2.2.2.2.2.2.1, .int .i64 t_135.2.2.2.2.2.2.2.2.2.2.2.2.2.2.1, .int .i64 t_135.2.2.2.2.2.2.2.2.2.2.2.2.2.2.2.1, .int .i64 t_135.2.2.2.2.2.2.2.2.2.2.2.2.2.2.2.2.1, .int .i64 t_135.2.2.2.2.2.2.2.2.2.2.2.2.2.2.2.2.2.1, v_143, .int .i64 t_135.2.2.2.2.2.2.2.2.2.2.2.2.2.2.2.2.2.2.2.1, .int .i64 t_135.2.2.2.2.2.2.2.2.2.2.2.2.2.2.2.2.2.2.2.2.1, v_145, v_147, .int .i64 t_135.2.2.2.2.2.2.2.2.2.2.2.2.2.2.2.2.2.2.2.2.2.2.2.1, .int .i64 t_135.2.2.2.2.2.2.2.2.2.2.2.2.2.2.2.2.2.2.2.2.2.2.2.2.1, .int .i64 t_135.2.2.2.2.2.2.2.2.2.2.2.2.2.2.2.2.2.2.2.2.2.2.2.2.2.1, .int .i64 t_135.2.2.2.2.2.2.2.2.2.2.2.2.2.2.2.2.2.2.2.2.2.2.2.2.2.2.1, .int .i64 t_135.2.2.2.2.2.2.2.2.2.2.2.2.2.2.2.2.2.2.2.2.2.2.2.2.2.2.2.1, v_149, v_151, v_153, .bool t_135.2.2.2.2.2.2.2.2.2.2.2.2.2.2.2.2.2.2.2.2.2.2.2.2.2.2.2.2.2.2.2] : List Value).toArray 80 (0, 0)), M_141, Mem.one g_77 (.cells ([.int .i64 t_44.1.Kind, .int .i64 t_44.1.From, .int .i64 t_44.1.To, .int .i64 t_44.1.View, .int .i64 t_44.1.Inst, .int .i64 t_44.1.Len, .bool t_44.1.Has, .int .i64 t_44.1.Members, .int .i64 t_44.1.Source, .int .i64 t_44.1.At, .int .i64 t_44.1.Total, v_48, .int .i64 t_44.1.Hop, .int .i64 t_44.1.Seq, v_50, v_52, .int .i64 t_44.1.Index, .int .i64 t_44.1.Entry.Sess, .int .i64 t_44.1.Entry.Seq, .int .i64 t_44.1.Entry.Cmd.Kind, .int .i64 t_44.1.Entry.Cmd.Who, v_54, v_56, v_58] : List Value).toArray 29 (0, 0))] Z := hS''
              clear hS' hS''
              refine s_move hm rfl rfl ?_
              clear hm a; intro a hm
              refine s_beq (b := !(t_135.1 == x_131)) hm rfl Try.underlying4 rfl rfl (.inr ⟨rfl, rfl⟩) ?_
              clear hm a; intro a hm
              refine wpList_nil ?_
              replace hm : Fr 120 a [(0, .int .i64 (w64 ((Int.tmod (band .i64 x0 255) 7) + 1))), (1, p1_0), (4, .bool false), (5, .pointer (some ⟨g_5, 0, none⟩)), (7, .pointer (some ⟨g_77, 0, none⟩)), (9, .int .i64 x_95), (10, .int .i64 x_96), (11, .int .i64 (w64 ((band .i64 t_124 15) - 4))), (12, .bool x_131), (94, .bool (!(t_135.1 == x_131)))] := hm.keep [0, 1, 4, 5, 7, 9, 10, 11, 12, 94]
              refine x_then_n ?_
              by_cases hc_155 : t_135.1 = x_131
              · rw [if_pos hc_155] at H
                refine c_cond_f hm rfl (nf (beq_iff_eq.2 hc_155)) ?_
                refine wp_skip ?_
                refine x_then_n (hKJ_134 _ _ ?_)
                refine c_seq fun KJ_156 hKJ_156 => ?_
                refine wp_seq ?_
                refine wp_region_lit ?_
                refine s_move hm rfl rfl ?_
                clear hm a; intro a hm
                refine wpList_nil ?_
                replace hm : Fr 120 a [(0, .int .i64 (w64 ((Int.tmod (band .i64 x0 255) 7) + 1))), (1, p1_0), (4, .bool false), (5, .pointer (some ⟨g_5, 0, none⟩)), (7, .pointer (some ⟨g_77, 0, none⟩)), (9, .int .i64 x_95), (10, .int .i64 x_96), (11, .int .i64 (w64 ((band .i64 t_124 15) - 4))), (95, .bool x_131)] := hm.keep [0, 1, 4, 5, 7, 9, 10, 11, 95]
                refine x_then_n ?_
                have hJ_j_160 : ∀ (x_158 : Int), hocketlaw18_GathReady.J6 K t_135 t_44 (hocketlaw18_GathReady.L1 K x1 x0 t_44 (fun v => hocketlaw18_GathReady.J3 K) k_114) x_96 x_158 = some r → ∀ (a : Act) (w_159 : World), (∃ (N_157 : Mem), Fr 120 a [(0, .int .i64 (w64 ((Int.tmod (band .i64 x0 255) 7) + 1))), (1, p1_0), (4, .bool false), (5, .pointer (some ⟨g_5, 0, none⟩)), (7, .pointer (some ⟨g_77, 0, none⟩)), (9, .int .i64 x_158), (10, .int .i64 x_96)] ∧ Sep w0 w_159 [N_157, Mem.one g_5 (.cells ([.int .i64 t_135.2.1, .int .i64 t_135.2.2.1, .int .i64 t_135.2.2.2.1, v_139, .int .i64 t_135.2.2.2.2.2.1, .int .i64 t_135.2.2.2.2.2.2.1, .int .i64 t_135.2.2.2.2.2.2.2.1, .int .i64 t_135.2.2.2.2.2.2.2.2.1, .int .i64 t_135.2.2.2.2.2.2.2.2.2.1, .int .i64 t_135.2.2.2.2.2.2.2.2.2.2.1, .int .i64 t_135.2.2.2.2.2.2.2.2.2.2.2.1, .int .i64 t_135.2.2.2.2.2.2.2.2.2.2.2.2.1, .bool t_135.2.2.2.2.2.2.2.2.2.2.2.2.2.1, .int .i64 t_135.2.2.2.2.2.2.2.2.2.2.2.2.2.2.1, .int .i64 t_135.2.2.2.2.2.2.2.2.2.2.2.2.2.2.2.1, .int .i64 t_135.2.2.2.2.2.2.2.2.2.2.2.2.2.2.2.2.1, .int .i64 t_135.2.2.2.2.2.2.2.2.2.2.2.2.2.2.2.2.2.1, v_143, .int .i64 t_135.2.2.2.2.2.2.2.2.2.2.2.2.2.2.2.2.2.2.2.1, .int .i64 t_135.2.2.2.2.2.2.2.2.2.2.2.2.2.2.2.2.2.2.2.2.1, v_145, v_147, .int .i64 t_135.2.2.2.2.2.2.2.2.2.2.2.2.2.2.2.2.2.2.2.2.2.2.2.1, .int .i64 t_135.2.2.2.2.2.2.2.2.2.2.2.2.2.2.2.2.2.2.2.2.2.2.2.2.1, .int .i64 t_135.2.2.2.2.2.2.2.2.2.2.2.2.2.2.2.2.2.2.2.2.2.2.2.2.2.1, .int .i64 t_135.2.2.2.2.2.2.2.2.2.2.2.2.2.2.2.2.2.2.2.2.2.2.2.2.2.2.1, .int .i64 t_135.2.2.2.2.2.2.2.2.2.2.2.2.2.2.2.2.2.2.2.2.2.2.2.2.2.2.2.1, v_149, v_151, v_153, .bool t_135.2.2.2.2.2.2.2.2.2.2.2.2.2.2.2.2.2.2.2.2.2.2.2.2.2.2.2.2.2.2.2] : List Value).toArray 80 (0, 0)), M_141, Mem.one g_77 (.cells ([.int .i64 t_44.1.Kind, .int .i64 t_44.1.From, .int .i64 t_44.1.To, .int .i64 t_44.1.View, .int .i64 t_44.1.Inst, .int .i64 t_44.1.Len, .bool t_44.1.Has, .int .i64 t_44.1.Members, .int .i64 t_44.1.Source, .int .i64 t_44.1.At, .int .i64 t_44.1.Total, v_48, .int .i64 t_44.1.Hop, .int .i64 t_44.1.Seq, v_50, v_52, .int .i64 t_44.1.Index, .int .i64 t_44.1.Entry.Sess, .int .i64 t_44.1.Entry.Seq, .int .i64 t_44.1.Entry.Cmd.Kind, .int .i64 t_44.1.Entry.Cmd.Who, v_54, v_56, v_58] : List Value).toArray 29 (0, 0))] Z ∧ N_138.le N_157) → KJ_156 a w_159 := by
                  clear H hm hS a
                  rintro x_158 H a w_159 ⟨N_157, hm, hS, le_157⟩
                  unfold hocketlaw18_GathReady.J6 at H
                  refine hKJ_156 _ _ ?_
                  refine c_seq fun KJ_161 hKJ_161 => ?_
                  have hJ_j_165 : ∀ (x_163 : Bool), hocketlaw18_GathReady.J7 K (hocketlaw18_GathReady.L1 K x1 x0 t_44 (fun v => hocketlaw18_GathReady.J3 K) k_114) x_158 x_96 t_135 x_163 = some r → ∀ (a : Act) (w_164 : World), (∃ (N_162 : Mem), Fr 120 a [(0, .int .i64 (w64 ((Int.tmod (band .i64 x0 255) 7) + 1))), (1, p1_0), (4, .bool false), (5, .pointer (some ⟨g_5, 0, none⟩)), (7, .pointer (some ⟨g_77, 0, none⟩)), (9, .int .i64 x_158), (10, .int .i64 x_96), (118, .bool x_163)] ∧ Sep w0 w_164 [N_162, Mem.one g_5 (.cells ([.int .i64 t_135.2.1, .int .i64 t_135.2.2.1, .int .i64 t_135.2.2.2.1, v_139, .int .i64 t_135.2.2.2.2.2.1, .int .i64 t_135.2.2.2.2.2.2.1, .int .i64 t_135.2.2.2.2.2.2.2.1, .int .i64 t_135.2.2.2.2.2.2.2.2.1, .int .i64 t_135.2.2.2.2.2.2.2.2.2.1, .int .i64 t_135.2.2.2.2.2.2.2.2.2.2.1, .int .i64 t_135.2.2.2.2.2.2.2.2.2.2.2.1, .int .i64 t_135.2.2.2.2.2.2.2.2.2.2.2.2.1, .bool t_135.2.2.2.2.2.2.2.2.2.2.2.2.2.1, .int .i64 t_135.2.2.2.2.2.2.2.2.2.2.2.2.2.2.1, .int .i64 t_135.2.2.2.2.2.2.2.2.2.2.2.2.2.2.2.1, .int .i64 t_135.2.2.2.2.2.2.2.2.2.2.2.2.2.2.2.2.1, .int .i64 t_135.2.2.2.2.2.2.2.2.2.2.2.2.2.2.2.2.2.1, v_143, .int .i64 t_135.2.2.2.2.2.2.2.2.2.2.2.2.2.2.2.2.2.2.2.1, .int .i64 t_135.2.2.2.2.2.2.2.2.2.2.2.2.2.2.2.2.2.2.2.2.1, v_145, v_147, .int .i64 t_135.2.2.2.2.2.2.2.2.2.2.2.2.2.2.2.2.2.2.2.2.2.2.2.1, .int .i64 t_135.2.2.2.2.2.2.2.2.2.2.2.2.2.2.2.2.2.2.2.2.2.2.2.2.1, .int .i64 t_135.2.2.2.2.2.2.2.2.2.2.2.2.2.2.2.2.2.2.2.2.2.2.2.2.2.1, .int .i64 t_135.2.2.2.2.2.2.2.2.2.2.2.2.2.2.2.2.2.2.2.2.2.2.2.2.2.2.1, .int .i64 t_135.2.2.2.2.2.2.2.2.2.2.2.2.2.2.2.2.2.2.2.2.2.2.2.2.2.2.2.1, v_149, v_151, v_153, .bool t_135.2.2.2.2.2.2.2.2.2.2.2.2.2.2.2.2.2.2.2.2.2.2.2.2.2.2.2.2.2.2.2] : List Value).toArray 80 (0, 0)), M_141, Mem.one g_77 (.cells ([.int .i64 t_44.1.Kind, .int .i64 t_44.1.From, .int .i64 t_44.1.To, .int .i64 t_44.1.View, .int .i64 t_44.1.Inst, .int .i64 t_44.1.Len, .bool t_44.1.Has, .int .i64 t_44.1.Members, .int .i64 t_44.1.Source, .int .i64 t_44.1.At, .int .i64 t_44.1.Total, v_48, .int .i64 t_44.1.Hop, .int .i64 t_44.1.Seq, v_50, v_52, .int .i64 t_44.1.Index, .int .i64 t_44.1.Entry.Sess, .int .i64 t_44.1.Entry.Seq, .int .i64 t_44.1.Entry.Cmd.Kind, .int .i64 t_44.1.Entry.Cmd.Who, v_54, v_56, v_58] : List Value).toArray 29 (0, 0))] Z ∧ N_157.le N_162) → KJ_161 a w_164 := by
                    clear H hm hS a
                    rintro x_163 H a w_164 ⟨N_162, hm, hS, le_162⟩
                    unfold hocketlaw18_GathReady.J7 at H
                    refine hKJ_161 _ _ ?_
                    by_cases hc_166 : x_163 = true
                    · rw [if_pos hc_166] at H
                      cases H
                    · rw [if_neg hc_166] at H
                      refine c_cond_f hm rfl (Bool.eq_false_iff.2 hc_166) ?_
                      refine wp_skip ?_
                      refine x_block_n ?_
                      refine x_then_n (hKJ_123 _ _ ?_)
                      refine wp_region_lit ?_
                      refine s_move hm rfl rfl ?_
                      clear hm a; intro a hm
                      refine s_arith (r := w64 (x_96 + 1)) hm rfl rfl rfl (.inl ⟨rfl, rfl⟩) ?_
                      clear hm a; intro a hm
                      refine s_assign hm rfl rfl ?_
                      clear hm a; intro a hm
                      refine wpList_nil ?_
                      replace hm : Fr 120 a [(0, .int .i64 (w64 ((Int.tmod (band .i64 x0 255) 7) + 1))), (1, p1_0), (4, .bool false), (5, .pointer (some ⟨g_5, 0, none⟩)), (7, .pointer (some ⟨g_77, 0, none⟩)), (9, .int .i64 x_158), (10, .int .i64 (w64 (x_96 + 1)))] := hm.keep [0, 1, 4, 5, 7, 9, 10]
                      refine x_then_n (hKL_114 _ _ ?_)
                      replace hS : Sep w0 w_164 [N_162, Mem.one g_5 (.cells ([.int .i64 t_135.2.1, .int .i64 t_135.2.2.1, .int .i64 t_135.2.2.2.1, v_139, .int .i64 t_135.2.2.2.2.2.1, .int .i64 t_135.2.2.2.2.2.2.1, .int .i64 t_135.2.2.2.2.2.2.2.1, .int .i64 t_135.2.2.2.2.2.2.2.2.1, .int .i64 t_135.2.2.2.2.2.2.2.2.2.1, .int .i64 t_135.2.2.2.2.2.2.2.2.2.2.1, .int .i64 t_135.2.2.2.2.2.2.2.2.2.2.2.1, .int .i64 t_135.2.2.2.2.2.2.2.2.2.2.2.2.1, .bool t_135.2.2.2.2.2.2.2.2.2.2.2.2.2.1, .int .i64 t_135.2.2.2.2.2.2.2.2.2.2.2.2.2.2.1, .int .i64 t_135.2.2.2.2.2.2.2.2.2.2.2.2.2.2.2.1, .int .i64 t_135.2.2.2.2.2.2.2.2.2.2.2.2.2.2.2.2.1, .int .i64 t_135.2.2.2.2.2.2.2.2.2.2.2.2.2.2.2.2.2.1, v_143, .int .i64 t_135.2.2.2.2.2.2.2.2.2.2.2.2.2.2.2.2.2.2.2.1, .int .i64 t_135.2.2.2.2.2.2.2.2.2.2.2.2.2.2.2.2.2.2.2.2.1, v_145, v_147, .int .i64 t_135.2.2.2.2.2.2.2.2.2.2.2.2.2.2.2.2.2.2.2.2.2.2.2.1, .int .i64 t_135.2.2.2.2.2.2.2.2.2.2.2.2.2.2.2.2.2.2.2.2.2.2.2.2.1, .int .i64 t_135.2.2.2.2.2.2.2.2.2.2.2.2.2.2.2.2.2.2.2.2.2.2.2.2.2.1, .int .i64 t_135.2.2.2.2.2.2.2.2.2.2.2.2.2.2.2.2.2.2.2.2.2.2.2.2.2.2.1, .int .i64 t_135.2.2.2.2.2.2.2.2.2.2.2.2.2.2.2.2.2.2.2.2.2.2.2.2.2.2.2.1, v_149, v_151, v_153, .bool t_135.2.2.2.2.2.2.2.2.2.2.2.2.2.2.2.2.2.2.2.2.2.2.2.2.2.2.2.2.2.2.2] : List Value).toArray 80 (0, 0)), M_141, Mem.one g_77 (.cells ([.int .i64 t_44.1.Kind, .int .i64 t_44.1.From, .int .i64 t_44.1.To, .int .i64 t_44.1.View, .int .i64 t_44.1.Inst, .int .i64 t_44.1.Len, .bool t_44.1.Has, .int .i64 t_44.1.Members, .int .i64 t_44.1.Source, .int .i64 t_44.1.At, .int .i64 t_44.1.Total, v_48, .int .i64 t_44.1.Hop, .int .i64 t_44.1.Seq, v_50, v_52, .int .i64 t_44.1.Index, .int .i64 t_44.1.Entry.Sess, .int .i64 t_44.1.Entry.Seq, .int .i64 t_44.1.Entry.Cmd.Kind, .int .i64 t_44.1.Entry.Cmd.Who, v_54, v_56, v_58] : List Value).toArray 29 (0, 0))] Z := hS
                      replace hm : Fr 120 a [(0, .int .i64 (w64 ((Int.tmod (band .i64 x0 255) 7) + 1))), (1, p1_0), (4, .bool false), (5, .pointer (some ⟨g_5, 0, none⟩)), (7, .pointer (some ⟨g_77, 0, none⟩)), (9, .int .i64 x_158), (10, .int .i64 (w64 (x_96 + 1)))] := hm.keep [0, 1, 4, 5, 7, 9, 10]
                      exact ⟨x_158, w64 (x_96 + 1), (⟨t_135.2.1, t_135.2.2.1, t_135.2.2.2.1, t_135.2.2.2.2.1, t_135.2.2.2.2.2.1, t_135.2.2.2.2.2.2.1, (⟨t_135.2.2.2.2.2.2.2.1, t_135.2.2.2.2.2.2.2.2.1, t_135.2.2.2.2.2.2.2.2.2.1, t_135.2.2.2.2.2.2.2.2.2.2.1, t_135.2.2.2.2.2.2.2.2.2.2.2.1, t_135.2.2.2.2.2.2.2.2.2.2.2.2.1, t_135.2.2.2.2.2.2.2.2.2.2.2.2.2.1, t_135.2.2.2.2.2.2.2.2.2.2.2.2.2.2.1, t_135.2.2.2.2.2.2.2.2.2.2.2.2.2.2.2.1, t_135.2.2.2.2.2.2.2.2.2.2.2.2.2.2.2.2.1, t_135.2.2.2.2.2.2.2.2.2.2.2.2.2.2.2.2.2.1, t_135.2.2.2.2.2.2.2.2.2.2.2.2.2.2.2.2.2.2.1, t_135.2.2.2.2.2.2.2.2.2.2.2.2.2.2.2.2.2.2.2.1, t_135.2.2.2.2.2.2.2.2.2.2.2.2.2.2.2.2.2.2.2.2.1, t_135.2.2.2.2.2.2.2.2.2.2.2.2.2.2.2.2.2.2.2.2.2.1, t_135.2.2.2.2.2.2.2.2.2.2.2.2.2.2.2.2.2.2.2.2.2.2.1, t_135.2.2.2.2.2.2.2.2.2.2.2.2.2.2.2.2.2.2.2.2.2.2.2.1, (⟨t_135.2.2.2.2.2.2.2.2.2.2.2.2.2.2.2.2.2.2.2.2.2.2.2.2.1, t_135.2.2.2.2.2.2.2.2.2.2.2.2.2.2.2.2.2.2.2.2.2.2.2.2.2.1, (⟨t_135.2.2.2.2.2.2.2.2.2.2.2.2.2.2.2.2.2.2.2.2.2.2.2.2.2.2.1, t_135.2.2.2.2.2.2.2.2.2.2.2.2.2.2.2.2.2.2.2.2.2.2.2.2.2.2.2.1, t_135.2.2.2.2.2.2.2.2.2.2.2.2.2.2.2.2.2.2.2.2.2.2.2.2.2.2.2.2.1, t_135.2.2.2.2.2.2.2.2.2.2.2.2.2.2.2.2.2.2.2.2.2.2.2.2.2.2.2.2.2.1, t_135.2.2.2.2.2.2.2.2.2.2.2.2.2.2.2.2.2.2.2.2.2.2.2.2.2.2.2.2.2.2.1⟩ : api_Cmd)⟩ : api_Entry)⟩ : api_Msg), t_135.2.2.2.2.2.2.2.2.2.2.2.2.2.2.2.2.2.2.2.2.2.2.2.2.2.2.2.2.2.2.2⟩ : gath_Gather), v_139, v_143, v_145, v_147, v_149, v_151, v_153, N_162, M_141, H, hm, (Sep.sel hS [0, 1, 2, 3] (by decide)), (le_94.trans (le_118.trans (le_130.trans (le_138.trans (le_157.trans le_162))))), ((hr_140.mono (Mem.un_le le_138 ln_138)).mono (le_157.trans le_162)), ((hr_144.mono (Mem.un_le le_138 ln_138)).mono (le_157.trans le_162)), ((hr_146.mono (Mem.un_le le_138 ln_138)).mono (le_157.trans le_162)), ((hr_148.mono (Mem.un_le le_138 ln_138)).mono (le_157.trans le_162)), ((hr_150.mono (Mem.un_le le_138 ln_138)).mono (le_157.trans le_162)), ((hr_152.mono (Mem.un_le le_138 ln_138)).mono (le_157.trans le_162)), ((hr_154.mono (Mem.un_le le_138 ln_138)).mono (le_157.trans le_162))⟩
                  clear hKJ_161
                  refine h_begin (S := fun w => Sep w0 w [N_157, Mem.one g_5 (.cells ([.int .i64 t_135.2.1, .int .i64 t_135.2.2.1, .int .i64 t_135.2.2.2.1, v_139, .int .i64 t_135.2.2.2.2.2.1, .int .i64 t_135.2.2.2.2.2.2.1, .int .i64 t_135.2.2.2.2.2.2.2.1, .int .i64 t_135.2.2.2.2.2.2.2.2.1, .int .i64 t_135.2.2.2.2.2.2.2.2.2.1, .int .i64 t_135.2.2.2.2.2.2.2.2.2.2.1, .int .i64 t_135.2.2.2.2.2.2.2.2.2.2.2.1, .int .i64 t_135.2.2.2.2.2.2.2.2.2.2.2.2.1, .bool t_135.2.2.2.2.2.2.2.2.2.2.2.2.2.1, .int .i64 t_135.2.2.2.2.2.2.2.2.2.2.2.2.2.2.1, .int .i64 t_135.2.2.2.2.2.2.2.2.2.2.2.2.2.2.2.1, .int .i64 t_135.2.2.2.2.2.2.2.2.2.2.2.2.2.2.2.2.1, .int .i64 t_135.2.2.2.2.2.2.2.2.2.2.2.2.2.2.2.2.2.1, v_143, .int .i64 t_135.2.2.2.2.2.2.2.2.2.2.2.2.2.2.2.2.2.2.2.1, .int .i64 t_135.2.2.2.2.2.2.2.2.2.2.2.2.2.2.2.2.2.2.2.2.1, v_145, v_147, .int .i64 t_135.2.2.2.2.2.2.2.2.2.2.2.2.2.2.2.2.2.2.2.2.2.2.2.1, .int .i64 t_135.2.2.2.2.2.2.2.2.2.2.2.2.2.2.2.2.2.2.2.2.2.2.2.2.1, .int .i64 t_135.2.2.2.2.2.2.2.2.2.2.2.2.2.2.2.2.2.2.2.2.2.2.2.2.2.1, .int .i64 t_135.2.2.2.2.2.2.2.2.2.2.2.2.2.2.2.2.2.2.2.2.2.2.2.2.2.2.1, .int .i64 t_135.2.2.2.2.2.2.2.2.2.2.2.2.2.2.2.2.2.2.2.2.2.2.2.2.2.2.2.1, v_149, v_151, v_153, .bool t_135.2.2.2.2.2.2.2.2.2.2.2.2.2.2.2.2.2.2.2.2.2.2.2.2.2.2.2.2.2.2.2] : List Value).toArray 80 (0, 0)), M_141, Mem.one g_77 (.cells ([.int .i64 t_44.1.Kind, .int .i64 t_44.1.From, .int .i64 t_44.1.To, .int .i64 t_44.1.View, .int .i64 t_44.1.Inst, .int .i64 t_44.1.Len, .bool t_44.1.Has, .int .i64 t_44.1.Members, .int .i64 t_44.1.Source, .int .i64 t_44.1.At, .int .i64 t_44.1.Total, v_48, .int .i64 t_44.1.Hop, .int .i64 t_44.1.Seq, v_50, v_52, .int .i64 t_44.1.Index, .int .i64 t_44.1.Entry.Sess, .int .i64 t_44.1.Entry.Seq, .int .i64 t_44.1.Entry.Cmd.Kind, .int .i64 t_44.1.Entry.Cmd.Who, v_54, v_56, v_58] : List Value).toArray 29 (0, 0))] Z) 18 (by kernel_rfl) rfl [false, false, false, false, false, false, false, false, false, false, false, false, false, false, false, false, false, false].toArray rfl hS fun w_167 hS => ?_
                  replace hS : Sep w0 w_167 [N_157, Mem.one g_5 (.cells ([.int .i64 t_135.2.1, .int .i64 t_135.2.2.1, .int .i64 t_135.2.2.2.1, v_139, .int .i64 t_135.2.2.2.2.2.1, .int .i64 t_135.2.2.2.2.2.2.1, .int .i64 t_135.2.2.2.2.2.2.2.1, .int .i64 t_135.2.2.2.2.2.2.2.2.1, .int .i64 t_135.2.2.2.2.2.2.2.2.2.1, .int .i64 t_135.2.2.2.2.2.2.2.2.2.2.1, .int .i64 t_135.2.2.2.2.2.2.2.2.2.2.2.1, .int .i64 t_135.2.2.2.2.2.2.2.2.2.2.2.2.1, .bool t_135.2.2.2.2.2.2.2.2.2.2.2.2.2.1, .int .i64 t_135.2.2.2.2.2.2.2.2.2.2.2.2.2.2.1, .int .i64 t_135.2.2.2.2.2.2.2.2.2.2.2.2.2.2.2.1, .int .i64 t_135.2.2.2.2.2.2.2.2.2.2.2.2.2.2.2.2.1, .int .i64 t_135.2.2.2.2.2.2.2.2.2.2.2.2.2.2.2.2.2.1, v_143, .int .i64 t_135.2.2.2.2.2.2.2.2.2.2.2.2.2.2.2.2.2.2.2.1, .int .i64 t_135.2.2.2.2.2.2.2.2.2.2.2.2.2.2.2.2.2.2.2.2.1, v_145, v_147, .int .i64 t_135.2.2.2.2.2.2.2.2.2.2.2.2.2.2.2.2.2.2.2.2.2.2.2.1, .int .i64 t_135.2.2.2.2.2.2.2.2.2.2.2.2.2.2.2.2.2.2.2.2.2.2.2.2.1, .int .i64 t_135.2.2.2.2.2.2.2.2.2.2.2.2.2.2.2.2.2.2.2.2.2.2.2.2.2.1, .int .i64 t_135.2.2.2.2.2.2.2.2.2.2.2.2.2.2.2.2.2.2.2.2.2.2.2.2.2.2.1, .int .i64 t_135.2.2.2.2.2.2.2.2.2.2.2.2.2.2.2.2.2.2.2.2.2.2.2.2.2.2.2.1, v_149, v_151, v_153, .bool t_135.2.2.2.2.2.2.2.2.2.2.2.2.2.2.2.2.2.2.2.2.2.2.2.2.2.2.2.2.2.2.2] : List Value).toArray 80 (0, 0)), M_141, Mem.one g_77 (.cells ([.int .i64 t_44.1.Kind, .int .i64 t_44.1.From, .int .i64 t_44.1.To, .int .i64 t_44.1.View, .int .i64 t_44.1.Inst, .int .i64 t_44.1.Len, .bool t_44.1.Has, .int .i64 t_44.1.Members, .int .i64 t_44.1.Source, .int .i64 t_44.1.At, .int .i64 t_44.1.Total, v_48, .int .i64 t_44.1.Hop, .int .i64 t_44.1.Seq, v_50, v_52, .int .i64 t_44.1.Index, .int .i64 t_44.1.Entry.Sess, .int .i64 t_44.1.Entry.Seq, .int .i64 t_44.1.Entry.Cmd.Kind, .int .i64 t_44.1.Entry.Cmd.Who, v_54, v_56, v_58] : List Value).toArray 29 (0, 0))] Z := hS
                  refine h_take 0 [true, false, false, false, false, false, false, false, false, false, false, false, false, false, false, false, false, false].toArray rfl (by kernel_rfl) (by kernel_rfl) (by kernel_rfl) (fun _ _ _ _ h => h) rfl rfl rfl rfl hm (hS.sub (.cons (Mem.le.refl _) (.cons (Mem.le.refl _) (.cons (Mem.le.refl _) (.cons (Mem.le.refl _) (Sub.nil _)))))) (v := .pointer (some ⟨g_5, 0, none⟩)) (fun w hS => r_move hm rfl) ?_
                  clear hm a; intro a hm
                  refine h_take 2 [true, false, true, false, false, false, false, false, false, false, false, false, false, false, false, false, false, false].toArray rfl (by kernel_rfl) (by kernel_rfl) (by kernel_rfl) (fun _ _ _ _ h => h) rfl rfl rfl rfl hm (hS.sub (.cons (Mem.le.refl _) (.cons (Mem.le.refl _) (.cons (Mem.le.refl _) (.cons (Mem.le.refl _) (Sub.nil _)))))) (v := .int .i64 x_158) (fun w hS => r_move hm rfl) ?_
                  clear hm a; intro a hm
                  refine h_take 3 [true, false, true, true, false, false, false, false, false, false, false, false, false, false, false, false, false, false].toArray rfl (by kernel_rfl) (by kernel_rfl) (by kernel_rfl) (fun _ _ _ _ h => h) rfl rfl rfl rfl hm (hS.sub (.cons (Mem.le.refl _) (.cons (Mem.le.refl _) (.cons (Mem.le.refl _) (.cons (Mem.le.refl _) (Sub.nil _)))))) (v := .pointer (some ⟨g_77, 7, none⟩)) (fun w hS => r_fieldAddr hm Try.underlying29 rfl ti3 rfl rfl rfl) ?_
                  clear hm a; intro a hm
                  refine h_take 4 [true, false, true, true, true, false, false, false, false, false, false, false, false, false, false, false, false, false].toArray rfl (by kernel_rfl) (by kernel_rfl) (by kernel_rfl) (fun _ _ _ _ h => h) rfl rfl rfl rfl hm (hS.sub (.cons (Mem.le.refl _) (.cons (Mem.le.refl _) (.cons (Mem.le.refl _) (.cons (Mem.le.refl _) (Sub.nil _)))))) (v := .int .i64 t_44.1.Members) (fun w hS => r_load hm rfl (hS.load_one (p := 3) rfl Try.underlying3 rfl rfl)) ?_
                  clear hm a; intro a hm
                  refine h_take 5 [true, false, true, true, true, true, false, false, false, false, false, false, false, false, false, false, false, false].toArray rfl (by kernel_rfl) (by kernel_rfl) (by kernel_rfl) (fun _ _ _ _ h => h) rfl rfl rfl rfl hm (hS.sub (.cons (Mem.le.refl _) (.cons (Mem.le.refl _) (.cons (Mem.le.refl _) (.cons (Mem.le.refl _) (Sub.nil _)))))) (v := .bool (x_158 == t_44.1.Members)) (fun w hS => r_cmp (b := (x_158 == t_44.1.Members)) hm rfl rfl (.inl ⟨rfl, rfl⟩)) ?_
                  clear hm a; intro a hm
                  refine h_event 1 [true, true, true, true, true, true, false, false, false, false, false, false, false, false, false, false, false, false].toArray rfl (by kernel_rfl) rfl ?_
                  obtain ⟨t_168, et_168, H⟩ := Option.bind_eq_some_iff.1 H
                  refine s_call hm rfl Try.call46 rfl (gath_Gather_Done.calls K _ t_135.2.1 t_135.2.2.1 t_135.2.2.2.1 t_135.2.2.2.2.1 _ t_135.2.2.2.2.2.1 t_135.2.2.2.2.2.2.1 t_135.2.2.2.2.2.2.2.1 t_135.2.2.2.2.2.2.2.2.1 t_135.2.2.2.2.2.2.2.2.2.1 t_135.2.2.2.2.2.2.2.2.2.2.1 t_135.2.2.2.2.2.2.2.2.2.2.2.1 t_135.2.2.2.2.2.2.2.2.2.2.2.2.1 t_135.2.2.2.2.2.2.2.2.2.2.2.2.2.1 t_135.2.2.2.2.2.2.2.2.2.2.2.2.2.2.1 t_135.2.2.2.2.2.2.2.2.2.2.2.2.2.2.2.1 t_135.2.2.2.2.2.2.2.2.2.2.2.2.2.2.2.2.1 t_135.2.2.2.2.2.2.2.2.2.2.2.2.2.2.2.2.2.1 t_135.2.2.2.2.2.2.2.2.2.2.2.2.2.2.2.2.2.2.1 _ t_135.2.2.2.2.2.2.2.2.2.2.2.2.2.2.2.2.2.2.2.1 t_135.2.2.2.2.2.2.2.2.2.2.2.2.2.2.2.2.2.2.2.2.1 t_135.2.2.2.2.2.2.2.2.2.2.2.2.2.2.2.2.2.2.2.2.2.1 _ t_135.2.2.2.2.2.2.2.2.2.2.2.2.2.2.2.2.2.2.2.2.2.2.1 _ t_135.2.2.2.2.2.2.2.2.2.2.2.2.2.2.2.2.2.2.2.2.2.2.2.1 t_135.2.2.2.2.2.2.2.2.2.2.2.2.2.2.2.2.2.2.2.2.2.2.2.2.1 t_135.2.2.2.2.2.2.2.2.2.2.2.2.2.2.2.2.2.2.2.2.2.2.2.2.2.1 t_135.2.2.2.2.2.2.2.2.2.2.2.2.2.2.2.2.2.2.2.2.2.2.2.2.2.2.1 t_135.2.2.2.2.2.2.2.2.2.2.2.2.2.2.2.2.2.2.2.2.2.2.2.2.2.2.2.1 t_135.2.2.2.2.2.2.2.2.2.2.2.2.2.2.2.2.2.2.2.2.2.2.2.2.2.2.2.2.1 _ t_135.2.2.2.2.2.2.2.2.2.2.2.2.2.2.2.2.2.2.2.2.2.2.2.2.2.2.2.2.2.1 _ t_135.2.2.2.2.2.2.2.2.2.2.2.2.2.2.2.2.2.2.2.2.2.2.2.2.2.2.2.2.2.2.1 _ t_135.2.2.2.2.2.2.2.2.2.2.2.2.2.2.2.2.2.2.2.2.2.2.2.2.2.2.2.2.2.2.2 t_168 w0 _ _ _ (Mem.le.refl _) (hS.enter [0] (by decide)) ((hr_140.mono (Mem.un_le le_138 ln_138)).rd (hS.own_zed [0] 1 (by decide)) (le_157.trans (hS.new_zed [0]))) ((hr_144.mono (Mem.un_le le_138 ln_138)).mono (le_157.trans (hS.new_zed [0]))) ((hr_146.mono (Mem.un_le le_138 ln_138)).mono (le_157.trans (hS.new_zed [0]))) ((hr_148.mono (Mem.un_le le_138 ln_138)).mono (le_157.trans (hS.new_zed [0]))) ((hr_150.mono (Mem.un_le le_138 ln_138)).mono (le_157.trans (hS.new_zed [0]))) ((hr_152.mono (Mem.un_le le_138 ln_138)).mono (le_157.trans (hS.new_zed [0]))) ((hr_154.mono (Mem.un_le le_138 ln_138)).mono (le_157.trans (hS.new_zed [0]))) et_168) ?_
                  rintro _ w_169 ⟨N_170, rfl, hS'⟩
                  clear hm a; intro a hm
                  obtain ⟨N_171, hS'', le_171, ln_171⟩ := hS.call [0] (by decide) rfl (l' := [Mem.one g_5 (.cells ([.int .i64 t_135.2.1, .int .i64 t_135.2.2.1, .int .i64 t_135.2.2.2.1, v_139, .int .i64 t_135.2.2.2.2.2.1, .int .i64 t_135.2.2.2.2.2.2.1, .int .i64 t_135.2.2.2.2.2.2.2.1, .int .i64 t_135.2.2.2.2.2.2.2.2.1, .int .i64 t_135.2.2.2.2.2.2.2.2.2.1, .int .i64 t_135.2.2.2.2.2.2.2.2.2.2.1, .int .i64 t_135.2.2.2.2.2.2.2.2.2.2.2.1, .int .i64 t_135.2.2.2.2.2.2.2.2.2.2.2.2.1, .bool t_135.2.2.2.2.2.2.2.2.2.2.2.2.2.1, .int .i64 t_135.2.2.2.2.2.2.2.2.2.2.2.2.2.2.1, .int .i64 t_135.2.2.2.2.2.2.2.2.2.2.2.2.2.2.2.1, .int .i64 t_135.2.2.2.2.2.2.2.2.2.2.2.2.2.2.2.2.1, .int .i64 t_135.2.2.2.2.2.2.2.2.2.2.2.2.2.2.2.2.2.1, v_143, .int .i64 t_135.2.2.2.2.2.2.2.2.2.2.2.2.2.2.2.2.2.2.2.1, .int .i64 t_135.2.2.2.2.2.2.2.2.2.2.2.2.2.2.2.2.2.2.2.2.1, v_145, v_147, .int .i64 t_135.2.2.2.2.2.2.2.2.2.2.2.2.2.2.2.2.2.2.2.2.2.2.2.1, .int .i64 t_135.2.2.2.2.2.2.2.2.2.2.2.2.2.2.2.2.2.2.2.2.2.2.2.2.1, .int .i64 t_135.2.2.2.2.2.2.2.2.2.2.2.2.2.2.2.2.2.2.2.2.2.2.2.2.2.1, .int .i64 t_135.2.2.2.2.2.2.2.2.2.2.2.2.2.2.2.2.2.2.2.2.2.2.2.2.2.2.1, .int .i64 t_135.2.2.2.2.2.2.2.2.2.2.2.2.2.2.2.2.2.2.2.2.2.2.2.2.2.2.2.1, v_149, v_151, v_153, .bool t_135.2.2.2.2.2.2.2.2.2.2.2.2.2.2.2.2.2.2.2.2.2.2.2.2.2.2.2.2.2.2.2] : List Value).toArray 80 (0, 0))]) (ow := []) rfl hS'
                  replace hS : Sep w0 w_169 [N_171, Mem.one g_5 (.cells ([.int .i64 t_135.2.1, .int .i64 t_135.2.2.1, .int .i64 t_135.2.2.2.1, v_139, .int .i64 t_135.2.2.2.2.2.1, .int .i64 t_135.2.2.2.2.2.2.1, .int .i64 t_135.2.2.2.2.2.2.2.1, .int .i64 t_135.2.2.2.2.2.2.2.2.1, .int .i64 t_135.2.2.2.2.2.2.2.2.2.1, .int .i64 t_135.2.2.2.2.2.2.2.2.2.2.1, .int .i64 t_135.2.2.2.2.2.2.2.2.2.2.2.1, .int .i64 t_135.2.2.2.2.2.2.2.2.2.2.2.2.1, .bool t_135.2.2.2.2.2.2.2.2.2.2.2.2.2.1, .int .i64 t_135.2.2.2.2.2.2.2.2.2.2.2.2.2.2.1, .int .i64 t_135.2.2.2.2.2.2.2.2.2.2.2.2.2.2.2.1, .int .i64 t_135.2.2.2.2.2.2.2.2.2.2.2.2.2.2.2.2.1, .int .i64 t_135.2.2.2.2.2.2.2.2.2.2.2.2.2.2.2.2.2.1, v_143, .int .i64 t_135.2.2.2.2.2.2.2.2.2.2.2.2.2.2.2.2.2.2.2.1, .int .i64 t_135.2.2.2.2.2.2.2.2.2.2.2.2.2.2.2.2.2.2.2.2.1, v_145, v_147, .int .i64 t_135.2.2.2.2.2.2.2.2.2.2.2.2.2.2.2.2.2.2.2.2.2.2.2.1, .int .i64 t_135.2.2.2.2.2.2.2.2.2.2.2.2.2.2.2.2.2.2.2.2.2.2.2.2.1, .int .i64 t_135.2.2.2.2.2.2.2.2.2.2.2.2.2.2.2.2.2.2.2.2.2.2.2.2.2.1, .int .i64 t_135.2.2.2.2.2.2.2.2.2.2.2.2.2.2.2.2.2.2.2.2.2.2.2.2.2.2.1, .int .i64 t_135.2.2.2.2.2.2.2.2.2.2.2.2.2.2.2.2.2.2.2.2.2.2.2.2.2.2.2.1, v_149, v_151, v_153, .bool t_135.2.2.2.2.2.2.2.2.2.2.2.2.2.2.2.2.2.2.2.2.2.2.2.2.2.2.2.2.2.2.2] : List Value).toArray 80 (0, 0)), M_141, Mem.one g_77 (.cells ([.int .i64 t_44.1.Kind, .int .i64 t_44.1.From, .int .i64 t_44.1.To, .int .i64 t_44.1.View, .int .i64 t_44.1.Inst, .int .i64 t_44.1.Len, .bool t_44.1.Has, .int .i64 t_44.1.Members, .int .i64 t_44.1.Source, .int .i64 t_44.1.At, .int .i64 t_44.1.Total, v_48, .int .i64 t_44.1.Hop, .int .i64 t_44.1.Seq, v_50, v_52, .int .i64 t_44.1.Index, .int .i64 t_44.1.Entry.Sess, .int .i64 t_44.1.Entry.Seq, .int .i64 t_44.1.Entry.Cmd.Kind, .int .i64 t_44.1.Entry.Cmd.Who, v_54, v_56, v_58] : List Value).toArray 29 (0, 0))] Z := hS''
                  clear hS' hS''
                  refine wpList_nil ?_
                  refine x_then_n ⟨(hS.sub (.cons le_171 (.cons (Mem.le.refl _) (.cons (Mem.le.refl _) (.cons (Mem.le.refl _) (Sub.nil _)))))), ?_⟩
                  refine h_take 6 [true, true, true, true, true, true, true, false, false, false, false, false, false, false, false, false, false, false].toArray rfl (by kernel_rfl) (by kernel_rfl) (by kernel_rfl) (fun _ _ _ _ h => h) rfl rfl rfl rfl hm (hS.sub (.cons le_171 (.cons (Mem.le.refl _) (.cons (Mem.le.refl _) (.cons (Mem.le.refl _) (Sub.nil _)))))) (v := .bool (!(t_168 == (x_158 == t_44.1.Members)))) (fun w hS => r_beq (b := !(t_168 == (x_158 == t_44.1.Members))) hm Try.underlying4 rfl rfl (.inr ⟨rfl, rfl⟩)) ?_
                  clear hm a; intro a hm
                  refine h_take 7 [true, true, true, true, true, true, true, true, false, false, false, false, false, false, false, false, false, false].toArray rfl (by kernel_rfl) (by kernel_rfl) (by kernel_rfl) (fun _ _ _ _ h => h) rfl rfl rfl rfl hm (hS.sub (.cons le_171 (.cons (Mem.le.refl _) (.cons (Mem.le.refl _) (.cons (Mem.le.refl _) (Sub.nil _)))))) (v := .bool (!(t_168 == (x_158 == t_44.1.Members)))) (fun w hS => r_move hm rfl) ?_
                  clear hm a; intro a hm
                  by_cases hc_172 : t_168 = (x_158 == t_44.1.Members)
                  · rw [if_pos hc_172] at H
                    refine h_take_on 8 [true, true, true, true, true, true, true, true, true, false, false, false, false, false, false, false, false, false].toArray rfl (by kernel_rfl) (by kernel_rfl) (by kernel_rfl) (fun _ _ _ _ h => h) rfl rfl rfl rfl (nf (beq_iff_eq.2 hc_172)) rfl rfl hm (hS.sub (.cons le_171 (.cons (Mem.le.refl _) (.cons (Mem.le.refl _) (.cons (Mem.le.refl _) (Sub.nil _)))))) (v := .pointer (some ⟨g_5, 0, none⟩)) (fun w hS => r_move hm rfl) ?_
                    clear hm a; intro a hm
                    refine h_take_on 10 [true, true, true, true, true, true, true, true, true, false, true, false, false, false, false, false, false, false].toArray rfl (by kernel_rfl) (by kernel_rfl) (by kernel_rfl) (fun _ _ _ _ h => h) rfl rfl rfl rfl (nf (beq_iff_eq.2 hc_172)) rfl rfl hm (hS.sub (.cons le_171 (.cons (Mem.le.refl _) (.cons (Mem.le.refl _) (.cons (Mem.le.refl _) (Sub.nil _)))))) (v := .pointer (some ⟨g_77, 7, none⟩)) (fun w hS => r_fieldAddr hm Try.underlying29 rfl ti3 rfl rfl rfl) ?_
                    clear hm a; intro a hm
                    refine h_take_on 11 [true, true, true, true, true, true, true, true, true, false, true, true, false, false, false, false, false, false].toArray rfl (by kernel_rfl) (by kernel_rfl) (by kernel_rfl) (fun _ _ _ _ h => h) rfl rfl rfl rfl (nf (beq_iff_eq.2 hc_172)) rfl rfl hm (hS.sub (.cons le_171 (.cons (Mem.le.refl _) (.cons (Mem.le.refl _) (.cons (Mem.le.refl _) (Sub.nil _)))))) (v := .int .i64 t_44.1.Members) (fun w hS => r_load hm rfl (hS.load_one (p := 3) rfl Try.underlying3 rfl rfl)) ?_
                    clear hm a; intro a hm
                    refine h_take_on 12 [true, true, true, true, true, true, true, true, true, false, true, true, true, false, false, false, false, false].toArray rfl (by kernel_rfl) (by kernel_rfl) (by kernel_rfl) (fun _ _ _ _ h => h) rfl rfl rfl rfl (nf (beq_iff_eq.2 hc_172)) rfl rfl hm (hS.sub (.cons le_171 (.cons (Mem.le.refl _) (.cons (Mem.le.refl _) (.cons (Mem.le.refl _) (Sub.nil _)))))) (v := .int .i64 x_158) (fun w hS => r_move hm rfl) ?_
                    clear hm a; intro a hm
                    refine h_take_on 13 [true, true, true, true, true, true, true, true, true, false, true, true, true, true, false, false, false, false].toArray rfl (by kernel_rfl) (by kernel_rfl) (by kernel_rfl) (fun _ _ _ _ h => h) rfl rfl rfl rfl (nf (beq_iff_eq.2 hc_172)) rfl rfl hm (hS.sub (.cons le_171 (.cons (Mem.le.refl _) (.cons (Mem.le.refl _) (.cons (Mem.le.refl _) (Sub.nil _)))))) (v := .int .i64 (bandn .i64 t_44.1.Members x_158)) (fun w hS => r_bits (i := t_44.1.Members) (j := x_158) (r := bandn .i64 t_44.1.Members x_158) hm rfl rfl (.inr (.inr (.inr ⟨rfl, rfl⟩)))) ?_
                    clear hm a; intro a hm
                    refine h_event 9 [true, true, true, true, true, true, true, true, true, true, true, true, true, true, false, false, false, false].toArray rfl (by kernel_rfl) rfl ?_
                    refine s_on hm rfl rfl (nf (beq_iff_eq.2 hc_172)) ?_
                    obtain ⟨t_173, et_173, H⟩ := Option.bind_eq_some_iff.1 H
                    refine s_call hm rfl Try.call48 rfl (gath_Gather_Unready.calls K _ t_135.2.1 t_135.2.2.1 t_135.2.2.2.1 t_135.2.2.2.2.1 _ t_135.2.2.2.2.2.1 t_135.2.2.2.2.2.2.1 t_135.2.2.2.2.2.2.2.1 t_135.2.2.2.2.2.2.2.2.1 t_135.2.2.2.2.2.2.2.2.2.1 t_135.2.2.2.2.2.2.2.2.2.2.1 t_135.2.2.2.2.2.2.2.2.2.2.2.1 t_135.2.2.2.2.2.2.2.2.2.2.2.2.1 t_135.2.2.2.2.2.2.2.2.2.2.2.2.2.1 t_135.2.2.2.2.2.2.2.2.2.2.2.2.2.2.1 t_135.2.2.2.2.2.2.2.2.2.2.2.2.2.2.2.1 t_135.2.2.2.2.2.2.2.2.2.2.2.2.2.2.2.2.1 t_135.2.2.2.2.2.2.2.2.2.2.2.2.2.2.2.2.2.1 t_135.2.2.2.2.2.2.2.2.2.2.2.2.2.2.2.2.2.2.1 _ t_135.2.2.2.2.2.2.2.2.2.2.2.2.2.2.2.2.2.2.2.1 t_135.2.2.2.2.2.2.2.2.2.2.2.2.2.2.2.2.2.2.2.2.1 t_135.2.2.2.2.2.2.2.2.2.2.2.2.2.2.2.2.2.2.2.2.2.1 _ t_135.2.2.2.2.2.2.2.2.2.2.2.2.2.2.2.2.2.2.2.2.2.2.1 _ t_135.2.2.2.2.2.2.2.2.2.2.2.2.2.2.2.2.2.2.2.2.2.2.2.1 t_135.2.2.2.2.2.2.2.2.2.2.2.2.2.2.2.2.2.2.2.2.2.2.2.2.1 t_135.2.2.2.2.2.2.2.2.2.2.2.2.2.2.2.2.2.2.2.2.2.2.2.2.2.1 t_135.2.2.2.2.2.2.2.2.2.2.2.2.2.2.2.2.2.2.2.2.2.2.2.2.2.2.1 t_135.2.2.2.2.2.2.2.2.2.2.2.2.2.2.2.2.2.2.2.2.2.2.2.2.2.2.2.1 t_135.2.2.2.2.2.2.2.2.2.2.2.2.2.2.2.2.2.2.2.2.2.2.2.2.2.2.2.2.1 _ t_135.2.2.2.2.2.2.2.2.2.2.2.2.2.2.2.2.2.2.2.2.2.2.2.2.2.2.2.2.2.1 _ t_135.2.2.2.2.2.2.2.2.2.2.2.2.2.2.2.2.2.2.2.2.2.2.2.2.2.2.2.2.2.2.1 _ t_135.2.2.2.2.2.2.2.2.2.2.2.2.2.2.2.2.2.2.2.2.2.2.2.2.2.2.2.2.2.2.2 t_173 w0 _ _ _ (Mem.le.refl _) (hS.enter [0] (by decide)) ((hr_140.mono (Mem.un_le le_138 ln_138)).rd (hS.own_zed [0] 1 (by decide)) ((le_157.trans le_171).trans (hS.new_zed [0]))) ((hr_144.mono (Mem.un_le le_138 ln_138)).mono ((le_157.trans le_171).trans (hS.new_zed [0]))) ((hr_146.mono (Mem.un_le le_138 ln_138)).mono ((le_157.trans le_171).trans (hS.new_zed [0]))) ((hr_148.mono (Mem.un_le le_138 ln_138)).mono ((le_157.trans le_171).trans (hS.new_zed [0]))) ((hr_150.mono (Mem.un_le le_138 ln_138)).mono ((le_157.trans le_171).trans (hS.new_zed [0]))) ((hr_152.mono (Mem.un_le le_138 ln_138)).mono ((le_157.trans le_171).trans (hS.new_zed [0]))) ((hr_154.mono (Mem.un_le le_138 ln_138)).mono ((le_157.trans le_171).trans (hS.new_zed [0]))) et_173) ?_
                    rintro v_177 w_174 ⟨_, N_175, M_179, rfl, hS', hr_178⟩
                    clear hm a; intro a hm
                    obtain ⟨N_176, hS'', le_176, ln_176⟩ := hS.call [0] (by decide) rfl (l' := [Mem.one g_5 (.cells ([.int .i64 t_135.2.1, .int .i64 t_135.2.2.1, .int .i64 t_135.2.2.2.1, v_139, .int .i64 t_135.2.2.2.2.2.1, .int .i64 t_135.2.2.2.2.2.2.1, .int .i64 t_135.2.2.2.2.2.2.2.1, .int .i64 t_135.2.2.2.2.2.2.2.2.1, .int .i64 t_135.2.2.2.2.2.2.2.2.2.1, .int .i64 t_135.2.2.2.2.2.2.2.2.2.2.1, .int .i64 t_135.2.2.2.2.2.2.2.2.2.2.2.1, .int .i64 t_135.2.2.2.2.2.2.2.2.2.2.2.2.1, .bool t_135.2.2.2.2.2.2.2.2.2.2.2.2.2.1, .int .i64 t_135.2.2.2.2.2.2.2.2.2.2.2.2.2.2.1, .int .i64 t_135.2.2.2.2.2.2.2.2.2.2.2.2.2.2.2.1, .int .i64 t_135.2.2.2.2.2.2.2.2.2.2.2.2.2.2.2.2.1, .int .i64 t_135.2.2.2.2.2.2.2.2.2.2.2.2.2.2.2.2.2.1, v_143, .int .i64 t_135.2.2.2.2.2.2.2.2.2.2.2.2.2.2.2.2.2.2.2.1, .int .i64 t_135.2.2.2.2.2.2.2.2.2.2.2.2.2.2.2.2.2.2.2.2.1, v_145, v_147, .int .i64 t_135.2.2.2.2.2.2.2.2.2.2.2.2.2.2.2.2.2.2.2.2.2.2.2.1, .int .i64 t_135.2.2.2.2.2.2.2.2.2.2.2.2.2.2.2.2.2.2.2.2.2.2.2.2.1, .int .i64 t_135.2.2.2.2.2.2.2.2.2.2.2.2.2.2.2.2.2.2.2.2.2.2.2.2.2.1, .int .i64 t_135.2.2.2.2.2.2.2.2.2.2.2.2.2.2.2.2.2.2.2.2.2.2.2.2.2.2.1, .int .i64 t_135.2.2.2.2.2.2.2.2.2.2.2.2.2.2.2.2.2.2.2.2.2.2.2.2.2.2.2.1, v_149, v_151, v_153, .bool t_135.2.2.2.2.2.2.2.2.2.2.2.2.2.2.2.2.2.2.2.2.2.2.2.2.2.2.2.2.2.2.2] : List Value).toArray 80 (0, 0))]) (ow := [M_179]) rfl hS'
                    replace hS : Sep w0 w_174 [N_176, Mem.one g_5 (.cells ([.int .i64 t_135.2.1, .int .i64 t_135.2.2.1, .int .i64 t_135.2.2.2.1, v_139, .int .i64 t_135.2.2.2.2.2.1, .int .i64 t_135.2.2.2.2.2.2.1, .int .i64 t_135.2.2.2.2.2.2.2.1, .int .i64 t_135.2.2.2.2.2.2.2.2.1, .int .i64 t_135.2.2.2.2.2.2.2.2.2.1, .int .i64 t_135.2.2.2.2.2.2.2.2.2.2.1, .int .i64 t_135.2.2.2.2.2.2.2.2.2.2.2.1, .int .i64 t_135.2.2.2.2.2.2.2.2.2.2.2.2.1, .bool t_135.2.2.2.2.2.2.2.2.2.2.2.2.2.1, .int .i64 t_135.2.2.2.2.2.2.2.2.2.2.2.2.2.2.1, .int .i64 t_135.2.2.2.2.2.2.2.2.2.2.2.2.2.2.2.1, .int .i64 t_135.2.2.2.2.2.2.2.2.2.2.2.2.2.2.2.2.1, .int .i64 t_135.2.2.2.2.2.2.2.2.2.2.2.2.2.2.2.2.2.1, v_143, .int .i64 t_135.2.2.2.2.2.2.2.2.2.2.2.2.2.2.2.2.2.2.2.1, .int .i64 t_135.2.2.2.2.2.2.2.2.2.2.2.2.2.2.2.2.2.2.2.2.1, v_145, v_147, .int .i64 t_135.2.2.2.2.2.2.2.2.2.2.2.2.2.2.2.2.2.2.2.2.2.2.2.1, .int .i64 t_135.2.2.2.2.2.2.2.2.2.2.2.2.2.2.2.2.2.2.2.2.2.2.2.2.1, .int .i64 t_135.2.2.2.2.2.2.2.2.2.2.2.2.2.2.2.2.2.2.2.2.2.2.2.2.2.1, .int .i64 t_135.2.2.2.2.2.2.2.2.2.2.2.2.2.2.2.2.2.2.2.2.2.2.2.2.2.2.1, .int .i64 t_135.2.2.2.2.2.2.2.2.2.2.2.2.2.2.2.2.2.2.2.2.2.2.2.2.2.2.2.1, v_149, v_151, v_153, .bool t_135.2.2.2.2.2.2.2.2.2.2.2.2.2.2.2.2.2.2.2.2.2.2.2.2.2.2.2.2.2.2.2] : List Value).toArray 80 (0, 0)), M_141, Mem.one g_77 (.cells ([.int .i64 t_44.1.Kind, .int .i64 t_44.1.From, .int .i64 t_44.1.To, .int .i64 t_44.1.View, .int .i64 t_44.1.Inst, .int .i64 t_44.1.Len, .bool t_44.1.Has, .int .i64 t_44.1.Members, .int .i64 t_44.1.Source, .int .i64 t_44.1.At, .int .i64 t_44.1.Total, v_48, .int .i64 t_44.1.Hop, .int .i64 t_44.1.Seq, v_50, v_52, .int .i64 t_44.1.Index, .int .i64 t_44.1.Entry.Sess, .int .i64 t_44.1.Entry.Seq, .int .i64 t_44.1.Entry.Cmd.Kind, .int .i64 t_44.1.Entry.Cmd.Who, v_54, v_56, v_58] : List Value).toArray 29 (0, 0)), M_179] Z := hS''
                    clear hS' hS''
                    refine wpList_nil ?_
                    refine x_then_n ⟨(hS.sub (.cons (le_171.trans le_176) (.cons (Mem.le.refl _) (.cons (Mem.le.refl _) (.cons (Mem.le.refl _) (Sub.nil _)))))), ?_⟩
                    refine h_event 14 [true, true, true, true, true, true, true, true, true, true, true, true, true, true, true, false, false, false].toArray rfl (by kernel_rfl) rfl ?_
                    refine s_on hm rfl rfl (nf (beq_iff_eq.2 hc_172)) ?_
                    obtain ⟨t_181, et_181, H⟩ := Option.bind_eq_some_iff.1 H
                    refine s_call hm rfl Try.call26 rfl (hocketref11_Members.calls K (bandn .i64 t_44.1.Members x_158) t_181 w0 _ _ _ (Mem.le.refl _) (hS.enter [] (by decide))  et_181) ?_
                    rintro v_185 w_182 ⟨_, N_183, M_187, rfl, hS', hr_186⟩
                    clear hm a; intro a hm
                    obtain ⟨N_184, hS'', le_184, ln_184⟩ := hS.call [] (by decide) rfl (l' := []) (ow := [M_187]) rfl hS'
                    replace hS : Sep w0 w_182 [N_184, Mem.one g_5 (.cells ([.int .i64 t_135.2.1, .int .i64 t_135.2.2.1, .int .i64 t_135.2.2.2.1, v_139, .int .i64 t_135.2.2.2.2.2.1, .int .i64 t_135.2.2.2.2.2.2.1, .int .i64 t_135.2.2.2.2.2.2.2.1, .int .i64 t_135.2.2.2.2.2.2.2.2.1, .int .i64 t_135.2.2.2.2.2.2.2.2.2.1, .int .i64 t_135.2.2.2.2.2.2.2.2.2.2.1, .int .i64 t_135.2.2.2.2.2.2.2.2.2.2.2.1, .int .i64 t_135.2.2.2.2.2.2.2.2.2.2.2.2.1, .bool t_135.2.2.2.2.2.2.2.2.2.2.2.2.2.1, .int .i64 t_135.2.2.2.2.2.2.2.2.2.2.2.2.2.2.1, .int .i64 t_135.2.2.2.2.2.2.2.2.2.2.2.2.2.2.2.1, .int .i64 t_135.2.2.2.2.2.2.2.2.2.2.2.2.2.2.2.2.1, .int .i64 t_135.2.2.2.2.2.2.2.2.2.2.2.2.2.2.2.2.2.1, v_143, .int .i64 t_135.2.2.2.2.2.2.2.2.2.2.2.2.2.2.2.2.2.2.2.1, .int .i64 t_135.2.2.2.2.2.2.2.2.2.2.2.2.2.2.2.2.2.2.2.2.1, v_145, v_147, .int .i64 t_135.2.2.2.2.2.2.2.2.2.2.2.2.2.2.2.2.2.2.2.2.2.2.2.1, .int .i64 t_135.2.2.2.2.2.2.2.2.2.2.2.2.2.2.2.2.2.2.2.2.2.2.2.2.1, .int .i64 t_135.2.2.2.2.2.2.2.2.2.2.2.2.2.2.2.2.2.2.2.2.2.2.2.2.2.1, .int .i64 t_135.2.2.2.2.2.2.2.2.2.2.2.2.2.2.2.2.2.2.2.2.2.2.2.2.2.2.1, .int .i64 t_135.2.2.2.2.2.2.2.2.2.2.2.2.2.2.2.2.2.2.2.2.2.2.2.2.2.2.2.1, v_149, v_151, v_153, .bool t_135.2.2.2.2.2.2.2.2.2.2.2.2.2.2.2.2.2.2.2.2.2.2.2.2.2.2.2.2.2.2.2] : List Value).toArray 80 (0, 0)), M_141, Mem.one g_77 (.cells ([.int .i64 t_44.1.Kind, .int .i64 t_44.1.From, .int .i64 t_44.1.To, .int .i64 t_44.1.View, .int .i64 t_44.1.Inst, .int .i64 t_44.1.Len, .bool t_44.1.Has, .int .i64 t_44.1.Members, .int .i64 t_44.1.Source, .int .i64 t_44.1.At, .int .i64 t_44.1.Total, v_48, .int .i64 t_44.1.Hop, .int .i64 t_44.1.Seq, v_50, v_52, .int .i64 t_44.1.Index, .int .i64 t_44.1.Entry.Sess, .int .i64 t_44.1.Entry.Seq, .int .i64 t_44.1.Entry.Cmd.Kind, .int .i64 t_44.1.Entry.Cmd.Who, v_54, v_56, v_58] : List Value).toArray 29 (0, 0)), M_179, M_187] Z := hS''
                    clear hS' hS''
                    refine wpList_nil ?_
                    refine x_then_n ⟨(hS.sub (.cons (le_171.trans (le_176.trans le_184)) (.cons (Mem.le.refl _) (.cons (Mem.le.refl _) (.cons (Mem.le.refl _) (Sub.nil _)))))), ?_⟩
                    refine h_event 15 [true, true, true, true, true, true, true, true, true, true, true, true, true, true, true, true, false, false].toArray rfl (by kernel_rfl) rfl ?_
                    refine s_on hm rfl rfl (nf (beq_iff_eq.2 hc_172)) ?_
                    obtain ⟨t_189, et_189, H⟩ := Option.bind_eq_some_iff.1 H
                    refine s_call hm rfl Try.call25 rfl (hocketref1_SameInts.calls K t_173 _ t_181 _ t_189 w0 _ _ _ (Mem.le.refl _) (hS.enter [] (by decide)) (hr_178.rd (hS.own_zed [] 3 (by decide)) (Mem.no_le _)) (hr_186.rd (hS.own_zed [] 4 (by decide)) (Mem.no_le _)) et_189) ?_
                    rintro _ w_190 ⟨N_191, rfl, hS'⟩
                    clear hm a; intro a hm
                    obtain ⟨N_192, hS'', le_192, ln_192⟩ := hS.call [] (by decide) rfl (l' := []) (ow := []) rfl hS'
                    replace hS : Sep w0 w_190 [N_192, Mem.one g_5 (.cells ([.int .i64 t_135.2.1, .int .i64 t_135.2.2.1, .int .i64 t_135.2.2.2.1, v_139, .int .i64 t_135.2.2.2.2.2.1, .int .i64 t_135.2.2.2.2.2.2.1, .int .i64 t_135.2.2.2.2.2.2.2.1, .int .i64 t_135.2.2.2.2.2.2.2.2.1, .int .i64 t_135.2.2.2.2.2.2.2.2.2.1, .int .i64 t_135.2.2.2.2.2.2.2.2.2.2.1, .int .i64 t_135.2.2.2.2.2.2.2.2.2.2.2.1, .int .i64 t_135.2.2.2.2.2.2.2.2.2.2.2.2.1, .bool t_135.2.2.2.2.2.2.2.2.2.2.2.2.2.1, .int .i64 t_135.2.2.2.2.2.2.2.2.2.2.2.2.2.2.1, .int .i64 t_135.2.2.2.2.2.2.2.2.2.2.2.2.2.2.2.1, .int .i64 t_135.2.2.2.2.2.2.2.2.2.2.2.2.2.2.2.2.1, .int .i64 t_135.2.2.2.2.2.2.2.2.2.2.2.2.2.2.2.2.2.1, v_143, .int .i64 t_135.2.2.2.2.2.2.2.2.2.2.2.2.2.2.2.2.2.2.2.1, .int .i64 t_135.2.2.2.2.2.2.2.2.2.2.2.2.2.2.2.2.2.2.2.2.1, v_145, v_147, .int .i64 t_135.2.2.2.2.2.2.2.2.2.2.2.2.2.2.2.2.2.2.2.2.2.2.2.1, .int .i64 t_135.2.2.2.2.2.2.2.2.2.2.2.2.2.2.2.2.2.2.2.2.2.2.2.2.1, .int .i64 t_135.2.2.2.2.2.2.2.2.2.2.2.2.2.2.2.2.2.2.2.2.2.2.2.2.2.1, .int .i64 t_135.2.2.2.2.2.2.2.2.2.2.2.2.2.2.2.2.2.2.2.2.2.2.2.2.2.2.1, .int .i64 t_135.2.2.2.2.2.2.2.2.2.2.2.2.2.2.2.2.2.2.2.2.2.2.2.2.2.2.2.1, v_149, v_151, v_153, .bool t_135.2.2.2.2.2.2.2.2.2.2.2.2.2.2.2.2.2.2.2.2.2.2.2.2.2.2.2.2.2.2.2] : List Value).toArray 80 (0, 0)), M_141, Mem.one g_77 (.cells ([.int .i64 t_44.1.Kind, .int .i64 t_44.1.From, .int .i64 t_44.1.To, .int .i64 t_44.1.View, .int .i64 t_44.1.Inst, .int .i64 t_44.1.Len, .bool t_44.1.Has, .int .i64 t_44.1.Members, .int .i64 t_44.1.Source, .int .i64 t_44.1.At, .int .i64 t_44.1.Total, v_48, .int .i64 t_44.1.Hop, .int .i64 t_44.1.Seq, v_50, v_52, .int .i64 t_44.1.Index, .int .i64 t_44.1.Entry.Sess, .int .i64 t_44.1.Entry.Seq, .int .i64 t_44.1.Entry.Cmd.Kind, .int .i64 t_44.1.Entry.Cmd.Who, v_54, v_56, v_58] : List Value).toArray 29 (0, 0)), M_179, M_187] Z := hS''
                    clear hS' hS''
                    refine wpList_nil ?_
                    refine x_then_n ⟨(hS.sub (.cons (le_171.trans (le_176.trans (le_184.trans le_192))) (.cons (Mem.le.refl _) (.cons (Mem.le.refl _) (.cons (Mem.le.refl _) (Sub.nil _)))))), ?_⟩
                    refine h_take_on 16 [true, true, true, true, true, true, true, true, true, true, true, true, true, true, true, true, true, false].toArray rfl (by kernel_rfl) (by kernel_rfl) (by kernel_rfl) (fun _ _ _ _ h => h) rfl rfl rfl rfl (nf (beq_iff_eq.2 hc_172)) rfl rfl hm (hS.sub (.cons (le_171.trans (le_176.trans (le_184.trans le_192))) (.cons (Mem.le.refl _) (.cons (Mem.le.refl _) (.cons (Mem.le.refl _) (Sub.nil _)))))) (v := .bool (!t_189)) (fun w hS => r_not hm rfl) ?_
                    clear hm a; intro a hm
                    refine h_take 17 [true, true, true, true, true, true, true, true, true, true, true, true, true, true, true, true, true, true].toArray rfl (by kernel_rfl) (by kernel_rfl) (by kernel_rfl) (fun _ _ _ _ h => h) rfl rfl rfl rfl hm (hS.sub (.cons (le_171.trans (le_176.trans (le_184.trans le_192))) (.cons (Mem.le.refl _) (.cons (Mem.le.refl _) (.cons (Mem.le.refl _) (Sub.nil _)))))) (v := .bool (!t_189)) (fun w hS => r_pick_f hm rfl (nf (beq_iff_eq.2 hc_172)) rfl) ?_
                    clear hm a; intro a hm
                    refine h_done (by kernel_rfl) ?_
                    replace hm : Fr 120 a [(0, .int .i64 (w64 ((Int.tmod (band .i64 x0 255) 7) + 1))), (1, p1_0), (4, .bool false), (5, .pointer (some ⟨g_5, 0, none⟩)), (7, .pointer (some ⟨g_77, 0, none⟩)), (9, .int .i64 x_158), (10, .int .i64 x_96), (118, .bool (!t_189))] := hm.keep [0, 1, 4, 5, 7, 9, 10, 118]
                    replace hS : Sep w0 w_190 [N_192, Mem.one g_5 (.cells ([.int .i64 t_135.2.1, .int .i64 t_135.2.2.1, .int .i64 t_135.2.2.2.1, v_139, .int .i64 t_135.2.2.2.2.2.1, .int .i64 t_135.2.2.2.2.2.2.1, .int .i64 t_135.2.2.2.2.2.2.2.1, .int .i64 t_135.2.2.2.2.2.2.2.2.1, .int .i64 t_135.2.2.2.2.2.2.2.2.2.1, .int .i64 t_135.2.2.2.2.2.2.2.2.2.2.1, .int .i64 t_135.2.2.2.2.2.2.2.2.2.2.2.1, .int .i64 t_135.2.2.2.2.2.2.2.2.2.2.2.2.1, .bool t_135.2.2.2.2.2.2.2.2.2.2.2.2.2.1, .int .i64 t_135.2.2.2.2.2.2.2.2.2.2.2.2.2.2.1, .int .i64 t_135.2.2.2.2.2.2.2.2.2.2.2.2.2.2.2.1, .int .i64 t_135.2.2.2.2.2.2.2.2.2.2.2.2.2.2.2.2.1, .int .i64 t_135.2.2.2.2.2.2.2.2.2.2.2.2.2.2.2.2.2.1, v_143, .int .i64 t_135.2.2.2.2.2.2.2.2.2.2.2.2.2.2.2.2.2.2.2.1, .int .i64 t_135.2.2.2.2.2.2.2.2.2.2.2.2.2.2.2.2.2.2.2.2.1, v_145, v_147, .int .i64 t_135.2.2.2.2.2.2.2.2.2.2.2.2.2.2.2.2.2.2.2.2.2.2.2.1, .int .i64 t_135.2.2.2.2.2.2.2.2.2.2.2.2.2.2.2.2.2.2.2.2.2.2.2.2.1, .int .i64 t_135.2.2.2.2.2.2.2.2.2.2.2.2.2.2.2.2.2.2.2.2.2.2.2.2.2.1, .int .i64 t_135.2.2.2.2.2.2.2.2.2.2.2.2.2.2.2.2.2.2.2.2.2.2.2.2.2.2.1, .int .i64 t_135.2.2.2.2.2.2.2.2.2.2.2.2.2.2.2.2.2.2.2.2.2.2.2.2.2.2.2.1, v_149, v_151, v_153, .bool t_135.2.2.2.2.2.2.2.2.2.2.2.2.2.2.2.2.2.2.2.2.2.2.2.2.2.2.2.2.2.2.2] : List Value).toArray 80 (0, 0)), M_141, Mem.one g_77 (.cells ([.int .i64 t_44.1.Kind, .int .i64 t_44.1.From, .int .i64 t_44.1.To, .int .i64 t_44.1.View, .int .i64 t_44.1.Inst, .int .i64 t_44.1.Len, .bool t_44.1.Has, .int .i64 t_44.1.Members, .int .i64 t_44.1.Source, .int .i64 t_44.1.At, .int .i64 t_44.1.Total, v_48, .int .i64 t_44.1.Hop, .int .i64 t_44.1.Seq, v_50, v_52, .int .i64 t_44.1.Index, .int .i64 t_44.1.Entry.Sess, .int .i64 t_44.1.Entry.Seq, .int .i64 t_44.1.Entry.Cmd.Kind, .int .i64 t_44.1.Entry.Cmd.Who, v_54, v_56, v_58] : List Value).toArray 29 (0, 0)), M_179, M_187] Z := hS
                    replace hm : Fr 120 a [(0, .int .i64 (w64 ((Int.tmod (band .i64 x0 255) 7) + 1))), (1, p1_0), (4, .bool false), (5, .pointer (some ⟨g_5, 0, none⟩)), (7, .pointer (some ⟨g_77, 0, none⟩)), (9, .int .i64 x_158), (10, .int .i64 x_96), (118, .bool (!t_189))] := hm.keep [0, 1, 4, 5, 7, 9, 10, 118]
                    exact x_then_n (hJ_j_165 (!t_189) H _ _ ⟨N_192, hm, (Sep.sel hS [0, 1, 2, 3] (by decide)), (le_171.trans (le_176.trans (le_184.trans le_192)))⟩)
                  · rw [if_neg hc_172] at H
                    refine h_take_off 8 [true, true, true, true, true, true, true, true, true, false, false, false, false, false, false, false, false, false].toArray rfl (by kernel_rfl) (by kernel_rfl) (by kernel_rfl) (fun _ _ _ _ h => h) rfl rfl rfl rfl (.inl (congrArg Value.bool (nt (beq_eq_false_iff_ne.2 hc_172)))) rfl rfl hm (hS.sub (.cons le_171 (.cons (Mem.le.refl _) (.cons (Mem.le.refl _) (.cons (Mem.le.refl _) (Sub.nil _)))))) ?_
                    clear hm a; intro a hm
                    refine h_take_off 9 [true, true, true, true, true, true, true, true, true, true, false, false, false, false, false, false, false, false].toArray rfl (by kernel_rfl) (by kernel_rfl) (by kernel_rfl) (fun _ _ _ _ h => h) rfl rfl rfl rfl (.inl (congrArg Value.bool (nt (beq_eq_false_iff_ne.2 hc_172)))) rfl rfl hm (hS.sub (.cons le_171 (.cons (Mem.le.refl _) (.cons (Mem.le.refl _) (.cons (Mem.le.refl _) (Sub.nil _)))))) ?_
                    clear hm a; intro a hm
                    refine h_take_off 10 [true, true, true, true, true, true, true, true, true, true, true, false, false, false, false, false, false, false].toArray rfl (by kernel_rfl) (by kernel_rfl) (by kernel_rfl) (fun _ _ _ _ h => h) rfl rfl rfl rfl (.inl (congrArg Value.bool (nt (beq_eq_false_iff_ne.2 hc_172)))) rfl rfl hm (hS.sub (.cons le_171 (.cons (Mem.le.refl _) (.cons (Mem.le.refl _) (.cons (Mem.le.refl _) (Sub.nil _)))))) ?_
                    clear hm a; intro a hm
                    refine h_take_off 11 [true, true, true, true, true, true, true, true, true, true, true, true, false, false, false, false, false, false].toArray rfl (by kernel_rfl) (by kernel_rfl) (by kernel_rfl) (fun _ _ _ _ h => h) rfl rfl rfl rfl (.inl (congrArg Value.bool (nt (beq_eq_false_iff_ne.2 hc_172)))) rfl rfl hm (hS.sub (.cons le_171 (.cons (Mem.le.refl _) (.cons (Mem.le.refl _) (.cons (Mem.le.refl _) (Sub.nil _)))))) ?_
                    clear hm a; intro a hm
                    refine h_take_off 12 [true, true, true, true, true, true, true, true, true, true, true, true, true, false, false, false, false, false].toArray rfl (by kernel_rfl) (by kernel_rfl) (by kernel_rfl) (fun _ _ _ _ h => h) rfl rfl rfl rfl (.inl (congrArg Value.bool (nt (beq_eq_false_iff_ne.2 hc_172)))) rfl rfl hm (hS.sub (.cons le_171 (.cons (Mem.le.refl _) (.cons (Mem.le.refl _) (.cons (Mem.le.refl _) (Sub.nil _)))))) ?_
                    clear hm a; intro a hm
                    refine h_take_off 13 [true, true, true, true, true, true, true, true, true, true, true, true, true, true, false, false, false, false].toArray rfl (by kernel_rfl) (by kernel_rfl) (by kernel_rfl) (fun _ _ _ _ h => h) rfl rfl rfl rfl (.inl (congrArg Value.bool (nt (beq_eq_false_iff_ne.2 hc_172)))) rfl rfl hm (hS.sub (.cons le_171 (.cons (Mem.le.refl _) (.cons (Mem.le.refl _) (.cons (Mem.le.refl _) (Sub.nil _)))))) ?_
                    clear hm a; intro a hm
                    refine h_take_off 14 [true, true, true, true, true, true, true, true, true, true, true, true, true, true, true, false, false, false].toArray rfl (by kernel_rfl) (by kernel_rfl) (by kernel_rfl) (fun _ _ _ _ h => h) rfl rfl rfl rfl (.inl (congrArg Value.bool (nt (beq_eq_false_iff_ne.2 hc_172)))) rfl rfl hm (hS.sub (.cons le_171 (.cons (Mem.le.refl _) (.cons (Mem.le.refl _) (.cons (Mem.le.refl _) (Sub.nil _)))))) ?_
                    clear hm a; intro a hm
                    refine h_take_off 15 [true, true, true, true, true, true, true, true, true, true, true, true, true, true, true, true, false, false].toArray rfl (by kernel_rfl) (by kernel_rfl) (by kernel_rfl) (fun _ _ _ _ h => h) rfl rfl rfl rfl (.inl (congrArg Value.bool (nt (beq_eq_false_iff_ne.2 hc_172)))) rfl rfl hm (hS.sub (.cons le_171 (.cons (Mem.le.refl _) (.cons (Mem.le.refl _) (.cons (Mem.le.refl _) (Sub.nil _)))))) ?_
                    clear hm a; intro a hm
                    refine h_take_off 16 [true, true, true, true, true, true, true, true, true, true, true, true, true, true, true, true, true, false].toArray rfl (by kernel_rfl) (by kernel_rfl) (by kernel_rfl) (fun _ _ _ _ h => h) rfl rfl rfl rfl (.inl (congrArg Value.bool (nt (beq_eq_false_iff_ne.2 hc_172)))) rfl rfl hm (hS.sub (.cons le_171 (.cons (Mem.le.refl _) (.cons (Mem.le.refl _) (.cons (Mem.le.refl _) (Sub.nil _)))))) ?_
                    clear hm a; intro a hm
                    refine h_take 17 [true, true, true, true, true, true, true, true, true, true, true, true, true, true, true, true, true, true].toArray rfl (by kernel_rfl) (by kernel_rfl) (by kernel_rfl) (fun _ _ _ _ h => h) rfl rfl rfl rfl hm (hS.sub (.cons le_171 (.cons (Mem.le.refl _) (.cons (Mem.le.refl _) (.cons (Mem.le.refl _) (Sub.nil _)))))) (v := .bool true) (fun w hS => r_pick_t hm rfl (nt (beq_eq_false_iff_ne.2 hc_172)) rfl) ?_
                    clear hm a; intro a hm
                    refine h_done (by kernel_rfl) ?_
                    replace hm : Fr 120 a [(0, .int .i64 (w64 ((Int.tmod (band .i64 x0 255) 7) + 1))), (1, p1_0), (4, .bool false), (5, .pointer (some ⟨g_5, 0, none⟩)), (7, .pointer (some ⟨g_77, 0, none⟩)), (9, .int .i64 x_158), (10, .int .i64 x_96), (118, .bool true)] := hm.keep [0, 1, 4, 5, 7, 9, 10, 118]
                    replace hS : Sep w0 w_169 [N_171, Mem.one g_5 (.cells ([.int .i64 t_135.2.1, .int .i64 t_135.2.2.1, .int .i64 t_135.2.2.2.1, v_139, .int .i64 t_135.2.2.2.2.2.1, .int .i64 t_135.2.2.2.2.2.2.1, .int .i64 t_135.2.2.2.2.2.2.2.1, .int .i64 t_135.2.2.2.2.2.2.2.2.1, .int .i64 t_135.2.2.2.2.2.2.2.2.2.1, .int .i64 t_135.2.2.2.2.2.2.2.2.2.2.1, .int .i64 t_135.2.2.2.2.2.2.2.2.2.2.2.1, .int .i64 t_135.2.2.2.2.2.2.2.2.2.2.2.2.1, .bool t_135.2.2.2.2.2.2.2.2.2.2.2.2.2.1, .int .i64 t_135.2.2.2.2.2.2.2.2.2.2.2.2.2.2.1, .int .i64 t_135.2.2.2.2.2.2.2.2.2.2.2.2.2.2.2.1, .int .i64 t_135.2.2.2.2.2.2.2.2.2.2.2.2.2.2.2.2.1, .int .i64 t_135.2.2.2.2.2.2.2.2.2.2.2.2.2.2.2.2.2.1, v_143, .int .i64 t_135.2.2.2.2.2.2.2.2.2.2.2.2.2.2.2.2.2.2.2.1, .int .i64 t_135.2.2.2.2.2.2.2.2.2.2.2.2.2.2.2.2.2.2.2.2.1, v_145, v_147, .int .i64 t_135.2.2.2.2.2.2.2.2.2.2.2.2.2.2.2.2.2.2.2.2.2.2.2.1, .int .i64 t_135.2.2.2.2.2.2.2.2.2.2.2.2.2.2.2.2.2.2.2.2.2.2.2.2.1, .int .i64 t_135.2.2.2.2.2.2.2.2.2.2.2.2.2.2.2.2.2.2.2.2.2.2.2.2.2.1, .int .i64 t_135.2.2.2.2.2.2.2.2.2.2.2.2.2.2.2.2.2.2.2.2.2.2.2.2.2.2.1, .int .i64 t_135.2.2.2.2.2.2.2.2.2.2.2.2.2.2.2.2.2.2.2.2.2.2.2.2.2.2.2.1, v_149, v_151, v_153, .bool t_135.2.2.2.2.2.2.2.2.2.2.2.2.2.2.2.2.2.2.2.2.2.2.2.2.2.2.2.2.2.2.2] : List Value).toArray 80 (0, 0)), M_141, Mem.one g_77 (.cells ([.int .i64 t_44.1.Kind, .int .i64 t_44.1.From, .int .i64 t_44.1.To, .int .i64 t_44.1.View, .int .i64 t_44.1.Inst, .int .i64 t_44.1.Len, .bool t_44.1.Has, .int .i64 t_44.1.Members, .int .i64 t_44.1.Source, .int .i64 t_44.1.At, .int .i64 t_44.1.Total, v_48, .int .i64 t_44.1.Hop, .int .i64 t_44.1.Seq, v_50, v_52, .int .i64 t_44.1.Index, .int .i64 t_44.1.Entry.Sess, .int .i64 t_44.1.Entry.Seq, .int .i64 t_44.1.Entry.Cmd.Kind, .int .i64 t_44.1.Entry.Cmd.Who, v_54, v_56, v_58] : List Value).toArray 29 (0, 0))] Z := hS
                    replace hm : Fr 120 a [(0, .int .i64 (w64 ((Int.tmod (band .i64 x0 255) 7) + 1))), (1, p1_0), (4, .bool false), (5, .pointer (some ⟨g_5, 0, none⟩)), (7, .pointer (some ⟨g_77, 0, none⟩)), (9, .int .i64 x_158), (10, .int .i64 x_96), (118, .bool true)] := hm.keep [0, 1, 4, 5, 7, 9, 10, 118]
                    exact x_then_n (hJ_j_165 true H _ _ ⟨N_171, hm, (Sep.sel hS [0, 1, 2, 3] (by decide)), le_171⟩)
                clear hKJ_156
                by_cases hc_193 : x_131 = true
                · rw [if_pos hc_193] at H
                  refine c_cond_t hm rfl hc_193 ?_
                  refine wp_region_lit ?_
                  refine s_move hm rfl rfl ?_
                  clear hm a; intro a hm
                  refine s_move hm rfl rfl ?_
                  clear hm a; intro a hm
                  refine s_conv (wu64 (w64 ((band .i64 t_124 15) - 4))) hm rfl Try.underlying3 Try.underlying38 rfl rfl ?_
                  clear hm a; intro a hm
                  refine s_shift (r := shl .i64 1 (wu64 (w64 ((band .i64 t_124 15) - 4)))) hm rfl rfl rfl (wu64_nn _) (.inl ⟨rfl, rfl⟩) ?_
                  clear hm a; intro a hm
                  refine s_bits (i := x_95) (j := shl .i64 1 (wu64 (w64 ((band .i64 t_124 15) - 4)))) (r := bor .i64 x_95 (shl .i64 1 (wu64 (w64 ((band .i64 t_124 15) - 4))))) hm rfl rfl rfl (.inr (.inl ⟨rfl, rfl⟩)) ?_
                  clear hm a; intro a hm
                  refine s_assign hm rfl rfl ?_
                  clear hm a; intro a hm
                  refine wpList_nil ?_
                  replace hm : Fr 120 a [(0, .int .i64 (w64 ((Int.tmod (band .i64 x0 255) 7) + 1))), (1, p1_0), (4, .bool false), (5, .pointer (some ⟨g_5, 0, none⟩)), (7, .pointer (some ⟨g_77, 0, none⟩)), (9, .int .i64 (bor .i64 x_95 (shl .i64 1 (wu64 (w64 ((band .i64 t_124 15) - 4)))))), (10, .int .i64 x_96)] := hm.keep [0, 1, 4, 5, 7, 9, 10]
                  replace hS : Sep w0 w_136 [N_138, Mem.one g_5 (.cells ([.int .i64 t_135.2.1, .int .i64 t_135.2.2.1, .int .i64 t_135.2.2.2.1, v_139, .int .i64 t_135.2.2.2.2.2.1, .int .i64 t_135.2.2.2.2.2.2.1, .int .i64 t_135.2.2.2.2.2.2.2.1, .int .i64 t_135.2.2.2.2.2.2.2.2.1, .int .i64 t_135.2.2.2.2.2.2.2.2.2.1, .int .i64 t_135.2.2.2.2.2.2.2.2.2.2.1, .int .i64 t_135.2.2.2.2.2.2.2.2.2.2.2.1, .int .i64 t_135.2.2.2.2.2.2.2.2.2.2.2.2.1, .bool t_135.2.2.2.2.2.2.2.2.2.2.2.2.2.1, .int .i64 t_135.2.2.2.2.2.2.2.2.2.2.2.2.2.2.1, .int .i64 t_135.2.2.2.2.2.2.2.2.2.2.2.2.2.2.2.1, .int .i64 t_135.2.2.2.2.2.2.2.2.2.2.2.2.2.2.2.2.1, .int .i64 t_135.2.2.2.2.2.2.2.2.2.2.2.2.2.2.2.2.2.1, v_143, .int .i64 t_135.2.2.2.2.2.2.2.2.2.2.2.2.2.2.2.2.2.2.2.1, .int .i64 t_135.2.2.2.2.2.2.2.2.2.2.2.2.2.2.2.2.2.2.2.2.1, v_145, v_147, .int .i64 t_135.2.2.2.2.2.2.2.2.2.2.2.2.2.2.2.2.2.2.2.2.2.2.2.1, .int .i64 t_135.2.2.2.2.2.2.2.2.2.2.2.2.2.2.2.2.2.2.2.2.2.2.2.2.1, .int .i64 t_135.2.2.2.2.2.2.2.2.2.2.2.2.2.2.2.2.2.2.2.2.2.2.2.2.2.1, .int .i64 t_135.2.2.2.2.2.2.2.2.2.2.2.2.2.2.2.2.2.2.2.2.2.2.2.2.2.2.1, .int .i64 t_135.2.2.2.2.2.2.2.2.2.2.2.2.2.2.2.2.2.2.2.2.2.2.2.2.2.2.2.1, v_149, v_151, v_153, .bool t_135.2.2.2.2.2.2.2.2.2.2.2.2.2.2.2.2.2.2.2.2.2.2.2.2.2.2.2.2.2.2.2] : List Value).toArray 80 (0, 0)), M_141, Mem.one g_77 (.cells ([.int .i64 t_44.1.Kind, .int .i64 t_44.1.From, .int .i64 t_44.1.To, .int .i64 t_44.1.View, .int .i64 t_44.1.Inst, .int .i64 t_44.1.Len, .bool t_44.1.Has, .int .i64 t_44.1.Members, .int .i64 t_44.1.Source, .int .i64 t_44.1.At, .int .i64 t_44.1.Total, v_48, .int .i64 t_44.1.Hop, .int .i64 t_44.1.Seq, v_50, v_52, .int .i64 t_44.1.Index, .int .i64 t_44.1.Entry.Sess, .int .i64 t_44.1.Entry.Seq, .int .i64 t_44.1.Entry.Cmd.Kind, .int .i64 t_44.1.Entry.Cmd.Who, v_54, v_56, v_58] : List Value).toArray 29 (0, 0))] Z := hS
                  replace hm : Fr 120 a [(0, .int .i64 (w64 ((Int.tmod (band .i64 x0 255) 7) + 1))), (1, p1_0), (4, .bool false), (5, .pointer (some ⟨g_5, 0, none⟩)), (7, .pointer (some ⟨g_77, 0, none⟩)), (9, .int .i64 (bor .i64 x_95 (shl .i64 1 (wu64 (w64 ((band .i64 t_124 15) - 4)))))), (10, .int .i64 x_96)] := hm.keep [0, 1, 4, 5, 7, 9, 10]
                  exact x_then_n (hJ_j_160 (bor .i64 x_95 (shl .i64 1 (wu64 (w64 ((band .i64 t_124 15) - 4))))) H _ _ ⟨N_138, hm, (Sep.sel hS [0, 1, 2, 3] (by decide)), (Mem.le.refl _)⟩)
                · rw [if_neg hc_193] at H
                  refine c_cond_f hm rfl (Bool.eq_false_iff.2 hc_193) ?_
                  refine wp_skip ?_
                  replace hS : Sep w0 w_136 [N_138, Mem.one g_5 (.cells ([.int .i64 t_135.2.1, .int .i64 t_135.2.2.1, .int .i64 t_135.2.2.2.1, v_139, .int .i64 t_135.2.2.2.2.2.1, .int .i64 t_135.2.2.2.2.2.2.1, .int .i64 t_135.2.2.2.2.2.2.2.1, .int .i64 t_135.2.2.2.2.2.2.2.2.1, .int .i64 t_135.2.2.2.2.2.2.2.2.2.1, .int .i64 t_135.2.2.2.2.2.2.2.2.2.2.1, .int .i64 t_135.2.2.2.2.2.2.2.2.2.2.2.1, .int .i64 t_135.2.2.2.2.2.2.2.2.2.2.2.2.1, .bool t_135.2.2.2.2.2.2.2.2.2.2.2.2.2.1, .int .i64 t_135.2.2.2.2.2.2.2.2.2.2.2.2.2.2.1, .int .i64 t_135.2.2.2.2.2.2.2.2.2.2.2.2.2.2.2.1, .int .i64 t_135.2.2.2.2.2.2.2.2.2.2.2.2.2.2.2.2.1, .int .i64 t_135.2.2.2.2.2.2.2.2.2.2.2.2.2.2.2.2.2.1, v_143, .int .i64 t_135.2.2.2.2.2.2.2.2.2.2.2.2.2.2.2.2.2.2.2.1, .int .i64 t_135.2.2.2.2.2.2.2.2.2.2.2.2.2.2.2.2.2.2.2.2.1, v_145, v_147, .int .i64 t_135.2.2.2.2.2.2.2.2.2.2.2.2.2.2.2.2.2.2.2.2.2.2.2.1, .int .i64 t_135.2.2.2.2.2.2.2.2.2.2.2.2.2.2.2.2.2.2.2.2.2.2.2.2.1, .int .i64 t_135.2.2.2.2.2.2.2.2.2.2.2.2.2.2.2.2.2.2.2.2.2.2.2.2.2.1, .int .i64 t_135.2.2.2.2.2.2.2.2.2.2.2.2.2.2.2.2.2.2.2.2.2.2.2.2.2.2.1, .int .i64 t_135.2.2.2.2.2.2.2.2.2.2.2.2.2.2.2.2.2.2.2.2.2.2.2.2.2.2.2.1, v_149, v_151, v_153, .bool t_135.2.2.2.2.2.2.2.2.2.2.2.2.2.2.2.2.2.2.2.2.2.2.2.2.2.2.2.2.2.2.2] : List Value).toArray 80 (0, 0)), M_141, Mem.one g_77 (.cells ([.int .i64 t_44.1.Kind, .int .i64 t_44.1.From, .int .i64 t_44.1.To, .int .i64 t_44.1.View, .int .i64 t_44.1.Inst, .int .i64 t_44.1.Len, .bool t_44.1.Has, .int .i64 t_44.1.Members, .int .i64 t_44.1.Source, .int .i64 t_44.1.At, .int .i64 t_44.1.Total, v_48, .int .i64 t_44.1.Hop, .int .i64 t_44.1.Seq, v_50, v_52, .int .i64 t_44.1.Index, .int .i64 t_44.1.Entry.Sess, .int .i64 t_44.1.Entry.Seq, .int .i64 t_44.1.Entry.Cmd.Kind, .int .i64 t_44.1.Entry.Cmd.Who, v_54, v_56, v_58] : List Value).toArray 29 (0, 0))] Z := hS
                  replace hm : Fr 120 a [(0, .int .i64 (w64 ((Int.tmod (band .i64 x0 255) 7) + 1))), (1, p1_0), (4, .bool false), (5, .pointer (some ⟨g_5, 0, none⟩)), (7, .pointer (some ⟨g_77, 0, none⟩)), (9, .int .i64 x_95), (10, .int .i64 x_96)] := hm.keep [0, 1, 4, 5, 7, 9, 10]
                  exact x_then_n (hJ_j_160 x_95 H _ _ ⟨N_138, hm, (Sep.sel hS [0, 1, 2, 3] (by decide)), (Mem.le.refl _)⟩)
              · rw [if_neg hc_155] at H
                cases H
            clear hKJ_129
            refine wp_region_lit ?_
            refine s_move hm rfl rfl ?_
            clear hm a; intro a hm
            refine s_cmp (b := decide ((w64 ((band .i64 t_124 15) - 4)) ≥ 0)) hm rfl rfl rfl (.inr (.inr (.inr (.inr (.inr ⟨rfl, rfl⟩))))) ?_
            clear hm a; intro a hm
            refine s_move hm rfl rfl ?_
            clear hm a; intro a hm
            by_cases hc_194 : (w64 ((band .i64 t_124 15) - 4)) ≥ 0
            · rw [if_pos hc_194] at H
              refine s_on hm rfl rfl (decide_eq_true hc_194) ?_
              refine s_move hm rfl rfl ?_
              clear hm a; intro a hm
              refine s_on hm rfl rfl (decide_eq_true hc_194) ?_
              refine s_move hm rfl rfl ?_
              clear hm a; intro a hm
              refine s_on hm rfl rfl (decide_eq_true hc_194) ?_
              refine s_cmp (b := decide ((w64 ((band .i64 t_124 15) - 4)) < (w64 ((Int.tmod (band .i64 x0 255) 7) + 1)))) hm rfl rfl rfl (.inr (.inr (.inl ⟨rfl, rfl⟩))) ?_
              clear hm a; intro a hm
              refine s_pick_t hm rfl rfl (decide_eq_true hc_194) rfl ?_
              clear hm a; intro a hm
              refine s_move hm rfl rfl ?_
              clear hm a; intro a hm
              by_cases hc_195 : (w64 ((band .i64 t_124 15) - 4)) < (w64 ((Int.tmod (band .i64 x0 255) 7) + 1))
              · rw [if_pos hc_195] at H
                refine s_on hm rfl rfl (decide_eq_true hc_195) ?_
                refine s_move hm rfl rfl ?_
                clear hm a; intro a hm
                refine s_on hm rfl rfl (decide_eq_true hc_195) ?_
                refine s_move hm rfl rfl ?_
                clear hm a; intro a hm
                refine s_on hm rfl rfl (decide_eq_true hc_195) ?_
                refine s_max hm rfl rfl rfl ?_
                clear hm a; intro a hm
                refine s_on hm rfl rfl (decide_eq_true hc_195) ?_
                refine s_conv (wu64 (mx (w64 ((band .i64 t_124 15) - 4)) 0)) hm rfl Try.underlying3 Try.underlying38 rfl rfl ?_
                clear hm a; intro a hm
                refine s_on hm rfl rfl (decide_eq_true hc_195) ?_
                refine s_shift (r := shr .i64 x_95 (wu64 (mx (w64 ((band .i64 t_124 15) - 4)) 0))) hm rfl rfl rfl (wu64_nn _) (.inr ⟨rfl, rfl⟩) ?_
                clear hm a; intro a hm
                refine s_on hm rfl rfl (decide_eq_true hc_195) ?_
                refine s_bits (i := shr .i64 x_95 (wu64 (mx (w64 ((band .i64 t_124 15) - 4)) 0))) (j := 1) (r := band .i64 (shr .i64 x_95 (wu64 (mx (w64 ((band .i64 t_124 15) - 4)) 0))) 1) hm rfl rfl rfl (.inl ⟨rfl, rfl⟩) ?_
                clear hm a; intro a hm
                refine s_on hm rfl rfl (decide_eq_true hc_195) ?_
                refine s_cmp (b := ((band .i64 (shr .i64 x_95 (wu64 (mx (w64 ((band .i64 t_124 15) - 4)) 0))) 1) == 0)) hm rfl rfl rfl (.inl ⟨rfl, rfl⟩) ?_
                clear hm a; intro a hm
                refine s_pick_t hm rfl rfl (decide_eq_true hc_195) rfl ?_
                clear hm a; intro a hm
                refine s_assign hm rfl rfl ?_
                clear hm a; intro a hm
                refine wpList_nil ?_
                replace hm : Fr 120 a [(0, .int .i64 (w64 ((Int.tmod (band .i64 x0 255) 7) + 1))), (1, p1_0), (4, .bool false), (5, .pointer (some ⟨g_5, 0, none⟩)), (7, .pointer (some ⟨g_77, 0, none⟩)), (9, .int .i64 x_95), (10, .int .i64 x_96), (11, .int .i64 (w64 ((band .i64 t_124 15) - 4))), (12, .bool ((band .i64 (shr .i64 x_95 (wu64 (mx (w64 ((band .i64 t_124 15) - 4)) 0))) 1) == 0))] := hm.keep [0, 1, 4, 5, 7, 9, 10, 11, 12]
                replace hS : Sep w0 w_120 [N_118, Mem.one g_5 (.cells ([.int .i64 x_97.n, .int .i64 x_97.id, .int .i64 x_97.v, v_100, .int .i64 x_97.come, .int .i64 x_97.ready, .int .i64 x_97.commit.Kind, .int .i64 x_97.commit.From, .int .i64 x_97.commit.To, .int .i64 x_97.commit.View, .int .i64 x_97.commit.Inst, .int .i64 x_97.commit.Len, .bool x_97.commit.Has, .int .i64 x_97.commit.Members, .int .i64 x_97.commit.Source, .int .i64 x_97.commit.At, .int .i64 x_97.commit.Total, v_102, .int .i64 x_97.commit.Hop, .int .i64 x_97.commit.Seq, v_104, v_106, .int .i64 x_97.commit.Index, .int .i64 x_97.commit.Entry.Sess, .int .i64 x_97.commit.Entry.Seq, .int .i64 x_97.commit.Entry.Cmd.Kind, .int .i64 x_97.commit.Entry.Cmd.Who, v_108, v_110, v_112, .bool x_97.is] : List Value).toArray 80 (0, 0)), M_98, Mem.one g_77 (.cells ([.int .i64 t_44.1.Kind, .int .i64 t_44.1.From, .int .i64 t_44.1.To, .int .i64 t_44.1.View, .int .i64 t_44.1.Inst, .int .i64 t_44.1.Len, .bool t_44.1.Has, .int .i64 t_44.1.Members, .int .i64 t_44.1.Source, .int .i64 t_44.1.At, .int .i64 t_44.1.Total, v_48, .int .i64 t_44.1.Hop, .int .i64 t_44.1.Seq, v_50, v_52, .int .i64 t_44.1.Index, .int .i64 t_44.1.Entry.Sess, .int .i64 t_44.1.Entry.Seq, .int .i64 t_44.1.Entry.Cmd.Kind, .int .i64 t_44.1.Entry.Cmd.Who, v_54, v_56, v_58] : List Value).toArray 29 (0, 0))] Z := hS
                replace hm : Fr 120 a [(0, .int .i64 (w64 ((Int.tmod (band .i64 x0 255) 7) + 1))), (1, p1_0), (4, .bool false), (5, .pointer (some ⟨g_5, 0, none⟩)), (7, .pointer (some ⟨g_77, 0, none⟩)), (9, .int .i64 x_95), (10, .int .i64 x_96), (11, .int .i64 (w64 ((band .i64 t_124 15) - 4))), (12, .bool ((band .i64 (shr .i64 x_95 (wu64 (mx (w64 ((band .i64 t_124 15) - 4)) 0))) 1) == 0))] := hm.keep [0, 1, 4, 5, 7, 9, 10, 11, 12]
                exact x_then_n (hJ_j_133 ((band .i64 (shr .i64 x_95 (wu64 (mx (w64 ((band .i64 t_124 15) - 4)) 0))) 1) == 0) H _ _ ⟨N_118, hm, (Sep.sel hS [0, 1, 2, 3] (by decide)), (Mem.le.refl _)⟩)
              · rw [if_neg hc_195] at H
                refine s_off hm rfl rfl rfl (decide_eq_false hc_195) ?_
                clear hm a; intro a hm
                refine s_off hm rfl rfl rfl (decide_eq_false hc_195) ?_
                clear hm a; intro a hm
                refine s_off hm rfl rfl rfl (decide_eq_false hc_195) ?_
                clear hm a; intro a hm
                refine s_off hm rfl rfl rfl (decide_eq_false hc_195) ?_
                clear hm a; intro a hm
                refine s_off hm rfl rfl rfl (decide_eq_false hc_195) ?_
                clear hm a; intro a hm
                refine s_off hm rfl rfl rfl (decide_eq_false hc_195) ?_
                clear hm a; intro a hm
                refine s_off hm rfl rfl rfl (decide_eq_false hc_195) ?_
                clear hm a; intro a hm
                refine s_pick_f hm rfl rfl (decide_eq_false hc_195) rfl ?_
                clear hm a; intro a hm
                refine s_assign hm rfl rfl ?_
                clear hm a; intro a hm
                refine wpList_nil ?_
                replace hm : Fr 120 a [(0, .int .i64 (w64 ((Int.tmod (band .i64 x0 255) 7) + 1))), (1, p1_0), (4, .bool false), (5, .pointer (some ⟨g_5, 0, none⟩)), (7, .pointer (some ⟨g_77, 0, none⟩)), (9, .int .i64 x_95), (10, .int .i64 x_96), (11, .int .i64 (w64 ((band .i64 t_124 15) - 4))), (12, .bool false)] := hm.keep [0, 1, 4, 5, 7, 9, 10, 11, 12]
                replace hS : Sep w0 w_120 [N_118, Mem.one g_5 (.cells ([.int .i64 x_97.n, .int .i64 x_97.id, .int .i64 x_97.v, v_100, .int .i64 x_97.come, .int .i64 x_97.ready, .int .i64 x_97.commit.Kind, .int .i64 x_97.commit.From, .int .i64 x_97.commit.To, .int .i64 x_97.commit.View, .int .i64 x_97.commit.Inst, .int .i64 x_97.commit.Len, .bool x_97.commit.Has, .int .i64 x_97.commit.Members, .int .i64 x_97.commit.Source, .int .i64 x_97.commit.At, .int .i64 x_97.commit.Total, v_102, .int .i64 x_97.commit.Hop, .int .i64 x_97.commit.Seq, v_104, v_106, .int .i64 x_97.commit.Index, .int .i64 x_97.commit.Entry.Sess, .int .i64 x_97.commit.Entry.Seq, .int .i64 x_97.commit.Entry.Cmd.Kind, .int .i64 x_97.commit.Entry.Cmd.Who, v_108, v_110, v_112, .bool x_97.is] : List Value).toArray 80 (0, 0)), M_98, Mem.one g_77 (.cells ([.int .i64 t_44.1.Kind, .int .i64 t_44.1.From, .int .i64 t_44.1.To, .int .i64 t_44.1.View, .int .i64 t_44.1.Inst, .int .i64 t_44.1.Len, .bool t_44.1.Has, .int .i64 t_44.1.Members, .int .i64 t_44.1.Source, .int .i64 t_44.1.At, .int .i64 t_44.1.Total, v_48, .int .i64 t_44.1.Hop, .int .i64 t_44.1.Seq, v_50, v_52, .int .i64 t_44.1.Index, .int .i64 t_44.1.Entry.Sess, .int .i64 t_44.1.Entry.Seq, .int .i64 t_44.1.Entry.Cmd.Kind, .int .i64 t_44.1.Entry.Cmd.Who, v_54, v_56, v_58] : List Value).toArray 29 (0, 0))] Z := hS
                replace hm : Fr 120 a [(0, .int .i64 (w64 ((Int.tmod (band .i64 x0 255) 7) + 1))), (1, p1_0), (4, .bool false), (5, .pointer (some ⟨g_5, 0, none⟩)), (7, .pointer (some ⟨g_77, 0, none⟩)), (9, .int .i64 x_95), (10, .int .i64 x_96), (11, .int .i64 (w64 ((band .i64 t_124 15) - 4))), (12, .bool false)] := hm.keep [0, 1, 4, 5, 7, 9, 10, 11, 12]
                exact x_then_n (hJ_j_133 false H _ _ ⟨N_118, hm, (Sep.sel hS [0, 1, 2, 3] (by decide)), (Mem.le.refl _)⟩)
            · rw [if_neg hc_194] at H
              refine s_off hm rfl rfl rfl (decide_eq_false hc_194) ?_
              clear hm a; intro a hm
              refine s_off hm rfl rfl rfl (decide_eq_false hc_194) ?_
              clear hm a; intro a hm
              refine s_off hm rfl rfl rfl (decide_eq_false hc_194) ?_
              clear hm a; intro a hm
              refine s_pick_f hm rfl rfl (decide_eq_false hc_194) rfl ?_
              clear hm a; intro a hm
              refine s_move hm rfl rfl ?_
              clear hm a; intro a hm
              refine s_off hm rfl rfl rfl rfl ?_
              clear hm a; intro a hm
              refine s_off hm rfl rfl rfl rfl ?_
              clear hm a; intro a hm
              refine s_off hm rfl rfl rfl rfl ?_
              clear hm a; intro a hm
              refine s_off hm rfl rfl rfl rfl ?_
              clear hm a; intro a hm
              refine s_off hm rfl rfl rfl rfl ?_
              clear hm a; intro a hm
              refine s_off hm rfl rfl rfl rfl ?_
              clear hm a; intro a hm
              refine s_off hm rfl rfl rfl rfl ?_
              clear hm a; intro a hm
              refine s_pick_f hm rfl rfl rfl rfl ?_
              clear hm a; intro a hm
              refine s_assign hm rfl rfl ?_
              clear hm a; intro a hm
              refine wpList_nil ?_
              replace hm : Fr 120 a [(0, .int .i64 (w64 ((Int.tmod (band .i64 x0 255) 7) + 1))), (1, p1_0), (4, .bool false), (5, .pointer (some ⟨g_5, 0, none⟩)), (7, .pointer (some ⟨g_77, 0, none⟩)), (9, .int .i64 x_95), (10, .int .i64 x_96), (11, .int .i64 (w64 ((band .i64 t_124 15) - 4))), (12, .bool false)] := hm.keep [0, 1, 4, 5, 7, 9, 10, 11, 12]
              replace hS : Sep w0 w_120 [N_118, Mem.one g_5 (.cells ([.int .i64 x_97.n, .int .i64 x_97.id, .int .i64 x_97.v, v_100, .int .i64 x_97.come, .int .i64 x_97.ready, .int .i64 x_97.commit.Kind, .int .i64 x_97.commit.From, .int .i64 x_97.commit.To, .int .i64 x_97.commit.View, .int .i64 x_97.commit.Inst, .int .i64 x_97.commit.Len, .bool x_97.commit.Has, .int .i64 x_97.commit.Members, .int .i64 x_97.commit.Source, .int .i64 x_97.commit.At, .int .i64 x_97.commit.Total, v_102, .int .i64 x_97.commit.Hop, .int .i64 x_97.commit.Seq, v_104, v_106, .int .i64 x_97.commit.Index, .int .i64 x_97.commit.Entry.Sess, .int .i64 x_97.commit.Entry.Seq, .int .i64 x_97.commit.Entry.Cmd.Kind, .int .i64 x_97.commit.Entry.Cmd.Who, v_108, v_110, v_112, .bool x_97.is] : List Value).toArray 80 (0, 0)), M_98, Mem.one g_77 (.cells ([.int .i64 t_44.1.Kind, .int .i64 t_44.1.From, .int .i64 t_44.1.To, .int .i64 t_44.1.View, .int .i64 t_44.1.Inst, .int .i64 t_44.1.Len, .bool t_44.1.Has, .int .i64 t_44.1.Members, .int .i64 t_44.1.Source, .int .i64 t_44.1.At, .int .i64 t_44.1.Total, v_48, .int .i64 t_44.1.Hop, .int .i64 t_44.1.Seq, v_50, v_52, .int .i64 t_44.1.Index, .int .i64 t_44.1.Entry.Sess, .int .i64 t_44.1.Entry.Seq, .int .i64 t_44.1.Entry.Cmd.Kind, .int .i64 t_44.1.Entry.Cmd.Who, v_54, v_56, v_58] : List Value).toArray 29 (0, 0))] Z := hS
              replace hm : Fr 120 a [(0, .int .i64 (w64 ((Int.tmod (band .i64 x0 255) 7) + 1))), (1, p1_0), (4, .bool false), (5, .pointer (some ⟨g_5, 0, none⟩)), (7, .pointer (some ⟨g_77, 0, none⟩)), (9, .int .i64 x_95), (10, .int .i64 x_96), (11, .int .i64 (w64 ((band .i64 t_124 15) - 4))), (12, .bool false)] := hm.keep [0, 1, 4, 5, 7, 9, 10, 11, 12]
              exact x_then_n (hJ_j_133 false H _ _ ⟨N_118, hm, (Sep.sel hS [0, 1, 2, 3] (by decide)), (Mem.le.refl _)⟩)
          · rw [if_neg hc_122] at H
            refine c_cond_f hm rfl (Bool.eq_false_iff.2 hc_122) ?_
            refine wp_exit (x_then_x (x_then_x (x_block_t ?_)))
            replace hS : Sep w0 w_120 [N_118, Mem.one g_5 (.cells ([.int .i64 x_97.n, .int .i64 x_97.id, .int .i64 x_97.v, v_100, .int .i64 x_97.come, .int .i64 x_97.ready, .int .i64 x_97.commit.Kind, .int .i64 x_97.commit.From, .int .i64 x_97.commit.To, .int .i64 x_97.commit.View, .int .i64 x_97.commit.Inst, .int .i64 x_97.commit.Len, .bool x_97.commit.Has, .int .i64 x_97.commit.Members, .int .i64 x_97.commit.Source, .int .i64 x_97.commit.At, .int .i64 x_97.commit.Total, v_102, .int .i64 x_97.commit.Hop, .int .i64 x_97.commit.Seq, v_104, v_106, .int .i64 x_97.commit.Index, .int .i64 x_97.commit.Entry.Sess, .int .i64 x_97.commit.Entry.Seq, .int .i64 x_97.commit.Entry.Cmd.Kind, .int .i64 x_97.commit.Entry.Cmd.Who, v_108, v_110, v_112, .bool x_97.is] : List Value).toArray 80 (0, 0)), M_98, Mem.one g_77 (.cells ([.int .i64 t_44.1.Kind, .int .i64 t_44.1.From, .int .i64 t_44.1.To, .int .i64 t_44.1.View, .int .i64 t_44.1.Inst, .int .i64 t_44.1.Len, .bool t_44.1.Has, .int .i64 t_44.1.Members, .int .i64 t_44.1.Source, .int .i64 t_44.1.At, .int .i64 t_44.1.Total, v_48, .int .i64 t_44.1.Hop, .int .i64 t_44.1.Seq, v_50, v_52, .int .i64 t_44.1.Index, .int .i64 t_44.1.Entry.Sess, .int .i64 t_44.1.Entry.Seq, .int .i64 t_44.1.Entry.Cmd.Kind, .int .i64 t_44.1.Entry.Cmd.Who, v_54, v_56, v_58] : List Value).toArray 29 (0, 0))] Z := hS
            replace hm : Fr 120 a [(4, .bool false)] := hm.keep [4]
            exact x_then_n (hJ_j_89  H _ _ ⟨N_118, hm, (Sep.sel hS [0, 1000, 1001, 1002] (by decide)), (le_94.trans le_118)⟩)
        clear hKJ_117
        refine wp_region_lit ?_
        refine s_move hm rfl rfl ?_
        clear hm a; intro a hm
        refine s_move hm rfl rfl ?_
        clear hm a; intro a hm
        refine s_len hm rfl Try.underlying23 rfl hp1_0 ?_
        clear hm a; intro a hm
        refine s_cmp (b := decide (x_96 < (x1.length : Int))) hm rfl rfl rfl (.inr (.inr (.inl ⟨rfl, rfl⟩))) ?_
        clear hm a; intro a hm
        refine s_move hm rfl rfl ?_
        clear hm a; intro a hm
        by_cases hc_196 : x_96 < (x1.length : Int)
        · rw [if_pos hc_196] at H
          refine s_on hm rfl rfl (decide_eq_true hc_196) ?_
          refine s_move hm rfl rfl ?_
          clear hm a; intro a hm
          refine s_on hm rfl rfl (decide_eq_true hc_196) ?_
          refine s_cmp (b := decide (x_96 < 30)) hm rfl rfl rfl (.inr (.inr (.inl ⟨rfl, rfl⟩))) ?_
          clear hm a; intro a hm
          refine s_pick_t hm rfl rfl (decide_eq_true hc_196) rfl ?_
          clear hm a; intro a hm
          refine wpList_nil ?_
          replace hm : Fr 120 a [(0, .int .i64 (w64 ((Int.tmod (band .i64 x0 255) 7) + 1))), (1, p1_0), (4, .bool false), (5, .pointer (some ⟨g_5, 0, none⟩)), (7, .pointer (some ⟨g_77, 0, none⟩)), (9, .int .i64 x_95), (10, .int .i64 x_96), (65, .bool (decide (x_96 < 30)))] := hm.keep [0, 1, 4, 5, 7, 9, 10, 65]
          replace hS : Sep w0 w_114 [N_94, Mem.one g_5 (.cells ([.int .i64 x_97.n, .int .i64 x_97.id, .int .i64 x_97.v, v_100, .int .i64 x_97.come, .int .i64 x_97.ready, .int .i64 x_97.commit.Kind, .int .i64 x_97.commit.From, .int .i64 x_97.commit.To, .int .i64 x_97.commit.View, .int .i64 x_97.commit.Inst, .int .i64 x_97.commit.Len, .bool x_97.commit.Has, .int .i64 x_97.commit.Members, .int .i64 x_97.commit.Source, .int .i64 x_97.commit.At, .int .i64 x_97.commit.Total, v_102, .int .i64 x_97.commit.Hop, .int .i64 x_97.commit.Seq, v_104, v_106, .int .i64 x_97.commit.Index, .int .i64 x_97.commit.Entry.Sess, .int .i64 x_97.commit.Entry.Seq, .int .i64 x_97.commit.Entry.Cmd.Kind, .int .i64 x_97.commit.Entry.Cmd.Who, v_108, v_110, v_112, .bool x_97.is] : List Value).toArray 80 (0, 0)), M_98, Mem.one g_77 (.cells ([.int .i64 t_44.1.Kind, .int .i64 t_44.1.From, .int .i64 t_44.1.To, .int .i64 t_44.1.View, .int .i64 t_44.1.Inst, .int .i64 t_44.1.Len, .bool t_44.1.Has, .int .i64 t_44.1.Members, .int .i64 t_44.1.Source, .int .i64 t_44.1.At, .int .i64 t_44.1.Total, v_48, .int .i64 t_44.1.Hop, .int .i64 t_44.1.Seq, v_50, v_52, .int .i64 t_44.1.Index, .int .i64 t_44.1.Entry.Sess, .int .i64 t_44.1.Entry.Seq, .int .i64 t_44.1.Entry.Cmd.Kind, .int .i64 t_44.1.Entry.Cmd.Who, v_54, v_56, v_58] : List Value).toArray 29 (0, 0))] Z := hS
          replace hm : Fr 120 a [(0, .int .i64 (w64 ((Int.tmod (band .i64 x0 255) 7) + 1))), (1, p1_0), (4, .bool false), (5, .pointer (some ⟨g_5, 0, none⟩)), (7, .pointer (some ⟨g_77, 0, none⟩)), (9, .int .i64 x_95), (10, .int .i64 x_96), (65, .bool (decide (x_96 < 30)))] := hm.keep [0, 1, 4, 5, 7, 9, 10, 65]
          exact x_then_n (hJ_j_121 (decide (x_96 < 30)) H _ _ ⟨N_94, hm, (Sep.sel hS [0, 1, 2, 3] (by decide)), (Mem.le.refl _)⟩)
        · rw [if_neg hc_196] at H
          refine s_off hm rfl rfl rfl (decide_eq_false hc_196) ?_
          clear hm a; intro a hm
          refine s_off hm rfl rfl rfl (decide_eq_false hc_196) ?_
          clear hm a; intro a hm
          refine s_pick_f hm rfl rfl (decide_eq_false hc_196) rfl ?_
          clear hm a; intro a hm
          refine wpList_nil ?_
          replace hm : Fr 120 a [(0, .int .i64 (w64 ((Int.tmod (band .i64 x0 255) 7) + 1))), (1, p1_0), (4, .bool false), (5, .pointer (some ⟨g_5, 0, none⟩)), (7, .pointer (some ⟨g_77, 0, none⟩)), (9, .int .i64 x_95), (10, .int .i64 x_96), (65, .bool false)] := hm.keep [0, 1, 4, 5, 7, 9, 10, 65]
          replace hS : Sep w0 w_114 [N_94, Mem.one g_5 (.cells ([.int .i64 x_97.n, .int .i64 x_97.id, .int .i64 x_97.v, v_100, .int .i64 x_97.come, .int .i64 x_97.ready, .int .i64 x_97.commit.Kind, .int .i64 x_97.commit.From, .int .i64 x_97.commit.To, .int .i64 x_97.commit.View, .int .i64 x_97.commit.Inst, .int .i64 x_97.commit.Len, .bool x_97.commit.Has, .int .i64 x_97.commit.Members, .int .i64 x_97.commit.Source, .int .i64 x_97.commit.At, .int .i64 x_97.commit.Total, v_102, .int .i64 x_97.commit.Hop, .int .i64 x_97.commit.Seq, v_104, v_106, .int .i64 x_97.commit.Index, .int .i64 x_97.commit.Entry.Sess, .int .i64 x_97.commit.Entry.Seq, .int .i64 x_97.commit.Entry.Cmd.Kind, .int .i64 x_97.commit.Entry.Cmd.Who, v_108, v_110, v_112, .bool x_97.is] : List Value).toArray 80 (0, 0)), M_98, Mem.one g_77 (.cells ([.int .i64 t_44.1.Kind, .int .i64 t_44.1.From, .int .i64 t_44.1.To, .int .i64 t_44.1.View, .int .i64 t_44.1.Inst, .int .i64 t_44.1.Len, .bool t_44.1.Has, .int .i64 t_44.1.Members, .int .i64 t_44.1.Source, .int .i64 t_44.1.At, .int .i64 t_44.1.Total, v_48, .int .i64 t_44.1.Hop, .int .i64 t_44.1.Seq, v_50, v_52, .int .i64 t_44.1.Index, .int .i64 t_44.1.Entry.Sess, .int .i64 t_44.1.Entry.Seq, .int .i64 t_44.1.Entry.Cmd.Kind, .int .i64 t_44.1.Entry.Cmd.Who, v_54, v_56, v_58] : List Value).toArray 29 (0, 0))] Z := hS
          replace hm : Fr 120 a [(0, .int .i64 (w64 ((Int.tmod (band .i64 x0 255) 7) + 1))), (1, p1_0), (4, .bool false), (5, .pointer (some ⟨g_5, 0, none⟩)), (7, .pointer (some ⟨g_77, 0, none⟩)), (9, .int .i64 x_95), (10, .int .i64 x_96), (65, .bool false)] := hm.keep [0, 1, 4, 5, 7, 9, 10, 65]
          exact x_then_n (hJ_j_121 false H _ _ ⟨N_94, hm, (Sep.sel hS [0, 1, 2, 3] (by decide)), (Mem.le.refl _)⟩)
    clear hKJ_80
    refine wp_region_lit ?_
    refine s_move hm rfl rfl ?_
    clear hm a; intro a hm
    refine s_not hm rfl rfl ?_
    clear hm a; intro a hm
    refine s_move hm rfl rfl ?_
    clear hm a; intro a hm
    by_cases hc_197 : t_44.2.1 = true
    · rw [if_pos hc_197] at H
      refine s_on hm rfl rfl (nf hc_197) ?_
      refine s_fieldAddr hm rfl Try.underlying29 rfl ti3 rfl rfl ?_
      clear hm a; intro a hm
      refine s_on hm rfl rfl (nf hc_197) ?_
      refine s_load hm rfl rfl (hS.load_one (p := 3) rfl Try.underlying3 rfl rfl) ?_
      clear hm a; intro a hm
      refine s_on hm rfl rfl (nf hc_197) ?_
      refine s_move hm rfl rfl ?_
      clear hm a; intro a hm
      refine s_on hm rfl rfl (nf hc_197) ?_
      refine s_conv (wu64 (w64 ((Int.tmod (band .i64 x0 255) 7) + 1))) hm rfl Try.underlying3 Try.underlying38 rfl rfl ?_
      clear hm a; intro a hm
      refine s_on hm rfl rfl (nf hc_197) ?_
      refine s_shift (r := shl .i64 1 (wu64 (w64 ((Int.tmod (band .i64 x0 255) 7) + 1)))) hm rfl rfl rfl (wu64_nn _) (.inl ⟨rfl, rfl⟩) ?_
      clear hm a; intro a hm
      refine s_on hm rfl rfl (nf hc_197) ?_
      refine s_arith (r := w64 ((shl .i64 1 (wu64 (w64 ((Int.tmod (band .i64 x0 255) 7) + 1)))) - 1)) hm rfl rfl rfl (.inr (.inl ⟨rfl, rfl⟩)) ?_
      clear hm a; intro a hm
      refine s_on hm rfl rfl (nf hc_197) ?_
      refine s_cmp (b := (t_44.1.Members != (w64 ((shl .i64 1 (wu64 (w64 ((Int.tmod (band .i64 x0 255) 7) + 1)))) - 1)))) hm rfl rfl rfl (.inr (.inl ⟨rfl, rfl⟩)) ?_
      clear hm a; intro a hm
      refine s_pick_f hm rfl rfl (nf hc_197) rfl ?_
      clear hm a; intro a hm
      refine s_move hm rfl rfl ?_
      clear hm a; intro a hm
      by_cases hc_198 : t_44.1.Members = (w64 ((shl .i64 1 (wu64 (w64 ((Int.tmod (band .i64 x0 255) 7) + 1)))) - 1))
      · rw [if_pos hc_198] at H
        refine s_on hm rfl rfl (bne_eq_false_iff_eq.2 hc_198) ?_
        refine s_fieldAddr hm rfl Try.underlying29 rfl ti3 rfl rfl ?_
        clear hm a; intro a hm
        refine s_on hm rfl rfl (bne_eq_false_iff_eq.2 hc_198) ?_
        refine s_load hm rfl rfl (hS.load_one (p := 3) rfl Try.underlying3 rfl rfl) ?_
        clear hm a; intro a hm
        refine s_on hm rfl rfl (bne_eq_false_iff_eq.2 hc_198) ?_
        refine s_cmp (b := (t_44.1.Source != 0)) hm rfl rfl rfl (.inr (.inl ⟨rfl, rfl⟩)) ?_
        clear hm a; intro a hm
        refine s_pick_f hm rfl rfl (bne_eq_false_iff_eq.2 hc_198) rfl ?_
        clear hm a; intro a hm
        refine wpList_nil ?_
        replace hm : Fr 120 a [(0, .int .i64 (w64 ((Int.tmod (band .i64 x0 255) 7) + 1))), (1, p1_0), (4, .bool false), (5, .pointer (some ⟨g_5, 0, none⟩)), (7, .pointer (some ⟨g_77, 0, none⟩)), (57, .bool (t_44.1.Source != 0))] := hm.keep [0, 1, 4, 5, 7, 57]
        replace hS : Sep w0 w_78 [N_47, Mem.one g_5 (.cells ([.int .i64 t_44.2.2.1, .int .i64 t_44.2.2.2.1, .int .i64 t_44.2.2.2.2.1, v_60, .int .i64 t_44.2.2.2.2.2.2.1, .int .i64 t_44.2.2.2.2.2.2.2.1, .int .i64 t_44.2.2.2.2.2.2.2.2.1, .int .i64 t_44.2.2.2.2.2.2.2.2.2.1, .int .i64 t_44.2.2.2.2.2.2.2.2.2.2.1, .int .i64 t_44.2.2.2.2.2.2.2.2.2.2.2.1, .int .i64 t_44.2.2.2.2.2.2.2.2.2.2.2.2.1, .int .i64 t_44.2.2.2.2.2.2.2.2.2.2.2.2.2.1, .bool t_44.2.2.2.2.2.2.2.2.2.2.2.2.2.2.1, .int .i64 t_44.2.2.2.2.2.2.2.2.2.2.2.2.2.2.2.1, .int .i64 t_44.2.2.2.2.2.2.2.2.2.2.2.2.2.2.2.2.1, .int .i64 t_44.2.2.2.2.2.2.2.2.2.2.2.2.2.2.2.2.2.1, .int .i64 t_44.2.2.2.2.2.2.2.2.2.2.2.2.2.2.2.2.2.2.1, v_64, .int .i64 t_44.2.2.2.2.2.2.2.2.2.2.2.2.2.2.2.2.2.2.2.2.1, .int .i64 t_44.2.2.2.2.2.2.2.2.2.2.2.2.2.2.2.2.2.2.2.2.2.1, v_66, v_68, .int .i64 t_44.2.2.2.2.2.2.2.2.2.2.2.2.2.2.2.2.2.2.2.2.2.2.2.2.1, .int .i64 t_44.2.2.2.2.2.2.2.2.2.2.2.2.2.2.2.2.2.2.2.2.2.2.2.2.2.1, .int .i64 t_44.2.2.2.2.2.2.2.2.2.2.2.2.2.2.2.2.2.2.2.2.2.2.2.2.2.2.1, .int .i64 t_44.2.2.2.2.2.2.2.2.2.2.2.2.2.2.2.2.2.2.2.2.2.2.2.2.2.2.2.1, .int .i64 t_44.2.2.2.2.2.2.2.2.2.2.2.2.2.2.2.2.2.2.2.2.2.2.2.2.2.2.2.2.1, v_70, v_72, v_74, .bool t_44.2.2.2.2.2.2.2.2.2.2.2.2.2.2.2.2.2.2.2.2.2.2.2.2.2.2.2.2.2.2.2.2] : List Value).toArray 80 (0, 0)), M_62, Mem.one g_77 (.cells ([.int .i64 t_44.1.Kind, .int .i64 t_44.1.From, .int .i64 t_44.1.To, .int .i64 t_44.1.View, .int .i64 t_44.1.Inst, .int .i64 t_44.1.Len, .bool t_44.1.Has, .int .i64 t_44.1.Members, .int .i64 t_44.1.Source, .int .i64 t_44.1.At, .int .i64 t_44.1.Total, v_48, .int .i64 t_44.1.Hop, .int .i64 t_44.1.Seq, v_50, v_52, .int .i64 t_44.1.Index, .int .i64 t_44.1.Entry.Sess, .int .i64 t_44.1.Entry.Seq, .int .i64 t_44.1.Entry.Cmd.Kind, .int .i64 t_44.1.Entry.Cmd.Who, v_54, v_56, v_58] : List Value).toArray 29 (0, 0))] Z := hS
        replace hm : Fr 120 a [(0, .int .i64 (w64 ((Int.tmod (band .i64 x0 255) 7) + 1))), (1, p1_0), (4, .bool false), (5, .pointer (some ⟨g_5, 0, none⟩)), (7, .pointer (some ⟨g_77, 0, none⟩)), (57, .bool (t_44.1.Source != 0))] := hm.keep [0, 1, 4, 5, 7, 57]
        exact x_then_n (hJ_j_84 (t_44.1.Source != 0) H _ _ ⟨N_47, hm, (Sep.sel hS [0, 1, 2, 3] (by decide)), (Mem.le.refl _)⟩)
      · rw [if_neg hc_198] at H
        refine s_off hm rfl rfl rfl (bne_iff_ne.2 hc_198) ?_
        clear hm a; intro a hm
        refine s_off hm rfl rfl rfl (bne_iff_ne.2 hc_198) ?_
        clear hm a; intro a hm
        refine s_off hm rfl rfl rfl (bne_iff_ne.2 hc_198) ?_
        clear hm a; intro a hm
        refine s_pick_t hm rfl rfl (bne_iff_ne.2 hc_198) rfl ?_
        clear hm a; intro a hm
        refine wpList_nil ?_
        replace hm : Fr 120 a [(0, .int .i64 (w64 ((Int.tmod (band .i64 x0 255) 7) + 1))), (1, p1_0), (4, .bool false), (5, .pointer (some ⟨g_5, 0, none⟩)), (7, .pointer (some ⟨g_77, 0, none⟩)), (57, .bool true)] := hm.keep [0, 1, 4, 5, 7, 57]
        replace hS : Sep w0 w_78 [N_47, Mem.one g_5 (.cells ([.int .i64 t_44.2.2.1, .int .i64 t_44.2.2.2.1, .int .i64 t_44.2.2.2.2.1, v_60, .int .i64 t_44.2.2.2.2.2.2.1, .int .i64 t_44.2.2.2.2.2.2.2.1, .int .i64 t_44.2.2.2.2.2.2.2.2.1, .int .i64 t_44.2.2.2.2.2.2.2.2.2.1, .int .i64 t_44.2.2.2.2.2.2.2.2.2.2.1, .int .i64 t_44.2.2.2.2.2.2.2.2.2.2.2.1, .int .i64 t_44.2.2.2.2.2.2.2.2.2.2.2.2.1, .int .i64 t_44.2.2.2.2.2.2.2.2.2.2.2.2.2.1, .bool t_44.2.2.2.2.2.2.2.2.2.2.2.2.2.2.1, .int .i64 t_44.2.2.2.2.2.2.2.2.2.2.2.2.2.2.2.1, .int .i64 t_44.2.2.2.2.2.2.2.2.2.2.2.2.2.2.2.2.1, .int .i64 t_44.2.2.2.2.2.2.2.2.2.2.2.2.2.2.2.2.2.1, .int .i64 t_44.2.2.2.2.2.2.2.2.2.2.2.2.2.2.2.2.2.2.1, v_64, .int .i64 t_44.2.2.2.2.2.2.2.2.2.2.2.2.2.2.2.2.2.2.2.2.1, .int .i64 t_44.2.2.2.2.2.2.2.2.2.2.2.2.2.2.2.2.2.2.2.2.2.1, v_66, v_68, .int .i64 t_44.2.2.2.2.2.2.2.2.2.2.2.2.2.2.2.2.2.2.2.2.2.2.2.2.1, .int .i64 t_44.2.2.2.2.2.2.2.2.2.2.2.2.2.2.2.2.2.2.2.2.2.2.2.2.2.1, .int .i64 t_44.2.2.2.2.2.2.2.2.2.2.2.2.2.2.2.2.2.2.2.2.2.2.2.2.2.2.1, .int .i64 t_44.2.2.2.2.2.2.2.2.2.2.2.2.2.2.2.2.2.2.2.2.2.2.2.2.2.2.2.1, .int .i64 t_44.2.2.2.2.2.2.2.2.2.2.2.2.2.2.2.2.2.2.2.2.2.2.2.2.2.2.2.2.1, v_70, v_72, v_74, .bool t_44.2.2.2.2.2.2.2.2.2.2.2.2.2.2.2.2.2.2.2.2.2.2.2.2.2.2.2.2.2.2.2.2] : List Value).toArray 80 (0, 0)), M_62, Mem.one g_77 (.cells ([.int .i64 t_44.1.Kind, .int .i64 t_44.1.From, .int .i64 t_44.1.To, .int .i64 t_44.1.View, .int .i64 t_44.1.Inst, .int .i64 t_44.1.Len, .bool t_44.1.Has, .int .i64 t_44.1.Members, .int .i64 t_44.1.Source, .int .i64 t_44.1.At, .int .i64 t_44.1.Total, v_48, .int .i64 t_44.1.Hop, .int .i64 t_44.1.Seq, v_50, v_52, .int .i64 t_44.1.Index, .int .i64 t_44.1.Entry.Sess, .int .i64 t_44.1.Entry.Seq, .int .i64 t_44.1.Entry.Cmd.Kind, .int .i64 t_44.1.Entry.Cmd.Who, v_54, v_56, v_58] : List Value).toArray 29 (0, 0))] Z := hS
        replace hm : Fr 120 a [(0, .int .i64 (w64 ((Int.tmod (band .i64 x0 255) 7) + 1))), (1, p1_0), (4, .bool false), (5, .pointer (some ⟨g_5, 0, none⟩)), (7, .pointer (some ⟨g_77, 0, none⟩)), (57, .bool true)] := hm.keep [0, 1, 4, 5, 7, 57]
        exact x_then_n (hJ_j_84 true H _ _ ⟨N_47, hm, (Sep.sel hS [0, 1, 2, 3] (by decide)), (Mem.le.refl _)⟩)
    · rw [if_neg hc_197] at H
      refine s_off hm rfl rfl rfl (nt (Bool.eq_false_iff.2 hc_197)) ?_
      clear hm a; intro a hm
      refine s_off hm rfl rfl rfl (nt (Bool.eq_false_iff.2 hc_197)) ?_
      clear hm a; intro a hm
      refine s_off hm rfl rfl rfl (nt (Bool.eq_false_iff.2 hc_197)) ?_
      clear hm a; intro a hm
      refine s_off hm rfl rfl rfl (nt (Bool.eq_false_iff.2 hc_197)) ?_
      clear hm a; intro a hm
      refine s_off hm rfl rfl rfl (nt (Bool.eq_false_iff.2 hc_197)) ?_
      clear hm a; intro a hm
      refine s_off hm rfl rfl rfl (nt (Bool.eq_false_iff.2 hc_197)) ?_
      clear hm a; intro a hm
      refine s_off hm rfl rfl rfl (nt (Bool.eq_false_iff.2 hc_197)) ?_
      clear hm a; intro a hm
      refine s_pick_t hm rfl rfl (nt (Bool.eq_false_iff.2 hc_197)) rfl ?_
      clear hm a; intro a hm
      refine s_move hm rfl rfl ?_
      clear hm a; intro a hm
      refine s_off hm rfl rfl rfl rfl ?_
      clear hm a; intro a hm
      refine s_off hm rfl rfl rfl rfl ?_
      clear hm a; intro a hm
      refine s_off hm rfl rfl rfl rfl ?_
      clear hm a; intro a hm
      refine s_pick_t hm rfl rfl rfl rfl ?_
      clear hm a; intro a hm
      refine wpList_nil ?_
      replace hm : Fr 120 a [(0, .int .i64 (w64 ((Int.tmod (band .i64 x0 255) 7) + 1))), (1, p1_0), (4, .bool false), (5, .pointer (some ⟨g_5, 0, none⟩)), (7, .pointer (some ⟨g_77, 0, none⟩)), (57, .bool true)] := hm.keep [0, 1, 4, 5, 7, 57]
      replace hS : Sep w0 w_78 [N_47, Mem.one g_5 (.cells ([.int .i64 t_44.2.2.1, .int .i64 t_44.2.2.2.1, .int .i64 t_44.2.2.2.2.1, v_60, .int .i64 t_44.2.2.2.2.2.2.1, .int .i64 t_44.2.2.2.2.2.2.2.1, .int .i64 t_44.2.2.2.2.2.2.2.2.1, .int .i64 t_44.2.2.2.2.2.2.2.2.2.1, .int .i64 t_44.2.2.2.2.2.2.2.2.2.2.1, .int .i64 t_44.2.2.2.2.2.2.2.2.2.2.2.1, .int .i64 t_44.2.2.2.2.2.2.2.2.2.2.2.2.1, .int .i64 t_44.2.2.2.2.2.2.2.2.2.2.2.2.2.1, .bool t_44.2.2.2.2.2.2.2.2.2.2.2.2.2.2.1, .int .i64 t_44.2.2.2.2.2.2.2.2.2.2.2.2.2.2.2.1, .int .i64 t_44.2.2.2.2.2.2.2.2.2.2.2.2.2.2.2.2.1, .int .i64 t_44.2.2.2.2.2.2.2.2.2.2.2.2.2.2.2.2.2.1, .int .i64 t_44.2.2.2.2.2.2.2.2.2.2.2.2.2.2.2.2.2.2.1, v_64, .int .i64 t_44.2.2.2.2.2.2.2.2.2.2.2.2.2.2.2.2.2.2.2.2.1, .int .i64 t_44.2.2.2.2.2.2.2.2.2.2.2.2.2.2.2.2.2.2.2.2.2.1, v_66, v_68, .int .i64 t_44.2.2.2.2.2.2.2.2.2.2.2.2.2.2.2.2.2.2.2.2.2.2.2.2.1, .int .i64 t_44.2.2.2.2.2.2.2.2.2.2.2.2.2.2.2.2.2.2.2.2.2.2.2.2.2.1, .int .i64 t_44.2.2.2.2.2.2.2.2.2.2.2.2.2.2.2.2.2.2.2.2.2.2.2.2.2.2.1, .int .i64 t_44.2.2.2.2.2.2.2.2.2.2.2.2.2.2.2.2.2.2.2.2.2.2.2.2.2.2.2.1, .int .i64 t_44.2.2.2.2.2.2.2.2.2.2.2.2.2.2.2.2.2.2.2.2.2.2.2.2.2.2.2.2.1, v_70, v_72, v_74, .bool t_44.2.2.2.2.2.2.2.2.2.2.2.2.2.2.2.2.2.2.2.2.2.2.2.2.2.2.2.2.2.2.2.2] : List Value).toArray 80 (0, 0)), M_62, Mem.one g_77 (.cells ([.int .i64 t_44.1.Kind, .int .i64 t_44.1.From, .int .i64 t_44.1.To, .int .i64 t_44.1.View, .int .i64 t_44.1.Inst, .int .i64 t_44.1.Len, .bool t_44.1.Has, .int .i64 t_44.1.Members, .int .i64 t_44.1.Source, .int .i64 t_44.1.At, .int .i64 t_44.1.Total, v_48, .int .i64 t_44.1.Hop, .int .i64 t_44.1.Seq, v_50, v_52, .int .i64 t_44.1.Index, .int .i64 t_44.1.Entry.Sess, .int .i64 t_44.1.Entry.Seq, .int .i64 t_44.1.Entry.Cmd.Kind, .int .i64 t_44.1.Entry.Cmd.Who, v_54, v_56, v_58] : List Value).toArray 29 (0, 0))] Z := hS
      replace hm : Fr 120 a [(0, .int .i64 (w64 ((Int.tmod (band .i64 x0 255) 7) + 1))), (1, p1_0), (4, .bool false), (5, .pointer (some ⟨g_5, 0, none⟩)), (7, .pointer (some ⟨g_77, 0, none⟩)), (57, .bool true)] := hm.keep [0, 1, 4, 5, 7, 57]
      exact x_then_n (hJ_j_84 true H _ _ ⟨N_47, hm, (Sep.sel hS [0, 1, 2, 3] (by decide)), (Mem.le.refl _)⟩)
  clear hKJ_23
  replace hS : Sep w0 w_2 [N_4, Mem.one g_5 (.cells ([.int .i64 t_1.1, .int .i64 t_1.2.1, .int .i64 t_1.2.2.1, v_6, .int .i64 t_1.2.2.2.2.1, .int .i64 t_1.2.2.2.2.2.1, .int .i64 t_1.2.2.2.2.2.2.1, .int .i64 t_1.2.2.2.2.2.2.2.1, .int .i64 t_1.2.2.2.2.2.2.2.2.1, .int .i64 t_1.2.2.2.2.2.2.2.2.2.1, .int .i64 t_1.2.2.2.2.2.2.2.2.2.2.1, .int .i64 t_1.2.2.2.2.2.2.2.2.2.2.2.1, .bool t_1.2.2.2.2.2.2.2.2.2.2.2.2.1, .int .i64 t_1.2.2.2.2.2.2.2.2.2.2.2.2.2.1, .int .i64 t_1.2.2.2.2.2.2.2.2.2.2.2.2.2.2.1, .int .i64 t_1.2.2.2.2.2.2.2.2.2.2.2.2.2.2.2.1, .int .i64 t_1.2.2.2.2.2.2.2.2.2.2.2.2.2.2.2.2.1, v_10, .int .i64 t_1.2.2.2.2.2.2.2.2.2.2.2.2.2.2.2.2.2.2.1, .int .i64 t_1.2.2.2.2.2.2.2.2.2.2.2.2.2.2.2.2.2.2.2.1, v_12, v_14, .int .i64 t_1.2.2.2.2.2.2.2.2.2.2.2.2.2.2.2.2.2.2.2.2.2.2.1, .int .i64 t_1.2.2.2.2.2.2.2.2.2.2.2.2.2.2.2.2.2.2.2.2.2.2.2.1, .int .i64 t_1.2.2.2.2.2.2.2.2.2.2.2.2.2.2.2.2.2.2.2.2.2.2.2.2.1, .int .i64 t_1.2.2.2.2.2.2.2.2.2.2.2.2.2.2.2.2.2.2.2.2.2.2.2.2.2.1, .int .i64 t_1.2.2.2.2.2.2.2.2.2.2.2.2.2.2.2.2.2.2.2.2.2.2.2.2.2.2.1, v_16, v_18, v_20, .bool t_1.2.2.2.2.2.2.2.2.2.2.2.2.2.2.2.2.2.2.2.2.2.2.2.2.2.2.2.2.2.2] : List Value).toArray 80 (0, 0)), M_8] Z := hS
  replace hm : Fr 120 a [(0, .int .i64 (w64 ((Int.tmod (band .i64 x0 255) 7) + 1))), (1, p1_0), (4, .bool false), (5, .pointer (some ⟨g_5, 0, none⟩)), (6, .int .i64 1)] := hm.keep [0, 1, 4, 5, 6]
  refine c_block ?_
  refine c_loop (fun k_218 a w_218 => ∃ (x_200 : Int) (x_201 : gath_Gather) (v_204 : Value) (v_206 : Value) (v_208 : Value) (v_210 : Value) (v_212 : Value) (v_214 : Value) (v_216 : Value) (N_199 : Mem) (M_202 : Mem), hocketlaw18_GathReady.L2 K x0 (fun v => hocketlaw18_GathReady.J1 K x0 x1 v) k_218 (x_200, x_201) = some r ∧ Fr 120 a [(0, .int .i64 (w64 ((Int.tmod (band .i64 x0 255) 7) + 1))), (1, p1_0), (4, .bool false), (5, .pointer (some ⟨g_5, 0, none⟩)), (6, .int .i64 x_200)] ∧ Sep w0 w_218 [N_199, Mem.one g_5 (.cells ([.int .i64 x_201.n, .int .i64 x_201.id, .int .i64 x_201.v, v_204, .int .i64 x_201.come, .int .i64 x_201.ready, .int .i64 x_201.commit.Kind, .int .i64 x_201.commit.From, .int .i64 x_201.commit.To, .int .i64 x_201.commit.View, .int .i64 x_201.commit.Inst, .int .i64 x_201.commit.Len, .bool x_201.commit.Has, .int .i64 x_201.commit.Members, .int .i64 x_201.commit.Source, .int .i64 x_201.commit.At, .int .i64 x_201.commit.Total, v_206, .int .i64 x_201.commit.Hop, .int .i64 x_201.commit.Seq, v_208, v_210, .int .i64 x_201.commit.Index, .int .i64 x_201.commit.Entry.Sess, .int .i64 x_201.commit.Entry.Seq, .int .i64 x_201.commit.Entry.Cmd.Kind, .int .i64 x_201.commit.Entry.Cmd.Who, v_212, v_214, v_216, .bool x_201.is] : List Value).toArray 80 (0, 0)), M_202] Z ∧ N_4.le N_199 ∧ Own k_api_Msg 29 M_202 N_199 v_204 x_201.l ∧ Rd Kd.u8 N_199 v_206 x_201.commit.Data ∧ Rd (Kd.int .i64) N_199 v_208 x_201.commit.Have ∧ Rd (Kd.int .i64) N_199 v_210 x_201.commit.Need ∧ Rd Kd.u8 N_199 v_212 x_201.commit.Entry.Cmd.Key ∧ Rd Kd.u8 N_199 v_214 x_201.commit.Entry.Cmd.Val ∧ Rd Kd.u8 N_199 v_216 x_201.commit.Entry.Cmd.Old) K ⟨1, (⟨t_1.1, t_1.2.1, t_1.2.2.1, t_1.2.2.2.1, t_1.2.2.2.2.1, t_1.2.2.2.2.2.1, (⟨t_1.2.2.2.2.2.2.1, t_1.2.2.2.2.2.2.2.1, t_1.2.2.2.2.2.2.2.2.1, t_1.2.2.2.2.2.2.2.2.2.1, t_1.2.2.2.2.2.2.2.2.2.2.1, t_1.2.2.2.2.2.2.2.2.2.2.2.1, t_1.2.2.2.2.2.2.2.2.2.2.2.2.1, t_1.2.2.2.2.2.2.2.2.2.2.2.2.2.1, t_1.2.2.2.2.2.2.2.2.2.2.2.2.2.2.1, t_1.2.2.2.2.2.2.2.2.2.2.2.2.2.2.2.1, t_1.2.2.2.2.2.2.2.2.2.2.2.2.2.2.2.2.1, t_1.2.2.2.2.2.2.2.2.2.2.2.2.2.2.2.2.2.1, t_1.2.2.2.2.2.2.2.2.2.2.2.2.2.2.2.2.2.2.1, t_1.2.2.2.2.2.2.2.2.2.2.2.2.2.2.2.2.2.2.2.1, t_1.2.2.2.2.2.2.2.2.2.2.2.2.2.2.2.2.2.2.2.2.1, t_1.2.2.2.2.2.2.2.2.2.2.2.2.2.2.2.2.2.2.2.2.2.1, t_1.2.2.2.2.2.2.2.2.2.2.2.2.2.2.2.2.2.2.2.2.2.2.1, (⟨t_1.2.2.2.2.2.2.2.2.2.2.2.2.2.2.2.2.2.2.2.2.2.2.2.1, t_1.2.2.2.2.2.2.2.2.2.2.2.2.2.2.2.2.2.2.2.2.2.2.2.2.1, (⟨t_1.2.2.2.2.2.2.2.2.2.2.2.2.2.2.2.2.2.2.2.2.2.2.2.2.2.1, t_1.2.2.2.2.2.2.2.2.2.2.2.2.2.2.2.2.2.2.2.2.2.2.2.2.2.2.1, t_1.2.2.2.2.2.2.2.2.2.2.2.2.2.2.2.2.2.2.2.2.2.2.2.2.2.2.2.1, t_1.2.2.2.2.2.2.2.2.2.2.2.2.2.2.2.2.2.2.2.2.2.2.2.2.2.2.2.2.1, t_1.2.2.2.2.2.2.2.2.2.2.2.2.2.2.2.2.2.2.2.2.2.2.2.2.2.2.2.2.2.1⟩ : api_Cmd)⟩ : api_Entry)⟩ : api_Msg), t_1.2.2.2.2.2.2.2.2.2.2.2.2.2.2.2.2.2.2.2.2.2.2.2.2.2.2.2.2.2.2⟩ : gath_Gather), v_6, v_10, v_12, v_14, v_16, v_18, v_20, N_4, M_8, H, hm, (Sep.sel hS [0, 1, 2] (by decide)), (Mem.le.refl _), ((hr_7.mono (Mem.un_le le_4 ln_4)).mono (Mem.le.refl _)), (hr_11.mono ln_4), (hr_13.mono ln_4), (hr_15.mono ln_4), (hr_17.mono ln_4), (hr_19.mono ln_4), (hr_21.mono ln_4)⟩ (fun a w h => by obtain ⟨_, _, _, _, _, _, _, _, _, _, _, H, _⟩ := h; cases (show (none : Option (Unit)) = some r from H)) ?_
  clear hm hS a H
  rintro k_218 a w_218 KL_218 hKL_218 ⟨x_200, x_201, v_204, v_206, v_208, v_210, v_212, v_214, v_216, N_199, M_202, H, hm, hS, le_199, ho_205, hr_207, hr_209, hr_211, hr_213, hr_215, hr_217⟩
  replace H : hocketlaw18_GathReady.B2 K x0 (fun v => hocketlaw18_GathReady.J1 K x0 x1 v) (hocketlaw18_GathReady.L2 K x0 (fun v => hocketlaw18_GathReady.J1 K x0 x1 v) k_218) x_200 x_201 = some r := H
  unfold hocketlaw18_GathReady.B2 at H
  refine c_seq fun KJ_220 hKJ_220 => ?_
  refine wp_seq ?_
  refine wp_region_lit ?_
  refine s_move hm rfl rfl ?_
  clear hm a; intro a hm
  refine s_move hm rfl rfl ?_
  clear hm a; intro a hm
  refine s_cmp (b := decide (x_200 < (w64 ((Int.tmod (band .i64 x0 255) 7) + 1)))) hm rfl rfl rfl (.inr (.inr (.inl ⟨rfl, rfl⟩))) ?_
  clear hm a; intro a hm
  refine wpList_nil ?_
  replace hm : Fr 120 a [(0, .int .i64 (w64 ((Int.tmod (band .i64 x0 255) 7) + 1))), (1, p1_0), (4, .bool false), (5, .pointer (some ⟨g_5, 0, none⟩)), (6, .int .i64 x_200), (24, .bool (decide (x_200 < (w64 ((Int.tmod (band .i64 x0 255) 7) + 1)))))] := hm.keep [0, 1, 4, 5, 6, 24]
  refine x_then_n ?_
  by_cases hc_221 : x_200 < (w64 ((Int.tmod (band .i64 x0 255) 7) + 1))
  · rw [if_pos hc_221] at H
    refine c_cond_t hm rfl (decide_eq_true hc_221) ?_
    refine wp_skip ?_
    refine x_then_n (hKJ_220 _ _ ?_)
    refine c_seq fun KJ_222 hKJ_222 => ?_
    refine c_block ?_
    refine c_seq fun KJ_223 hKJ_223 => ?_
    have hJ_j_244 : ∀ (x_225 : Bool), ∀ (x_226 : gath_Gather), hocketlaw18_GathReady.J8 K (hocketlaw18_GathReady.L2 K x0 (fun v => hocketlaw18_GathReady.J1 K x0 x1 v) k_218) x_200 x_225 x_226 = some r → ∀ (a : Act) (w_243 : World), (∃ (v_229 : Value) (v_231 : Value) (v_233 : Value) (v_235 : Value) (v_237 : Value) (v_239 : Value) (v_241 : Value) (N_224 : Mem) (M_227 : Mem), Fr 120 a [(0, .int .i64 (w64 ((Int.tmod (band .i64 x0 255) 7) + 1))), (1, p1_0), (4, .bool false), (5, .pointer (some ⟨g_5, 0, none⟩)), (6, .int .i64 x_200), (36, .bool x_225)] ∧ Sep w0 w_243 [N_224, Mem.one g_5 (.cells ([.int .i64 x_226.n, .int .i64 x_226.id, .int .i64 x_226.v, v_229, .int .i64 x_226.come, .int .i64 x_226.ready, .int .i64 x_226.commit.Kind, .int .i64 x_226.commit.From, .int .i64 x_226.commit.To, .int .i64 x_226.commit.View, .int .i64 x_226.commit.Inst, .int .i64 x_226.commit.Len, .bool x_226.commit.Has, .int .i64 x_226.commit.Members, .int .i64 x_226.commit.Source, .int .i64 x_226.commit.At, .int .i64 x_226.commit.Total, v_231, .int .i64 x_226.commit.Hop, .int .i64 x_226.commit.Seq, v_233, v_235, .int .i64 x_226.commit.Index, .int .i64 x_226.commit.Entry.Sess, .int .i64 x_226.commit.Entry.Seq, .int .i64 x_226.commit.Entry.Cmd.Kind, .int .i64 x_226.commit.Entry.Cmd.Who, v_237, v_239, v_241, .bool x_226.is] : List Value).toArray 80 (0, 0)), M_227] Z ∧ N_199.le N_224 ∧ Own k_api_Msg 29 M_227 N_224 v_229 x_226.l ∧ Rd Kd.u8 N_224 v_231 x_226.commit.Data ∧ Rd (Kd.int .i64) N_224 v_233 x_226.commit.Have ∧ Rd (Kd.int .i64) N_224 v_235 x_226.commit.Need ∧ Rd Kd.u8 N_224 v_237 x_226.commit.Entry.Cmd.Key ∧ Rd Kd.u8 N_224 v_239 x_226.commit.Entry.Cmd.Val ∧ Rd Kd.u8 N_224 v_241 x_226.commit.Entry.Cmd.Old) → KJ_223 a w_243 := by
      clear H hm hS a
      rintro x_225 x_226 H a w_243 ⟨v_229, v_231, v_233, v_235, v_237, v_239, v_241, N_224, M_227, hm, hS, le_224, ho_230, hr_232, hr_234, hr_236, hr_238, hr_240, hr_242⟩
      unfold hocketlaw18_GathReady.J8 at H
      refine hKJ_223 _ _ ?_
      by_cases hc_245 : x_225 = true
      · rw [if_pos hc_245] at H
        cases H
      · rw [if_neg hc_245] at H
        refine c_cond_f hm rfl (Bool.eq_false_iff.2 hc_245) ?_
        refine wp_skip ?_
        refine x_block_n ?_
        refine x_then_n (hKJ_222 _ _ ?_)
        refine wp_region_lit ?_
        refine s_move hm rfl rfl ?_
        clear hm a; intro a hm
        refine s_arith (r := w64 (x_200 + 1)) hm rfl rfl rfl (.inl ⟨rfl, rfl⟩) ?_
        clear hm a; intro a hm
        refine s_assign hm rfl rfl ?_
        clear hm a; intro a hm
        refine wpList_nil ?_
        replace hm : Fr 120 a [(0, .int .i64 (w64 ((Int.tmod (band .i64 x0 255) 7) + 1))), (1, p1_0), (4, .bool false), (5, .pointer (some ⟨g_5, 0, none⟩)), (6, .int .i64 (w64 (x_200 + 1)))] := hm.keep [0, 1, 4, 5, 6]
        refine x_then_n (hKL_218 _ _ ?_)
        replace hS : Sep w0 w_243 [N_224, Mem.one g_5 (.cells ([.int .i64 x_226.n, .int .i64 x_226.id, .int .i64 x_226.v, v_229, .int .i64 x_226.come, .int .i64 x_226.ready, .int .i64 x_226.commit.Kind, .int .i64 x_226.commit.From, .int .i64 x_226.commit.To, .int .i64 x_226.commit.View, .int .i64 x_226.commit.Inst, .int .i64 x_226.commit.Len, .bool x_226.commit.Has, .int .i64 x_226.commit.Members, .int .i64 x_226.commit.Source, .int .i64 x_226.commit.At, .int .i64 x_226.commit.Total, v_231, .int .i64 x_226.commit.Hop, .int .i64 x_226.commit.Seq, v_233, v_235, .int .i64 x_226.commit.Index, .int .i64 x_226.commit.Entry.Sess, .int .i64 x_226.commit.Entry.Seq, .int .i64 x_226.commit.Entry.Cmd.Kind, .int .i64 x_226.commit.Entry.Cmd.Who, v_237, v_239, v_241, .bool x_226.is] : List Value).toArray 80 (0, 0)), M_227] Z := hS
        replace hm : Fr 120 a [(0, .int .i64 (w64 ((Int.tmod (band .i64 x0 255) 7) + 1))), (1, p1_0), (4, .bool false), (5, .pointer (some ⟨g_5, 0, none⟩)), (6, .int .i64 (w64 (x_200 + 1)))] := hm.keep [0, 1, 4, 5, 6]
        exact ⟨w64 (x_200 + 1), x_226, v_229, v_231, v_233, v_235, v_237, v_239, v_241, N_224, M_227, H, hm, (Sep.sel hS [0, 1, 2] (by decide)), (le_199.trans le_224), (ho_230.mono (Mem.le.refl _)), hr_232, hr_234, hr_236, hr_238, hr_240, hr_242⟩
    clear hKJ_223
    refine wp_region_lit ?_
    refine s_move hm rfl rfl ?_
    clear hm a; intro a hm
    refine s_move hm rfl rfl ?_
    clear hm a; intro a hm
    obtain ⟨t_246, et_246, H⟩ := Option.bind_eq_some_iff.1 H
    refine s_call hm rfl Try.call47 rfl (gath_Gather_Ready.calls K _ x_201.n x_201.id x_201.v x_201.l _ _ x_201.come x_201.ready x_201.commit.Kind x_201.commit.From x_201.commit.To x_201.commit.View x_201.commit.Inst x_201.commit.Len x_201.commit.Has x_201.commit.Members x_201.commit.Source x_201.commit.At x_201.commit.Total x_201.commit.Data _ x_201.commit.Hop x_201.commit.Seq x_201.commit.Have _ x_201.commit.Need _ x_201.commit.Index x_201.commit.Entry.Sess x_201.commit.Entry.Seq x_201.commit.Entry.Cmd.Kind x_201.commit.Entry.Cmd.Who x_201.commit.Entry.Cmd.Key _ x_201.commit.Entry.Cmd.Val _ x_201.commit.Entry.Cmd.Old _ x_201.is x_200 t_246 w0 _ _ N_199 (hS.new_zed [0, 1]) (hS.enter [0, 1] (by decide)) (ho_205.mono (Mem.le.refl _)) hr_207 hr_209 hr_211 hr_213 hr_215 hr_217 et_246) ?_
    rintro _ w_247 ⟨v_250, v_254, v_256, v_258, v_260, v_262, v_264, N_248, M_252, rfl, hS', hr_251, hr_255, hr_257, hr_259, hr_261, hr_263, hr_265⟩
    clear hm a; intro a hm
    obtain ⟨N_249, hS'', le_249, ln_249⟩ := hS.call [0, 1] (by decide) rfl (l' := [Mem.one g_5 (.cells ([.int .i64 t_246.2.1, .int .i64 t_246.2.2.1, .int .i64 t_246.2.2.2.1, v_250, .int .i64 t_246.2.2.2.2.2.1, .int .i64 t_246.2.2.2.2.2.2.1, .int .i64 t_246.2.2.2.2.2.2.2.1, .int .i64 t_246.2.2.2.2.2.2.2.2.1, .int .i64 t_246.2.2.2.2.2.2.2.2.2.1, .int .i64 t_246.2.2.2.2.2.2.2.2.2.2.1, .int .i64 t_246.2.2.2.2.2.2.2.2.2.2.2.1, .int .i64 t_246.2.2.2.2.2.2.2.2.2.2.2.2.1, .bool t_246.2.2.2.2.2.2.2.2.2.2.2.2.2.1, .int .i64 t_246.2.2.2.2.2.2.2.2.2.2.2.2.2.2.1, .int .i64 t_246.2.2.2.2.2.2.2.2.2.2.2.2.2.2.2.1, .int .i64 t_246.2.2.2.2.2.2.2.2.2.2.2.2.2.2.2.2.1, .int .i64 t_246.2.2.2.2.2.2.2.2.2.2.2.2.2.2.2.2.2.1, v_254, .int .i64 t_246.2.2.2.2.2.2.2.2.2.2.2.2.2.2.2.2.2.2.2.1, .int .i64 t_246.2.2.2.2.2.2.2.2.2.2.2.2.2.2.2.2.2.2.2.2.1, v_256, v_258, .int .i64 t_246.2.2.2.2.2.2.2.2.2.2.2.2.2.2.2.2.2.2.2.2.2.2.2.1, .int .i64 t_246.2.2.2.2.2.2.2.2.2.2.2.2.2.2.2.2.2.2.2.2.2.2.2.2.1, .int .i64 t_246.2.2.2.2.2.2.2.2.2.2.2.2.2.2.2.2.2.2.2.2.2.2.2.2.2.1, .int .i64 t_246.2.2.2.2.2.2.2.2.2.2.2.2.2.2.2.2.2.2.2.2.2.2.2.2.2.2.1, .int .i64 t_246.2.2.2.2.2.2.2.2.2.2.2.2.2.2.2.2.2.2.2.2.2.2.2.2.2.2.2.1, v_260, v_262, v_264, .bool t_246.2.2.2.2.2.2.2.2.2.2.2.2.2.2.2.2.2.2.2.2.2.2.2.2.2.2.2.2.2.2.2] : List Value).toArray 80 (0, 0)), M_252]) (ow := []) rfl hS'
    replace hS : Sep w0 w_247 [N_249, Mem.one g_5 (.cells ([.int .i64 t_246.2.1, .int .i64 t_246.2.2.1, .int .i64 t_246.2.2.2.1, v_250, .int .i64 t_246.2.2.2.2.2.1, .int .i64 t_246.2.2.2.2.2.2.1, .int .i64 t_246.2.2.2.2.2.2.2.1, .int .i64 t_246.2.2.2.2.2.2.2.2.1, .int .i64 t_246.2.2.2.2.2.2.2.2.2.1, .int .i64 t_246.2.2.2.2.2.2.2.2.2.2.1, .int .i64 t_246.2.2.2.2.2.2.2.2.2.2.2.1, .int .i64 t_246.2.2.2.2.2.2.2.2.2.2.2.2.1, .bool t_246.2.2.2.2.2.2.2.2.2.2.2.2.2.1, .int .i64 t_246.2.2.2.2.2.2.2.2.2.2.2.2.2.2.1, .int .i64 t_246.2.2.2.2.2.2.2.2.2.2.2.2.2.2.2.1, .int .i64 t_246.2.2.2.2.2.2.2.2.2.2.2.2.2.2.2.2.1, .int .i64 t_246.2.2.2.2.2.2.2.2.2.2.2.2.2.2.2.2.2.1, v_254, .int .i64 t_246.2.2.2.2.2.2.2.2.2.2.2.2.2.2.2.2.2.2.2.1, .int .i64 t_246.2.2.2.2.2.2.2.2.2.2.2.2.2.2.2.2.2.2.2.2.1, v_256, v_258, .int .i64 t_246.2.2.2.2.2.2.2.2.2.2.2.2.2.2.2.2.2.2.2.2.2.2.2.1, .int .i64 t_246.2.2.2.2.2.2.2.2.2.2.2.2.2.2.2.2.2.2.2.2.2.2.2.2.1, .int .i64 t_246.2.2.2.2.2.2.2.2.2.2.2.2.2.2.2.2.2.2.2.2.2.2.2.2.2.1, .int .i64 t_246.2.2.2.2.2.2.2.2.2.2.2.2.2.2.2.2.2.2.2.2.2.2.2.2.2.2.1, .int .i64 t_246.2.2.2.2.2.2.2.2.2.2.2.2.2.2.2.2.2.2.2.2.2.2.2.2.2.2.2.1, v_260, v_262, v_264, .bool t_246.2.2.2.2.2.2.2.2.2.2.2.2.2.2.2.2.2.2.2.2.2.2.2.2.2.2.2.2.2.2.2] : List Value).toArray 80 (0, 0)), M_252] Z := hS''
    clear hS' hS''
    refine s_move hm rfl rfl ?_
    clear hm a; intro a hm
    by_cases hc_266 : t_246.1 = true
    · rw [if_pos hc_266] at H
      refine s_off hm rfl rfl rfl hc_266 ?_
      clear hm a; intro a hm
      refine s_off hm rfl rfl rfl hc_266 ?_
      clear hm a; intro a hm
      refine s_off hm rfl rfl rfl hc_266 ?_
      clear hm a; intro a hm
      refine s_off hm rfl rfl rfl hc_266 ?_
      clear hm a; intro a hm
      refine s_off hm rfl rfl rfl hc_266 ?_
      clear hm a; intro a hm
      refine s_pick_t hm rfl rfl hc_266 rfl ?_
      clear hm a; intro a hm
      refine wpList_nil ?_
      replace hm : Fr 120 a [(0, .int .i64 (w64 ((Int.tmod (band .i64 x0 255) 7) + 1))), (1, p1_0), (4, .bool false), (5, .pointer (some ⟨g_5, 0, none⟩)), (6, .int .i64 x_200), (36, .bool true)] := hm.keep [0, 1, 4, 5, 6, 36]
      replace hS : Sep w0 w_247 [N_249, Mem.one g_5 (.cells ([.int .i64 t_246.2.1, .int .i64 t_246.2.2.1, .int .i64 t_246.2.2.2.1, v_250, .int .i64 t_246.2.2.2.2.2.1, .int .i64 t_246.2.2.2.2.2.2.1, .int .i64 t_246.2.2.2.2.2.2.2.1, .int .i64 t_246.2.2.2.2.2.2.2.2.1, .int .i64 t_246.2.2.2.2.2.2.2.2.2.1, .int .i64 t_246.2.2.2.2.2.2.2.2.2.2.1, .int .i64 t_246.2.2.2.2.2.2.2.2.2.2.2.1, .int .i64 t_246.2.2.2.2.2.2.2.2.2.2.2.2.1, .bool t_246.2.2.2.2.2.2.2.2.2.2.2.2.2.1, .int .i64 t_246.2.2.2.2.2.2.2.2.2.2.2.2.2.2.1, .int .i64 t_246.2.2.2.2.2.2.2.2.2.2.2.2.2.2.2.1, .int .i64 t_246.2.2.2.2.2.2.2.2.2.2.2.2.2.2.2.2.1, .int .i64 t_246.2.2.2.2.2.2.2.2.2.2.2.2.2.2.2.2.2.1, v_254, .int .i64 t_246.2.2.2.2.2.2.2.2.2.2.2.2.2.2.2.2.2.2.2.1, .int .i64 t_246.2.2.2.2.2.2.2.2.2.2.2.2.2.2.2.2.2.2.2.2.1, v_256, v_258, .int .i64 t_246.2.2.2.2.2.2.2.2.2.2.2.2.2.2.2.2.2.2.2.2.2.2.2.1, .int .i64 t_246.2.2.2.2.2.2.2.2.2.2.2.2.2.2.2.2.2.2.2.2.2.2.2.2.1, .int .i64 t_246.2.2.2.2.2.2.2.2.2.2.2.2.2.2.2.2.2.2.2.2.2.2.2.2.2.1, .int .i64 t_246.2.2.2.2.2.2.2.2.2.2.2.2.2.2.2.2.2.2.2.2.2.2.2.2.2.2.1, .int .i64 t_246.2.2.2.2.2.2.2.2.2.2.2.2.2.2.2.2.2.2.2.2.2.2.2.2.2.2.2.1, v_260, v_262, v_264, .bool t_246.2.2.2.2.2.2.2.2.2.2.2.2.2.2.2.2.2.2.2.2.2.2.2.2.2.2.2.2.2.2.2] : List Value).toArray 80 (0, 0)), M_252] Z := hS
      replace hm : Fr 120 a [(0, .int .i64 (w64 ((Int.tmod (band .i64 x0 255) 7) + 1))), (1, p1_0), (4, .bool false), (5, .pointer (some ⟨g_5, 0, none⟩)), (6, .int .i64 x_200), (36, .bool true)] := hm.keep [0, 1, 4, 5, 6, 36]
      exact x_then_n (hJ_j_244 true (⟨t_246.2.1, t_246.2.2.1, t_246.2.2.2.1, t_246.2.2.2.2.1, t_246.2.2.2.2.2.1, t_246.2.2.2.2.2.2.1, (⟨t_246.2.2.2.2.2.2.2.1, t_246.2.2.2.2.2.2.2.2.1, t_246.2.2.2.2.2.2.2.2.2.1, t_246.2.2.2.2.2.2.2.2.2.2.1, t_246.2.2.2.2.2.2.2.2.2.2.2.1, t_246.2.2.2.2.2.2.2.2.2.2.2.2.1, t_246.2.2.2.2.2.2.2.2.2.2.2.2.2.1, t_246.2.2.2.2.2.2.2.2.2.2.2.2.2.2.1, t_246.2.2.2.2.2.2.2.2.2.2.2.2.2.2.2.1, t_246.2.2.2.2.2.2.2.2.2.2.2.2.2.2.2.2.1, t_246.2.2.2.2.2.2.2.2.2.2.2.2.2.2.2.2.2.1, t_246.2.2.2.2.2.2.2.2.2.2.2.2.2.2.2.2.2.2.1, t_246.2.2.2.2.2.2.2.2.2.2.2.2.2.2.2.2.2.2.2.1, t_246.2.2.2.2.2.2.2.2.2.2.2.2.2.2.2.2.2.2.2.2.1, t_246.2.2.2.2.2.2.2.2.2.2.2.2.2.2.2.2.2.2.2.2.2.1, t_246.2.2.2.2.2.2.2.2.2.2.2.2.2.2.2.2.2.2.2.2.2.2.1, t_246.2.2.2.2.2.2.2.2.2.2.2.2.2.2.2.2.2.2.2.2.2.2.2.1, (⟨t_246.2.2.2.2.2.2.2.2.2.2.2.2.2.2.2.2.2.2.2.2.2.2.2.2.1, t_246.2.2.2.2.2.2.2.2.2.2.2.2.2.2.2.2.2.2.2.2.2.2.2.2.2.1, (⟨t_246.2.2.2.2.2.2.2.2.2.2.2.2.2.2.2.2.2.2.2.2.2.2.2.2.2.2.1, t_246.2.2.2.2.2.2.2.2.2.2.2.2.2.2.2.2.2.2.2.2.2.2.2.2.2.2.2.1, t_246.2.2.2.2.2.2.2.2.2.2.2.2.2.2.2.2.2.2.2.2.2.2.2.2.2.2.2.2.1, t_246.2.2.2.2.2.2.2.2.2.2.2.2.2.2.2.2.2.2.2.2.2.2.2.2.2.2.2.2.2.1, t_246.2.2.2.2.2.2.2.2.2.2.2.2.2.2.2.2.2.2.2.2.2.2.2.2.2.2.2.2.2.2.1⟩ : api_Cmd)⟩ : api_Entry)⟩ : api_Msg), t_246.2.2.2.2.2.2.2.2.2.2.2.2.2.2.2.2.2.2.2.2.2.2.2.2.2.2.2.2.2.2.2⟩ : gath_Gather) H _ _ ⟨v_250, v_254, v_256, v_258, v_260, v_262, v_264, N_249, M_252, hm, (Sep.sel hS [0, 1, 2] (by decide)), le_249, ((hr_251.mono (Mem.un_le le_249 ln_249)).mono (Mem.le.refl _)), (hr_255.mono (Mem.un_le le_249 ln_249)), (hr_257.mono (Mem.un_le le_249 ln_249)), (hr_259.mono (Mem.un_le le_249 ln_249)), (hr_261.mono (Mem.un_le le_249 ln_249)), (hr_263.mono (Mem.un_le le_249 ln_249)), (hr_265.mono (Mem.un_le le_249 ln_249))⟩)
    · rw [if_neg hc_266] at H
      refine s_on hm rfl rfl (Bool.eq_false_iff.2 hc_266) ?_
      refine s_move hm rfl rfl ?_
      clear hm a; intro a hm
      refine s_on hm rfl rfl (Bool.eq_false_iff.2 hc_266) ?_
      refine s_move hm rfl rfl ?_
      clear hm a; intro a hm
      refine s_on hm rfl rfl (Bool.eq_false_iff.2 hc_266) ?_
      refine s_build hm rfl ti29 pl29 rfl (.cons rfl (.cons rfl (.cons rfl .nil))) (cs := [.int .i64 2, .int .i64 x_200, .int .i64 0, .int .i64 8, .int .i64 0, .int .i64 0, .bool false, .int .i64 0, .int .i64 0, .int .i64 0, .int .i64 0, .slice none 0 0, .int .i64 0, .int .i64 0, .slice none 0 0, .slice none 0 0, .int .i64 0, .int .i64 0, .int .i64 0, .int .i64 0, .int .i64 0, .slice none 0 0, .slice none 0 0, .slice none 0 0]) rfl ?_
      clear hm a; intro a hm
      refine s_on hm rfl rfl (Bool.eq_false_iff.2 hc_266) ?_
      obtain ⟨t_267, et_267, H⟩ := Option.bind_eq_some_iff.1 H
      refine s_call hm rfl Try.call42 rfl (gath_Gather_Take.calls _ t_246.2.1 t_246.2.2.1 t_246.2.2.2.1 t_246.2.2.2.2.1 _ _ t_246.2.2.2.2.2.1 t_246.2.2.2.2.2.2.1 t_246.2.2.2.2.2.2.2.1 t_246.2.2.2.2.2.2.2.2.1 t_246.2.2.2.2.2.2.2.2.2.1 t_246.2.2.2.2.2.2.2.2.2.2.1 t_246.2.2.2.2.2.2.2.2.2.2.2.1 t_246.2.2.2.2.2.2.2.2.2.2.2.2.1 t_246.2.2.2.2.2.2.2.2.2.2.2.2.2.1 t_246.2.2.2.2.2.2.2.2.2.2.2.2.2.2.1 t_246.2.2.2.2.2.2.2.2.2.2.2.2.2.2.2.1 t_246.2.2.2.2.2.2.2.2.2.2.2.2.2.2.2.2.1 t_246.2.2.2.2.2.2.2.2.2.2.2.2.2.2.2.2.2.1 t_246.2.2.2.2.2.2.2.2.2.2.2.2.2.2.2.2.2.2.1 _ t_246.2.2.2.2.2.2.2.2.2.2.2.2.2.2.2.2.2.2.2.1 t_246.2.2.2.2.2.2.2.2.2.2.2.2.2.2.2.2.2.2.2.2.1 t_246.2.2.2.2.2.2.2.2.2.2.2.2.2.2.2.2.2.2.2.2.2.1 _ t_246.2.2.2.2.2.2.2.2.2.2.2.2.2.2.2.2.2.2.2.2.2.2.1 _ t_246.2.2.2.2.2.2.2.2.2.2.2.2.2.2.2.2.2.2.2.2.2.2.2.1 t_246.2.2.2.2.2.2.2.2.2.2.2.2.2.2.2.2.2.2.2.2.2.2.2.2.1 t_246.2.2.2.2.2.2.2.2.2.2.2.2.2.2.2.2.2.2.2.2.2.2.2.2.2.1 t_246.2.2.2.2.2.2.2.2.2.2.2.2.2.2.2.2.2.2.2.2.2.2.2.2.2.2.1 t_246.2.2.2.2.2.2.2.2.2.2.2.2.2.2.2.2.2.2.2.2.2.2.2.2.2.2.2.1 t_246.2.2.2.2.2.2.2.2.2.2.2.2.2.2.2.2.2.2.2.2.2.2.2.2.2.2.2.2.1 _ t_246.2.2.2.2.2.2.2.2.2.2.2.2.2.2.2.2.2.2.2.2.2.2.2.2.2.2.2.2.2.1 _ t_246.2.2.2.2.2.2.2.2.2.2.2.2.2.2.2.2.2.2.2.2.2.2.2.2.2.2.2.2.2.2.1 _ t_246.2.2.2.2.2.2.2.2.2.2.2.2.2.2.2.2.2.2.2.2.2.2.2.2.2.2.2.2.2.2.2 (⟨2, x_200, 0, 8, 0, 0, false, 0, 0, 0, 0, ([] : List UInt8), 0, 0, ([] : List Int), ([] : List Int), 0, (⟨0, 0, (⟨0, 0, ([] : List UInt8), ([] : List UInt8), ([] : List UInt8)⟩ : api_Cmd)⟩ : api_Entry)⟩ : api_Msg) _ _ _ _ _ _ t_267 w0 _ _ N_249 (hS.new_zed [0, 1]) (hS.enter [0, 1] (by decide)) ((hr_251.mono (Mem.un_le le_249 ln_249)).mono (Mem.le.refl _)) (hr_255.mono (Mem.un_le le_249 ln_249)) (hr_257.mono (Mem.un_le le_249 ln_249)) (hr_259.mono (Mem.un_le le_249 ln_249)) (hr_261.mono (Mem.un_le le_249 ln_249)) (hr_263.mono (Mem.un_le le_249 ln_249)) (hr_265.mono (Mem.un_le le_249 ln_249)) (Rd.nil _ _) (Rd.nil _ _) (Rd.nil _ _) (Rd.nil _ _) (Rd.nil _ _) (Rd.nil _ _) et_267) ?_
      rintro _ w_268 ⟨v_271, v_275, v_277, v_279, v_281, v_283, v_285, N_269, M_273, rfl, hS', hr_272, hr_276, hr_278, hr_280, hr_282, hr_284, hr_286⟩
      clear hm a; intro a hm
      obtain ⟨N_270, hS'', le_270, ln_270⟩ := hS.call [0, 1] (by decide) rfl (l' := [Mem.one g_5 (.cells ([.int .i64 t_267.2.1, .int .i64 t_267.2.2.1, .int .i64 t_267.2.2.2.1, v_271, .int .i64 t_267.2.2.2.2.2.1, .int .i64 t_267.2.2.2.2.2.2.1, .int .i64 t_267.2.2.2.2.2.2.2.1, .int .i64 t_267.2.2.2.2.2.2.2.2.1, .int .i64 t_267.2.2.2.2.2.2.2.2.2.1, .int .i64 t_267.2.2.2.2.2.2.2.2.2.2.1, .int .i64 t_267.2.2.2.2.2.2.2.2.2.2.2.1, .int .i64 t_267.2.2.2.2.2.2.2.2.2.2.2.2.1, .bool t_267.2.2.2.2.2.2.2.2.2.2.2.2.2.1, .int .i64 t_267.2.2.2.2.2.2.2.2.2.2.2.2.2.2.1, .int .i64 t_267.2.2.2.2.2.2.2.2.2.2.2.2.2.2.2.1, .int .i64 t_267.2.2.2.2.2.2.2.2.2.2.2.2.2.2.2.2.1, .int .i64 t_267.2.2.2.2.2.2.2.2.2.2.2.2.2.2.2.2.2.1, v_275, .int .i64 t_267.2.2.2.2.2.2.2.2.2.2.2.2.2.2.2.2.2.2.2.1, .int .i64 t_267.2.2.2.2.2.2.2.2.2.2.2.2.2.2.2.2.2.2.2.2.1, v_277, v_279, .int .i64 t_267.2.2.2.2.2.2.2.2.2.2.2.2.2.2.2.2.2.2.2.2.2.2.2.1, .int .i64 t_267.2.2.2.2.2.2.2.2.2.2.2.2.2.2.2.2.2.2.2.2.2.2.2.2.1, .int .i64 t_267.2.2.2.2.2.2.2.2.2.2.2.2.2.2.2.2.2.2.2.2.2.2.2.2.2.1, .int .i64 t_267.2.2.2.2.2.2.2.2.2.2.2.2.2.2.2.2.2.2.2.2.2.2.2.2.2.2.1, .int .i64 t_267.2.2.2.2.2.2.2.2.2.2.2.2.2.2.2.2.2.2.2.2.2.2.2.2.2.2.2.1, v_281, v_283, v_285, .bool t_267.2.2.2.2.2.2.2.2.2.2.2.2.2.2.2.2.2.2.2.2.2.2.2.2.2.2.2.2.2.2.2] : List Value).toArray 80 (0, 0)), M_273]) (ow := []) rfl hS'
      replace hS : Sep w0 w_268 [N_270, Mem.one g_5 (.cells ([.int .i64 t_267.2.1, .int .i64 t_267.2.2.1, .int .i64 t_267.2.2.2.1, v_271, .int .i64 t_267.2.2.2.2.2.1, .int .i64 t_267.2.2.2.2.2.2.1, .int .i64 t_267.2.2.2.2.2.2.2.1, .int .i64 t_267.2.2.2.2.2.2.2.2.1, .int .i64 t_267.2.2.2.2.2.2.2.2.2.1, .int .i64 t_267.2.2.2.2.2.2.2.2.2.2.1, .int .i64 t_267.2.2.2.2.2.2.2.2.2.2.2.1, .int .i64 t_267.2.2.2.2.2.2.2.2.2.2.2.2.1, .bool t_267.2.2.2.2.2.2.2.2.2.2.2.2.2.1, .int .i64 t_267.2.2.2.2.2.2.2.2.2.2.2.2.2.2.1, .int .i64 t_267.2.2.2.2.2.2.2.2.2.2.2.2.2.2.2.1, .int .i64 t_267.2.2.2.2.2.2.2.2.2.2.2.2.2.2.2.2.1, .int .i64 t_267.2.2.2.2.2.2.2.2.2.2.2.2.2.2.2.2.2.1, v_275, .int .i64 t_267.2.2.2.2.2.2.2.2.2.2.2.2.2.2.2.2.2.2.2.1, .int .i64 t_267.2.2.2.2.2.2.2.2.2.2.2.2.2.2.2.2.2.2.2.2.1, v_277, v_279, .int .i64 t_267.2.2.2.2.2.2.2.2.2.2.2.2.2.2.2.2.2.2.2.2.2.2.2.1, .int .i64 t_267.2.2.2.2.2.2.2.2.2.2.2.2.2.2.2.2.2.2.2.2.2.2.2.2.1, .int .i64 t_267.2.2.2.2.2.2.2.2.2.2.2.2.2.2.2.2.2.2.2.2.2.2.2.2.2.1, .int .i64 t_267.2.2.2.2.2.2.2.2.2.2.2.2.2.2.2.2.2.2.2.2.2.2.2.2.2.2.1, .int .i64 t_267.2.2.2.2.2.2.2.2.2.2.2.2.2.2.2.2.2.2.2.2.2.2.2.2.2.2.2.1, v_281, v_283, v_285, .bool t_267.2.2.2.2.2.2.2.2.2.2.2.2.2.2.2.2.2.2.2.2.2.2.2.2.2.2.2.2.2.2.2] : List Value).toArray 80 (0, 0)), M_273] Z := hS''
      clear hS' hS''
      refine s_on hm rfl rfl (Bool.eq_false_iff.2 hc_266) ?_
      refine s_not hm rfl rfl ?_
      clear hm a; intro a hm
      refine s_pick_f hm rfl rfl (Bool.eq_false_iff.2 hc_266) rfl ?_
      clear hm a; intro a hm
      refine wpList_nil ?_
      replace hm : Fr 120 a [(0, .int .i64 (w64 ((Int.tmod (band .i64 x0 255) 7) + 1))), (1, p1_0), (4, .bool false), (5, .pointer (some ⟨g_5, 0, none⟩)), (6, .int .i64 x_200), (36, .bool (!t_267.1))] := hm.keep [0, 1, 4, 5, 6, 36]
      replace hS : Sep w0 w_268 [N_270, Mem.one g_5 (.cells ([.int .i64 t_267.2.1, .int .i64 t_267.2.2.1, .int .i64 t_267.2.2.2.1, v_271, .int .i64 t_267.2.2.2.2.2.1, .int .i64 t_267.2.2.2.2.2.2.1, .int .i64 t_267.2.2.2.2.2.2.2.1, .int .i64 t_267.2.2.2.2.2.2.2.2.1, .int .i64 t_267.2.2.2.2.2.2.2.2.2.1, .int .i64 t_267.2.2.2.2.2.2.2.2.2.2.1, .int .i64 t_267.2.2.2.2.2.2.2.2.2.2.2.1, .int .i64 t_267.2.2.2.2.2.2.2.2.2.2.2.2.1, .bool t_267.2.2.2.2.2.2.2.2.2.2.2.2.2.1, .int .i64 t_267.2.2.2.2.2.2.2.2.2.2.2.2.2.2.1, .int .i64 t_267.2.2.2.2.2.2.2.2.2.2.2.2.2.2.2.1, .int .i64 t_267.2.2.2.2.2.2.2.2.2.2.2.2.2.2.2.2.1, .int .i64 t_267.2.2.2.2.2.2.2.2.2.2.2.2.2.2.2.2.2.1, v_275, .int .i64 t_267.2.2.2.2.2.2.2.2.2.2.2.2.2.2.2.2.2.2.2.1, .int .i64 t_267.2.2.2.2.2.2.2.2.2.2.2.2.2.2.2.2.2.2.2.2.1, v_277, v_279, .int .i64 t_267.2.2.2.2.2.2.2.2.2.2.2.2.2.2.2.2.2.2.2.2.2.2.2.1, .int .i64 t_267.2.2.2.2.2.2.2.2.2.2.2.2.2.2.2.2.2.2.2.2.2.2.2.2.1, .int .i64 t_267.2.2.2.2.2.2.2.2.2.2.2.2.2.2.2.2.2.2.2.2.2.2.2.2.2.1, .int .i64 t_267.2.2.2.2.2.2.2.2.2.2.2.2.2.2.2.2.2.2.2.2.2.2.2.2.2.2.1, .int .i64 t_267.2.2.2.2.2.2.2.2.2.2.2.2.2.2.2.2.2.2.2.2.2.2.2.2.2.2.2.1, v_281, v_283, v_285, .bool t_267.2.2.2.2.2.2.2.2.2.2.2.2.2.2.2.2.2.2.2.2.2.2.2.2.2.2.2.2.2.2.2] : List Value).toArray 80 (0, 0)), M_273] Z := hS
      replace hm : Fr 120 a [(0, .int .i64 (w64 ((Int.tmod (band .i64 x0 255) 7) + 1))), (1, p1_0), (4, .bool false), (5, .pointer (some ⟨g_5, 0, none⟩)), (6, .int .i64 x_200), (36, .bool (!t_267.1))] := hm.keep [0, 1, 4, 5, 6, 36]
      exact x_then_n (hJ_j_244 (!t_267.1) (⟨t_267.2.1, t_267.2.2.1, t_267.2.2.2.1, t_267.2.2.2.2.1, t_267.2.2.2.2.2.1, t_267.2.2.2.2.2.2.1, (⟨t_267.2.2.2.2.2.2.2.1, t_267.2.2.2.2.2.2.2.2.1, t_267.2.2.2.2.2.2.2.2.2.1, t_267.2.2.2.2.2.2.2.2.2.2.1, t_267.2.2.2.2.2.2.2.2.2.2.2.1, t_267.2.2.2.2.2.2.2.2.2.2.2.2.1, t_267.2.2.2.2.2.2.2.2.2.2.2.2.2.1, t_267.2.2.2.2.2.2.2.2.2.2.2.2.2.2.1, t_267.2.2.2.2.2.2.2.2.2.2.2.2.2.2.2.1, t_267.2.2.2.2.2.2.2.2.2.2.2.2.2.2.2.2.1, t_267.2.2.2.2.2.2.2.2.2.2.2.2.2.2.2.2.2.1, t_267.2.2.2.2.2.2.2.2.2.2.2.2.2.2.2.2.2.2.1, t_267.2.2.2.2.2.2.2.2.2.2.2.2.2.2.2.2.2.2.2.1, t_267.2.2.2.2.2.2.2.2.2.2.2.2.2.2.2.2.2.2.2.2.1, t_267.2.2.2.2.2.2.2.2.2.2.2.2.2.2.2.2.2.2.2.2.2.1, t_267.2.2.2.2.2.2.2.2.2.2.2.2.2.2.2.2.2.2.2.2.2.2.1, t_267.2.2.2.2.2.2.2.2.2.2.2.2.2.2.2.2.2.2.2.2.2.2.2.1, (⟨t_267.2.2.2.2.2.2.2.2.2.2.2.2.2.2.2.2.2.2.2.2.2.2.2.2.1, t_267.2.2.2.2.2.2.2.2.2.2.2.2.2.2.2.2.2.2.2.2.2.2.2.2.2.1, (⟨t_267.2.2.2.2.2.2.2.2.2.2.2.2.2.2.2.2.2.2.2.2.2.2.2.2.2.2.1, t_267.2.2.2.2.2.2.2.2.2.2.2.2.2.2.2.2.2.2.2.2.2.2.2.2.2.2.2.1, t_267.2.2.2.2.2.2.2.2.2.2.2.2.2.2.2.2.2.2.2.2.2.2.2.2.2.2.2.2.1, t_267.2.2.2.2.2.2.2.2.2.2.2.2.2.2.2.2.2.2.2.2.2.2.2.2.2.2.2.2.2.1, t_267.2.2.2.2.2.2.2.2.2.2.2.2.2.2.2.2.2.2.2.2.2.2.2.2.2.2.2.2.2.2.1⟩ : api_Cmd)⟩ : api_Entry)⟩ : api_Msg), t_267.2.2.2.2.2.2.2.2.2.2.2.2.2.2.2.2.2.2.2.2.2.2.2.2.2.2.2.2.2.2.2⟩ : gath_Gather) H _ _ ⟨v_271, v_275, v_277, v_279, v_281, v_283, v_285, N_270, M_273, hm, (Sep.sel hS [0, 1, 2] (by decide)), (le_249.trans le_270), ((hr_272.mono (Mem.un_le le_270 ln_270)).mono (Mem.le.refl _)), (hr_276.mono (Mem.un_le le_270 ln_270)), (hr_278.mono (Mem.un_le le_270 ln_270)), (hr_280.mono (Mem.un_le le_270 ln_270)), (hr_282.mono (Mem.un_le le_270 ln_270)), (hr_284.mono (Mem.un_le le_270 ln_270)), (hr_286.mono (Mem.un_le le_270 ln_270))⟩)
  · rw [if_neg hc_221] at H
    refine c_cond_f hm rfl (decide_eq_false hc_221) ?_
    refine wp_exit (x_then_x (x_then_x (x_block_t ?_)))
    replace hS : Sep w0 w_218 [N_199, Mem.one g_5 (.cells ([.int .i64 x_201.n, .int .i64 x_201.id, .int .i64 x_201.v, v_204, .int .i64 x_201.come, .int .i64 x_201.ready, .int .i64 x_201.commit.Kind, .int .i64 x_201.commit.From, .int .i64 x_201.commit.To, .int .i64 x_201.commit.View, .int .i64 x_201.commit.Inst, .int .i64 x_201.commit.Len, .bool x_201.commit.Has, .int .i64 x_201.commit.Members, .int .i64 x_201.commit.Source, .int .i64 x_201.commit.At, .int .i64 x_201.commit.Total, v_206, .int .i64 x_201.commit.Hop, .int .i64 x_201.commit.Seq, v_208, v_210, .int .i64 x_201.commit.Index, .int .i64 x_201.commit.Entry.Sess, .int .i64 x_201.commit.Entry.Seq, .int .i64 x_201.commit.Entry.Cmd.Kind, .int .i64 x_201.commit.Entry.Cmd.Who, v_212, v_214, v_216, .bool x_201.is] : List Value).toArray 80 (0, 0)), M_202] Z := hS
    replace hm : Fr 120 a [(0, .int .i64 (w64 ((Int.tmod (band .i64 x0 255) 7) + 1))), (1, p1_0), (4, .bool false), (5, .pointer (some ⟨g_5, 0, none⟩))] := hm.keep [0, 1, 4, 5]
    exact x_then_n (hJ_j_43 x_201 H _ _ ⟨v_204, v_206, v_208, v_210, v_212, v_214, v_216, N_199, M_202, hm, (Sep.sel hS [0, 1, 2] (by decide)), le_199, (ho_205.mono (Mem.le.refl _)), hr_207, hr_209, hr_211, hr_213, hr_215, hr_217⟩)


end Go.Proofs
