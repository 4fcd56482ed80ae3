/- What the calls do: each function once. -/
import Derived.Test.YtabedbggldnkhaaToknRisesc1
namespace Go.Proofs
open Go.Gp
set_option linter.unusedVariables false
set_option maxHeartbeats 4000000 in
set_option maxRecDepth 20000 in
theorem hocketlaw17_ToknRises.calls (K : Nat) (x0 : Int) (x1 : List Int) (p1_0 : Value) (x2 : Int) (r : Unit) (w0 w : World) (Z A : Mem) (hA : A.le Z) (hS : Sep w0 w [] Z) (hp1_0 : Rd (Kd.int .i64) A p1_0 x1)
    (H : hocketlaw17_ToknRises.f K x0 x1 x2 = some r) :
    Calls Try.prog 9 [.int .i64 x0, p1_0, .int .i64 x2].toArray w (Ret fun v w' => ∃ (N : Mem), v = .bool true ∧ Sep w0 w' [N] Z) := by
  unfold hocketlaw17_ToknRises.f at H
  refine f_enter _ Try.func9 rfl Try.ntmps9 rfl fun a hm => ?_
  replace hm : Fr 215 a [(0, .int .i64 x0), (1, p1_0), (2, .int .i64 x2)] := hm
  replace hS := hS.start
  replace hS : Sep w0 w [Mem.no] Z := hS
  refine wp_seq ?_
  refine wp_region_lit ?_
  refine s_assign hm rfl rfl ?_
  clear hm a; intro a hm
  refine wpList_nil ?_
  replace hm : Fr 215 a [(0, .int .i64 x0), (1, p1_0), (2, .int .i64 x2), (6, .bool false)] := hm.keep [0, 1, 2, 6]
  refine x_then_n ?_
  refine wp_seq ?_
  refine wp_region_lit ?_
  refine s_move hm rfl rfl ?_
  clear hm a; intro a hm
  refine s_bits (i := x0) (j := 255) (r := band .i64 x0 255) hm rfl rfl rfl (.inl ⟨rfl, rfl⟩) ?_
  clear hm a; intro a hm
  refine s_div (r := Int.tmod (band .i64 x0 255) 7) hm rfl rfl rfl (by decide) (.inr ⟨rfl, rfl⟩) ?_
  clear hm a; intro a hm
  refine s_arith (r := w64 ((Int.tmod (band .i64 x0 255) 7) + 1)) hm rfl rfl rfl (.inl ⟨rfl, rfl⟩) ?_
  clear hm a; intro a hm
  refine s_move hm rfl rfl ?_
  clear hm a; intro a hm
  refine s_bits (i := x2) (j := 255) (r := band .i64 x2 255) hm rfl rfl rfl (.inl ⟨rfl, rfl⟩) ?_
  clear hm a; intro a hm
  refine s_assign hm rfl rfl ?_
  clear hm a; intro a hm
  refine s_assign hm rfl rfl ?_
  clear hm a; intro a hm
  refine wpList_nil ?_
  replace hm : Fr 215 a [(0, .int .i64 (w64 ((Int.tmod (band .i64 x0 255) 7) + 1))), (1, p1_0), (2, .int .i64 (band .i64 x2 255)), (6, .bool false)] := hm.keep [0, 1, 2, 6]
  refine x_then_n ?_
  refine wp_seq ?_
  refine wp_region_lit ?_
  refine s_move hm rfl rfl ?_
  clear hm a; intro a hm
  refine s_move hm rfl rfl ?_
  clear hm a; intro a hm
  obtain ⟨t_1, et_1, H⟩ := Option.bind_eq_some_iff.1 H
  refine s_call hm rfl Try.call40 rfl (tokn_First.calls K 8 (w64 ((Int.tmod (band .i64 x0 255) 7) + 1)) (band .i64 x2 255) t_1 w0 _ _ _ (Mem.le.refl _) (hS.enter [] (by decide))  et_1) ?_
  rintro _ w_2 ⟨v_5, v_9, v_13, v_17, v_21, v_25, N_3, M_7, M_11, M_15, M_19, M_23, M_27, rfl, hS', hr_6, hr_10, hr_14, hr_18, hr_22, hr_26⟩
  clear hm a; intro a hm
  obtain ⟨N_4, hS'', le_4, ln_4⟩ := hS.call [] (by decide) rfl (l' := []) (ow := [M_7, M_11, M_15, M_19, M_23, M_27]) rfl hS'
  replace hS : Sep w0 w_2 [N_4, M_7, M_11, M_15, M_19, M_23, M_27] Z := hS''
  clear hS' hS''
  refine v_alloc hm rfl ti29 hS ?_
  intro w_29 g_30 hS'
  clear hm a; intro a hm
  replace hS : Sep w0 w_29 [N_4, M_7, M_11, M_15, M_19, M_23, M_27, Mem.one g_30 (.cells ([.int .i64 0, .int .i64 0, .int .i64 0, .int .i64 0, .int .i64 0, .int .i64 0, .bool false, .int .i64 0, .int .i64 0, .int .i64 0, .int .i64 0, .slice none 0 0, .int .i64 0, .int .i64 0, .slice none 0 0, .slice none 0 0, .int .i64 0, .int .i64 0, .int .i64 0, .int .i64 0, .int .i64 0, .slice none 0 0, .slice none 0 0, .slice none 0 0] : List Value).toArray 29 (0, 0))] Z := hS'
  clear hS'
  obtain ⟨w_31, hs', hS'⟩ := hS.store (P := Try.prog) (p := 7) (o := 0) (t := 29) (v := .agg ([.int .i64 t_1.Kind, .int .i64 t_1.From, .int .i64 t_1.To, .int .i64 t_1.View, .int .i64 t_1.Inst, .int .i64 t_1.Len, .bool t_1.Has, .int .i64 t_1.Members, .int .i64 t_1.Source, .int .i64 t_1.At, .int .i64 t_1.Total, v_5, .int .i64 t_1.Hop, .int .i64 t_1.Seq, v_9, v_13, .int .i64 t_1.Index, .int .i64 t_1.Entry.Sess, .int .i64 t_1.Entry.Seq, .int .i64 t_1.Entry.Cmd.Kind, .int .i64 t_1.Entry.Cmd.Who, v_17, v_21, v_25] : List Value).toArray) (vs := [.int .i64 t_1.Kind, .int .i64 t_1.From, .int .i64 t_1.To, .int .i64 t_1.View, .int .i64 t_1.Inst, .int .i64 t_1.Len, .bool t_1.Has, .int .i64 t_1.Members, .int .i64 t_1.Source, .int .i64 t_1.At, .int .i64 t_1.Total, v_5, .int .i64 t_1.Hop, .int .i64 t_1.Seq, v_9, v_13, .int .i64 t_1.Index, .int .i64 t_1.Entry.Sess, .int .i64 t_1.Entry.Seq, .int .i64 t_1.Entry.Cmd.Kind, .int .i64 t_1.Entry.Cmd.Who, v_17, v_21, v_25]) rfl ti29 rfl rfl rfl (by intro u hu; simp only [List.mem_cons, List.not_mem_nil, or_false] at hu; rcases hu with rfl | rfl | rfl | rfl | rfl | rfl | rfl | rfl | rfl | rfl | rfl | rfl | rfl | rfl | rfl | rfl | rfl | rfl | rfl | rfl | rfl | rfl | rfl | rfl <;> first | rfl | exact hr_6.one | exact hr_10.one | exact hr_14.one | exact hr_18.one | exact hr_22.one | exact hr_26.one)
  refine s_store hm rfl rfl hs' ?_
  replace hS : Sep w0 w_31 [N_4, M_7, M_11, M_15, M_19, M_23, M_27, Mem.one g_30 (.cells ([.int .i64 t_1.Kind, .int .i64 t_1.From, .int .i64 t_1.To, .int .i64 t_1.View, .int .i64 t_1.Inst, .int .i64 t_1.Len, .bool t_1.Has, .int .i64 t_1.Members, .int .i64 t_1.Source, .int .i64 t_1.At, .int .i64 t_1.Total, v_5, .int .i64 t_1.Hop, .int .i64 t_1.Seq, v_9, v_13, .int .i64 t_1.Index, .int .i64 t_1.Entry.Sess, .int .i64 t_1.Entry.Seq, .int .i64 t_1.Entry.Cmd.Kind, .int .i64 t_1.Entry.Cmd.Who, v_17, v_21, v_25] : List Value).toArray 29 (0, 0))] Z := hS'
  clear hs' hS'
  refine wpList_nil ?_
  replace hm : Fr 215 a [(0, .int .i64 (w64 ((Int.tmod (band .i64 x0 255) 7) + 1))), (1, p1_0), (2, .int .i64 (band .i64 x2 255)), (6, .bool false), (7, .pointer (some ⟨g_30, 0, none⟩))] := hm.keep [0, 1, 2, 6, 7]
  refine x_then_n ?_
  refine wp_seq ?_
  refine wp_region_lit ?_
  refine s_move hm rfl rfl ?_
  clear hm a; intro a hm
  obtain ⟨t_32, et_32, H⟩ := Option.bind_eq_some_iff.1 H
  refine s_make (kd := (Kd.int .i64)) (I := Mem.no) 17592186044416 hm rfl rfl Try.underlying23 ti3 rfl rfl rfl rfl hS (show (Kd.int .i64).K _ _ [.int .i64 0] from rfl) et_32 ?_
  intro w_33 v_34 M_35 hS' ho_36
  clear hm a; intro a hm
  replace hS : Sep w0 w_33 [N_4, M_7, M_11, M_15, M_19, M_23, M_27, Mem.one g_30 (.cells ([.int .i64 t_1.Kind, .int .i64 t_1.From, .int .i64 t_1.To, .int .i64 t_1.View, .int .i64 t_1.Inst, .int .i64 t_1.Len, .bool t_1.Has, .int .i64 t_1.Members, .int .i64 t_1.Source, .int .i64 t_1.At, .int .i64 t_1.Total, v_5, .int .i64 t_1.Hop, .int .i64 t_1.Seq, v_9, v_13, .int .i64 t_1.Index, .int .i64 t_1.Entry.Sess, .int .i64 t_1.Entry.Seq, .int .i64 t_1.Entry.Cmd.Kind, .int .i64 t_1.Entry.Cmd.Who, v_17, v_21, v_25] : List Value).toArray 29 (0, 0)), M_35] Z := hS'
  clear hS'
  refine s_assign hm rfl rfl ?_
  clear hm a; intro a hm
  refine wpList_nil ?_
  replace hm : Fr 215 a [(0, .int .i64 (w64 ((Int.tmod (band .i64 x0 255) 7) + 1))), (1, p1_0), (2, .int .i64 (band .i64 x2 255)), (6, .bool false), (7, .pointer (some ⟨g_30, 0, none⟩)), (8, v_34)] := hm.keep [0, 1, 2, 6, 7, 8]
  refine x_then_n ?_
  refine c_seq fun KJ_38 hKJ_38 => ?_
  refine wp_seq ?_
  refine wp_region_lit ?_
  refine s_move hm rfl rfl ?_
  clear hm a; intro a hm
  refine s_lenO hm rfl Try.underlying23 rfl ho_36 ?_
  clear hm a; intro a hm
  refine s_move hm rfl rfl ?_
  clear hm a; intro a hm
  refine wpList_nil ?_
  replace hm : Fr 215 a [(0, .int .i64 (w64 ((Int.tmod (band .i64 x0 255) 7) + 1))), (1, p1_0), (2, .int .i64 (band .i64 x2 255)), (6, .bool false), (7, .pointer (some ⟨g_30, 0, none⟩)), (8, v_34), (35, .int .i64 (t_32.length : Int)), (36, .int .i64 0)] := hm.keep [0, 1, 2, 6, 7, 8, 35, 36]
  refine x_then_n ?_
  have hJ_j_46 : ∀ (x_40 : List Int), hocketlaw17_ToknRises.J1 K x1 x0 x2 t_1 x_40 = some r → ∀ (a : Act) (w_45 : World), (∃ (v_43 : Value) (N_39 : Mem) (M_41 : Mem), Fr 215 a [(0, .int .i64 (w64 ((Int.tmod (band .i64 x0 255) 7) + 1))), (1, p1_0), (2, .int .i64 (band .i64 x2 255)), (6, .bool false), (7, .pointer (some ⟨g_30, 0, none⟩)), (8, v_43)] ∧ Sep w0 w_45 [N_39, M_7, M_11, M_15, M_19, M_23, M_27, Mem.one g_30 (.cells ([.int .i64 t_1.Kind, .int .i64 t_1.From, .int .i64 t_1.To, .int .i64 t_1.View, .int .i64 t_1.Inst, .int .i64 t_1.Len, .bool t_1.Has, .int .i64 t_1.Members, .int .i64 t_1.Source, .int .i64 t_1.At, .int .i64 t_1.Total, v_5, .int .i64 t_1.Hop, .int .i64 t_1.Seq, v_9, v_13, .int .i64 t_1.Index, .int .i64 t_1.Entry.Sess, .int .i64 t_1.Entry.Seq, .int .i64 t_1.Entry.Cmd.Kind, .int .i64 t_1.Entry.Cmd.Who, v_17, v_21, v_25] : List Value).toArray 29 (0, 0)), M_41] Z ∧ N_4.le N_39 ∧ Own (Kd.int .i64) 3 M_41 Mem.no v_43 x_40) → KJ_38 a w_45 := by
    clear H hm hS a
    rintro x_40 H a w_45 ⟨v_43, N_39, M_41, hm, hS, le_39, ho_44⟩
    unfold hocketlaw17_ToknRises.J1 at H
    refine hKJ_38 _ _ ?_
    refine wp_seq ?_
    refine wp_region_lit ?_
    refine s_move hm rfl rfl ?_
    clear hm a; intro a hm
    refine s_assign hm rfl rfl ?_
    clear hm a; intro a hm
    refine wpList_nil ?_
    replace hm : Fr 215 a [(0, .int .i64 (w64 ((Int.tmod (band .i64 x0 255) 7) + 1))), (1, p1_0), (6, .bool false), (7, .pointer (some ⟨g_30, 0, none⟩)), (8, v_43), (10, .int .i64 (band .i64 x2 255))] := hm.keep [0, 1, 6, 7, 8, 10]
    refine x_then_n ?_
    refine c_seq fun KJ_47 hKJ_47 => ?_
    refine wp_seq ?_
    refine wp_region_lit ?_
    refine s_assign hm rfl rfl ?_
    clear hm a; intro a hm
    refine wpList_nil ?_
    replace hm : Fr 215 a [(0, .int .i64 (w64 ((Int.tmod (band .i64 x0 255) 7) + 1))), (1, p1_0), (6, .bool false), (7, .pointer (some ⟨g_30, 0, none⟩)), (8, v_43), (10, .int .i64 (band .i64 x2 255)), (11, .int .i64 0)] := hm.keep [0, 1, 6, 7, 8, 10, 11]
    refine x_then_n ?_
    have hJ_j_50 : hocketlaw17_ToknRises.J2 K = some r → ∀ (a : Act) (w_49 : World), (∃ (N_48 : Mem), Fr 215 a [(6, .bool false)] ∧ Sep w0 w_49 [N_48, Mem.no, Mem.no, Mem.no, Mem.no, Mem.no, Mem.no, Mem.no, Mem.no] Z ∧ N_39.le N_48) → KJ_47 a w_49 := by
      clear H hm hS a
      rintro H a w_49 ⟨N_48, hm, hS, le_48⟩
      unfold hocketlaw17_ToknRises.J2 at H
      refine hKJ_47 _ _ ?_
      refine wp_seq ?_
      replace hS : Sep w0 w_49 [N_48] Z := hS.sel [0] (by decide)
      refine wp_region_lit ?_
      obtain ⟨t_51, et_51, H⟩ := Option.bind_eq_some_iff.1 H
      refine s_call hm rfl Try.call37 rfl (hocketlaw17_awake.calls K  t_51 w0 _ _ _ (Mem.le.refl _) (hS.enter [] (by decide))  et_51) ?_
      rintro _ w_52 ⟨N_53, rfl, hS'⟩
      clear hm a; intro a hm
      obtain ⟨N_54, hS'', le_54, ln_54⟩ := hS.call [] (by decide) rfl (l' := []) (ow := []) rfl hS'
      replace hS : Sep w0 w_52 [N_54] Z := hS''
      clear hS' hS''
      refine s_assign hm rfl rfl ?_
      clear hm a; intro a hm
      refine wpList_nil ?_
      replace hm : Fr 215 a [(6, .bool true)] := hm.keep [6]
      refine x_then_n ?_
      refine wp_ret ?_
      exact f_ret hm (rs := [.tmp 6]) rfl (.tmp rfl .nil) ⟨_, rfl, N_54, rfl, (Sep.sel hS [0] (by decide))⟩
    clear hKJ_47
    obtain ⟨N_82, hS', le_82, lo_82⟩ := hS.freeze 0 rfl
    replace hS : Sep w0 w_45 [N_82, Mem.no, M_11, M_15, M_19, M_23, M_27, Mem.one g_30 (.cells ([.int .i64 t_1.Kind, .int .i64 t_1.From, .int .i64 t_1.To, .int .i64 t_1.View, .int .i64 t_1.Inst, .int .i64 t_1.Len, .bool t_1.Has, .int .i64 t_1.Members, .int .i64 t_1.Source, .int .i64 t_1.At, .int .i64 t_1.Total, v_5, .int .i64 t_1.Hop, .int .i64 t_1.Seq, v_9, v_13, .int .i64 t_1.Index, .int .i64 t_1.Entry.Sess, .int .i64 t_1.Entry.Seq, .int .i64 t_1.Entry.Cmd.Kind, .int .i64 t_1.Entry.Cmd.Who, v_17, v_21, v_25] : List Value).toArray 29 (0, 0)), M_41] Z := hS'
    clear hS'
    obtain ⟨N_83, hS', le_83, lo_83⟩ := hS.freeze 3 rfl
    replace hS : Sep w0 w_45 [N_83, Mem.no, M_11, M_15, Mem.no, M_23, M_27, Mem.one g_30 (.cells ([.int .i64 t_1.Kind, .int .i64 t_1.From, .int .i64 t_1.To, .int .i64 t_1.View, .int .i64 t_1.Inst, .int .i64 t_1.Len, .bool t_1.Has, .int .i64 t_1.Members, .int .i64 t_1.Source, .int .i64 t_1.At, .int .i64 t_1.Total, v_5, .int .i64 t_1.Hop, .int .i64 t_1.Seq, v_9, v_13, .int .i64 t_1.Index, .int .i64 t_1.Entry.Sess, .int .i64 t_1.Entry.Seq, .int .i64 t_1.Entry.Cmd.Kind, .int .i64 t_1.Entry.Cmd.Who, v_17, v_21, v_25] : List Value).toArray 29 (0, 0)), M_41] Z := hS'
    clear hS'
    obtain ⟨N_84, hS', le_84, lo_84⟩ := hS.freeze 4 rfl
    replace hS : Sep w0 w_45 [N_84, Mem.no, M_11, M_15, Mem.no, Mem.no, M_27, Mem.one g_30 (.cells ([.int .i64 t_1.Kind, .int .i64 t_1.From, .int .i64 t_1.To, .int .i64 t_1.View, .int .i64 t_1.Inst, .int .i64 t_1.Len, .bool t_1.Has, .int .i64 t_1.Members, .int .i64 t_1.Source, .int .i64 t_1.At, .int .i64 t_1.Total, v_5, .int .i64 t_1.Hop, .int .i64 t_1.Seq, v_9, v_13, .int .i64 t_1.Index, .int .i64 t_1.Entry.Sess, .int .i64 t_1.Entry.Seq, .int .i64 t_1.Entry.Cmd.Kind, .int .i64 t_1.Entry.Cmd.Who, v_17, v_21, v_25] : List Value).toArray 29 (0, 0)), M_41] Z := hS'
    clear hS'
    obtain ⟨N_85, hS', le_85, lo_85⟩ := hS.freeze 5 rfl
    replace hS : Sep w0 w_45 [N_85, Mem.no, M_11, M_15, Mem.no, Mem.no, Mem.no, Mem.one g_30 (.cells ([.int .i64 t_1.Kind, .int .i64 t_1.From, .int .i64 t_1.To, .int .i64 t_1.View, .int .i64 t_1.Inst, .int .i64 t_1.Len, .bool t_1.Has, .int .i64 t_1.Members, .int .i64 t_1.Source, .int .i64 t_1.At, .int .i64 t_1.Total, v_5, .int .i64 t_1.Hop, .int .i64 t_1.Seq, v_9, v_13, .int .i64 t_1.Index, .int .i64 t_1.Entry.Sess, .int .i64 t_1.Entry.Seq, .int .i64 t_1.Entry.Cmd.Kind, .int .i64 t_1.Entry.Cmd.Who, v_17, v_21, v_25] : List Value).toArray 29 (0, 0)), M_41] Z := hS'
    clear hS'
    replace hS : Sep w0 w_45 [N_85, Mem.no, M_11, M_15, Mem.no, Mem.no, Mem.no, Mem.one g_30 (.cells ([.int .i64 t_1.Kind, .int .i64 t_1.From, .int .i64 t_1.To, .int .i64 t_1.View, .int .i64 t_1.Inst, .int .i64 t_1.Len, .bool t_1.Has, .int .i64 t_1.Members, .int .i64 t_1.Source, .int .i64 t_1.At, .int .i64 t_1.Total, v_5, .int .i64 t_1.Hop, .int .i64 t_1.Seq, v_9, v_13, .int .i64 t_1.Index, .int .i64 t_1.Entry.Sess, .int .i64 t_1.Entry.Seq, .int .i64 t_1.Entry.Cmd.Kind, .int .i64 t_1.Entry.Cmd.Who, v_17, v_21, v_25] : List Value).toArray 29 (0, 0)), M_41] Z := hS
    replace hm : Fr 215 a [(0, .int .i64 (w64 ((Int.tmod (band .i64 x0 255) 7) + 1))), (1, p1_0), (6, .bool false), (7, .pointer (some ⟨g_30, 0, none⟩)), (8, v_43), (10, .int .i64 (band .i64 x2 255)), (11, .int .i64 0)] := hm.keep [0, 1, 6, 7, 8, 10, 11]
    refine c_block ?_
    refine c_loop (fun k_80 a w_80 => ∃ (x_56 : List Int) (x_61 : Int) (x_62 : Int) (x_63 : api_Msg) (v_59 : Value) (v_64 : Value) (v_68 : Value) (v_72 : Value) (v_74 : Value) (v_76 : Value) (v_78 : Value) (N_55 : Mem) (M_57 : Mem) (M_66 : Mem) (M_70 : Mem), hocketlaw17_ToknRises.L1 K x1 x0 (fun v => hocketlaw17_ToknRises.J2 K) k_80 (x_56, x_61, x_62, x_63) = some r ∧ Fr 215 a [(0, .int .i64 (w64 ((Int.tmod (band .i64 x0 255) 7) + 1))), (1, p1_0), (6, .bool false), (7, .pointer (some ⟨g_30, 0, none⟩)), (8, v_59), (10, .int .i64 x_61), (11, .int .i64 x_62)] ∧ Sep w0 w_80 [N_55, Mem.no, Mem.no, Mem.no, Mem.no, Mem.no, Mem.no, Mem.one g_30 (.cells ([.int .i64 x_63.Kind, .int .i64 x_63.From, .int .i64 x_63.To, .int .i64 x_63.View, .int .i64 x_63.Inst, .int .i64 x_63.Len, .bool x_63.Has, .int .i64 x_63.Members, .int .i64 x_63.Source, .int .i64 x_63.At, .int .i64 x_63.Total, v_64, .int .i64 x_63.Hop, .int .i64 x_63.Seq, v_68, v_72, .int .i64 x_63.Index, .int .i64 x_63.Entry.Sess, .int .i64 x_63.Entry.Seq, .int .i64 x_63.Entry.Cmd.Kind, .int .i64 x_63.Entry.Cmd.Who, v_74, v_76, v_78] : List Value).toArray 29 (0, 0)), M_57, M_66, M_70] Z ∧ N_39.le N_55 ∧ Own (Kd.int .i64) 3 M_57 Mem.no v_59 x_56 ∧ Rd Kd.u8 N_55 v_64 x_63.Data ∧ Own (Kd.int .i64) 3 M_66 Mem.no v_68 x_63.Have ∧ Own (Kd.int .i64) 3 M_70 Mem.no v_72 x_63.Need ∧ Rd Kd.u8 N_55 v_74 x_63.Entry.Cmd.Key ∧ Rd Kd.u8 N_55 v_76 x_63.Entry.Cmd.Val ∧ Rd Kd.u8 N_55 v_78 x_63.Entry.Cmd.Old) K ⟨x_40, band .i64 x2 255, 0, t_1, v_43, v_5, v_9, v_13, v_17, v_21, v_25, N_85, M_41, M_11, M_15, H, hm, (Sep.sel hS [0, 1000, 1001, 1002, 1003, 1004, 1005, 7, 8, 2, 3] (by decide)), (le_82.trans (le_83.trans (le_84.trans le_85))), ho_44, ((hr_6.rd lo_82 (Mem.no_le _)).mono (le_83.trans (le_84.trans le_85))), hr_10, hr_14, ((hr_18.rd lo_83 (Mem.no_le _)).mono (le_84.trans le_85)), ((hr_22.rd lo_84 (Mem.no_le _)).mono le_85), (hr_26.rd lo_85 (Mem.no_le _))⟩ (fun a w h => by obtain ⟨_, _, _, _, _, _, _, _, _, _, _, _, _, _, _, H, _⟩ := h; cases (show (none : Option (Unit)) = some r from H)) ?_
    clear hm hS a H
    rintro k_80 a w_80 KL_80 hKL_80 ⟨x_56, x_61, x_62, x_63, v_59, v_64, v_68, v_72, v_74, v_76, v_78, N_55, M_57, M_66, M_70, H, hm, hS, le_55, ho_60, hr_65, ho_69, ho_73, hr_75, hr_77, hr_79⟩
    replace H : hocketlaw17_ToknRises.B1 K x1 x0 (fun v => hocketlaw17_ToknRises.J2 K) (hocketlaw17_ToknRises.L1 K x1 x0 (fun v => hocketlaw17_ToknRises.J2 K) k_80) x_56 x_61 x_62 x_63 = some r := H
    unfold hocketlaw17_ToknRises.B1 at H
    refine c_seq fun KJ_86 hKJ_86 => ?_
    refine c_seq fun KJ_87 hKJ_87 => ?_
    have hJ_j_91 : ∀ (x_89 : Bool), hocketlaw17_ToknRises.J3 K x_62 x0 x_63 x1 x_56 x_61 (hocketlaw17_ToknRises.L1 K x1 x0 (fun v => hocketlaw17_ToknRises.J2 K) k_80) (fun v => hocketlaw17_ToknRises.J2 K) x_89 = some r → ∀ (a : Act) (w_90 : World), (∃ (N_88 : Mem), Fr 215 a [(0, .int .i64 (w64 ((Int.tmod (band .i64 x0 255) 7) + 1))), (1, p1_0), (6, .bool false), (7, .pointer (some ⟨g_30, 0, none⟩)), (8, v_59), (10, .int .i64 x_61), (11, .int .i64 x_62), (52, .bool x_89)] ∧ Sep w0 w_90 [N_88, Mem.no, Mem.no, Mem.no, Mem.no, Mem.no, Mem.no, Mem.one g_30 (.cells ([.int .i64 x_63.Kind, .int .i64 x_63.From, .int .i64 x_63.To, .int .i64 x_63.View, .int .i64 x_63.Inst, .int .i64 x_63.Len, .bool x_63.Has, .int .i64 x_63.Members, .int .i64 x_63.Source, .int .i64 x_63.At, .int .i64 x_63.Total, v_64, .int .i64 x_63.Hop, .int .i64 x_63.Seq, v_68, v_72, .int .i64 x_63.Index, .int .i64 x_63.Entry.Sess, .int .i64 x_63.Entry.Seq, .int .i64 x_63.Entry.Cmd.Kind, .int .i64 x_63.Entry.Cmd.Who, v_74, v_76, v_78] : List Value).toArray 29 (0, 0)), M_57, M_66, M_70] Z ∧ N_55.le N_88) → KJ_87 a w_90 := by
      clear H hm hS a
      rintro x_89 H a w_90 ⟨N_88, hm, hS, le_88⟩
      unfold hocketlaw17_ToknRises.J3 at H
      refine hKJ_87 _ _ ?_
      by_cases hc_92 : x_89 = true
      · rw [if_pos hc_92] at H
        refine c_cond_t hm rfl hc_92 ?_
        refine wp_skip ?_
        refine x_then_n (hKJ_86 _ _ ?_)
        refine wp_seq ?_
        refine c_block ?_
        refine wp_seq ?_
        refine wp_region_lit ?_
        refine s_move hm rfl rfl ?_
        clear hm a; intro a hm
        refine s_move hm rfl rfl ?_
        clear hm a; intro a hm
        obtain ⟨t_93, et_93, H⟩ := Option.bind_eq_some_iff.1 H
        refine s_div (r := t_93) hm rfl rfl rfl (rem_some et_93).1 (.inr ⟨rfl, (rem_some et_93).2⟩) ?_
        clear hm a; intro a hm
        refine s_assign hm rfl rfl ?_
        clear hm a; intro a hm
        refine wpList_nil ?_
        replace hm : Fr 215 a [(0, .int .i64 (w64 ((Int.tmod (band .i64 x0 255) 7) + 1))), (1, p1_0), (6, .bool false), (7, .pointer (some ⟨g_30, 0, none⟩)), (8, v_59), (10, .int .i64 x_61), (11, .int .i64 x_62), (12, .int .i64 t_93)] := hm.keep [0, 1, 6, 7, 8, 10, 11, 12]
        refine x_then_n ?_
        refine wp_seq ?_
        refine wp_region_lit ?_
        refine s_load hm rfl rfl (hS.load_agg (p := 7) (us := [.int .i64 x_63.Kind, .int .i64 x_63.From, .int .i64 x_63.To, .int .i64 x_63.View, .int .i64 x_63.Inst, .int .i64 x_63.Len, .bool x_63.Has, .int .i64 x_63.Members, .int .i64 x_63.Source, .int .i64 x_63.At, .int .i64 x_63.Total, v_64, .int .i64 x_63.Hop, .int .i64 x_63.Seq, v_68, v_72, .int .i64 x_63.Index, .int .i64 x_63.Entry.Sess, .int .i64 x_63.Entry.Seq, .int .i64 x_63.Entry.Cmd.Kind, .int .i64 x_63.Entry.Cmd.Who, v_74, v_76, v_78]) rfl Try.underlying29 rfl ti29 rfl rfl) ?_
        clear hm a; intro a hm
        obtain ⟨t_94, et_94, H⟩ := Option.bind_eq_some_iff.1 H
        refine s_call hm rfl Try.call36 rfl (tokn_Room.calls K x_63 _ _ _ _ _ _ t_94 w0 _ _ _ (Mem.le.refl _) (hS.enter [] (by decide)) (hr_65.mono (le_88.trans (hS.new_zed []))) (ho_69.rd (hS.own_zed [] 8 (by decide)) (Mem.no_le _)) (ho_73.rd (hS.own_zed [] 9 (by decide)) (Mem.no_le _)) (hr_75.mono (le_88.trans (hS.new_zed []))) (hr_77.mono (le_88.trans (hS.new_zed []))) (hr_79.mono (le_88.trans (hS.new_zed []))) et_94) ?_
        rintro _ w_95 ⟨N_96, rfl, hS'⟩
        clear hm a; intro a hm
        obtain ⟨N_97, hS'', le_97, ln_97⟩ := hS.call [] (by decide) rfl (l' := []) (ow := []) rfl hS'
        replace hS : Sep w0 w_95 [N_97, Mem.no, Mem.no, Mem.no, Mem.no, Mem.no, Mem.no, Mem.one g_30 (.cells ([.int .i64 x_63.Kind, .int .i64 x_63.From, .int .i64 x_63.To, .int .i64 x_63.View, .int .i64 x_63.Inst, .int .i64 x_63.Len, .bool x_63.Has, .int .i64 x_63.Members, .int .i64 x_63.Source, .int .i64 x_63.At, .int .i64 x_63.Total, v_64, .int .i64 x_63.Hop, .int .i64 x_63.Seq, v_68, v_72, .int .i64 x_63.Index, .int .i64 x_63.Entry.Sess, .int .i64 x_63.Entry.Seq, .int .i64 x_63.Entry.Cmd.Kind, .int .i64 x_63.Entry.Cmd.Who, v_74, v_76, v_78] : List Value).toArray 29 (0, 0)), M_57, M_66, M_70] Z := hS''
        clear hS' hS''
        refine s_assign hm rfl rfl ?_
        clear hm a; intro a hm
        refine wpList_nil ?_
        replace hm : Fr 215 a [(0, .int .i64 (w64 ((Int.tmod (band .i64 x0 255) 7) + 1))), (1, p1_0), (6, .bool false), (7, .pointer (some ⟨g_30, 0, none⟩)), (8, v_59), (10, .int .i64 x_61), (11, .int .i64 x_62), (12, .int .i64 t_93), (13, .int .i64 t_94)] := hm.keep [0, 1, 6, 7, 8, 10, 11, 12, 13]
        refine x_then_n ?_
        refine wp_seq ?_
        refine wp_region_lit ?_
        refine s_move hm rfl rfl ?_
        clear hm a; intro a hm
        refine s_move hm rfl rfl ?_
        clear hm a; intro a hm
        obtain ⟨t_98, et_98, H⟩ := Option.bind_eq_some_iff.1 H
        refine v_index hm rfl Try.underlying23 ti3 rfl rfl rfl hp1_0 (hA.trans hS.old) et_98 ?_
        intro ad_99 cs_100 hk_101 hc_102
        obtain rfl := (show cs_100 = [.int .i64 t_98] from hk_101)
        clear hm a; intro a hm
        refine s_load hm rfl rfl (el_one (o := 0) hc_102 Try.underlying3 rfl rfl) ?_
        clear hm a; intro a hm
        refine s_bits (i := t_98) (j := 7) (r := band .i64 t_98 7) hm rfl rfl rfl (.inl ⟨rfl, rfl⟩) ?_
        clear hm a; intro a hm
        refine s_assign hm rfl rfl ?_
        clear hm a; intro a hm
        refine wpList_nil ?_
        replace hm : Fr 215 a [(0, .int .i64 (w64 ((Int.tmod (band .i64 x0 255) 7) + 1))), (1, p1_0), (6, .bool false), (7, .pointer (some ⟨g_30, 0, none⟩)), (8, v_59), (10, .int .i64 x_61), (11, .int .i64 x_62), (12, .int .i64 t_93), (13, .int .i64 t_94), (14, .int .i64 (band .i64 t_98 7))] := hm.keep [0, 1, 6, 7, 8, 10, 11, 12, 13, 14]
        refine x_then_n ?_
        refine wp_seq ?_
        refine wp_region_lit ?_
        refine s_fieldAddr hm rfl Try.underlying29 rfl ti3 rfl rfl ?_
        clear hm a; intro a hm
        refine s_load hm rfl rfl (hS.load_one (p := 7) rfl Try.underlying3 rfl rfl) ?_
        clear hm a; intro a hm
        refine s_move hm rfl rfl ?_
        clear hm a; intro a hm
        refine s_move hm rfl rfl ?_
        clear hm a; intro a hm
        refine s_min hm rfl rfl rfl ?_
        clear hm a; intro a hm
        refine s_arith (r := w64 (x_63.Seq + (mn (band .i64 t_98 7) t_94))) hm rfl rfl rfl (.inl ⟨rfl, rfl⟩) ?_
        clear hm a; intro a hm
        refine s_assign hm rfl rfl ?_
        clear hm a; intro a hm
        refine wpList_nil ?_
        replace hm : Fr 215 a [(0, .int .i64 (w64 ((Int.tmod (band .i64 x0 255) 7) + 1))), (1, p1_0), (6, .bool false), (7, .pointer (some ⟨g_30, 0, none⟩)), (8, v_59), (10, .int .i64 x_61), (11, .int .i64 x_62), (12, .int .i64 t_93), (14, .int .i64 (band .i64 t_98 7)), (15, .int .i64 (w64 (x_63.Seq + (mn (band .i64 t_98 7) t_94))))] := hm.keep [0, 1, 6, 7, 8, 10, 11, 12, 14, 15]
        refine x_then_n ?_
        refine c_seq fun KJ_103 hKJ_103 => ?_
        refine h_begin (S := fun w => Sep w0 w [N_97, Mem.no, Mem.no, Mem.no, Mem.no, Mem.no, Mem.no, Mem.one g_30 (.cells ([.int .i64 x_63.Kind, .int .i64 x_63.From, .int .i64 x_63.To, .int .i64 x_63.View, .int .i64 x_63.Inst, .int .i64 x_63.Len, .bool x_63.Has, .int .i64 x_63.Members, .int .i64 x_63.Source, .int .i64 x_63.At, .int .i64 x_63.Total, v_64, .int .i64 x_63.Hop, .int .i64 x_63.Seq, v_68, v_72, .int .i64 x_63.Index, .int .i64 x_63.Entry.Sess, .int .i64 x_63.Entry.Seq, .int .i64 x_63.Entry.Cmd.Kind, .int .i64 x_63.Entry.Cmd.Who, v_74, v_76, v_78] : List Value).toArray 29 (0, 0)), Mem.no, M_66, M_70] Z) 17 (by kernel_rfl) rfl [false, false, false, false, false, false, false, false, false, false, false, false, false, false, false, false, false].toArray rfl hS fun w_104 hS => ?_
        replace hS : Sep w0 w_104 [N_97, Mem.no, Mem.no, Mem.no, Mem.no, Mem.no, Mem.no, Mem.one g_30 (.cells ([.int .i64 x_63.Kind, .int .i64 x_63.From, .int .i64 x_63.To, .int .i64 x_63.View, .int .i64 x_63.Inst, .int .i64 x_63.Len, .bool x_63.Has, .int .i64 x_63.Members, .int .i64 x_63.Source, .int .i64 x_63.At, .int .i64 x_63.Total, v_64, .int .i64 x_63.Hop, .int .i64 x_63.Seq, v_68, v_72, .int .i64 x_63.Index, .int .i64 x_63.Entry.Sess, .int .i64 x_63.Entry.Seq, .int .i64 x_63.Entry.Cmd.Kind, .int .i64 x_63.Entry.Cmd.Who, v_74, v_76, v_78] : List Value).toArray 29 (0, 0)), M_57, M_66, M_70] Z := hS
        refine h_take 0 [true, false, false, false, false, false, false, false, false, false, false, false, false, false, false, false, false].toArray rfl (by kernel_rfl) (by kernel_rfl) (by kernel_rfl) (fun _ _ _ _ h => h) rfl rfl rfl rfl hm (hS.sub (.cons (Mem.le.refl _) (.cons (Mem.no_le _) (.cons (Mem.no_le _) (.cons (Mem.no_le _) (.cons (Mem.no_le _) (.cons (Mem.no_le _) (.cons (Mem.no_le _) (.cons (Mem.le.refl _) (.cons (Mem.no_le _) (.cons (Mem.le.refl _) (.cons (Mem.le.refl _) (Sub.nil _))))))))))))) (v := v_59) (fun w hS => r_move hm rfl) ?_
        clear hm a; intro a hm
        refine h_take 1 [true, true, false, false, false, false, false, false, false, false, false, false, false, false, false, false, false].toArray rfl (by kernel_rfl) (by kernel_rfl) (by kernel_rfl) (fun _ _ _ _ h => h) rfl rfl rfl rfl hm (hS.sub (.cons (Mem.le.refl _) (.cons (Mem.no_le _) (.cons (Mem.no_le _) (.cons (Mem.no_le _) (.cons (Mem.no_le _) (.cons (Mem.no_le _) (.cons (Mem.no_le _) (.cons (Mem.le.refl _) (.cons (Mem.no_le _) (.cons (Mem.le.refl _) (.cons (Mem.le.refl _) (Sub.nil _))))))))))))) (v := .int .i64 t_93) (fun w hS => r_move hm rfl) ?_
        clear hm a; intro a hm
        refine h_take 2 [true, true, true, false, false, false, false, false, false, false, false, false, false, false, false, false, false].toArray rfl (by kernel_rfl) (by kernel_rfl) (by kernel_rfl) (fun _ _ _ _ h => h) rfl rfl rfl rfl hm (hS.sub (.cons (Mem.le.refl _) (.cons (Mem.no_le _) (.cons (Mem.no_le _) (.cons (Mem.no_le _) (.cons (Mem.no_le _) (.cons (Mem.no_le _) (.cons (Mem.no_le _) (.cons (Mem.le.refl _) (.cons (Mem.no_le _) (.cons (Mem.le.refl _) (.cons (Mem.le.refl _) (Sub.nil _))))))))))))) (v := v_59) (fun w hS => r_move hm rfl) ?_
        clear hm a; intro a hm
        refine h_take 3 [true, true, true, true, false, false, false, false, false, false, false, false, false, false, false, false, false].toArray rfl (by kernel_rfl) (by kernel_rfl) (by kernel_rfl) (fun _ _ _ _ h => h) rfl rfl rfl rfl hm (hS.sub (.cons (Mem.le.refl _) (.cons (Mem.no_le _) (.cons (Mem.no_le _) (.cons (Mem.no_le _) (.cons (Mem.no_le _) (.cons (Mem.no_le _) (.cons (Mem.no_le _) (.cons (Mem.le.refl _) (.cons (Mem.no_le _) (.cons (Mem.le.refl _) (.cons (Mem.le.refl _) (Sub.nil _))))))))))))) (v := .int .i64 t_93) (fun w hS => r_move hm rfl) ?_
        clear hm a; intro a hm
        obtain ⟨t_105, et_105, H⟩ := Option.bind_eq_some_iff.1 H
        refine h_takeE 4 [true, true, true, true, true, false, false, false, false, false, false, false, false, false, false, false, false].toArray rfl (by kernel_rfl) (by kernel_rfl) (by kernel_rfl) (fun _ _ _ _ h => h) rfl rfl rfl rfl hm (hS.sub (.cons (Mem.le.refl _) (.cons (Mem.no_le _) (.cons (Mem.no_le _) (.cons (Mem.no_le _) (.cons (Mem.no_le _) (.cons (Mem.no_le _) (.cons (Mem.no_le _) (.cons (Mem.le.refl _) (.cons (Mem.no_le _) (.cons (Mem.le.refl _) (.cons (Mem.le.refl _) (Sub.nil _))))))))))))) (f := fun ad => .pointer (some ad)) (r_indexO hm Try.underlying23 ti3 rfl rfl rfl ho_60 et_105) ?_
        rintro ad_106 ⟨cs_107, hk_108, hc_109⟩
        obtain rfl := (show cs_107 = [.int .i64 t_105] from hk_108)
        clear hm a; intro a hm
        refine h_take 6 [true, true, true, true, true, false, true, false, false, false, false, false, false, false, false, false, false].toArray rfl (by kernel_rfl) (by kernel_rfl) (by kernel_rfl) (fun _ _ _ _ h => h) rfl rfl rfl rfl hm (hS.sub (.cons (Mem.le.refl _) (.cons (Mem.no_le _) (.cons (Mem.no_le _) (.cons (Mem.no_le _) (.cons (Mem.no_le _) (.cons (Mem.no_le _) (.cons (Mem.no_le _) (.cons (Mem.le.refl _) (.cons (Mem.no_le _) (.cons (Mem.le.refl _) (.cons (Mem.le.refl _) (Sub.nil _))))))))))))) (v := p1_0) (fun w hS => r_move hm rfl) ?_
        clear hm a; intro a hm
        refine h_take 7 [true, true, true, true, true, false, true, true, false, false, false, false, false, false, false, false, false].toArray rfl (by kernel_rfl) (by kernel_rfl) (by kernel_rfl) (fun _ _ _ _ h => h) rfl rfl rfl rfl hm (hS.sub (.cons (Mem.le.refl _) (.cons (Mem.no_le _) (.cons (Mem.no_le _) (.cons (Mem.no_le _) (.cons (Mem.no_le _) (.cons (Mem.no_le _) (.cons (Mem.no_le _) (.cons (Mem.le.refl _) (.cons (Mem.no_le _) (.cons (Mem.le.refl _) (.cons (Mem.le.refl _) (Sub.nil _))))))))))))) (v := .int .i64 x_62) (fun w hS => r_move hm rfl) ?_
        clear hm a; intro a hm
        obtain ⟨t_110, et_110, H⟩ := Option.bind_eq_some_iff.1 H
        refine h_takeE 8 [true, true, true, true, true, false, true, true, true, false, false, false, false, false, false, false, false].toArray rfl (by kernel_rfl) (by kernel_rfl) (by kernel_rfl) (fun _ _ _ _ h => h) rfl rfl rfl rfl hm (hS.sub (.cons (Mem.le.refl _) (.cons (Mem.no_le _) (.cons (Mem.no_le _) (.cons (Mem.no_le _) (.cons (Mem.no_le _) (.cons (Mem.no_le _) (.cons (Mem.no_le _) (.cons (Mem.le.refl _) (.cons (Mem.no_le _) (.cons (Mem.le.refl _) (.cons (Mem.le.refl _) (Sub.nil _))))))))))))) (f := fun ad => .pointer (some ad)) (r_index hm Try.underlying23 ti3 rfl rfl rfl hp1_0 et_110) ?_
        rintro ad_111 ⟨cs_112, hk_113, hc_114⟩
        obtain rfl := (show cs_112 = [.int .i64 t_110] from hk_113)
        clear hm a; intro a hm
        refine h_take 9 [true, true, true, true, true, false, true, true, true, true, false, false, false, false, false, false, false].toArray rfl (by kernel_rfl) (by kernel_rfl) (by kernel_rfl) (fun _ _ _ _ h => h) rfl rfl rfl rfl hm (hS.sub (.cons (Mem.le.refl _) (.cons (Mem.no_le _) (.cons (Mem.no_le _) (.cons (Mem.no_le _) (.cons (Mem.no_le _) (.cons (Mem.no_le _) (.cons (Mem.no_le _) (.cons (Mem.le.refl _) (.cons (Mem.no_le _) (.cons (Mem.le.refl _) (.cons (Mem.le.refl _) (Sub.nil _))))))))))))) (v := .int .i64 t_110) (fun w hS => r_load hm rfl (el_one (o := 0) (fun j c h => Mem.cell_le (hA.trans hS.old) (hc_114 j c h)) Try.underlying3 rfl rfl)) ?_
        clear hm a; intro a hm
        refine h_take 10 [true, true, true, true, true, false, true, true, true, true, true, false, false, false, false, false, false].toArray rfl (by kernel_rfl) (by kernel_rfl) (by kernel_rfl) (fun _ _ _ _ h => h) rfl rfl rfl rfl hm (hS.sub (.cons (Mem.le.refl _) (.cons (Mem.no_le _) (.cons (Mem.no_le _) (.cons (Mem.no_le _) (.cons (Mem.no_le _) (.cons (Mem.no_le _) (.cons (Mem.no_le _) (.cons (Mem.le.refl _) (.cons (Mem.no_le _) (.cons (Mem.le.refl _) (.cons (Mem.le.refl _) (Sub.nil _))))))))))))) (v := .int .i64 (shr .i64 t_110 3)) (fun w hS => r_shift (r := shr .i64 t_110 3) hm rfl rfl (by decide) (.inr ⟨rfl, rfl⟩)) ?_
        clear hm a; intro a hm
        refine h_take 11 [true, true, true, true, true, false, true, true, true, true, true, true, false, false, false, false, false].toArray rfl (by kernel_rfl) (by kernel_rfl) (by kernel_rfl) (fun _ _ _ _ h => h) rfl rfl rfl rfl hm (hS.sub (.cons (Mem.le.refl _) (.cons (Mem.no_le _) (.cons (Mem.no_le _) (.cons (Mem.no_le _) (.cons (Mem.no_le _) (.cons (Mem.no_le _) (.cons (Mem.no_le _) (.cons (Mem.le.refl _) (.cons (Mem.no_le _) (.cons (Mem.le.refl _) (.cons (Mem.le.refl _) (Sub.nil _))))))))))))) (v := .int .i64 (band .i64 (shr .i64 t_110 3) 7)) (fun w hS => r_bits (i := shr .i64 t_110 3) (j := 7) (r := band .i64 (shr .i64 t_110 3) 7) hm rfl rfl (.inl ⟨rfl, rfl⟩)) ?_
        clear hm a; intro a hm
        refine h_take 13 [true, true, true, true, true, false, true, true, true, true, true, true, false, true, false, false, false].toArray rfl (by kernel_rfl) (by kernel_rfl) (by kernel_rfl) (fun _ _ _ _ h => h) rfl rfl rfl rfl hm (hS.sub (.cons (Mem.le.refl _) (.cons (Mem.no_le _) (.cons (Mem.no_le _) (.cons (Mem.no_le _) (.cons (Mem.no_le _) (.cons (Mem.no_le _) (.cons (Mem.no_le _) (.cons (Mem.le.refl _) (.cons (Mem.no_le _) (.cons (Mem.le.refl _) (.cons (Mem.le.refl _) (Sub.nil _))))))))))))) (v := .int .i64 (w64 (x_63.Seq + (mn (band .i64 t_98 7) t_94)))) (fun w hS => r_move hm rfl) ?_
        clear hm a; intro a hm
        refine h_event 5 [true, true, true, true, true, true, true, true, true, true, true, true, false, true, false, false, false].toArray rfl (by kernel_rfl) rfl ?_
        refine s_load hm rfl rfl (el_one (o := 0) (fun j c h => Mem.cell_le (hS.own 8) (hc_109 j c h)) Try.underlying3 rfl rfl) ?_
        clear hm a; intro a hm
        refine wpList_nil ?_
        refine x_then_n ⟨(hS.sub (.cons (Mem.le.refl _) (.cons (Mem.no_le _) (.cons (Mem.no_le _) (.cons (Mem.no_le _) (.cons (Mem.no_le _) (.cons (Mem.no_le _) (.cons (Mem.no_le _) (.cons (Mem.le.refl _) (.cons (Mem.no_le _) (.cons (Mem.le.refl _) (.cons (Mem.le.refl _) (Sub.nil _))))))))))))), ?_⟩
        refine h_take 12 [true, true, true, true, true, true, true, true, true, true, true, true, true, true, false, false, false].toArray rfl (by kernel_rfl) (by kernel_rfl) (by kernel_rfl) (fun _ _ _ _ h => h) rfl rfl rfl rfl hm (hS.sub (.cons (Mem.le.refl _) (.cons (Mem.no_le _) (.cons (Mem.no_le _) (.cons (Mem.no_le _) (.cons (Mem.no_le _) (.cons (Mem.no_le _) (.cons (Mem.no_le _) (.cons (Mem.le.refl _) (.cons (Mem.no_le _) (.cons (Mem.le.refl _) (.cons (Mem.le.refl _) (Sub.nil _))))))))))))) (v := .int .i64 (w64 (t_105 + (band .i64 (shr .i64 t_110 3) 7)))) (fun w hS => r_arith (r := w64 (t_105 + (band .i64 (shr .i64 t_110 3) 7))) hm rfl rfl (.inl ⟨rfl, rfl⟩)) ?_
        clear hm a; intro a hm
        refine h_take 14 [true, true, true, true, true, true, true, true, true, true, true, true, true, true, true, false, false].toArray rfl (by kernel_rfl) (by kernel_rfl) (by kernel_rfl) (fun _ _ _ _ h => h) rfl rfl rfl rfl hm (hS.sub (.cons (Mem.le.refl _) (.cons (Mem.no_le _) (.cons (Mem.no_le _) (.cons (Mem.no_le _) (.cons (Mem.no_le _) (.cons (Mem.no_le _) (.cons (Mem.no_le _) (.cons (Mem.le.refl _) (.cons (Mem.no_le _) (.cons (Mem.le.refl _) (.cons (Mem.le.refl _) (Sub.nil _))))))))))))) (v := .int .i64 (mn (w64 (t_105 + (band .i64 (shr .i64 t_110 3) 7))) (w64 (x_63.Seq + (mn (band .i64 t_98 7) t_94))))) (fun w hS => r_min hm rfl rfl) ?_
        clear hm a; intro a hm
        refine h_event 15 [true, true, true, true, true, true, true, true, true, true, true, true, true, true, true, true, false].toArray rfl (by kernel_rfl) rfl ?_
        obtain ⟨t_115, et_115, H⟩ := Option.bind_eq_some_iff.1 H
        refine s_indexOwn hm rfl Try.underlying23 ti3 rfl rfl rfl ho_60 et_115 ?_
        intro g_116 cur_117 hM_118
        clear hm a; intro a hm
        refine wpList_nil ?_
        refine x_then_n ⟨(hS.sub (.cons (Mem.le.refl _) (.cons (Mem.no_le _) (.cons (Mem.no_le _) (.cons (Mem.no_le _) (.cons (Mem.no_le _) (.cons (Mem.no_le _) (.cons (Mem.no_le _) (.cons (Mem.le.refl _) (.cons (Mem.no_le _) (.cons (Mem.le.refl _) (.cons (Mem.le.refl _) (Sub.nil _))))))))))))), ?_⟩
        refine h_event 16 [true, true, true, true, true, true, true, true, true, true, true, true, true, true, true, true, true].toArray rfl (by kernel_rfl) rfl ?_
        obtain ⟨w_119, M_120, hs', hS', ho_121⟩ := Own.stored (P := Try.prog) (p := 8) (t := 3) (o := 0) (nv := .int .i64 (mn (w64 (t_105 + (band .i64 (shr .i64 t_110 3) 7))) (w64 (x_63.Seq + (mn (band .i64 t_98 7) t_94))))) (vs := [.int .i64 (mn (w64 (t_105 + (band .i64 (shr .i64 t_110 3) 7))) (w64 (x_63.Seq + (mn (band .i64 t_98 7) t_94))))]) (u' := mn (w64 (t_105 + (band .i64 (shr .i64 t_110 3) 7))) (w64 (x_63.Seq + (mn (band .i64 t_98 7) t_94)))) hS rfl ho_60 hM_118 et_115 ti3 rfl rfl rfl (by intro u hu; simp only [List.mem_cons, List.not_mem_nil, or_false] at hu; rcases hu with rfl <;> rfl) (fun cs hk => by obtain rfl := (show cs = [_] from hk); rfl)
        refine s_store hm rfl rfl hs' ?_
        replace hS : Sep w0 w_119 [N_97, Mem.no, Mem.no, Mem.no, Mem.no, Mem.no, Mem.no, Mem.one g_30 (.cells ([.int .i64 x_63.Kind, .int .i64 x_63.From, .int .i64 x_63.To, .int .i64 x_63.View, .int .i64 x_63.Inst, .int .i64 x_63.Len, .bool x_63.Has, .int .i64 x_63.Members, .int .i64 x_63.Source, .int .i64 x_63.At, .int .i64 x_63.Total, v_64, .int .i64 x_63.Hop, .int .i64 x_63.Seq, v_68, v_72, .int .i64 x_63.Index, .int .i64 x_63.Entry.Sess, .int .i64 x_63.Entry.Seq, .int .i64 x_63.Entry.Cmd.Kind, .int .i64 x_63.Entry.Cmd.Who, v_74, v_76, v_78] : List Value).toArray 29 (0, 0)), M_120, M_66, M_70] Z := hS'
        clear hs' hS'
        refine wpList_nil ?_
        refine x_then_n ⟨(hS.sub (.cons (Mem.le.refl _) (.cons (Mem.no_le _) (.cons (Mem.no_le _) (.cons (Mem.no_le _) (.cons (Mem.no_le _) (.cons (Mem.no_le _) (.cons (Mem.no_le _) (.cons (Mem.le.refl _) (.cons (Mem.no_le _) (.cons (Mem.le.refl _) (.cons (Mem.le.refl _) (Sub.nil _))))))))))))), ?_⟩
        refine h_done (by kernel_rfl) ?_
        replace hm : Fr 215 a [(0, .int .i64 (w64 ((Int.tmod (band .i64 x0 255) 7) + 1))), (1, p1_0), (6, .bool false), (7, .pointer (some ⟨g_30, 0, none⟩)), (8, v_59), (10, .int .i64 x_61), (11, .int .i64 x_62), (12, .int .i64 t_93), (14, .int .i64 (band .i64 t_98 7)), (15, .int .i64 (w64 (x_63.Seq + (mn (band .i64 t_98 7) t_94))))] := hm.keep [0, 1, 6, 7, 8, 10, 11, 12, 14, 15]
        refine x_then_n (hKJ_103 _ _ ?_)
        refine wp_seq ?_
        refine wp_region_lit ?_
        refine s_assign hm rfl rfl ?_
        clear hm a; intro a hm
        refine wpList_nil ?_
        replace hm : Fr 215 a [(0, .int .i64 (w64 ((Int.tmod (band .i64 x0 255) 7) + 1))), (1, p1_0), (6, .bool false), (7, .pointer (some ⟨g_30, 0, none⟩)), (8, v_59), (10, .int .i64 x_61), (11, .int .i64 x_62), (12, .int .i64 t_93), (14, .int .i64 (band .i64 t_98 7)), (15, .int .i64 (w64 (x_63.Seq + (mn (band .i64 t_98 7) t_94)))), (16, .slice none 0 0)] := hm.keep [0, 1, 6, 7, 8, 10, 11, 12, 14, 15, 16]
        refine x_then_n ?_
        refine c_seq fun KJ_122 hKJ_122 => ?_
        refine wp_seq ?_
        refine wp_region_lit ?_
        refine s_move hm rfl rfl ?_
        clear hm a; intro a hm
        refine s_move hm rfl rfl ?_
        clear hm a; intro a hm
        obtain ⟨t_123, et_123, H⟩ := Option.bind_eq_some_iff.1 H
        refine v_indexO hm rfl Try.underlying23 ti3 rfl rfl rfl ho_121 (hS.own 8) et_123 ?_
        intro ad_124 cs_125 hk_126 hc_127
        obtain rfl := (show cs_125 = [.int .i64 t_123] from hk_126)
        clear hm a; intro a hm
        refine s_load hm rfl rfl (el_one (o := 0) hc_127 Try.underlying3 rfl rfl) ?_
        clear hm a; intro a hm
        refine s_arith (r := w64 (t_123 + 1)) hm rfl rfl rfl (.inl ⟨rfl, rfl⟩) ?_
        clear hm a; intro a hm
        refine s_assign hm rfl rfl ?_
        clear hm a; intro a hm
        refine wpList_nil ?_
        replace hm : Fr 215 a [(0, .int .i64 (w64 ((Int.tmod (band .i64 x0 255) 7) + 1))), (1, p1_0), (6, .bool false), (7, .pointer (some ⟨g_30, 0, none⟩)), (8, v_59), (10, .int .i64 x_61), (11, .int .i64 x_62), (12, .int .i64 t_93), (14, .int .i64 (band .i64 t_98 7)), (15, .int .i64 (w64 (x_63.Seq + (mn (band .i64 t_98 7) t_94)))), (16, .slice none 0 0), (17, .int .i64 (w64 (t_123 + 1)))] := hm.keep [0, 1, 6, 7, 8, 10, 11, 12, 14, 15, 16, 17]
        refine x_then_n ?_
        have hJ_j_135 : ∀ (x_129 : List Int), hocketlaw17_ToknRises.J4 K t_93 x0 x_56 t_105 t_110 x_63 t_98 t_94 x_61 (hocketlaw17_ToknRises.L1 K x1 x0 (fun v => hocketlaw17_ToknRises.J2 K) k_80) x_62 x_129 = some r → ∀ (a : Act) (w_134 : World), (∃ (v_132 : Value) (N_128 : Mem) (M_130 : Mem), Fr 215 a [(0, .int .i64 (w64 ((Int.tmod (band .i64 x0 255) 7) + 1))), (1, p1_0), (6, .bool false), (7, .pointer (some ⟨g_30, 0, none⟩)), (8, v_59), (10, .int .i64 x_61), (11, .int .i64 x_62), (12, .int .i64 t_93), (14, .int .i64 (band .i64 t_98 7)), (15, .int .i64 (w64 (x_63.Seq + (mn (band .i64 t_98 7) t_94)))), (16, v_132)] ∧ Sep w0 w_134 [N_128, Mem.no, Mem.no, Mem.no, Mem.no, Mem.no, Mem.no, Mem.one g_30 (.cells ([.int .i64 x_63.Kind, .int .i64 x_63.From, .int .i64 x_63.To, .int .i64 x_63.View, .int .i64 x_63.Inst, .int .i64 x_63.Len, .bool x_63.Has, .int .i64 x_63.Members, .int .i64 x_63.Source, .int .i64 x_63.At, .int .i64 x_63.Total, v_64, .int .i64 x_63.Hop, .int .i64 x_63.Seq, v_68, v_72, .int .i64 x_63.Index, .int .i64 x_63.Entry.Sess, .int .i64 x_63.Entry.Seq, .int .i64 x_63.Entry.Cmd.Kind, .int .i64 x_63.Entry.Cmd.Who, v_74, v_76, v_78] : List Value).toArray 29 (0, 0)), M_120, M_66, M_70, M_130] Z ∧ N_97.le N_128 ∧ Own (Kd.int .i64) 3 M_130 Mem.no v_132 x_129) → KJ_122 a w_134 := by
          clear H hm hS a
          rintro x_129 H a w_134 ⟨v_132, N_128, M_130, hm, hS, le_128, ho_133⟩
          unfold hocketlaw17_ToknRises.J4 at H
          refine hKJ_122 _ _ ?_
          refine c_seq fun KJ_136 hKJ_136 => ?_
          have hJ_j_170 : ∀ (x_139 : api_Msg), ∀ (x_156 : api_Msg), hocketlaw17_ToknRises.J5 K x_56 t_93 t_105 t_110 x_63 t_98 t_94 x_61 (hocketlaw17_ToknRises.L1 K x1 x0 (fun v => hocketlaw17_ToknRises.J2 K) k_80) x_62 x0 x_139 x_156 = some r → ∀ (a : Act) (w_169 : World), (∃ (v_140 : Value) (v_144 : Value) (v_148 : Value) (v_150 : Value) (v_152 : Value) (v_154 : Value) (v_157 : Value) (v_159 : Value) (v_161 : Value) (v_163 : Value) (v_165 : Value) (v_167 : Value) (g_138 : Nat) (N_137 : Mem) (M_142 : Mem) (M_146 : Mem), Fr 215 a [(0, .int .i64 (w64 ((Int.tmod (band .i64 x0 255) 7) + 1))), (1, p1_0), (6, .bool false), (7, .pointer (some ⟨g_30, 0, none⟩)), (8, v_59), (10, .int .i64 x_61), (11, .int .i64 x_62), (15, .int .i64 (w64 (x_63.Seq + (mn (band .i64 t_98 7) t_94)))), (18, .pointer (some ⟨g_138, 0, none⟩))] ∧ Sep w0 w_169 [N_137, Mem.no, Mem.no, Mem.no, Mem.no, Mem.no, Mem.no, Mem.one g_30 (.cells ([.int .i64 x_156.Kind, .int .i64 x_156.From, .int .i64 x_156.To, .int .i64 x_156.View, .int .i64 x_156.Inst, .int .i64 x_156.Len, .bool x_156.Has, .int .i64 x_156.Members, .int .i64 x_156.Source, .int .i64 x_156.At, .int .i64 x_156.Total, v_157, .int .i64 x_156.Hop, .int .i64 x_156.Seq, v_159, v_161, .int .i64 x_156.Index, .int .i64 x_156.Entry.Sess, .int .i64 x_156.Entry.Seq, .int .i64 x_156.Entry.Cmd.Kind, .int .i64 x_156.Entry.Cmd.Who, v_163, v_165, v_167] : List Value).toArray 29 (0, 0)), M_120, Mem.no, Mem.no, Mem.no, Mem.one g_138 (.cells ([.int .i64 x_139.Kind, .int .i64 x_139.From, .int .i64 x_139.To, .int .i64 x_139.View, .int .i64 x_139.Inst, .int .i64 x_139.Len, .bool x_139.Has, .int .i64 x_139.Members, .int .i64 x_139.Source, .int .i64 x_139.At, .int .i64 x_139.Total, v_140, .int .i64 x_139.Hop, .int .i64 x_139.Seq, v_144, v_148, .int .i64 x_139.Index, .int .i64 x_139.Entry.Sess, .int .i64 x_139.Entry.Seq, .int .i64 x_139.Entry.Cmd.Kind, .int .i64 x_139.Entry.Cmd.Who, v_150, v_152, v_154] : List Value).toArray 29 (0, 0)), M_142, M_146] Z ∧ N_128.le N_137 ∧ Rd Kd.u8 N_137 v_140 x_139.Data ∧ Own (Kd.int .i64) 3 M_142 Mem.no v_144 x_139.Have ∧ Own (Kd.int .i64) 3 M_146 Mem.no v_148 x_139.Need ∧ Rd Kd.u8 N_137 v_150 x_139.Entry.Cmd.Key ∧ Rd Kd.u8 N_137 v_152 x_139.Entry.Cmd.Val ∧ Rd Kd.u8 N_137 v_154 x_139.Entry.Cmd.Old ∧ Rd Kd.u8 N_137 v_157 x_156.Data ∧ Rd (Kd.int .i64) N_137 v_159 x_156.Have ∧ Rd (Kd.int .i64) N_137 v_161 x_156.Need ∧ Rd Kd.u8 N_137 v_163 x_156.Entry.Cmd.Key ∧ Rd Kd.u8 N_137 v_165 x_156.Entry.Cmd.Val ∧ Rd Kd.u8 N_137 v_167 x_156.Entry.Cmd.Old) → KJ_136 a w_169 := by
            clear H hm hS a
            rintro x_139 x_156 H a w_169 ⟨v_140, v_144, v_148, v_150, v_152, v_154, v_157, v_159, v_161, v_163, v_165, v_167, g_138, N_137, M_142, M_146, hm, hS, le_137, hr_141, ho_145, ho_149, hr_151, hr_153, hr_155, hr_158, hr_160, hr_162, hr_164, hr_166, hr_168⟩
            unfold hocketlaw17_ToknRises.J5 at H
            refine hKJ_136 _ _ ?_
            refine wp_seq ?_
            refine wp_region_lit ?_
            refine s_move hm rfl rfl ?_
            clear hm a; intro a hm
            obtain ⟨t_171, et_171, H⟩ := Option.bind_eq_some_iff.1 H
            refine v_indexO hm rfl Try.underlying23 ti3 rfl rfl rfl ho_121 (hS.own 8) et_171 ?_
            intro ad_172 cs_173 hk_174 hc_175
            obtain rfl := (show cs_173 = [.int .i64 t_171] from hk_174)
            clear hm a; intro a hm
            refine s_load hm rfl rfl (el_one (o := 0) hc_175 Try.underlying3 rfl rfl) ?_
            clear hm a; intro a hm
            refine s_assign hm rfl rfl ?_
            clear hm a; intro a hm
            refine wpList_nil ?_
            replace hm : Fr 215 a [(0, .int .i64 (w64 ((Int.tmod (band .i64 x0 255) 7) + 1))), (1, p1_0), (6, .bool false), (7, .pointer (some ⟨g_30, 0, none⟩)), (8, v_59), (10, .int .i64 x_61), (11, .int .i64 x_62), (15, .int .i64 (w64 (x_63.Seq + (mn (band .i64 t_98 7) t_94)))), (18, .pointer (some ⟨g_138, 0, none⟩)), (20, .int .i64 t_171)] := hm.keep [0, 1, 6, 7, 8, 10, 11, 15, 18, 20]
            refine x_then_n ?_
            refine c_seq fun KJ_176 hKJ_176 => ?_
            refine wp_seq ?_
            refine wp_region_lit ?_
            refine s_move hm rfl rfl ?_
            clear hm a; intro a hm
            refine s_lenO hm rfl Try.underlying23 rfl ho_60 ?_
            clear hm a; intro a hm
            refine s_move hm rfl rfl ?_
            clear hm a; intro a hm
            refine wpList_nil ?_
            replace hm : Fr 215 a [(0, .int .i64 (w64 ((Int.tmod (band .i64 x0 255) 7) + 1))), (1, p1_0), (6, .bool false), (7, .pointer (some ⟨g_30, 0, none⟩)), (8, v_59), (10, .int .i64 x_61), (11, .int .i64 x_62), (15, .int .i64 (w64 (x_63.Seq + (mn (band .i64 t_98 7) t_94)))), (18, .pointer (some ⟨g_138, 0, none⟩)), (20, .int .i64 t_171), (127, .int .i64 (x_56.length : Int)), (128, .int .i64 0)] := hm.keep [0, 1, 6, 7, 8, 10, 11, 15, 18, 20, 127, 128]
            refine x_then_n ?_
            have hJ_j_180 : ∀ (x_178 : Int), hocketlaw17_ToknRises.J6 K x_139 x_156 x_63 t_98 t_94 x_61 (hocketlaw17_ToknRises.L1 K x1 x0 (fun v => hocketlaw17_ToknRises.J2 K) k_80) x_56 t_93 t_105 t_110 x_62 x0 x_178 = some r → ∀ (a : Act) (w_179 : World), (∃ (N_177 : Mem), Fr 215 a [(0, .int .i64 (w64 ((Int.tmod (band .i64 x0 255) 7) + 1))), (1, p1_0), (6, .bool false), (7, .pointer (some ⟨g_30, 0, none⟩)), (8, v_59), (10, .int .i64 x_61), (11, .int .i64 x_62), (15, .int .i64 (w64 (x_63.Seq + (mn (band .i64 t_98 7) t_94)))), (18, .pointer (some ⟨g_138, 0, none⟩)), (20, .int .i64 x_178)] ∧ Sep w0 w_179 [N_177, Mem.no, Mem.no, Mem.no, Mem.no, Mem.no, Mem.no, Mem.one g_30 (.cells ([.int .i64 x_156.Kind, .int .i64 x_156.From, .int .i64 x_156.To, .int .i64 x_156.View, .int .i64 x_156.Inst, .int .i64 x_156.Len, .bool x_156.Has, .int .i64 x_156.Members, .int .i64 x_156.Source, .int .i64 x_156.At, .int .i64 x_156.Total, v_157, .int .i64 x_156.Hop, .int .i64 x_156.Seq, v_159, v_161, .int .i64 x_156.Index, .int .i64 x_156.Entry.Sess, .int .i64 x_156.Entry.Seq, .int .i64 x_156.Entry.Cmd.Kind, .int .i64 x_156.Entry.Cmd.Who, v_163, v_165, v_167] : List Value).toArray 29 (0, 0)), M_120, Mem.no, Mem.no, Mem.no, Mem.one g_138 (.cells ([.int .i64 x_139.Kind, .int .i64 x_139.From, .int .i64 x_139.To, .int .i64 x_139.View, .int .i64 x_139.Inst, .int .i64 x_139.Len, .bool x_139.Has, .int .i64 x_139.Members, .int .i64 x_139.Source, .int .i64 x_139.At, .int .i64 x_139.Total, v_140, .int .i64 x_139.Hop, .int .i64 x_139.Seq, v_144, v_148, .int .i64 x_139.Index, .int .i64 x_139.Entry.Sess, .int .i64 x_139.Entry.Seq, .int .i64 x_139.Entry.Cmd.Kind, .int .i64 x_139.Entry.Cmd.Who, v_150, v_152, v_154] : List Value).toArray 29 (0, 0)), M_142, M_146] Z ∧ N_137.le N_177) → KJ_176 a w_179 := by
              clear H hm hS a
              rintro x_178 H a w_179 ⟨N_177, hm, hS, le_177⟩
              unfold hocketlaw17_ToknRises.J6 at H
              refine hKJ_176 _ _ ?_
              refine c_seq fun KJ_181 hKJ_181 => ?_
              refine c_seq fun KJ_182 hKJ_182 => ?_
              have hJ_j_186 : ∀ (x_184 : Bool), hocketlaw17_ToknRises.J7 K x_139 x_178 (hocketlaw17_ToknRises.L1 K x1 x0 (fun v => hocketlaw17_ToknRises.J2 K) k_80) x_56 t_93 t_105 t_110 x_63 t_98 t_94 x_62 x_184 = some r → ∀ (a : Act) (w_185 : World), (∃ (N_183 : Mem), Fr 215 a [(0, .int .i64 (w64 ((Int.tmod (band .i64 x0 255) 7) + 1))), (1, p1_0), (6, .bool false), (7, .pointer (some ⟨g_30, 0, none⟩)), (8, v_59), (10, .int .i64 x_61), (11, .int .i64 x_62), (18, .pointer (some ⟨g_138, 0, none⟩)), (20, .int .i64 x_178), (187, .bool x_184)] ∧ Sep w0 w_185 [N_183, Mem.no, Mem.no, Mem.no, Mem.no, Mem.no, Mem.no, Mem.one g_30 (.cells ([.int .i64 x_156.Kind, .int .i64 x_156.From, .int .i64 x_156.To, .int .i64 x_156.View, .int .i64 x_156.Inst, .int .i64 x_156.Len, .bool x_156.Has, .int .i64 x_156.Members, .int .i64 x_156.Source, .int .i64 x_156.At, .int .i64 x_156.Total, v_157, .int .i64 x_156.Hop, .int .i64 x_156.Seq, v_159, v_161, .int .i64 x_156.Index, .int .i64 x_156.Entry.Sess, .int .i64 x_156.Entry.Seq, .int .i64 x_156.Entry.Cmd.Kind, .int .i64 x_156.Entry.Cmd.Who, v_163, v_165, v_167] : List Value).toArray 29 (0, 0)), M_120, Mem.no, Mem.no, Mem.no, Mem.one g_138 (.cells ([.int .i64 x_139.Kind, .int .i64 x_139.From, .int .i64 x_139.To, .int .i64 x_139.View, .int .i64 x_139.Inst, .int .i64 x_139.Len, .bool x_139.Has, .int .i64 x_139.Members, .int .i64 x_139.Source, .int .i64 x_139.At, .int .i64 x_139.Total, v_140, .int .i64 x_139.Hop, .int .i64 x_139.Seq, v_144, v_148, .int .i64 x_139.Index, .int .i64 x_139.Entry.Sess, .int .i64 x_139.Entry.Seq, .int .i64 x_139.Entry.Cmd.Kind, .int .i64 x_139.Entry.Cmd.Who, v_150, v_152, v_154] : List Value).toArray 29 (0, 0)), M_142, M_146] Z ∧ N_177.le N_183) → KJ_182 a w_185 := by
                clear H hm hS a
                rintro x_184 H a w_185 ⟨N_183, hm, hS, le_183⟩
                unfold hocketlaw17_ToknRises.J7 at H
                refine hKJ_182 _ _ ?_
                by_cases hc_187 : x_184 = true
                · rw [if_pos hc_187] at H
                  cases H
                · rw [if_neg hc_187] at H
                  refine c_cond_f hm rfl (Bool.eq_false_iff.2 hc_187) ?_
                  refine wp_skip ?_
                  refine x_then_n (hKJ_181 _ _ ?_)
                  refine c_seq fun KJ_188 hKJ_188 => ?_
                  refine wp_seq ?_
                  refine wp_region_lit ?_
                  refine s_fieldAddr hm rfl Try.underlying29 rfl ti23 rfl rfl ?_
                  clear hm a; intro a hm
                  refine s_load hm rfl rfl (hS.load_one (p := 12) rfl Try.underlying23 rfl rfl) ?_
                  clear hm a; intro a hm
                  refine s_lenO hm rfl Try.underlying23 rfl ho_149 ?_
                  clear hm a; intro a hm
                  refine s_move hm rfl rfl ?_
                  clear hm a; intro a hm
                  refine wpList_nil ?_
                  replace hm : Fr 215 a [(0, .int .i64 (w64 ((Int.tmod (band .i64 x0 255) 7) + 1))), (1, p1_0), (6, .bool false), (7, .pointer (some ⟨g_30, 0, none⟩)), (8, v_59), (10, .int .i64 x_61), (11, .int .i64 x_62), (18, .pointer (some ⟨g_138, 0, none⟩)), (20, .int .i64 x_178), (190, .int .i64 (x_139.Need.length : Int)), (191, .int .i64 0)] := hm.keep [0, 1, 6, 7, 8, 10, 11, 18, 20, 190, 191]
                  refine x_then_n ?_
                  have hJ_j_191 : hocketlaw17_ToknRises.J8 K (hocketlaw17_ToknRises.L1 K x1 x0 (fun v => hocketlaw17_ToknRises.J2 K) k_80) x_56 t_93 t_105 t_110 x_63 t_98 t_94 x_178 x_62 x_139 = some r → ∀ (a : Act) (w_190 : World), (∃ (N_189 : Mem), Fr 215 a [(0, .int .i64 (w64 ((Int.tmod (band .i64 x0 255) 7) + 1))), (1, p1_0), (6, .bool false), (7, .pointer (some ⟨g_30, 0, none⟩)), (8, v_59), (10, .int .i64 x_61), (11, .int .i64 x_62), (18, .pointer (some ⟨g_138, 0, none⟩)), (20, .int .i64 x_178)] ∧ Sep w0 w_190 [N_189, Mem.no, Mem.no, Mem.no, Mem.no, Mem.no, Mem.no, Mem.one g_30 (.cells ([.int .i64 x_156.Kind, .int .i64 x_156.From, .int .i64 x_156.To, .int .i64 x_156.View, .int .i64 x_156.Inst, .int .i64 x_156.Len, .bool x_156.Has, .int .i64 x_156.Members, .int .i64 x_156.Source, .int .i64 x_156.At, .int .i64 x_156.Total, v_157, .int .i64 x_156.Hop, .int .i64 x_156.Seq, v_159, v_161, .int .i64 x_156.Index, .int .i64 x_156.Entry.Sess, .int .i64 x_156.Entry.Seq, .int .i64 x_156.Entry.Cmd.Kind, .int .i64 x_156.Entry.Cmd.Who, v_163, v_165, v_167] : List Value).toArray 29 (0, 0)), M_120, Mem.no, Mem.no, Mem.no, Mem.one g_138 (.cells ([.int .i64 x_139.Kind, .int .i64 x_139.From, .int .i64 x_139.To, .int .i64 x_139.View, .int .i64 x_139.Inst, .int .i64 x_139.Len, .bool x_139.Has, .int .i64 x_139.Members, .int .i64 x_139.Source, .int .i64 x_139.At, .int .i64 x_139.Total, v_140, .int .i64 x_139.Hop, .int .i64 x_139.Seq, v_144, v_148, .int .i64 x_139.Index, .int .i64 x_139.Entry.Sess, .int .i64 x_139.Entry.Seq, .int .i64 x_139.Entry.Cmd.Kind, .int .i64 x_139.Entry.Cmd.Who, v_150, v_152, v_154] : List Value).toArray 29 (0, 0)), M_142, M_146] Z ∧ N_183.le N_189) → KJ_188 a w_190 := by
                    clear H hm hS a
                    rintro H a w_190 ⟨N_189, hm, hS, le_189⟩
                    unfold hocketlaw17_ToknRises.J8 at H
                    refine hKJ_188 _ _ ?_
                    refine wp_region_lit ?_
                    refine s_load hm rfl rfl (hS.load_agg (p := 12) (us := [.int .i64 x_139.Kind, .int .i64 x_139.From, .int .i64 x_139.To, .int .i64 x_139.View, .int .i64 x_139.Inst, .int .i64 x_139.Len, .bool x_139.Has, .int .i64 x_139.Members, .int .i64 x_139.Source, .int .i64 x_139.At, .int .i64 x_139.Total, v_140, .int .i64 x_139.Hop, .int .i64 x_139.Seq, v_144, v_148, .int .i64 x_139.Index, .int .i64 x_139.Entry.Sess, .int .i64 x_139.Entry.Seq, .int .i64 x_139.Entry.Cmd.Kind, .int .i64 x_139.Entry.Cmd.Who, v_150, v_152, v_154]) rfl Try.underlying29 rfl ti29 rfl rfl) ?_
                    clear hm a; intro a hm
                    refine s_move hm rfl rfl ?_
                    clear hm a; intro a hm
                    obtain ⟨w_192, hs', hS'⟩ := hS.store (P := Try.prog) (p := 7) (o := 0) (t := 29) (v := .agg ([.int .i64 x_139.Kind, .int .i64 x_139.From, .int .i64 x_139.To, .int .i64 x_139.View, .int .i64 x_139.Inst, .int .i64 x_139.Len, .bool x_139.Has, .int .i64 x_139.Members, .int .i64 x_139.Source, .int .i64 x_139.At, .int .i64 x_139.Total, v_140, .int .i64 x_139.Hop, .int .i64 x_139.Seq, v_144, v_148, .int .i64 x_139.Index, .int .i64 x_139.Entry.Sess, .int .i64 x_139.Entry.Seq, .int .i64 x_139.Entry.Cmd.Kind, .int .i64 x_139.Entry.Cmd.Who, v_150, v_152, v_154] : List Value).toArray) (vs := [.int .i64 x_139.Kind, .int .i64 x_139.From, .int .i64 x_139.To, .int .i64 x_139.View, .int .i64 x_139.Inst, .int .i64 x_139.Len, .bool x_139.Has, .int .i64 x_139.Members, .int .i64 x_139.Source, .int .i64 x_139.At, .int .i64 x_139.Total, v_140, .int .i64 x_139.Hop, .int .i64 x_139.Seq, v_144, v_148, .int .i64 x_139.Index, .int .i64 x_139.Entry.Sess, .int .i64 x_139.Entry.Seq, .int .i64 x_139.Entry.Cmd.Kind, .int .i64 x_139.Entry.Cmd.Who, v_150, v_152, v_154]) rfl ti29 rfl rfl rfl (by intro u hu; simp only [List.mem_cons, List.not_mem_nil, or_false] at hu; rcases hu with rfl | rfl | rfl | rfl | rfl | rfl | rfl | rfl | rfl | rfl | rfl | rfl | rfl | rfl | rfl | rfl | rfl | rfl | rfl | rfl | rfl | rfl | rfl | rfl <;> first | rfl | exact hr_141.one | exact ho_145.one | exact ho_149.one | exact hr_151.one | exact hr_153.one | exact hr_155.one)
                    refine s_store hm rfl rfl hs' ?_
                    replace hS : Sep w0 w_192 [N_189, Mem.no, Mem.no, Mem.no, Mem.no, Mem.no, Mem.no, Mem.one g_30 (.cells ([.int .i64 x_139.Kind, .int .i64 x_139.From, .int .i64 x_139.To, .int .i64 x_139.View, .int .i64 x_139.Inst, .int .i64 x_139.Len, .bool x_139.Has, .int .i64 x_139.Members, .int .i64 x_139.Source, .int .i64 x_139.At, .int .i64 x_139.Total, v_140, .int .i64 x_139.Hop, .int .i64 x_139.Seq, v_144, v_148, .int .i64 x_139.Index, .int .i64 x_139.Entry.Sess, .int .i64 x_139.Entry.Seq, .int .i64 x_139.Entry.Cmd.Kind, .int .i64 x_139.Entry.Cmd.Who, v_150, v_152, v_154] : List Value).toArray 29 (0, 0)), M_120, Mem.no, Mem.no, Mem.no, Mem.one g_138 (.cells ([.int .i64 x_139.Kind, .int .i64 x_139.From, .int .i64 x_139.To, .int .i64 x_139.View, .int .i64 x_139.Inst, .int .i64 x_139.Len, .bool x_139.Has, .int .i64 x_139.Members, .int .i64 x_139.Source, .int .i64 x_139.At, .int .i64 x_139.Total, v_140, .int .i64 x_139.Hop, .int .i64 x_139.Seq, v_144, v_148, .int .i64 x_139.Index, .int .i64 x_139.Entry.Sess, .int .i64 x_139.Entry.Seq, .int .i64 x_139.Entry.Cmd.Kind, .int .i64 x_139.Entry.Cmd.Who, v_150, v_152, v_154] : List Value).toArray 29 (0, 0)), M_142, M_146] Z := hS'
                    clear hs' hS'
                    refine s_assign hm rfl rfl ?_
                    clear hm a; intro a hm
                    refine wpList_nil ?_
                    replace hm : Fr 215 a [(0, .int .i64 (w64 ((Int.tmod (band .i64 x0 255) 7) + 1))), (1, p1_0), (6, .bool false), (7, .pointer (some ⟨g_30, 0, none⟩)), (8, v_59), (10, .int .i64 x_178), (11, .int .i64 x_62)] := hm.keep [0, 1, 6, 7, 8, 10, 11]
                    refine x_block_n ?_
                    refine x_then_n ?_
                    refine wp_region_lit ?_
                    refine s_move hm rfl rfl ?_
                    clear hm a; intro a hm
                    refine s_arith (r := w64 (x_62 + 1)) hm rfl rfl rfl (.inl ⟨rfl, rfl⟩) ?_
                    clear hm a; intro a hm
                    refine s_assign hm rfl rfl ?_
                    clear hm a; intro a hm
                    refine wpList_nil ?_
                    replace hm : Fr 215 a [(0, .int .i64 (w64 ((Int.tmod (band .i64 x0 255) 7) + 1))), (1, p1_0), (6, .bool false), (7, .pointer (some ⟨g_30, 0, none⟩)), (8, v_59), (10, .int .i64 x_178), (11, .int .i64 (w64 (x_62 + 1)))] := hm.keep [0, 1, 6, 7, 8, 10, 11]
                    refine x_then_n (hKL_80 _ _ ?_)
                    replace hS : Sep w0 w_192 [N_189, Mem.no, Mem.no, Mem.no, Mem.no, Mem.no, Mem.no, Mem.one g_30 (.cells ([.int .i64 x_139.Kind, .int .i64 x_139.From, .int .i64 x_139.To, .int .i64 x_139.View, .int .i64 x_139.Inst, .int .i64 x_139.Len, .bool x_139.Has, .int .i64 x_139.Members, .int .i64 x_139.Source, .int .i64 x_139.At, .int .i64 x_139.Total, v_140, .int .i64 x_139.Hop, .int .i64 x_139.Seq, v_144, v_148, .int .i64 x_139.Index, .int .i64 x_139.Entry.Sess, .int .i64 x_139.Entry.Seq, .int .i64 x_139.Entry.Cmd.Kind, .int .i64 x_139.Entry.Cmd.Who, v_150, v_152, v_154] : List Value).toArray 29 (0, 0)), M_120, Mem.no, Mem.no, Mem.no, Mem.one g_138 (.cells ([.int .i64 x_139.Kind, .int .i64 x_139.From, .int .i64 x_139.To, .int .i64 x_139.View, .int .i64 x_139.Inst, .int .i64 x_139.Len, .bool x_139.Has, .int .i64 x_139.Members, .int .i64 x_139.Source, .int .i64 x_139.At, .int .i64 x_139.Total, v_140, .int .i64 x_139.Hop, .int .i64 x_139.Seq, v_144, v_148, .int .i64 x_139.Index, .int .i64 x_139.Entry.Sess, .int .i64 x_139.Entry.Seq, .int .i64 x_139.Entry.Cmd.Kind, .int .i64 x_139.Entry.Cmd.Who, v_150, v_152, v_154] : List Value).toArray 29 (0, 0)), M_142, M_146] Z := hS
                    replace hm : Fr 215 a [(0, .int .i64 (w64 ((Int.tmod (band .i64 x0 255) 7) + 1))), (1, p1_0), (6, .bool false), (7, .pointer (some ⟨g_30, 0, none⟩)), (8, v_59), (10, .int .i64 x_178), (11, .int .i64 (w64 (x_62 + 1)))] := hm.keep [0, 1, 6, 7, 8, 10, 11]
                    exact ⟨(x_56.set (t_93).toNat (mn (w64 (t_105 + (band .i64 (shr .i64 t_110 3) 7))) (w64 (x_63.Seq + (mn (band .i64 t_98 7) t_94))))), x_178, w64 (x_62 + 1), x_139, v_59, v_140, v_144, v_148, v_150, v_152, v_154, N_189, M_120, M_142, M_146, H, hm, (Sep.sel hS [0, 1000, 1001, 1002, 1003, 1004, 1005, 7, 8, 13, 14] (by decide)), (le_55.trans (le_88.trans (le_97.trans (le_128.trans (le_137.trans (le_177.trans (le_183.trans le_189))))))), ho_121, (hr_141.mono (le_177.trans (le_183.trans le_189))), ho_145, ho_149, (hr_151.mono (le_177.trans (le_183.trans le_189))), (hr_153.mono (le_177.trans (le_183.trans le_189))), (hr_155.mono (le_177.trans (le_183.trans le_189)))⟩
                  clear hKJ_188
                  replace hS : Sep w0 w_185 [N_183, Mem.no, Mem.no, Mem.no, Mem.no, Mem.no, Mem.no, Mem.one g_30 (.cells ([.int .i64 x_156.Kind, .int .i64 x_156.From, .int .i64 x_156.To, .int .i64 x_156.View, .int .i64 x_156.Inst, .int .i64 x_156.Len, .bool x_156.Has, .int .i64 x_156.Members, .int .i64 x_156.Source, .int .i64 x_156.At, .int .i64 x_156.Total, v_157, .int .i64 x_156.Hop, .int .i64 x_156.Seq, v_159, v_161, .int .i64 x_156.Index, .int .i64 x_156.Entry.Sess, .int .i64 x_156.Entry.Seq, .int .i64 x_156.Entry.Cmd.Kind, .int .i64 x_156.Entry.Cmd.Who, v_163, v_165, v_167] : List Value).toArray 29 (0, 0)), M_120, Mem.no, Mem.no, Mem.no, Mem.one g_138 (.cells ([.int .i64 x_139.Kind, .int .i64 x_139.From, .int .i64 x_139.To, .int .i64 x_139.View, .int .i64 x_139.Inst, .int .i64 x_139.Len, .bool x_139.Has, .int .i64 x_139.Members, .int .i64 x_139.Source, .int .i64 x_139.At, .int .i64 x_139.Total, v_140, .int .i64 x_139.Hop, .int .i64 x_139.Seq, v_144, v_148, .int .i64 x_139.Index, .int .i64 x_139.Entry.Sess, .int .i64 x_139.Entry.Seq, .int .i64 x_139.Entry.Cmd.Kind, .int .i64 x_139.Entry.Cmd.Who, v_150, v_152, v_154] : List Value).toArray 29 (0, 0)), M_142, M_146] Z := hS
                  replace hm : Fr 215 a [(0, .int .i64 (w64 ((Int.tmod (band .i64 x0 255) 7) + 1))), (1, p1_0), (6, .bool false), (7, .pointer (some ⟨g_30, 0, none⟩)), (8, v_59), (10, .int .i64 x_61), (11, .int .i64 x_62), (18, .pointer (some ⟨g_138, 0, none⟩)), (20, .int .i64 x_178), (190, .int .i64 (x_139.Need.length : Int)), (191, .int .i64 0)] := hm.keep [0, 1, 6, 7, 8, 10, 11, 18, 20, 190, 191]
                  refine c_block ?_
                  refine c_loop (fun k_195 a w_195 => ∃ (x_194 : Int) (N_193 : Mem), hocketlaw17_ToknRises.L2 K x_139 x_178 (fun v => hocketlaw17_ToknRises.J8 K (hocketlaw17_ToknRises.L1 K x1 x0 (fun v => hocketlaw17_ToknRises.J2 K) k_80) x_56 t_93 t_105 t_110 x_63 t_98 t_94 x_178 x_62 x_139) k_195 x_194 = some r ∧ Fr 215 a [(0, .int .i64 (w64 ((Int.tmod (band .i64 x0 255) 7) + 1))), (1, p1_0), (6, .bool false), (7, .pointer (some ⟨g_30, 0, none⟩)), (8, v_59), (10, .int .i64 x_61), (11, .int .i64 x_62), (18, .pointer (some ⟨g_138, 0, none⟩)), (20, .int .i64 x_178), (190, .int .i64 (x_139.Need.length : Int)), (191, .int .i64 x_194)] ∧ Sep w0 w_195 [N_193, Mem.no, Mem.no, Mem.no, Mem.no, Mem.no, Mem.no, Mem.one g_30 (.cells ([.int .i64 x_156.Kind, .int .i64 x_156.From, .int .i64 x_156.To, .int .i64 x_156.View, .int .i64 x_156.Inst, .int .i64 x_156.Len, .bool x_156.Has, .int .i64 x_156.Members, .int .i64 x_156.Source, .int .i64 x_156.At, .int .i64 x_156.Total, v_157, .int .i64 x_156.Hop, .int .i64 x_156.Seq, v_159, v_161, .int .i64 x_156.Index, .int .i64 x_156.Entry.Sess, .int .i64 x_156.Entry.Seq, .int .i64 x_156.Entry.Cmd.Kind, .int .i64 x_156.Entry.Cmd.Who, v_163, v_165, v_167] : List Value).toArray 29 (0, 0)), M_120, Mem.no, Mem.no, Mem.no, Mem.one g_138 (.cells ([.int .i64 x_139.Kind, .int .i64 x_139.From, .int .i64 x_139.To, .int .i64 x_139.View, .int .i64 x_139.Inst, .int .i64 x_139.Len, .bool x_139.Has, .int .i64 x_139.Members, .int .i64 x_139.Source, .int .i64 x_139.At, .int .i64 x_139.Total, v_140, .int .i64 x_139.Hop, .int .i64 x_139.Seq, v_144, v_148, .int .i64 x_139.Index, .int .i64 x_139.Entry.Sess, .int .i64 x_139.Entry.Seq, .int .i64 x_139.Entry.Cmd.Kind, .int .i64 x_139.Entry.Cmd.Who, v_150, v_152, v_154] : List Value).toArray 29 (0, 0)), M_142, M_146] Z ∧ N_183.le N_193) K ⟨0, N_183, H, hm, (Sep.sel hS [0, 1000, 1001, 1002, 1003, 1004, 1005, 7, 8, 1008, 1009, 1010, 12, 13, 14] (by decide)), (Mem.le.refl _)⟩ (fun a w h => by obtain ⟨_, _, H, _⟩ := h; cases (show (none : Option (Unit)) = some r from H)) ?_
                  clear hm hS a H
                  rintro k_195 a w_195 KL_195 hKL_195 ⟨x_194, N_193, H, hm, hS, le_193⟩
                  replace H : hocketlaw17_ToknRises.B2 K x_139 x_178 (fun v => hocketlaw17_ToknRises.J8 K (hocketlaw17_ToknRises.L1 K x1 x0 (fun v => hocketlaw17_ToknRises.J2 K) k_80) x_56 t_93 t_105 t_110 x_63 t_98 t_94 x_178 x_62 x_139) (hocketlaw17_ToknRises.L2 K x_139 x_178 (fun v => hocketlaw17_ToknRises.J8 K (hocketlaw17_ToknRises.L1 K x1 x0 (fun v => hocketlaw17_ToknRises.J2 K) k_80) x_56 t_93 t_105 t_110 x_63 t_98 t_94 x_178 x_62 x_139) k_195) x_194 = some r := H
                  unfold hocketlaw17_ToknRises.B2 at H
                  refine wp_seq ?_
                  refine wp_region_lit ?_
                  refine s_cmp (b := decide (x_194 < (x_139.Need.length : Int))) hm rfl rfl rfl (.inr (.inr (.inl ⟨rfl, rfl⟩))) ?_
                  clear hm a; intro a hm
                  refine wpList_nil ?_
                  replace hm : Fr 215 a [(0, .int .i64 (w64 ((Int.tmod (band .i64 x0 255) 7) + 1))), (1, p1_0), (6, .bool false), (7, .pointer (some ⟨g_30, 0, none⟩)), (8, v_59), (10, .int .i64 x_61), (11, .int .i64 x_62), (18, .pointer (some ⟨g_138, 0, none⟩)), (20, .int .i64 x_178), (190, .int .i64 (x_139.Need.length : Int)), (191, .int .i64 x_194), (192, .bool (decide (x_194 < (x_139.Need.length : Int))))] := hm.keep [0, 1, 6, 7, 8, 10, 11, 18, 20, 190, 191, 192]
                  refine x_then_n ?_
                  refine c_seq fun KJ_197 hKJ_197 => ?_
                  by_cases hc_198 : x_194 < (x_139.Need.length : Int)
                  · rw [if_pos hc_198] at H
                    refine c_cond_t hm rfl (decide_eq_true hc_198) ?_
                    refine wp_skip ?_
                    refine x_then_n (hKJ_197 _ _ ?_)
                    refine c_seq fun KJ_199 hKJ_199 => ?_
                    refine c_block ?_
                    refine wp_seq ?_
                    refine wp_region_lit ?_
                    refine s_move hm rfl rfl ?_
                    clear hm a; intro a hm
                    refine s_assign hm rfl rfl ?_
                    clear hm a; intro a hm
                    refine wpList_nil ?_
                    replace hm : Fr 215 a [(0, .int .i64 (w64 ((Int.tmod (band .i64 x0 255) 7) + 1))), (1, p1_0), (6, .bool false), (7, .pointer (some ⟨g_30, 0, none⟩)), (8, v_59), (10, .int .i64 x_61), (11, .int .i64 x_62), (18, .pointer (some ⟨g_138, 0, none⟩)), (20, .int .i64 x_178), (22, .int .i64 x_194), (190, .int .i64 (x_139.Need.length : Int)), (191, .int .i64 x_194)] := hm.keep [0, 1, 6, 7, 8, 10, 11, 18, 20, 22, 190, 191]
                    refine x_then_n ?_
                    refine c_seq fun KJ_200 hKJ_200 => ?_
                    refine h_begin (S := fun w => Sep w0 w [N_193, Mem.no, Mem.no, Mem.no, Mem.no, Mem.no, Mem.no, Mem.one g_30 (.cells ([.int .i64 x_156.Kind, .int .i64 x_156.From, .int .i64 x_156.To, .int .i64 x_156.View, .int .i64 x_156.Inst, .int .i64 x_156.Len, .bool x_156.Has, .int .i64 x_156.Members, .int .i64 x_156.Source, .int .i64 x_156.At, .int .i64 x_156.Total, v_157, .int .i64 x_156.Hop, .int .i64 x_156.Seq, v_159, v_161, .int .i64 x_156.Index, .int .i64 x_156.Entry.Sess, .int .i64 x_156.Entry.Seq, .int .i64 x_156.Entry.Cmd.Kind, .int .i64 x_156.Entry.Cmd.Who, v_163, v_165, v_167] : List Value).toArray 29 (0, 0)), M_120, Mem.no, Mem.no, Mem.no, Mem.one g_138 (.cells ([.int .i64 x_139.Kind, .int .i64 x_139.From, .int .i64 x_139.To, .int .i64 x_139.View, .int .i64 x_139.Inst, .int .i64 x_139.Len, .bool x_139.Has, .int .i64 x_139.Members, .int .i64 x_139.Source, .int .i64 x_139.At, .int .i64 x_139.Total, v_140, .int .i64 x_139.Hop, .int .i64 x_139.Seq, v_144, v_148, .int .i64 x_139.Index, .int .i64 x_139.Entry.Sess, .int .i64 x_139.Entry.Seq, .int .i64 x_139.Entry.Cmd.Kind, .int .i64 x_139.Entry.Cmd.Who, v_150, v_152, v_154] : List Value).toArray 29 (0, 0)), M_142, M_146] Z) 17 (by kernel_rfl) rfl [false, false, false, false, false, false, false, false, false, false, false, false, false, false, false, false, false].toArray rfl hS fun w_201 hS => ?_
                    replace hS : Sep w0 w_201 [N_193, Mem.no, Mem.no, Mem.no, Mem.no, Mem.no, Mem.no, Mem.one g_30 (.cells ([.int .i64 x_156.Kind, .int .i64 x_156.From, .int .i64 x_156.To, .int .i64 x_156.View, .int .i64 x_156.Inst, .int .i64 x_156.Len, .bool x_156.Has, .int .i64 x_156.Members, .int .i64 x_156.Source, .int .i64 x_156.At, .int .i64 x_156.Total, v_157, .int .i64 x_156.Hop, .int .i64 x_156.Seq, v_159, v_161, .int .i64 x_156.Index, .int .i64 x_156.Entry.Sess, .int .i64 x_156.Entry.Seq, .int .i64 x_156.Entry.Cmd.Kind, .int .i64 x_156.Entry.Cmd.Who, v_163, v_165, v_167] : List Value).toArray 29 (0, 0)), M_120, Mem.no, Mem.no, Mem.no, Mem.one g_138 (.cells ([.int .i64 x_139.Kind, .int .i64 x_139.From, .int .i64 x_139.To, .int .i64 x_139.View, .int .i64 x_139.Inst, .int .i64 x_139.Len, .bool x_139.Has, .int .i64 x_139.Members, .int .i64 x_139.Source, .int .i64 x_139.At, .int .i64 x_139.Total, v_140, .int .i64 x_139.Hop, .int .i64 x_139.Seq, v_144, v_148, .int .i64 x_139.Index, .int .i64 x_139.Entry.Sess, .int .i64 x_139.Entry.Seq, .int .i64 x_139.Entry.Cmd.Kind, .int .i64 x_139.Entry.Cmd.Who, v_150, v_152, v_154] : List Value).toArray 29 (0, 0)), M_142, M_146] Z := hS
                    refine h_take 0 [true, false, false, false, false, false, false, false, false, false, false, false, false, false, false, false, false].toArray rfl (by kernel_rfl) (by kernel_rfl) (by kernel_rfl) (fun _ _ _ _ h => h) rfl rfl rfl rfl hm (hS.sub (.cons (Mem.le.refl _) (.cons (Mem.no_le _) (.cons (Mem.no_le _) (.cons (Mem.no_le _) (.cons (Mem.no_le _) (.cons (Mem.no_le _) (.cons (Mem.no_le _) (.cons (Mem.le.refl _) (.cons (Mem.le.refl _) (.cons (Mem.no_le _) (.cons (Mem.no_le _) (.cons (Mem.no_le _) (.cons (Mem.le.refl _) (.cons (Mem.le.refl _) (.cons (Mem.le.refl _) (Sub.nil _))))))))))))))))) (v := .pointer (some ⟨g_138, 15, none⟩)) (fun w hS => r_fieldAddr hm Try.underlying29 rfl ti23 rfl rfl rfl) ?_
                    clear hm a; intro a hm
                    refine h_take 1 [true, true, false, false, false, false, false, false, false, false, false, false, false, false, false, false, false].toArray rfl (by kernel_rfl) (by kernel_rfl) (by kernel_rfl) (fun _ _ _ _ h => h) rfl rfl rfl rfl hm (hS.sub (.cons (Mem.le.refl _) (.cons (Mem.no_le _) (.cons (Mem.no_le _) (.cons (Mem.no_le _) (.cons (Mem.no_le _) (.cons (Mem.no_le _) (.cons (Mem.no_le _) (.cons (Mem.le.refl _) (.cons (Mem.le.refl _) (.cons (Mem.no_le _) (.cons (Mem.no_le _) (.cons (Mem.no_le _) (.cons (Mem.le.refl _) (.cons (Mem.le.refl _) (.cons (Mem.le.refl _) (Sub.nil _))))))))))))))))) (v := v_148) (fun w hS => r_load hm rfl (hS.load_one (p := 12) rfl Try.underlying23 rfl rfl)) ?_
                    clear hm a; intro a hm
                    refine h_take 2 [true, true, true, false, false, false, false, false, false, false, false, false, false, false, false, false, false].toArray rfl (by kernel_rfl) (by kernel_rfl) (by kernel_rfl) (fun _ _ _ _ h => h) rfl rfl rfl rfl hm (hS.sub (.cons (Mem.le.refl _) (.cons (Mem.no_le _) (.cons (Mem.no_le _) (.cons (Mem.no_le _) (.cons (Mem.no_le _) (.cons (Mem.no_le _) (.cons (Mem.no_le _) (.cons (Mem.le.refl _) (.cons (Mem.le.refl _) (.cons (Mem.no_le _) (.cons (Mem.no_le _) (.cons (Mem.no_le _) (.cons (Mem.le.refl _) (.cons (Mem.le.refl _) (.cons (Mem.le.refl _) (Sub.nil _))))))))))))))))) (v := .int .i64 x_194) (fun w hS => r_move hm rfl) ?_
                    clear hm a; intro a hm
                    obtain ⟨t_202, et_202, H⟩ := Option.bind_eq_some_iff.1 H
                    refine h_takeE 3 [true, true, true, true, false, false, false, false, false, false, false, false, false, false, false, false, false].toArray rfl (by kernel_rfl) (by kernel_rfl) (by kernel_rfl) (fun _ _ _ _ h => h) rfl rfl rfl rfl hm (hS.sub (.cons (Mem.le.refl _) (.cons (Mem.no_le _) (.cons (Mem.no_le _) (.cons (Mem.no_le _) (.cons (Mem.no_le _) (.cons (Mem.no_le _) (.cons (Mem.no_le _) (.cons (Mem.le.refl _) (.cons (Mem.le.refl _) (.cons (Mem.no_le _) (.cons (Mem.no_le _) (.cons (Mem.no_le _) (.cons (Mem.le.refl _) (.cons (Mem.le.refl _) (.cons (Mem.le.refl _) (Sub.nil _))))))))))))))))) (f := fun ad => .pointer (some ad)) (r_indexO hm Try.underlying23 ti3 rfl rfl rfl ho_149 et_202) ?_
                    rintro ad_203 ⟨cs_204, hk_205, hc_206⟩
                    obtain rfl := (show cs_204 = [.int .i64 t_202] from hk_205)
                    clear hm a; intro a hm
                    refine h_take 4 [true, true, true, true, true, false, false, false, false, false, false, false, false, false, false, false, false].toArray rfl (by kernel_rfl) (by kernel_rfl) (by kernel_rfl) (fun _ _ _ _ h => h) rfl rfl rfl rfl hm (hS.sub (.cons (Mem.le.refl _) (.cons (Mem.no_le _) (.cons (Mem.no_le _) (.cons (Mem.no_le _) (.cons (Mem.no_le _) (.cons (Mem.no_le _) (.cons (Mem.no_le _) (.cons (Mem.le.refl _) (.cons (Mem.le.refl _) (.cons (Mem.no_le _) (.cons (Mem.no_le _) (.cons (Mem.no_le _) (.cons (Mem.le.refl _) (.cons (Mem.le.refl _) (.cons (Mem.le.refl _) (Sub.nil _))))))))))))))))) (v := .int .i64 t_202) (fun w hS => r_load hm rfl (el_one (o := 0) (fun j c h => Mem.cell_le (hS.own 14) (hc_206 j c h)) Try.underlying3 rfl rfl)) ?_
                    clear hm a; intro a hm
                    refine h_take 5 [true, true, true, true, true, true, false, false, false, false, false, false, false, false, false, false, false].toArray rfl (by kernel_rfl) (by kernel_rfl) (by kernel_rfl) (fun _ _ _ _ h => h) rfl rfl rfl rfl hm (hS.sub (.cons (Mem.le.refl _) (.cons (Mem.no_le _) (.cons (Mem.no_le _) (.cons (Mem.no_le _) (.cons (Mem.no_le _) (.cons (Mem.no_le _) (.cons (Mem.no_le _) (.cons (Mem.le.refl _) (.cons (Mem.le.refl _) (.cons (Mem.no_le _) (.cons (Mem.no_le _) (.cons (Mem.no_le _) (.cons (Mem.le.refl _) (.cons (Mem.le.refl _) (.cons (Mem.le.refl _) (Sub.nil _))))))))))))))))) (v := .int .i64 x_178) (fun w hS => r_move hm rfl) ?_
                    clear hm a; intro a hm
                    refine h_take 6 [true, true, true, true, true, true, true, false, false, false, false, false, false, false, false, false, false].toArray rfl (by kernel_rfl) (by kernel_rfl) (by kernel_rfl) (fun _ _ _ _ h => h) rfl rfl rfl rfl hm (hS.sub (.cons (Mem.le.refl _) (.cons (Mem.no_le _) (.cons (Mem.no_le _) (.cons (Mem.no_le _) (.cons (Mem.no_le _) (.cons (Mem.no_le _) (.cons (Mem.no_le _) (.cons (Mem.le.refl _) (.cons (Mem.le.refl _) (.cons (Mem.no_le _) (.cons (Mem.no_le _) (.cons (Mem.no_le _) (.cons (Mem.le.refl _) (.cons (Mem.le.refl _) (.cons (Mem.le.refl _) (Sub.nil _))))))))))))))))) (v := .bool (decide (t_202 ≤ x_178))) (fun w hS => r_cmp (b := decide (t_202 ≤ x_178)) hm rfl rfl (.inr (.inr (.inr (.inl ⟨rfl, rfl⟩))))) ?_
                    clear hm a; intro a hm
                    refine h_take 7 [true, true, true, true, true, true, true, true, false, false, false, false, false, false, false, false, false].toArray rfl (by kernel_rfl) (by kernel_rfl) (by kernel_rfl) (fun _ _ _ _ h => h) rfl rfl rfl rfl hm (hS.sub (.cons (Mem.le.refl _) (.cons (Mem.no_le _) (.cons (Mem.no_le _) (.cons (Mem.no_le _) (.cons (Mem.no_le _) (.cons (Mem.no_le _) (.cons (Mem.no_le _) (.cons (Mem.le.refl _) (.cons (Mem.le.refl _) (.cons (Mem.no_le _) (.cons (Mem.no_le _) (.cons (Mem.no_le _) (.cons (Mem.le.refl _) (.cons (Mem.le.refl _) (.cons (Mem.le.refl _) (Sub.nil _))))))))))))))))) (v := .bool (decide (t_202 ≤ x_178))) (fun w hS => r_move hm rfl) ?_
                    clear hm a; intro a hm
                    by_cases hc_207 : t_202 ≤ x_178
                    · rw [if_pos hc_207] at H
                      cases H
                    · rw [if_neg hc_207] at H
                      refine h_take_on 8 [true, true, true, true, true, true, true, true, true, false, false, false, false, false, false, false, false].toArray rfl (by kernel_rfl) (by kernel_rfl) (by kernel_rfl) (fun _ _ _ _ h => h) rfl rfl rfl rfl (decide_eq_false hc_207) rfl rfl hm (hS.sub (.cons (Mem.le.refl _) (.cons (Mem.no_le _) (.cons (Mem.no_le _) (.cons (Mem.no_le _) (.cons (Mem.no_le _) (.cons (Mem.no_le _) (.cons (Mem.no_le _) (.cons (Mem.le.refl _) (.cons (Mem.le.refl _) (.cons (Mem.no_le _) (.cons (Mem.no_le _) (.cons (Mem.no_le _) (.cons (Mem.le.refl _) (.cons (Mem.le.refl _) (.cons (Mem.le.refl _) (Sub.nil _))))))))))))))))) (v := .pointer (some ⟨g_138, 15, none⟩)) (fun w hS => r_fieldAddr hm Try.underlying29 rfl ti23 rfl rfl rfl) ?_
                      clear hm a; intro a hm
                      refine h_take_on 9 [true, true, true, true, true, true, true, true, true, true, false, false, false, false, false, false, false].toArray rfl (by kernel_rfl) (by kernel_rfl) (by kernel_rfl) (fun _ _ _ _ h => h) rfl rfl rfl rfl (decide_eq_false hc_207) rfl rfl hm (hS.sub (.cons (Mem.le.refl _) (.cons (Mem.no_le _) (.cons (Mem.no_le _) (.cons (Mem.no_le _) (.cons (Mem.no_le _) (.cons (Mem.no_le _) (.cons (Mem.no_le _) (.cons (Mem.le.refl _) (.cons (Mem.le.refl _) (.cons (Mem.no_le _) (.cons (Mem.no_le _) (.cons (Mem.no_le _) (.cons (Mem.le.refl _) (.cons (Mem.le.refl _) (.cons (Mem.le.refl _) (Sub.nil _))))))))))))))))) (v := v_148) (fun w hS => r_load hm rfl (hS.load_one (p := 12) rfl Try.underlying23 rfl rfl)) ?_
                      clear hm a; intro a hm
                      refine h_take_on 10 [true, true, true, true, true, true, true, true, true, true, true, false, false, false, false, false, false].toArray rfl (by kernel_rfl) (by kernel_rfl) (by kernel_rfl) (fun _ _ _ _ h => h) rfl rfl rfl rfl (decide_eq_false hc_207) rfl rfl hm (hS.sub (.cons (Mem.le.refl _) (.cons (Mem.no_le _) (.cons (Mem.no_le _) (.cons (Mem.no_le _) (.cons (Mem.no_le _) (.cons (Mem.no_le _) (.cons (Mem.no_le _) (.cons (Mem.le.refl _) (.cons (Mem.le.refl _) (.cons (Mem.no_le _) (.cons (Mem.no_le _) (.cons (Mem.no_le _) (.cons (Mem.le.refl _) (.cons (Mem.le.refl _) (.cons (Mem.le.refl _) (Sub.nil _))))))))))))))))) (v := .int .i64 x_194) (fun w hS => r_move hm rfl) ?_
                      clear hm a; intro a hm
                      obtain ⟨t_208, et_208, H⟩ := Option.bind_eq_some_iff.1 H
                      refine h_takeE_on 11 [true, true, true, true, true, true, true, true, true, true, true, true, false, false, false, false, false].toArray rfl (by kernel_rfl) (by kernel_rfl) (by kernel_rfl) (fun _ _ _ _ h => h) rfl rfl rfl rfl (decide_eq_false hc_207) rfl rfl hm (hS.sub (.cons (Mem.le.refl _) (.cons (Mem.no_le _) (.cons (Mem.no_le _) (.cons (Mem.no_le _) (.cons (Mem.no_le _) (.cons (Mem.no_le _) (.cons (Mem.no_le _) (.cons (Mem.le.refl _) (.cons (Mem.le.refl _) (.cons (Mem.no_le _) (.cons (Mem.no_le _) (.cons (Mem.no_le _) (.cons (Mem.le.refl _) (.cons (Mem.le.refl _) (.cons (Mem.le.refl _) (Sub.nil _))))))))))))))))) (f := fun ad => .pointer (some ad)) (r_indexO hm Try.underlying23 ti3 rfl rfl rfl ho_149 et_208) ?_
                      rintro ad_209 ⟨cs_210, hk_211, hc_212⟩
                      obtain rfl := (show cs_210 = [.int .i64 t_208] from hk_211)
                      clear hm a; intro a hm
                      refine h_take_on 12 [true, true, true, true, true, true, true, true, true, true, true, true, true, false, false, false, false].toArray rfl (by kernel_rfl) (by kernel_rfl) (by kernel_rfl) (fun _ _ _ _ h => h) rfl rfl rfl rfl (decide_eq_false hc_207) rfl rfl hm (hS.sub (.cons (Mem.le.refl _) (.cons (Mem.no_le _) (.cons (Mem.no_le _) (.cons (Mem.no_le _) (.cons (Mem.no_le _) (.cons (Mem.no_le _) (.cons (Mem.no_le _) (.cons (Mem.le.refl _) (.cons (Mem.le.refl _) (.cons (Mem.no_le _) (.cons (Mem.no_le _) (.cons (Mem.no_le _) (.cons (Mem.le.refl _) (.cons (Mem.le.refl _) (.cons (Mem.le.refl _) (Sub.nil _))))))))))))))))) (v := .int .i64 t_208) (fun w hS => r_load hm rfl (el_one (o := 0) (fun j c h => Mem.cell_le (hS.own 14) (hc_212 j c h)) Try.underlying3 rfl rfl)) ?_
                      clear hm a; intro a hm
                      refine h_take_on 13 [true, true, true, true, true, true, true, true, true, true, true, true, true, true, false, false, false].toArray rfl (by kernel_rfl) (by kernel_rfl) (by kernel_rfl) (fun _ _ _ _ h => h) rfl rfl rfl rfl (decide_eq_false hc_207) rfl rfl hm (hS.sub (.cons (Mem.le.refl _) (.cons (Mem.no_le _) (.cons (Mem.no_le _) (.cons (Mem.no_le _) (.cons (Mem.no_le _) (.cons (Mem.no_le _) (.cons (Mem.no_le _) (.cons (Mem.le.refl _) (.cons (Mem.le.refl _) (.cons (Mem.no_le _) (.cons (Mem.no_le _) (.cons (Mem.no_le _) (.cons (Mem.le.refl _) (.cons (Mem.le.refl _) (.cons (Mem.le.refl _) (Sub.nil _))))))))))))))))) (v := .pointer (some ⟨g_138, 13, none⟩)) (fun w hS => r_fieldAddr hm Try.underlying29 rfl ti3 rfl rfl rfl) ?_
                      clear hm a; intro a hm
                      refine h_take_on 14 [true, true, true, true, true, true, true, true, true, true, true, true, true, true, true, false, false].toArray rfl (by kernel_rfl) (by kernel_rfl) (by kernel_rfl) (fun _ _ _ _ h => h) rfl rfl rfl rfl (decide_eq_false hc_207) rfl rfl hm (hS.sub (.cons (Mem.le.refl _) (.cons (Mem.no_le _) (.cons (Mem.no_le _) (.cons (Mem.no_le _) (.cons (Mem.no_le _) (.cons (Mem.no_le _) (.cons (Mem.no_le _) (.cons (Mem.le.refl _) (.cons (Mem.le.refl _) (.cons (Mem.no_le _) (.cons (Mem.no_le _) (.cons (Mem.no_le _) (.cons (Mem.le.refl _) (.cons (Mem.le.refl _) (.cons (Mem.le.refl _) (Sub.nil _))))))))))))))))) (v := .int .i64 x_139.Seq) (fun w hS => r_load hm rfl (hS.load_one (p := 12) rfl Try.underlying3 rfl rfl)) ?_
                      clear hm a; intro a hm
                      refine h_take_on 15 [true, true, true, true, true, true, true, true, true, true, true, true, true, true, true, true, false].toArray rfl (by kernel_rfl) (by kernel_rfl) (by kernel_rfl) (fun _ _ _ _ h => h) rfl rfl rfl rfl (decide_eq_false hc_207) rfl rfl hm (hS.sub (.cons (Mem.le.refl _) (.cons (Mem.no_le _) (.cons (Mem.no_le _) (.cons (Mem.no_le _) (.cons (Mem.no_le _) (.cons (Mem.no_le _) (.cons (Mem.no_le _) (.cons (Mem.le.refl _) (.cons (Mem.le.refl _) (.cons (Mem.no_le _) (.cons (Mem.no_le _) (.cons (Mem.no_le _) (.cons (Mem.le.refl _) (.cons (Mem.le.refl _) (.cons (Mem.le.refl _) (Sub.nil _))))))))))))))))) (v := .bool (decide (t_208 > x_139.Seq))) (fun w hS => r_cmp (b := decide (t_208 > x_139.Seq)) hm rfl rfl (.inr (.inr (.inr (.inr (.inl ⟨rfl, rfl⟩)))))) ?_
                      clear hm a; intro a hm
                      refine h_take 16 [true, true, true, true, true, true, true, true, true, true, true, true, true, true, true, true, true].toArray rfl (by kernel_rfl) (by kernel_rfl) (by kernel_rfl) (fun _ _ _ _ h => h) rfl rfl rfl rfl hm (hS.sub (.cons (Mem.le.refl _) (.cons (Mem.no_le _) (.cons (Mem.no_le _) (.cons (Mem.no_le _) (.cons (Mem.no_le _) (.cons (Mem.no_le _) (.cons (Mem.no_le _) (.cons (Mem.le.refl _) (.cons (Mem.le.refl _) (.cons (Mem.no_le _) (.cons (Mem.no_le _) (.cons (Mem.no_le _) (.cons (Mem.le.refl _) (.cons (Mem.le.refl _) (.cons (Mem.le.refl _) (Sub.nil _))))))))))))))))) (v := .bool (decide (t_208 > x_139.Seq))) (fun w hS => r_pick_f hm rfl (decide_eq_false hc_207) rfl) ?_
                      clear hm a; intro a hm
                      refine h_done (by kernel_rfl) ?_
                      replace hm : Fr 215 a [(0, .int .i64 (w64 ((Int.tmod (band .i64 x0 255) 7) + 1))), (1, p1_0), (6, .bool false), (7, .pointer (some ⟨g_30, 0, none⟩)), (8, v_59), (10, .int .i64 x_61), (11, .int .i64 x_62), (18, .pointer (some ⟨g_138, 0, none⟩)), (20, .int .i64 x_178), (190, .int .i64 (x_139.Need.length : Int)), (191, .int .i64 x_194), (210, .bool (decide (t_208 > x_139.Seq)))] := hm.keep [0, 1, 6, 7, 8, 10, 11, 18, 20, 190, 191, 210]
                      refine x_then_n (hKJ_200 _ _ ?_)
                      by_cases hc_213 : t_208 > x_139.Seq
                      · rw [if_pos hc_213] at H
                        cases H
                      · rw [if_neg hc_213] at H
                        refine c_cond_f hm rfl (decide_eq_false hc_213) ?_
                        refine wp_skip ?_
                        refine x_block_n ?_
                        refine x_then_n (hKJ_199 _ _ ?_)
                        refine wp_region_lit ?_
                        refine s_arith (r := w64 (x_194 + 1)) hm rfl rfl rfl (.inl ⟨rfl, rfl⟩) ?_
                        clear hm a; intro a hm
                        refine s_move hm rfl rfl ?_
                        clear hm a; intro a hm
                        refine wpList_nil ?_
                        replace hm : Fr 215 a [(0, .int .i64 (w64 ((Int.tmod (band .i64 x0 255) 7) + 1))), (1, p1_0), (6, .bool false), (7, .pointer (some ⟨g_30, 0, none⟩)), (8, v_59), (10, .int .i64 x_61), (11, .int .i64 x_62), (18, .pointer (some ⟨g_138, 0, none⟩)), (20, .int .i64 x_178), (190, .int .i64 (x_139.Need.length : Int)), (191, .int .i64 (w64 (x_194 + 1)))] := hm.keep [0, 1, 6, 7, 8, 10, 11, 18, 20, 190, 191]
                        refine x_then_n (hKL_195 _ _ ?_)
                        replace hS : Sep w0 w_201 [N_193, Mem.no, Mem.no, Mem.no, Mem.no, Mem.no, Mem.no, Mem.one g_30 (.cells ([.int .i64 x_156.Kind, .int .i64 x_156.From, .int .i64 x_156.To, .int .i64 x_156.View, .int .i64 x_156.Inst, .int .i64 x_156.Len, .bool x_156.Has, .int .i64 x_156.Members, .int .i64 x_156.Source, .int .i64 x_156.At, .int .i64 x_156.Total, v_157, .int .i64 x_156.Hop, .int .i64 x_156.Seq, v_159, v_161, .int .i64 x_156.Index, .int .i64 x_156.Entry.Sess, .int .i64 x_156.Entry.Seq, .int .i64 x_156.Entry.Cmd.Kind, .int .i64 x_156.Entry.Cmd.Who, v_163, v_165, v_167] : List Value).toArray 29 (0, 0)), M_120, Mem.no, Mem.no, Mem.no, Mem.one g_138 (.cells ([.int .i64 x_139.Kind, .int .i64 x_139.From, .int .i64 x_139.To, .int .i64 x_139.View, .int .i64 x_139.Inst, .int .i64 x_139.Len, .bool x_139.Has, .int .i64 x_139.Members, .int .i64 x_139.Source, .int .i64 x_139.At, .int .i64 x_139.Total, v_140, .int .i64 x_139.Hop, .int .i64 x_139.Seq, v_144, v_148, .int .i64 x_139.Index, .int .i64 x_139.Entry.Sess, .int .i64 x_139.Entry.Seq, .int .i64 x_139.Entry.Cmd.Kind, .int .i64 x_139.Entry.Cmd.Who, v_150, v_152, v_154] : List Value).toArray 29 (0, 0)), M_142, M_146] Z := hS
                        replace hm : Fr 215 a [(0, .int .i64 (w64 ((Int.tmod (band .i64 x0 255) 7) + 1))), (1, p1_0), (6, .bool false), (7, .pointer (some ⟨g_30, 0, none⟩)), (8, v_59), (10, .int .i64 x_61), (11, .int .i64 x_62), (18, .pointer (some ⟨g_138, 0, none⟩)), (20, .int .i64 x_178), (190, .int .i64 (x_139.Need.length : Int)), (191, .int .i64 (w64 (x_194 + 1)))] := hm.keep [0, 1, 6, 7, 8, 10, 11, 18, 20, 190, 191]
                        exact ⟨w64 (x_194 + 1), N_193, H, hm, (Sep.sel hS [0, 1000, 1001, 1002, 1003, 1004, 1005, 7, 8, 1008, 1009, 1010, 12, 13, 14] (by decide)), le_193⟩
                  · rw [if_neg hc_198] at H
                    refine c_cond_f hm rfl (decide_eq_false hc_198) ?_
                    refine wp_exit (x_then_x (x_then_x (x_block_t ?_)))
                    replace hS : Sep w0 w_195 [N_193, Mem.no, Mem.no, Mem.no, Mem.no, Mem.no, Mem.no, Mem.one g_30 (.cells ([.int .i64 x_156.Kind, .int .i64 x_156.From, .int .i64 x_156.To, .int .i64 x_156.View, .int .i64 x_156.Inst, .int .i64 x_156.Len, .bool x_156.Has, .int .i64 x_156.Members, .int .i64 x_156.Source, .int .i64 x_156.At, .int .i64 x_156.Total, v_157, .int .i64 x_156.Hop, .int .i64 x_156.Seq, v_159, v_161, .int .i64 x_156.Index, .int .i64 x_156.Entry.Sess, .int .i64 x_156.Entry.Seq, .int .i64 x_156.Entry.Cmd.Kind, .int .i64 x_156.Entry.Cmd.Who, v_163, v_165, v_167] : List Value).toArray 29 (0, 0)), M_120, Mem.no, Mem.no, Mem.no, Mem.one g_138 (.cells ([.int .i64 x_139.Kind, .int .i64 x_139.From, .int .i64 x_139.To, .int .i64 x_139.View, .int .i64 x_139.Inst, .int .i64 x_139.Len, .bool x_139.Has, .int .i64 x_139.Members, .int .i64 x_139.Source, .int .i64 x_139.At, .int .i64 x_139.Total, v_140, .int .i64 x_139.Hop, .int .i64 x_139.Seq, v_144, v_148, .int .i64 x_139.Index, .int .i64 x_139.Entry.Sess, .int .i64 x_139.Entry.Seq, .int .i64 x_139.Entry.Cmd.Kind, .int .i64 x_139.Entry.Cmd.Who, v_150, v_152, v_154] : List Value).toArray 29 (0, 0)), M_142, M_146] Z := hS
                    replace hm : Fr 215 a [(0, .int .i64 (w64 ((Int.tmod (band .i64 x0 255) 7) + 1))), (1, p1_0), (6, .bool false), (7, .pointer (some ⟨g_30, 0, none⟩)), (8, v_59), (10, .int .i64 x_61), (11, .int .i64 x_62), (18, .pointer (some ⟨g_138, 0, none⟩)), (20, .int .i64 x_178)] := hm.keep [0, 1, 6, 7, 8, 10, 11, 18, 20]
                    exact x_then_n (hJ_j_191  H _ _ ⟨N_193, hm, (Sep.sel hS [0, 1000, 1001, 1002, 1003, 1004, 1005, 7, 8, 1008, 1009, 1010, 12, 13, 14] (by decide)), le_193⟩)
              clear hKJ_182
              refine wp_region_lit ?_
              refine s_fieldAddr hm rfl Try.underlying29 rfl ti3 rfl rfl ?_
              clear hm a; intro a hm
              refine s_load hm rfl rfl (hS.load_one (p := 12) rfl Try.underlying3 rfl rfl) ?_
              clear hm a; intro a hm
              refine s_fieldAddr hm rfl Try.underlying29 rfl ti3 rfl rfl ?_
              clear hm a; intro a hm
              refine s_load hm rfl rfl (hS.load_one (p := 7) rfl Try.underlying3 rfl rfl) ?_
              clear hm a; intro a hm
              refine s_arith (r := w64 (x_156.Hop + 1)) hm rfl rfl rfl (.inl ⟨rfl, rfl⟩) ?_
              clear hm a; intro a hm
              refine s_cmp (b := (x_139.Hop != (w64 (x_156.Hop + 1)))) hm rfl rfl rfl (.inr (.inl ⟨rfl, rfl⟩)) ?_
              clear hm a; intro a hm
              refine s_move hm rfl rfl ?_
              clear hm a; intro a hm
              by_cases hc_214 : x_139.Hop = (w64 (x_156.Hop + 1))
              · rw [if_pos hc_214] at H
                refine s_on hm rfl rfl (bne_eq_false_iff_eq.2 hc_214) ?_
                refine s_fieldAddr hm rfl Try.underlying29 rfl ti3 rfl rfl ?_
                clear hm a; intro a hm
                refine s_on hm rfl rfl (bne_eq_false_iff_eq.2 hc_214) ?_
                refine s_load hm rfl rfl (hS.load_one (p := 12) rfl Try.underlying3 rfl rfl) ?_
                clear hm a; intro a hm
                refine s_on hm rfl rfl (bne_eq_false_iff_eq.2 hc_214) ?_
                refine s_move hm rfl rfl ?_
                clear hm a; intro a hm
                refine s_on hm rfl rfl (bne_eq_false_iff_eq.2 hc_214) ?_
                refine s_cmp (b := (x_139.Seq != (w64 (x_63.Seq + (mn (band .i64 t_98 7) t_94))))) hm rfl rfl rfl (.inr (.inl ⟨rfl, rfl⟩)) ?_
                clear hm a; intro a hm
                refine s_pick_f hm rfl rfl (bne_eq_false_iff_eq.2 hc_214) rfl ?_
                clear hm a; intro a hm
                refine s_move hm rfl rfl ?_
                clear hm a; intro a hm
                by_cases hc_215 : x_139.Seq = (w64 (x_63.Seq + (mn (band .i64 t_98 7) t_94)))
                · rw [if_pos hc_215] at H
                  refine s_on hm rfl rfl (bne_eq_false_iff_eq.2 hc_215) ?_
                  refine s_load hm rfl rfl (hS.load_agg (p := 12) (us := [.int .i64 x_139.Kind, .int .i64 x_139.From, .int .i64 x_139.To, .int .i64 x_139.View, .int .i64 x_139.Inst, .int .i64 x_139.Len, .bool x_139.Has, .int .i64 x_139.Members, .int .i64 x_139.Source, .int .i64 x_139.At, .int .i64 x_139.Total, v_140, .int .i64 x_139.Hop, .int .i64 x_139.Seq, v_144, v_148, .int .i64 x_139.Index, .int .i64 x_139.Entry.Sess, .int .i64 x_139.Entry.Seq, .int .i64 x_139.Entry.Cmd.Kind, .int .i64 x_139.Entry.Cmd.Who, v_150, v_152, v_154]) rfl Try.underlying29 rfl ti29 rfl rfl) ?_
                  clear hm a; intro a hm
                  refine s_on hm rfl rfl (bne_eq_false_iff_eq.2 hc_215) ?_
                  obtain ⟨t_216, et_216, H⟩ := Option.bind_eq_some_iff.1 H
                  refine s_call hm rfl Try.call35 rfl (tokn_Safe.calls K x_139 _ _ _ _ _ _ t_216 w0 _ _ _ (Mem.le.refl _) (hS.enter [] (by decide)) (hr_141.mono (le_177.trans (hS.new_zed []))) (ho_145.rd (hS.own_zed [] 12 (by decide)) (Mem.no_le _)) (ho_149.rd (hS.own_zed [] 13 (by decide)) (Mem.no_le _)) (hr_151.mono (le_177.trans (hS.new_zed []))) (hr_153.mono (le_177.trans (hS.new_zed []))) (hr_155.mono (le_177.trans (hS.new_zed []))) et_216) ?_
                  rintro _ w_217 ⟨N_218, rfl, hS'⟩
                  clear hm a; intro a hm
                  obtain ⟨N_219, hS'', le_219, ln_219⟩ := hS.call [] (by decide) rfl (l' := []) (ow := []) rfl hS'
                  replace hS : Sep w0 w_217 [N_219, Mem.no, Mem.no, Mem.no, Mem.no, Mem.no, Mem.no, Mem.one g_30 (.cells ([.int .i64 x_156.Kind, .int .i64 x_156.From, .int .i64 x_156.To, .int .i64 x_156.View, .int .i64 x_156.Inst, .int .i64 x_156.Len, .bool x_156.Has, .int .i64 x_156.Members, .int .i64 x_156.Source, .int .i64 x_156.At, .int .i64 x_156.Total, v_157, .int .i64 x_156.Hop, .int .i64 x_156.Seq, v_159, v_161, .int .i64 x_156.Index, .int .i64 x_156.Entry.Sess, .int .i64 x_156.Entry.Seq, .int .i64 x_156.Entry.Cmd.Kind, .int .i64 x_156.Entry.Cmd.Who, v_163, v_165, v_167] : List Value).toArray 29 (0, 0)), M_120, Mem.no, Mem.no, Mem.no, Mem.one g_138 (.cells ([.int .i64 x_139.Kind, .int .i64 x_139.From, .int .i64 x_139.To, .int .i64 x_139.View, .int .i64 x_139.Inst, .int .i64 x_139.Len, .bool x_139.Has, .int .i64 x_139.Members, .int .i64 x_139.Source, .int .i64 x_139.At, .int .i64 x_139.Total, v_140, .int .i64 x_139.Hop, .int .i64 x_139.Seq, v_144, v_148, .int .i64 x_139.Index, .int .i64 x_139.Entry.Sess, .int .i64 x_139.Entry.Seq, .int .i64 x_139.Entry.Cmd.Kind, .int .i64 x_139.Entry.Cmd.Who, v_150, v_152, v_154] : List Value).toArray 29 (0, 0)), M_142, M_146] Z := hS''
                  clear hS' hS''
                  refine s_on hm rfl rfl (bne_eq_false_iff_eq.2 hc_215) ?_
                  refine s_move hm rfl rfl ?_
                  clear hm a; intro a hm
                  refine s_on hm rfl rfl (bne_eq_false_iff_eq.2 hc_215) ?_
                  refine s_cmp (b := (t_216 != x_178)) hm rfl rfl rfl (.inr (.inl ⟨rfl, rfl⟩)) ?_
                  clear hm a; intro a hm
                  refine s_pick_f hm rfl rfl (bne_eq_false_iff_eq.2 hc_215) rfl ?_
                  clear hm a; intro a hm
                  refine s_move hm rfl rfl ?_
                  clear hm a; intro a hm
                  by_cases hc_220 : t_216 = x_178
                  · rw [if_pos hc_220] at H
                    refine s_on hm rfl rfl (bne_eq_false_iff_eq.2 hc_220) ?_
                    refine s_move hm rfl rfl ?_
                    clear hm a; intro a hm
                    refine s_on hm rfl rfl (bne_eq_false_iff_eq.2 hc_220) ?_
                    refine s_move hm rfl rfl ?_
                    clear hm a; intro a hm
                    refine s_on hm rfl rfl (bne_eq_false_iff_eq.2 hc_220) ?_
                    refine s_cmp (b := decide (x_178 < x_61)) hm rfl rfl rfl (.inr (.inr (.inl ⟨rfl, rfl⟩))) ?_
                    clear hm a; intro a hm
                    refine s_pick_f hm rfl rfl (bne_eq_false_iff_eq.2 hc_220) rfl ?_
                    clear hm a; intro a hm
                    refine s_move hm rfl rfl ?_
                    clear hm a; intro a hm
                    by_cases hc_221 : x_178 < x_61
                    · rw [if_pos hc_221] at H
                      refine s_off hm rfl rfl rfl (decide_eq_true hc_221) ?_
                      clear hm a; intro a hm
                      refine s_off hm rfl rfl rfl (decide_eq_true hc_221) ?_
                      clear hm a; intro a hm
                      refine s_off hm rfl rfl rfl (decide_eq_true hc_221) ?_
                      clear hm a; intro a hm
                      refine s_off hm rfl rfl rfl (decide_eq_true hc_221) ?_
                      clear hm a; intro a hm
                      refine s_off hm rfl rfl rfl (decide_eq_true hc_221) ?_
                      clear hm a; intro a hm
                      refine s_off hm rfl rfl rfl (decide_eq_true hc_221) ?_
                      clear hm a; intro a hm
                      refine s_offu hm rfl rfl rfl ?_
                      clear hm a; intro a hm
                      refine s_offu hm rfl rfl rfl ?_
                      clear hm a; intro a hm
                      refine s_offu hm rfl rfl rfl ?_
                      clear hm a; intro a hm
                      refine s_offu hm rfl rfl rfl ?_
                      clear hm a; intro a hm
                      refine s_offu hm rfl rfl rfl ?_
                      clear hm a; intro a hm
                      refine s_off hm rfl rfl rfl (decide_eq_true hc_221) ?_
                      clear hm a; intro a hm
                      refine s_pick_t hm rfl rfl (decide_eq_true hc_221) rfl ?_
                      clear hm a; intro a hm
                      refine s_move hm rfl rfl ?_
                      clear hm a; intro a hm
                      refine s_off hm rfl rfl rfl rfl ?_
                      clear hm a; intro a hm
                      refine s_off hm rfl rfl rfl rfl ?_
                      clear hm a; intro a hm
                      refine s_off hm rfl rfl rfl rfl ?_
                      clear hm a; intro a hm
                      refine s_off hm rfl rfl rfl rfl ?_
                      clear hm a; intro a hm
                      refine s_pick_t hm rfl rfl rfl rfl ?_
                      clear hm a; intro a hm
                      refine s_move hm rfl rfl ?_
                      clear hm a; intro a hm
                      refine s_off hm rfl rfl rfl rfl ?_
                      clear hm a; intro a hm
                      refine s_off hm rfl rfl rfl rfl ?_
                      clear hm a; intro a hm
                      refine s_off hm rfl rfl rfl rfl ?_
                      clear hm a; intro a hm
                      refine s_off hm rfl rfl rfl rfl ?_
                      clear hm a; intro a hm
                      refine s_off hm rfl rfl rfl rfl ?_
                      clear hm a; intro a hm
                      refine s_pick_t hm rfl rfl rfl rfl ?_
                      clear hm a; intro a hm
                      refine wpList_nil ?_
                      replace hm : Fr 215 a [(0, .int .i64 (w64 ((Int.tmod (band .i64 x0 255) 7) + 1))), (1, p1_0), (6, .bool false), (7, .pointer (some ⟨g_30, 0, none⟩)), (8, v_59), (10, .int .i64 x_61), (11, .int .i64 x_62), (18, .pointer (some ⟨g_138, 0, none⟩)), (20, .int .i64 x_178), (187, .bool true)] := hm.keep [0, 1, 6, 7, 8, 10, 11, 18, 20, 187]
                      replace hS : Sep w0 w_217 [N_219, Mem.no, Mem.no, Mem.no, Mem.no, Mem.no, Mem.no, Mem.one g_30 (.cells ([.int .i64 x_156.Kind, .int .i64 x_156.From, .int .i64 x_156.To, .int .i64 x_156.View, .int .i64 x_156.Inst, .int .i64 x_156.Len, .bool x_156.Has, .int .i64 x_156.Members, .int .i64 x_156.Source, .int .i64 x_156.At, .int .i64 x_156.Total, v_157, .int .i64 x_156.Hop, .int .i64 x_156.Seq, v_159, v_161, .int .i64 x_156.Index, .int .i64 x_156.Entry.Sess, .int .i64 x_156.Entry.Seq, .int .i64 x_156.Entry.Cmd.Kind, .int .i64 x_156.Entry.Cmd.Who, v_163, v_165, v_167] : List Value).toArray 29 (0, 0)), M_120, Mem.no, Mem.no, Mem.no, Mem.one g_138 (.cells ([.int .i64 x_139.Kind, .int .i64 x_139.From, .int .i64 x_139.To, .int .i64 x_139.View, .int .i64 x_139.Inst, .int .i64 x_139.Len, .bool x_139.Has, .int .i64 x_139.Members, .int .i64 x_139.Source, .int .i64 x_139.At, .int .i64 x_139.Total, v_140, .int .i64 x_139.Hop, .int .i64 x_139.Seq, v_144, v_148, .int .i64 x_139.Index, .int .i64 x_139.Entry.Sess, .int .i64 x_139.Entry.Seq, .int .i64 x_139.Entry.Cmd.Kind, .int .i64 x_139.Entry.Cmd.Who, v_150, v_152, v_154] : List Value).toArray 29 (0, 0)), M_142, M_146] Z := hS
                      replace hm : Fr 215 a [(0, .int .i64 (w64 ((Int.tmod (band .i64 x0 255) 7) + 1))), (1, p1_0), (6, .bool false), (7, .pointer (some ⟨g_30, 0, none⟩)), (8, v_59), (10, .int .i64 x_61), (11, .int .i64 x_62), (18, .pointer (some ⟨g_138, 0, none⟩)), (20, .int .i64 x_178), (187, .bool true)] := hm.keep [0, 1, 6, 7, 8, 10, 11, 18, 20, 187]
                      exact x_then_n (hJ_j_186 true H _ _ ⟨N_219, hm, (Sep.sel hS [0, 1000, 1001, 1002, 1003, 1004, 1005, 7, 8, 1008, 1009, 1010, 12, 13, 14] (by decide)), le_219⟩)
                    · rw [if_neg hc_221] at H
                      refine s_on hm rfl rfl (decide_eq_false hc_221) ?_
                      refine s_fieldAddr hm rfl Try.underlying29 rfl ti3 rfl rfl ?_
                      clear hm a; intro a hm
                      refine s_on hm rfl rfl (decide_eq_false hc_221) ?_
                      refine s_load hm rfl rfl (hS.load_one (p := 12) rfl Try.underlying3 rfl rfl) ?_
                      clear hm a; intro a hm
                      refine s_on hm rfl rfl (decide_eq_false hc_221) ?_
                      refine s_move hm rfl rfl ?_
                      clear hm a; intro a hm
                      refine s_on hm rfl rfl (decide_eq_false hc_221) ?_
                      refine s_arith (r := w64 (x_178 + 16)) hm rfl rfl rfl (.inl ⟨rfl, rfl⟩) ?_
                      clear hm a; intro a hm
                      refine s_on hm rfl rfl (decide_eq_false hc_221) ?_
                      refine s_cmp (b := decide (x_139.Seq > (w64 (x_178 + 16)))) hm rfl rfl rfl (.inr (.inr (.inr (.inr (.inl ⟨rfl, rfl⟩))))) ?_
                      clear hm a; intro a hm
                      refine s_on hm rfl rfl (decide_eq_false hc_221) ?_
                      refine s_move hm rfl rfl ?_
                      clear hm a; intro a hm
                      by_cases hc_222 : x_139.Seq > (w64 (x_178 + 16))
                      · rw [if_pos hc_222] at H
                        refine s_on hm rfl rfl (decide_eq_true hc_222) ?_
                        refine s_fieldAddr hm rfl Try.underlying29 rfl ti3 rfl rfl ?_
                        clear hm a; intro a hm
                        refine s_on hm rfl rfl (decide_eq_true hc_222) ?_
                        refine s_load hm rfl rfl (hS.load_one (p := 12) rfl Try.underlying3 rfl rfl) ?_
                        clear hm a; intro a hm
                        refine s_on hm rfl rfl (decide_eq_true hc_222) ?_
                        refine s_fieldAddr hm rfl Try.underlying29 rfl ti3 rfl rfl ?_
                        clear hm a; intro a hm
                        refine s_on hm rfl rfl (decide_eq_true hc_222) ?_
                        refine s_load hm rfl rfl (hS.load_one (p := 7) rfl Try.underlying3 rfl rfl) ?_
                        clear hm a; intro a hm
                        refine s_on hm rfl rfl (decide_eq_true hc_222) ?_
                        refine s_cmp (b := decide (x_139.Seq > x_156.Seq)) hm rfl rfl rfl (.inr (.inr (.inr (.inr (.inl ⟨rfl, rfl⟩))))) ?_
                        clear hm a; intro a hm
                        refine s_on hm rfl rfl (decide_eq_false hc_221) ?_
                        refine s_pick_t hm rfl rfl (decide_eq_true hc_222) rfl ?_
                        clear hm a; intro a hm
                        refine s_pick_f hm rfl rfl (decide_eq_false hc_221) rfl ?_
                        clear hm a; intro a hm
                        refine s_move hm rfl rfl ?_
                        clear hm a; intro a hm
                        by_cases hc_223 : x_139.Seq > x_156.Seq
                        · rw [if_pos hc_223] at H
                          refine s_off hm rfl rfl rfl (decide_eq_true hc_223) ?_
                          clear hm a; intro a hm
                          refine s_off hm rfl rfl rfl (decide_eq_true hc_223) ?_
                          clear hm a; intro a hm
                          refine s_off hm rfl rfl rfl (decide_eq_true hc_223) ?_
                          clear hm a; intro a hm
                          refine s_off hm rfl rfl rfl (decide_eq_true hc_223) ?_
                          clear hm a; intro a hm
                          refine s_pick_t hm rfl rfl (decide_eq_true hc_223) rfl ?_
                          clear hm a; intro a hm
                          refine s_move hm rfl rfl ?_
                          clear hm a; intro a hm
                          refine s_off hm rfl rfl rfl rfl ?_
                          clear hm a; intro a hm
                          refine s_off hm rfl rfl rfl rfl ?_
                          clear hm a; intro a hm
                          refine s_off hm rfl rfl rfl rfl ?_
                          clear hm a; intro a hm
                          refine s_off hm rfl rfl rfl rfl ?_
                          clear hm a; intro a hm
                          refine s_off hm rfl rfl rfl rfl ?_
                          clear hm a; intro a hm
                          refine s_pick_t hm rfl rfl rfl rfl ?_
                          clear hm a; intro a hm
                          refine wpList_nil ?_
                          replace hm : Fr 215 a [(0, .int .i64 (w64 ((Int.tmod (band .i64 x0 255) 7) + 1))), (1, p1_0), (6, .bool false), (7, .pointer (some ⟨g_30, 0, none⟩)), (8, v_59), (10, .int .i64 x_61), (11, .int .i64 x_62), (18, .pointer (some ⟨g_138, 0, none⟩)), (20, .int .i64 x_178), (187, .bool true)] := hm.keep [0, 1, 6, 7, 8, 10, 11, 18, 20, 187]
                          replace hS : Sep w0 w_217 [N_219, Mem.no, Mem.no, Mem.no, Mem.no, Mem.no, Mem.no, Mem.one g_30 (.cells ([.int .i64 x_156.Kind, .int .i64 x_156.From, .int .i64 x_156.To, .int .i64 x_156.View, .int .i64 x_156.Inst, .int .i64 x_156.Len, .bool x_156.Has, .int .i64 x_156.Members, .int .i64 x_156.Source, .int .i64 x_156.At, .int .i64 x_156.Total, v_157, .int .i64 x_156.Hop, .int .i64 x_156.Seq, v_159, v_161, .int .i64 x_156.Index, .int .i64 x_156.Entry.Sess, .int .i64 x_156.Entry.Seq, .int .i64 x_156.Entry.Cmd.Kind, .int .i64 x_156.Entry.Cmd.Who, v_163, v_165, v_167] : List Value).toArray 29 (0, 0)), M_120, Mem.no, Mem.no, Mem.no, Mem.one g_138 (.cells ([.int .i64 x_139.Kind, .int .i64 x_139.From, .int .i64 x_139.To, .int .i64 x_139.View, .int .i64 x_139.Inst, .int .i64 x_139.Len, .bool x_139.Has, .int .i64 x_139.Members, .int .i64 x_139.Source, .int .i64 x_139.At, .int .i64 x_139.Total, v_140, .int .i64 x_139.Hop, .int .i64 x_139.Seq, v_144, v_148, .int .i64 x_139.Index, .int .i64 x_139.Entry.Sess, .int .i64 x_139.Entry.Seq, .int .i64 x_139.Entry.Cmd.Kind, .int .i64 x_139.Entry.Cmd.Who, v_150, v_152, v_154] : List Value).toArray 29 (0, 0)), M_142, M_146] Z := hS
                          replace hm : Fr 215 a [(0, .int .i64 (w64 ((Int.tmod (band .i64 x0 255) 7) + 1))), (1, p1_0), (6, .bool false), (7, .pointer (some ⟨g_30, 0, none⟩)), (8, v_59), (10, .int .i64 x_61), (11, .int .i64 x_62), (18, .pointer (some ⟨g_138, 0, none⟩)), (20, .int .i64 x_178), (187, .bool true)] := hm.keep [0, 1, 6, 7, 8, 10, 11, 18, 20, 187]
                          exact x_then_n (hJ_j_186 true H _ _ ⟨N_219, hm, (Sep.sel hS [0, 1000, 1001, 1002, 1003, 1004, 1005, 7, 8, 1008, 1009, 1010, 12, 13, 14] (by decide)), le_219⟩)
                        · rw [if_neg hc_223] at H
                          refine s_on hm rfl rfl (decide_eq_false hc_223) ?_
                          refine s_fieldAddr hm rfl Try.underlying29 rfl ti23 rfl rfl ?_
                          clear hm a; intro a hm
                          refine s_on hm rfl rfl (decide_eq_false hc_223) ?_
                          refine s_load hm rfl rfl (hS.load_one (p := 12) rfl Try.underlying23 rfl rfl) ?_
                          clear hm a; intro a hm
                          refine s_on hm rfl rfl (decide_eq_false hc_223) ?_
                          refine s_lenO hm rfl Try.underlying23 rfl ho_149 ?_
                          clear hm a; intro a hm
                          refine s_on hm rfl rfl (decide_eq_false hc_223) ?_
                          refine s_cmp (b := decide ((x_139.Need.length : Int) > 8)) hm rfl rfl rfl (.inr (.inr (.inr (.inr (.inl ⟨rfl, rfl⟩))))) ?_
                          clear hm a; intro a hm
                          refine s_pick_f hm rfl rfl (decide_eq_false hc_223) rfl ?_
                          clear hm a; intro a hm
                          refine s_move hm rfl rfl ?_
                          clear hm a; intro a hm
                          by_cases hc_224 : (x_139.Need.length : Int) > 8
                          · rw [if_pos hc_224] at H
                            refine s_off hm rfl rfl rfl (decide_eq_true hc_224) ?_
                            clear hm a; intro a hm
                            refine s_off hm rfl rfl rfl (decide_eq_true hc_224) ?_
                            clear hm a; intro a hm
                            refine s_off hm rfl rfl rfl (decide_eq_true hc_224) ?_
                            clear hm a; intro a hm
                            refine s_off hm rfl rfl rfl (decide_eq_true hc_224) ?_
                            clear hm a; intro a hm
                            refine s_off hm rfl rfl rfl (decide_eq_true hc_224) ?_
                            clear hm a; intro a hm
                            refine s_pick_t hm rfl rfl (decide_eq_true hc_224) rfl ?_
                            clear hm a; intro a hm
                            refine wpList_nil ?_
                            replace hm : Fr 215 a [(0, .int .i64 (w64 ((Int.tmod (band .i64 x0 255) 7) + 1))), (1, p1_0), (6, .bool false), (7, .pointer (some ⟨g_30, 0, none⟩)), (8, v_59), (10, .int .i64 x_61), (11, .int .i64 x_62), (18, .pointer (some ⟨g_138, 0, none⟩)), (20, .int .i64 x_178), (187, .bool true)] := hm.keep [0, 1, 6, 7, 8, 10, 11, 18, 20, 187]
                            replace hS : Sep w0 w_217 [N_219, Mem.no, Mem.no, Mem.no, Mem.no, Mem.no, Mem.no, Mem.one g_30 (.cells ([.int .i64 x_156.Kind, .int .i64 x_156.From, .int .i64 x_156.To, .int .i64 x_156.View, .int .i64 x_156.Inst, .int .i64 x_156.Len, .bool x_156.Has, .int .i64 x_156.Members, .int .i64 x_156.Source, .int .i64 x_156.At, .int .i64 x_156.Total, v_157, .int .i64 x_156.Hop, .int .i64 x_156.Seq, v_159, v_161, .int .i64 x_156.Index, .int .i64 x_156.Entry.Sess, .int .i64 x_156.Entry.Seq, .int .i64 x_156.Entry.Cmd.Kind, .int .i64 x_156.Entry.Cmd.Who, v_163, v_165, v_167] : List Value).toArray 29 (0, 0)), M_120, Mem.no, Mem.no, Mem.no, Mem.one g_138 (.cells ([.int .i64 x_139.Kind, .int .i64 x_139.From, .int .i64 x_139.To, .int .i64 x_139.View, .int .i64 x_139.Inst, .int .i64 x_139.Len, .bool x_139.Has, .int .i64 x_139.Members, .int .i64 x_139.Source, .int .i64 x_139.At, .int .i64 x_139.Total, v_140, .int .i64 x_139.Hop, .int .i64 x_139.Seq, v_144, v_148, .int .i64 x_139.Index, .int .i64 x_139.Entry.Sess, .int .i64 x_139.Entry.Seq, .int .i64 x_139.Entry.Cmd.Kind, .int .i64 x_139.Entry.Cmd.Who, v_150, v_152, v_154] : List Value).toArray 29 (0, 0)), M_142, M_146] Z := hS
                            replace hm : Fr 215 a [(0, .int .i64 (w64 ((Int.tmod (band .i64 x0 255) 7) + 1))), (1, p1_0), (6, .bool false), (7, .pointer (some ⟨g_30, 0, none⟩)), (8, v_59), (10, .int .i64 x_61), (11, .int .i64 x_62), (18, .pointer (some ⟨g_138, 0, none⟩)), (20, .int .i64 x_178), (187, .bool true)] := hm.keep [0, 1, 6, 7, 8, 10, 11, 18, 20, 187]
                            exact x_then_n (hJ_j_186 true H _ _ ⟨N_219, hm, (Sep.sel hS [0, 1000, 1001, 1002, 1003, 1004, 1005, 7, 8, 1008, 1009, 1010, 12, 13, 14] (by decide)), le_219⟩)
                          · rw [if_neg hc_224] at H
                            refine s_on hm rfl rfl (decide_eq_false hc_224) ?_
                            refine s_fieldAddr hm rfl Try.underlying29 rfl ti23 rfl rfl ?_
                            clear hm a; intro a hm
                            refine s_on hm rfl rfl (decide_eq_false hc_224) ?_
                            refine s_load hm rfl rfl (hS.load_one (p := 12) rfl Try.underlying23 rfl rfl) ?_
                            clear hm a; intro a hm
                            refine s_on hm rfl rfl (decide_eq_false hc_224) ?_
                            refine s_lenO hm rfl Try.underlying23 rfl ho_145 ?_
                            clear hm a; intro a hm
                            refine s_on hm rfl rfl (decide_eq_false hc_224) ?_
                            refine s_move hm rfl rfl ?_
                            clear hm a; intro a hm
                            refine s_on hm rfl rfl (decide_eq_false hc_224) ?_
                            refine s_cmp (b := ((x_139.Have.length : Int) != (w64 ((Int.tmod (band .i64 x0 255) 7) + 1)))) hm rfl rfl rfl (.inr (.inl ⟨rfl, rfl⟩)) ?_
                            clear hm a; intro a hm
                            refine s_pick_f hm rfl rfl (decide_eq_false hc_224) rfl ?_
                            clear hm a; intro a hm
                            refine wpList_nil ?_
                            replace hm : Fr 215 a [(0, .int .i64 (w64 ((Int.tmod (band .i64 x0 255) 7) + 1))), (1, p1_0), (6, .bool false), (7, .pointer (some ⟨g_30, 0, none⟩)), (8, v_59), (10, .int .i64 x_61), (11, .int .i64 x_62), (18, .pointer (some ⟨g_138, 0, none⟩)), (20, .int .i64 x_178), (187, .bool ((x_139.Have.length : Int) != (w64 ((Int.tmod (band .i64 x0 255) 7) + 1))))] := hm.keep [0, 1, 6, 7, 8, 10, 11, 18, 20, 187]
                            replace hS : Sep w0 w_217 [N_219, Mem.no, Mem.no, Mem.no, Mem.no, Mem.no, Mem.no, Mem.one g_30 (.cells ([.int .i64 x_156.Kind, .int .i64 x_156.From, .int .i64 x_156.To, .int .i64 x_156.View, .int .i64 x_156.Inst, .int .i64 x_156.Len, .bool x_156.Has, .int .i64 x_156.Members, .int .i64 x_156.Source, .int .i64 x_156.At, .int .i64 x_156.Total, v_157, .int .i64 x_156.Hop, .int .i64 x_156.Seq, v_159, v_161, .int .i64 x_156.Index, .int .i64 x_156.Entry.Sess, .int .i64 x_156.Entry.Seq, .int .i64 x_156.Entry.Cmd.Kind, .int .i64 x_156.Entry.Cmd.Who, v_163, v_165, v_167] : List Value).toArray 29 (0, 0)), M_120, Mem.no, Mem.no, Mem.no, Mem.one g_138 (.cells ([.int .i64 x_139.Kind, .int .i64 x_139.From, .int .i64 x_139.To, .int .i64 x_139.View, .int .i64 x_139.Inst, .int .i64 x_139.Len, .bool x_139.Has, .int .i64 x_139.Members, .int .i64 x_139.Source, .int .i64 x_139.At, .int .i64 x_139.Total, v_140, .int .i64 x_139.Hop, .int .i64 x_139.Seq, v_144, v_148, .int .i64 x_139.Index, .int .i64 x_139.Entry.Sess, .int .i64 x_139.Entry.Seq, .int .i64 x_139.Entry.Cmd.Kind, .int .i64 x_139.Entry.Cmd.Who, v_150, v_152, v_154] : List Value).toArray 29 (0, 0)), M_142, M_146] Z := hS
                            replace hm : Fr 215 a [(0, .int .i64 (w64 ((Int.tmod (band .i64 x0 255) 7) + 1))), (1, p1_0), (6, .bool false), (7, .pointer (some ⟨g_30, 0, none⟩)), (8, v_59), (10, .int .i64 x_61), (11, .int .i64 x_62), (18, .pointer (some ⟨g_138, 0, none⟩)), (20, .int .i64 x_178), (187, .bool ((x_139.Have.length : Int) != (w64 ((Int.tmod (band .i64 x0 255) 7) + 1))))] := hm.keep [0, 1, 6, 7, 8, 10, 11, 18, 20, 187]
                            exact x_then_n (hJ_j_186 ((x_139.Have.length : Int) != (w64 ((Int.tmod (band .i64 x0 255) 7) + 1))) H _ _ ⟨N_219, hm, (Sep.sel hS [0, 1000, 1001, 1002, 1003, 1004, 1005, 7, 8, 1008, 1009, 1010, 12, 13, 14] (by decide)), le_219⟩)
                      · rw [if_neg hc_222] at H
                        refine s_off hm rfl rfl rfl (decide_eq_false hc_222) ?_
                        clear hm a; intro a hm
                        refine s_off hm rfl rfl rfl (decide_eq_false hc_222) ?_
                        clear hm a; intro a hm
                        refine s_off hm rfl rfl rfl (decide_eq_false hc_222) ?_
                        clear hm a; intro a hm
                        refine s_off hm rfl rfl rfl (decide_eq_false hc_222) ?_
                        clear hm a; intro a hm
                        refine s_off hm rfl rfl rfl (decide_eq_false hc_222) ?_
                        clear hm a; intro a hm
                        refine s_on hm rfl rfl (decide_eq_false hc_221) ?_
                        refine s_pick_f hm rfl rfl (decide_eq_false hc_222) rfl ?_
                        clear hm a; intro a hm
                        refine s_pick_f hm rfl rfl (decide_eq_false hc_221) rfl ?_
                        clear hm a; intro a hm
                        refine s_move hm rfl rfl ?_
                        clear hm a; intro a hm
                        refine s_on hm rfl rfl rfl ?_
                        refine s_fieldAddr hm rfl Try.underlying29 rfl ti23 rfl rfl ?_
                        clear hm a; intro a hm
                        refine s_on hm rfl rfl rfl ?_
                        refine s_load hm rfl rfl (hS.load_one (p := 12) rfl Try.underlying23 rfl rfl) ?_
                        clear hm a; intro a hm
                        refine s_on hm rfl rfl rfl ?_
                        refine s_lenO hm rfl Try.underlying23 rfl ho_149 ?_
                        clear hm a; intro a hm
                        refine s_on hm rfl rfl rfl ?_
                        refine s_cmp (b := decide ((x_139.Need.length : Int) > 8)) hm rfl rfl rfl (.inr (.inr (.inr (.inr (.inl ⟨rfl, rfl⟩))))) ?_
                        clear hm a; intro a hm
                        refine s_pick_f hm rfl rfl rfl rfl ?_
                        clear hm a; intro a hm
                        refine s_move hm rfl rfl ?_
                        clear hm a; intro a hm
                        by_cases hc_225 : (x_139.Need.length : Int) > 8
                        · rw [if_pos hc_225] at H
                          refine s_off hm rfl rfl rfl (decide_eq_true hc_225) ?_
                          clear hm a; intro a hm
                          refine s_off hm rfl rfl rfl (decide_eq_true hc_225) ?_
                          clear hm a; intro a hm
                          refine s_off hm rfl rfl rfl (decide_eq_true hc_225) ?_
                          clear hm a; intro a hm
                          refine s_off hm rfl rfl rfl (decide_eq_true hc_225) ?_
                          clear hm a; intro a hm
                          refine s_off hm rfl rfl rfl (decide_eq_true hc_225) ?_
                          clear hm a; intro a hm
                          refine s_pick_t hm rfl rfl (decide_eq_true hc_225) rfl ?_
                          clear hm a; intro a hm
                          refine wpList_nil ?_
                          replace hm : Fr 215 a [(0, .int .i64 (w64 ((Int.tmod (band .i64 x0 255) 7) + 1))), (1, p1_0), (6, .bool false), (7, .pointer (some ⟨g_30, 0, none⟩)), (8, v_59), (10, .int .i64 x_61), (11, .int .i64 x_62), (18, .pointer (some ⟨g_138, 0, none⟩)), (20, .int .i64 x_178), (187, .bool true)] := hm.keep [0, 1, 6, 7, 8, 10, 11, 18, 20, 187]
                          replace hS : Sep w0 w_217 [N_219, Mem.no, Mem.no, Mem.no, Mem.no, Mem.no, Mem.no, Mem.one g_30 (.cells ([.int .i64 x_156.Kind, .int .i64 x_156.From, .int .i64 x_156.To, .int .i64 x_156.View, .int .i64 x_156.Inst, .int .i64 x_156.Len, .bool x_156.Has, .int .i64 x_156.Members, .int .i64 x_156.Source, .int .i64 x_156.At, .int .i64 x_156.Total, v_157, .int .i64 x_156.Hop, .int .i64 x_156.Seq, v_159, v_161, .int .i64 x_156.Index, .int .i64 x_156.Entry.Sess, .int .i64 x_156.Entry.Seq, .int .i64 x_156.Entry.Cmd.Kind, .int .i64 x_156.Entry.Cmd.Who, v_163, v_165, v_167] : List Value).toArray 29 (0, 0)), M_120, Mem.no, Mem.no, Mem.no, Mem.one g_138 (.cells ([.int .i64 x_139.Kind, .int .i64 x_139.From, .int .i64 x_139.To, .int .i64 x_139.View, .int .i64 x_139.Inst, .int .i64 x_139.Len, .bool x_139.Has, .int .i64 x_139.Members, .int .i64 x_139.Source, .int .i64 x_139.At, .int .i64 x_139.Total, v_140, .int .i64 x_139.Hop, .int .i64 x_139.Seq, v_144, v_148, .int .i64 x_139.Index, .int .i64 x_139.Entry.Sess, .int .i64 x_139.Entry.Seq, .int .i64 x_139.Entry.Cmd.Kind, .int .i64 x_139.Entry.Cmd.Who, v_150, v_152, v_154] : List Value).toArray 29 (0, 0)), M_142, M_146] Z := hS
                          replace hm : Fr 215 a [(0, .int .i64 (w64 ((Int.tmod (band .i64 x0 255) 7) + 1))), (1, p1_0), (6, .bool false), (7, .pointer (some ⟨g_30, 0, none⟩)), (8, v_59), (10, .int .i64 x_61), (11, .int .i64 x_62), (18, .pointer (some ⟨g_138, 0, none⟩)), (20, .int .i64 x_178), (187, .bool true)] := hm.keep [0, 1, 6, 7, 8, 10, 11, 18, 20, 187]
                          exact x_then_n (hJ_j_186 true H _ _ ⟨N_219, hm, (Sep.sel hS [0, 1000, 1001, 1002, 1003, 1004, 1005, 7, 8, 1008, 1009, 1010, 12, 13, 14] (by decide)), le_219⟩)
                        · rw [if_neg hc_225] at H
                          refine s_on hm rfl rfl (decide_eq_false hc_225) ?_
                          refine s_fieldAddr hm rfl Try.underlying29 rfl ti23 rfl rfl ?_
                          clear hm a; intro a hm
                          refine s_on hm rfl rfl (decide_eq_false hc_225) ?_
                          refine s_load hm rfl rfl (hS.load_one (p := 12) rfl Try.underlying23 rfl rfl) ?_
                          clear hm a; intro a hm
                          refine s_on hm rfl rfl (decide_eq_false hc_225) ?_
                          refine s_lenO hm rfl Try.underlying23 rfl ho_145 ?_
                          clear hm a; intro a hm
                          refine s_on hm rfl rfl (decide_eq_false hc_225) ?_
                          refine s_move hm rfl rfl ?_
                          clear hm a; intro a hm
                          refine s_on hm rfl rfl (decide_eq_false hc_225) ?_
                          refine s_cmp (b := ((x_139.Have.length : Int) != (w64 ((Int.tmod (band .i64 x0 255) 7) + 1)))) hm rfl rfl rfl (.inr (.inl ⟨rfl, rfl⟩)) ?_
                          clear hm a; intro a hm
                          refine s_pick_f hm rfl rfl (decide_eq_false hc_225) rfl ?_
                          clear hm a; intro a hm
                          refine wpList_nil ?_
                          replace hm : Fr 215 a [(0, .int .i64 (w64 ((Int.tmod (band .i64 x0 255) 7) + 1))), (1, p1_0), (6, .bool false), (7, .pointer (some ⟨g_30, 0, none⟩)), (8, v_59), (10, .int .i64 x_61), (11, .int .i64 x_62), (18, .pointer (some ⟨g_138, 0, none⟩)), (20, .int .i64 x_178), (187, .bool ((x_139.Have.length : Int) != (w64 ((Int.tmod (band .i64 x0 255) 7) + 1))))] := hm.keep [0, 1, 6, 7, 8, 10, 11, 18, 20, 187]
                          replace hS : Sep w0 w_217 [N_219, Mem.no, Mem.no, Mem.no, Mem.no, Mem.no, Mem.no, Mem.one g_30 (.cells ([.int .i64 x_156.Kind, .int .i64 x_156.From, .int .i64 x_156.To, .int .i64 x_156.View, .int .i64 x_156.Inst, .int .i64 x_156.Len, .bool x_156.Has, .int .i64 x_156.Members, .int .i64 x_156.Source, .int .i64 x_156.At, .int .i64 x_156.Total, v_157, .int .i64 x_156.Hop, .int .i64 x_156.Seq, v_159, v_161, .int .i64 x_156.Index, .int .i64 x_156.Entry.Sess, .int .i64 x_156.Entry.Seq, .int .i64 x_156.Entry.Cmd.Kind, .int .i64 x_156.Entry.Cmd.Who, v_163, v_165, v_167] : List Value).toArray 29 (0, 0)), M_120, Mem.no, Mem.no, Mem.no, Mem.one g_138 (.cells ([.int .i64 x_139.Kind, .int .i64 x_139.From, .int .i64 x_139.To, .int .i64 x_139.View, .int .i64 x_139.Inst, .int .i64 x_139.Len, .bool x_139.Has, .int .i64 x_139.Members, .int .i64 x_139.Source, .int .i64 x_139.At, .int .i64 x_139.Total, v_140, .int .i64 x_139.Hop, .int .i64 x_139.Seq, v_144, v_148, .int .i64 x_139.Index, .int .i64 x_139.Entry.Sess, .int .i64 x_139.Entry.Seq, .int .i64 x_139.Entry.Cmd.Kind, .int .i64 x_139.Entry.Cmd.Who, v_150, v_152, v_154] : List Value).toArray 29 (0, 0)), M_142, M_146] Z := hS
                          replace hm : Fr 215 a [(0, .int .i64 (w64 ((Int.tmod (band .i64 x0 255) 7) + 1))), (1, p1_0), (6, .bool false), (7, .pointer (some ⟨g_30, 0, none⟩)), (8, v_59), (10, .int .i64 x_61), (11, .int .i64 x_62), (18, .pointer (some ⟨g_138, 0, none⟩)), (20, .int .i64 x_178), (187, .bool ((x_139.Have.length : Int) != (w64 ((Int.tmod (band .i64 x0 255) 7) + 1))))] := hm.keep [0, 1, 6, 7, 8, 10, 11, 18, 20, 187]
                          exact x_then_n (hJ_j_186 ((x_139.Have.length : Int) != (w64 ((Int.tmod (band .i64 x0 255) 7) + 1))) H _ _ ⟨N_219, hm, (Sep.sel hS [0, 1000, 1001, 1002, 1003, 1004, 1005, 7, 8, 1008, 1009, 1010, 12, 13, 14] (by decide)), le_219⟩)
                  · rw [if_neg hc_220] at H
                    refine s_off hm rfl rfl rfl (bne_iff_ne.2 hc_220) ?_
                    clear hm a; intro a hm
                    refine s_off hm rfl rfl rfl (bne_iff_ne.2 hc_220) ?_
                    clear hm a; intro a hm
                    refine s_off hm rfl rfl rfl (bne_iff_ne.2 hc_220) ?_
                    clear hm a; intro a hm
                    refine s_pick_t hm rfl rfl (bne_iff_ne.2 hc_220) rfl ?_
                    clear hm a; intro a hm
                    refine s_move hm rfl rfl ?_
                    clear hm a; intro a hm
                    refine s_off hm rfl rfl rfl rfl ?_
                    clear hm a; intro a hm
                    refine s_off hm rfl rfl rfl rfl ?_
                    clear hm a; intro a hm
                    refine s_off hm rfl rfl rfl rfl ?_
                    clear hm a; intro a hm
                    refine s_off hm rfl rfl rfl rfl ?_
                    clear hm a; intro a hm
                    refine s_off hm rfl rfl rfl rfl ?_
                    clear hm a; intro a hm
                    refine s_off hm rfl rfl rfl rfl ?_
                    clear hm a; intro a hm
                    refine s_offu hm rfl rfl rfl ?_
                    clear hm a; intro a hm
                    refine s_offu hm rfl rfl rfl ?_
                    clear hm a; intro a hm
                    refine s_offu hm rfl rfl rfl ?_
                    clear hm a; intro a hm
                    refine s_offu hm rfl rfl rfl ?_
                    clear hm a; intro a hm
                    refine s_offu hm rfl rfl rfl ?_
                    clear hm a; intro a hm
                    refine s_off hm rfl rfl rfl rfl ?_
                    clear hm a; intro a hm
                    refine s_pick_t hm rfl rfl rfl rfl ?_
                    clear hm a; intro a hm
                    refine s_move hm rfl rfl ?_
                    clear hm a; intro a hm
                    refine s_off hm rfl rfl rfl rfl ?_
                    clear hm a; intro a hm
                    refine s_off hm rfl rfl rfl rfl ?_
                    clear hm a; intro a hm
                    refine s_off hm rfl rfl rfl rfl ?_
                    clear hm a; intro a hm
                    refine s_off hm rfl rfl rfl rfl ?_
                    clear hm a; intro a hm
                    refine s_pick_t hm rfl rfl rfl rfl ?_
                    clear hm a; intro a hm
                    refine s_move hm rfl rfl ?_
                    clear hm a; intro a hm
                    refine s_off hm rfl rfl rfl rfl ?_
                    clear hm a; intro a hm
                    refine s_off hm rfl rfl rfl rfl ?_
                    clear hm a; intro a hm
                    refine s_off hm rfl rfl rfl rfl ?_
                    clear hm a; intro a hm
                    refine s_off hm rfl rfl rfl rfl ?_
                    clear hm a; intro a hm
                    refine s_off hm rfl rfl rfl rfl ?_
                    clear hm a; intro a hm
                    refine s_pick_t hm rfl rfl rfl rfl ?_
                    clear hm a; intro a hm
                    refine wpList_nil ?_
                    replace hm : Fr 215 a [(0, .int .i64 (w64 ((Int.tmod (band .i64 x0 255) 7) + 1))), (1, p1_0), (6, .bool false), (7, .pointer (some ⟨g_30, 0, none⟩)), (8, v_59), (10, .int .i64 x_61), (11, .int .i64 x_62), (18, .pointer (some ⟨g_138, 0, none⟩)), (20, .int .i64 x_178), (187, .bool true)] := hm.keep [0, 1, 6, 7, 8, 10, 11, 18, 20, 187]
                    replace hS : Sep w0 w_217 [N_219, Mem.no, Mem.no, Mem.no, Mem.no, Mem.no, Mem.no, Mem.one g_30 (.cells ([.int .i64 x_156.Kind, .int .i64 x_156.From, .int .i64 x_156.To, .int .i64 x_156.View, .int .i64 x_156.Inst, .int .i64 x_156.Len, .bool x_156.Has, .int .i64 x_156.Members, .int .i64 x_156.Source, .int .i64 x_156.At, .int .i64 x_156.Total, v_157, .int .i64 x_156.Hop, .int .i64 x_156.Seq, v_159, v_161, .int .i64 x_156.Index, .int .i64 x_156.Entry.Sess, .int .i64 x_156.Entry.Seq, .int .i64 x_156.Entry.Cmd.Kind, .int .i64 x_156.Entry.Cmd.Who, v_163, v_165, v_167] : List Value).toArray 29 (0, 0)), M_120, Mem.no, Mem.no, Mem.no, Mem.one g_138 (.cells ([.int .i64 x_139.Kind, .int .i64 x_139.From, .int .i64 x_139.To, .int .i64 x_139.View, .int .i64 x_139.Inst, .int .i64 x_139.Len, .bool x_139.Has, .int .i64 x_139.Members, .int .i64 x_139.Source, .int .i64 x_139.At, .int .i64 x_139.Total, v_140, .int .i64 x_139.Hop, .int .i64 x_139.Seq, v_144, v_148, .int .i64 x_139.Index, .int .i64 x_139.Entry.Sess, .int .i64 x_139.Entry.Seq, .int .i64 x_139.Entry.Cmd.Kind, .int .i64 x_139.Entry.Cmd.Who, v_150, v_152, v_154] : List Value).toArray 29 (0, 0)), M_142, M_146] Z := hS
                    replace hm : Fr 215 a [(0, .int .i64 (w64 ((Int.tmod (band .i64 x0 255) 7) + 1))), (1, p1_0), (6, .bool false), (7, .pointer (some ⟨g_30, 0, none⟩)), (8, v_59), (10, .int .i64 x_61), (11, .int .i64 x_62), (18, .pointer (some ⟨g_138, 0, none⟩)), (20, .int .i64 x_178), (187, .bool true)] := hm.keep [0, 1, 6, 7, 8, 10, 11, 18, 20, 187]
                    exact x_then_n (hJ_j_186 true H _ _ ⟨N_219, hm, (Sep.sel hS [0, 1000, 1001, 1002, 1003, 1004, 1005, 7, 8, 1008, 1009, 1010, 12, 13, 14] (by decide)), le_219⟩)
                · rw [if_neg hc_215] at H
                  refine s_off hm rfl rfl rfl (bne_iff_ne.2 hc_215) ?_
                  clear hm a; intro a hm
                  refine s_off hm rfl rfl rfl (bne_iff_ne.2 hc_215) ?_
                  clear hm a; intro a hm
                  refine s_off hm rfl rfl rfl (bne_iff_ne.2 hc_215) ?_
                  clear hm a; intro a hm
                  refine s_off hm rfl rfl rfl (bne_iff_ne.2 hc_215) ?_
                  clear hm a; intro a hm
                  refine s_pick_t hm rfl rfl (bne_iff_ne.2 hc_215) rfl ?_
                  clear hm a; intro a hm
                  refine s_move hm rfl rfl ?_
                  clear hm a; intro a hm
                  refine s_off hm rfl rfl rfl rfl ?_
                  clear hm a; intro a hm
                  refine s_off hm rfl rfl rfl rfl ?_
                  clear hm a; intro a hm
                  refine s_off hm rfl rfl rfl rfl ?_
                  clear hm a; intro a hm
                  refine s_pick_t hm rfl rfl rfl rfl ?_
                  clear hm a; intro a hm
                  refine s_move hm rfl rfl ?_
                  clear hm a; intro a hm
                  refine s_off hm rfl rfl rfl rfl ?_
                  clear hm a; intro a hm
                  refine s_off hm rfl rfl rfl rfl ?_
                  clear hm a; intro a hm
                  refine s_off hm rfl rfl rfl rfl ?_
                  clear hm a; intro a hm
                  refine s_off hm rfl rfl rfl rfl ?_
                  clear hm a; intro a hm
                  refine s_off hm rfl rfl rfl rfl ?_
                  clear hm a; intro a hm
                  refine s_off hm rfl rfl rfl rfl ?_
                  clear hm a; intro a hm
                  refine s_offu hm rfl rfl rfl ?_
                  clear hm a; intro a hm
                  refine s_offu hm rfl rfl rfl ?_
                  clear hm a; intro a hm
                  refine s_offu hm rfl rfl rfl ?_
                  clear hm a; intro a hm
                  refine s_offu hm rfl rfl rfl ?_
                  clear hm a; intro a hm
                  refine s_offu hm rfl rfl rfl ?_
                  clear hm a; intro a hm
                  refine s_off hm rfl rfl rfl rfl ?_
                  clear hm a; intro a hm
                  refine s_pick_t hm rfl rfl rfl rfl ?_
                  clear hm a; intro a hm
                  refine s_move hm rfl rfl ?_
                  clear hm a; intro a hm
                  refine s_off hm rfl rfl rfl rfl ?_
                  clear hm a; intro a hm
                  refine s_off hm rfl rfl rfl rfl ?_
                  clear hm a; intro a hm
                  refine s_off hm rfl rfl rfl rfl ?_
                  clear hm a; intro a hm
                  refine s_off hm rfl rfl rfl rfl ?_
                  clear hm a; intro a hm
                  refine s_pick_t hm rfl rfl rfl rfl ?_
                  clear hm a; intro a hm
                  refine s_move hm rfl rfl ?_
                  clear hm a; intro a hm
                  refine s_off hm rfl rfl rfl rfl ?_
                  clear hm a; intro a hm
                  refine s_off hm rfl rfl rfl rfl ?_
                  clear hm a; intro a hm
                  refine s_off hm rfl rfl rfl rfl ?_
                  clear hm a; intro a hm
                  refine s_off hm rfl rfl rfl rfl ?_
                  clear hm a; intro a hm
                  refine s_off hm rfl rfl rfl rfl ?_
                  clear hm a; intro a hm
                  refine s_pick_t hm rfl rfl rfl rfl ?_
                  clear hm a; intro a hm
                  refine wpList_nil ?_
                  replace hm : Fr 215 a [(0, .int .i64 (w64 ((Int.tmod (band .i64 x0 255) 7) + 1))), (1, p1_0), (6, .bool false), (7, .pointer (some ⟨g_30, 0, none⟩)), (8, v_59), (10, .int .i64 x_61), (11, .int .i64 x_62), (18, .pointer (some ⟨g_138, 0, none⟩)), (20, .int .i64 x_178), (187, .bool true)] := hm.keep [0, 1, 6, 7, 8, 10, 11, 18, 20, 187]
                  replace hS : Sep w0 w_179 [N_177, Mem.no, Mem.no, Mem.no, Mem.no, Mem.no, Mem.no, Mem.one g_30 (.cells ([.int .i64 x_156.Kind, .int .i64 x_156.From, .int .i64 x_156.To, .int .i64 x_156.View, .int .i64 x_156.Inst, .int .i64 x_156.Len, .bool x_156.Has, .int .i64 x_156.Members, .int .i64 x_156.Source, .int .i64 x_156.At, .int .i64 x_156.Total, v_157, .int .i64 x_156.Hop, .int .i64 x_156.Seq, v_159, v_161, .int .i64 x_156.Index, .int .i64 x_156.Entry.Sess, .int .i64 x_156.Entry.Seq, .int .i64 x_156.Entry.Cmd.Kind, .int .i64 x_156.Entry.Cmd.Who, v_163, v_165, v_167] : List Value).toArray 29 (0, 0)), M_120, Mem.no, Mem.no, Mem.no, Mem.one g_138 (.cells ([.int .i64 x_139.Kind, .int .i64 x_139.From, .int .i64 x_139.To, .int .i64 x_139.View, .int .i64 x_139.Inst, .int .i64 x_139.Len, .bool x_139.Has, .int .i64 x_139.Members, .int .i64 x_139.Source, .int .i64 x_139.At, .int .i64 x_139.Total, v_140, .int .i64 x_139.Hop, .int .i64 x_139.Seq, v_144, v_148, .int .i64 x_139.Index, .int .i64 x_139.Entry.Sess, .int .i64 x_139.Entry.Seq, .int .i64 x_139.Entry.Cmd.Kind, .int .i64 x_139.Entry.Cmd.Who, v_150, v_152, v_154] : List Value).toArray 29 (0, 0)), M_142, M_146] Z := hS
                  replace hm : Fr 215 a [(0, .int .i64 (w64 ((Int.tmod (band .i64 x0 255) 7) + 1))), (1, p1_0), (6, .bool false), (7, .pointer (some ⟨g_30, 0, none⟩)), (8, v_59), (10, .int .i64 x_61), (11, .int .i64 x_62), (18, .pointer (some ⟨g_138, 0, none⟩)), (20, .int .i64 x_178), (187, .bool true)] := hm.keep [0, 1, 6, 7, 8, 10, 11, 18, 20, 187]
                  exact x_then_n (hJ_j_186 true H _ _ ⟨N_177, hm, (Sep.sel hS [0, 1000, 1001, 1002, 1003, 1004, 1005, 7, 8, 1008, 1009, 1010, 12, 13, 14] (by decide)), (Mem.le.refl _)⟩)
              · rw [if_neg hc_214] at H
                refine s_off hm rfl rfl rfl (bne_iff_ne.2 hc_214) ?_
                clear hm a; intro a hm
                refine s_off hm rfl rfl rfl (bne_iff_ne.2 hc_214) ?_
                clear hm a; intro a hm
                refine s_off hm rfl rfl rfl (bne_iff_ne.2 hc_214) ?_
                clear hm a; intro a hm
                refine s_off hm rfl rfl rfl (bne_iff_ne.2 hc_214) ?_
                clear hm a; intro a hm
                refine s_pick_t hm rfl rfl (bne_iff_ne.2 hc_214) rfl ?_
                clear hm a; intro a hm
                refine s_move hm rfl rfl ?_
                clear hm a; intro a hm
                refine s_off hm rfl rfl rfl rfl ?_
                clear hm a; intro a hm
                refine s_off hm rfl rfl rfl rfl ?_
                clear hm a; intro a hm
                refine s_off hm rfl rfl rfl rfl ?_
                clear hm a; intro a hm
                refine s_off hm rfl rfl rfl rfl ?_
                clear hm a; intro a hm
                refine s_pick_t hm rfl rfl rfl rfl ?_
                clear hm a; intro a hm
                refine s_move hm rfl rfl ?_
                clear hm a; intro a hm
                refine s_off hm rfl rfl rfl rfl ?_
                clear hm a; intro a hm
                refine s_off hm rfl rfl rfl rfl ?_
                clear hm a; intro a hm
                refine s_off hm rfl rfl rfl rfl ?_
                clear hm a; intro a hm
                refine s_pick_t hm rfl rfl rfl rfl ?_
                clear hm a; intro a hm
                refine s_move hm rfl rfl ?_
                clear hm a; intro a hm
                refine s_off hm rfl rfl rfl rfl ?_
                clear hm a; intro a hm
                refine s_off hm rfl rfl rfl rfl ?_
                clear hm a; intro a hm
                refine s_off hm rfl rfl rfl rfl ?_
                clear hm a; intro a hm
                refine s_off hm rfl rfl rfl rfl ?_
                clear hm a; intro a hm
                refine s_off hm rfl rfl rfl rfl ?_
                clear hm a; intro a hm
                refine s_off hm rfl rfl rfl rfl ?_
                clear hm a; intro a hm
                refine s_offu hm rfl rfl rfl ?_
                clear hm a; intro a hm
                refine s_offu hm rfl rfl rfl ?_
                clear hm a; intro a hm
                refine s_offu hm rfl rfl rfl ?_
                clear hm a; intro a hm
                refine s_offu hm rfl rfl rfl ?_
                clear hm a; intro a hm
                refine s_offu hm rfl rfl rfl ?_
                clear hm a; intro a hm
                refine s_off hm rfl rfl rfl rfl ?_
                clear hm a; intro a hm
                refine s_pick_t hm rfl rfl rfl rfl ?_
                clear hm a; intro a hm
                refine s_move hm rfl rfl ?_
                clear hm a; intro a hm
                refine s_off hm rfl rfl rfl rfl ?_
                clear hm a; intro a hm
                refine s_off hm rfl rfl rfl rfl ?_
                clear hm a; intro a hm
                refine s_off hm rfl rfl rfl rfl ?_
                clear hm a; intro a hm
                refine s_off hm rfl rfl rfl rfl ?_
                clear hm a; intro a hm
                refine s_pick_t hm rfl rfl rfl rfl ?_
                clear hm a; intro a hm
                refine s_move hm rfl rfl ?_
                clear hm a; intro a hm
                refine s_off hm rfl rfl rfl rfl ?_
                clear hm a; intro a hm
                refine s_off hm rfl rfl rfl rfl ?_
                clear hm a; intro a hm
                refine s_off hm rfl rfl rfl rfl ?_
                clear hm a; intro a hm
                refine s_off hm rfl rfl rfl rfl ?_
                clear hm a; intro a hm
                refine s_off hm rfl rfl rfl rfl ?_
                clear hm a; intro a hm
                refine s_pick_t hm rfl rfl rfl rfl ?_
                clear hm a; intro a hm
                refine wpList_nil ?_
                replace hm : Fr 215 a [(0, .int .i64 (w64 ((Int.tmod (band .i64 x0 255) 7) + 1))), (1, p1_0), (6, .bool false), (7, .pointer (some ⟨g_30, 0, none⟩)), (8, v_59), (10, .int .i64 x_61), (11, .int .i64 x_62), (18, .pointer (some ⟨g_138, 0, none⟩)), (20, .int .i64 x_178), (187, .bool true)] := hm.keep [0, 1, 6, 7, 8, 10, 11, 18, 20, 187]
                replace hS : Sep w0 w_179 [N_177, Mem.no, Mem.no, Mem.no, Mem.no, Mem.no, Mem.no, Mem.one g_30 (.cells ([.int .i64 x_156.Kind, .int .i64 x_156.From, .int .i64 x_156.To, .int .i64 x_156.View, .int .i64 x_156.Inst, .int .i64 x_156.Len, .bool x_156.Has, .int .i64 x_156.Members, .int .i64 x_156.Source, .int .i64 x_156.At, .int .i64 x_156.Total, v_157, .int .i64 x_156.Hop, .int .i64 x_156.Seq, v_159, v_161, .int .i64 x_156.Index, .int .i64 x_156.Entry.Sess, .int .i64 x_156.Entry.Seq, .int .i64 x_156.Entry.Cmd.Kind, .int .i64 x_156.Entry.Cmd.Who, v_163, v_165, v_167] : List Value).toArray 29 (0, 0)), M_120, Mem.no, Mem.no, Mem.no, Mem.one g_138 (.cells ([.int .i64 x_139.Kind, .int .i64 x_139.From, .int .i64 x_139.To, .int .i64 x_139.View, .int .i64 x_139.Inst, .int .i64 x_139.Len, .bool x_139.Has, .int .i64 x_139.Members, .int .i64 x_139.Source, .int .i64 x_139.At, .int .i64 x_139.Total, v_140, .int .i64 x_139.Hop, .int .i64 x_139.Seq, v_144, v_148, .int .i64 x_139.Index, .int .i64 x_139.Entry.Sess, .int .i64 x_139.Entry.Seq, .int .i64 x_139.Entry.Cmd.Kind, .int .i64 x_139.Entry.Cmd.Who, v_150, v_152, v_154] : List Value).toArray 29 (0, 0)), M_142, M_146] Z := hS
                replace hm : Fr 215 a [(0, .int .i64 (w64 ((Int.tmod (band .i64 x0 255) 7) + 1))), (1, p1_0), (6, .bool false), (7, .pointer (some ⟨g_30, 0, none⟩)), (8, v_59), (10, .int .i64 x_61), (11, .int .i64 x_62), (18, .pointer (some ⟨g_138, 0, none⟩)), (20, .int .i64 x_178), (187, .bool true)] := hm.keep [0, 1, 6, 7, 8, 10, 11, 18, 20, 187]
                exact x_then_n (hJ_j_186 true H _ _ ⟨N_177, hm, (Sep.sel hS [0, 1000, 1001, 1002, 1003, 1004, 1005, 7, 8, 1008, 1009, 1010, 12, 13, 14] (by decide)), (Mem.le.refl _)⟩)
            clear hKJ_176
            replace hS : Sep w0 w_169 [N_137, Mem.no, Mem.no, Mem.no, Mem.no, Mem.no, Mem.no, Mem.one g_30 (.cells ([.int .i64 x_156.Kind, .int .i64 x_156.From, .int .i64 x_156.To, .int .i64 x_156.View, .int .i64 x_156.Inst, .int .i64 x_156.Len, .bool x_156.Has, .int .i64 x_156.Members, .int .i64 x_156.Source, .int .i64 x_156.At, .int .i64 x_156.Total, v_157, .int .i64 x_156.Hop, .int .i64 x_156.Seq, v_159, v_161, .int .i64 x_156.Index, .int .i64 x_156.Entry.Sess, .int .i64 x_156.Entry.Seq, .int .i64 x_156.Entry.Cmd.Kind, .int .i64 x_156.Entry.Cmd.Who, v_163, v_165, v_167] : List Value).toArray 29 (0, 0)), M_120, Mem.no, Mem.no, Mem.no, Mem.one g_138 (.cells ([.int .i64 x_139.Kind, .int .i64 x_139.From, .int .i64 x_139.To, .int .i64 x_139.View, .int .i64 x_139.Inst, .int .i64 x_139.Len, .bool x_139.Has, .int .i64 x_139.Members, .int .i64 x_139.Source, .int .i64 x_139.At, .int .i64 x_139.Total, v_140, .int .i64 x_139.Hop, .int .i64 x_139.Seq, v_144, v_148, .int .i64 x_139.Index, .int .i64 x_139.Entry.Sess, .int .i64 x_139.Entry.Seq, .int .i64 x_139.Entry.Cmd.Kind, .int .i64 x_139.Entry.Cmd.Who, v_150, v_152, v_154] : List Value).toArray 29 (0, 0)), M_142, M_146] Z := hS
            replace hm : Fr 215 a [(0, .int .i64 (w64 ((Int.tmod (band .i64 x0 255) 7) + 1))), (1, p1_0), (6, .bool false), (7, .pointer (some ⟨g_30, 0, none⟩)), (8, v_59), (10, .int .i64 x_61), (11, .int .i64 x_62), (15, .int .i64 (w64 (x_63.Seq + (mn (band .i64 t_98 7) t_94)))), (18, .pointer (some ⟨g_138, 0, none⟩)), (20, .int .i64 t_171), (127, .int .i64 (x_56.length : Int)), (128, .int .i64 0)] := hm.keep [0, 1, 6, 7, 8, 10, 11, 15, 18, 20, 127, 128]
            refine c_block ?_
            refine c_loop (fun k_229 a w_229 => ∃ (x_227 : Int) (x_228 : Int) (N_226 : Mem), hocketlaw17_ToknRises.L3 K x_56 t_93 t_105 t_110 x_63 t_98 t_94 (fun v => hocketlaw17_ToknRises.J6 K x_139 x_156 x_63 t_98 t_94 x_61 (hocketlaw17_ToknRises.L1 K x1 x0 (fun v => hocketlaw17_ToknRises.J2 K) k_80) x_56 t_93 t_105 t_110 x_62 x0 v) k_229 (x_227, x_228) = some r ∧ Fr 215 a [(0, .int .i64 (w64 ((Int.tmod (band .i64 x0 255) 7) + 1))), (1, p1_0), (6, .bool false), (7, .pointer (some ⟨g_30, 0, none⟩)), (8, v_59), (10, .int .i64 x_61), (11, .int .i64 x_62), (15, .int .i64 (w64 (x_63.Seq + (mn (band .i64 t_98 7) t_94)))), (18, .pointer (some ⟨g_138, 0, none⟩)), (20, .int .i64 x_227), (127, .int .i64 (x_56.length : Int)), (128, .int .i64 x_228)] ∧ Sep w0 w_229 [N_226, Mem.no, Mem.no, Mem.no, Mem.no, Mem.no, Mem.no, Mem.one g_30 (.cells ([.int .i64 x_156.Kind, .int .i64 x_156.From, .int .i64 x_156.To, .int .i64 x_156.View, .int .i64 x_156.Inst, .int .i64 x_156.Len, .bool x_156.Has, .int .i64 x_156.Members, .int .i64 x_156.Source, .int .i64 x_156.At, .int .i64 x_156.Total, v_157, .int .i64 x_156.Hop, .int .i64 x_156.Seq, v_159, v_161, .int .i64 x_156.Index, .int .i64 x_156.Entry.Sess, .int .i64 x_156.Entry.Seq, .int .i64 x_156.Entry.Cmd.Kind, .int .i64 x_156.Entry.Cmd.Who, v_163, v_165, v_167] : List Value).toArray 29 (0, 0)), M_120, Mem.no, Mem.no, Mem.no, Mem.one g_138 (.cells ([.int .i64 x_139.Kind, .int .i64 x_139.From, .int .i64 x_139.To, .int .i64 x_139.View, .int .i64 x_139.Inst, .int .i64 x_139.Len, .bool x_139.Has, .int .i64 x_139.Members, .int .i64 x_139.Source, .int .i64 x_139.At, .int .i64 x_139.Total, v_140, .int .i64 x_139.Hop, .int .i64 x_139.Seq, v_144, v_148, .int .i64 x_139.Index, .int .i64 x_139.Entry.Sess, .int .i64 x_139.Entry.Seq, .int .i64 x_139.Entry.Cmd.Kind, .int .i64 x_139.Entry.Cmd.Who, v_150, v_152, v_154] : List Value).toArray 29 (0, 0)), M_142, M_146] Z ∧ N_137.le N_226) K ⟨t_171, 0, N_137, H, hm, (Sep.sel hS [0, 1000, 1001, 1002, 1003, 1004, 1005, 7, 8, 1008, 1009, 1010, 12, 13, 14] (by decide)), (Mem.le.refl _)⟩ (fun a w h => by obtain ⟨_, _, _, H, _⟩ := h; cases (show (none : Option (Unit)) = some r from H)) ?_
            clear hm hS a H
            rintro k_229 a w_229 KL_229 hKL_229 ⟨x_227, x_228, N_226, H, hm, hS, le_226⟩
            replace H : hocketlaw17_ToknRises.B3 K x_56 t_93 t_105 t_110 x_63 t_98 t_94 (fun v => hocketlaw17_ToknRises.J6 K x_139 x_156 x_63 t_98 t_94 x_61 (hocketlaw17_ToknRises.L1 K x1 x0 (fun v => hocketlaw17_ToknRises.J2 K) k_80) x_56 t_93 t_105 t_110 x_62 x0 v) (hocketlaw17_ToknRises.L3 K x_56 t_93 t_105 t_110 x_63 t_98 t_94 (fun v => hocketlaw17_ToknRises.J6 K x_139 x_156 x_63 t_98 t_94 x_61 (hocketlaw17_ToknRises.L1 K x1 x0 (fun v => hocketlaw17_ToknRises.J2 K) k_80) x_56 t_93 t_105 t_110 x_62 x0 v) k_229) x_227 x_228 = some r := H
            unfold hocketlaw17_ToknRises.B3 at H
            refine wp_seq ?_
            refine wp_region_lit ?_
            refine s_cmp (b := decide (x_228 < (x_56.length : Int))) hm rfl rfl rfl (.inr (.inr (.inl ⟨rfl, rfl⟩))) ?_
            clear hm a; intro a hm
            refine wpList_nil ?_
            replace hm : Fr 215 a [(0, .int .i64 (w64 ((Int.tmod (band .i64 x0 255) 7) + 1))), (1, p1_0), (6, .bool false), (7, .pointer (some ⟨g_30, 0, none⟩)), (8, v_59), (10, .int .i64 x_61), (11, .int .i64 x_62), (15, .int .i64 (w64 (x_63.Seq + (mn (band .i64 t_98 7) t_94)))), (18, .pointer (some ⟨g_138, 0, none⟩)), (20, .int .i64 x_227), (127, .int .i64 (x_56.length : Int)), (128, .int .i64 x_228), (129, .bool (decide (x_228 < (x_56.length : Int))))] := hm.keep [0, 1, 6, 7, 8, 10, 11, 15, 18, 20, 127, 128, 129]
            refine x_then_n ?_
            refine c_seq fun KJ_231 hKJ_231 => ?_
            by_cases hc_232 : x_228 < (x_56.length : Int)
            · rw [if_pos hc_232] at H
              refine c_cond_t hm rfl (decide_eq_true hc_232) ?_
              refine wp_skip ?_
              refine x_then_n (hKJ_231 _ _ ?_)
              refine wp_seq ?_
              refine c_block ?_
              refine wp_seq ?_
              refine wp_region_lit ?_
              refine s_move hm rfl rfl ?_
              clear hm a; intro a hm
              refine s_assign hm rfl rfl ?_
              clear hm a; intro a hm
              refine wpList_nil ?_
              replace hm : Fr 215 a [(0, .int .i64 (w64 ((Int.tmod (band .i64 x0 255) 7) + 1))), (1, p1_0), (6, .bool false), (7, .pointer (some ⟨g_30, 0, none⟩)), (8, v_59), (10, .int .i64 x_61), (11, .int .i64 x_62), (15, .int .i64 (w64 (x_63.Seq + (mn (band .i64 t_98 7) t_94)))), (18, .pointer (some ⟨g_138, 0, none⟩)), (20, .int .i64 x_227), (21, .int .i64 x_228), (127, .int .i64 (x_56.length : Int)), (128, .int .i64 x_228)] := hm.keep [0, 1, 6, 7, 8, 10, 11, 15, 18, 20, 21, 127, 128]
              refine x_then_n ?_
              refine wp_region_lit ?_
              refine s_move hm rfl rfl ?_
              clear hm a; intro a hm
              refine s_move hm rfl rfl ?_
              clear hm a; intro a hm
              refine s_move hm rfl rfl ?_
              clear hm a; intro a hm
              obtain ⟨t_233, et_233, H⟩ := Option.bind_eq_some_iff.1 H
              refine v_indexO hm rfl Try.underlying23 ti3 rfl rfl rfl ho_121 (hS.own 8) et_233 ?_
              intro ad_234 cs_235 hk_236 hc_237
              obtain rfl := (show cs_235 = [.int .i64 t_233] from hk_236)
              clear hm a; intro a hm
              refine s_load hm rfl rfl (el_one (o := 0) hc_237 Try.underlying3 rfl rfl) ?_
              clear hm a; intro a hm
              refine s_min hm rfl rfl rfl ?_
              clear hm a; intro a hm
              refine s_assign hm rfl rfl ?_
              clear hm a; intro a hm
              refine wpList_nil ?_
              replace hm : Fr 215 a [(0, .int .i64 (w64 ((Int.tmod (band .i64 x0 255) 7) + 1))), (1, p1_0), (6, .bool false), (7, .pointer (some ⟨g_30, 0, none⟩)), (8, v_59), (10, .int .i64 x_61), (11, .int .i64 x_62), (15, .int .i64 (w64 (x_63.Seq + (mn (band .i64 t_98 7) t_94)))), (18, .pointer (some ⟨g_138, 0, none⟩)), (20, .int .i64 (mn x_227 t_233)), (127, .int .i64 (x_56.length : Int)), (128, .int .i64 x_228)] := hm.keep [0, 1, 6, 7, 8, 10, 11, 15, 18, 20, 127, 128]
              refine x_block_n ?_
              refine x_then_n ?_
              refine wp_region_lit ?_
              refine s_arith (r := w64 (x_228 + 1)) hm rfl rfl rfl (.inl ⟨rfl, rfl⟩) ?_
              clear hm a; intro a hm
              refine s_move hm rfl rfl ?_
              clear hm a; intro a hm
              refine wpList_nil ?_
              replace hm : Fr 215 a [(0, .int .i64 (w64 ((Int.tmod (band .i64 x0 255) 7) + 1))), (1, p1_0), (6, .bool false), (7, .pointer (some ⟨g_30, 0, none⟩)), (8, v_59), (10, .int .i64 x_61), (11, .int .i64 x_62), (15, .int .i64 (w64 (x_63.Seq + (mn (band .i64 t_98 7) t_94)))), (18, .pointer (some ⟨g_138, 0, none⟩)), (20, .int .i64 (mn x_227 t_233)), (127, .int .i64 (x_56.length : Int)), (128, .int .i64 (w64 (x_228 + 1)))] := hm.keep [0, 1, 6, 7, 8, 10, 11, 15, 18, 20, 127, 128]
              refine x_then_n (hKL_229 _ _ ?_)
              replace hS : Sep w0 w_229 [N_226, Mem.no, Mem.no, Mem.no, Mem.no, Mem.no, Mem.no, Mem.one g_30 (.cells ([.int .i64 x_156.Kind, .int .i64 x_156.From, .int .i64 x_156.To, .int .i64 x_156.View, .int .i64 x_156.Inst, .int .i64 x_156.Len, .bool x_156.Has, .int .i64 x_156.Members, .int .i64 x_156.Source, .int .i64 x_156.At, .int .i64 x_156.Total, v_157, .int .i64 x_156.Hop, .int .i64 x_156.Seq, v_159, v_161, .int .i64 x_156.Index, .int .i64 x_156.Entry.Sess, .int .i64 x_156.Entry.Seq, .int .i64 x_156.Entry.Cmd.Kind, .int .i64 x_156.Entry.Cmd.Who, v_163, v_165, v_167] : List Value).toArray 29 (0, 0)), M_120, Mem.no, Mem.no, Mem.no, Mem.one g_138 (.cells ([.int .i64 x_139.Kind, .int .i64 x_139.From, .int .i64 x_139.To, .int .i64 x_139.View, .int .i64 x_139.Inst, .int .i64 x_139.Len, .bool x_139.Has, .int .i64 x_139.Members, .int .i64 x_139.Source, .int .i64 x_139.At, .int .i64 x_139.Total, v_140, .int .i64 x_139.Hop, .int .i64 x_139.Seq, v_144, v_148, .int .i64 x_139.Index, .int .i64 x_139.Entry.Sess, .int .i64 x_139.Entry.Seq, .int .i64 x_139.Entry.Cmd.Kind, .int .i64 x_139.Entry.Cmd.Who, v_150, v_152, v_154] : List Value).toArray 29 (0, 0)), M_142, M_146] Z := hS
              replace hm : Fr 215 a [(0, .int .i64 (w64 ((Int.tmod (band .i64 x0 255) 7) + 1))), (1, p1_0), (6, .bool false), (7, .pointer (some ⟨g_30, 0, none⟩)), (8, v_59), (10, .int .i64 x_61), (11, .int .i64 x_62), (15, .int .i64 (w64 (x_63.Seq + (mn (band .i64 t_98 7) t_94)))), (18, .pointer (some ⟨g_138, 0, none⟩)), (20, .int .i64 (mn x_227 t_233)), (127, .int .i64 (x_56.length : Int)), (128, .int .i64 (w64 (x_228 + 1)))] := hm.keep [0, 1, 6, 7, 8, 10, 11, 15, 18, 20, 127, 128]
              exact ⟨mn x_227 t_233, w64 (x_228 + 1), N_226, H, hm, (Sep.sel hS [0, 1000, 1001, 1002, 1003, 1004, 1005, 7, 8, 1008, 1009, 1010, 12, 13, 14] (by decide)), le_226⟩
            · rw [if_neg hc_232] at H
              refine c_cond_f hm rfl (decide_eq_false hc_232) ?_
              refine wp_exit (x_then_x (x_then_x (x_block_t ?_)))
              replace hS : Sep w0 w_229 [N_226, Mem.no, Mem.no, Mem.no, Mem.no, Mem.no, Mem.no, Mem.one g_30 (.cells ([.int .i64 x_156.Kind, .int .i64 x_156.From, .int .i64 x_156.To, .int .i64 x_156.View, .int .i64 x_156.Inst, .int .i64 x_156.Len, .bool x_156.Has, .int .i64 x_156.Members, .int .i64 x_156.Source, .int .i64 x_156.At, .int .i64 x_156.Total, v_157, .int .i64 x_156.Hop, .int .i64 x_156.Seq, v_159, v_161, .int .i64 x_156.Index, .int .i64 x_156.Entry.Sess, .int .i64 x_156.Entry.Seq, .int .i64 x_156.Entry.Cmd.Kind, .int .i64 x_156.Entry.Cmd.Who, v_163, v_165, v_167] : List Value).toArray 29 (0, 0)), M_120, Mem.no, Mem.no, Mem.no, Mem.one g_138 (.cells ([.int .i64 x_139.Kind, .int .i64 x_139.From, .int .i64 x_139.To, .int .i64 x_139.View, .int .i64 x_139.Inst, .int .i64 x_139.Len, .bool x_139.Has, .int .i64 x_139.Members, .int .i64 x_139.Source, .int .i64 x_139.At, .int .i64 x_139.Total, v_140, .int .i64 x_139.Hop, .int .i64 x_139.Seq, v_144, v_148, .int .i64 x_139.Index, .int .i64 x_139.Entry.Sess, .int .i64 x_139.Entry.Seq, .int .i64 x_139.Entry.Cmd.Kind, .int .i64 x_139.Entry.Cmd.Who, v_150, v_152, v_154] : List Value).toArray 29 (0, 0)), M_142, M_146] Z := hS
              replace hm : Fr 215 a [(0, .int .i64 (w64 ((Int.tmod (band .i64 x0 255) 7) + 1))), (1, p1_0), (6, .bool false), (7, .pointer (some ⟨g_30, 0, none⟩)), (8, v_59), (10, .int .i64 x_61), (11, .int .i64 x_62), (15, .int .i64 (w64 (x_63.Seq + (mn (band .i64 t_98 7) t_94)))), (18, .pointer (some ⟨g_138, 0, none⟩)), (20, .int .i64 x_227)] := hm.keep [0, 1, 6, 7, 8, 10, 11, 15, 18, 20]
              exact x_then_n (hJ_j_180 x_227 H _ _ ⟨N_226, hm, (Sep.sel hS [0, 1000, 1001, 1002, 1003, 1004, 1005, 7, 8, 1008, 1009, 1010, 12, 13, 14] (by decide)), le_226⟩)
          clear hKJ_136
          refine h_begin (S := fun w => Sep w0 w [N_128, Mem.no, Mem.no, Mem.no, Mem.no, Mem.no, Mem.no, Mem.one g_30 (.cells ([.int .i64 x_63.Kind, .int .i64 x_63.From, .int .i64 x_63.To, .int .i64 x_63.View, .int .i64 x_63.Inst, .int .i64 x_63.Len, .bool x_63.Has, .int .i64 x_63.Members, .int .i64 x_63.Source, .int .i64 x_63.At, .int .i64 x_63.Total, v_64, .int .i64 x_63.Hop, .int .i64 x_63.Seq, v_68, v_72, .int .i64 x_63.Index, .int .i64 x_63.Entry.Sess, .int .i64 x_63.Entry.Seq, .int .i64 x_63.Entry.Cmd.Kind, .int .i64 x_63.Entry.Cmd.Who, v_74, v_76, v_78] : List Value).toArray 29 (0, 0)), M_120, Mem.no, Mem.no, Mem.no] Z) 20 (by kernel_rfl) rfl [false, false, false, false, false, false, false, false, false, false, false, false, false, false, false, false, false, false, false, false].toArray rfl hS fun w_238 hS => ?_
          replace hS : Sep w0 w_238 [N_128, Mem.no, Mem.no, Mem.no, Mem.no, Mem.no, Mem.no, Mem.one g_30 (.cells ([.int .i64 x_63.Kind, .int .i64 x_63.From, .int .i64 x_63.To, .int .i64 x_63.View, .int .i64 x_63.Inst, .int .i64 x_63.Len, .bool x_63.Has, .int .i64 x_63.Members, .int .i64 x_63.Source, .int .i64 x_63.At, .int .i64 x_63.Total, v_64, .int .i64 x_63.Hop, .int .i64 x_63.Seq, v_68, v_72, .int .i64 x_63.Index, .int .i64 x_63.Entry.Sess, .int .i64 x_63.Entry.Seq, .int .i64 x_63.Entry.Cmd.Kind, .int .i64 x_63.Entry.Cmd.Who, v_74, v_76, v_78] : List Value).toArray 29 (0, 0)), M_120, M_66, M_70, M_130] Z := hS
          refine h_take 0 [true, false, false, false, false, false, false, false, false, false, false, false, false, false, false, false, false, false, false, false].toArray rfl (by kernel_rfl) (by kernel_rfl) (by kernel_rfl) (fun _ _ _ _ h => h) rfl rfl rfl rfl hm (hS.sub (.cons (Mem.le.refl _) (.cons (Mem.no_le _) (.cons (Mem.no_le _) (.cons (Mem.no_le _) (.cons (Mem.no_le _) (.cons (Mem.no_le _) (.cons (Mem.no_le _) (.cons (Mem.le.refl _) (.cons (Mem.le.refl _) (.cons (Mem.no_le _) (.cons (Mem.no_le _) (.cons (Mem.no_le _) (Sub.nil _)))))))))))))) (v := .agg ([.int .i64 x_63.Kind, .int .i64 x_63.From, .int .i64 x_63.To, .int .i64 x_63.View, .int .i64 x_63.Inst, .int .i64 x_63.Len, .bool x_63.Has, .int .i64 x_63.Members, .int .i64 x_63.Source, .int .i64 x_63.At, .int .i64 x_63.Total, v_64, .int .i64 x_63.Hop, .int .i64 x_63.Seq, v_68, v_72, .int .i64 x_63.Index, .int .i64 x_63.Entry.Sess, .int .i64 x_63.Entry.Seq, .int .i64 x_63.Entry.Cmd.Kind, .int .i64 x_63.Entry.Cmd.Who, v_74, v_76, v_78] : List Value).toArray) (fun w hS => r_load hm rfl (hS.load_agg (p := 7) (us := [.int .i64 x_63.Kind, .int .i64 x_63.From, .int .i64 x_63.To, .int .i64 x_63.View, .int .i64 x_63.Inst, .int .i64 x_63.Len, .bool x_63.Has, .int .i64 x_63.Members, .int .i64 x_63.Source, .int .i64 x_63.At, .int .i64 x_63.Total, v_64, .int .i64 x_63.Hop, .int .i64 x_63.Seq, v_68, v_72, .int .i64 x_63.Index, .int .i64 x_63.Entry.Sess, .int .i64 x_63.Entry.Seq, .int .i64 x_63.Entry.Cmd.Kind, .int .i64 x_63.Entry.Cmd.Who, v_74, v_76, v_78]) rfl Try.underlying29 rfl ti29 rfl rfl)) ?_
          clear hm a; intro a hm
          refine h_take 1 [true, true, false, false, false, false, false, false, false, false, false, false, false, false, false, false, false, false, false, false].toArray rfl (by kernel_rfl) (by kernel_rfl) (by kernel_rfl) (fun _ _ _ _ h => h) rfl rfl rfl rfl hm (hS.sub (.cons (Mem.le.refl _) (.cons (Mem.no_le _) (.cons (Mem.no_le _) (.cons (Mem.no_le _) (.cons (Mem.no_le _) (.cons (Mem.no_le _) (.cons (Mem.no_le _) (.cons (Mem.le.refl _) (.cons (Mem.le.refl _) (.cons (Mem.no_le _) (.cons (Mem.no_le _) (.cons (Mem.no_le _) (Sub.nil _)))))))))))))) (v := .int .i64 t_93) (fun w hS => r_move hm rfl) ?_
          clear hm a; intro a hm
          refine h_take 2 [true, true, true, false, false, false, false, false, false, false, false, false, false, false, false, false, false, false, false, false].toArray rfl (by kernel_rfl) (by kernel_rfl) (by kernel_rfl) (fun _ _ _ _ h => h) rfl rfl rfl rfl hm (hS.sub (.cons (Mem.le.refl _) (.cons (Mem.no_le _) (.cons (Mem.no_le _) (.cons (Mem.no_le _) (.cons (Mem.no_le _) (.cons (Mem.no_le _) (.cons (Mem.no_le _) (.cons (Mem.le.refl _) (.cons (Mem.le.refl _) (.cons (Mem.no_le _) (.cons (Mem.no_le _) (.cons (Mem.no_le _) (Sub.nil _)))))))))))))) (v := .int .i64 t_93) (fun w hS => r_move hm rfl) ?_
          clear hm a; intro a hm
          refine h_take 3 [true, true, true, true, false, false, false, false, false, false, false, false, false, false, false, false, false, false, false, false].toArray rfl (by kernel_rfl) (by kernel_rfl) (by kernel_rfl) (fun _ _ _ _ h => h) rfl rfl rfl rfl hm (hS.sub (.cons (Mem.le.refl _) (.cons (Mem.no_le _) (.cons (Mem.no_le _) (.cons (Mem.no_le _) (.cons (Mem.no_le _) (.cons (Mem.no_le _) (.cons (Mem.no_le _) (.cons (Mem.le.refl _) (.cons (Mem.le.refl _) (.cons (Mem.no_le _) (.cons (Mem.no_le _) (.cons (Mem.no_le _) (Sub.nil _)))))))))))))) (v := .int .i64 t_93) (fun w hS => r_move hm rfl) ?_
          clear hm a; intro a hm
          refine h_take 4 [true, true, true, true, true, false, false, false, false, false, false, false, false, false, false, false, false, false, false, false].toArray rfl (by kernel_rfl) (by kernel_rfl) (by kernel_rfl) (fun _ _ _ _ h => h) rfl rfl rfl rfl hm (hS.sub (.cons (Mem.le.refl _) (.cons (Mem.no_le _) (.cons (Mem.no_le _) (.cons (Mem.no_le _) (.cons (Mem.no_le _) (.cons (Mem.no_le _) (.cons (Mem.no_le _) (.cons (Mem.le.refl _) (.cons (Mem.le.refl _) (.cons (Mem.no_le _) (.cons (Mem.no_le _) (.cons (Mem.no_le _) (Sub.nil _)))))))))))))) (v := .int .i64 (w64 (t_93 + 1))) (fun w hS => r_arith (r := w64 (t_93 + 1)) hm rfl rfl (.inl ⟨rfl, rfl⟩)) ?_
          clear hm a; intro a hm
          refine h_take 5 [true, true, true, true, true, true, false, false, false, false, false, false, false, false, false, false, false, false, false, false].toArray rfl (by kernel_rfl) (by kernel_rfl) (by kernel_rfl) (fun _ _ _ _ h => h) rfl rfl rfl rfl hm (hS.sub (.cons (Mem.le.refl _) (.cons (Mem.no_le _) (.cons (Mem.no_le _) (.cons (Mem.no_le _) (.cons (Mem.no_le _) (.cons (Mem.no_le _) (.cons (Mem.no_le _) (.cons (Mem.le.refl _) (.cons (Mem.le.refl _) (.cons (Mem.no_le _) (.cons (Mem.no_le _) (.cons (Mem.no_le _) (Sub.nil _)))))))))))))) (v := .int .i64 (w64 ((Int.tmod (band .i64 x0 255) 7) + 1))) (fun w hS => r_move hm rfl) ?_
          clear hm a; intro a hm
          obtain ⟨t_239, et_239, H⟩ := Option.bind_eq_some_iff.1 H
          refine h_take 6 [true, true, true, true, true, true, true, false, false, false, false, false, false, false, false, false, false, false, false, false].toArray rfl (by kernel_rfl) (by kernel_rfl) (by kernel_rfl) (fun _ _ _ _ h => h) rfl rfl rfl rfl hm (hS.sub (.cons (Mem.le.refl _) (.cons (Mem.no_le _) (.cons (Mem.no_le _) (.cons (Mem.no_le _) (.cons (Mem.no_le _) (.cons (Mem.no_le _) (.cons (Mem.no_le _) (.cons (Mem.le.refl _) (.cons (Mem.le.refl _) (.cons (Mem.no_le _) (.cons (Mem.no_le _) (.cons (Mem.no_le _) (Sub.nil _)))))))))))))) (v := .int .i64 t_239) (fun w hS => r_div (r := t_239) hm rfl rfl (rem_some et_239).1 (.inr ⟨rfl, (rem_some et_239).2⟩)) ?_
          clear hm a; intro a hm
          refine h_take 7 [true, true, true, true, true, true, true, true, false, false, false, false, false, false, false, false, false, false, false, false].toArray rfl (by kernel_rfl) (by kernel_rfl) (by kernel_rfl) (fun _ _ _ _ h => h) rfl rfl rfl rfl hm (hS.sub (.cons (Mem.le.refl _) (.cons (Mem.no_le _) (.cons (Mem.no_le _) (.cons (Mem.no_le _) (.cons (Mem.no_le _) (.cons (Mem.no_le _) (.cons (Mem.no_le _) (.cons (Mem.le.refl _) (.cons (Mem.le.refl _) (.cons (Mem.no_le _) (.cons (Mem.no_le _) (.cons (Mem.no_le _) (Sub.nil _)))))))))))))) (v := v_59) (fun w hS => r_move hm rfl) ?_
          clear hm a; intro a hm
          refine h_take 8 [true, true, true, true, true, true, true, true, true, false, false, false, false, false, false, false, false, false, false, false].toArray rfl (by kernel_rfl) (by kernel_rfl) (by kernel_rfl) (fun _ _ _ _ h => h) rfl rfl rfl rfl hm (hS.sub (.cons (Mem.le.refl _) (.cons (Mem.no_le _) (.cons (Mem.no_le _) (.cons (Mem.no_le _) (.cons (Mem.no_le _) (.cons (Mem.no_le _) (.cons (Mem.no_le _) (.cons (Mem.le.refl _) (.cons (Mem.le.refl _) (.cons (Mem.no_le _) (.cons (Mem.no_le _) (.cons (Mem.no_le _) (Sub.nil _)))))))))))))) (v := .int .i64 t_93) (fun w hS => r_move hm rfl) ?_
          clear hm a; intro a hm
          obtain ⟨t_240, et_240, H⟩ := Option.bind_eq_some_iff.1 H
          refine h_takeE 9 [true, true, true, true, true, true, true, true, true, true, false, false, false, false, false, false, false, false, false, false].toArray rfl (by kernel_rfl) (by kernel_rfl) (by kernel_rfl) (fun _ _ _ _ h => h) rfl rfl rfl rfl hm (hS.sub (.cons (Mem.le.refl _) (.cons (Mem.no_le _) (.cons (Mem.no_le _) (.cons (Mem.no_le _) (.cons (Mem.no_le _) (.cons (Mem.no_le _) (.cons (Mem.no_le _) (.cons (Mem.le.refl _) (.cons (Mem.le.refl _) (.cons (Mem.no_le _) (.cons (Mem.no_le _) (.cons (Mem.no_le _) (Sub.nil _)))))))))))))) (f := fun ad => .pointer (some ad)) (r_indexO hm Try.underlying23 ti3 rfl rfl rfl ho_121 et_240) ?_
          rintro ad_241 ⟨cs_242, hk_243, hc_244⟩
          obtain rfl := (show cs_242 = [.int .i64 t_240] from hk_243)
          clear hm a; intro a hm
          refine h_take 10 [true, true, true, true, true, true, true, true, true, true, true, false, false, false, false, false, false, false, false, false].toArray rfl (by kernel_rfl) (by kernel_rfl) (by kernel_rfl) (fun _ _ _ _ h => h) rfl rfl rfl rfl hm (hS.sub (.cons (Mem.le.refl _) (.cons (Mem.no_le _) (.cons (Mem.no_le _) (.cons (Mem.no_le _) (.cons (Mem.no_le _) (.cons (Mem.no_le _) (.cons (Mem.no_le _) (.cons (Mem.le.refl _) (.cons (Mem.le.refl _) (.cons (Mem.no_le _) (.cons (Mem.no_le _) (.cons (Mem.no_le _) (Sub.nil _)))))))))))))) (v := .int .i64 t_240) (fun w hS => r_load hm rfl (el_one (o := 0) (fun j c h => Mem.cell_le (hS.own 8) (hc_244 j c h)) Try.underlying3 rfl rfl)) ?_
          clear hm a; intro a hm
          refine h_take 11 [true, true, true, true, true, true, true, true, true, true, true, true, false, false, false, false, false, false, false, false].toArray rfl (by kernel_rfl) (by kernel_rfl) (by kernel_rfl) (fun _ _ _ _ h => h) rfl rfl rfl rfl hm (hS.sub (.cons (Mem.le.refl _) (.cons (Mem.no_le _) (.cons (Mem.no_le _) (.cons (Mem.no_le _) (.cons (Mem.no_le _) (.cons (Mem.no_le _) (.cons (Mem.no_le _) (.cons (Mem.le.refl _) (.cons (Mem.le.refl _) (.cons (Mem.no_le _) (.cons (Mem.no_le _) (.cons (Mem.no_le _) (Sub.nil _)))))))))))))) (v := .int .i64 (band .i64 t_98 7)) (fun w hS => r_move hm rfl) ?_
          clear hm a; intro a hm
          refine h_take 12 [true, true, true, true, true, true, true, true, true, true, true, true, true, false, false, false, false, false, false, false].toArray rfl (by kernel_rfl) (by kernel_rfl) (by kernel_rfl) (fun _ _ _ _ h => h) rfl rfl rfl rfl hm (hS.sub (.cons (Mem.le.refl _) (.cons (Mem.no_le _) (.cons (Mem.no_le _) (.cons (Mem.no_le _) (.cons (Mem.no_le _) (.cons (Mem.no_le _) (.cons (Mem.no_le _) (.cons (Mem.le.refl _) (.cons (Mem.le.refl _) (.cons (Mem.no_le _) (.cons (Mem.no_le _) (.cons (Mem.no_le _) (Sub.nil _)))))))))))))) (v := v_132) (fun w hS => r_move hm rfl) ?_
          clear hm a; intro a hm
          obtain ⟨t_248, et_248, H⟩ := Option.bind_eq_some_iff.1 H
          refine h_events [13, 17] (by kernel_rfl) (by simp) ?_
          intro i hi; simp only [List.mem_cons, List.not_mem_nil, or_false] at hi; rcases hi with rfl | rfl
          · refine ⟨_, [true, true, true, true, true, true, true, true, true, true, true, true, true, true, false, false, false, false, false, false].toArray, rfl, rfl, ?_⟩
            obtain ⟨N_245, hS', le_245, lo_245⟩ := hS.freeze 8 rfl
            replace hS : Sep w0 w_238 [N_245, Mem.no, Mem.no, Mem.no, Mem.no, Mem.no, Mem.no, Mem.one g_30 (.cells ([.int .i64 x_63.Kind, .int .i64 x_63.From, .int .i64 x_63.To, .int .i64 x_63.View, .int .i64 x_63.Inst, .int .i64 x_63.Len, .bool x_63.Has, .int .i64 x_63.Members, .int .i64 x_63.Source, .int .i64 x_63.At, .int .i64 x_63.Total, v_64, .int .i64 x_63.Hop, .int .i64 x_63.Seq, v_68, v_72, .int .i64 x_63.Index, .int .i64 x_63.Entry.Sess, .int .i64 x_63.Entry.Seq, .int .i64 x_63.Entry.Cmd.Kind, .int .i64 x_63.Entry.Cmd.Who, v_74, v_76, v_78] : List Value).toArray 29 (0, 0)), M_120, Mem.no, M_70, M_130] Z := hS'
            clear hS'
            obtain ⟨N_246, hS', le_246, lo_246⟩ := hS.freeze 9 rfl
            replace hS : Sep w0 w_238 [N_246, Mem.no, Mem.no, Mem.no, Mem.no, Mem.no, Mem.no, Mem.one g_30 (.cells ([.int .i64 x_63.Kind, .int .i64 x_63.From, .int .i64 x_63.To, .int .i64 x_63.View, .int .i64 x_63.Inst, .int .i64 x_63.Len, .bool x_63.Has, .int .i64 x_63.Members, .int .i64 x_63.Source, .int .i64 x_63.At, .int .i64 x_63.Total, v_64, .int .i64 x_63.Hop, .int .i64 x_63.Seq, v_68, v_72, .int .i64 x_63.Index, .int .i64 x_63.Entry.Sess, .int .i64 x_63.Entry.Seq, .int .i64 x_63.Entry.Cmd.Kind, .int .i64 x_63.Entry.Cmd.Who, v_74, v_76, v_78] : List Value).toArray 29 (0, 0)), M_120, Mem.no, Mem.no, M_130] Z := hS'
            clear hS'
            obtain ⟨N_247, hS', le_247, lo_247⟩ := hS.freeze 10 rfl
            replace hS : Sep w0 w_238 [N_247, Mem.no, Mem.no, Mem.no, Mem.no, Mem.no, Mem.no, Mem.one g_30 (.cells ([.int .i64 x_63.Kind, .int .i64 x_63.From, .int .i64 x_63.To, .int .i64 x_63.View, .int .i64 x_63.Inst, .int .i64 x_63.Len, .bool x_63.Has, .int .i64 x_63.Members, .int .i64 x_63.Source, .int .i64 x_63.At, .int .i64 x_63.Total, v_64, .int .i64 x_63.Hop, .int .i64 x_63.Seq, v_68, v_72, .int .i64 x_63.Index, .int .i64 x_63.Entry.Sess, .int .i64 x_63.Entry.Seq, .int .i64 x_63.Entry.Cmd.Kind, .int .i64 x_63.Entry.Cmd.Who, v_74, v_76, v_78] : List Value).toArray 29 (0, 0)), M_120, Mem.no, Mem.no, Mem.no] Z := hS'
            clear hS'
            refine s_call hm rfl Try.call34 rfl (tokn_Pass.calls K x_63 _ _ _ _ _ _ t_93 t_93 t_239 t_240 (band .i64 t_98 7) ([] : List Int) _ x_129 _ t_248 w0 _ _ N_247 (hS.new_zed []) (hS.enter [] (by decide)) (hr_65.mono (le_88.trans (le_97.trans (le_128.trans (le_245.trans (le_246.trans le_247)))))) ((ho_69.rd lo_245 (Mem.no_le _)).mono (le_246.trans le_247)) ((ho_73.rd lo_246 (Mem.no_le _)).mono le_247) (hr_75.mono (le_88.trans (le_97.trans (le_128.trans (le_245.trans (le_246.trans le_247)))))) (hr_77.mono (le_88.trans (le_97.trans (le_128.trans (le_245.trans (le_246.trans le_247)))))) (hr_79.mono (le_88.trans (le_97.trans (le_128.trans (le_245.trans (le_246.trans le_247)))))) (Rd.nil _ _) (ho_133.rd lo_247 (Mem.no_le _)) et_248) ?_
            rintro _ w_249 ⟨v_252, v_254, v_258, v_262, v_264, v_266, v_268, N_250, M_256, M_260, M_270, rfl, hS', hr_253, hr_255, hr_259, hr_263, hr_265, hr_267, hr_269⟩
            clear hm a; intro a hm
            obtain ⟨N_251, hS'', le_251, ln_251⟩ := hS.call [] (by decide) rfl (l' := []) (ow := [M_256, M_260, M_270]) rfl hS'
            replace hS : Sep w0 w_249 [N_251, Mem.no, Mem.no, Mem.no, Mem.no, Mem.no, Mem.no, Mem.one g_30 (.cells ([.int .i64 x_63.Kind, .int .i64 x_63.From, .int .i64 x_63.To, .int .i64 x_63.View, .int .i64 x_63.Inst, .int .i64 x_63.Len, .bool x_63.Has, .int .i64 x_63.Members, .int .i64 x_63.Source, .int .i64 x_63.At, .int .i64 x_63.Total, v_64, .int .i64 x_63.Hop, .int .i64 x_63.Seq, v_68, v_72, .int .i64 x_63.Index, .int .i64 x_63.Entry.Sess, .int .i64 x_63.Entry.Seq, .int .i64 x_63.Entry.Cmd.Kind, .int .i64 x_63.Entry.Cmd.Who, v_74, v_76, v_78] : List Value).toArray 29 (0, 0)), M_120, Mem.no, Mem.no, Mem.no, M_256, M_260, M_270] Z := hS''
            clear hS' hS''
            refine wpList_nil ?_
            refine x_then_n ⟨(hS.sub (.cons (le_245.trans (le_246.trans (le_247.trans le_251))) (.cons (Mem.no_le _) (.cons (Mem.no_le _) (.cons (Mem.no_le _) (.cons (Mem.no_le _) (.cons (Mem.no_le _) (.cons (Mem.no_le _) (.cons (Mem.le.refl _) (.cons (Mem.le.refl _) (.cons (Mem.no_le _) (.cons (Mem.no_le _) (.cons (Mem.no_le _) (Sub.nil _)))))))))))))), ?_⟩
            refine h_take 14 [true, true, true, true, true, true, true, true, true, true, true, true, true, true, true, false, false, false, false, false].toArray rfl (by kernel_rfl) (by kernel_rfl) (by kernel_rfl) (fun _ _ _ _ h => h) rfl rfl rfl rfl hm (hS.sub (.cons (le_245.trans (le_246.trans (le_247.trans le_251))) (.cons (Mem.no_le _) (.cons (Mem.no_le _) (.cons (Mem.no_le _) (.cons (Mem.no_le _) (.cons (Mem.no_le _) (.cons (Mem.no_le _) (.cons (Mem.le.refl _) (.cons (Mem.le.refl _) (.cons (Mem.no_le _) (.cons (Mem.no_le _) (.cons (Mem.no_le _) (Sub.nil _)))))))))))))) (v := .tuple [.agg ([.int .i64 t_248.1.Kind, .int .i64 t_248.1.From, .int .i64 t_248.1.To, .int .i64 t_248.1.View, .int .i64 t_248.1.Inst, .int .i64 t_248.1.Len, .bool t_248.1.Has, .int .i64 t_248.1.Members, .int .i64 t_248.1.Source, .int .i64 t_248.1.At, .int .i64 t_248.1.Total, v_252, .int .i64 t_248.1.Hop, .int .i64 t_248.1.Seq, v_254, v_258, .int .i64 t_248.1.Index, .int .i64 t_248.1.Entry.Sess, .int .i64 t_248.1.Entry.Seq, .int .i64 t_248.1.Entry.Cmd.Kind, .int .i64 t_248.1.Entry.Cmd.Who, v_262, v_264, v_266] : List Value).toArray, v_268].toArray) (fun w hS => r_move hm rfl) ?_
            clear hm a; intro a hm
            refine h_take 15 [true, true, true, true, true, true, true, true, true, true, true, true, true, true, true, true, false, false, false, false].toArray rfl (by kernel_rfl) (by kernel_rfl) (by kernel_rfl) (fun _ _ _ _ h => h) rfl rfl rfl rfl hm (hS.sub (.cons (le_245.trans (le_246.trans (le_247.trans le_251))) (.cons (Mem.no_le _) (.cons (Mem.no_le _) (.cons (Mem.no_le _) (.cons (Mem.no_le _) (.cons (Mem.no_le _) (.cons (Mem.no_le _) (.cons (Mem.le.refl _) (.cons (Mem.le.refl _) (.cons (Mem.no_le _) (.cons (Mem.no_le _) (.cons (Mem.no_le _) (Sub.nil _)))))))))))))) (v := .agg ([.int .i64 t_248.1.Kind, .int .i64 t_248.1.From, .int .i64 t_248.1.To, .int .i64 t_248.1.View, .int .i64 t_248.1.Inst, .int .i64 t_248.1.Len, .bool t_248.1.Has, .int .i64 t_248.1.Members, .int .i64 t_248.1.Source, .int .i64 t_248.1.At, .int .i64 t_248.1.Total, v_252, .int .i64 t_248.1.Hop, .int .i64 t_248.1.Seq, v_254, v_258, .int .i64 t_248.1.Index, .int .i64 t_248.1.Entry.Sess, .int .i64 t_248.1.Entry.Seq, .int .i64 t_248.1.Entry.Cmd.Kind, .int .i64 t_248.1.Entry.Cmd.Who, v_262, v_264, v_266] : List Value).toArray) (fun w hS => r_extract hm rfl rfl) ?_
            clear hm a; intro a hm
            refine h_take 16 [true, true, true, true, true, true, true, true, true, true, true, true, true, true, true, true, true, false, false, false].toArray rfl (by kernel_rfl) (by kernel_rfl) (by kernel_rfl) (fun _ _ _ _ h => h) rfl rfl rfl rfl hm (hS.sub (.cons (le_245.trans (le_246.trans (le_247.trans le_251))) (.cons (Mem.no_le _) (.cons (Mem.no_le _) (.cons (Mem.no_le _) (.cons (Mem.no_le _) (.cons (Mem.no_le _) (.cons (Mem.no_le _) (.cons (Mem.le.refl _) (.cons (Mem.le.refl _) (.cons (Mem.no_le _) (.cons (Mem.no_le _) (.cons (Mem.no_le _) (Sub.nil _)))))))))))))) (v := v_268) (fun w hS => r_extract hm rfl rfl) ?_
            clear hm a; intro a hm
            refine h_event 17 [true, true, true, true, true, true, true, true, true, true, true, true, true, true, true, true, true, true, false, false].toArray rfl (by kernel_rfl) rfl ?_
            refine v_alloc hm rfl ti29 hS ?_
            intro w_272 g_273 hS'
            clear hm a; intro a hm
            replace hS : Sep w0 w_272 [N_251, Mem.no, Mem.no, Mem.no, Mem.no, Mem.no, Mem.no, Mem.one g_30 (.cells ([.int .i64 x_63.Kind, .int .i64 x_63.From, .int .i64 x_63.To, .int .i64 x_63.View, .int .i64 x_63.Inst, .int .i64 x_63.Len, .bool x_63.Has, .int .i64 x_63.Members, .int .i64 x_63.Source, .int .i64 x_63.At, .int .i64 x_63.Total, v_64, .int .i64 x_63.Hop, .int .i64 x_63.Seq, v_68, v_72, .int .i64 x_63.Index, .int .i64 x_63.Entry.Sess, .int .i64 x_63.Entry.Seq, .int .i64 x_63.Entry.Cmd.Kind, .int .i64 x_63.Entry.Cmd.Who, v_74, v_76, v_78] : List Value).toArray 29 (0, 0)), M_120, Mem.no, Mem.no, Mem.no, M_256, M_260, M_270, Mem.one g_273 (.cells ([.int .i64 0, .int .i64 0, .int .i64 0, .int .i64 0, .int .i64 0, .int .i64 0, .bool false, .int .i64 0, .int .i64 0, .int .i64 0, .int .i64 0, .slice none 0 0, .int .i64 0, .int .i64 0, .slice none 0 0, .slice none 0 0, .int .i64 0, .int .i64 0, .int .i64 0, .int .i64 0, .int .i64 0, .slice none 0 0, .slice none 0 0, .slice none 0 0] : List Value).toArray 29 (0, 0))] Z := hS'
            clear hS'
            refine wpList_nil ?_
            refine x_then_n ⟨(hS.sub (.cons (le_245.trans (le_246.trans (le_247.trans le_251))) (.cons (Mem.no_le _) (.cons (Mem.no_le _) (.cons (Mem.no_le _) (.cons (Mem.no_le _) (.cons (Mem.no_le _) (.cons (Mem.no_le _) (.cons (Mem.le.refl _) (.cons (Mem.le.refl _) (.cons (Mem.no_le _) (.cons (Mem.no_le _) (.cons (Mem.no_le _) (Sub.nil _)))))))))))))), ?_⟩
            refine h_event 18 [true, true, true, true, true, true, true, true, true, true, true, true, true, true, true, true, true, true, true, false].toArray rfl (by kernel_rfl) rfl ?_
            obtain ⟨w_274, hs', hS'⟩ := hS.store (P := Try.prog) (p := 15) (o := 0) (t := 29) (v := .agg ([.int .i64 t_248.1.Kind, .int .i64 t_248.1.From, .int .i64 t_248.1.To, .int .i64 t_248.1.View, .int .i64 t_248.1.Inst, .int .i64 t_248.1.Len, .bool t_248.1.Has, .int .i64 t_248.1.Members, .int .i64 t_248.1.Source, .int .i64 t_248.1.At, .int .i64 t_248.1.Total, v_252, .int .i64 t_248.1.Hop, .int .i64 t_248.1.Seq, v_254, v_258, .int .i64 t_248.1.Index, .int .i64 t_248.1.Entry.Sess, .int .i64 t_248.1.Entry.Seq, .int .i64 t_248.1.Entry.Cmd.Kind, .int .i64 t_248.1.Entry.Cmd.Who, v_262, v_264, v_266] : List Value).toArray) (vs := [.int .i64 t_248.1.Kind, .int .i64 t_248.1.From, .int .i64 t_248.1.To, .int .i64 t_248.1.View, .int .i64 t_248.1.Inst, .int .i64 t_248.1.Len, .bool t_248.1.Has, .int .i64 t_248.1.Members, .int .i64 t_248.1.Source, .int .i64 t_248.1.At, .int .i64 t_248.1.Total, v_252, .int .i64 t_248.1.Hop, .int .i64 t_248.1.Seq, v_254, v_258, .int .i64 t_248.1.Index, .int .i64 t_248.1.Entry.Sess, .int .i64 t_248.1.Entry.Seq, .int .i64 t_248.1.Entry.Cmd.Kind, .int .i64 t_248.1.Entry.Cmd.Who, v_262, v_264, v_266]) rfl ti29 rfl rfl rfl (by intro u hu; simp only [List.mem_cons, List.not_mem_nil, or_false] at hu; rcases hu with rfl | rfl | rfl | rfl | rfl | rfl | rfl | rfl | rfl | rfl | rfl | rfl | rfl | rfl | rfl | rfl | rfl | rfl | rfl | rfl | rfl | rfl | rfl | rfl <;> first | rfl | exact (hr_253.mono (Mem.un_le le_251 ln_251)).one | exact hr_255.one | exact hr_259.one | exact (hr_263.mono (Mem.un_le le_251 ln_251)).one | exact (hr_265.mono (Mem.un_le le_251 ln_251)).one | exact (hr_267.mono (Mem.un_le le_251 ln_251)).one)
            refine s_store hm rfl rfl hs' ?_
            replace hS : Sep w0 w_274 [N_251, Mem.no, Mem.no, Mem.no, Mem.no, Mem.no, Mem.no, Mem.one g_30 (.cells ([.int .i64 x_63.Kind, .int .i64 x_63.From, .int .i64 x_63.To, .int .i64 x_63.View, .int .i64 x_63.Inst, .int .i64 x_63.Len, .bool x_63.Has, .int .i64 x_63.Members, .int .i64 x_63.Source, .int .i64 x_63.At, .int .i64 x_63.Total, v_64, .int .i64 x_63.Hop, .int .i64 x_63.Seq, v_68, v_72, .int .i64 x_63.Index, .int .i64 x_63.Entry.Sess, .int .i64 x_63.Entry.Seq, .int .i64 x_63.Entry.Cmd.Kind, .int .i64 x_63.Entry.Cmd.Who, v_74, v_76, v_78] : List Value).toArray 29 (0, 0)), M_120, Mem.no, Mem.no, Mem.no, M_256, M_260, M_270, Mem.one g_273 (.cells ([.int .i64 t_248.1.Kind, .int .i64 t_248.1.From, .int .i64 t_248.1.To, .int .i64 t_248.1.View, .int .i64 t_248.1.Inst, .int .i64 t_248.1.Len, .bool t_248.1.Has, .int .i64 t_248.1.Members, .int .i64 t_248.1.Source, .int .i64 t_248.1.At, .int .i64 t_248.1.Total, v_252, .int .i64 t_248.1.Hop, .int .i64 t_248.1.Seq, v_254, v_258, .int .i64 t_248.1.Index, .int .i64 t_248.1.Entry.Sess, .int .i64 t_248.1.Entry.Seq, .int .i64 t_248.1.Entry.Cmd.Kind, .int .i64 t_248.1.Entry.Cmd.Who, v_262, v_264, v_266] : List Value).toArray 29 (0, 0))] Z := hS'
            clear hs' hS'
            refine wpList_nil ?_
            refine x_then_n ⟨(hS.sub (.cons (le_245.trans (le_246.trans (le_247.trans le_251))) (.cons (Mem.no_le _) (.cons (Mem.no_le _) (.cons (Mem.no_le _) (.cons (Mem.no_le _) (.cons (Mem.no_le _) (.cons (Mem.no_le _) (.cons (Mem.le.refl _) (.cons (Mem.le.refl _) (.cons (Mem.no_le _) (.cons (Mem.no_le _) (.cons (Mem.no_le _) (Sub.nil _)))))))))))))), ?_⟩
            refine h_take 19 [true, true, true, true, true, true, true, true, true, true, true, true, true, true, true, true, true, true, true, true].toArray rfl (by kernel_rfl) (by kernel_rfl) (by kernel_rfl) (fun _ _ _ _ h => h) rfl rfl rfl rfl hm (hS.sub (.cons (le_245.trans (le_246.trans (le_247.trans le_251))) (.cons (Mem.no_le _) (.cons (Mem.no_le _) (.cons (Mem.no_le _) (.cons (Mem.no_le _) (.cons (Mem.no_le _) (.cons (Mem.no_le _) (.cons (Mem.le.refl _) (.cons (Mem.le.refl _) (.cons (Mem.no_le _) (.cons (Mem.no_le _) (.cons (Mem.no_le _) (Sub.nil _)))))))))))))) (v := v_268) (fun w hS => r_assign hm rfl) ?_
            clear hm a; intro a hm
            refine h_done (by kernel_rfl) ?_
            replace hm : Fr 215 a [(0, .int .i64 (w64 ((Int.tmod (band .i64 x0 255) 7) + 1))), (1, p1_0), (6, .bool false), (7, .pointer (some ⟨g_30, 0, none⟩)), (8, v_59), (10, .int .i64 x_61), (11, .int .i64 x_62), (15, .int .i64 (w64 (x_63.Seq + (mn (band .i64 t_98 7) t_94)))), (18, .pointer (some ⟨g_273, 0, none⟩))] := hm.keep [0, 1, 6, 7, 8, 10, 11, 15, 18]
            replace hS : Sep w0 w_274 [N_251, Mem.no, Mem.no, Mem.no, Mem.no, Mem.no, Mem.no, Mem.one g_30 (.cells ([.int .i64 x_63.Kind, .int .i64 x_63.From, .int .i64 x_63.To, .int .i64 x_63.View, .int .i64 x_63.Inst, .int .i64 x_63.Len, .bool x_63.Has, .int .i64 x_63.Members, .int .i64 x_63.Source, .int .i64 x_63.At, .int .i64 x_63.Total, v_64, .int .i64 x_63.Hop, .int .i64 x_63.Seq, v_68, v_72, .int .i64 x_63.Index, .int .i64 x_63.Entry.Sess, .int .i64 x_63.Entry.Seq, .int .i64 x_63.Entry.Cmd.Kind, .int .i64 x_63.Entry.Cmd.Who, v_74, v_76, v_78] : List Value).toArray 29 (0, 0)), M_120, Mem.no, Mem.no, Mem.no, M_256, M_260, M_270, Mem.one g_273 (.cells ([.int .i64 t_248.1.Kind, .int .i64 t_248.1.From, .int .i64 t_248.1.To, .int .i64 t_248.1.View, .int .i64 t_248.1.Inst, .int .i64 t_248.1.Len, .bool t_248.1.Has, .int .i64 t_248.1.Members, .int .i64 t_248.1.Source, .int .i64 t_248.1.At, .int .i64 t_248.1.Total, v_252, .int .i64 t_248.1.Hop, .int .i64 t_248.1.Seq, v_254, v_258, .int .i64 t_248.1.Index, .int .i64 t_248.1.Entry.Sess, .int .i64 t_248.1.Entry.Seq, .int .i64 t_248.1.Entry.Cmd.Kind, .int .i64 t_248.1.Entry.Cmd.Who, v_262, v_264, v_266] : List Value).toArray 29 (0, 0))] Z := hS
            replace hm : Fr 215 a [(0, .int .i64 (w64 ((Int.tmod (band .i64 x0 255) 7) + 1))), (1, p1_0), (6, .bool false), (7, .pointer (some ⟨g_30, 0, none⟩)), (8, v_59), (10, .int .i64 x_61), (11, .int .i64 x_62), (15, .int .i64 (w64 (x_63.Seq + (mn (band .i64 t_98 7) t_94)))), (18, .pointer (some ⟨g_273, 0, none⟩))] := hm.keep [0, 1, 6, 7, 8, 10, 11, 15, 18]
            exact x_then_n (hJ_j_170 t_248.1 x_63 H _ _ ⟨v_252, v_254, v_258, v_262, v_264, v_266, v_64, v_68, v_72, v_74, v_76, v_78, g_273, N_251, M_256, M_260, hm, (Sep.sel hS [0, 1000, 1001, 1002, 1003, 1004, 1005, 7, 8, 1008, 1009, 1010, 15, 12, 13] (by decide)), (le_245.trans (le_246.trans (le_247.trans le_251))), (hr_253.mono (Mem.un_le le_251 ln_251)), hr_255, hr_259, (hr_263.mono (Mem.un_le le_251 ln_251)), (hr_265.mono (Mem.un_le le_251 ln_251)), (hr_267.mono (Mem.un_le le_251 ln_251)), (hr_65.mono (le_88.trans (le_97.trans (le_128.trans (le_245.trans (le_246.trans (le_247.trans le_251))))))), ((ho_69.rd lo_245 (Mem.no_le _)).mono (le_246.trans (le_247.trans le_251))), ((ho_73.rd lo_246 (Mem.no_le _)).mono (le_247.trans le_251)), (hr_75.mono (le_88.trans (le_97.trans (le_128.trans (le_245.trans (le_246.trans (le_247.trans le_251))))))), (hr_77.mono (le_88.trans (le_97.trans (le_128.trans (le_245.trans (le_246.trans (le_247.trans le_251))))))), (hr_79.mono (le_88.trans (le_97.trans (le_128.trans (le_245.trans (le_246.trans (le_247.trans le_251)))))))⟩)
          · refine ⟨_, [true, true, true, true, true, true, true, true, true, true, true, true, true, false, false, false, false, true, false, false].toArray, rfl, rfl, ?_⟩
            refine v_alloc hm rfl ti29 hS ?_
            intro w_275 g_276 hS'
            clear hm a; intro a hm
            replace hS : Sep w0 w_275 [N_128, Mem.no, Mem.no, Mem.no, Mem.no, Mem.no, Mem.no, Mem.one g_30 (.cells ([.int .i64 x_63.Kind, .int .i64 x_63.From, .int .i64 x_63.To, .int .i64 x_63.View, .int .i64 x_63.Inst, .int .i64 x_63.Len, .bool x_63.Has, .int .i64 x_63.Members, .int .i64 x_63.Source, .int .i64 x_63.At, .int .i64 x_63.Total, v_64, .int .i64 x_63.Hop, .int .i64 x_63.Seq, v_68, v_72, .int .i64 x_63.Index, .int .i64 x_63.Entry.Sess, .int .i64 x_63.Entry.Seq, .int .i64 x_63.Entry.Cmd.Kind, .int .i64 x_63.Entry.Cmd.Who, v_74, v_76, v_78] : List Value).toArray 29 (0, 0)), M_120, M_66, M_70, M_130, Mem.one g_276 (.cells ([.int .i64 0, .int .i64 0, .int .i64 0, .int .i64 0, .int .i64 0, .int .i64 0, .bool false, .int .i64 0, .int .i64 0, .int .i64 0, .int .i64 0, .slice none 0 0, .int .i64 0, .int .i64 0, .slice none 0 0, .slice none 0 0, .int .i64 0, .int .i64 0, .int .i64 0, .int .i64 0, .int .i64 0, .slice none 0 0, .slice none 0 0, .slice none 0 0] : List Value).toArray 29 (0, 0))] Z := hS'
            clear hS'
            refine wpList_nil ?_
            refine x_then_n ⟨(hS.sub (.cons (Mem.le.refl _) (.cons (Mem.no_le _) (.cons (Mem.no_le _) (.cons (Mem.no_le _) (.cons (Mem.no_le _) (.cons (Mem.no_le _) (.cons (Mem.no_le _) (.cons (Mem.le.refl _) (.cons (Mem.le.refl _) (.cons (Mem.no_le _) (.cons (Mem.no_le _) (.cons (Mem.no_le _) (Sub.nil _)))))))))))))), ?_⟩
            refine h_event 13 [true, true, true, true, true, true, true, true, true, true, true, true, true, true, false, false, false, true, false, false].toArray rfl (by kernel_rfl) rfl ?_
            obtain ⟨N_277, hS', le_277, lo_277⟩ := hS.freeze 8 rfl
            replace hS : Sep w0 w_275 [N_277, Mem.no, Mem.no, Mem.no, Mem.no, Mem.no, Mem.no, Mem.one g_30 (.cells ([.int .i64 x_63.Kind, .int .i64 x_63.From, .int .i64 x_63.To, .int .i64 x_63.View, .int .i64 x_63.Inst, .int .i64 x_63.Len, .bool x_63.Has, .int .i64 x_63.Members, .int .i64 x_63.Source, .int .i64 x_63.At, .int .i64 x_63.Total, v_64, .int .i64 x_63.Hop, .int .i64 x_63.Seq, v_68, v_72, .int .i64 x_63.Index, .int .i64 x_63.Entry.Sess, .int .i64 x_63.Entry.Seq, .int .i64 x_63.Entry.Cmd.Kind, .int .i64 x_63.Entry.Cmd.Who, v_74, v_76, v_78] : List Value).toArray 29 (0, 0)), M_120, Mem.no, M_70, M_130, Mem.one g_276 (.cells ([.int .i64 0, .int .i64 0, .int .i64 0, .int .i64 0, .int .i64 0, .int .i64 0, .bool false, .int .i64 0, .int .i64 0, .int .i64 0, .int .i64 0, .slice none 0 0, .int .i64 0, .int .i64 0, .slice none 0 0, .slice none 0 0, .int .i64 0, .int .i64 0, .int .i64 0, .int .i64 0, .int .i64 0, .slice none 0 0, .slice none 0 0, .slice none 0 0] : List Value).toArray 29 (0, 0))] Z := hS'
            clear hS'
            obtain ⟨N_278, hS', le_278, lo_278⟩ := hS.freeze 9 rfl
            replace hS : Sep w0 w_275 [N_278, Mem.no, Mem.no, Mem.no, Mem.no, Mem.no, Mem.no, Mem.one g_30 (.cells ([.int .i64 x_63.Kind, .int .i64 x_63.From, .int .i64 x_63.To, .int .i64 x_63.View, .int .i64 x_63.Inst, .int .i64 x_63.Len, .bool x_63.Has, .int .i64 x_63.Members, .int .i64 x_63.Source, .int .i64 x_63.At, .int .i64 x_63.Total, v_64, .int .i64 x_63.Hop, .int .i64 x_63.Seq, v_68, v_72, .int .i64 x_63.Index, .int .i64 x_63.Entry.Sess, .int .i64 x_63.Entry.Seq, .int .i64 x_63.Entry.Cmd.Kind, .int .i64 x_63.Entry.Cmd.Who, v_74, v_76, v_78] : List Value).toArray 29 (0, 0)), M_120, Mem.no, Mem.no, M_130, Mem.one g_276 (.cells ([.int .i64 0, .int .i64 0, .int .i64 0, .int .i64 0, .int .i64 0, .int .i64 0, .bool false, .int .i64 0, .int .i64 0, .int .i64 0, .int .i64 0, .slice none 0 0, .int .i64 0, .int .i64 0, .slice none 0 0, .slice none 0 0, .int .i64 0, .int .i64 0, .int .i64 0, .int .i64 0, .int .i64 0, .slice none 0 0, .slice none 0 0, .slice none 0 0] : List Value).toArray 29 (0, 0))] Z := hS'
            clear hS'
            obtain ⟨N_279, hS', le_279, lo_279⟩ := hS.freeze 10 rfl
            replace hS : Sep w0 w_275 [N_279, Mem.no, Mem.no, Mem.no, Mem.no, Mem.no, Mem.no, Mem.one g_30 (.cells ([.int .i64 x_63.Kind, .int .i64 x_63.From, .int .i64 x_63.To, .int .i64 x_63.View, .int .i64 x_63.Inst, .int .i64 x_63.Len, .bool x_63.Has, .int .i64 x_63.Members, .int .i64 x_63.Source, .int .i64 x_63.At, .int .i64 x_63.Total, v_64, .int .i64 x_63.Hop, .int .i64 x_63.Seq, v_68, v_72, .int .i64 x_63.Index, .int .i64 x_63.Entry.Sess, .int .i64 x_63.Entry.Seq, .int .i64 x_63.Entry.Cmd.Kind, .int .i64 x_63.Entry.Cmd.Who, v_74, v_76, v_78] : List Value).toArray 29 (0, 0)), M_120, Mem.no, Mem.no, Mem.no, Mem.one g_276 (.cells ([.int .i64 0, .int .i64 0, .int .i64 0, .int .i64 0, .int .i64 0, .int .i64 0, .bool false, .int .i64 0, .int .i64 0, .int .i64 0, .int .i64 0, .slice none 0 0, .int .i64 0, .int .i64 0, .slice none 0 0, .slice none 0 0, .int .i64 0, .int .i64 0, .int .i64 0, .int .i64 0, .int .i64 0, .slice none 0 0, .slice none 0 0, .slice none 0 0] : List Value).toArray 29 (0, 0))] Z := hS'
            clear hS'
            refine s_call hm rfl Try.call34 rfl (tokn_Pass.calls K x_63 _ _ _ _ _ _ t_93 t_93 t_239 t_240 (band .i64 t_98 7) ([] : List Int) _ x_129 _ t_248 w0 _ _ N_279 (hS.new_zed []) (hS.enter [] (by decide)) (hr_65.mono (le_88.trans (le_97.trans (le_128.trans (le_277.trans (le_278.trans le_279)))))) ((ho_69.rd lo_277 (Mem.no_le _)).mono (le_278.trans le_279)) ((ho_73.rd lo_278 (Mem.no_le _)).mono le_279) (hr_75.mono (le_88.trans (le_97.trans (le_128.trans (le_277.trans (le_278.trans le_279)))))) (hr_77.mono (le_88.trans (le_97.trans (le_128.trans (le_277.trans (le_278.trans le_279)))))) (hr_79.mono (le_88.trans (le_97.trans (le_128.trans (le_277.trans (le_278.trans le_279)))))) (Rd.nil _ _) (ho_133.rd lo_279 (Mem.no_le _)) et_248) ?_
            rintro _ w_281 ⟨v_284, v_286, v_290, v_294, v_296, v_298, v_300, N_282, M_288, M_292, M_302, rfl, hS', hr_285, hr_287, hr_291, hr_295, hr_297, hr_299, hr_301⟩
            clear hm a; intro a hm
            obtain ⟨N_283, hS'', le_283, ln_283⟩ := hS.call [] (by decide) rfl (l' := []) (ow := [M_288, M_292, M_302]) rfl hS'
            replace hS : Sep w0 w_281 [N_283, Mem.no, Mem.no, Mem.no, Mem.no, Mem.no, Mem.no, Mem.one g_30 (.cells ([.int .i64 x_63.Kind, .int .i64 x_63.From, .int .i64 x_63.To, .int .i64 x_63.View, .int .i64 x_63.Inst, .int .i64 x_63.Len, .bool x_63.Has, .int .i64 x_63.Members, .int .i64 x_63.Source, .int .i64 x_63.At, .int .i64 x_63.Total, v_64, .int .i64 x_63.Hop, .int .i64 x_63.Seq, v_68, v_72, .int .i64 x_63.Index, .int .i64 x_63.Entry.Sess, .int .i64 x_63.Entry.Seq, .int .i64 x_63.Entry.Cmd.Kind, .int .i64 x_63.Entry.Cmd.Who, v_74, v_76, v_78] : List Value).toArray 29 (0, 0)), M_120, Mem.no, Mem.no, Mem.no, Mem.one g_276 (.cells ([.int .i64 0, .int .i64 0, .int .i64 0, .int .i64 0, .int .i64 0, .int .i64 0, .bool false, .int .i64 0, .int .i64 0, .int .i64 0, .int .i64 0, .slice none 0 0, .int .i64 0, .int .i64 0, .slice none 0 0, .slice none 0 0, .int .i64 0, .int .i64 0, .int .i64 0, .int .i64 0, .int .i64 0, .slice none 0 0, .slice none 0 0, .slice none 0 0] : List Value).toArray 29 (0, 0)), M_288, M_292, M_302] Z := hS''
            clear hS' hS''
            refine wpList_nil ?_
            refine x_then_n ⟨(hS.sub (.cons (le_277.trans (le_278.trans (le_279.trans le_283))) (.cons (Mem.no_le _) (.cons (Mem.no_le _) (.cons (Mem.no_le _) (.cons (Mem.no_le _) (.cons (Mem.no_le _) (.cons (Mem.no_le _) (.cons (Mem.le.refl _) (.cons (Mem.le.refl _) (.cons (Mem.no_le _) (.cons (Mem.no_le _) (.cons (Mem.no_le _) (Sub.nil _)))))))))))))), ?_⟩
            refine h_take 14 [true, true, true, true, true, true, true, true, true, true, true, true, true, true, true, false, false, true, false, false].toArray rfl (by kernel_rfl) (by kernel_rfl) (by kernel_rfl) (fun _ _ _ _ h => h) rfl rfl rfl rfl hm (hS.sub (.cons (le_277.trans (le_278.trans (le_279.trans le_283))) (.cons (Mem.no_le _) (.cons (Mem.no_le _) (.cons (Mem.no_le _) (.cons (Mem.no_le _) (.cons (Mem.no_le _) (.cons (Mem.no_le _) (.cons (Mem.le.refl _) (.cons (Mem.le.refl _) (.cons (Mem.no_le _) (.cons (Mem.no_le _) (.cons (Mem.no_le _) (Sub.nil _)))))))))))))) (v := .tuple [.agg ([.int .i64 t_248.1.Kind, .int .i64 t_248.1.From, .int .i64 t_248.1.To, .int .i64 t_248.1.View, .int .i64 t_248.1.Inst, .int .i64 t_248.1.Len, .bool t_248.1.Has, .int .i64 t_248.1.Members, .int .i64 t_248.1.Source, .int .i64 t_248.1.At, .int .i64 t_248.1.Total, v_284, .int .i64 t_248.1.Hop, .int .i64 t_248.1.Seq, v_286, v_290, .int .i64 t_248.1.Index, .int .i64 t_248.1.Entry.Sess, .int .i64 t_248.1.Entry.Seq, .int .i64 t_248.1.Entry.Cmd.Kind, .int .i64 t_248.1.Entry.Cmd.Who, v_294, v_296, v_298] : List Value).toArray, v_300].toArray) (fun w hS => r_move hm rfl) ?_
            clear hm a; intro a hm
            refine h_take 15 [true, true, true, true, true, true, true, true, true, true, true, true, true, true, true, true, false, true, false, false].toArray rfl (by kernel_rfl) (by kernel_rfl) (by kernel_rfl) (fun _ _ _ _ h => h) rfl rfl rfl rfl hm (hS.sub (.cons (le_277.trans (le_278.trans (le_279.trans le_283))) (.cons (Mem.no_le _) (.cons (Mem.no_le _) (.cons (Mem.no_le _) (.cons (Mem.no_le _) (.cons (Mem.no_le _) (.cons (Mem.no_le _) (.cons (Mem.le.refl _) (.cons (Mem.le.refl _) (.cons (Mem.no_le _) (.cons (Mem.no_le _) (.cons (Mem.no_le _) (Sub.nil _)))))))))))))) (v := .agg ([.int .i64 t_248.1.Kind, .int .i64 t_248.1.From, .int .i64 t_248.1.To, .int .i64 t_248.1.View, .int .i64 t_248.1.Inst, .int .i64 t_248.1.Len, .bool t_248.1.Has, .int .i64 t_248.1.Members, .int .i64 t_248.1.Source, .int .i64 t_248.1.At, .int .i64 t_248.1.Total, v_284, .int .i64 t_248.1.Hop, .int .i64 t_248.1.Seq, v_286, v_290, .int .i64 t_248.1.Index, .int .i64 t_248.1.Entry.Sess, .int .i64 t_248.1.Entry.Seq, .int .i64 t_248.1.Entry.Cmd.Kind, .int .i64 t_248.1.Entry.Cmd.Who, v_294, v_296, v_298] : List Value).toArray) (fun w hS => r_extract hm rfl rfl) ?_
            clear hm a; intro a hm
            refine h_take 16 [true, true, true, true, true, true, true, true, true, true, true, true, true, true, true, true, true, true, false, false].toArray rfl (by kernel_rfl) (by kernel_rfl) (by kernel_rfl) (fun _ _ _ _ h => h) rfl rfl rfl rfl hm (hS.sub (.cons (le_277.trans (le_278.trans (le_279.trans le_283))) (.cons (Mem.no_le _) (.cons (Mem.no_le _) (.cons (Mem.no_le _) (.cons (Mem.no_le _) (.cons (Mem.no_le _) (.cons (Mem.no_le _) (.cons (Mem.le.refl _) (.cons (Mem.le.refl _) (.cons (Mem.no_le _) (.cons (Mem.no_le _) (.cons (Mem.no_le _) (Sub.nil _)))))))))))))) (v := v_300) (fun w hS => r_extract hm rfl rfl) ?_
            clear hm a; intro a hm
            refine h_event 18 [true, true, true, true, true, true, true, true, true, true, true, true, true, true, true, true, true, true, true, false].toArray rfl (by kernel_rfl) rfl ?_
            obtain ⟨w_304, hs', hS'⟩ := hS.store (P := Try.prog) (p := 12) (o := 0) (t := 29) (v := .agg ([.int .i64 t_248.1.Kind, .int .i64 t_248.1.From, .int .i64 t_248.1.To, .int .i64 t_248.1.View, .int .i64 t_248.1.Inst, .int .i64 t_248.1.Len, .bool t_248.1.Has, .int .i64 t_248.1.Members, .int .i64 t_248.1.Source, .int .i64 t_248.1.At, .int .i64 t_248.1.Total, v_284, .int .i64 t_248.1.Hop, .int .i64 t_248.1.Seq, v_286, v_290, .int .i64 t_248.1.Index, .int .i64 t_248.1.Entry.Sess, .int .i64 t_248.1.Entry.Seq, .int .i64 t_248.1.Entry.Cmd.Kind, .int .i64 t_248.1.Entry.Cmd.Who, v_294, v_296, v_298] : List Value).toArray) (vs := [.int .i64 t_248.1.Kind, .int .i64 t_248.1.From, .int .i64 t_248.1.To, .int .i64 t_248.1.View, .int .i64 t_248.1.Inst, .int .i64 t_248.1.Len, .bool t_248.1.Has, .int .i64 t_248.1.Members, .int .i64 t_248.1.Source, .int .i64 t_248.1.At, .int .i64 t_248.1.Total, v_284, .int .i64 t_248.1.Hop, .int .i64 t_248.1.Seq, v_286, v_290, .int .i64 t_248.1.Index, .int .i64 t_248.1.Entry.Sess, .int .i64 t_248.1.Entry.Seq, .int .i64 t_248.1.Entry.Cmd.Kind, .int .i64 t_248.1.Entry.Cmd.Who, v_294, v_296, v_298]) rfl ti29 rfl rfl rfl (by intro u hu; simp only [List.mem_cons, List.not_mem_nil, or_false] at hu; rcases hu with rfl | rfl | rfl | rfl | rfl | rfl | rfl | rfl | rfl | rfl | rfl | rfl | rfl | rfl | rfl | rfl | rfl | rfl | rfl | rfl | rfl | rfl | rfl | rfl <;> first | rfl | exact (hr_285.mono (Mem.un_le le_283 ln_283)).one | exact hr_287.one | exact hr_291.one | exact (hr_295.mono (Mem.un_le le_283 ln_283)).one | exact (hr_297.mono (Mem.un_le le_283 ln_283)).one | exact (hr_299.mono (Mem.un_le le_283 ln_283)).one)
            refine s_store hm rfl rfl hs' ?_
            replace hS : Sep w0 w_304 [N_283, Mem.no, Mem.no, Mem.no, Mem.no, Mem.no, Mem.no, Mem.one g_30 (.cells ([.int .i64 x_63.Kind, .int .i64 x_63.From, .int .i64 x_63.To, .int .i64 x_63.View, .int .i64 x_63.Inst, .int .i64 x_63.Len, .bool x_63.Has, .int .i64 x_63.Members, .int .i64 x_63.Source, .int .i64 x_63.At, .int .i64 x_63.Total, v_64, .int .i64 x_63.Hop, .int .i64 x_63.Seq, v_68, v_72, .int .i64 x_63.Index, .int .i64 x_63.Entry.Sess, .int .i64 x_63.Entry.Seq, .int .i64 x_63.Entry.Cmd.Kind, .int .i64 x_63.Entry.Cmd.Who, v_74, v_76, v_78] : List Value).toArray 29 (0, 0)), M_120, Mem.no, Mem.no, Mem.no, Mem.one g_276 (.cells ([.int .i64 t_248.1.Kind, .int .i64 t_248.1.From, .int .i64 t_248.1.To, .int .i64 t_248.1.View, .int .i64 t_248.1.Inst, .int .i64 t_248.1.Len, .bool t_248.1.Has, .int .i64 t_248.1.Members, .int .i64 t_248.1.Source, .int .i64 t_248.1.At, .int .i64 t_248.1.Total, v_284, .int .i64 t_248.1.Hop, .int .i64 t_248.1.Seq, v_286, v_290, .int .i64 t_248.1.Index, .int .i64 t_248.1.Entry.Sess, .int .i64 t_248.1.Entry.Seq, .int .i64 t_248.1.Entry.Cmd.Kind, .int .i64 t_248.1.Entry.Cmd.Who, v_294, v_296, v_298] : List Value).toArray 29 (0, 0)), M_288, M_292, M_302] Z := hS'
            clear hs' hS'
            refine wpList_nil ?_
            refine x_then_n ⟨(hS.sub (.cons (le_277.trans (le_278.trans (le_279.trans le_283))) (.cons (Mem.no_le _) (.cons (Mem.no_le _) (.cons (Mem.no_le _) (.cons (Mem.no_le _) (.cons (Mem.no_le _) (.cons (Mem.no_le _) (.cons (Mem.le.refl _) (.cons (Mem.le.refl _) (.cons (Mem.no_le _) (.cons (Mem.no_le _) (.cons (Mem.no_le _) (Sub.nil _)))))))))))))), ?_⟩
            refine h_take 19 [true, true, true, true, true, true, true, true, true, true, true, true, true, true, true, true, true, true, true, true].toArray rfl (by kernel_rfl) (by kernel_rfl) (by kernel_rfl) (fun _ _ _ _ h => h) rfl rfl rfl rfl hm (hS.sub (.cons (le_277.trans (le_278.trans (le_279.trans le_283))) (.cons (Mem.no_le _) (.cons (Mem.no_le _) (.cons (Mem.no_le _) (.cons (Mem.no_le _) (.cons (Mem.no_le _) (.cons (Mem.no_le _) (.cons (Mem.le.refl _) (.cons (Mem.le.refl _) (.cons (Mem.no_le _) (.cons (Mem.no_le _) (.cons (Mem.no_le _) (Sub.nil _)))))))))))))) (v := v_300) (fun w hS => r_assign hm rfl) ?_
            clear hm a; intro a hm
            refine h_done (by kernel_rfl) ?_
            replace hm : Fr 215 a [(0, .int .i64 (w64 ((Int.tmod (band .i64 x0 255) 7) + 1))), (1, p1_0), (6, .bool false), (7, .pointer (some ⟨g_30, 0, none⟩)), (8, v_59), (10, .int .i64 x_61), (11, .int .i64 x_62), (15, .int .i64 (w64 (x_63.Seq + (mn (band .i64 t_98 7) t_94)))), (18, .pointer (some ⟨g_276, 0, none⟩))] := hm.keep [0, 1, 6, 7, 8, 10, 11, 15, 18]
            replace hS : Sep w0 w_304 [N_283, Mem.no, Mem.no, Mem.no, Mem.no, Mem.no, Mem.no, Mem.one g_30 (.cells ([.int .i64 x_63.Kind, .int .i64 x_63.From, .int .i64 x_63.To, .int .i64 x_63.View, .int .i64 x_63.Inst, .int .i64 x_63.Len, .bool x_63.Has, .int .i64 x_63.Members, .int .i64 x_63.Source, .int .i64 x_63.At, .int .i64 x_63.Total, v_64, .int .i64 x_63.Hop, .int .i64 x_63.Seq, v_68, v_72, .int .i64 x_63.Index, .int .i64 x_63.Entry.Sess, .int .i64 x_63.Entry.Seq, .int .i64 x_63.Entry.Cmd.Kind, .int .i64 x_63.Entry.Cmd.Who, v_74, v_76, v_78] : List Value).toArray 29 (0, 0)), M_120, Mem.no, Mem.no, Mem.no, Mem.one g_276 (.cells ([.int .i64 t_248.1.Kind, .int .i64 t_248.1.From, .int .i64 t_248.1.To, .int .i64 t_248.1.View, .int .i64 t_248.1.Inst, .int .i64 t_248.1.Len, .bool t_248.1.Has, .int .i64 t_248.1.Members, .int .i64 t_248.1.Source, .int .i64 t_248.1.At, .int .i64 t_248.1.Total, v_284, .int .i64 t_248.1.Hop, .int .i64 t_248.1.Seq, v_286, v_290, .int .i64 t_248.1.Index, .int .i64 t_248.1.Entry.Sess, .int .i64 t_248.1.Entry.Seq, .int .i64 t_248.1.Entry.Cmd.Kind, .int .i64 t_248.1.Entry.Cmd.Who, v_294, v_296, v_298] : List Value).toArray 29 (0, 0)), M_288, M_292, M_302] Z := hS
            replace hm : Fr 215 a [(0, .int .i64 (w64 ((Int.tmod (band .i64 x0 255) 7) + 1))), (1, p1_0), (6, .bool false), (7, .pointer (some ⟨g_30, 0, none⟩)), (8, v_59), (10, .int .i64 x_61), (11, .int .i64 x_62), (15, .int .i64 (w64 (x_63.Seq + (mn (band .i64 t_98 7) t_94)))), (18, .pointer (some ⟨g_276, 0, none⟩))] := hm.keep [0, 1, 6, 7, 8, 10, 11, 15, 18]
            exact x_then_n (hJ_j_170 t_248.1 x_63 H _ _ ⟨v_284, v_286, v_290, v_294, v_296, v_298, v_64, v_68, v_72, v_74, v_76, v_78, g_276, N_283, M_288, M_292, hm, (Sep.sel hS [0, 1000, 1001, 1002, 1003, 1004, 1005, 7, 8, 1008, 1009, 1010, 12, 13, 14] (by decide)), (le_277.trans (le_278.trans (le_279.trans le_283))), (hr_285.mono (Mem.un_le le_283 ln_283)), hr_287, hr_291, (hr_295.mono (Mem.un_le le_283 ln_283)), (hr_297.mono (Mem.un_le le_283 ln_283)), (hr_299.mono (Mem.un_le le_283 ln_283)), (hr_65.mono (le_88.trans (le_97.trans (le_128.trans (le_277.trans (le_278.trans (le_279.trans le_283))))))), ((ho_69.rd lo_277 (Mem.no_le _)).mono (le_278.trans (le_279.trans le_283))), ((ho_73.rd lo_278 (Mem.no_le _)).mono (le_279.trans le_283)), (hr_75.mono (le_88.trans (le_97.trans (le_128.trans (le_277.trans (le_278.trans (le_279.trans le_283))))))), (hr_77.mono (le_88.trans (le_97.trans (le_128.trans (le_277.trans (le_278.trans (le_279.trans le_283))))))), (hr_79.mono (le_88.trans (le_97.trans (le_128.trans (le_277.trans (le_278.trans (le_279.trans le_283)))))))⟩)
        clear hKJ_122
        have hS' := hS.room
        replace hS : Sep w0 w_119 [N_97, Mem.no, Mem.no, Mem.no, Mem.no, Mem.no, Mem.no, Mem.one g_30 (.cells ([.int .i64 x_63.Kind, .int .i64 x_63.From, .int .i64 x_63.To, .int .i64 x_63.View, .int .i64 x_63.Inst, .int .i64 x_63.Len, .bool x_63.Has, .int .i64 x_63.Members, .int .i64 x_63.Source, .int .i64 x_63.At, .int .i64 x_63.Total, v_64, .int .i64 x_63.Hop, .int .i64 x_63.Seq, v_68, v_72, .int .i64 x_63.Index, .int .i64 x_63.Entry.Sess, .int .i64 x_63.Entry.Seq, .int .i64 x_63.Entry.Cmd.Kind, .int .i64 x_63.Entry.Cmd.Who, v_74, v_76, v_78] : List Value).toArray 29 (0, 0)), M_120, M_66, M_70, Mem.no] Z := hS'
        clear hS'
        replace hS : Sep w0 w_119 [N_97, Mem.no, Mem.no, Mem.no, Mem.no, Mem.no, Mem.no, Mem.one g_30 (.cells ([.int .i64 x_63.Kind, .int .i64 x_63.From, .int .i64 x_63.To, .int .i64 x_63.View, .int .i64 x_63.Inst, .int .i64 x_63.Len, .bool x_63.Has, .int .i64 x_63.Members, .int .i64 x_63.Source, .int .i64 x_63.At, .int .i64 x_63.Total, v_64, .int .i64 x_63.Hop, .int .i64 x_63.Seq, v_68, v_72, .int .i64 x_63.Index, .int .i64 x_63.Entry.Sess, .int .i64 x_63.Entry.Seq, .int .i64 x_63.Entry.Cmd.Kind, .int .i64 x_63.Entry.Cmd.Who, v_74, v_76, v_78] : List Value).toArray 29 (0, 0)), M_120, M_66, M_70, Mem.no] Z := hS
        replace hm : Fr 215 a [(0, .int .i64 (w64 ((Int.tmod (band .i64 x0 255) 7) + 1))), (1, p1_0), (6, .bool false), (7, .pointer (some ⟨g_30, 0, none⟩)), (8, v_59), (10, .int .i64 x_61), (11, .int .i64 x_62), (12, .int .i64 t_93), (14, .int .i64 (band .i64 t_98 7)), (15, .int .i64 (w64 (x_63.Seq + (mn (band .i64 t_98 7) t_94)))), (16, .slice none 0 0), (17, .int .i64 (w64 (t_123 + 1)))] := hm.keep [0, 1, 6, 7, 8, 10, 11, 12, 14, 15, 16, 17]
        refine c_block ?_
        refine c_loop (fun k_312 a w_312 => ∃ (x_306 : List Int) (x_311 : Int) (v_309 : Value) (N_305 : Mem) (M_307 : Mem), hocketlaw17_ToknRises.L4 K x_63 t_98 t_94 (fun v => hocketlaw17_ToknRises.J4 K t_93 x0 x_56 t_105 t_110 x_63 t_98 t_94 x_61 (hocketlaw17_ToknRises.L1 K x1 x0 (fun v => hocketlaw17_ToknRises.J2 K) k_80) x_62 v) k_312 (x_306, x_311) = some r ∧ Fr 215 a [(0, .int .i64 (w64 ((Int.tmod (band .i64 x0 255) 7) + 1))), (1, p1_0), (6, .bool false), (7, .pointer (some ⟨g_30, 0, none⟩)), (8, v_59), (10, .int .i64 x_61), (11, .int .i64 x_62), (12, .int .i64 t_93), (14, .int .i64 (band .i64 t_98 7)), (15, .int .i64 (w64 (x_63.Seq + (mn (band .i64 t_98 7) t_94)))), (16, v_309), (17, .int .i64 x_311)] ∧ Sep w0 w_312 [N_305, Mem.no, Mem.no, Mem.no, Mem.no, Mem.no, Mem.no, Mem.one g_30 (.cells ([.int .i64 x_63.Kind, .int .i64 x_63.From, .int .i64 x_63.To, .int .i64 x_63.View, .int .i64 x_63.Inst, .int .i64 x_63.Len, .bool x_63.Has, .int .i64 x_63.Members, .int .i64 x_63.Source, .int .i64 x_63.At, .int .i64 x_63.Total, v_64, .int .i64 x_63.Hop, .int .i64 x_63.Seq, v_68, v_72, .int .i64 x_63.Index, .int .i64 x_63.Entry.Sess, .int .i64 x_63.Entry.Seq, .int .i64 x_63.Entry.Cmd.Kind, .int .i64 x_63.Entry.Cmd.Who, v_74, v_76, v_78] : List Value).toArray 29 (0, 0)), M_120, M_66, M_70, M_307] Z ∧ N_97.le N_305 ∧ Own (Kd.int .i64) 3 M_307 Mem.no v_309 x_306) K ⟨([] : List Int), w64 (t_123 + 1), .slice none 0 0, N_97, Mem.no, H, hm, (Sep.sel hS [0, 1000, 1001, 1002, 1003, 1004, 1005, 7, 8, 9, 10, 11] (by decide)), (Mem.le.refl _), (Own.nil (Kd.int .i64) 3 Mem.no)⟩ (fun a w h => by obtain ⟨_, _, _, _, _, H, _⟩ := h; cases (show (none : Option (Unit)) = some r from H)) ?_
        clear hm hS a H
        rintro k_312 a w_312 KL_312 hKL_312 ⟨x_306, x_311, v_309, N_305, M_307, H, hm, hS, le_305, ho_310⟩
        replace H : hocketlaw17_ToknRises.B4 K x_63 t_98 t_94 (fun v => hocketlaw17_ToknRises.J4 K t_93 x0 x_56 t_105 t_110 x_63 t_98 t_94 x_61 (hocketlaw17_ToknRises.L1 K x1 x0 (fun v => hocketlaw17_ToknRises.J2 K) k_80) x_62 v) (hocketlaw17_ToknRises.L4 K x_63 t_98 t_94 (fun v => hocketlaw17_ToknRises.J4 K t_93 x0 x_56 t_105 t_110 x_63 t_98 t_94 x_61 (hocketlaw17_ToknRises.L1 K x1 x0 (fun v => hocketlaw17_ToknRises.J2 K) k_80) x_62 v) k_312) x_306 x_311 = some r := H
        unfold hocketlaw17_ToknRises.B4 at H
        refine c_seq fun KJ_315 hKJ_315 => ?_
        refine c_seq fun KJ_316 hKJ_316 => ?_
        have hJ_j_320 : ∀ (x_318 : Bool), hocketlaw17_ToknRises.J9 K x_306 x_311 (hocketlaw17_ToknRises.L4 K x_63 t_98 t_94 (fun v => hocketlaw17_ToknRises.J4 K t_93 x0 x_56 t_105 t_110 x_63 t_98 t_94 x_61 (hocketlaw17_ToknRises.L1 K x1 x0 (fun v => hocketlaw17_ToknRises.J2 K) k_80) x_62 v) k_312) (fun v => hocketlaw17_ToknRises.J4 K t_93 x0 x_56 t_105 t_110 x_63 t_98 t_94 x_61 (hocketlaw17_ToknRises.L1 K x1 x0 (fun v => hocketlaw17_ToknRises.J2 K) k_80) x_62 v) x_318 = some r → ∀ (a : Act) (w_319 : World), (∃ (N_317 : Mem), Fr 215 a [(0, .int .i64 (w64 ((Int.tmod (band .i64 x0 255) 7) + 1))), (1, p1_0), (6, .bool false), (7, .pointer (some ⟨g_30, 0, none⟩)), (8, v_59), (10, .int .i64 x_61), (11, .int .i64 x_62), (12, .int .i64 t_93), (14, .int .i64 (band .i64 t_98 7)), (15, .int .i64 (w64 (x_63.Seq + (mn (band .i64 t_98 7) t_94)))), (16, v_309), (17, .int .i64 x_311), (99, .bool x_318)] ∧ Sep w0 w_319 [N_317, Mem.no, Mem.no, Mem.no, Mem.no, Mem.no, Mem.no, Mem.one g_30 (.cells ([.int .i64 x_63.Kind, .int .i64 x_63.From, .int .i64 x_63.To, .int .i64 x_63.View, .int .i64 x_63.Inst, .int .i64 x_63.Len, .bool x_63.Has, .int .i64 x_63.Members, .int .i64 x_63.Source, .int .i64 x_63.At, .int .i64 x_63.Total, v_64, .int .i64 x_63.Hop, .int .i64 x_63.Seq, v_68, v_72, .int .i64 x_63.Index, .int .i64 x_63.Entry.Sess, .int .i64 x_63.Entry.Seq, .int .i64 x_63.Entry.Cmd.Kind, .int .i64 x_63.Entry.Cmd.Who, v_74, v_76, v_78] : List Value).toArray 29 (0, 0)), M_120, M_66, M_70, M_307] Z ∧ N_305.le N_317) → KJ_316 a w_319 := by
          clear H hm hS a
          rintro x_318 H a w_319 ⟨N_317, hm, hS, le_317⟩
          unfold hocketlaw17_ToknRises.J9 at H
          refine hKJ_316 _ _ ?_
          by_cases hc_321 : x_318 = true
          · rw [if_pos hc_321] at H
            refine c_cond_t hm rfl hc_321 ?_
            refine wp_skip ?_
            refine x_then_n (hKJ_315 _ _ ?_)
            refine wp_seq ?_
            refine c_block ?_
            refine wp_region_lit ?_
            refine s_move hm rfl rfl ?_
            clear hm a; intro a hm
            refine s_move hm rfl rfl ?_
            clear hm a; intro a hm
            have hq_326 : Reps (Kd.int .i64) Mem.no ([x_311] : List Int) _ := ((Reps.one (d := (Kd.int .i64)) (x := x_311) (show (Kd.int .i64).K _ _ [.int .i64 x_311] from rfl)).append (Reps.nil (Kd.int .i64) _))
            refine s_buildSlice hm rfl Try.underlying23 ti3 rfl rfl rfl (.cons rfl .nil) rfl rfl rfl hS hq_326 rfl ?_
            intro w_322 v_323 M_324 hS' ho_325
            clear hm a; intro a hm
            replace hS : Sep w0 w_322 [N_317, Mem.no, Mem.no, Mem.no, Mem.no, Mem.no, Mem.no, Mem.one g_30 (.cells ([.int .i64 x_63.Kind, .int .i64 x_63.From, .int .i64 x_63.To, .int .i64 x_63.View, .int .i64 x_63.Inst, .int .i64 x_63.Len, .bool x_63.Has, .int .i64 x_63.Members, .int .i64 x_63.Source, .int .i64 x_63.At, .int .i64 x_63.Total, v_64, .int .i64 x_63.Hop, .int .i64 x_63.Seq, v_68, v_72, .int .i64 x_63.Index, .int .i64 x_63.Entry.Sess, .int .i64 x_63.Entry.Seq, .int .i64 x_63.Entry.Cmd.Kind, .int .i64 x_63.Entry.Cmd.Who, v_74, v_76, v_78] : List Value).toArray 29 (0, 0)), M_120, M_66, M_70, M_307, M_324] Z := hS'
            clear hS' hq_326
            obtain ⟨t_328, et_328, H⟩ := Option.bind_eq_some_iff.1 H
            refine s_append (J := Mem.no) (I' := Mem.no) (p := 11) 17592186044416 hm rfl rfl rfl Try.underlying23 ti3 rfl rfl rfl rfl hS rfl ho_310 (Src.flat (flat_int .i64) (ho_325.src (hS.own 12))) (Mem.le.refl _) (Mem.le.refl _) et_328 ?_
            intro w_329 v_330 M_331 hS' ho_332
            clear hm a; intro a hm
            replace hS : Sep w0 w_329 [N_317, Mem.no, Mem.no, Mem.no, Mem.no, Mem.no, Mem.no, Mem.one g_30 (.cells ([.int .i64 x_63.Kind, .int .i64 x_63.From, .int .i64 x_63.To, .int .i64 x_63.View, .int .i64 x_63.Inst, .int .i64 x_63.Len, .bool x_63.Has, .int .i64 x_63.Members, .int .i64 x_63.Source, .int .i64 x_63.At, .int .i64 x_63.Total, v_64, .int .i64 x_63.Hop, .int .i64 x_63.Seq, v_68, v_72, .int .i64 x_63.Index, .int .i64 x_63.Entry.Sess, .int .i64 x_63.Entry.Seq, .int .i64 x_63.Entry.Cmd.Kind, .int .i64 x_63.Entry.Cmd.Who, v_74, v_76, v_78] : List Value).toArray 29 (0, 0)), M_120, M_66, M_70, M_331, M_324] Z := hS'
            clear hS'
            refine s_assign hm rfl rfl ?_
            clear hm a; intro a hm
            refine wpList_nil ?_
            replace hm : Fr 215 a [(0, .int .i64 (w64 ((Int.tmod (band .i64 x0 255) 7) + 1))), (1, p1_0), (6, .bool false), (7, .pointer (some ⟨g_30, 0, none⟩)), (8, v_59), (10, .int .i64 x_61), (11, .int .i64 x_62), (12, .int .i64 t_93), (14, .int .i64 (band .i64 t_98 7)), (15, .int .i64 (w64 (x_63.Seq + (mn (band .i64 t_98 7) t_94)))), (16, v_330), (17, .int .i64 x_311)] := hm.keep [0, 1, 6, 7, 8, 10, 11, 12, 14, 15, 16, 17]
            refine x_block_n ?_
            refine x_then_n ?_
            refine wp_region_lit ?_
            refine s_move hm rfl rfl ?_
            clear hm a; intro a hm
            refine s_arith (r := w64 (x_311 + 1)) hm rfl rfl rfl (.inl ⟨rfl, rfl⟩) ?_
            clear hm a; intro a hm
            refine s_assign hm rfl rfl ?_
            clear hm a; intro a hm
            refine wpList_nil ?_
            replace hm : Fr 215 a [(0, .int .i64 (w64 ((Int.tmod (band .i64 x0 255) 7) + 1))), (1, p1_0), (6, .bool false), (7, .pointer (some ⟨g_30, 0, none⟩)), (8, v_59), (10, .int .i64 x_61), (11, .int .i64 x_62), (12, .int .i64 t_93), (14, .int .i64 (band .i64 t_98 7)), (15, .int .i64 (w64 (x_63.Seq + (mn (band .i64 t_98 7) t_94)))), (16, v_330), (17, .int .i64 (w64 (x_311 + 1)))] := hm.keep [0, 1, 6, 7, 8, 10, 11, 12, 14, 15, 16, 17]
            refine x_then_n (hKL_312 _ _ ?_)
            replace hS : Sep w0 w_329 [N_317, Mem.no, Mem.no, Mem.no, Mem.no, Mem.no, Mem.no, Mem.one g_30 (.cells ([.int .i64 x_63.Kind, .int .i64 x_63.From, .int .i64 x_63.To, .int .i64 x_63.View, .int .i64 x_63.Inst, .int .i64 x_63.Len, .bool x_63.Has, .int .i64 x_63.Members, .int .i64 x_63.Source, .int .i64 x_63.At, .int .i64 x_63.Total, v_64, .int .i64 x_63.Hop, .int .i64 x_63.Seq, v_68, v_72, .int .i64 x_63.Index, .int .i64 x_63.Entry.Sess, .int .i64 x_63.Entry.Seq, .int .i64 x_63.Entry.Cmd.Kind, .int .i64 x_63.Entry.Cmd.Who, v_74, v_76, v_78] : List Value).toArray 29 (0, 0)), M_120, M_66, M_70, M_331, M_324] Z := hS
            replace hm : Fr 215 a [(0, .int .i64 (w64 ((Int.tmod (band .i64 x0 255) 7) + 1))), (1, p1_0), (6, .bool false), (7, .pointer (some ⟨g_30, 0, none⟩)), (8, v_59), (10, .int .i64 x_61), (11, .int .i64 x_62), (12, .int .i64 t_93), (14, .int .i64 (band .i64 t_98 7)), (15, .int .i64 (w64 (x_63.Seq + (mn (band .i64 t_98 7) t_94)))), (16, v_330), (17, .int .i64 (w64 (x_311 + 1)))] := hm.keep [0, 1, 6, 7, 8, 10, 11, 12, 14, 15, 16, 17]
            exact ⟨t_328, w64 (x_311 + 1), v_330, N_317, M_331, H, hm, (Sep.sel hS [0, 1000, 1001, 1002, 1003, 1004, 1005, 7, 8, 9, 10, 11] (by decide)), (le_305.trans le_317), ho_332⟩
          · rw [if_neg hc_321] at H
            refine c_cond_f hm rfl (Bool.eq_false_iff.2 hc_321) ?_
            refine wp_exit (x_then_x (x_then_x (x_block_t ?_)))
            replace hS : Sep w0 w_319 [N_317, Mem.no, Mem.no, Mem.no, Mem.no, Mem.no, Mem.no, Mem.one g_30 (.cells ([.int .i64 x_63.Kind, .int .i64 x_63.From, .int .i64 x_63.To, .int .i64 x_63.View, .int .i64 x_63.Inst, .int .i64 x_63.Len, .bool x_63.Has, .int .i64 x_63.Members, .int .i64 x_63.Source, .int .i64 x_63.At, .int .i64 x_63.Total, v_64, .int .i64 x_63.Hop, .int .i64 x_63.Seq, v_68, v_72, .int .i64 x_63.Index, .int .i64 x_63.Entry.Sess, .int .i64 x_63.Entry.Seq, .int .i64 x_63.Entry.Cmd.Kind, .int .i64 x_63.Entry.Cmd.Who, v_74, v_76, v_78] : List Value).toArray 29 (0, 0)), M_120, M_66, M_70, M_307] Z := hS
            replace hm : Fr 215 a [(0, .int .i64 (w64 ((Int.tmod (band .i64 x0 255) 7) + 1))), (1, p1_0), (6, .bool false), (7, .pointer (some ⟨g_30, 0, none⟩)), (8, v_59), (10, .int .i64 x_61), (11, .int .i64 x_62), (12, .int .i64 t_93), (14, .int .i64 (band .i64 t_98 7)), (15, .int .i64 (w64 (x_63.Seq + (mn (band .i64 t_98 7) t_94)))), (16, v_309)] := hm.keep [0, 1, 6, 7, 8, 10, 11, 12, 14, 15, 16]
            exact x_then_n (hJ_j_135 x_306 H _ _ ⟨v_309, N_317, M_307, hm, (Sep.sel hS [0, 1000, 1001, 1002, 1003, 1004, 1005, 7, 8, 9, 10, 11] (by decide)), (le_305.trans le_317), ho_310⟩)
        clear hKJ_316
        refine wp_region_lit ?_
        refine s_move hm rfl rfl ?_
        clear hm a; intro a hm
        refine s_move hm rfl rfl ?_
        clear hm a; intro a hm
        refine s_cmp (b := decide (x_311 ≤ (w64 (x_63.Seq + (mn (band .i64 t_98 7) t_94))))) hm rfl rfl rfl (.inr (.inr (.inr (.inl ⟨rfl, rfl⟩)))) ?_
        clear hm a; intro a hm
        refine s_move hm rfl rfl ?_
        clear hm a; intro a hm
        by_cases hc_334 : x_311 ≤ (w64 (x_63.Seq + (mn (band .i64 t_98 7) t_94)))
        · rw [if_pos hc_334] at H
          refine s_on hm rfl rfl (decide_eq_true hc_334) ?_
          refine s_move hm rfl rfl ?_
          clear hm a; intro a hm
          refine s_on hm rfl rfl (decide_eq_true hc_334) ?_
          refine s_lenO hm rfl Try.underlying23 rfl ho_310 ?_
          clear hm a; intro a hm
          refine s_on hm rfl rfl (decide_eq_true hc_334) ?_
          refine s_cmp (b := decide ((x_306.length : Int) < 8)) hm rfl rfl rfl (.inr (.inr (.inl ⟨rfl, rfl⟩))) ?_
          clear hm a; intro a hm
          refine s_pick_t hm rfl rfl (decide_eq_true hc_334) rfl ?_
          clear hm a; intro a hm
          refine wpList_nil ?_
          replace hm : Fr 215 a [(0, .int .i64 (w64 ((Int.tmod (band .i64 x0 255) 7) + 1))), (1, p1_0), (6, .bool false), (7, .pointer (some ⟨g_30, 0, none⟩)), (8, v_59), (10, .int .i64 x_61), (11, .int .i64 x_62), (12, .int .i64 t_93), (14, .int .i64 (band .i64 t_98 7)), (15, .int .i64 (w64 (x_63.Seq + (mn (band .i64 t_98 7) t_94)))), (16, v_309), (17, .int .i64 x_311), (99, .bool (decide ((x_306.length : Int) < 8)))] := hm.keep [0, 1, 6, 7, 8, 10, 11, 12, 14, 15, 16, 17, 99]
          replace hS : Sep w0 w_312 [N_305, Mem.no, Mem.no, Mem.no, Mem.no, Mem.no, Mem.no, Mem.one g_30 (.cells ([.int .i64 x_63.Kind, .int .i64 x_63.From, .int .i64 x_63.To, .int .i64 x_63.View, .int .i64 x_63.Inst, .int .i64 x_63.Len, .bool x_63.Has, .int .i64 x_63.Members, .int .i64 x_63.Source, .int .i64 x_63.At, .int .i64 x_63.Total, v_64, .int .i64 x_63.Hop, .int .i64 x_63.Seq, v_68, v_72, .int .i64 x_63.Index, .int .i64 x_63.Entry.Sess, .int .i64 x_63.Entry.Seq, .int .i64 x_63.Entry.Cmd.Kind, .int .i64 x_63.Entry.Cmd.Who, v_74, v_76, v_78] : List Value).toArray 29 (0, 0)), M_120, M_66, M_70, M_307] Z := hS
          replace hm : Fr 215 a [(0, .int .i64 (w64 ((Int.tmod (band .i64 x0 255) 7) + 1))), (1, p1_0), (6, .bool false), (7, .pointer (some ⟨g_30, 0, none⟩)), (8, v_59), (10, .int .i64 x_61), (11, .int .i64 x_62), (12, .int .i64 t_93), (14, .int .i64 (band .i64 t_98 7)), (15, .int .i64 (w64 (x_63.Seq + (mn (band .i64 t_98 7) t_94)))), (16, v_309), (17, .int .i64 x_311), (99, .bool (decide ((x_306.length : Int) < 8)))] := hm.keep [0, 1, 6, 7, 8, 10, 11, 12, 14, 15, 16, 17, 99]
          exact x_then_n (hJ_j_320 (decide ((x_306.length : Int) < 8)) H _ _ ⟨N_305, hm, (Sep.sel hS [0, 1000, 1001, 1002, 1003, 1004, 1005, 7, 8, 9, 10, 11] (by decide)), (Mem.le.refl _)⟩)
        · rw [if_neg hc_334] at H
          refine s_off hm rfl rfl rfl (decide_eq_false hc_334) ?_
          clear hm a; intro a hm
          refine s_off hm rfl rfl rfl (decide_eq_false hc_334) ?_
          clear hm a; intro a hm
          refine s_off hm rfl rfl rfl (decide_eq_false hc_334) ?_
          clear hm a; intro a hm
          refine s_pick_f hm rfl rfl (decide_eq_false hc_334) rfl ?_
          clear hm a; intro a hm
          refine wpList_nil ?_
          replace hm : Fr 215 a [(0, .int .i64 (w64 ((Int.tmod (band .i64 x0 255) 7) + 1))), (1, p1_0), (6, .bool false), (7, .pointer (some ⟨g_30, 0, none⟩)), (8, v_59), (10, .int .i64 x_61), (11, .int .i64 x_62), (12, .int .i64 t_93), (14, .int .i64 (band .i64 t_98 7)), (15, .int .i64 (w64 (x_63.Seq + (mn (band .i64 t_98 7) t_94)))), (16, v_309), (17, .int .i64 x_311), (99, .bool false)] := hm.keep [0, 1, 6, 7, 8, 10, 11, 12, 14, 15, 16, 17, 99]
          replace hS : Sep w0 w_312 [N_305, Mem.no, Mem.no, Mem.no, Mem.no, Mem.no, Mem.no, Mem.one g_30 (.cells ([.int .i64 x_63.Kind, .int .i64 x_63.From, .int .i64 x_63.To, .int .i64 x_63.View, .int .i64 x_63.Inst, .int .i64 x_63.Len, .bool x_63.Has, .int .i64 x_63.Members, .int .i64 x_63.Source, .int .i64 x_63.At, .int .i64 x_63.Total, v_64, .int .i64 x_63.Hop, .int .i64 x_63.Seq, v_68, v_72, .int .i64 x_63.Index, .int .i64 x_63.Entry.Sess, .int .i64 x_63.Entry.Seq, .int .i64 x_63.Entry.Cmd.Kind, .int .i64 x_63.Entry.Cmd.Who, v_74, v_76, v_78] : List Value).toArray 29 (0, 0)), M_120, M_66, M_70, M_307] Z := hS
          replace hm : Fr 215 a [(0, .int .i64 (w64 ((Int.tmod (band .i64 x0 255) 7) + 1))), (1, p1_0), (6, .bool false), (7, .pointer (some ⟨g_30, 0, none⟩)), (8, v_59), (10, .int .i64 x_61), (11, .int .i64 x_62), (12, .int .i64 t_93), (14, .int .i64 (band .i64 t_98 7)), (15, .int .i64 (w64 (x_63.Seq + (mn (band .i64 t_98 7) t_94)))), (16, v_309), (17, .int .i64 x_311), (99, .bool false)] := hm.keep [0, 1, 6, 7, 8, 10, 11, 12, 14, 15, 16, 17, 99]
          exact x_then_n (hJ_j_320 false H _ _ ⟨N_305, hm, (Sep.sel hS [0, 1000, 1001, 1002, 1003, 1004, 1005, 7, 8, 9, 10, 11] (by decide)), (Mem.le.refl _)⟩)
      · rw [if_neg hc_92] at H
        refine c_cond_f hm rfl (Bool.eq_false_iff.2 hc_92) ?_
        refine wp_exit (x_then_x (x_then_x (x_block_t ?_)))
        replace hS : Sep w0 w_90 [N_88, Mem.no, Mem.no, Mem.no, Mem.no, Mem.no, Mem.no, Mem.one g_30 (.cells ([.int .i64 x_63.Kind, .int .i64 x_63.From, .int .i64 x_63.To, .int .i64 x_63.View, .int .i64 x_63.Inst, .int .i64 x_63.Len, .bool x_63.Has, .int .i64 x_63.Members, .int .i64 x_63.Source, .int .i64 x_63.At, .int .i64 x_63.Total, v_64, .int .i64 x_63.Hop, .int .i64 x_63.Seq, v_68, v_72, .int .i64 x_63.Index, .int .i64 x_63.Entry.Sess, .int .i64 x_63.Entry.Seq, .int .i64 x_63.Entry.Cmd.Kind, .int .i64 x_63.Entry.Cmd.Who, v_74, v_76, v_78] : List Value).toArray 29 (0, 0)), M_57, M_66, M_70] Z := hS
        replace hm : Fr 215 a [(6, .bool false)] := hm.keep [6]
        exact x_then_n (hJ_j_50  H _ _ ⟨N_88, hm, (Sep.sel hS [0, 1000, 1001, 1002, 1003, 1004, 1005, 1006, 1007] (by decide)), (le_55.trans le_88)⟩)
    clear hKJ_87
    refine wp_region_lit ?_
    refine s_move hm rfl rfl ?_
    clear hm a; intro a hm
    refine s_move hm rfl rfl ?_
    clear hm a; intro a hm
    refine s_len hm rfl Try.underlying23 rfl hp1_0 ?_
    clear hm a; intro a hm
    refine s_cmp (b := decide (x_62 < (x1.length : Int))) hm rfl rfl rfl (.inr (.inr (.inl ⟨rfl, rfl⟩))) ?_
    clear hm a; intro a hm
    refine s_move hm rfl rfl ?_
    clear hm a; intro a hm
    by_cases hc_335 : x_62 < (x1.length : Int)
    · rw [if_pos hc_335] at H
      refine s_on hm rfl rfl (decide_eq_true hc_335) ?_
      refine s_move hm rfl rfl ?_
      clear hm a; intro a hm
      refine s_on hm rfl rfl (decide_eq_true hc_335) ?_
      refine s_cmp (b := decide (x_62 < 60)) hm rfl rfl rfl (.inr (.inr (.inl ⟨rfl, rfl⟩))) ?_
      clear hm a; intro a hm
      refine s_pick_t hm rfl rfl (decide_eq_true hc_335) rfl ?_
      clear hm a; intro a hm
      refine wpList_nil ?_
      replace hm : Fr 215 a [(0, .int .i64 (w64 ((Int.tmod (band .i64 x0 255) 7) + 1))), (1, p1_0), (6, .bool false), (7, .pointer (some ⟨g_30, 0, none⟩)), (8, v_59), (10, .int .i64 x_61), (11, .int .i64 x_62), (52, .bool (decide (x_62 < 60)))] := hm.keep [0, 1, 6, 7, 8, 10, 11, 52]
      replace hS : Sep w0 w_80 [N_55, Mem.no, Mem.no, Mem.no, Mem.no, Mem.no, Mem.no, Mem.one g_30 (.cells ([.int .i64 x_63.Kind, .int .i64 x_63.From, .int .i64 x_63.To, .int .i64 x_63.View, .int .i64 x_63.Inst, .int .i64 x_63.Len, .bool x_63.Has, .int .i64 x_63.Members, .int .i64 x_63.Source, .int .i64 x_63.At, .int .i64 x_63.Total, v_64, .int .i64 x_63.Hop, .int .i64 x_63.Seq, v_68, v_72, .int .i64 x_63.Index, .int .i64 x_63.Entry.Sess, .int .i64 x_63.Entry.Seq, .int .i64 x_63.Entry.Cmd.Kind, .int .i64 x_63.Entry.Cmd.Who, v_74, v_76, v_78] : List Value).toArray 29 (0, 0)), M_57, M_66, M_70] Z := hS
      replace hm : Fr 215 a [(0, .int .i64 (w64 ((Int.tmod (band .i64 x0 255) 7) + 1))), (1, p1_0), (6, .bool false), (7, .pointer (some ⟨g_30, 0, none⟩)), (8, v_59), (10, .int .i64 x_61), (11, .int .i64 x_62), (52, .bool (decide (x_62 < 60)))] := hm.keep [0, 1, 6, 7, 8, 10, 11, 52]
      exact x_then_n (hJ_j_91 (decide (x_62 < 60)) H _ _ ⟨N_55, hm, (Sep.sel hS [0, 1000, 1001, 1002, 1003, 1004, 1005, 7, 8, 9, 10] (by decide)), (Mem.le.refl _)⟩)
    · rw [if_neg hc_335] at H
      refine s_off hm rfl rfl rfl (decide_eq_false hc_335) ?_
      clear hm a; intro a hm
      refine s_off hm rfl rfl rfl (decide_eq_false hc_335) ?_
      clear hm a; intro a hm
      refine s_pick_f hm rfl rfl (decide_eq_false hc_335) rfl ?_
      clear hm a; intro a hm
      refine wpList_nil ?_
      replace hm : Fr 215 a [(0, .int .i64 (w64 ((Int.tmod (band .i64 x0 255) 7) + 1))), (1, p1_0), (6, .bool false), (7, .pointer (some ⟨g_30, 0, none⟩)), (8, v_59), (10, .int .i64 x_61), (11, .int .i64 x_62), (52, .bool false)] := hm.keep [0, 1, 6, 7, 8, 10, 11, 52]
      replace hS : Sep w0 w_80 [N_55, Mem.no, Mem.no, Mem.no, Mem.no, Mem.no, Mem.no, Mem.one g_30 (.cells ([.int .i64 x_63.Kind, .int .i64 x_63.From, .int .i64 x_63.To, .int .i64 x_63.View, .int .i64 x_63.Inst, .int .i64 x_63.Len, .bool x_63.Has, .int .i64 x_63.Members, .int .i64 x_63.Source, .int .i64 x_63.At, .int .i64 x_63.Total, v_64, .int .i64 x_63.Hop, .int .i64 x_63.Seq, v_68, v_72, .int .i64 x_63.Index, .int .i64 x_63.Entry.Sess, .int .i64 x_63.Entry.Seq, .int .i64 x_63.Entry.Cmd.Kind, .int .i64 x_63.Entry.Cmd.Who, v_74, v_76, v_78] : List Value).toArray 29 (0, 0)), M_57, M_66, M_70] Z := hS
      replace hm : Fr 215 a [(0, .int .i64 (w64 ((Int.tmod (band .i64 x0 255) 7) + 1))), (1, p1_0), (6, .bool false), (7, .pointer (some ⟨g_30, 0, none⟩)), (8, v_59), (10, .int .i64 x_61), (11, .int .i64 x_62), (52, .bool false)] := hm.keep [0, 1, 6, 7, 8, 10, 11, 52]
      exact x_then_n (hJ_j_91 false H _ _ ⟨N_55, hm, (Sep.sel hS [0, 1000, 1001, 1002, 1003, 1004, 1005, 7, 8, 9, 10] (by decide)), (Mem.le.refl _)⟩)
  clear hKJ_38
  replace hS : Sep w0 w_33 [N_4, M_7, M_11, M_15, M_19, M_23, M_27, Mem.one g_30 (.cells ([.int .i64 t_1.Kind, .int .i64 t_1.From, .int .i64 t_1.To, .int .i64 t_1.View, .int .i64 t_1.Inst, .int .i64 t_1.Len, .bool t_1.Has, .int .i64 t_1.Members, .int .i64 t_1.Source, .int .i64 t_1.At, .int .i64 t_1.Total, v_5, .int .i64 t_1.Hop, .int .i64 t_1.Seq, v_9, v_13, .int .i64 t_1.Index, .int .i64 t_1.Entry.Sess, .int .i64 t_1.Entry.Seq, .int .i64 t_1.Entry.Cmd.Kind, .int .i64 t_1.Entry.Cmd.Who, v_17, v_21, v_25] : List Value).toArray 29 (0, 0)), M_35] Z := hS
  replace hm : Fr 215 a [(0, .int .i64 (w64 ((Int.tmod (band .i64 x0 255) 7) + 1))), (1, p1_0), (2, .int .i64 (band .i64 x2 255)), (6, .bool false), (7, .pointer (some ⟨g_30, 0, none⟩)), (8, v_34), (35, .int .i64 (t_32.length : Int)), (36, .int .i64 0)] := hm.keep [0, 1, 2, 6, 7, 8, 35, 36]
  refine c_block ?_
  refine c_loop (fun k_343 a w_343 => ∃ (x_337 : List Int) (x_342 : Int) (v_340 : Value) (N_336 : Mem) (M_338 : Mem), hocketlaw17_ToknRises.L5 K t_32 x2 (fun v => hocketlaw17_ToknRises.J1 K x1 x0 x2 t_1 v) k_343 (x_337, x_342) = some r ∧ Fr 215 a [(0, .int .i64 (w64 ((Int.tmod (band .i64 x0 255) 7) + 1))), (1, p1_0), (2, .int .i64 (band .i64 x2 255)), (6, .bool false), (7, .pointer (some ⟨g_30, 0, none⟩)), (8, v_340), (35, .int .i64 (t_32.length : Int)), (36, .int .i64 x_342)] ∧ Sep w0 w_343 [N_336, M_7, M_11, M_15, M_19, M_23, M_27, Mem.one g_30 (.cells ([.int .i64 t_1.Kind, .int .i64 t_1.From, .int .i64 t_1.To, .int .i64 t_1.View, .int .i64 t_1.Inst, .int .i64 t_1.Len, .bool t_1.Has, .int .i64 t_1.Members, .int .i64 t_1.Source, .int .i64 t_1.At, .int .i64 t_1.Total, v_5, .int .i64 t_1.Hop, .int .i64 t_1.Seq, v_9, v_13, .int .i64 t_1.Index, .int .i64 t_1.Entry.Sess, .int .i64 t_1.Entry.Seq, .int .i64 t_1.Entry.Cmd.Kind, .int .i64 t_1.Entry.Cmd.Who, v_17, v_21, v_25] : List Value).toArray 29 (0, 0)), M_338] Z ∧ N_4.le N_336 ∧ Own (Kd.int .i64) 3 M_338 Mem.no v_340 x_337) K ⟨t_32, 0, v_34, N_4, M_35, H, hm, (Sep.sel hS [0, 1, 2, 3, 4, 5, 6, 7, 8] (by decide)), (Mem.le.refl _), ho_36⟩ (fun a w h => by obtain ⟨_, _, _, _, _, H, _⟩ := h; cases (show (none : Option (Unit)) = some r from H)) ?_
  clear hm hS a H
  rintro k_343 a w_343 KL_343 hKL_343 ⟨x_337, x_342, v_340, N_336, M_338, H, hm, hS, le_336, ho_341⟩
  replace H : hocketlaw17_ToknRises.B5 K t_32 x2 (fun v => hocketlaw17_ToknRises.J1 K x1 x0 x2 t_1 v) (hocketlaw17_ToknRises.L5 K t_32 x2 (fun v => hocketlaw17_ToknRises.J1 K x1 x0 x2 t_1 v) k_343) x_337 x_342 = some r := H
  unfold hocketlaw17_ToknRises.B5 at H
  refine wp_seq ?_
  refine wp_region_lit ?_
  refine s_cmp (b := decide (x_342 < (t_32.length : Int))) hm rfl rfl rfl (.inr (.inr (.inl ⟨rfl, rfl⟩))) ?_
  clear hm a; intro a hm
  refine wpList_nil ?_
  replace hm : Fr 215 a [(0, .int .i64 (w64 ((Int.tmod (band .i64 x0 255) 7) + 1))), (1, p1_0), (2, .int .i64 (band .i64 x2 255)), (6, .bool false), (7, .pointer (some ⟨g_30, 0, none⟩)), (8, v_340), (35, .int .i64 (t_32.length : Int)), (36, .int .i64 x_342), (37, .bool (decide (x_342 < (t_32.length : Int))))] := hm.keep [0, 1, 2, 6, 7, 8, 35, 36, 37]
  refine x_then_n ?_
  refine c_seq fun KJ_345 hKJ_345 => ?_
  by_cases hc_346 : x_342 < (t_32.length : Int)
  · rw [if_pos hc_346] at H
    refine c_cond_t hm rfl (decide_eq_true hc_346) ?_
    refine wp_skip ?_
    refine x_then_n (hKJ_345 _ _ ?_)
    refine wp_seq ?_
    refine c_block ?_
    refine wp_seq ?_
    refine wp_region_lit ?_
    refine s_move hm rfl rfl ?_
    clear hm a; intro a hm
    refine s_assign hm rfl rfl ?_
    clear hm a; intro a hm
    refine wpList_nil ?_
    replace hm : Fr 215 a [(0, .int .i64 (w64 ((Int.tmod (band .i64 x0 255) 7) + 1))), (1, p1_0), (2, .int .i64 (band .i64 x2 255)), (6, .bool false), (7, .pointer (some ⟨g_30, 0, none⟩)), (8, v_340), (9, .int .i64 x_342), (35, .int .i64 (t_32.length : Int)), (36, .int .i64 x_342)] := hm.keep [0, 1, 2, 6, 7, 8, 9, 35, 36]
    refine x_then_n ?_
    refine wp_region_lit ?_
    refine s_move hm rfl rfl ?_
    clear hm a; intro a hm
    refine s_move hm rfl rfl ?_
    clear hm a; intro a hm
    refine s_move hm rfl rfl ?_
    clear hm a; intro a hm
    obtain ⟨t_347, et_347, H⟩ := Option.bind_eq_some_iff.1 H
    refine s_indexOwn hm rfl Try.underlying23 ti3 rfl rfl rfl ho_341 et_347 ?_
    intro g_348 cur_349 hM_350
    clear hm a; intro a hm
    obtain ⟨w_351, M_352, hs', hS', ho_353⟩ := Own.stored (P := Try.prog) (p := 8) (t := 3) (o := 0) (nv := .int .i64 (band .i64 x2 255)) (vs := [.int .i64 (band .i64 x2 255)]) (u' := band .i64 x2 255) hS rfl ho_341 hM_350 et_347 ti3 rfl rfl rfl (by intro u hu; simp only [List.mem_cons, List.not_mem_nil, or_false] at hu; rcases hu with rfl <;> rfl) (fun cs hk => by obtain rfl := (show cs = [_] from hk); rfl)
    refine s_store hm rfl rfl hs' ?_
    replace hS : Sep w0 w_351 [N_336, M_7, M_11, M_15, M_19, M_23, M_27, Mem.one g_30 (.cells ([.int .i64 t_1.Kind, .int .i64 t_1.From, .int .i64 t_1.To, .int .i64 t_1.View, .int .i64 t_1.Inst, .int .i64 t_1.Len, .bool t_1.Has, .int .i64 t_1.Members, .int .i64 t_1.Source, .int .i64 t_1.At, .int .i64 t_1.Total, v_5, .int .i64 t_1.Hop, .int .i64 t_1.Seq, v_9, v_13, .int .i64 t_1.Index, .int .i64 t_1.Entry.Sess, .int .i64 t_1.Entry.Seq, .int .i64 t_1.Entry.Cmd.Kind, .int .i64 t_1.Entry.Cmd.Who, v_17, v_21, v_25] : List Value).toArray 29 (0, 0)), M_352] Z := hS'
    clear hs' hS'
    refine wpList_nil ?_
    replace hm : Fr 215 a [(0, .int .i64 (w64 ((Int.tmod (band .i64 x0 255) 7) + 1))), (1, p1_0), (2, .int .i64 (band .i64 x2 255)), (6, .bool false), (7, .pointer (some ⟨g_30, 0, none⟩)), (8, v_340), (35, .int .i64 (t_32.length : Int)), (36, .int .i64 x_342)] := hm.keep [0, 1, 2, 6, 7, 8, 35, 36]
    refine x_block_n ?_
    refine x_then_n ?_
    refine wp_region_lit ?_
    refine s_arith (r := w64 (x_342 + 1)) hm rfl rfl rfl (.inl ⟨rfl, rfl⟩) ?_
    clear hm a; intro a hm
    refine s_move hm rfl rfl ?_
    clear hm a; intro a hm
    refine wpList_nil ?_
    replace hm : Fr 215 a [(0, .int .i64 (w64 ((Int.tmod (band .i64 x0 255) 7) + 1))), (1, p1_0), (2, .int .i64 (band .i64 x2 255)), (6, .bool false), (7, .pointer (some ⟨g_30, 0, none⟩)), (8, v_340), (35, .int .i64 (t_32.length : Int)), (36, .int .i64 (w64 (x_342 + 1)))] := hm.keep [0, 1, 2, 6, 7, 8, 35, 36]
    refine x_then_n (hKL_343 _ _ ?_)
    replace hS : Sep w0 w_351 [N_336, M_7, M_11, M_15, M_19, M_23, M_27, Mem.one g_30 (.cells ([.int .i64 t_1.Kind, .int .i64 t_1.From, .int .i64 t_1.To, .int .i64 t_1.View, .int .i64 t_1.Inst, .int .i64 t_1.Len, .bool t_1.Has, .int .i64 t_1.Members, .int .i64 t_1.Source, .int .i64 t_1.At, .int .i64 t_1.Total, v_5, .int .i64 t_1.Hop, .int .i64 t_1.Seq, v_9, v_13, .int .i64 t_1.Index, .int .i64 t_1.Entry.Sess, .int .i64 t_1.Entry.Seq, .int .i64 t_1.Entry.Cmd.Kind, .int .i64 t_1.Entry.Cmd.Who, v_17, v_21, v_25] : List Value).toArray 29 (0, 0)), M_352] Z := hS
    replace hm : Fr 215 a [(0, .int .i64 (w64 ((Int.tmod (band .i64 x0 255) 7) + 1))), (1, p1_0), (2, .int .i64 (band .i64 x2 255)), (6, .bool false), (7, .pointer (some ⟨g_30, 0, none⟩)), (8, v_340), (35, .int .i64 (t_32.length : Int)), (36, .int .i64 (w64 (x_342 + 1)))] := hm.keep [0, 1, 2, 6, 7, 8, 35, 36]
    exact ⟨(x_337.set (x_342).toNat (band .i64 x2 255)), w64 (x_342 + 1), v_340, N_336, M_352, H, hm, (Sep.sel hS [0, 1, 2, 3, 4, 5, 6, 7, 8] (by decide)), le_336, ho_353⟩
  · rw [if_neg hc_346] at H
    refine c_cond_f hm rfl (decide_eq_false hc_346) ?_
    refine wp_exit (x_then_x (x_then_x (x_block_t ?_)))
    replace hS : Sep w0 w_343 [N_336, M_7, M_11, M_15, M_19, M_23, M_27, Mem.one g_30 (.cells ([.int .i64 t_1.Kind, .int .i64 t_1.From, .int .i64 t_1.To, .int .i64 t_1.View, .int .i64 t_1.Inst, .int .i64 t_1.Len, .bool t_1.Has, .int .i64 t_1.Members, .int .i64 t_1.Source, .int .i64 t_1.At, .int .i64 t_1.Total, v_5, .int .i64 t_1.Hop, .int .i64 t_1.Seq, v_9, v_13, .int .i64 t_1.Index, .int .i64 t_1.Entry.Sess, .int .i64 t_1.Entry.Seq, .int .i64 t_1.Entry.Cmd.Kind, .int .i64 t_1.Entry.Cmd.Who, v_17, v_21, v_25] : List Value).toArray 29 (0, 0)), M_338] Z := hS
    replace hm : Fr 215 a [(0, .int .i64 (w64 ((Int.tmod (band .i64 x0 255) 7) + 1))), (1, p1_0), (2, .int .i64 (band .i64 x2 255)), (6, .bool false), (7, .pointer (some ⟨g_30, 0, none⟩)), (8, v_340)] := hm.keep [0, 1, 2, 6, 7, 8]
    exact x_then_n (hJ_j_46 x_337 H _ _ ⟨v_340, N_336, M_338, hm, (Sep.sel hS [0, 1, 2, 3, 4, 5, 6, 7, 8] (by decide)), le_336, ho_341⟩)


end Go.Proofs
