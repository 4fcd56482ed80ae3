/- What the calls do: each function once. -/
import Derived.Test.YtabedbggldnkhaaGathOncec2
namespace Go.Proofs
open Go.Gp
set_option linter.unusedVariables false
set_option maxHeartbeats 4000000 in
set_option maxRecDepth 20000 in
theorem gath_Gather_Commit.calls (K : Nat) (g0 : Nat) (x0_n : Int) (x0_id : Int) (x0_v : Int) (x0_l : List api_Msg) (p0_0 : Value) (M0_0 : Mem) (x0_come : Int) (x0_ready : Int) (x0_commit_Kind : Int) (x0_commit_From : Int) (x0_commit_To : Int) (x0_commit_View : Int) (x0_commit_Inst : Int) (x0_commit_Len : Int) (x0_commit_Has : Bool) (x0_commit_Members : Int) (x0_commit_Source : Int) (x0_commit_At : Int) (x0_commit_Total : Int) (x0_commit_Data : List UInt8) (p0_1 : Value) (x0_commit_Hop : Int) (x0_commit_Seq : Int) (x0_commit_Have : List Int) (p0_2 : Value) (x0_commit_Need : List Int) (p0_3 : Value) (x0_commit_Index : Int) (x0_commit_Entry_Sess : Int) (x0_commit_Entry_Seq : Int) (x0_commit_Entry_Cmd_Kind : Int) (x0_commit_Entry_Cmd_Who : Int) (x0_commit_Entry_Cmd_Key : List UInt8) (p0_4 : Value) (x0_commit_Entry_Cmd_Val : List UInt8) (p0_5 : Value) (x0_commit_Entry_Cmd_Old : List UInt8) (p0_6 : Value) (x0_is : Bool) (r : api_Msg × Bool × Int × Int × Int × (List api_Msg) × Int × Int × Int × Int × Int × Int × Int × Int × Bool × Int × Int × Int × Int × (List UInt8) × Int × Int × (List Int) × (List Int) × Int × Int × Int × Int × Int × (List UInt8) × (List UInt8) × (List UInt8) × Bool) (w0 w : World) (Z A : Mem) (hA : A.le Z) (hS : Sep w0 w [Mem.one g0 (.cells ([.int .i64 x0_n, .int .i64 x0_id, .int .i64 x0_v, p0_0, .int .i64 x0_come, .int .i64 x0_ready, .int .i64 x0_commit_Kind, .int .i64 x0_commit_From, .int .i64 x0_commit_To, .int .i64 x0_commit_View, .int .i64 x0_commit_Inst, .int .i64 x0_commit_Len, .bool x0_commit_Has, .int .i64 x0_commit_Members, .int .i64 x0_commit_Source, .int .i64 x0_commit_At, .int .i64 x0_commit_Total, p0_1, .int .i64 x0_commit_Hop, .int .i64 x0_commit_Seq, p0_2, p0_3, .int .i64 x0_commit_Index, .int .i64 x0_commit_Entry_Sess, .int .i64 x0_commit_Entry_Seq, .int .i64 x0_commit_Entry_Cmd_Kind, .int .i64 x0_commit_Entry_Cmd_Who, p0_4, p0_5, p0_6, .bool x0_is] : List Value).toArray 80 (0, 0)), M0_0] Z) (hp0_0 : Own k_api_Msg 29 M0_0 A p0_0 x0_l) (hp0_1 : Rd Kd.u8 A p0_1 x0_commit_Data) (hp0_2 : Rd (Kd.int .i64) A p0_2 x0_commit_Have) (hp0_3 : Rd (Kd.int .i64) A p0_3 x0_commit_Need) (hp0_4 : Rd Kd.u8 A p0_4 x0_commit_Entry_Cmd_Key) (hp0_5 : Rd Kd.u8 A p0_5 x0_commit_Entry_Cmd_Val) (hp0_6 : Rd Kd.u8 A p0_6 x0_commit_Entry_Cmd_Old)
    (H : gath_Gather_Commit.f K x0_n x0_id x0_v x0_l x0_come x0_ready x0_commit_Kind x0_commit_From x0_commit_To x0_commit_View x0_commit_Inst x0_commit_Len x0_commit_Has x0_commit_Members x0_commit_Source x0_commit_At x0_commit_Total x0_commit_Data x0_commit_Hop x0_commit_Seq x0_commit_Have x0_commit_Need x0_commit_Index x0_commit_Entry_Sess x0_commit_Entry_Seq x0_commit_Entry_Cmd_Kind x0_commit_Entry_Cmd_Who x0_commit_Entry_Cmd_Key x0_commit_Entry_Cmd_Val x0_commit_Entry_Cmd_Old x0_is = some r) :
    Calls Try.prog 45 [.pointer (some ⟨g0, 0, none⟩)].toArray w (Ret fun v w' => ∃ (u0 : Value) (u1 : Value) (u2 : Value) (u3 : Value) (u4 : Value) (u5 : Value) (u6 : Value) (u7 : Value) (u8 : Value) (u9 : Value) (u10 : Value) (u11 : Value) (u12 : Value) (N : Mem) (M100 : Mem), v = .tuple [.agg [.int .i64 r.1.Kind, .int .i64 r.1.From, .int .i64 r.1.To, .int .i64 r.1.View, .int .i64 r.1.Inst, .int .i64 r.1.Len, .bool r.1.Has, .int .i64 r.1.Members, .int .i64 r.1.Source, .int .i64 r.1.At, .int .i64 r.1.Total, u0, .int .i64 r.1.Hop, .int .i64 r.1.Seq, u1, u2, .int .i64 r.1.Index, .int .i64 r.1.Entry.Sess, .int .i64 r.1.Entry.Seq, .int .i64 r.1.Entry.Cmd.Kind, .int .i64 r.1.Entry.Cmd.Who, u3, u4, u5].toArray, .bool r.2.1].toArray ∧ Sep w0 w' [N, Mem.one g0 (.cells ([.int .i64 r.2.2.1, .int .i64 r.2.2.2.1, .int .i64 r.2.2.2.2.1, u6, .int .i64 r.2.2.2.2.2.2.1, .int .i64 r.2.2.2.2.2.2.2.1, .int .i64 r.2.2.2.2.2.2.2.2.1, .int .i64 r.2.2.2.2.2.2.2.2.2.1, .int .i64 r.2.2.2.2.2.2.2.2.2.2.1, .int .i64 r.2.2.2.2.2.2.2.2.2.2.2.1, .int .i64 r.2.2.2.2.2.2.2.2.2.2.2.2.1, .int .i64 r.2.2.2.2.2.2.2.2.2.2.2.2.2.1, .bool r.2.2.2.2.2.2.2.2.2.2.2.2.2.2.1, .int .i64 r.2.2.2.2.2.2.2.2.2.2.2.2.2.2.2.1, .int .i64 r.2.2.2.2.2.2.2.2.2.2.2.2.2.2.2.2.1, .int .i64 r.2.2.2.2.2.2.2.2.2.2.2.2.2.2.2.2.2.1, .int .i64 r.2.2.2.2.2.2.2.2.2.2.2.2.2.2.2.2.2.2.1, u7, .int .i64 r.2.2.2.2.2.2.2.2.2.2.2.2.2.2.2.2.2.2.2.2.1, .int .i64 r.2.2.2.2.2.2.2.2.2.2.2.2.2.2.2.2.2.2.2.2.2.1, u8, u9, .int .i64 r.2.2.2.2.2.2.2.2.2.2.2.2.2.2.2.2.2.2.2.2.2.2.2.2.1, .int .i64 r.2.2.2.2.2.2.2.2.2.2.2.2.2.2.2.2.2.2.2.2.2.2.2.2.2.1, .int .i64 r.2.2.2.2.2.2.2.2.2.2.2.2.2.2.2.2.2.2.2.2.2.2.2.2.2.2.1, .int .i64 r.2.2.2.2.2.2.2.2.2.2.2.2.2.2.2.2.2.2.2.2.2.2.2.2.2.2.2.1, .int .i64 r.2.2.2.2.2.2.2.2.2.2.2.2.2.2.2.2.2.2.2.2.2.2.2.2.2.2.2.2.1, u10, u11, u12, .bool r.2.2.2.2.2.2.2.2.2.2.2.2.2.2.2.2.2.2.2.2.2.2.2.2.2.2.2.2.2.2.2.2] : List Value).toArray 80 (0, 0)), M100] Z ∧ Rd Kd.u8 (A.un N) u0 r.1.Data ∧ Rd (Kd.int .i64) (A.un N) u1 r.1.Have ∧ Rd (Kd.int .i64) (A.un N) u2 r.1.Need ∧ Rd Kd.u8 (A.un N) u3 r.1.Entry.Cmd.Key ∧ Rd Kd.u8 (A.un N) u4 r.1.Entry.Cmd.Val ∧ Rd Kd.u8 (A.un N) u5 r.1.Entry.Cmd.Old ∧ Own k_api_Msg 29 M100 (A.un N) u6 r.2.2.2.2.2.1 ∧ Rd Kd.u8 (A.un N) u7 r.2.2.2.2.2.2.2.2.2.2.2.2.2.2.2.2.2.2.2.1 ∧ Rd (Kd.int .i64) (A.un N) u8 r.2.2.2.2.2.2.2.2.2.2.2.2.2.2.2.2.2.2.2.2.2.2.1 ∧ Rd (Kd.int .i64) (A.un N) u9 r.2.2.2.2.2.2.2.2.2.2.2.2.2.2.2.2.2.2.2.2.2.2.2.1 ∧ Rd Kd.u8 (A.un N) u10 r.2.2.2.2.2.2.2.2.2.2.2.2.2.2.2.2.2.2.2.2.2.2.2.2.2.2.2.2.2.1 ∧ Rd Kd.u8 (A.un N) u11 r.2.2.2.2.2.2.2.2.2.2.2.2.2.2.2.2.2.2.2.2.2.2.2.2.2.2.2.2.2.2.1 ∧ Rd Kd.u8 (A.un N) u12 r.2.2.2.2.2.2.2.2.2.2.2.2.2.2.2.2.2.2.2.2.2.2.2.2.2.2.2.2.2.2.2.1) := by
  unfold gath_Gather_Commit.f at H
  refine f_enter _ Try.func45 rfl Try.ntmps45 rfl fun a hm => ?_
  replace hm : Fr 52 a [(0, .pointer (some ⟨g0, 0, none⟩))] := hm
  replace hS := hS.start
  replace hS : Sep w0 w [Mem.no, Mem.one g0 (.cells ([.int .i64 x0_n, .int .i64 x0_id, .int .i64 x0_v, p0_0, .int .i64 x0_come, .int .i64 x0_ready, .int .i64 x0_commit_Kind, .int .i64 x0_commit_From, .int .i64 x0_commit_To, .int .i64 x0_commit_View, .int .i64 x0_commit_Inst, .int .i64 x0_commit_Len, .bool x0_commit_Has, .int .i64 x0_commit_Members, .int .i64 x0_commit_Source, .int .i64 x0_commit_At, .int .i64 x0_commit_Total, p0_1, .int .i64 x0_commit_Hop, .int .i64 x0_commit_Seq, p0_2, p0_3, .int .i64 x0_commit_Index, .int .i64 x0_commit_Entry_Sess, .int .i64 x0_commit_Entry_Seq, .int .i64 x0_commit_Entry_Cmd_Kind, .int .i64 x0_commit_Entry_Cmd_Who, p0_4, p0_5, p0_6, .bool x0_is] : List Value).toArray 80 (0, 0)), M0_0] Z := hS
  refine wp_seq ?_
  refine wp_region_lit ?_
  refine v_alloc hm rfl ti29 hS ?_
  intro w_1 g_2 hS'
  clear hm a; intro a hm
  replace hS : Sep w0 w_1 [Mem.no, Mem.one g0 (.cells ([.int .i64 x0_n, .int .i64 x0_id, .int .i64 x0_v, p0_0, .int .i64 x0_come, .int .i64 x0_ready, .int .i64 x0_commit_Kind, .int .i64 x0_commit_From, .int .i64 x0_commit_To, .int .i64 x0_commit_View, .int .i64 x0_commit_Inst, .int .i64 x0_commit_Len, .bool x0_commit_Has, .int .i64 x0_commit_Members, .int .i64 x0_commit_Source, .int .i64 x0_commit_At, .int .i64 x0_commit_Total, p0_1, .int .i64 x0_commit_Hop, .int .i64 x0_commit_Seq, p0_2, p0_3, .int .i64 x0_commit_Index, .int .i64 x0_commit_Entry_Sess, .int .i64 x0_commit_Entry_Seq, .int .i64 x0_commit_Entry_Cmd_Kind, .int .i64 x0_commit_Entry_Cmd_Who, p0_4, p0_5, p0_6, .bool x0_is] : List Value).toArray 80 (0, 0)), M0_0, Mem.one g_2 (.cells ([.int .i64 0, .int .i64 0, .int .i64 0, .int .i64 0, .int .i64 0, .int .i64 0, .bool false, .int .i64 0, .int .i64 0, .int .i64 0, .int .i64 0, .slice none 0 0, .int .i64 0, .int .i64 0, .slice none 0 0, .slice none 0 0, .int .i64 0, .int .i64 0, .int .i64 0, .int .i64 0, .int .i64 0, .slice none 0 0, .slice none 0 0, .slice none 0 0] : List Value).toArray 29 (0, 0))] Z := hS'
  clear hS'
  refine s_assign hm rfl rfl ?_
  clear hm a; intro a hm
  refine wpList_nil ?_
  replace hm : Fr 52 a [(0, .pointer (some ⟨g0, 0, none⟩)), (2, .pointer (some ⟨g_2, 0, none⟩)), (3, .bool false)] := hm.keep [0, 2, 3]
  refine x_then_n ?_
  refine c_seq fun KJ_3 hKJ_3 => ?_
  refine wp_seq ?_
  refine wp_region_lit ?_
  refine s_move hm rfl rfl ?_
  clear hm a; intro a hm
  refine s_nilCheck hm rfl rfl ?_
  clear hm a; intro a hm
  refine s_fieldAddr hm rfl Try.underlying80 rfl ti4 rfl rfl ?_
  clear hm a; intro a hm
  refine s_load hm rfl rfl (hS.load_one (p := 1) rfl Try.underlying4 rfl rfl) ?_
  clear hm a; intro a hm
  refine s_not hm rfl rfl ?_
  clear hm a; intro a hm
  refine wpList_nil ?_
  replace hm : Fr 52 a [(0, .pointer (some ⟨g0, 0, none⟩)), (2, .pointer (some ⟨g_2, 0, none⟩)), (3, .bool false), (12, .bool (!x0_is))] := hm.keep [0, 2, 3, 12]
  refine x_then_n ?_
  have hJ_j_43 : ∀ (x_5 : Int), ∀ (x_6 : Int), ∀ (x_7 : Int), ∀ (x_8 : Int), ∀ (x_9 : Int), ∀ (x_10 : Int), ∀ (x_11 : Bool), ∀ (x_12 : Int), ∀ (x_13 : Int), ∀ (x_14 : Int), ∀ (x_15 : Int), ∀ (x_16 : List UInt8), ∀ (x_19 : Int), ∀ (x_20 : Int), ∀ (x_21 : List Int), ∀ (x_24 : List Int), ∀ (x_27 : Int), ∀ (x_28 : Int), ∀ (x_29 : Int), ∀ (x_30 : Int), ∀ (x_31 : Int), ∀ (x_32 : List UInt8), ∀ (x_35 : List UInt8), ∀ (x_38 : List UInt8), ∀ (x_41 : Bool), gath_Gather_Commit.J1 K x0_n x0_id x0_v x0_l x0_come x0_ready x_5 x_6 x_7 x_8 x_9 x_10 x_11 x_12 x_13 x_14 x_15 x_16 x_19 x_20 x_21 x_24 x_27 x_28 x_29 x_30 x_31 x_32 x_35 x_38 x_41 = some r → ∀ (a : Act) (w_42 : World), (∃ (v_17 : Value) (v_22 : Value) (v_25 : Value) (v_33 : Value) (v_36 : Value) (v_39 : Value) (N_4 : Mem), Fr 52 a [(0, .pointer (some ⟨g0, 0, none⟩)), (2, .pointer (some ⟨g_2, 0, none⟩)), (3, .bool false)] ∧ Sep w0 w_42 [N_4, Mem.one g0 (.cells ([.int .i64 x0_n, .int .i64 x0_id, .int .i64 x0_v, p0_0, .int .i64 x0_come, .int .i64 x0_ready, .int .i64 x_5, .int .i64 x_6, .int .i64 x_7, .int .i64 x_8, .int .i64 x_9, .int .i64 x_10, .bool x_11, .int .i64 x_12, .int .i64 x_13, .int .i64 x_14, .int .i64 x_15, v_17, .int .i64 x_19, .int .i64 x_20, v_22, v_25, .int .i64 x_27, .int .i64 x_28, .int .i64 x_29, .int .i64 x_30, .int .i64 x_31, v_33, v_36, v_39, .bool x_41] : List Value).toArray 80 (0, 0)), M0_0, Mem.one g_2 (.cells ([.int .i64 0, .int .i64 0, .int .i64 0, .int .i64 0, .int .i64 0, .int .i64 0, .bool false, .int .i64 0, .int .i64 0, .int .i64 0, .int .i64 0, .slice none 0 0, .int .i64 0, .int .i64 0, .slice none 0 0, .slice none 0 0, .int .i64 0, .int .i64 0, .int .i64 0, .int .i64 0, .int .i64 0, .slice none 0 0, .slice none 0 0, .slice none 0 0] : List Value).toArray 29 (0, 0))] Z ∧ Mem.no.le N_4 ∧ Rd Kd.u8 A v_17 x_16 ∧ Rd (Kd.int .i64) A v_22 x_21 ∧ Rd (Kd.int .i64) A v_25 x_24 ∧ Rd Kd.u8 A v_33 x_32 ∧ Rd Kd.u8 A v_36 x_35 ∧ Rd Kd.u8 A v_39 x_38) → KJ_3 a w_42 := by
    clear H hm hS a
    rintro x_5 x_6 x_7 x_8 x_9 x_10 x_11 x_12 x_13 x_14 x_15 x_16 x_19 x_20 x_21 x_24 x_27 x_28 x_29 x_30 x_31 x_32 x_35 x_38 x_41 H a w_42 ⟨v_17, v_22, v_25, v_33, v_36, v_39, N_4, hm, hS, le_4, hr_18, hr_23, hr_26, hr_34, hr_37, hr_40⟩
    unfold gath_Gather_Commit.J1 at H
    refine hKJ_3 _ _ ?_
    refine wp_seq ?_
    refine wp_region_lit ?_
    refine s_move hm rfl rfl ?_
    clear hm a; intro a hm
    refine s_nilCheck hm rfl rfl ?_
    clear hm a; intro a hm
    refine s_fieldAddr hm rfl Try.underlying80 rfl ti29 rfl rfl ?_
    clear hm a; intro a hm
    refine s_load hm rfl rfl (hS.load_agg (p := 1) (us := [.int .i64 x_5, .int .i64 x_6, .int .i64 x_7, .int .i64 x_8, .int .i64 x_9, .int .i64 x_10, .bool x_11, .int .i64 x_12, .int .i64 x_13, .int .i64 x_14, .int .i64 x_15, v_17, .int .i64 x_19, .int .i64 x_20, v_22, v_25, .int .i64 x_27, .int .i64 x_28, .int .i64 x_29, .int .i64 x_30, .int .i64 x_31, v_33, v_36, v_39]) rfl Try.underlying29 rfl ti29 rfl rfl) ?_
    clear hm a; intro a hm
    obtain ⟨w_44, hs', hS'⟩ := hS.store (P := Try.prog) (p := 3) (o := 0) (t := 29) (v := .agg ([.int .i64 x_5, .int .i64 x_6, .int .i64 x_7, .int .i64 x_8, .int .i64 x_9, .int .i64 x_10, .bool x_11, .int .i64 x_12, .int .i64 x_13, .int .i64 x_14, .int .i64 x_15, v_17, .int .i64 x_19, .int .i64 x_20, v_22, v_25, .int .i64 x_27, .int .i64 x_28, .int .i64 x_29, .int .i64 x_30, .int .i64 x_31, v_33, v_36, v_39] : List Value).toArray) (vs := [.int .i64 x_5, .int .i64 x_6, .int .i64 x_7, .int .i64 x_8, .int .i64 x_9, .int .i64 x_10, .bool x_11, .int .i64 x_12, .int .i64 x_13, .int .i64 x_14, .int .i64 x_15, v_17, .int .i64 x_19, .int .i64 x_20, v_22, v_25, .int .i64 x_27, .int .i64 x_28, .int .i64 x_29, .int .i64 x_30, .int .i64 x_31, v_33, v_36, v_39]) rfl ti29 rfl rfl rfl (by intro u hu; simp only [List.mem_cons, List.not_mem_nil, or_false] at hu; rcases hu with rfl | rfl | rfl | rfl | rfl | rfl | rfl | rfl | rfl | rfl | rfl | rfl | rfl | rfl | rfl | rfl | rfl | rfl | rfl | rfl | rfl | rfl | rfl | rfl <;> first | rfl | exact hr_18.one | exact hr_23.one | exact hr_26.one | exact hr_34.one | exact hr_37.one | exact hr_40.one)
    refine s_store hm rfl rfl hs' ?_
    replace hS : Sep w0 w_44 [N_4, Mem.one g0 (.cells ([.int .i64 x0_n, .int .i64 x0_id, .int .i64 x0_v, p0_0, .int .i64 x0_come, .int .i64 x0_ready, .int .i64 x_5, .int .i64 x_6, .int .i64 x_7, .int .i64 x_8, .int .i64 x_9, .int .i64 x_10, .bool x_11, .int .i64 x_12, .int .i64 x_13, .int .i64 x_14, .int .i64 x_15, v_17, .int .i64 x_19, .int .i64 x_20, v_22, v_25, .int .i64 x_27, .int .i64 x_28, .int .i64 x_29, .int .i64 x_30, .int .i64 x_31, v_33, v_36, v_39, .bool x_41] : List Value).toArray 80 (0, 0)), M0_0, Mem.one g_2 (.cells ([.int .i64 x_5, .int .i64 x_6, .int .i64 x_7, .int .i64 x_8, .int .i64 x_9, .int .i64 x_10, .bool x_11, .int .i64 x_12, .int .i64 x_13, .int .i64 x_14, .int .i64 x_15, v_17, .int .i64 x_19, .int .i64 x_20, v_22, v_25, .int .i64 x_27, .int .i64 x_28, .int .i64 x_29, .int .i64 x_30, .int .i64 x_31, v_33, v_36, v_39] : List Value).toArray 29 (0, 0))] Z := hS'
    clear hs' hS'
    refine s_assign hm rfl rfl ?_
    clear hm a; intro a hm
    refine wpList_nil ?_
    replace hm : Fr 52 a [(2, .pointer (some ⟨g_2, 0, none⟩)), (3, .bool true)] := hm.keep [2, 3]
    refine x_then_n ?_
    refine wp_ret ?_
    obtain rfl := Option.some.inj H
    exact f_ret hm (rs := [.cell 2 29, .tmp 3]) rfl (.cell rfl (hS.load_agg (p := 3) (us := [.int .i64 x_5, .int .i64 x_6, .int .i64 x_7, .int .i64 x_8, .int .i64 x_9, .int .i64 x_10, .bool x_11, .int .i64 x_12, .int .i64 x_13, .int .i64 x_14, .int .i64 x_15, v_17, .int .i64 x_19, .int .i64 x_20, v_22, v_25, .int .i64 x_27, .int .i64 x_28, .int .i64 x_29, .int .i64 x_30, .int .i64 x_31, v_33, v_36, v_39]) rfl Try.underlying29 rfl ti29 rfl rfl) (.tmp rfl .nil)) ⟨_, rfl, v_17, v_22, v_25, v_33, v_36, v_39, p0_0, v_17, v_22, v_25, v_33, v_36, v_39, N_4, M0_0, rfl, (Sep.sel hS [0, 1, 2] (by decide)), (hr_18.mono (Mem.le_un _ _)), (hr_23.mono (Mem.le_un _ _)), (hr_26.mono (Mem.le_un _ _)), (hr_34.mono (Mem.le_un _ _)), (hr_37.mono (Mem.le_un _ _)), (hr_40.mono (Mem.le_un _ _)), (hp0_0.mono (Mem.le_un _ _)), (hr_18.mono (Mem.le_un _ _)), (hr_23.mono (Mem.le_un _ _)), (hr_26.mono (Mem.le_un _ _)), (hr_34.mono (Mem.le_un _ _)), (hr_37.mono (Mem.le_un _ _)), (hr_40.mono (Mem.le_un _ _))⟩
  clear hKJ_3
  by_cases hc_45 : x0_is = true
  · rw [if_pos hc_45] at H
    refine c_cond_f hm rfl (nf hc_45) ?_
    refine wp_skip ?_
    replace hS : Sep w0 w_1 [Mem.no, Mem.one g0 (.cells ([.int .i64 x0_n, .int .i64 x0_id, .int .i64 x0_v, p0_0, .int .i64 x0_come, .int .i64 x0_ready, .int .i64 x0_commit_Kind, .int .i64 x0_commit_From, .int .i64 x0_commit_To, .int .i64 x0_commit_View, .int .i64 x0_commit_Inst, .int .i64 x0_commit_Len, .bool x0_commit_Has, .int .i64 x0_commit_Members, .int .i64 x0_commit_Source, .int .i64 x0_commit_At, .int .i64 x0_commit_Total, p0_1, .int .i64 x0_commit_Hop, .int .i64 x0_commit_Seq, p0_2, p0_3, .int .i64 x0_commit_Index, .int .i64 x0_commit_Entry_Sess, .int .i64 x0_commit_Entry_Seq, .int .i64 x0_commit_Entry_Cmd_Kind, .int .i64 x0_commit_Entry_Cmd_Who, p0_4, p0_5, p0_6, .bool x0_is] : List Value).toArray 80 (0, 0)), M0_0, Mem.one g_2 (.cells ([.int .i64 0, .int .i64 0, .int .i64 0, .int .i64 0, .int .i64 0, .int .i64 0, .bool false, .int .i64 0, .int .i64 0, .int .i64 0, .int .i64 0, .slice none 0 0, .int .i64 0, .int .i64 0, .slice none 0 0, .slice none 0 0, .int .i64 0, .int .i64 0, .int .i64 0, .int .i64 0, .int .i64 0, .slice none 0 0, .slice none 0 0, .slice none 0 0] : List Value).toArray 29 (0, 0))] Z := hS
    replace hm : Fr 52 a [(0, .pointer (some ⟨g0, 0, none⟩)), (2, .pointer (some ⟨g_2, 0, none⟩)), (3, .bool false)] := hm.keep [0, 2, 3]
    exact x_then_n (hJ_j_43 x0_commit_Kind x0_commit_From x0_commit_To x0_commit_View x0_commit_Inst x0_commit_Len x0_commit_Has x0_commit_Members x0_commit_Source x0_commit_At x0_commit_Total x0_commit_Data x0_commit_Hop x0_commit_Seq x0_commit_Have x0_commit_Need x0_commit_Index x0_commit_Entry_Sess x0_commit_Entry_Seq x0_commit_Entry_Cmd_Kind x0_commit_Entry_Cmd_Who x0_commit_Entry_Cmd_Key x0_commit_Entry_Cmd_Val x0_commit_Entry_Cmd_Old x0_is H _ _ ⟨p0_1, p0_2, p0_3, p0_4, p0_5, p0_6, Mem.no, hm, (Sep.sel hS [0, 1, 2, 3] (by decide)), (Mem.le.refl _), hp0_1, hp0_2, hp0_3, hp0_4, hp0_5, hp0_6⟩)
  · rw [if_neg hc_45] at H
    refine c_cond_t hm rfl (nt (Bool.eq_false_iff.2 hc_45)) ?_
    refine c_seq fun KJ_46 hKJ_46 => ?_
    refine h_begin (S := fun w => Sep w0 w [Mem.no, Mem.one g0 (.cells ([.int .i64 x0_n, .int .i64 x0_id, .int .i64 x0_v, p0_0, .int .i64 x0_come, .int .i64 x0_ready, .int .i64 x0_commit_Kind, .int .i64 x0_commit_From, .int .i64 x0_commit_To, .int .i64 x0_commit_View, .int .i64 x0_commit_Inst, .int .i64 x0_commit_Len, .bool x0_commit_Has, .int .i64 x0_commit_Members, .int .i64 x0_commit_Source, .int .i64 x0_commit_At, .int .i64 x0_commit_Total, p0_1, .int .i64 x0_commit_Hop, .int .i64 x0_commit_Seq, p0_2, p0_3, .int .i64 x0_commit_Index, .int .i64 x0_commit_Entry_Sess, .int .i64 x0_commit_Entry_Seq, .int .i64 x0_commit_Entry_Cmd_Kind, .int .i64 x0_commit_Entry_Cmd_Who, p0_4, p0_5, p0_6, .bool x0_is] : List Value).toArray 80 (0, 0)), M0_0, Mem.one g_2 (.cells ([.int .i64 0, .int .i64 0, .int .i64 0, .int .i64 0, .int .i64 0, .int .i64 0, .bool false, .int .i64 0, .int .i64 0, .int .i64 0, .int .i64 0, .slice none 0 0, .int .i64 0, .int .i64 0, .slice none 0 0, .slice none 0 0, .int .i64 0, .int .i64 0, .int .i64 0, .int .i64 0, .int .i64 0, .slice none 0 0, .slice none 0 0, .slice none 0 0] : List Value).toArray 29 (0, 0))] Z) 18 (by kernel_rfl) rfl [false, false, false, false, false, false, false, false, false, false, false, false, false, false, false, false, false, false].toArray rfl hS fun w_47 hS => ?_
    replace hS : Sep w0 w_47 [Mem.no, Mem.one g0 (.cells ([.int .i64 x0_n, .int .i64 x0_id, .int .i64 x0_v, p0_0, .int .i64 x0_come, .int .i64 x0_ready, .int .i64 x0_commit_Kind, .int .i64 x0_commit_From, .int .i64 x0_commit_To, .int .i64 x0_commit_View, .int .i64 x0_commit_Inst, .int .i64 x0_commit_Len, .bool x0_commit_Has, .int .i64 x0_commit_Members, .int .i64 x0_commit_Source, .int .i64 x0_commit_At, .int .i64 x0_commit_Total, p0_1, .int .i64 x0_commit_Hop, .int .i64 x0_commit_Seq, p0_2, p0_3, .int .i64 x0_commit_Index, .int .i64 x0_commit_Entry_Sess, .int .i64 x0_commit_Entry_Seq, .int .i64 x0_commit_Entry_Cmd_Kind, .int .i64 x0_commit_Entry_Cmd_Who, p0_4, p0_5, p0_6, .bool x0_is] : List Value).toArray 80 (0, 0)), M0_0, Mem.one g_2 (.cells ([.int .i64 0, .int .i64 0, .int .i64 0, .int .i64 0, .int .i64 0, .int .i64 0, .bool false, .int .i64 0, .int .i64 0, .int .i64 0, .int .i64 0, .slice none 0 0, .int .i64 0, .int .i64 0, .slice none 0 0, .slice none 0 0, .int .i64 0, .int .i64 0, .int .i64 0, .int .i64 0, .int .i64 0, .slice none 0 0, .slice none 0 0, .slice none 0 0] : List Value).toArray 29 (0, 0))] Z := hS
    refine h_take 0 [true, false, false, false, false, false, false, false, false, false, false, false, false, false, false, false, false, false].toArray rfl (by kernel_rfl) (by kernel_rfl) (by kernel_rfl) (fun _ _ _ _ h => h) rfl rfl rfl rfl hm (hS.sub (.cons (Mem.le.refl _) (.cons (Mem.le.refl _) (.cons (Mem.le.refl _) (.cons (Mem.le.refl _) (Sub.nil _)))))) (v := .pointer (some ⟨g0, 0, none⟩)) (fun w hS => r_move hm rfl) ?_
    clear hm a; intro a hm
    refine h_take 1 [true, true, false, false, false, false, false, false, false, false, false, false, false, false, false, false, false, false].toArray rfl (by kernel_rfl) (by kernel_rfl) (by kernel_rfl) (fun _ _ _ _ h => h) rfl rfl rfl rfl hm (hS.sub (.cons (Mem.le.refl _) (.cons (Mem.le.refl _) (.cons (Mem.le.refl _) (.cons (Mem.le.refl _) (Sub.nil _)))))) (v := .pointer (some ⟨g0, 0, none⟩)) (fun w hS => r_nilCheck hm rfl) ?_
    clear hm a; intro a hm
    refine h_take 2 [true, true, true, false, false, false, false, false, false, false, false, false, false, false, false, false, false, false].toArray rfl (by kernel_rfl) (by kernel_rfl) (by kernel_rfl) (fun _ _ _ _ h => h) rfl rfl rfl rfl hm (hS.sub (.cons (Mem.le.refl _) (.cons (Mem.le.refl _) (.cons (Mem.le.refl _) (.cons (Mem.le.refl _) (Sub.nil _)))))) (v := .pointer (some ⟨g0, 3, none⟩)) (fun w hS => r_fieldAddr hm Try.underlying80 rfl ti31 rfl rfl rfl) ?_
    clear hm a; intro a hm
    refine h_take 3 [true, true, true, true, false, false, false, false, false, false, false, false, false, false, false, false, false, false].toArray rfl (by kernel_rfl) (by kernel_rfl) (by kernel_rfl) (fun _ _ _ _ h => h) rfl rfl rfl rfl hm (hS.sub (.cons (Mem.le.refl _) (.cons (Mem.le.refl _) (.cons (Mem.le.refl _) (.cons (Mem.le.refl _) (Sub.nil _)))))) (v := p0_0) (fun w hS => r_load hm rfl (hS.load_one (p := 1) rfl Try.underlying31 rfl rfl)) ?_
    clear hm a; intro a hm
    refine h_take 4 [true, true, true, true, true, false, false, false, false, false, false, false, false, false, false, false, false, false].toArray rfl (by kernel_rfl) (by kernel_rfl) (by kernel_rfl) (fun _ _ _ _ h => h) rfl rfl rfl rfl hm (hS.sub (.cons (Mem.le.refl _) (.cons (Mem.le.refl _) (.cons (Mem.le.refl _) (.cons (Mem.le.refl _) (Sub.nil _)))))) (v := .pointer (some ⟨g0, 0, none⟩)) (fun w hS => r_move hm rfl) ?_
    clear hm a; intro a hm
    refine h_take 5 [true, true, true, true, true, true, false, false, false, false, false, false, false, false, false, false, false, false].toArray rfl (by kernel_rfl) (by kernel_rfl) (by kernel_rfl) (fun _ _ _ _ h => h) rfl rfl rfl rfl hm (hS.sub (.cons (Mem.le.refl _) (.cons (Mem.le.refl _) (.cons (Mem.le.refl _) (.cons (Mem.le.refl _) (Sub.nil _)))))) (v := .pointer (some ⟨g0, 0, none⟩)) (fun w hS => r_nilCheck hm rfl) ?_
    clear hm a; intro a hm
    refine h_take 6 [true, true, true, true, true, true, true, false, false, false, false, false, false, false, false, false, false, false].toArray rfl (by kernel_rfl) (by kernel_rfl) (by kernel_rfl) (fun _ _ _ _ h => h) rfl rfl rfl rfl hm (hS.sub (.cons (Mem.le.refl _) (.cons (Mem.le.refl _) (.cons (Mem.le.refl _) (.cons (Mem.le.refl _) (Sub.nil _)))))) (v := .pointer (some ⟨g0, 0, none⟩)) (fun w hS => r_fieldAddr hm Try.underlying80 rfl ti3 rfl rfl rfl) ?_
    clear hm a; intro a hm
    refine h_take 7 [true, true, true, true, true, true, true, true, false, false, false, false, false, false, false, false, false, false].toArray rfl (by kernel_rfl) (by kernel_rfl) (by kernel_rfl) (fun _ _ _ _ h => h) rfl rfl rfl rfl hm (hS.sub (.cons (Mem.le.refl _) (.cons (Mem.le.refl _) (.cons (Mem.le.refl _) (.cons (Mem.le.refl _) (Sub.nil _)))))) (v := .int .i64 x0_n) (fun w hS => r_load hm rfl (hS.load_one (p := 1) rfl Try.underlying3 rfl rfl)) ?_
    clear hm a; intro a hm
    refine h_event 8 [true, true, true, true, true, true, true, true, true, false, false, false, false, false, false, false, false, false].toArray rfl (by kernel_rfl) rfl ?_
    obtain ⟨t_48, et_48, H⟩ := Option.bind_eq_some_iff.1 H
    refine s_call hm rfl Try.call16 rfl (view_Choose.calls K x0_l _ x0_n t_48 w0 _ _ _ (Mem.le.refl _) (hS.enter [] (by decide)) (hp0_0.rd (hS.own_zed [] 1 (by decide)) (hA.trans (hS.le_zed []))) et_48) ?_
    rintro _ w_49 ⟨N_50, rfl, hS'⟩
    clear hm a; intro a hm
    obtain ⟨N_51, hS'', le_51, ln_51⟩ := hS.call [] (by decide) rfl (l' := []) (ow := []) rfl hS'
    replace hS : Sep w0 w_49 [N_51, Mem.one g0 (.cells ([.int .i64 x0_n, .int .i64 x0_id, .int .i64 x0_v, p0_0, .int .i64 x0_come, .int .i64 x0_ready, .int .i64 x0_commit_Kind, .int .i64 x0_commit_From, .int .i64 x0_commit_To, .int .i64 x0_commit_View, .int .i64 x0_commit_Inst, .int .i64 x0_commit_Len, .bool x0_commit_Has, .int .i64 x0_commit_Members, .int .i64 x0_commit_Source, .int .i64 x0_commit_At, .int .i64 x0_commit_Total, p0_1, .int .i64 x0_commit_Hop, .int .i64 x0_commit_Seq, p0_2, p0_3, .int .i64 x0_commit_Index, .int .i64 x0_commit_Entry_Sess, .int .i64 x0_commit_Entry_Seq, .int .i64 x0_commit_Entry_Cmd_Kind, .int .i64 x0_commit_Entry_Cmd_Who, p0_4, p0_5, p0_6, .bool x0_is] : List Value).toArray 80 (0, 0)), M0_0, Mem.one g_2 (.cells ([.int .i64 0, .int .i64 0, .int .i64 0, .int .i64 0, .int .i64 0, .int .i64 0, .bool false, .int .i64 0, .int .i64 0, .int .i64 0, .int .i64 0, .slice none 0 0, .int .i64 0, .int .i64 0, .slice none 0 0, .slice none 0 0, .int .i64 0, .int .i64 0, .int .i64 0, .int .i64 0, .int .i64 0, .slice none 0 0, .slice none 0 0, .slice none 0 0] : List Value).toArray 29 (0, 0))] Z := hS''
    clear hS' hS''
    refine wpList_nil ?_
    refine x_then_n ⟨(hS.sub (.cons le_51 (.cons (Mem.le.refl _) (.cons (Mem.le.refl _) (.cons (Mem.le.refl _) (Sub.nil _)))))), ?_⟩
    refine h_take 9 [true, true, true, true, true, true, true, true, true, true, false, false, false, false, false, false, false, false].toArray rfl (by kernel_rfl) (by kernel_rfl) (by kernel_rfl) (fun _ _ _ _ h => h) rfl rfl rfl rfl hm (hS.sub (.cons le_51 (.cons (Mem.le.refl _) (.cons (Mem.le.refl _) (.cons (Mem.le.refl _) (Sub.nil _)))))) (v := .tuple [.int .i64 t_48.1, .int .i64 t_48.2.1, .int .i64 t_48.2.2.1, .bool t_48.2.2.2].toArray) (fun w hS => r_move hm rfl) ?_
    clear hm a; intro a hm
    refine h_take 10 [true, true, true, true, true, true, true, true, true, true, true, false, false, false, false, false, false, false].toArray rfl (by kernel_rfl) (by kernel_rfl) (by kernel_rfl) (fun _ _ _ _ h => h) rfl rfl rfl rfl hm (hS.sub (.cons le_51 (.cons (Mem.le.refl _) (.cons (Mem.le.refl _) (.cons (Mem.le.refl _) (Sub.nil _)))))) (v := .int .i64 t_48.1) (fun w hS => r_extract hm rfl rfl) ?_
    clear hm a; intro a hm
    refine h_take 11 [true, true, true, true, true, true, true, true, true, true, true, true, false, false, false, false, false, false].toArray rfl (by kernel_rfl) (by kernel_rfl) (by kernel_rfl) (fun _ _ _ _ h => h) rfl rfl rfl rfl hm (hS.sub (.cons le_51 (.cons (Mem.le.refl _) (.cons (Mem.le.refl _) (.cons (Mem.le.refl _) (Sub.nil _)))))) (v := .int .i64 t_48.2.1) (fun w hS => r_extract hm rfl rfl) ?_
    clear hm a; intro a hm
    refine h_take 12 [true, true, true, true, true, true, true, true, true, true, true, true, true, false, false, false, false, false].toArray rfl (by kernel_rfl) (by kernel_rfl) (by kernel_rfl) (fun _ _ _ _ h => h) rfl rfl rfl rfl hm (hS.sub (.cons le_51 (.cons (Mem.le.refl _) (.cons (Mem.le.refl _) (.cons (Mem.le.refl _) (Sub.nil _)))))) (v := .int .i64 t_48.2.2.1) (fun w hS => r_extract hm rfl rfl) ?_
    clear hm a; intro a hm
    refine h_take 13 [true, true, true, true, true, true, true, true, true, true, true, true, true, true, false, false, false, false].toArray rfl (by kernel_rfl) (by kernel_rfl) (by kernel_rfl) (fun _ _ _ _ h => h) rfl rfl rfl rfl hm (hS.sub (.cons le_51 (.cons (Mem.le.refl _) (.cons (Mem.le.refl _) (.cons (Mem.le.refl _) (Sub.nil _)))))) (v := .bool t_48.2.2.2) (fun w hS => r_extract hm rfl rfl) ?_
    clear hm a; intro a hm
    refine h_take 14 [true, true, true, true, true, true, true, true, true, true, true, true, true, true, true, false, false, false].toArray rfl (by kernel_rfl) (by kernel_rfl) (by kernel_rfl) (fun _ _ _ _ h => h) rfl rfl rfl rfl hm (hS.sub (.cons le_51 (.cons (Mem.le.refl _) (.cons (Mem.le.refl _) (.cons (Mem.le.refl _) (Sub.nil _)))))) (v := .int .i64 t_48.1) (fun w hS => r_assign hm rfl) ?_
    clear hm a; intro a hm
    refine h_take 15 [true, true, true, true, true, true, true, true, true, true, true, true, true, true, true, true, false, false].toArray rfl (by kernel_rfl) (by kernel_rfl) (by kernel_rfl) (fun _ _ _ _ h => h) rfl rfl rfl rfl hm (hS.sub (.cons le_51 (.cons (Mem.le.refl _) (.cons (Mem.le.refl _) (.cons (Mem.le.refl _) (Sub.nil _)))))) (v := .int .i64 t_48.2.1) (fun w hS => r_assign hm rfl) ?_
    clear hm a; intro a hm
    refine h_take 16 [true, true, true, true, true, true, true, true, true, true, true, true, true, true, true, true, true, false].toArray rfl (by kernel_rfl) (by kernel_rfl) (by kernel_rfl) (fun _ _ _ _ h => h) rfl rfl rfl rfl hm (hS.sub (.cons le_51 (.cons (Mem.le.refl _) (.cons (Mem.le.refl _) (.cons (Mem.le.refl _) (Sub.nil _)))))) (v := .int .i64 t_48.2.2.1) (fun w hS => r_assign hm rfl) ?_
    clear hm a; intro a hm
    refine h_take 17 [true, true, true, true, true, true, true, true, true, true, true, true, true, true, true, true, true, true].toArray rfl (by kernel_rfl) (by kernel_rfl) (by kernel_rfl) (fun _ _ _ _ h => h) rfl rfl rfl rfl hm (hS.sub (.cons le_51 (.cons (Mem.le.refl _) (.cons (Mem.le.refl _) (.cons (Mem.le.refl _) (Sub.nil _)))))) (v := .bool t_48.2.2.2) (fun w hS => r_assign hm rfl) ?_
    clear hm a; intro a hm
    refine h_done (by kernel_rfl) ?_
    replace hm : Fr 52 a [(0, .pointer (some ⟨g0, 0, none⟩)), (2, .pointer (some ⟨g_2, 0, none⟩)), (3, .bool false), (4, .int .i64 t_48.1), (5, .int .i64 t_48.2.1), (6, .int .i64 t_48.2.2.1), (7, .bool t_48.2.2.2)] := hm.keep [0, 2, 3, 4, 5, 6, 7]
    refine x_then_n (hKJ_46 _ _ ?_)
    refine c_seq fun KJ_52 hKJ_52 => ?_
    refine wp_seq ?_
    refine wp_region_lit ?_
    refine s_move hm rfl rfl ?_
    clear hm a; intro a hm
    refine s_not hm rfl rfl ?_
    clear hm a; intro a hm
    refine wpList_nil ?_
    replace hm : Fr 52 a [(0, .pointer (some ⟨g0, 0, none⟩)), (2, .pointer (some ⟨g_2, 0, none⟩)), (3, .bool false), (4, .int .i64 t_48.1), (5, .int .i64 t_48.2.1), (6, .int .i64 t_48.2.2.1), (28, .bool (!t_48.2.2.2))] := hm.keep [0, 2, 3, 4, 5, 6, 28]
    refine x_then_n ?_
    by_cases hc_53 : t_48.2.2.2 = true
    · rw [if_pos hc_53] at H
      refine c_cond_f hm rfl (nf hc_53) ?_
      refine wp_skip ?_
      refine x_then_n (hKJ_52 _ _ ?_)
      refine wp_seq ?_
      refine wp_region_lit ?_
      refine s_move hm rfl rfl ?_
      clear hm a; intro a hm
      refine s_nilCheck hm rfl rfl ?_
      clear hm a; intro a hm
      refine s_fieldAddr hm rfl Try.underlying80 rfl ti4 rfl rfl ?_
      clear hm a; intro a hm
      obtain ⟨w_54, hs', hS'⟩ := hS.store (P := Try.prog) (p := 1) (o := 30) (t := 4) (v := .bool true) (vs := [.bool true]) rfl ti4 rfl rfl rfl (by intro u hu; simp only [List.mem_cons, List.not_mem_nil, or_false] at hu; rcases hu with rfl <;> rfl)
      refine s_store hm rfl rfl hs' ?_
      replace hS : Sep w0 w_54 [N_51, Mem.one g0 (.cells ([.int .i64 x0_n, .int .i64 x0_id, .int .i64 x0_v, p0_0, .int .i64 x0_come, .int .i64 x0_ready, .int .i64 x0_commit_Kind, .int .i64 x0_commit_From, .int .i64 x0_commit_To, .int .i64 x0_commit_View, .int .i64 x0_commit_Inst, .int .i64 x0_commit_Len, .bool x0_commit_Has, .int .i64 x0_commit_Members, .int .i64 x0_commit_Source, .int .i64 x0_commit_At, .int .i64 x0_commit_Total, p0_1, .int .i64 x0_commit_Hop, .int .i64 x0_commit_Seq, p0_2, p0_3, .int .i64 x0_commit_Index, .int .i64 x0_commit_Entry_Sess, .int .i64 x0_commit_Entry_Seq, .int .i64 x0_commit_Entry_Cmd_Kind, .int .i64 x0_commit_Entry_Cmd_Who, p0_4, p0_5, p0_6, .bool true] : List Value).toArray 80 (0, 0)), M0_0, Mem.one g_2 (.cells ([.int .i64 0, .int .i64 0, .int .i64 0, .int .i64 0, .int .i64 0, .int .i64 0, .bool false, .int .i64 0, .int .i64 0, .int .i64 0, .int .i64 0, .slice none 0 0, .int .i64 0, .int .i64 0, .slice none 0 0, .slice none 0 0, .int .i64 0, .int .i64 0, .int .i64 0, .int .i64 0, .int .i64 0, .slice none 0 0, .slice none 0 0, .slice none 0 0] : List Value).toArray 29 (0, 0))] Z := hS'
      clear hs' hS'
      refine wpList_nil ?_
      replace hm : Fr 52 a [(0, .pointer (some ⟨g0, 0, none⟩)), (2, .pointer (some ⟨g_2, 0, none⟩)), (3, .bool false), (4, .int .i64 t_48.1), (5, .int .i64 t_48.2.1), (6, .int .i64 t_48.2.2.1)] := hm.keep [0, 2, 3, 4, 5, 6]
      refine x_then_n ?_
      refine h_begin (S := fun w => Sep w0 w [N_51, Mem.no, M0_0, Mem.one g_2 (.cells ([.int .i64 0, .int .i64 0, .int .i64 0, .int .i64 0, .int .i64 0, .int .i64 0, .bool false, .int .i64 0, .int .i64 0, .int .i64 0, .int .i64 0, .slice none 0 0, .int .i64 0, .int .i64 0, .slice none 0 0, .slice none 0 0, .int .i64 0, .int .i64 0, .int .i64 0, .int .i64 0, .int .i64 0, .slice none 0 0, .slice none 0 0, .slice none 0 0] : List Value).toArray 29 (0, 0))] Z) 16 (by kernel_rfl) rfl [false, false, false, false, false, false, false, false, false, false, false, false, false, false, false, false].toArray rfl hS fun w_55 hS => ?_
      replace hS : Sep w0 w_55 [N_51, Mem.one g0 (.cells ([.int .i64 x0_n, .int .i64 x0_id, .int .i64 x0_v, p0_0, .int .i64 x0_come, .int .i64 x0_ready, .int .i64 x0_commit_Kind, .int .i64 x0_commit_From, .int .i64 x0_commit_To, .int .i64 x0_commit_View, .int .i64 x0_commit_Inst, .int .i64 x0_commit_Len, .bool x0_commit_Has, .int .i64 x0_commit_Members, .int .i64 x0_commit_Source, .int .i64 x0_commit_At, .int .i64 x0_commit_Total, p0_1, .int .i64 x0_commit_Hop, .int .i64 x0_commit_Seq, p0_2, p0_3, .int .i64 x0_commit_Index, .int .i64 x0_commit_Entry_Sess, .int .i64 x0_commit_Entry_Seq, .int .i64 x0_commit_Entry_Cmd_Kind, .int .i64 x0_commit_Entry_Cmd_Who, p0_4, p0_5, p0_6, .bool true] : List Value).toArray 80 (0, 0)), M0_0, Mem.one g_2 (.cells ([.int .i64 0, .int .i64 0, .int .i64 0, .int .i64 0, .int .i64 0, .int .i64 0, .bool false, .int .i64 0, .int .i64 0, .int .i64 0, .int .i64 0, .slice none 0 0, .int .i64 0, .int .i64 0, .slice none 0 0, .slice none 0 0, .int .i64 0, .int .i64 0, .int .i64 0, .int .i64 0, .int .i64 0, .slice none 0 0, .slice none 0 0, .slice none 0 0] : List Value).toArray 29 (0, 0))] Z := hS
      refine h_take 0 [true, false, false, false, false, false, false, false, false, false, false, false, false, false, false, false].toArray rfl (by kernel_rfl) (by kernel_rfl) (by kernel_rfl) (fun _ _ _ _ h => h) rfl rfl rfl rfl hm (hS.sub (.cons (Mem.le.refl _) (.cons (Mem.no_le _) (.cons (Mem.le.refl _) (.cons (Mem.le.refl _) (Sub.nil _)))))) (v := .pointer (some ⟨g0, 0, none⟩)) (fun w hS => r_move hm rfl) ?_
      clear hm a; intro a hm
      refine h_take 1 [true, true, false, false, false, false, false, false, false, false, false, false, false, false, false, false].toArray rfl (by kernel_rfl) (by kernel_rfl) (by kernel_rfl) (fun _ _ _ _ h => h) rfl rfl rfl rfl hm (hS.sub (.cons (Mem.le.refl _) (.cons (Mem.no_le _) (.cons (Mem.le.refl _) (.cons (Mem.le.refl _) (Sub.nil _)))))) (v := .pointer (some ⟨g0, 0, none⟩)) (fun w hS => r_move hm rfl) ?_
      clear hm a; intro a hm
      refine h_take 2 [true, true, true, false, false, false, false, false, false, false, false, false, false, false, false, false].toArray rfl (by kernel_rfl) (by kernel_rfl) (by kernel_rfl) (fun _ _ _ _ h => h) rfl rfl rfl rfl hm (hS.sub (.cons (Mem.le.refl _) (.cons (Mem.no_le _) (.cons (Mem.le.refl _) (.cons (Mem.le.refl _) (Sub.nil _)))))) (v := .pointer (some ⟨g0, 0, none⟩)) (fun w hS => r_nilCheck hm rfl) ?_
      clear hm a; intro a hm
      refine h_take 3 [true, true, true, true, false, false, false, false, false, false, false, false, false, false, false, false].toArray rfl (by kernel_rfl) (by kernel_rfl) (by kernel_rfl) (fun _ _ _ _ h => h) rfl rfl rfl rfl hm (hS.sub (.cons (Mem.le.refl _) (.cons (Mem.no_le _) (.cons (Mem.le.refl _) (.cons (Mem.le.refl _) (Sub.nil _)))))) (v := .pointer (some ⟨g0, 1, none⟩)) (fun w hS => r_fieldAddr hm Try.underlying80 rfl ti3 rfl rfl rfl) ?_
      clear hm a; intro a hm
      refine h_take 5 [true, true, true, true, false, true, false, false, false, false, false, false, false, false, false, false].toArray rfl (by kernel_rfl) (by kernel_rfl) (by kernel_rfl) (fun _ _ _ _ h => h) rfl rfl rfl rfl hm (hS.sub (.cons (Mem.le.refl _) (.cons (Mem.no_le _) (.cons (Mem.le.refl _) (.cons (Mem.le.refl _) (Sub.nil _)))))) (v := .pointer (some ⟨g0, 0, none⟩)) (fun w hS => r_move hm rfl) ?_
      clear hm a; intro a hm
      refine h_take 6 [true, true, true, true, false, true, true, false, false, false, false, false, false, false, false, false].toArray rfl (by kernel_rfl) (by kernel_rfl) (by kernel_rfl) (fun _ _ _ _ h => h) rfl rfl rfl rfl hm (hS.sub (.cons (Mem.le.refl _) (.cons (Mem.no_le _) (.cons (Mem.le.refl _) (.cons (Mem.le.refl _) (Sub.nil _)))))) (v := .pointer (some ⟨g0, 0, none⟩)) (fun w hS => r_nilCheck hm rfl) ?_
      clear hm a; intro a hm
      refine h_take 7 [true, true, true, true, false, true, true, true, false, false, false, false, false, false, false, false].toArray rfl (by kernel_rfl) (by kernel_rfl) (by kernel_rfl) (fun _ _ _ _ h => h) rfl rfl rfl rfl hm (hS.sub (.cons (Mem.le.refl _) (.cons (Mem.no_le _) (.cons (Mem.le.refl _) (.cons (Mem.le.refl _) (Sub.nil _)))))) (v := .pointer (some ⟨g0, 2, none⟩)) (fun w hS => r_fieldAddr hm Try.underlying80 rfl ti3 rfl rfl rfl) ?_
      clear hm a; intro a hm
      refine h_take 9 [true, true, true, true, false, true, true, true, false, true, false, false, false, false, false, false].toArray rfl (by kernel_rfl) (by kernel_rfl) (by kernel_rfl) (fun _ _ _ _ h => h) rfl rfl rfl rfl hm (hS.sub (.cons (Mem.le.refl _) (.cons (Mem.no_le _) (.cons (Mem.le.refl _) (.cons (Mem.le.refl _) (Sub.nil _)))))) (v := .int .i64 t_48.1) (fun w hS => r_move hm rfl) ?_
      clear hm a; intro a hm
      refine h_take 10 [true, true, true, true, false, true, true, true, false, true, true, false, false, false, false, false].toArray rfl (by kernel_rfl) (by kernel_rfl) (by kernel_rfl) (fun _ _ _ _ h => h) rfl rfl rfl rfl hm (hS.sub (.cons (Mem.le.refl _) (.cons (Mem.no_le _) (.cons (Mem.le.refl _) (.cons (Mem.le.refl _) (Sub.nil _)))))) (v := .int .i64 t_48.2.1) (fun w hS => r_move hm rfl) ?_
      clear hm a; intro a hm
      refine h_take 11 [true, true, true, true, false, true, true, true, false, true, true, true, false, false, false, false].toArray rfl (by kernel_rfl) (by kernel_rfl) (by kernel_rfl) (fun _ _ _ _ h => h) rfl rfl rfl rfl hm (hS.sub (.cons (Mem.le.refl _) (.cons (Mem.no_le _) (.cons (Mem.le.refl _) (.cons (Mem.le.refl _) (Sub.nil _)))))) (v := .int .i64 t_48.2.2.1) (fun w hS => r_move hm rfl) ?_
      clear hm a; intro a hm
      refine h_events [4, 8] (by kernel_rfl) (by simp) ?_
      intro i hi; simp only [List.mem_cons, List.not_mem_nil, or_false] at hi; rcases hi with rfl | rfl
      · refine ⟨_, [true, true, true, true, true, true, true, true, false, true, true, true, false, false, false, false].toArray, rfl, rfl, ?_⟩
        refine s_load hm rfl rfl (hS.load_one (p := 1) rfl Try.underlying3 rfl rfl) ?_
        clear hm a; intro a hm
        refine wpList_nil ?_
        refine x_then_n ⟨(hS.sub (.cons (Mem.le.refl _) (.cons (Mem.no_le _) (.cons (Mem.le.refl _) (.cons (Mem.le.refl _) (Sub.nil _)))))), ?_⟩
        refine h_event 8 [true, true, true, true, true, true, true, true, true, true, true, true, false, false, false, false].toArray rfl (by kernel_rfl) rfl ?_
        refine s_load hm rfl rfl (hS.load_one (p := 1) rfl Try.underlying3 rfl rfl) ?_
        clear hm a; intro a hm
        refine wpList_nil ?_
        refine x_then_n ⟨(hS.sub (.cons (Mem.le.refl _) (.cons (Mem.no_le _) (.cons (Mem.le.refl _) (.cons (Mem.le.refl _) (Sub.nil _)))))), ?_⟩
        refine h_take 12 [true, true, true, true, true, true, true, true, true, true, true, true, true, false, false, false].toArray rfl (by kernel_rfl) (by kernel_rfl) (by kernel_rfl) (fun _ _ _ _ h => h) rfl rfl rfl rfl hm (hS.sub (.cons (Mem.le.refl _) (.cons (Mem.no_le _) (.cons (Mem.le.refl _) (.cons (Mem.le.refl _) (Sub.nil _)))))) (v := .agg ([.int .i64 3, .int .i64 x0_id, .int .i64 0, .int .i64 x0_v, .int .i64 0, .int .i64 t_48.2.2.1, .bool false, .int .i64 t_48.1, .int .i64 t_48.2.1, .int .i64 0, .int .i64 0, .slice none 0 0, .int .i64 0, .int .i64 0, .slice none 0 0, .slice none 0 0, .int .i64 0, .int .i64 0, .int .i64 0, .int .i64 0, .int .i64 0, .slice none 0 0, .slice none 0 0, .slice none 0 0] : List Value).toArray) (fun w hS => r_build hm ti29 pl29 rfl (.cons rfl (.cons rfl (.cons rfl (.cons rfl (.cons rfl (.cons rfl .nil)))))) (cs := [.int .i64 3, .int .i64 x0_id, .int .i64 0, .int .i64 x0_v, .int .i64 0, .int .i64 t_48.2.2.1, .bool false, .int .i64 t_48.1, .int .i64 t_48.2.1, .int .i64 0, .int .i64 0, .slice none 0 0, .int .i64 0, .int .i64 0, .slice none 0 0, .slice none 0 0, .int .i64 0, .int .i64 0, .int .i64 0, .int .i64 0, .int .i64 0, .slice none 0 0, .slice none 0 0, .slice none 0 0]) rfl) ?_
        clear hm a; intro a hm
        refine h_take 13 [true, true, true, true, true, true, true, true, true, true, true, true, true, true, false, false].toArray rfl (by kernel_rfl) (by kernel_rfl) (by kernel_rfl) (fun _ _ _ _ h => h) rfl rfl rfl rfl hm (hS.sub (.cons (Mem.le.refl _) (.cons (Mem.no_le _) (.cons (Mem.le.refl _) (.cons (Mem.le.refl _) (Sub.nil _)))))) (v := .pointer (some ⟨g0, 0, none⟩)) (fun w hS => r_nilCheck hm rfl) ?_
        clear hm a; intro a hm
        refine h_take 14 [true, true, true, true, true, true, true, true, true, true, true, true, true, true, true, false].toArray rfl (by kernel_rfl) (by kernel_rfl) (by kernel_rfl) (fun _ _ _ _ h => h) rfl rfl rfl rfl hm (hS.sub (.cons (Mem.le.refl _) (.cons (Mem.no_le _) (.cons (Mem.le.refl _) (.cons (Mem.le.refl _) (Sub.nil _)))))) (v := .pointer (some ⟨g0, 6, none⟩)) (fun w hS => r_fieldAddr hm Try.underlying80 rfl ti29 rfl rfl rfl) ?_
        clear hm a; intro a hm
        refine h_event 15 [true, true, true, true, true, true, true, true, true, true, true, true, true, true, true, true].toArray rfl (by kernel_rfl) rfl ?_
        obtain ⟨w_56, hs', hS'⟩ := hS.store (P := Try.prog) (p := 1) (o := 6) (t := 29) (v := .agg ([.int .i64 3, .int .i64 x0_id, .int .i64 0, .int .i64 x0_v, .int .i64 0, .int .i64 t_48.2.2.1, .bool false, .int .i64 t_48.1, .int .i64 t_48.2.1, .int .i64 0, .int .i64 0, .slice none 0 0, .int .i64 0, .int .i64 0, .slice none 0 0, .slice none 0 0, .int .i64 0, .int .i64 0, .int .i64 0, .int .i64 0, .int .i64 0, .slice none 0 0, .slice none 0 0, .slice none 0 0] : List Value).toArray) (vs := [.int .i64 3, .int .i64 x0_id, .int .i64 0, .int .i64 x0_v, .int .i64 0, .int .i64 t_48.2.2.1, .bool false, .int .i64 t_48.1, .int .i64 t_48.2.1, .int .i64 0, .int .i64 0, .slice none 0 0, .int .i64 0, .int .i64 0, .slice none 0 0, .slice none 0 0, .int .i64 0, .int .i64 0, .int .i64 0, .int .i64 0, .int .i64 0, .slice none 0 0, .slice none 0 0, .slice none 0 0]) rfl ti29 rfl rfl rfl (by intro u hu; simp only [List.mem_cons, List.not_mem_nil, or_false] at hu; rcases hu with rfl | rfl | rfl | rfl | rfl | rfl | rfl | rfl | rfl | rfl | rfl | rfl | rfl | rfl | rfl | rfl | rfl | rfl | rfl | rfl | rfl | rfl | rfl | rfl <;> rfl)
        refine s_store hm rfl rfl hs' ?_
        replace hS : Sep w0 w_56 [N_51, Mem.one g0 (.cells ([.int .i64 x0_n, .int .i64 x0_id, .int .i64 x0_v, p0_0, .int .i64 x0_come, .int .i64 x0_ready, .int .i64 3, .int .i64 x0_id, .int .i64 0, .int .i64 x0_v, .int .i64 0, .int .i64 t_48.2.2.1, .bool false, .int .i64 t_48.1, .int .i64 t_48.2.1, .int .i64 0, .int .i64 0, .slice none 0 0, .int .i64 0, .int .i64 0, .slice none 0 0, .slice none 0 0, .int .i64 0, .int .i64 0, .int .i64 0, .int .i64 0, .int .i64 0, .slice none 0 0, .slice none 0 0, .slice none 0 0, .bool true] : List Value).toArray 80 (0, 0)), M0_0, Mem.one g_2 (.cells ([.int .i64 0, .int .i64 0, .int .i64 0, .int .i64 0, .int .i64 0, .int .i64 0, .bool false, .int .i64 0, .int .i64 0, .int .i64 0, .int .i64 0, .slice none 0 0, .int .i64 0, .int .i64 0, .slice none 0 0, .slice none 0 0, .int .i64 0, .int .i64 0, .int .i64 0, .int .i64 0, .int .i64 0, .slice none 0 0, .slice none 0 0, .slice none 0 0] : List Value).toArray 29 (0, 0))] Z := hS'
        clear hs' hS'
        refine wpList_nil ?_
        refine x_then_n ⟨(hS.sub (.cons (Mem.le.refl _) (.cons (Mem.no_le _) (.cons (Mem.le.refl _) (.cons (Mem.le.refl _) (Sub.nil _)))))), ?_⟩
        refine h_done (by kernel_rfl) ?_
        replace hm : Fr 52 a [(0, .pointer (some ⟨g0, 0, none⟩)), (2, .pointer (some ⟨g_2, 0, none⟩)), (3, .bool false)] := hm.keep [0, 2, 3]
        replace hS : Sep w0 w_56 [N_51, Mem.one g0 (.cells ([.int .i64 x0_n, .int .i64 x0_id, .int .i64 x0_v, p0_0, .int .i64 x0_come, .int .i64 x0_ready, .int .i64 3, .int .i64 x0_id, .int .i64 0, .int .i64 x0_v, .int .i64 0, .int .i64 t_48.2.2.1, .bool false, .int .i64 t_48.1, .int .i64 t_48.2.1, .int .i64 0, .int .i64 0, .slice none 0 0, .int .i64 0, .int .i64 0, .slice none 0 0, .slice none 0 0, .int .i64 0, .int .i64 0, .int .i64 0, .int .i64 0, .int .i64 0, .slice none 0 0, .slice none 0 0, .slice none 0 0, .bool true] : List Value).toArray 80 (0, 0)), M0_0, Mem.one g_2 (.cells ([.int .i64 0, .int .i64 0, .int .i64 0, .int .i64 0, .int .i64 0, .int .i64 0, .bool false, .int .i64 0, .int .i64 0, .int .i64 0, .int .i64 0, .slice none 0 0, .int .i64 0, .int .i64 0, .slice none 0 0, .slice none 0 0, .int .i64 0, .int .i64 0, .int .i64 0, .int .i64 0, .int .i64 0, .slice none 0 0, .slice none 0 0, .slice none 0 0] : List Value).toArray 29 (0, 0))] Z := hS
        replace hm : Fr 52 a [(0, .pointer (some ⟨g0, 0, none⟩)), (2, .pointer (some ⟨g_2, 0, none⟩)), (3, .bool false)] := hm.keep [0, 2, 3]
        exact x_then_n (hJ_j_43 3 x0_id 0 x0_v 0 t_48.2.2.1 false t_48.1 t_48.2.1 0 0 ([] : List UInt8) 0 0 ([] : List Int) ([] : List Int) 0 0 0 0 0 ([] : List UInt8) ([] : List UInt8) ([] : List UInt8) true H _ _ ⟨.slice none 0 0, .slice none 0 0, .slice none 0 0, .slice none 0 0, .slice none 0 0, .slice none 0 0, N_51, hm, (Sep.sel hS [0, 1, 2, 3] (by decide)), le_51, (Rd.nil _ _), (Rd.nil _ _), (Rd.nil _ _), (Rd.nil _ _), (Rd.nil _ _), (Rd.nil _ _)⟩)
      · refine ⟨_, [true, true, true, true, false, true, true, true, true, true, true, true, false, false, false, false].toArray, rfl, rfl, ?_⟩
        refine s_load hm rfl rfl (hS.load_one (p := 1) rfl Try.underlying3 rfl rfl) ?_
        clear hm a; intro a hm
        refine wpList_nil ?_
        refine x_then_n ⟨(hS.sub (.cons (Mem.le.refl _) (.cons (Mem.no_le _) (.cons (Mem.le.refl _) (.cons (Mem.le.refl _) (Sub.nil _)))))), ?_⟩
        refine h_event 4 [true, true, true, true, true, true, true, true, true, true, true, true, false, false, false, false].toArray rfl (by kernel_rfl) rfl ?_
        refine s_load hm rfl rfl (hS.load_one (p := 1) rfl Try.underlying3 rfl rfl) ?_
        clear hm a; intro a hm
        refine wpList_nil ?_
        refine x_then_n ⟨(hS.sub (.cons (Mem.le.refl _) (.cons (Mem.no_le _) (.cons (Mem.le.refl _) (.cons (Mem.le.refl _) (Sub.nil _)))))), ?_⟩
        refine h_take 12 [true, true, true, true, true, true, true, true, true, true, true, true, true, false, false, false].toArray rfl (by kernel_rfl) (by kernel_rfl) (by kernel_rfl) (fun _ _ _ _ h => h) rfl rfl rfl rfl hm (hS.sub (.cons (Mem.le.refl _) (.cons (Mem.no_le _) (.cons (Mem.le.refl _) (.cons (Mem.le.refl _) (Sub.nil _)))))) (v := .agg ([.int .i64 3, .int .i64 x0_id, .int .i64 0, .int .i64 x0_v, .int .i64 0, .int .i64 t_48.2.2.1, .bool false, .int .i64 t_48.1, .int .i64 t_48.2.1, .int .i64 0, .int .i64 0, .slice none 0 0, .int .i64 0, .int .i64 0, .slice none 0 0, .slice none 0 0, .int .i64 0, .int .i64 0, .int .i64 0, .int .i64 0, .int .i64 0, .slice none 0 0, .slice none 0 0, .slice none 0 0] : List Value).toArray) (fun w hS => r_build hm ti29 pl29 rfl (.cons rfl (.cons rfl (.cons rfl (.cons rfl (.cons rfl (.cons rfl .nil)))))) (cs := [.int .i64 3, .int .i64 x0_id, .int .i64 0, .int .i64 x0_v, .int .i64 0, .int .i64 t_48.2.2.1, .bool false, .int .i64 t_48.1, .int .i64 t_48.2.1, .int .i64 0, .int .i64 0, .slice none 0 0, .int .i64 0, .int .i64 0, .slice none 0 0, .slice none 0 0, .int .i64 0, .int .i64 0, .int .i64 0, .int .i64 0, .int .i64 0, .slice none 0 0, .slice none 0 0, .slice none 0 0]) rfl) ?_
        clear hm a; intro a hm
        refine h_take 13 [true, true, true, true, true, true, true, true, true, true, true, true, true, true, false, false].toArray rfl (by kernel_rfl) (by kernel_rfl) (by kernel_rfl) (fun _ _ _ _ h => h) rfl rfl rfl rfl hm (hS.sub (.cons (Mem.le.refl _) (.cons (Mem.no_le _) (.cons (Mem.le.refl _) (.cons (Mem.le.refl _) (Sub.nil _)))))) (v := .pointer (some ⟨g0, 0, none⟩)) (fun w hS => r_nilCheck hm rfl) ?_
        clear hm a; intro a hm
        refine h_take 14 [true, true, true, true, true, true, true, true, true, true, true, true, true, true, true, false].toArray rfl (by kernel_rfl) (by kernel_rfl) (by kernel_rfl) (fun _ _ _ _ h => h) rfl rfl rfl rfl hm (hS.sub (.cons (Mem.le.refl _) (.cons (Mem.no_le _) (.cons (Mem.le.refl _) (.cons (Mem.le.refl _) (Sub.nil _)))))) (v := .pointer (some ⟨g0, 6, none⟩)) (fun w hS => r_fieldAddr hm Try.underlying80 rfl ti29 rfl rfl rfl) ?_
        clear hm a; intro a hm
        refine h_event 15 [true, true, true, true, true, true, true, true, true, true, true, true, true, true, true, true].toArray rfl (by kernel_rfl) rfl ?_
        obtain ⟨w_57, hs', hS'⟩ := hS.store (P := Try.prog) (p := 1) (o := 6) (t := 29) (v := .agg ([.int .i64 3, .int .i64 x0_id, .int .i64 0, .int .i64 x0_v, .int .i64 0, .int .i64 t_48.2.2.1, .bool false, .int .i64 t_48.1, .int .i64 t_48.2.1, .int .i64 0, .int .i64 0, .slice none 0 0, .int .i64 0, .int .i64 0, .slice none 0 0, .slice none 0 0, .int .i64 0, .int .i64 0, .int .i64 0, .int .i64 0, .int .i64 0, .slice none 0 0, .slice none 0 0, .slice none 0 0] : List Value).toArray) (vs := [.int .i64 3, .int .i64 x0_id, .int .i64 0, .int .i64 x0_v, .int .i64 0, .int .i64 t_48.2.2.1, .bool false, .int .i64 t_48.1, .int .i64 t_48.2.1, .int .i64 0, .int .i64 0, .slice none 0 0, .int .i64 0, .int .i64 0, .slice none 0 0, .slice none 0 0, .int .i64 0, .int .i64 0, .int .i64 0, .int .i64 0, .int .i64 0, .slice none 0 0, .slice none 0 0, .slice none 0 0]) rfl ti29 rfl rfl rfl (by intro u hu; simp only [List.mem_cons, List.not_mem_nil, or_false] at hu; rcases hu with rfl | rfl | rfl | rfl | rfl | rfl | rfl | rfl | rfl | rfl | rfl | rfl | rfl | rfl | rfl | rfl | rfl | rfl | rfl | rfl | rfl | rfl | rfl | rfl <;> rfl)
        refine s_store hm rfl rfl hs' ?_
        replace hS : Sep w0 w_57 [N_51, Mem.one g0 (.cells ([.int .i64 x0_n, .int .i64 x0_id, .int .i64 x0_v, p0_0, .int .i64 x0_come, .int .i64 x0_ready, .int .i64 3, .int .i64 x0_id, .int .i64 0, .int .i64 x0_v, .int .i64 0, .int .i64 t_48.2.2.1, .bool false, .int .i64 t_48.1, .int .i64 t_48.2.1, .int .i64 0, .int .i64 0, .slice none 0 0, .int .i64 0, .int .i64 0, .slice none 0 0, .slice none 0 0, .int .i64 0, .int .i64 0, .int .i64 0, .int .i64 0, .int .i64 0, .slice none 0 0, .slice none 0 0, .slice none 0 0, .bool true] : List Value).toArray 80 (0, 0)), M0_0, Mem.one g_2 (.cells ([.int .i64 0, .int .i64 0, .int .i64 0, .int .i64 0, .int .i64 0, .int .i64 0, .bool false, .int .i64 0, .int .i64 0, .int .i64 0, .int .i64 0, .slice none 0 0, .int .i64 0, .int .i64 0, .slice none 0 0, .slice none 0 0, .int .i64 0, .int .i64 0, .int .i64 0, .int .i64 0, .int .i64 0, .slice none 0 0, .slice none 0 0, .slice none 0 0] : List Value).toArray 29 (0, 0))] Z := hS'
        clear hs' hS'
        refine wpList_nil ?_
        refine x_then_n ⟨(hS.sub (.cons (Mem.le.refl _) (.cons (Mem.no_le _) (.cons (Mem.le.refl _) (.cons (Mem.le.refl _) (Sub.nil _)))))), ?_⟩
        refine h_done (by kernel_rfl) ?_
        replace hm : Fr 52 a [(0, .pointer (some ⟨g0, 0, none⟩)), (2, .pointer (some ⟨g_2, 0, none⟩)), (3, .bool false)] := hm.keep [0, 2, 3]
        replace hS : Sep w0 w_57 [N_51, Mem.one g0 (.cells ([.int .i64 x0_n, .int .i64 x0_id, .int .i64 x0_v, p0_0, .int .i64 x0_come, .int .i64 x0_ready, .int .i64 3, .int .i64 x0_id, .int .i64 0, .int .i64 x0_v, .int .i64 0, .int .i64 t_48.2.2.1, .bool false, .int .i64 t_48.1, .int .i64 t_48.2.1, .int .i64 0, .int .i64 0, .slice none 0 0, .int .i64 0, .int .i64 0, .slice none 0 0, .slice none 0 0, .int .i64 0, .int .i64 0, .int .i64 0, .int .i64 0, .int .i64 0, .slice none 0 0, .slice none 0 0, .slice none 0 0, .bool true] : List Value).toArray 80 (0, 0)), M0_0, Mem.one g_2 (.cells ([.int .i64 0, .int .i64 0, .int .i64 0, .int .i64 0, .int .i64 0, .int .i64 0, .bool false, .int .i64 0, .int .i64 0, .int .i64 0, .int .i64 0, .slice none 0 0, .int .i64 0, .int .i64 0, .slice none 0 0, .slice none 0 0, .int .i64 0, .int .i64 0, .int .i64 0, .int .i64 0, .int .i64 0, .slice none 0 0, .slice none 0 0, .slice none 0 0] : List Value).toArray 29 (0, 0))] Z := hS
        replace hm : Fr 52 a [(0, .pointer (some ⟨g0, 0, none⟩)), (2, .pointer (some ⟨g_2, 0, none⟩)), (3, .bool false)] := hm.keep [0, 2, 3]
        exact x_then_n (hJ_j_43 3 x0_id 0 x0_v 0 t_48.2.2.1 false t_48.1 t_48.2.1 0 0 ([] : List UInt8) 0 0 ([] : List Int) ([] : List Int) 0 0 0 0 0 ([] : List UInt8) ([] : List UInt8) ([] : List UInt8) true H _ _ ⟨.slice none 0 0, .slice none 0 0, .slice none 0 0, .slice none 0 0, .slice none 0 0, .slice none 0 0, N_51, hm, (Sep.sel hS [0, 1, 2, 3] (by decide)), le_51, (Rd.nil _ _), (Rd.nil _ _), (Rd.nil _ _), (Rd.nil _ _), (Rd.nil _ _), (Rd.nil _ _)⟩)
    · rw [if_neg hc_53] at H
      refine c_cond_t hm rfl (nt (Bool.eq_false_iff.2 hc_53)) ?_
      refine wp_seq ?_
      refine wp_region_lit ?_
      refine s_build hm rfl ti29 pl29 rfl .nil (cs := [.int .i64 0, .int .i64 0, .int .i64 0, .int .i64 0, .int .i64 0, .int .i64 0, .bool false, .int .i64 0, .int .i64 0, .int .i64 0, .int .i64 0, .slice none 0 0, .int .i64 0, .int .i64 0, .slice none 0 0, .slice none 0 0, .int .i64 0, .int .i64 0, .int .i64 0, .int .i64 0, .int .i64 0, .slice none 0 0, .slice none 0 0, .slice none 0 0]) rfl ?_
      clear hm a; intro a hm
      obtain ⟨w_58, hs', hS'⟩ := hS.store (P := Try.prog) (p := 3) (o := 0) (t := 29) (v := .agg ([.int .i64 0, .int .i64 0, .int .i64 0, .int .i64 0, .int .i64 0, .int .i64 0, .bool false, .int .i64 0, .int .i64 0, .int .i64 0, .int .i64 0, .slice none 0 0, .int .i64 0, .int .i64 0, .slice none 0 0, .slice none 0 0, .int .i64 0, .int .i64 0, .int .i64 0, .int .i64 0, .int .i64 0, .slice none 0 0, .slice none 0 0, .slice none 0 0] : List Value).toArray) (vs := [.int .i64 0, .int .i64 0, .int .i64 0, .int .i64 0, .int .i64 0, .int .i64 0, .bool false, .int .i64 0, .int .i64 0, .int .i64 0, .int .i64 0, .slice none 0 0, .int .i64 0, .int .i64 0, .slice none 0 0, .slice none 0 0, .int .i64 0, .int .i64 0, .int .i64 0, .int .i64 0, .int .i64 0, .slice none 0 0, .slice none 0 0, .slice none 0 0]) rfl ti29 rfl rfl rfl (by intro u hu; simp only [List.mem_cons, List.not_mem_nil, or_false] at hu; rcases hu with rfl | rfl | rfl | rfl | rfl | rfl | rfl | rfl | rfl | rfl | rfl | rfl | rfl | rfl | rfl | rfl | rfl | rfl | rfl | rfl | rfl | rfl | rfl | rfl <;> rfl)
      refine s_store hm rfl rfl hs' ?_
      replace hS : Sep w0 w_58 [N_51, Mem.one g0 (.cells ([.int .i64 x0_n, .int .i64 x0_id, .int .i64 x0_v, p0_0, .int .i64 x0_come, .int .i64 x0_ready, .int .i64 x0_commit_Kind, .int .i64 x0_commit_From, .int .i64 x0_commit_To, .int .i64 x0_commit_View, .int .i64 x0_commit_Inst, .int .i64 x0_commit_Len, .bool x0_commit_Has, .int .i64 x0_commit_Members, .int .i64 x0_commit_Source, .int .i64 x0_commit_At, .int .i64 x0_commit_Total, p0_1, .int .i64 x0_commit_Hop, .int .i64 x0_commit_Seq, p0_2, p0_3, .int .i64 x0_commit_Index, .int .i64 x0_commit_Entry_Sess, .int .i64 x0_commit_Entry_Seq, .int .i64 x0_commit_Entry_Cmd_Kind, .int .i64 x0_commit_Entry_Cmd_Who, p0_4, p0_5, p0_6, .bool x0_is] : List Value).toArray 80 (0, 0)), M0_0, Mem.one g_2 (.cells ([.int .i64 0, .int .i64 0, .int .i64 0, .int .i64 0, .int .i64 0, .int .i64 0, .bool false, .int .i64 0, .int .i64 0, .int .i64 0, .int .i64 0, .slice none 0 0, .int .i64 0, .int .i64 0, .slice none 0 0, .slice none 0 0, .int .i64 0, .int .i64 0, .int .i64 0, .int .i64 0, .int .i64 0, .slice none 0 0, .slice none 0 0, .slice none 0 0] : List Value).toArray 29 (0, 0))] Z := hS'
      clear hs' hS'
      refine s_assign hm rfl rfl ?_
      clear hm a; intro a hm
      refine wpList_nil ?_
      replace hm : Fr 52 a [(0, .pointer (some ⟨g0, 0, none⟩)), (2, .pointer (some ⟨g_2, 0, none⟩)), (3, .bool false), (4, .int .i64 t_48.1), (5, .int .i64 t_48.2.1), (6, .int .i64 t_48.2.2.1)] := hm.keep [0, 2, 3, 4, 5, 6]
      refine x_then_n ?_
      refine wp_ret (x_then_r (x_then_r ?_))
      obtain rfl := Option.some.inj H
      exact f_ret hm (rs := [.cell 2 29, .tmp 3]) rfl (.cell rfl (hS.load_agg (p := 3) (us := [.int .i64 0, .int .i64 0, .int .i64 0, .int .i64 0, .int .i64 0, .int .i64 0, .bool false, .int .i64 0, .int .i64 0, .int .i64 0, .int .i64 0, .slice none 0 0, .int .i64 0, .int .i64 0, .slice none 0 0, .slice none 0 0, .int .i64 0, .int .i64 0, .int .i64 0, .int .i64 0, .int .i64 0, .slice none 0 0, .slice none 0 0, .slice none 0 0]) rfl Try.underlying29 rfl ti29 rfl rfl) (.tmp rfl .nil)) ⟨_, rfl, .slice none 0 0, .slice none 0 0, .slice none 0 0, .slice none 0 0, .slice none 0 0, .slice none 0 0, p0_0, p0_1, p0_2, p0_3, p0_4, p0_5, p0_6, N_51, M0_0, rfl, (Sep.sel hS [0, 1, 2] (by decide)), (Rd.nil _ _), (Rd.nil _ _), (Rd.nil _ _), (Rd.nil _ _), (Rd.nil _ _), (Rd.nil _ _), (hp0_0.mono (Mem.le_un _ _)), (hp0_1.mono (Mem.le_un _ _)), (hp0_2.mono (Mem.le_un _ _)), (hp0_3.mono (Mem.le_un _ _)), (hp0_4.mono (Mem.le_un _ _)), (hp0_5.mono (Mem.le_un _ _)), (hp0_6.mono (Mem.le_un _ _))⟩

set_option maxHeartbeats 4000000 in
set_option maxRecDepth 20000 in
theorem gath_without_1.calls (x0 : Int) (g1 : Nat) (x1_ : Int) (r : Bool) (w0 w : World) (Z A : Mem) (hA : A.le Z) (hS : Sep w0 w [Mem.one g1 (.cells ([.int .i64 x1_] : List Value).toArray 3 (0, 0))] Z)
    (H : gath_without_1.f x0 x1_ = some r) :
    Calls Try.prog 76 [.int .i64 x0, .pointer (some ⟨g1, 0, none⟩)].toArray w (Ret fun v w' => ∃ (N : Mem), v = .bool r ∧ Sep w0 w' [N, Mem.one g1 (.cells ([.int .i64 x1_] : List Value).toArray 3 (0, 0))] Z) := by
  unfold gath_without_1.f at H
  refine f_enter _ Try.func76 rfl Try.ntmps76 rfl fun a hm => ?_
  replace hm : Fr 9 a [(0, .int .i64 x0), (1, .pointer (some ⟨g1, 0, none⟩))] := hm
  replace hS := hS.start
  replace hS : Sep w0 w [Mem.no, Mem.one g1 (.cells ([.int .i64 x1_] : List Value).toArray 3 (0, 0))] Z := hS
  refine wp_seq ?_
  refine wp_region_lit ?_
  refine s_assign hm rfl rfl ?_
  clear hm a; intro a hm
  refine wpList_nil ?_
  replace hm : Fr 9 a [(0, .int .i64 x0), (1, .pointer (some ⟨g1, 0, none⟩)), (3, .bool false)] := hm.keep [0, 1, 3]
  refine x_then_n ?_
  refine wp_seq ?_
  refine wp_region_lit ?_
  refine s_load hm rfl rfl (hS.load_one (p := 1) rfl Try.underlying3 rfl rfl) ?_
  clear hm a; intro a hm
  refine s_move hm rfl rfl ?_
  clear hm a; intro a hm
  obtain ⟨u_1, eu_1, H⟩ := Option.bind_eq_some_iff.1 H
  refine s_shift (r := shr .i64 x1_ x0) hm rfl rfl rfl (must_some eu_1) (.inr ⟨rfl, rfl⟩) ?_
  clear hm a; intro a hm
  refine s_bits (i := shr .i64 x1_ x0) (j := 1) (r := band .i64 (shr .i64 x1_ x0) 1) hm rfl rfl rfl (.inl ⟨rfl, rfl⟩) ?_
  clear hm a; intro a hm
  refine s_cmp (b := ((band .i64 (shr .i64 x1_ x0) 1) == 1)) hm rfl rfl rfl (.inl ⟨rfl, rfl⟩) ?_
  clear hm a; intro a hm
  refine s_assign hm rfl rfl ?_
  clear hm a; intro a hm
  refine wpList_nil ?_
  replace hm : Fr 9 a [(3, .bool ((band .i64 (shr .i64 x1_ x0) 1) == 1))] := hm.keep [3]
  refine x_then_n ?_
  refine wp_ret ?_
  obtain rfl := Option.some.inj H
  exact f_ret hm (rs := [.tmp 3]) rfl (.tmp rfl .nil) ⟨_, rfl, Mem.no, rfl, (Sep.sel hS [0, 1] (by decide))⟩

set_option maxHeartbeats 4000000 in
set_option maxRecDepth 20000 in
theorem slices_IndexFunc_sint_int_76.calls (K : Nat) (x0 : List Int) (p0_0 : Value) (g2 : Nat) (x2_ : Int) (r : Int) (w0 w : World) (Z A : Mem) (hA : A.le Z) (hS : Sep w0 w [Mem.one g2 (.cells ([.int .i64 x2_] : List Value).toArray 3 (0, 0))] Z) (hp0_0 : Rd (Kd.int .i64) A p0_0 x0)
    (H : slices_IndexFunc_sint_int_76.f K x0 x2_ = some r) :
    Calls Try.prog 80 [p0_0, .func (.func 76) #[] [.pointer (some ⟨g2, 0, none⟩)].toArray].toArray w (Ret fun v w' => ∃ (N : Mem), v = .int .i64 r ∧ Sep w0 w' [N, Mem.one g2 (.cells ([.int .i64 x2_] : List Value).toArray 3 (0, 0))] Z) := by
  unfold slices_IndexFunc_sint_int_76.f at H
  refine f_enter _ Try.func80 rfl Try.ntmps80 rfl fun a hm => ?_
  replace hm : Fr 19 a [(0, p0_0), (1, .func (.func 76) #[] [.pointer (some ⟨g2, 0, none⟩)].toArray)] := hm
  replace hS := hS.start
  replace hS : Sep w0 w [Mem.no, Mem.one g2 (.cells ([.int .i64 x2_] : List Value).toArray 3 (0, 0))] Z := hS
  refine wp_seq ?_
  refine wp_region_lit ?_
  refine s_assign hm rfl rfl ?_
  clear hm a; intro a hm
  refine wpList_nil ?_
  replace hm : Fr 19 a [(0, p0_0), (1, .func (.func 76) #[] [.pointer (some ⟨g2, 0, none⟩)].toArray), (4, .int .i64 0)] := hm.keep [0, 1, 4]
  refine x_then_n ?_
  refine c_seq fun KJ_1 hKJ_1 => ?_
  refine wp_seq ?_
  refine wp_region_lit ?_
  refine s_move hm rfl rfl ?_
  clear hm a; intro a hm
  refine s_len hm rfl Try.underlying23 rfl hp0_0 ?_
  clear hm a; intro a hm
  refine s_move hm rfl rfl ?_
  clear hm a; intro a hm
  refine wpList_nil ?_
  replace hm : Fr 19 a [(0, p0_0), (1, .func (.func 76) #[] [.pointer (some ⟨g2, 0, none⟩)].toArray), (4, .int .i64 0), (7, .int .i64 (x0.length : Int)), (8, .int .i64 0)] := hm.keep [0, 1, 4, 7, 8]
  refine x_then_n ?_
  have hJ_j_4 : slices_IndexFunc_sint_int_76.J1 K = some r → ∀ (a : Act) (w_3 : World), (∃ (N_2 : Mem), Fr 19 a [(4, .int .i64 0)] ∧ Sep w0 w_3 [N_2, Mem.one g2 (.cells ([.int .i64 x2_] : List Value).toArray 3 (0, 0))] Z ∧ Mem.no.le N_2) → KJ_1 a w_3 := by
    clear H hm hS a
    rintro H a w_3 ⟨N_2, hm, hS, le_2⟩
    unfold slices_IndexFunc_sint_int_76.J1 at H
    refine hKJ_1 _ _ ?_
    refine wp_seq ?_
    refine wp_region_lit ?_
    refine s_assign hm rfl rfl ?_
    clear hm a; intro a hm
    refine wpList_nil ?_
    replace hm : Fr 19 a [(4, .int .i64 (-1))] := hm.keep [4]
    refine x_then_n ?_
    refine wp_ret ?_
    obtain rfl := Option.some.inj H
    exact f_ret hm (rs := [.tmp 4]) rfl (.tmp rfl .nil) ⟨_, rfl, N_2, rfl, (Sep.sel hS [0, 1] (by decide))⟩
  clear hKJ_1
  replace hS : Sep w0 w [Mem.no, Mem.one g2 (.cells ([.int .i64 x2_] : List Value).toArray 3 (0, 0))] Z := hS
  replace hm : Fr 19 a [(0, p0_0), (1, .func (.func 76) #[] [.pointer (some ⟨g2, 0, none⟩)].toArray), (4, .int .i64 0), (7, .int .i64 (x0.length : Int)), (8, .int .i64 0)] := hm.keep [0, 1, 4, 7, 8]
  refine c_block ?_
  refine c_loop (fun k_7 a w_7 => ∃ (x_6 : Int) (N_5 : Mem), slices_IndexFunc_sint_int_76.L1 K x0 x2_ (fun v => slices_IndexFunc_sint_int_76.J1 K) k_7 x_6 = some r ∧ Fr 19 a [(0, p0_0), (1, .func (.func 76) #[] [.pointer (some ⟨g2, 0, none⟩)].toArray), (4, .int .i64 0), (7, .int .i64 (x0.length : Int)), (8, .int .i64 x_6)] ∧ Sep w0 w_7 [N_5, Mem.one g2 (.cells ([.int .i64 x2_] : List Value).toArray 3 (0, 0))] Z ∧ Mem.no.le N_5) K ⟨0, Mem.no, H, hm, (Sep.sel hS [0, 1] (by decide)), (Mem.le.refl _)⟩ (fun a w h => by obtain ⟨_, _, H, _⟩ := h; cases (show (none : Option (Int)) = some r from H)) ?_
  clear hm hS a H
  rintro k_7 a w_7 KL_7 hKL_7 ⟨x_6, N_5, H, hm, hS, le_5⟩
  replace H : slices_IndexFunc_sint_int_76.B1 K x0 x2_ (fun v => slices_IndexFunc_sint_int_76.J1 K) (slices_IndexFunc_sint_int_76.L1 K x0 x2_ (fun v => slices_IndexFunc_sint_int_76.J1 K) k_7) x_6 = some r := H
  unfold slices_IndexFunc_sint_int_76.B1 at H
  refine wp_seq ?_
  refine wp_region_lit ?_
  refine s_cmp (b := decide (x_6 < (x0.length : Int))) hm rfl rfl rfl (.inr (.inr (.inl ⟨rfl, rfl⟩))) ?_
  clear hm a; intro a hm
  refine wpList_nil ?_
  replace hm : Fr 19 a [(0, p0_0), (1, .func (.func 76) #[] [.pointer (some ⟨g2, 0, none⟩)].toArray), (4, .int .i64 0), (7, .int .i64 (x0.length : Int)), (8, .int .i64 x_6), (9, .bool (decide (x_6 < (x0.length : Int))))] := hm.keep [0, 1, 4, 7, 8, 9]
  refine x_then_n ?_
  refine c_seq fun KJ_9 hKJ_9 => ?_
  by_cases hc_10 : x_6 < (x0.length : Int)
  · rw [if_pos hc_10] at H
    refine c_cond_t hm rfl (decide_eq_true hc_10) ?_
    refine wp_skip ?_
    refine x_then_n (hKJ_9 _ _ ?_)
    refine c_seq fun KJ_11 hKJ_11 => ?_
    refine c_block ?_
    refine wp_seq ?_
    refine wp_region_lit ?_
    refine s_move hm rfl rfl ?_
    clear hm a; intro a hm
    refine s_assign hm rfl rfl ?_
    clear hm a; intro a hm
    refine wpList_nil ?_
    replace hm : Fr 19 a [(0, p0_0), (1, .func (.func 76) #[] [.pointer (some ⟨g2, 0, none⟩)].toArray), (4, .int .i64 0), (5, .int .i64 x_6), (7, .int .i64 (x0.length : Int)), (8, .int .i64 x_6)] := hm.keep [0, 1, 4, 5, 7, 8]
    refine x_then_n ?_
    refine wp_seq ?_
    refine wp_region_lit ?_
    refine s_move hm rfl rfl ?_
    clear hm a; intro a hm
    refine s_move hm rfl rfl ?_
    clear hm a; intro a hm
    refine s_move hm rfl rfl ?_
    clear hm a; intro a hm
    obtain ⟨t_12, et_12, H⟩ := Option.bind_eq_some_iff.1 H
    refine v_index hm rfl Try.underlying23 ti3 rfl rfl rfl hp0_0 (hA.trans hS.old) et_12 ?_
    intro ad_13 cs_14 hk_15 hc_16
    obtain rfl := (show cs_14 = [.int .i64 t_12] from hk_15)
    clear hm a; intro a hm
    refine s_load hm rfl rfl (el_one (o := 0) hc_16 Try.underlying3 rfl rfl) ?_
    clear hm a; intro a hm
    obtain ⟨t_17, et_17, H⟩ := Option.bind_eq_some_iff.1 H
    refine s_callv hm rfl rfl Try.call76 rfl (gath_without_1.calls t_12 _ x2_ t_17 w0 _ _ _ (Mem.le.refl _) (hS.enter [0] (by decide))  et_17) ?_
    rintro _ w_18 ⟨N_19, rfl, hS'⟩
    clear hm a; intro a hm
    obtain ⟨N_20, hS'', le_20, ln_20⟩ := hS.call [0] (by decide) rfl (l' := [Mem.one g2 (.cells ([.int .i64 x2_] : List Value).toArray 3 (0, 0))]) (ow := []) rfl hS'
    replace hS : Sep w0 w_18 [N_20, Mem.one g2 (.cells ([.int .i64 x2_] : List Value).toArray 3 (0, 0))] Z := hS''
    clear hS' hS''
    refine wpList_nil ?_
    replace hm : Fr 19 a [(0, p0_0), (1, .func (.func 76) #[] [.pointer (some ⟨g2, 0, none⟩)].toArray), (4, .int .i64 0), (5, .int .i64 x_6), (7, .int .i64 (x0.length : Int)), (8, .int .i64 x_6), (16, .bool t_17)] := hm.keep [0, 1, 4, 5, 7, 8, 16]
    refine x_then_n ?_
    by_cases hc_21 : t_17 = true
    · rw [if_pos hc_21] at H
      refine c_cond_t hm rfl hc_21 ?_
      refine wp_seq ?_
      refine wp_region_lit ?_
      refine s_move hm rfl rfl ?_
      clear hm a; intro a hm
      refine s_assign hm rfl rfl ?_
      clear hm a; intro a hm
      refine wpList_nil ?_
      replace hm : Fr 19 a [(0, p0_0), (1, .func (.func 76) #[] [.pointer (some ⟨g2, 0, none⟩)].toArray), (4, .int .i64 x_6), (7, .int .i64 (x0.length : Int)), (8, .int .i64 x_6)] := hm.keep [0, 1, 4, 7, 8]
      refine x_then_n ?_
      refine wp_ret (x_block_r (x_then_r (x_then_r (x_block_r (x_then_r ?_)))))
      obtain rfl := Option.some.inj H
      exact f_ret hm (rs := [.tmp 4]) rfl (.tmp rfl .nil) ⟨_, rfl, N_20, rfl, (Sep.sel hS [0, 1] (by decide))⟩
    · rw [if_neg hc_21] at H
      refine c_cond_f hm rfl (Bool.eq_false_iff.2 hc_21) ?_
      refine wp_skip ?_
      refine x_block_n ?_
      refine x_then_n (hKJ_11 _ _ ?_)
      refine wp_region_lit ?_
      refine s_arith (r := w64 (x_6 + 1)) hm rfl rfl rfl (.inl ⟨rfl, rfl⟩) ?_
      clear hm a; intro a hm
      refine s_move hm rfl rfl ?_
      clear hm a; intro a hm
      refine wpList_nil ?_
      replace hm : Fr 19 a [(0, p0_0), (1, .func (.func 76) #[] [.pointer (some ⟨g2, 0, none⟩)].toArray), (4, .int .i64 0), (7, .int .i64 (x0.length : Int)), (8, .int .i64 (w64 (x_6 + 1)))] := hm.keep [0, 1, 4, 7, 8]
      refine x_then_n (hKL_7 _ _ ?_)
      replace hS : Sep w0 w_18 [N_20, Mem.one g2 (.cells ([.int .i64 x2_] : List Value).toArray 3 (0, 0))] Z := hS
      replace hm : Fr 19 a [(0, p0_0), (1, .func (.func 76) #[] [.pointer (some ⟨g2, 0, none⟩)].toArray), (4, .int .i64 0), (7, .int .i64 (x0.length : Int)), (8, .int .i64 (w64 (x_6 + 1)))] := hm.keep [0, 1, 4, 7, 8]
      exact ⟨w64 (x_6 + 1), N_20, H, hm, (Sep.sel hS [0, 1] (by decide)), (le_5.trans le_20)⟩
  · rw [if_neg hc_10] at H
    refine c_cond_f hm rfl (decide_eq_false hc_10) ?_
    refine wp_exit (x_then_x (x_then_x (x_block_t ?_)))
    replace hS : Sep w0 w_7 [N_5, Mem.one g2 (.cells ([.int .i64 x2_] : List Value).toArray 3 (0, 0))] Z := hS
    replace hm : Fr 19 a [(4, .int .i64 0)] := hm.keep [4]
    exact x_then_n (hJ_j_4  H _ _ ⟨N_5, hm, (Sep.sel hS [0, 1] (by decide)), le_5⟩)

set_option maxHeartbeats 4000000 in
set_option maxRecDepth 20000 in
theorem slices_DeleteFunc_sint_int_76.calls (K : Nat) (x0 : List Int) (p0_0 : Value) (M0_0 : Mem) (g2 : Nat) (x2_ : Int) (r : (List Int)) (w0 w : World) (Z A : Mem) (hA : A.le Z) (hS : Sep w0 w [M0_0, Mem.one g2 (.cells ([.int .i64 x2_] : List Value).toArray 3 (0, 0))] Z) (hp0_0 : Own (Kd.int .i64) 3 M0_0 Mem.no p0_0 x0)
    (H : slices_DeleteFunc_sint_int_76.f K x0 x2_ = some r) :
    Calls Try.prog 75 [p0_0, .func (.func 76) #[] [.pointer (some ⟨g2, 0, none⟩)].toArray].toArray w (Ret fun v w' => ∃ (u0 : Value) (N : Mem) (M0 : Mem), v = u0 ∧ Sep w0 w' [N, Mem.no, Mem.one g2 (.cells ([.int .i64 x2_] : List Value).toArray 3 (0, 0)), M0] Z ∧ Own (Kd.int .i64) 3 M0 Mem.no u0 r) := by
  unfold slices_DeleteFunc_sint_int_76.f at H
  refine f_enter _ Try.func75 rfl Try.ntmps75 rfl fun a hm => ?_
  replace hm : Fr 42 a [(0, p0_0), (1, .func (.func 76) #[] [.pointer (some ⟨g2, 0, none⟩)].toArray)] := hm
  replace hS := hS.start
  replace hS : Sep w0 w [Mem.no, M0_0, Mem.one g2 (.cells ([.int .i64 x2_] : List Value).toArray 3 (0, 0))] Z := hS
  refine wp_seq ?_
  refine wp_region_lit ?_
  refine s_assign hm rfl rfl ?_
  clear hm a; intro a hm
  refine wpList_nil ?_
  replace hm : Fr 42 a [(0, p0_0), (1, .func (.func 76) #[] [.pointer (some ⟨g2, 0, none⟩)].toArray), (4, .slice none 0 0)] := hm.keep [0, 1, 4]
  refine x_then_n ?_
  refine wp_seq ?_
  refine wp_region_lit ?_
  refine s_move hm rfl rfl ?_
  clear hm a; intro a hm
  refine s_move hm rfl rfl ?_
  clear hm a; intro a hm
  obtain ⟨t_1, et_1, H⟩ := Option.bind_eq_some_iff.1 H
  refine s_call hm rfl Try.call80 rfl (slices_IndexFunc_sint_int_76.calls K x0 _ _ x2_ t_1 w0 _ _ _ (Mem.le.refl _) (hS.enter [1] (by decide)) (hp0_0.rd (hS.own_zed [1] 0 (by decide)) (Mem.no_le _)) et_1) ?_
  rintro _ w_2 ⟨N_3, rfl, hS'⟩
  clear hm a; intro a hm
  obtain ⟨N_4, hS'', le_4, ln_4⟩ := hS.call [1] (by decide) rfl (l' := [Mem.one g2 (.cells ([.int .i64 x2_] : List Value).toArray 3 (0, 0))]) (ow := []) rfl hS'
  replace hS : Sep w0 w_2 [N_4, M0_0, Mem.one g2 (.cells ([.int .i64 x2_] : List Value).toArray 3 (0, 0))] Z := hS''
  clear hS' hS''
  refine s_assign hm rfl rfl ?_
  clear hm a; intro a hm
  refine wpList_nil ?_
  replace hm : Fr 42 a [(0, p0_0), (1, .func (.func 76) #[] [.pointer (some ⟨g2, 0, none⟩)].toArray), (4, .slice none 0 0), (5, .int .i64 t_1)] := hm.keep [0, 1, 4, 5]
  refine x_then_n ?_
  refine c_seq fun KJ_5 hKJ_5 => ?_
  refine wp_seq ?_
  refine wp_region_lit ?_
  refine s_move hm rfl rfl ?_
  clear hm a; intro a hm
  refine s_cmp (b := (t_1 == (-1))) hm rfl rfl rfl (.inl ⟨rfl, rfl⟩) ?_
  clear hm a; intro a hm
  refine wpList_nil ?_
  replace hm : Fr 42 a [(0, p0_0), (1, .func (.func 76) #[] [.pointer (some ⟨g2, 0, none⟩)].toArray), (4, .slice none 0 0), (5, .int .i64 t_1), (12, .bool (t_1 == (-1)))] := hm.keep [0, 1, 4, 5, 12]
  refine x_then_n ?_
  by_cases hc_6 : t_1 = (-1)
  · rw [if_pos hc_6] at H
    refine c_cond_t hm rfl (beq_iff_eq.2 hc_6) ?_
    refine wp_seq ?_
    refine wp_region_lit ?_
    refine s_move hm rfl rfl ?_
    clear hm a; intro a hm
    refine s_assign hm rfl rfl ?_
    clear hm a; intro a hm
    refine wpList_nil ?_
    replace hm : Fr 42 a [(0, p0_0), (1, .func (.func 76) #[] [.pointer (some ⟨g2, 0, none⟩)].toArray), (4, p0_0), (5, .int .i64 t_1)] := hm.keep [0, 1, 4, 5]
    refine x_then_n ?_
    refine wp_ret (x_then_r ?_)
    obtain rfl := Option.some.inj H
    exact f_ret hm (rs := [.tmp 4]) rfl (.tmp rfl .nil) ⟨_, rfl, p0_0, N_4, M0_0, rfl, (Sep.sel hS [0, 1000, 2, 1] (by decide)), hp0_0⟩
  · rw [if_neg hc_6] at H
    refine c_cond_f hm rfl (beq_eq_false_iff_ne.2 hc_6) ?_
    refine wp_skip ?_
    refine x_then_n (hKJ_5 _ _ ?_)
    refine c_seq fun KJ_7 hKJ_7 => ?_
    refine wp_seq ?_
    refine wp_region_lit ?_
    refine s_move hm rfl rfl ?_
    clear hm a; intro a hm
    refine s_arith (r := w64 (t_1 + 1)) hm rfl rfl rfl (.inl ⟨rfl, rfl⟩) ?_
    clear hm a; intro a hm
    refine s_assign hm rfl rfl ?_
    clear hm a; intro a hm
    refine wpList_nil ?_
    replace hm : Fr 42 a [(0, p0_0), (1, .func (.func 76) #[] [.pointer (some ⟨g2, 0, none⟩)].toArray), (4, .slice none 0 0), (5, .int .i64 t_1), (6, .int .i64 (w64 (t_1 + 1)))] := hm.keep [0, 1, 4, 5, 6]
    refine x_then_n ?_
    have hJ_j_16 : ∀ (x_9 : List Int), ∀ (x_14 : Int), slices_DeleteFunc_sint_int_76.J1 K x_9 x_14 = some r → ∀ (a : Act) (w_15 : World), (∃ (v_12 : Value) (N_8 : Mem) (M_10 : Mem), Fr 42 a [(0, v_12), (4, .slice none 0 0), (5, .int .i64 x_14)] ∧ Sep w0 w_15 [N_8, M_10, Mem.one g2 (.cells ([.int .i64 x2_] : List Value).toArray 3 (0, 0))] Z ∧ N_4.le N_8 ∧ Own (Kd.int .i64) 3 M_10 Mem.no v_12 x_9) → KJ_7 a w_15 := by
      clear H hm hS a
      rintro x_9 x_14 H a w_15 ⟨v_12, N_8, M_10, hm, hS, le_8, ho_13⟩
      unfold slices_DeleteFunc_sint_int_76.J1 at H
      refine hKJ_7 _ _ ?_
      refine wp_seq ?_
      refine wp_region_lit ?_
      refine s_move hm rfl rfl ?_
      clear hm a; intro a hm
      refine s_move hm rfl rfl ?_
      clear hm a; intro a hm
      obtain ⟨u_17, eu_17, H⟩ := Option.bind_eq_some_iff.1 H
      refine s_piece hm rfl Try.underlying23 ti3 rfl rfl ho_13 (ho_13.room) rfl rfl (must_some eu_17) ?_
      intro v_18 hq_19
      clear hm a; intro a hm
      refine s_clearE (p := 1) (u := 0) hm Try.underlying23 ti3 rfl rfl (show (Kd.int .i64).K _ _ [.int .i64 0] from rfl) rfl ho_13 hq_19 (by have := (must_some eu_17); omega) hS rfl ?_
      intro w_20 M_21 hS' ho_22
      replace hS : Sep w0 w_20 [N_8, M_21, Mem.one g2 (.cells ([.int .i64 x2_] : List Value).toArray 3 (0, 0))] Z := hS'
      clear hS'
      refine wpList_nil ?_
      replace hm : Fr 42 a [(0, v_12), (4, .slice none 0 0), (5, .int .i64 x_14)] := hm.keep [0, 4, 5]
      refine x_then_n ?_
      refine wp_seq ?_
      refine wp_region_lit ?_
      refine s_move hm rfl rfl ?_
      clear hm a; intro a hm
      refine s_move hm rfl rfl ?_
      clear hm a; intro a hm
      obtain ⟨u_24, eu_24, H⟩ := Option.bind_eq_some_iff.1 H
      refine s_prefix hm rfl Try.underlying23 ti3 rfl rfl ho_22 (must_some eu_24) ?_
      intro v_25 ho_26
      clear hm a; intro a hm
      refine s_assign hm rfl rfl ?_
      clear hm a; intro a hm
      refine wpList_nil ?_
      replace hm : Fr 42 a [(4, v_25)] := hm.keep [4]
      refine x_then_n ?_
      refine wp_ret ?_
      obtain rfl := Option.some.inj H
      exact f_ret hm (rs := [.tmp 4]) rfl (.tmp rfl .nil) ⟨_, rfl, v_25, N_8, M_21, rfl, (Sep.sel hS [0, 1000, 2, 1] (by decide)), ho_26⟩
    clear hKJ_7
    replace hS : Sep w0 w_2 [N_4, M0_0, Mem.one g2 (.cells ([.int .i64 x2_] : List Value).toArray 3 (0, 0))] Z := hS
    replace hm : Fr 42 a [(0, p0_0), (1, .func (.func 76) #[] [.pointer (some ⟨g2, 0, none⟩)].toArray), (4, .slice none 0 0), (5, .int .i64 t_1), (6, .int .i64 (w64 (t_1 + 1)))] := hm.keep [0, 1, 4, 5, 6]
    refine c_block ?_
    refine c_loop (fun k_36 a w_36 => ∃ (x_29 : List Int) (x_34 : Int) (x_35 : Int) (v_32 : Value) (N_28 : Mem) (M_30 : Mem), slices_DeleteFunc_sint_int_76.L1 K x2_ (fun v => slices_DeleteFunc_sint_int_76.J1 K v.1 v.2) k_36 (x_29, x_34, x_35) = some r ∧ Fr 42 a [(0, v_32), (1, .func (.func 76) #[] [.pointer (some ⟨g2, 0, none⟩)].toArray), (4, .slice none 0 0), (5, .int .i64 x_34), (6, .int .i64 x_35)] ∧ Sep w0 w_36 [N_28, M_30, Mem.one g2 (.cells ([.int .i64 x2_] : List Value).toArray 3 (0, 0))] Z ∧ N_4.le N_28 ∧ Own (Kd.int .i64) 3 M_30 Mem.no v_32 x_29) K ⟨x0, t_1, w64 (t_1 + 1), p0_0, N_4, M0_0, H, hm, (Sep.sel hS [0, 1, 2] (by decide)), (Mem.le.refl _), hp0_0⟩ (fun a w h => by obtain ⟨_, _, _, _, _, _, H, _⟩ := h; cases (show (none : Option ((List Int))) = some r from H)) ?_
    clear hm hS a H
    rintro k_36 a w_36 KL_36 hKL_36 ⟨x_29, x_34, x_35, v_32, N_28, M_30, H, hm, hS, le_28, ho_33⟩
    replace H : slices_DeleteFunc_sint_int_76.B1 K x2_ (fun v => slices_DeleteFunc_sint_int_76.J1 K v.1 v.2) (slices_DeleteFunc_sint_int_76.L1 K x2_ (fun v => slices_DeleteFunc_sint_int_76.J1 K v.1 v.2) k_36) x_29 x_34 x_35 = some r := H
    unfold slices_DeleteFunc_sint_int_76.B1 at H
    refine c_seq fun KJ_38 hKJ_38 => ?_
    refine wp_seq ?_
    refine wp_region_lit ?_
    refine s_move hm rfl rfl ?_
    clear hm a; intro a hm
    refine s_move hm rfl rfl ?_
    clear hm a; intro a hm
    refine s_lenO hm rfl Try.underlying23 rfl ho_33 ?_
    clear hm a; intro a hm
    refine s_cmp (b := decide (x_35 < (x_29.length : Int))) hm rfl rfl rfl (.inr (.inr (.inl ⟨rfl, rfl⟩))) ?_
    clear hm a; intro a hm
    refine wpList_nil ?_
    replace hm : Fr 42 a [(0, v_32), (1, .func (.func 76) #[] [.pointer (some ⟨g2, 0, none⟩)].toArray), (4, .slice none 0 0), (5, .int .i64 x_34), (6, .int .i64 x_35), (19, .bool (decide (x_35 < (x_29.length : Int))))] := hm.keep [0, 1, 4, 5, 6, 19]
    refine x_then_n ?_
    by_cases hc_39 : x_35 < (x_29.length : Int)
    · rw [if_pos hc_39] at H
      refine c_cond_t hm rfl (decide_eq_true hc_39) ?_
      refine wp_skip ?_
      refine x_then_n (hKJ_38 _ _ ?_)
      refine c_seq fun KJ_40 hKJ_40 => ?_
      refine c_block ?_
      refine wp_seq ?_
      refine wp_region_lit ?_
      refine s_move hm rfl rfl ?_
      clear hm a; intro a hm
      refine s_move hm rfl rfl ?_
      clear hm a; intro a hm
      obtain ⟨t_41, et_41, H⟩ := Option.bind_eq_some_iff.1 H
      refine v_indexO hm rfl Try.underlying23 ti3 rfl rfl rfl ho_33 (hS.own 1) et_41 ?_
      intro ad_42 cs_43 hk_44 hc_45
      obtain rfl := (show cs_43 = [.int .i64 t_41] from hk_44)
      clear hm a; intro a hm
      refine s_load hm rfl rfl (el_one (o := 0) hc_45 Try.underlying3 rfl rfl) ?_
      clear hm a; intro a hm
      refine s_assign hm rfl rfl ?_
      clear hm a; intro a hm
      refine wpList_nil ?_
      replace hm : Fr 42 a [(0, v_32), (1, .func (.func 76) #[] [.pointer (some ⟨g2, 0, none⟩)].toArray), (4, .slice none 0 0), (5, .int .i64 x_34), (6, .int .i64 x_35), (7, .int .i64 t_41)] := hm.keep [0, 1, 4, 5, 6, 7]
      refine x_then_n ?_
      refine wp_seq ?_
      refine wp_region_lit ?_
      refine s_move hm rfl rfl ?_
      clear hm a; intro a hm
      refine s_move hm rfl rfl ?_
      clear hm a; intro a hm
      obtain ⟨t_46, et_46, H⟩ := Option.bind_eq_some_iff.1 H
      refine s_callv hm rfl rfl Try.call76 rfl (gath_without_1.calls t_41 _ x2_ t_46 w0 _ _ _ (Mem.le.refl _) (hS.enter [1] (by decide))  et_46) ?_
      rintro _ w_47 ⟨N_48, rfl, hS'⟩
      clear hm a; intro a hm
      obtain ⟨N_49, hS'', le_49, ln_49⟩ := hS.call [1] (by decide) rfl (l' := [Mem.one g2 (.cells ([.int .i64 x2_] : List Value).toArray 3 (0, 0))]) (ow := []) rfl hS'
      replace hS : Sep w0 w_47 [N_49, M_30, Mem.one g2 (.cells ([.int .i64 x2_] : List Value).toArray 3 (0, 0))] Z := hS''
      clear hS' hS''
      refine s_not hm rfl rfl ?_
      clear hm a; intro a hm
      refine wpList_nil ?_
      replace hm : Fr 42 a [(0, v_32), (1, .func (.func 76) #[] [.pointer (some ⟨g2, 0, none⟩)].toArray), (4, .slice none 0 0), (5, .int .i64 x_34), (6, .int .i64 x_35), (7, .int .i64 t_41), (29, .bool (!t_46))] := hm.keep [0, 1, 4, 5, 6, 7, 29]
      refine x_then_n ?_
      by_cases hc_50 : t_46 = true
      · rw [if_pos hc_50] at H
        refine c_cond_f hm rfl (nf hc_50) ?_
        refine wp_skip ?_
        refine x_block_n ?_
        refine x_then_n (hKJ_40 _ _ ?_)
        refine wp_region_lit ?_
        refine s_move hm rfl rfl ?_
        clear hm a; intro a hm
        refine s_arith (r := w64 (x_35 + 1)) hm rfl rfl rfl (.inl ⟨rfl, rfl⟩) ?_
        clear hm a; intro a hm
        refine s_assign hm rfl rfl ?_
        clear hm a; intro a hm
        refine wpList_nil ?_
        replace hm : Fr 42 a [(0, v_32), (1, .func (.func 76) #[] [.pointer (some ⟨g2, 0, none⟩)].toArray), (4, .slice none 0 0), (5, .int .i64 x_34), (6, .int .i64 (w64 (x_35 + 1)))] := hm.keep [0, 1, 4, 5, 6]
        refine x_then_n (hKL_36 _ _ ?_)
        replace hS : Sep w0 w_47 [N_49, M_30, Mem.one g2 (.cells ([.int .i64 x2_] : List Value).toArray 3 (0, 0))] Z := hS
        replace hm : Fr 42 a [(0, v_32), (1, .func (.func 76) #[] [.pointer (some ⟨g2, 0, none⟩)].toArray), (4, .slice none 0 0), (5, .int .i64 x_34), (6, .int .i64 (w64 (x_35 + 1)))] := hm.keep [0, 1, 4, 5, 6]
        exact ⟨x_29, x_34, w64 (x_35 + 1), v_32, N_49, M_30, H, hm, (Sep.sel hS [0, 1, 2] (by decide)), (le_28.trans le_49), ho_33⟩
      · rw [if_neg hc_50] at H
        refine c_cond_t hm rfl (nt (Bool.eq_false_iff.2 hc_50)) ?_
        refine wp_seq ?_
        refine wp_region_lit ?_
        refine s_move hm rfl rfl ?_
        clear hm a; intro a hm
        refine s_move hm rfl rfl ?_
        clear hm a; intro a hm
        refine s_move hm rfl rfl ?_
        clear hm a; intro a hm
        obtain ⟨t_51, et_51, H⟩ := Option.bind_eq_some_iff.1 H
        refine s_indexOwn hm rfl Try.underlying23 ti3 rfl rfl rfl ho_33 et_51 ?_
        intro g_52 cur_53 hM_54
        clear hm a; intro a hm
        obtain ⟨w_55, M_56, hs', hS', ho_57⟩ := Own.stored (P := Try.prog) (p := 1) (t := 3) (o := 0) (nv := .int .i64 t_41) (vs := [.int .i64 t_41]) (u' := t_41) hS rfl ho_33 hM_54 et_51 ti3 rfl rfl rfl (by intro u hu; simp only [List.mem_cons, List.not_mem_nil, or_false] at hu; rcases hu with rfl <;> rfl) (fun cs hk => by obtain rfl := (show cs = [_] from hk); rfl)
        refine s_store hm rfl rfl hs' ?_
        replace hS : Sep w0 w_55 [N_49, M_56, Mem.one g2 (.cells ([.int .i64 x2_] : List Value).toArray 3 (0, 0))] Z := hS'
        clear hs' hS'
        refine wpList_nil ?_
        replace hm : Fr 42 a [(0, v_32), (1, .func (.func 76) #[] [.pointer (some ⟨g2, 0, none⟩)].toArray), (4, .slice none 0 0), (5, .int .i64 x_34), (6, .int .i64 x_35)] := hm.keep [0, 1, 4, 5, 6]
        refine x_then_n ?_
        refine wp_region_lit ?_
        refine s_move hm rfl rfl ?_
        clear hm a; intro a hm
        refine s_arith (r := w64 (x_34 + 1)) hm rfl rfl rfl (.inl ⟨rfl, rfl⟩) ?_
        clear hm a; intro a hm
        refine s_assign hm rfl rfl ?_
        clear hm a; intro a hm
        refine wpList_nil ?_
        replace hm : Fr 42 a [(0, v_32), (1, .func (.func 76) #[] [.pointer (some ⟨g2, 0, none⟩)].toArray), (4, .slice none 0 0), (5, .int .i64 (w64 (x_34 + 1))), (6, .int .i64 x_35)] := hm.keep [0, 1, 4, 5, 6]
        refine x_block_n ?_
        refine x_then_n (hKJ_40 _ _ ?_)
        refine wp_region_lit ?_
        refine s_move hm rfl rfl ?_
        clear hm a; intro a hm
        refine s_arith (r := w64 (x_35 + 1)) hm rfl rfl rfl (.inl ⟨rfl, rfl⟩) ?_
        clear hm a; intro a hm
        refine s_assign hm rfl rfl ?_
        clear hm a; intro a hm
        refine wpList_nil ?_
        replace hm : Fr 42 a [(0, v_32), (1, .func (.func 76) #[] [.pointer (some ⟨g2, 0, none⟩)].toArray), (4, .slice none 0 0), (5, .int .i64 (w64 (x_34 + 1))), (6, .int .i64 (w64 (x_35 + 1)))] := hm.keep [0, 1, 4, 5, 6]
        refine x_then_n (hKL_36 _ _ ?_)
        replace hS : Sep w0 w_55 [N_49, M_56, Mem.one g2 (.cells ([.int .i64 x2_] : List Value).toArray 3 (0, 0))] Z := hS
        replace hm : Fr 42 a [(0, v_32), (1, .func (.func 76) #[] [.pointer (some ⟨g2, 0, none⟩)].toArray), (4, .slice none 0 0), (5, .int .i64 (w64 (x_34 + 1))), (6, .int .i64 (w64 (x_35 + 1)))] := hm.keep [0, 1, 4, 5, 6]
        exact ⟨(x_29.set (x_34).toNat t_41), w64 (x_34 + 1), w64 (x_35 + 1), v_32, N_49, M_56, H, hm, (Sep.sel hS [0, 1, 2] (by decide)), (le_28.trans le_49), ho_57⟩
    · rw [if_neg hc_39] at H
      refine c_cond_f hm rfl (decide_eq_false hc_39) ?_
      refine wp_exit (x_then_x (x_then_x (x_block_t ?_)))
      replace hS : Sep w0 w_36 [N_28, M_30, Mem.one g2 (.cells ([.int .i64 x2_] : List Value).toArray 3 (0, 0))] Z := hS
      replace hm : Fr 42 a [(0, v_32), (4, .slice none 0 0), (5, .int .i64 x_34)] := hm.keep [0, 4, 5]
      exact x_then_n (hJ_j_16 x_29 x_34 H _ _ ⟨v_32, N_28, M_30, hm, (Sep.sel hS [0, 1, 2] (by decide)), le_28, ho_33⟩)

set_option maxHeartbeats 4000000 in
set_option maxRecDepth 20000 in
theorem gath_without.calls (K : Nat) (x0 : Int) (x1 : Int) (r : (List Int)) (w0 w : World) (Z A : Mem) (hA : A.le Z) (hS : Sep w0 w [] Z)
    (H : gath_without.f K x0 x1 = some r) :
    Calls Try.prog 68 [.int .i64 x0, .int .i64 x1].toArray w (Ret fun v w' => ∃ (u0 : Value) (N : Mem) (M0 : Mem), v = u0 ∧ Sep w0 w' [N, M0] Z ∧ Own (Kd.int .i64) 3 M0 Mem.no u0 r) := by
  unfold gath_without.f at H
  refine f_enter _ Try.func68 rfl Try.ntmps68 rfl fun a hm => ?_
  replace hm : Fr 9 a [(0, .int .i64 x0), (1, .int .i64 x1)] := hm
  replace hS := hS.start
  replace hS : Sep w0 w [Mem.no] Z := hS
  refine wp_seq ?_
  refine wp_region_lit ?_
  refine v_box (vs := [.int .i64 x1]) hm rfl rfl rfl hS ?_
  intro w_1 g_2 hS'
  clear hm a; intro a hm
  replace hS : Sep w0 w_1 [Mem.no, Mem.one g_2 (.cells ([.int .i64 x1] : List Value).toArray 3 (0, 0))] Z := hS'
  clear hS'
  refine s_assign hm rfl rfl ?_
  clear hm a; intro a hm
  refine wpList_nil ?_
  replace hm : Fr 9 a [(0, .int .i64 x0), (3, .pointer (some ⟨g_2, 0, none⟩)), (4, .slice none 0 0)] := hm.keep [0, 3, 4]
  refine x_then_n ?_
  refine wp_seq ?_
  refine wp_region_lit ?_
  refine s_move hm rfl rfl ?_
  clear hm a; intro a hm
  obtain ⟨t_3, et_3, H⟩ := Option.bind_eq_some_iff.1 H
  refine s_call hm rfl Try.call18 rfl (view_Members.calls K x0 t_3 w0 _ _ _ (Mem.le.refl _) (hS.enter [] (by decide))  et_3) ?_
  rintro v_7 w_4 ⟨_, N_5, M_9, rfl, hS', hr_8⟩
  clear hm a; intro a hm
  obtain ⟨N_6, hS'', le_6, ln_6⟩ := hS.call [] (by decide) rfl (l' := []) (ow := [M_9]) rfl hS'
  replace hS : Sep w0 w_4 [N_6, Mem.one g_2 (.cells ([.int .i64 x1] : List Value).toArray 3 (0, 0)), M_9] Z := hS''
  clear hS' hS''
  refine s_func hm rfl rfl ?_
  clear hm a; intro a hm
  obtain ⟨t_11, et_11, H⟩ := Option.bind_eq_some_iff.1 H
  refine s_call hm rfl Try.call75 rfl (slices_DeleteFunc_sint_int_76.calls K t_3 _ _ _ x1 t_11 w0 _ _ _ (Mem.le.refl _) (hS.enter [1, 0] (by decide)) hr_8 et_11) ?_
  rintro v_15 w_12 ⟨_, N_13, M_17, rfl, hS', hr_16⟩
  clear hm a; intro a hm
  obtain ⟨N_14, hS'', le_14, ln_14⟩ := hS.call [1, 0] (by decide) rfl (l' := [Mem.no, Mem.one g_2 (.cells ([.int .i64 x1] : List Value).toArray 3 (0, 0))]) (ow := [M_17]) rfl hS'
  replace hS : Sep w0 w_12 [N_14, Mem.one g_2 (.cells ([.int .i64 x1] : List Value).toArray 3 (0, 0)), Mem.no, M_17] Z := hS''
  clear hS' hS''
  refine s_assign hm rfl rfl ?_
  clear hm a; intro a hm
  refine wpList_nil ?_
  replace hm : Fr 9 a [(4, v_15)] := hm.keep [4]
  refine x_then_n ?_
  refine wp_ret ?_
  obtain rfl := Option.some.inj H
  exact f_ret hm (rs := [.tmp 4]) rfl (.tmp rfl .nil) ⟨_, rfl, v_15, N_14, M_17, rfl, (Sep.sel hS [0, 3] (by decide)), hr_16⟩

set_option maxHeartbeats 4000000 in
set_option maxRecDepth 20000 in
theorem gath_Gather_Absent.calls (K : Nat) (g0 : Nat) (x0_n : Int) (x0_id : Int) (x0_v : Int) (x0_l : List api_Msg) (p0_0 : Value) (x0_come : Int) (x0_ready : Int) (x0_commit_Kind : Int) (x0_commit_From : Int) (x0_commit_To : Int) (x0_commit_View : Int) (x0_commit_Inst : Int) (x0_commit_Len : Int) (x0_commit_Has : Bool) (x0_commit_Members : Int) (x0_commit_Source : Int) (x0_commit_At : Int) (x0_commit_Total : Int) (x0_commit_Data : List UInt8) (p0_1 : Value) (x0_commit_Hop : Int) (x0_commit_Seq : Int) (x0_commit_Have : List Int) (p0_2 : Value) (x0_commit_Need : List Int) (p0_3 : Value) (x0_commit_Index : Int) (x0_commit_Entry_Sess : Int) (x0_commit_Entry_Seq : Int) (x0_commit_Entry_Cmd_Kind : Int) (x0_commit_Entry_Cmd_Who : Int) (x0_commit_Entry_Cmd_Key : List UInt8) (p0_4 : Value) (x0_commit_Entry_Cmd_Val : List UInt8) (p0_5 : Value) (x0_commit_Entry_Cmd_Old : List UInt8) (p0_6 : Value) (x0_is : Bool) (r : (List Int)) (w0 w : World) (Z A : Mem) (hA : A.le Z) (hS : Sep w0 w [Mem.one g0 (.cells ([.int .i64 x0_n, .int .i64 x0_id, .int .i64 x0_v, p0_0, .int .i64 x0_come, .int .i64 x0_ready, .int .i64 x0_commit_Kind, .int .i64 x0_commit_From, .int .i64 x0_commit_To, .int .i64 x0_commit_View, .int .i64 x0_commit_Inst, .int .i64 x0_commit_Len, .bool x0_commit_Has, .int .i64 x0_commit_Members, .int .i64 x0_commit_Source, .int .i64 x0_commit_At, .int .i64 x0_commit_Total, p0_1, .int .i64 x0_commit_Hop, .int .i64 x0_commit_Seq, p0_2, p0_3, .int .i64 x0_commit_Index, .int .i64 x0_commit_Entry_Sess, .int .i64 x0_commit_Entry_Seq, .int .i64 x0_commit_Entry_Cmd_Kind, .int .i64 x0_commit_Entry_Cmd_Who, p0_4, p0_5, p0_6, .bool x0_is] : List Value).toArray 80 (0, 0))] Z) (hp0_0 : Rd k_api_Msg A p0_0 x0_l) (hp0_1 : Rd Kd.u8 A p0_1 x0_commit_Data) (hp0_2 : Rd (Kd.int .i64) A p0_2 x0_commit_Have) (hp0_3 : Rd (Kd.int .i64) A p0_3 x0_commit_Need) (hp0_4 : Rd Kd.u8 A p0_4 x0_commit_Entry_Cmd_Key) (hp0_5 : Rd Kd.u8 A p0_5 x0_commit_Entry_Cmd_Val) (hp0_6 : Rd Kd.u8 A p0_6 x0_commit_Entry_Cmd_Old)
    (H : gath_Gather_Absent.f K x0_n x0_id x0_v x0_l x0_come x0_ready x0_commit_Kind x0_commit_From x0_commit_To x0_commit_View x0_commit_Inst x0_commit_Len x0_commit_Has x0_commit_Members x0_commit_Source x0_commit_At x0_commit_Total x0_commit_Data x0_commit_Hop x0_commit_Seq x0_commit_Have x0_commit_Need x0_commit_Index x0_commit_Entry_Sess x0_commit_Entry_Seq x0_commit_Entry_Cmd_Kind x0_commit_Entry_Cmd_Who x0_commit_Entry_Cmd_Key x0_commit_Entry_Cmd_Val x0_commit_Entry_Cmd_Old x0_is = some r) :
    Calls Try.prog 43 [.pointer (some ⟨g0, 0, none⟩)].toArray w (Ret fun v w' => ∃ (u0 : Value) (N : Mem) (M0 : Mem), v = u0 ∧ Sep w0 w' [N, Mem.one g0 (.cells ([.int .i64 x0_n, .int .i64 x0_id, .int .i64 x0_v, p0_0, .int .i64 x0_come, .int .i64 x0_ready, .int .i64 x0_commit_Kind, .int .i64 x0_commit_From, .int .i64 x0_commit_To, .int .i64 x0_commit_View, .int .i64 x0_commit_Inst, .int .i64 x0_commit_Len, .bool x0_commit_Has, .int .i64 x0_commit_Members, .int .i64 x0_commit_Source, .int .i64 x0_commit_At, .int .i64 x0_commit_Total, p0_1, .int .i64 x0_commit_Hop, .int .i64 x0_commit_Seq, p0_2, p0_3, .int .i64 x0_commit_Index, .int .i64 x0_commit_Entry_Sess, .int .i64 x0_commit_Entry_Seq, .int .i64 x0_commit_Entry_Cmd_Kind, .int .i64 x0_commit_Entry_Cmd_Who, p0_4, p0_5, p0_6, .bool x0_is] : List Value).toArray 80 (0, 0)), M0] Z ∧ Own (Kd.int .i64) 3 M0 Mem.no u0 r) := by
  unfold gath_Gather_Absent.f at H
  refine f_enter _ Try.func43 rfl Try.ntmps43 rfl fun a hm => ?_
  replace hm : Fr 14 a [(0, .pointer (some ⟨g0, 0, none⟩))] := hm
  replace hS := hS.start
  replace hS : Sep w0 w [Mem.no, Mem.one g0 (.cells ([.int .i64 x0_n, .int .i64 x0_id, .int .i64 x0_v, p0_0, .int .i64 x0_come, .int .i64 x0_ready, .int .i64 x0_commit_Kind, .int .i64 x0_commit_From, .int .i64 x0_commit_To, .int .i64 x0_commit_View, .int .i64 x0_commit_Inst, .int .i64 x0_commit_Len, .bool x0_commit_Has, .int .i64 x0_commit_Members, .int .i64 x0_commit_Source, .int .i64 x0_commit_At, .int .i64 x0_commit_Total, p0_1, .int .i64 x0_commit_Hop, .int .i64 x0_commit_Seq, p0_2, p0_3, .int .i64 x0_commit_Index, .int .i64 x0_commit_Entry_Sess, .int .i64 x0_commit_Entry_Seq, .int .i64 x0_commit_Entry_Cmd_Kind, .int .i64 x0_commit_Entry_Cmd_Who, p0_4, p0_5, p0_6, .bool x0_is] : List Value).toArray 80 (0, 0))] Z := hS
  refine wp_seq ?_
  refine wp_region_lit ?_
  refine s_assign hm rfl rfl ?_
  clear hm a; intro a hm
  refine wpList_nil ?_
  replace hm : Fr 14 a [(0, .pointer (some ⟨g0, 0, none⟩)), (2, .slice none 0 0)] := hm.keep [0, 2]
  refine x_then_n ?_
  refine c_seq fun KJ_1 hKJ_1 => ?_
  refine h_begin (S := fun w => Sep w0 w [Mem.no, Mem.one g0 (.cells ([.int .i64 x0_n, .int .i64 x0_id, .int .i64 x0_v, p0_0, .int .i64 x0_come, .int .i64 x0_ready, .int .i64 x0_commit_Kind, .int .i64 x0_commit_From, .int .i64 x0_commit_To, .int .i64 x0_commit_View, .int .i64 x0_commit_Inst, .int .i64 x0_commit_Len, .bool x0_commit_Has, .int .i64 x0_commit_Members, .int .i64 x0_commit_Source, .int .i64 x0_commit_At, .int .i64 x0_commit_Total, p0_1, .int .i64 x0_commit_Hop, .int .i64 x0_commit_Seq, p0_2, p0_3, .int .i64 x0_commit_Index, .int .i64 x0_commit_Entry_Sess, .int .i64 x0_commit_Entry_Seq, .int .i64 x0_commit_Entry_Cmd_Kind, .int .i64 x0_commit_Entry_Cmd_Who, p0_4, p0_5, p0_6, .bool x0_is] : List Value).toArray 80 (0, 0))] Z) 12 (by kernel_rfl) rfl [false, false, false, false, false, false, false, false, false, false, false, false].toArray rfl hS fun w_2 hS => ?_
  replace hS : Sep w0 w_2 [Mem.no, Mem.one g0 (.cells ([.int .i64 x0_n, .int .i64 x0_id, .int .i64 x0_v, p0_0, .int .i64 x0_come, .int .i64 x0_ready, .int .i64 x0_commit_Kind, .int .i64 x0_commit_From, .int .i64 x0_commit_To, .int .i64 x0_commit_View, .int .i64 x0_commit_Inst, .int .i64 x0_commit_Len, .bool x0_commit_Has, .int .i64 x0_commit_Members, .int .i64 x0_commit_Source, .int .i64 x0_commit_At, .int .i64 x0_commit_Total, p0_1, .int .i64 x0_commit_Hop, .int .i64 x0_commit_Seq, p0_2, p0_3, .int .i64 x0_commit_Index, .int .i64 x0_commit_Entry_Sess, .int .i64 x0_commit_Entry_Seq, .int .i64 x0_commit_Entry_Cmd_Kind, .int .i64 x0_commit_Entry_Cmd_Who, p0_4, p0_5, p0_6, .bool x0_is] : List Value).toArray 80 (0, 0))] Z := hS
  refine h_take 0 [true, false, false, false, false, false, false, false, false, false, false, false].toArray rfl (by kernel_rfl) (by kernel_rfl) (by kernel_rfl) (fun _ _ _ _ h => h) rfl rfl rfl rfl hm (hS.sub (.cons (Mem.le.refl _) (.cons (Mem.le.refl _) (Sub.nil _)))) (v := .pointer (some ⟨g0, 0, none⟩)) (fun w hS => r_move hm rfl) ?_
  clear hm a; intro a hm
  refine h_take 1 [true, true, false, false, false, false, false, false, false, false, false, false].toArray rfl (by kernel_rfl) (by kernel_rfl) (by kernel_rfl) (fun _ _ _ _ h => h) rfl rfl rfl rfl hm (hS.sub (.cons (Mem.le.refl _) (.cons (Mem.le.refl _) (Sub.nil _)))) (v := .pointer (some ⟨g0, 0, none⟩)) (fun w hS => r_nilCheck hm rfl) ?_
  clear hm a; intro a hm
  refine h_take 2 [true, true, true, false, false, false, false, false, false, false, false, false].toArray rfl (by kernel_rfl) (by kernel_rfl) (by kernel_rfl) (fun _ _ _ _ h => h) rfl rfl rfl rfl hm (hS.sub (.cons (Mem.le.refl _) (.cons (Mem.le.refl _) (Sub.nil _)))) (v := .pointer (some ⟨g0, 0, none⟩)) (fun w hS => r_fieldAddr hm Try.underlying80 rfl ti3 rfl rfl rfl) ?_
  clear hm a; intro a hm
  refine h_take 3 [true, true, true, true, false, false, false, false, false, false, false, false].toArray rfl (by kernel_rfl) (by kernel_rfl) (by kernel_rfl) (fun _ _ _ _ h => h) rfl rfl rfl rfl hm (hS.sub (.cons (Mem.le.refl _) (.cons (Mem.le.refl _) (Sub.nil _)))) (v := .int .i64 x0_n) (fun w hS => r_load hm rfl (hS.load_one (p := 1) rfl Try.underlying3 rfl rfl)) ?_
  clear hm a; intro a hm
  obtain ⟨u_3, eu_3, H⟩ := Option.bind_eq_some_iff.1 H
  refine h_take 4 [true, true, true, true, true, false, false, false, false, false, false, false].toArray rfl (by kernel_rfl) (by kernel_rfl) (by kernel_rfl) (fun _ _ _ _ h => h) rfl rfl rfl rfl hm (hS.sub (.cons (Mem.le.refl _) (.cons (Mem.le.refl _) (Sub.nil _)))) (v := .int .i64 (shl .i64 1 x0_n)) (fun w hS => r_shift (r := shl .i64 1 x0_n) hm rfl rfl (must_some eu_3) (.inl ⟨rfl, rfl⟩)) ?_
  clear hm a; intro a hm
  refine h_take 5 [true, true, true, true, true, true, false, false, false, false, false, false].toArray rfl (by kernel_rfl) (by kernel_rfl) (by kernel_rfl) (fun _ _ _ _ h => h) rfl rfl rfl rfl hm (hS.sub (.cons (Mem.le.refl _) (.cons (Mem.le.refl _) (Sub.nil _)))) (v := .int .i64 (w64 ((shl .i64 1 x0_n) - 1))) (fun w hS => r_arith (r := w64 ((shl .i64 1 x0_n) - 1)) hm rfl rfl (.inr (.inl ⟨rfl, rfl⟩))) ?_
  clear hm a; intro a hm
  refine h_take 6 [true, true, true, true, true, true, true, false, false, false, false, false].toArray rfl (by kernel_rfl) (by kernel_rfl) (by kernel_rfl) (fun _ _ _ _ h => h) rfl rfl rfl rfl hm (hS.sub (.cons (Mem.le.refl _) (.cons (Mem.le.refl _) (Sub.nil _)))) (v := .pointer (some ⟨g0, 0, none⟩)) (fun w hS => r_move hm rfl) ?_
  clear hm a; intro a hm
  refine h_take 7 [true, true, true, true, true, true, true, true, false, false, false, false].toArray rfl (by kernel_rfl) (by kernel_rfl) (by kernel_rfl) (fun _ _ _ _ h => h) rfl rfl rfl rfl hm (hS.sub (.cons (Mem.le.refl _) (.cons (Mem.le.refl _) (Sub.nil _)))) (v := .pointer (some ⟨g0, 0, none⟩)) (fun w hS => r_nilCheck hm rfl) ?_
  clear hm a; intro a hm
  refine h_take 8 [true, true, true, true, true, true, true, true, true, false, false, false].toArray rfl (by kernel_rfl) (by kernel_rfl) (by kernel_rfl) (fun _ _ _ _ h => h) rfl rfl rfl rfl hm (hS.sub (.cons (Mem.le.refl _) (.cons (Mem.le.refl _) (Sub.nil _)))) (v := .pointer (some ⟨g0, 4, none⟩)) (fun w hS => r_fieldAddr hm Try.underlying80 rfl ti3 rfl rfl rfl) ?_
  clear hm a; intro a hm
  refine h_take 9 [true, true, true, true, true, true, true, true, true, true, false, false].toArray rfl (by kernel_rfl) (by kernel_rfl) (by kernel_rfl) (fun _ _ _ _ h => h) rfl rfl rfl rfl hm (hS.sub (.cons (Mem.le.refl _) (.cons (Mem.le.refl _) (Sub.nil _)))) (v := .int .i64 x0_come) (fun w hS => r_load hm rfl (hS.load_one (p := 1) rfl Try.underlying3 rfl rfl)) ?_
  clear hm a; intro a hm
  refine h_event 10 [true, true, true, true, true, true, true, true, true, true, true, false].toArray rfl (by kernel_rfl) rfl ?_
  obtain ⟨t_4, et_4, H⟩ := Option.bind_eq_some_iff.1 H
  refine s_call hm rfl Try.call68 rfl (gath_without.calls K (w64 ((shl .i64 1 x0_n) - 1)) x0_come t_4 w0 _ _ _ (Mem.le.refl _) (hS.enter [] (by decide))  et_4) ?_
  rintro v_8 w_5 ⟨_, N_6, M_10, rfl, hS', hr_9⟩
  clear hm a; intro a hm
  obtain ⟨N_7, hS'', le_7, ln_7⟩ := hS.call [] (by decide) rfl (l' := []) (ow := [M_10]) rfl hS'
  replace hS : Sep w0 w_5 [N_7, Mem.one g0 (.cells ([.int .i64 x0_n, .int .i64 x0_id, .int .i64 x0_v, p0_0, .int .i64 x0_come, .int .i64 x0_ready, .int .i64 x0_commit_Kind, .int .i64 x0_commit_From, .int .i64 x0_commit_To, .int .i64 x0_commit_View, .int .i64 x0_commit_Inst, .int .i64 x0_commit_Len, .bool x0_commit_Has, .int .i64 x0_commit_Members, .int .i64 x0_commit_Source, .int .i64 x0_commit_At, .int .i64 x0_commit_Total, p0_1, .int .i64 x0_commit_Hop, .int .i64 x0_commit_Seq, p0_2, p0_3, .int .i64 x0_commit_Index, .int .i64 x0_commit_Entry_Sess, .int .i64 x0_commit_Entry_Seq, .int .i64 x0_commit_Entry_Cmd_Kind, .int .i64 x0_commit_Entry_Cmd_Who, p0_4, p0_5, p0_6, .bool x0_is] : List Value).toArray 80 (0, 0)), M_10] Z := hS''
  clear hS' hS''
  refine wpList_nil ?_
  refine x_then_n ⟨(hS.sub (.cons le_7 (.cons (Mem.le.refl _) (Sub.nil _)))), ?_⟩
  refine h_take 11 [true, true, true, true, true, true, true, true, true, true, true, true].toArray rfl (by kernel_rfl) (by kernel_rfl) (by kernel_rfl) (fun _ _ _ _ h => h) rfl rfl rfl rfl hm (hS.sub (.cons le_7 (.cons (Mem.le.refl _) (Sub.nil _)))) (v := v_8) (fun w hS => r_assign hm rfl) ?_
  clear hm a; intro a hm
  refine h_done (by kernel_rfl) ?_
  replace hm : Fr 14 a [(2, v_8)] := hm.keep [2]
  refine x_then_n (hKJ_1 _ _ ?_)
  refine wp_ret ?_
  obtain rfl := Option.some.inj H
  exact f_ret hm (rs := [.tmp 2]) rfl (.tmp rfl .nil) ⟨_, rfl, v_8, N_7, M_10, rfl, (Sep.sel hS [0, 1, 2] (by decide)), hr_9⟩

set_option maxHeartbeats 4000000 in
set_option maxRecDepth 20000 in
theorem gath_Gather_All.calls (K : Nat) (g0 : Nat) (x0_n : Int) (x0_id : Int) (x0_v : Int) (x0_l : List api_Msg) (p0_0 : Value) (x0_come : Int) (x0_ready : Int) (x0_commit_Kind : Int) (x0_commit_From : Int) (x0_commit_To : Int) (x0_commit_View : Int) (x0_commit_Inst : Int) (x0_commit_Len : Int) (x0_commit_Has : Bool) (x0_commit_Members : Int) (x0_commit_Source : Int) (x0_commit_At : Int) (x0_commit_Total : Int) (x0_commit_Data : List UInt8) (p0_1 : Value) (x0_commit_Hop : Int) (x0_commit_Seq : Int) (x0_commit_Have : List Int) (p0_2 : Value) (x0_commit_Need : List Int) (p0_3 : Value) (x0_commit_Index : Int) (x0_commit_Entry_Sess : Int) (x0_commit_Entry_Seq : Int) (x0_commit_Entry_Cmd_Kind : Int) (x0_commit_Entry_Cmd_Who : Int) (x0_commit_Entry_Cmd_Key : List UInt8) (p0_4 : Value) (x0_commit_Entry_Cmd_Val : List UInt8) (p0_5 : Value) (x0_commit_Entry_Cmd_Old : List UInt8) (p0_6 : Value) (x0_is : Bool) (r : Bool) (w0 w : World) (Z A : Mem) (hA : A.le Z) (hS : Sep w0 w [Mem.one g0 (.cells ([.int .i64 x0_n, .int .i64 x0_id, .int .i64 x0_v, p0_0, .int .i64 x0_come, .int .i64 x0_ready, .int .i64 x0_commit_Kind, .int .i64 x0_commit_From, .int .i64 x0_commit_To, .int .i64 x0_commit_View, .int .i64 x0_commit_Inst, .int .i64 x0_commit_Len, .bool x0_commit_Has, .int .i64 x0_commit_Members, .int .i64 x0_commit_Source, .int .i64 x0_commit_At, .int .i64 x0_commit_Total, p0_1, .int .i64 x0_commit_Hop, .int .i64 x0_commit_Seq, p0_2, p0_3, .int .i64 x0_commit_Index, .int .i64 x0_commit_Entry_Sess, .int .i64 x0_commit_Entry_Seq, .int .i64 x0_commit_Entry_Cmd_Kind, .int .i64 x0_commit_Entry_Cmd_Who, p0_4, p0_5, p0_6, .bool x0_is] : List Value).toArray 80 (0, 0))] Z) (hp0_0 : Rd k_api_Msg A p0_0 x0_l) (hp0_1 : Rd Kd.u8 A p0_1 x0_commit_Data) (hp0_2 : Rd (Kd.int .i64) A p0_2 x0_commit_Have) (hp0_3 : Rd (Kd.int .i64) A p0_3 x0_commit_Need) (hp0_4 : Rd Kd.u8 A p0_4 x0_commit_Entry_Cmd_Key) (hp0_5 : Rd Kd.u8 A p0_5 x0_commit_Entry_Cmd_Val) (hp0_6 : Rd Kd.u8 A p0_6 x0_commit_Entry_Cmd_Old)
    (H : gath_Gather_All.f K x0_n x0_id x0_v x0_l x0_come x0_ready x0_commit_Kind x0_commit_From x0_commit_To x0_commit_View x0_commit_Inst x0_commit_Len x0_commit_Has x0_commit_Members x0_commit_Source x0_commit_At x0_commit_Total x0_commit_Data x0_commit_Hop x0_commit_Seq x0_commit_Have x0_commit_Need x0_commit_Index x0_commit_Entry_Sess x0_commit_Entry_Seq x0_commit_Entry_Cmd_Kind x0_commit_Entry_Cmd_Who x0_commit_Entry_Cmd_Key x0_commit_Entry_Cmd_Val x0_commit_Entry_Cmd_Old x0_is = some r) :
    Calls Try.prog 44 [.pointer (some ⟨g0, 0, none⟩)].toArray w (Ret fun v w' => ∃ (N : Mem), v = .bool r ∧ Sep w0 w' [N, Mem.one g0 (.cells ([.int .i64 x0_n, .int .i64 x0_id, .int .i64 x0_v, p0_0, .int .i64 x0_come, .int .i64 x0_ready, .int .i64 x0_commit_Kind, .int .i64 x0_commit_From, .int .i64 x0_commit_To, .int .i64 x0_commit_View, .int .i64 x0_commit_Inst, .int .i64 x0_commit_Len, .bool x0_commit_Has, .int .i64 x0_commit_Members, .int .i64 x0_commit_Source, .int .i64 x0_commit_At, .int .i64 x0_commit_Total, p0_1, .int .i64 x0_commit_Hop, .int .i64 x0_commit_Seq, p0_2, p0_3, .int .i64 x0_commit_Index, .int .i64 x0_commit_Entry_Sess, .int .i64 x0_commit_Entry_Seq, .int .i64 x0_commit_Entry_Cmd_Kind, .int .i64 x0_commit_Entry_Cmd_Who, p0_4, p0_5, p0_6, .bool x0_is] : List Value).toArray 80 (0, 0))] Z) := by
  unfold gath_Gather_All.f at H
  refine f_enter _ Try.func44 rfl Try.ntmps44 rfl fun a hm => ?_
  replace hm : Fr 7 a [(0, .pointer (some ⟨g0, 0, none⟩))] := hm
  replace hS := hS.start
  replace hS : Sep w0 w [Mem.no, Mem.one g0 (.cells ([.int .i64 x0_n, .int .i64 x0_id, .int .i64 x0_v, p0_0, .int .i64 x0_come, .int .i64 x0_ready, .int .i64 x0_commit_Kind, .int .i64 x0_commit_From, .int .i64 x0_commit_To, .int .i64 x0_commit_View, .int .i64 x0_commit_Inst, .int .i64 x0_commit_Len, .bool x0_commit_Has, .int .i64 x0_commit_Members, .int .i64 x0_commit_Source, .int .i64 x0_commit_At, .int .i64 x0_commit_Total, p0_1, .int .i64 x0_commit_Hop, .int .i64 x0_commit_Seq, p0_2, p0_3, .int .i64 x0_commit_Index, .int .i64 x0_commit_Entry_Sess, .int .i64 x0_commit_Entry_Seq, .int .i64 x0_commit_Entry_Cmd_Kind, .int .i64 x0_commit_Entry_Cmd_Who, p0_4, p0_5, p0_6, .bool x0_is] : List Value).toArray 80 (0, 0))] Z := hS
  refine wp_seq ?_
  refine wp_region_lit ?_
  refine s_assign hm rfl rfl ?_
  clear hm a; intro a hm
  refine wpList_nil ?_
  replace hm : Fr 7 a [(0, .pointer (some ⟨g0, 0, none⟩)), (2, .bool false)] := hm.keep [0, 2]
  refine x_then_n ?_
  refine wp_seq ?_
  refine wp_region_lit ?_
  refine s_move hm rfl rfl ?_
  clear hm a; intro a hm
  obtain ⟨t_1, et_1, H⟩ := Option.bind_eq_some_iff.1 H
  refine s_call hm rfl Try.call43 rfl (gath_Gather_Absent.calls K _ x0_n x0_id x0_v x0_l _ x0_come x0_ready x0_commit_Kind x0_commit_From x0_commit_To x0_commit_View x0_commit_Inst x0_commit_Len x0_commit_Has x0_commit_Members x0_commit_Source x0_commit_At x0_commit_Total x0_commit_Data _ x0_commit_Hop x0_commit_Seq x0_commit_Have _ x0_commit_Need _ x0_commit_Index x0_commit_Entry_Sess x0_commit_Entry_Seq x0_commit_Entry_Cmd_Kind x0_commit_Entry_Cmd_Who x0_commit_Entry_Cmd_Key _ x0_commit_Entry_Cmd_Val _ x0_commit_Entry_Cmd_Old _ x0_is t_1 w0 _ _ _ (Mem.le.refl _) (hS.enter [0] (by decide)) (hp0_0.mono (hA.trans (hS.le_zed [0]))) (hp0_1.mono (hA.trans (hS.le_zed [0]))) (hp0_2.mono (hA.trans (hS.le_zed [0]))) (hp0_3.mono (hA.trans (hS.le_zed [0]))) (hp0_4.mono (hA.trans (hS.le_zed [0]))) (hp0_5.mono (hA.trans (hS.le_zed [0]))) (hp0_6.mono (hA.trans (hS.le_zed [0]))) et_1) ?_
  rintro v_5 w_2 ⟨_, N_3, M_7, rfl, hS', hr_6⟩
  clear hm a; intro a hm
  obtain ⟨N_4, hS'', le_4, ln_4⟩ := hS.call [0] (by decide) rfl (l' := [Mem.one g0 (.cells ([.int .i64 x0_n, .int .i64 x0_id, .int .i64 x0_v, p0_0, .int .i64 x0_come, .int .i64 x0_ready, .int .i64 x0_commit_Kind, .int .i64 x0_commit_From, .int .i64 x0_commit_To, .int .i64 x0_commit_View, .int .i64 x0_commit_Inst, .int .i64 x0_commit_Len, .bool x0_commit_Has, .int .i64 x0_commit_Members, .int .i64 x0_commit_Source, .int .i64 x0_commit_At, .int .i64 x0_commit_Total, p0_1, .int .i64 x0_commit_Hop, .int .i64 x0_commit_Seq, p0_2, p0_3, .int .i64 x0_commit_Index, .int .i64 x0_commit_Entry_Sess, .int .i64 x0_commit_Entry_Seq, .int .i64 x0_commit_Entry_Cmd_Kind, .int .i64 x0_commit_Entry_Cmd_Who, p0_4, p0_5, p0_6, .bool x0_is] : List Value).toArray 80 (0, 0))]) (ow := [M_7]) rfl hS'
  replace hS : Sep w0 w_2 [N_4, Mem.one g0 (.cells ([.int .i64 x0_n, .int .i64 x0_id, .int .i64 x0_v, p0_0, .int .i64 x0_come, .int .i64 x0_ready, .int .i64 x0_commit_Kind, .int .i64 x0_commit_From, .int .i64 x0_commit_To, .int .i64 x0_commit_View, .int .i64 x0_commit_Inst, .int .i64 x0_commit_Len, .bool x0_commit_Has, .int .i64 x0_commit_Members, .int .i64 x0_commit_Source, .int .i64 x0_commit_At, .int .i64 x0_commit_Total, p0_1, .int .i64 x0_commit_Hop, .int .i64 x0_commit_Seq, p0_2, p0_3, .int .i64 x0_commit_Index, .int .i64 x0_commit_Entry_Sess, .int .i64 x0_commit_Entry_Seq, .int .i64 x0_commit_Entry_Cmd_Kind, .int .i64 x0_commit_Entry_Cmd_Who, p0_4, p0_5, p0_6, .bool x0_is] : List Value).toArray 80 (0, 0)), M_7] Z := hS''
  clear hS' hS''
  refine s_lenO hm rfl Try.underlying23 rfl hr_6 ?_
  clear hm a; intro a hm
  refine s_cmp (b := ((t_1.length : Int) == 0)) hm rfl rfl rfl (.inl ⟨rfl, rfl⟩) ?_
  clear hm a; intro a hm
  refine s_assign hm rfl rfl ?_
  clear hm a; intro a hm
  refine wpList_nil ?_
  replace hm : Fr 7 a [(2, .bool ((t_1.length : Int) == 0))] := hm.keep [2]
  refine x_then_n ?_
  refine wp_ret ?_
  obtain rfl := Option.some.inj H
  exact f_ret hm (rs := [.tmp 2]) rfl (.tmp rfl .nil) ⟨_, rfl, N_4, rfl, (Sep.sel hS [0, 1] (by decide))⟩

set_option maxHeartbeats 4000000 in
set_option maxRecDepth 20000 in
theorem gath_Gather_Unready.calls (K : Nat) (g0 : Nat) (x0_n : Int) (x0_id : Int) (x0_v : Int) (x0_l : List api_Msg) (p0_0 : Value) (x0_come : Int) (x0_ready : Int) (x0_commit_Kind : Int) (x0_commit_From : Int) (x0_commit_To : Int) (x0_commit_View : Int) (x0_commit_Inst : Int) (x0_commit_Len : Int) (x0_commit_Has : Bool) (x0_commit_Members : Int) (x0_commit_Source : Int) (x0_commit_At : Int) (x0_commit_Total : Int) (x0_commit_Data : List UInt8) (p0_1 : Value) (x0_commit_Hop : Int) (x0_commit_Seq : Int) (x0_commit_Have : List Int) (p0_2 : Value) (x0_commit_Need : List Int) (p0_3 : Value) (x0_commit_Index : Int) (x0_commit_Entry_Sess : Int) (x0_commit_Entry_Seq : Int) (x0_commit_Entry_Cmd_Kind : Int) (x0_commit_Entry_Cmd_Who : Int) (x0_commit_Entry_Cmd_Key : List UInt8) (p0_4 : Value) (x0_commit_Entry_Cmd_Val : List UInt8) (p0_5 : Value) (x0_commit_Entry_Cmd_Old : List UInt8) (p0_6 : Value) (x0_is : Bool) (r : (List Int)) (w0 w : World) (Z A : Mem) (hA : A.le Z) (hS : Sep w0 w [Mem.one g0 (.cells ([.int .i64 x0_n, .int .i64 x0_id, .int .i64 x0_v, p0_0, .int .i64 x0_come, .int .i64 x0_ready, .int .i64 x0_commit_Kind, .int .i64 x0_commit_From, .int .i64 x0_commit_To, .int .i64 x0_commit_View, .int .i64 x0_commit_Inst, .int .i64 x0_commit_Len, .bool x0_commit_Has, .int .i64 x0_commit_Members, .int .i64 x0_commit_Source, .int .i64 x0_commit_At, .int .i64 x0_commit_Total, p0_1, .int .i64 x0_commit_Hop, .int .i64 x0_commit_Seq, p0_2, p0_3, .int .i64 x0_commit_Index, .int .i64 x0_commit_Entry_Sess, .int .i64 x0_commit_Entry_Seq, .int .i64 x0_commit_Entry_Cmd_Kind, .int .i64 x0_commit_Entry_Cmd_Who, p0_4, p0_5, p0_6, .bool x0_is] : List Value).toArray 80 (0, 0))] Z) (hp0_0 : Rd k_api_Msg A p0_0 x0_l) (hp0_1 : Rd Kd.u8 A p0_1 x0_commit_Data) (hp0_2 : Rd (Kd.int .i64) A p0_2 x0_commit_Have) (hp0_3 : Rd (Kd.int .i64) A p0_3 x0_commit_Need) (hp0_4 : Rd Kd.u8 A p0_4 x0_commit_Entry_Cmd_Key) (hp0_5 : Rd Kd.u8 A p0_5 x0_commit_Entry_Cmd_Val) (hp0_6 : Rd Kd.u8 A p0_6 x0_commit_Entry_Cmd_Old)
    (H : gath_Gather_Unready.f K x0_n x0_id x0_v x0_l x0_come x0_ready x0_commit_Kind x0_commit_From x0_commit_To x0_commit_View x0_commit_Inst x0_commit_Len x0_commit_Has x0_commit_Members x0_commit_Source x0_commit_At x0_commit_Total x0_commit_Data x0_commit_Hop x0_commit_Seq x0_commit_Have x0_commit_Need x0_commit_Index x0_commit_Entry_Sess x0_commit_Entry_Seq x0_commit_Entry_Cmd_Kind x0_commit_Entry_Cmd_Who x0_commit_Entry_Cmd_Key x0_commit_Entry_Cmd_Val x0_commit_Entry_Cmd_Old x0_is = some r) :
    Calls Try.prog 48 [.pointer (some ⟨g0, 0, none⟩)].toArray w (Ret fun v w' => ∃ (u0 : Value) (N : Mem) (M0 : Mem), v = u0 ∧ Sep w0 w' [N, Mem.one g0 (.cells ([.int .i64 x0_n, .int .i64 x0_id, .int .i64 x0_v, p0_0, .int .i64 x0_come, .int .i64 x0_ready, .int .i64 x0_commit_Kind, .int .i64 x0_commit_From, .int .i64 x0_commit_To, .int .i64 x0_commit_View, .int .i64 x0_commit_Inst, .int .i64 x0_commit_Len, .bool x0_commit_Has, .int .i64 x0_commit_Members, .int .i64 x0_commit_Source, .int .i64 x0_commit_At, .int .i64 x0_commit_Total, p0_1, .int .i64 x0_commit_Hop, .int .i64 x0_commit_Seq, p0_2, p0_3, .int .i64 x0_commit_Index, .int .i64 x0_commit_Entry_Sess, .int .i64 x0_commit_Entry_Seq, .int .i64 x0_commit_Entry_Cmd_Kind, .int .i64 x0_commit_Entry_Cmd_Who, p0_4, p0_5, p0_6, .bool x0_is] : List Value).toArray 80 (0, 0)), M0] Z ∧ Own (Kd.int .i64) 3 M0 Mem.no u0 r) := by
  unfold gath_Gather_Unready.f at H
  refine f_enter _ Try.func48 rfl Try.ntmps48 rfl fun a hm => ?_
  replace hm : Fr 13 a [(0, .pointer (some ⟨g0, 0, none⟩))] := hm
  replace hS := hS.start
  replace hS : Sep w0 w [Mem.no, Mem.one g0 (.cells ([.int .i64 x0_n, .int .i64 x0_id, .int .i64 x0_v, p0_0, .int .i64 x0_come, .int .i64 x0_ready, .int .i64 x0_commit_Kind, .int .i64 x0_commit_From, .int .i64 x0_commit_To, .int .i64 x0_commit_View, .int .i64 x0_commit_Inst, .int .i64 x0_commit_Len, .bool x0_commit_Has, .int .i64 x0_commit_Members, .int .i64 x0_commit_Source, .int .i64 x0_commit_At, .int .i64 x0_commit_Total, p0_1, .int .i64 x0_commit_Hop, .int .i64 x0_commit_Seq, p0_2, p0_3, .int .i64 x0_commit_Index, .int .i64 x0_commit_Entry_Sess, .int .i64 x0_commit_Entry_Seq, .int .i64 x0_commit_Entry_Cmd_Kind, .int .i64 x0_commit_Entry_Cmd_Who, p0_4, p0_5, p0_6, .bool x0_is] : List Value).toArray 80 (0, 0))] Z := hS
  refine wp_seq ?_
  refine wp_region_lit ?_
  refine s_assign hm rfl rfl ?_
  clear hm a; intro a hm
  refine wpList_nil ?_
  replace hm : Fr 13 a [(0, .pointer (some ⟨g0, 0, none⟩)), (2, .slice none 0 0)] := hm.keep [0, 2]
  refine x_then_n ?_
  refine c_seq fun KJ_1 hKJ_1 => ?_
  refine h_begin (S := fun w => Sep w0 w [Mem.no, Mem.one g0 (.cells ([.int .i64 x0_n, .int .i64 x0_id, .int .i64 x0_v, p0_0, .int .i64 x0_come, .int .i64 x0_ready, .int .i64 x0_commit_Kind, .int .i64 x0_commit_From, .int .i64 x0_commit_To, .int .i64 x0_commit_View, .int .i64 x0_commit_Inst, .int .i64 x0_commit_Len, .bool x0_commit_Has, .int .i64 x0_commit_Members, .int .i64 x0_commit_Source, .int .i64 x0_commit_At, .int .i64 x0_commit_Total, p0_1, .int .i64 x0_commit_Hop, .int .i64 x0_commit_Seq, p0_2, p0_3, .int .i64 x0_commit_Index, .int .i64 x0_commit_Entry_Sess, .int .i64 x0_commit_Entry_Seq, .int .i64 x0_commit_Entry_Cmd_Kind, .int .i64 x0_commit_Entry_Cmd_Who, p0_4, p0_5, p0_6, .bool x0_is] : List Value).toArray 80 (0, 0))] Z) 11 (by kernel_rfl) rfl [false, false, false, false, false, false, false, false, false, false, false].toArray rfl hS fun w_2 hS => ?_
  replace hS : Sep w0 w_2 [Mem.no, Mem.one g0 (.cells ([.int .i64 x0_n, .int .i64 x0_id, .int .i64 x0_v, p0_0, .int .i64 x0_come, .int .i64 x0_ready, .int .i64 x0_commit_Kind, .int .i64 x0_commit_From, .int .i64 x0_commit_To, .int .i64 x0_commit_View, .int .i64 x0_commit_Inst, .int .i64 x0_commit_Len, .bool x0_commit_Has, .int .i64 x0_commit_Members, .int .i64 x0_commit_Source, .int .i64 x0_commit_At, .int .i64 x0_commit_Total, p0_1, .int .i64 x0_commit_Hop, .int .i64 x0_commit_Seq, p0_2, p0_3, .int .i64 x0_commit_Index, .int .i64 x0_commit_Entry_Sess, .int .i64 x0_commit_Entry_Seq, .int .i64 x0_commit_Entry_Cmd_Kind, .int .i64 x0_commit_Entry_Cmd_Who, p0_4, p0_5, p0_6, .bool x0_is] : List Value).toArray 80 (0, 0))] Z := hS
  refine h_take 0 [true, false, false, false, false, false, false, false, false, false, false].toArray rfl (by kernel_rfl) (by kernel_rfl) (by kernel_rfl) (fun _ _ _ _ h => h) rfl rfl rfl rfl hm (hS.sub (.cons (Mem.le.refl _) (.cons (Mem.le.refl _) (Sub.nil _)))) (v := .pointer (some ⟨g0, 0, none⟩)) (fun w hS => r_move hm rfl) ?_
  clear hm a; intro a hm
  refine h_take 1 [true, true, false, false, false, false, false, false, false, false, false].toArray rfl (by kernel_rfl) (by kernel_rfl) (by kernel_rfl) (fun _ _ _ _ h => h) rfl rfl rfl rfl hm (hS.sub (.cons (Mem.le.refl _) (.cons (Mem.le.refl _) (Sub.nil _)))) (v := .pointer (some ⟨g0, 0, none⟩)) (fun w hS => r_nilCheck hm rfl) ?_
  clear hm a; intro a hm
  refine h_take 2 [true, true, true, false, false, false, false, false, false, false, false].toArray rfl (by kernel_rfl) (by kernel_rfl) (by kernel_rfl) (fun _ _ _ _ h => h) rfl rfl rfl rfl hm (hS.sub (.cons (Mem.le.refl _) (.cons (Mem.le.refl _) (Sub.nil _)))) (v := .pointer (some ⟨g0, 6, none⟩)) (fun w hS => r_fieldAddr hm Try.underlying80 rfl ti29 rfl rfl rfl) ?_
  clear hm a; intro a hm
  refine h_take 3 [true, true, true, true, false, false, false, false, false, false, false].toArray rfl (by kernel_rfl) (by kernel_rfl) (by kernel_rfl) (fun _ _ _ _ h => h) rfl rfl rfl rfl hm (hS.sub (.cons (Mem.le.refl _) (.cons (Mem.le.refl _) (Sub.nil _)))) (v := .pointer (some ⟨g0, 13, none⟩)) (fun w hS => r_fieldAddr hm Try.underlying29 rfl ti3 rfl rfl rfl) ?_
  clear hm a; intro a hm
  refine h_take 4 [true, true, true, true, true, false, false, false, false, false, false].toArray rfl (by kernel_rfl) (by kernel_rfl) (by kernel_rfl) (fun _ _ _ _ h => h) rfl rfl rfl rfl hm (hS.sub (.cons (Mem.le.refl _) (.cons (Mem.le.refl _) (Sub.nil _)))) (v := .int .i64 x0_commit_Members) (fun w hS => r_load hm rfl (hS.load_one (p := 1) rfl Try.underlying3 rfl rfl)) ?_
  clear hm a; intro a hm
  refine h_take 5 [true, true, true, true, true, true, false, false, false, false, false].toArray rfl (by kernel_rfl) (by kernel_rfl) (by kernel_rfl) (fun _ _ _ _ h => h) rfl rfl rfl rfl hm (hS.sub (.cons (Mem.le.refl _) (.cons (Mem.le.refl _) (Sub.nil _)))) (v := .pointer (some ⟨g0, 0, none⟩)) (fun w hS => r_move hm rfl) ?_
  clear hm a; intro a hm
  refine h_take 6 [true, true, true, true, true, true, true, false, false, false, false].toArray rfl (by kernel_rfl) (by kernel_rfl) (by kernel_rfl) (fun _ _ _ _ h => h) rfl rfl rfl rfl hm (hS.sub (.cons (Mem.le.refl _) (.cons (Mem.le.refl _) (Sub.nil _)))) (v := .pointer (some ⟨g0, 0, none⟩)) (fun w hS => r_nilCheck hm rfl) ?_
  clear hm a; intro a hm
  refine h_take 7 [true, true, true, true, true, true, true, true, false, false, false].toArray rfl (by kernel_rfl) (by kernel_rfl) (by kernel_rfl) (fun _ _ _ _ h => h) rfl rfl rfl rfl hm (hS.sub (.cons (Mem.le.refl _) (.cons (Mem.le.refl _) (Sub.nil _)))) (v := .pointer (some ⟨g0, 5, none⟩)) (fun w hS => r_fieldAddr hm Try.underlying80 rfl ti3 rfl rfl rfl) ?_
  clear hm a; intro a hm
  refine h_take 8 [true, true, true, true, true, true, true, true, true, false, false].toArray rfl (by kernel_rfl) (by kernel_rfl) (by kernel_rfl) (fun _ _ _ _ h => h) rfl rfl rfl rfl hm (hS.sub (.cons (Mem.le.refl _) (.cons (Mem.le.refl _) (Sub.nil _)))) (v := .int .i64 x0_ready) (fun w hS => r_load hm rfl (hS.load_one (p := 1) rfl Try.underlying3 rfl rfl)) ?_
  clear hm a; intro a hm
  refine h_event 9 [true, true, true, true, true, true, true, true, true, true, false].toArray rfl (by kernel_rfl) rfl ?_
  obtain ⟨t_3, et_3, H⟩ := Option.bind_eq_some_iff.1 H
  refine s_call hm rfl Try.call68 rfl (gath_without.calls K x0_commit_Members x0_ready t_3 w0 _ _ _ (Mem.le.refl _) (hS.enter [] (by decide))  et_3) ?_
  rintro v_7 w_4 ⟨_, N_5, M_9, rfl, hS', hr_8⟩
  clear hm a; intro a hm
  obtain ⟨N_6, hS'', le_6, ln_6⟩ := hS.call [] (by decide) rfl (l' := []) (ow := [M_9]) rfl hS'
  replace hS : Sep w0 w_4 [N_6, Mem.one g0 (.cells ([.int .i64 x0_n, .int .i64 x0_id, .int .i64 x0_v, p0_0, .int .i64 x0_come, .int .i64 x0_ready, .int .i64 x0_commit_Kind, .int .i64 x0_commit_From, .int .i64 x0_commit_To, .int .i64 x0_commit_View, .int .i64 x0_commit_Inst, .int .i64 x0_commit_Len, .bool x0_commit_Has, .int .i64 x0_commit_Members, .int .i64 x0_commit_Source, .int .i64 x0_commit_At, .int .i64 x0_commit_Total, p0_1, .int .i64 x0_commit_Hop, .int .i64 x0_commit_Seq, p0_2, p0_3, .int .i64 x0_commit_Index, .int .i64 x0_commit_Entry_Sess, .int .i64 x0_commit_Entry_Seq, .int .i64 x0_commit_Entry_Cmd_Kind, .int .i64 x0_commit_Entry_Cmd_Who, p0_4, p0_5, p0_6, .bool x0_is] : List Value).toArray 80 (0, 0)), M_9] Z := hS''
  clear hS' hS''
  refine wpList_nil ?_
  refine x_then_n ⟨(hS.sub (.cons le_6 (.cons (Mem.le.refl _) (Sub.nil _)))), ?_⟩
  refine h_take 10 [true, true, true, true, true, true, true, true, true, true, true].toArray rfl (by kernel_rfl) (by kernel_rfl) (by kernel_rfl) (fun _ _ _ _ h => h) rfl rfl rfl rfl hm (hS.sub (.cons le_6 (.cons (Mem.le.refl _) (Sub.nil _)))) (v := v_7) (fun w hS => r_assign hm rfl) ?_
  clear hm a; intro a hm
  refine h_done (by kernel_rfl) ?_
  replace hm : Fr 13 a [(2, v_7)] := hm.keep [2]
  refine x_then_n (hKJ_1 _ _ ?_)
  refine wp_ret ?_
  obtain rfl := Option.some.inj H
  exact f_ret hm (rs := [.tmp 2]) rfl (.tmp rfl .nil) ⟨_, rfl, v_7, N_6, M_9, rfl, (Sep.sel hS [0, 1, 2] (by decide)), hr_8⟩

set_option maxHeartbeats 4000000 in
set_option maxRecDepth 20000 in
theorem gath_Gather_Done.calls (K : Nat) (g0 : Nat) (x0_n : Int) (x0_id : Int) (x0_v : Int) (x0_l : List api_Msg) (p0_0 : Value) (x0_come : Int) (x0_ready : Int) (x0_commit_Kind : Int) (x0_commit_From : Int) (x0_commit_To : Int) (x0_commit_View : Int) (x0_commit_Inst : Int) (x0_commit_Len : Int) (x0_commit_Has : Bool) (x0_commit_Members : Int) (x0_commit_Source : Int) (x0_commit_At : Int) (x0_commit_Total : Int) (x0_commit_Data : List UInt8) (p0_1 : Value) (x0_commit_Hop : Int) (x0_commit_Seq : Int) (x0_commit_Have : List Int) (p0_2 : Value) (x0_commit_Need : List Int) (p0_3 : Value) (x0_commit_Index : Int) (x0_commit_Entry_Sess : Int) (x0_commit_Entry_Seq : Int) (x0_commit_Entry_Cmd_Kind : Int) (x0_commit_Entry_Cmd_Who : Int) (x0_commit_Entry_Cmd_Key : List UInt8) (p0_4 : Value) (x0_commit_Entry_Cmd_Val : List UInt8) (p0_5 : Value) (x0_commit_Entry_Cmd_Old : List UInt8) (p0_6 : Value) (x0_is : Bool) (r : Bool) (w0 w : World) (Z A : Mem) (hA : A.le Z) (hS : Sep w0 w [Mem.one g0 (.cells ([.int .i64 x0_n, .int .i64 x0_id, .int .i64 x0_v, p0_0, .int .i64 x0_come, .int .i64 x0_ready, .int .i64 x0_commit_Kind, .int .i64 x0_commit_From, .int .i64 x0_commit_To, .int .i64 x0_commit_View, .int .i64 x0_commit_Inst, .int .i64 x0_commit_Len, .bool x0_commit_Has, .int .i64 x0_commit_Members, .int .i64 x0_commit_Source, .int .i64 x0_commit_At, .int .i64 x0_commit_Total, p0_1, .int .i64 x0_commit_Hop, .int .i64 x0_commit_Seq, p0_2, p0_3, .int .i64 x0_commit_Index, .int .i64 x0_commit_Entry_Sess, .int .i64 x0_commit_Entry_Seq, .int .i64 x0_commit_Entry_Cmd_Kind, .int .i64 x0_commit_Entry_Cmd_Who, p0_4, p0_5, p0_6, .bool x0_is] : List Value).toArray 80 (0, 0))] Z) (hp0_0 : Rd k_api_Msg A p0_0 x0_l) (hp0_1 : Rd Kd.u8 A p0_1 x0_commit_Data) (hp0_2 : Rd (Kd.int .i64) A p0_2 x0_commit_Have) (hp0_3 : Rd (Kd.int .i64) A p0_3 x0_commit_Need) (hp0_4 : Rd Kd.u8 A p0_4 x0_commit_Entry_Cmd_Key) (hp0_5 : Rd Kd.u8 A p0_5 x0_commit_Entry_Cmd_Val) (hp0_6 : Rd Kd.u8 A p0_6 x0_commit_Entry_Cmd_Old)
    (H : gath_Gather_Done.f K x0_n x0_id x0_v x0_l x0_come x0_ready x0_commit_Kind x0_commit_From x0_commit_To x0_commit_View x0_commit_Inst x0_commit_Len x0_commit_Has x0_commit_Members x0_commit_Source x0_commit_At x0_commit_Total x0_commit_Data x0_commit_Hop x0_commit_Seq x0_commit_Have x0_commit_Need x0_commit_Index x0_commit_Entry_Sess x0_commit_Entry_Seq x0_commit_Entry_Cmd_Kind x0_commit_Entry_Cmd_Who x0_commit_Entry_Cmd_Key x0_commit_Entry_Cmd_Val x0_commit_Entry_Cmd_Old x0_is = some r) :
    Calls Try.prog 46 [.pointer (some ⟨g0, 0, none⟩)].toArray w (Ret fun v w' => ∃ (N : Mem), v = .bool r ∧ Sep w0 w' [N, Mem.one g0 (.cells ([.int .i64 x0_n, .int .i64 x0_id, .int .i64 x0_v, p0_0, .int .i64 x0_come, .int .i64 x0_ready, .int .i64 x0_commit_Kind, .int .i64 x0_commit_From, .int .i64 x0_commit_To, .int .i64 x0_commit_View, .int .i64 x0_commit_Inst, .int .i64 x0_commit_Len, .bool x0_commit_Has, .int .i64 x0_commit_Members, .int .i64 x0_commit_Source, .int .i64 x0_commit_At, .int .i64 x0_commit_Total, p0_1, .int .i64 x0_commit_Hop, .int .i64 x0_commit_Seq, p0_2, p0_3, .int .i64 x0_commit_Index, .int .i64 x0_commit_Entry_Sess, .int .i64 x0_commit_Entry_Seq, .int .i64 x0_commit_Entry_Cmd_Kind, .int .i64 x0_commit_Entry_Cmd_Who, p0_4, p0_5, p0_6, .bool x0_is] : List Value).toArray 80 (0, 0))] Z) := by
  unfold gath_Gather_Done.f at H
  refine f_enter _ Try.func46 rfl Try.ntmps46 rfl fun a hm => ?_
  replace hm : Fr 13 a [(0, .pointer (some ⟨g0, 0, none⟩))] := hm
  replace hS := hS.start
  replace hS : Sep w0 w [Mem.no, Mem.one g0 (.cells ([.int .i64 x0_n, .int .i64 x0_id, .int .i64 x0_v, p0_0, .int .i64 x0_come, .int .i64 x0_ready, .int .i64 x0_commit_Kind, .int .i64 x0_commit_From, .int .i64 x0_commit_To, .int .i64 x0_commit_View, .int .i64 x0_commit_Inst, .int .i64 x0_commit_Len, .bool x0_commit_Has, .int .i64 x0_commit_Members, .int .i64 x0_commit_Source, .int .i64 x0_commit_At, .int .i64 x0_commit_Total, p0_1, .int .i64 x0_commit_Hop, .int .i64 x0_commit_Seq, p0_2, p0_3, .int .i64 x0_commit_Index, .int .i64 x0_commit_Entry_Sess, .int .i64 x0_commit_Entry_Seq, .int .i64 x0_commit_Entry_Cmd_Kind, .int .i64 x0_commit_Entry_Cmd_Who, p0_4, p0_5, p0_6, .bool x0_is] : List Value).toArray 80 (0, 0))] Z := hS
  refine wp_seq ?_
  refine wp_region_lit ?_
  refine s_assign hm rfl rfl ?_
  clear hm a; intro a hm
  refine wpList_nil ?_
  replace hm : Fr 13 a [(0, .pointer (some ⟨g0, 0, none⟩)), (2, .bool false)] := hm.keep [0, 2]
  refine x_then_n ?_
  refine c_seq fun KJ_1 hKJ_1 => ?_
  refine wp_region_lit ?_
  refine s_move hm rfl rfl ?_
  clear hm a; intro a hm
  refine s_nilCheck hm rfl rfl ?_
  clear hm a; intro a hm
  refine s_fieldAddr hm rfl Try.underlying80 rfl ti4 rfl rfl ?_
  clear hm a; intro a hm
  refine s_load hm rfl rfl (hS.load_one (p := 1) rfl Try.underlying4 rfl rfl) ?_
  clear hm a; intro a hm
  refine s_move hm rfl rfl ?_
  clear hm a; intro a hm
  by_cases hc_2 : x0_is = true
  · rw [if_pos hc_2] at H
    refine s_on hm rfl rfl hc_2 ?_
    refine s_move hm rfl rfl ?_
    clear hm a; intro a hm
    refine s_on hm rfl rfl hc_2 ?_
    obtain ⟨t_3, et_3, H⟩ := Option.bind_eq_some_iff.1 H
    refine s_call hm rfl Try.call48 rfl (gath_Gather_Unready.calls K _ x0_n x0_id x0_v x0_l _ x0_come x0_ready x0_commit_Kind x0_commit_From x0_commit_To x0_commit_View x0_commit_Inst x0_commit_Len x0_commit_Has x0_commit_Members x0_commit_Source x0_commit_At x0_commit_Total x0_commit_Data _ x0_commit_Hop x0_commit_Seq x0_commit_Have _ x0_commit_Need _ x0_commit_Index x0_commit_Entry_Sess x0_commit_Entry_Seq x0_commit_Entry_Cmd_Kind x0_commit_Entry_Cmd_Who x0_commit_Entry_Cmd_Key _ x0_commit_Entry_Cmd_Val _ x0_commit_Entry_Cmd_Old _ x0_is t_3 w0 _ _ _ (Mem.le.refl _) (hS.enter [0] (by decide)) (hp0_0.mono (hA.trans (hS.le_zed [0]))) (hp0_1.mono (hA.trans (hS.le_zed [0]))) (hp0_2.mono (hA.trans (hS.le_zed [0]))) (hp0_3.mono (hA.trans (hS.le_zed [0]))) (hp0_4.mono (hA.trans (hS.le_zed [0]))) (hp0_5.mono (hA.trans (hS.le_zed [0]))) (hp0_6.mono (hA.trans (hS.le_zed [0]))) et_3) ?_
    rintro v_7 w_4 ⟨_, N_5, M_9, rfl, hS', hr_8⟩
    clear hm a; intro a hm
    obtain ⟨N_6, hS'', le_6, ln_6⟩ := hS.call [0] (by decide) rfl (l' := [Mem.one g0 (.cells ([.int .i64 x0_n, .int .i64 x0_id, .int .i64 x0_v, p0_0, .int .i64 x0_come, .int .i64 x0_ready, .int .i64 x0_commit_Kind, .int .i64 x0_commit_From, .int .i64 x0_commit_To, .int .i64 x0_commit_View, .int .i64 x0_commit_Inst, .int .i64 x0_commit_Len, .bool x0_commit_Has, .int .i64 x0_commit_Members, .int .i64 x0_commit_Source, .int .i64 x0_commit_At, .int .i64 x0_commit_Total, p0_1, .int .i64 x0_commit_Hop, .int .i64 x0_commit_Seq, p0_2, p0_3, .int .i64 x0_commit_Index, .int .i64 x0_commit_Entry_Sess, .int .i64 x0_commit_Entry_Seq, .int .i64 x0_commit_Entry_Cmd_Kind, .int .i64 x0_commit_Entry_Cmd_Who, p0_4, p0_5, p0_6, .bool x0_is] : List Value).toArray 80 (0, 0))]) (ow := [M_9]) rfl hS'
    replace hS : Sep w0 w_4 [N_6, Mem.one g0 (.cells ([.int .i64 x0_n, .int .i64 x0_id, .int .i64 x0_v, p0_0, .int .i64 x0_come, .int .i64 x0_ready, .int .i64 x0_commit_Kind, .int .i64 x0_commit_From, .int .i64 x0_commit_To, .int .i64 x0_commit_View, .int .i64 x0_commit_Inst, .int .i64 x0_commit_Len, .bool x0_commit_Has, .int .i64 x0_commit_Members, .int .i64 x0_commit_Source, .int .i64 x0_commit_At, .int .i64 x0_commit_Total, p0_1, .int .i64 x0_commit_Hop, .int .i64 x0_commit_Seq, p0_2, p0_3, .int .i64 x0_commit_Index, .int .i64 x0_commit_Entry_Sess, .int .i64 x0_commit_Entry_Seq, .int .i64 x0_commit_Entry_Cmd_Kind, .int .i64 x0_commit_Entry_Cmd_Who, p0_4, p0_5, p0_6, .bool x0_is] : List Value).toArray 80 (0, 0)), M_9] Z := hS''
    clear hS' hS''
    refine s_on hm rfl rfl hc_2 ?_
    refine s_lenO hm rfl Try.underlying23 rfl hr_8 ?_
    clear hm a; intro a hm
    refine s_on hm rfl rfl hc_2 ?_
    refine s_cmp (b := ((t_3.length : Int) == 0)) hm rfl rfl rfl (.inl ⟨rfl, rfl⟩) ?_
    clear hm a; intro a hm
    refine s_pick_t hm rfl rfl hc_2 rfl ?_
    clear hm a; intro a hm
    refine s_assign hm rfl rfl ?_
    clear hm a; intro a hm
    refine wpList_nil ?_
    replace hm : Fr 13 a [(2, .bool ((t_3.length : Int) == 0))] := hm.keep [2]
    refine x_then_n (hKJ_1 _ _ ?_)
    refine wp_ret ?_
    obtain rfl := Option.some.inj H
    exact f_ret hm (rs := [.tmp 2]) rfl (.tmp rfl .nil) ⟨_, rfl, N_6, rfl, (Sep.sel hS [0, 1] (by decide))⟩
  · rw [if_neg hc_2] at H
    refine s_off hm rfl rfl rfl (Bool.eq_false_iff.2 hc_2) ?_
    clear hm a; intro a hm
    refine s_off hm rfl rfl rfl (Bool.eq_false_iff.2 hc_2) ?_
    clear hm a; intro a hm
    refine s_off hm rfl rfl rfl (Bool.eq_false_iff.2 hc_2) ?_
    clear hm a; intro a hm
    refine s_off hm rfl rfl rfl (Bool.eq_false_iff.2 hc_2) ?_
    clear hm a; intro a hm
    refine s_pick_f hm rfl rfl (Bool.eq_false_iff.2 hc_2) rfl ?_
    clear hm a; intro a hm
    refine s_assign hm rfl rfl ?_
    clear hm a; intro a hm
    refine wpList_nil ?_
    replace hm : Fr 13 a [(2, .bool false)] := hm.keep [2]
    refine x_then_n (hKJ_1 _ _ ?_)
    refine wp_ret ?_
    obtain rfl := Option.some.inj H
    exact f_ret hm (rs := [.tmp 2]) rfl (.tmp rfl .nil) ⟨_, rfl, Mem.no, rfl, (Sep.sel hS [0, 1] (by decide))⟩

set_option maxHeartbeats 4000000 in
set_option maxRecDepth 20000 in
theorem gath_Gather_Ready.calls (K : Nat) (g0 : Nat) (x0_n : Int) (x0_id : Int) (x0_v : Int) (x0_l : List api_Msg) (p0_0 : Value) (M0_0 : Mem) (x0_come : Int) (x0_ready : Int) (x0_commit_Kind : Int) (x0_commit_From : Int) (x0_commit_To : Int) (x0_commit_View : Int) (x0_commit_Inst : Int) (x0_commit_Len : Int) (x0_commit_Has : Bool) (x0_commit_Members : Int) (x0_commit_Source : Int) (x0_commit_At : Int) (x0_commit_Total : Int) (x0_commit_Data : List UInt8) (p0_1 : Value) (x0_commit_Hop : Int) (x0_commit_Seq : Int) (x0_commit_Have : List Int) (p0_2 : Value) (x0_commit_Need : List Int) (p0_3 : Value) (x0_commit_Index : Int) (x0_commit_Entry_Sess : Int) (x0_commit_Entry_Seq : Int) (x0_commit_Entry_Cmd_Kind : Int) (x0_commit_Entry_Cmd_Who : Int) (x0_commit_Entry_Cmd_Key : List UInt8) (p0_4 : Value) (x0_commit_Entry_Cmd_Val : List UInt8) (p0_5 : Value) (x0_commit_Entry_Cmd_Old : List UInt8) (p0_6 : Value) (x0_is : Bool) (x1 : Int) (r : Bool × Int × Int × Int × (List api_Msg) × Int × Int × Int × Int × Int × Int × Int × Int × Bool × Int × Int × Int × Int × (List UInt8) × Int × Int × (List Int) × (List Int) × Int × Int × Int × Int × Int × (List UInt8) × (List UInt8) × (List UInt8) × Bool) (w0 w : World) (Z A : Mem) (hA : A.le Z) (hS : Sep w0 w [Mem.one g0 (.cells ([.int .i64 x0_n, .int .i64 x0_id, .int .i64 x0_v, p0_0, .int .i64 x0_come, .int .i64 x0_ready, .int .i64 x0_commit_Kind, .int .i64 x0_commit_From, .int .i64 x0_commit_To, .int .i64 x0_commit_View, .int .i64 x0_commit_Inst, .int .i64 x0_commit_Len, .bool x0_commit_Has, .int .i64 x0_commit_Members, .int .i64 x0_commit_Source, .int .i64 x0_commit_At, .int .i64 x0_commit_Total, p0_1, .int .i64 x0_commit_Hop, .int .i64 x0_commit_Seq, p0_2, p0_3, .int .i64 x0_commit_Index, .int .i64 x0_commit_Entry_Sess, .int .i64 x0_commit_Entry_Seq, .int .i64 x0_commit_Entry_Cmd_Kind, .int .i64 x0_commit_Entry_Cmd_Who, p0_4, p0_5, p0_6, .bool x0_is] : List Value).toArray 80 (0, 0)), M0_0] Z) (hp0_0 : Own k_api_Msg 29 M0_0 A p0_0 x0_l) (hp0_1 : Rd Kd.u8 A p0_1 x0_commit_Data) (hp0_2 : Rd (Kd.int .i64) A p0_2 x0_commit_Have) (hp0_3 : Rd (Kd.int .i64) A p0_3 x0_commit_Need) (hp0_4 : Rd Kd.u8 A p0_4 x0_commit_Entry_Cmd_Key) (hp0_5 : Rd Kd.u8 A p0_5 x0_commit_Entry_Cmd_Val) (hp0_6 : Rd Kd.u8 A p0_6 x0_commit_Entry_Cmd_Old)
    (H : gath_Gather_Ready.f K x0_n x0_id x0_v x0_l x0_come x0_ready x0_commit_Kind x0_commit_From x0_commit_To x0_commit_View x0_commit_Inst x0_commit_Len x0_commit_Has x0_commit_Members x0_commit_Source x0_commit_At x0_commit_Total x0_commit_Data x0_commit_Hop x0_commit_Seq x0_commit_Have x0_commit_Need x0_commit_Index x0_commit_Entry_Sess x0_commit_Entry_Seq x0_commit_Entry_Cmd_Kind x0_commit_Entry_Cmd_Who x0_commit_Entry_Cmd_Key x0_commit_Entry_Cmd_Val x0_commit_Entry_Cmd_Old x0_is x1 = some r) :
    Calls Try.prog 47 [.pointer (some ⟨g0, 0, none⟩), .int .i64 x1].toArray w (Ret fun v w' => ∃ (u0 : Value) (u1 : Value) (u2 : Value) (u3 : Value) (u4 : Value) (u5 : Value) (u6 : Value) (N : Mem) (M100 : Mem), v = .bool r.1 ∧ Sep w0 w' [N, Mem.one g0 (.cells ([.int .i64 r.2.1, .int .i64 r.2.2.1, .int .i64 r.2.2.2.1, u0, .int .i64 r.2.2.2.2.2.1, .int .i64 r.2.2.2.2.2.2.1, .int .i64 r.2.2.2.2.2.2.2.1, .int .i64 r.2.2.2.2.2.2.2.2.1, .int .i64 r.2.2.2.2.2.2.2.2.2.1, .int .i64 r.2.2.2.2.2.2.2.2.2.2.1, .int .i64 r.2.2.2.2.2.2.2.2.2.2.2.1, .int .i64 r.2.2.2.2.2.2.2.2.2.2.2.2.1, .bool r.2.2.2.2.2.2.2.2.2.2.2.2.2.1, .int .i64 r.2.2.2.2.2.2.2.2.2.2.2.2.2.2.1, .int .i64 r.2.2.2.2.2.2.2.2.2.2.2.2.2.2.2.1, .int .i64 r.2.2.2.2.2.2.2.2.2.2.2.2.2.2.2.2.1, .int .i64 r.2.2.2.2.2.2.2.2.2.2.2.2.2.2.2.2.2.1, u1, .int .i64 r.2.2.2.2.2.2.2.2.2.2.2.2.2.2.2.2.2.2.2.1, .int .i64 r.2.2.2.2.2.2.2.2.2.2.2.2.2.2.2.2.2.2.2.2.1, u2, u3, .int .i64 r.2.2.2.2.2.2.2.2.2.2.2.2.2.2.2.2.2.2.2.2.2.2.2.1, .int .i64 r.2.2.2.2.2.2.2.2.2.2.2.2.2.2.2.2.2.2.2.2.2.2.2.2.1, .int .i64 r.2.2.2.2.2.2.2.2.2.2.2.2.2.2.2.2.2.2.2.2.2.2.2.2.2.1, .int .i64 r.2.2.2.2.2.2.2.2.2.2.2.2.2.2.2.2.2.2.2.2.2.2.2.2.2.2.1, .int .i64 r.2.2.2.2.2.2.2.2.2.2.2.2.2.2.2.2.2.2.2.2.2.2.2.2.2.2.2.1, u4, u5, u6, .bool r.2.2.2.2.2.2.2.2.2.2.2.2.2.2.2.2.2.2.2.2.2.2.2.2.2.2.2.2.2.2.2] : List Value).toArray 80 (0, 0)), M100] Z ∧ Own k_api_Msg 29 M100 (A.un N) u0 r.2.2.2.2.1 ∧ Rd Kd.u8 (A.un N) u1 r.2.2.2.2.2.2.2.2.2.2.2.2.2.2.2.2.2.2.1 ∧ Rd (Kd.int .i64) (A.un N) u2 r.2.2.2.2.2.2.2.2.2.2.2.2.2.2.2.2.2.2.2.2.2.1 ∧ Rd (Kd.int .i64) (A.un N) u3 r.2.2.2.2.2.2.2.2.2.2.2.2.2.2.2.2.2.2.2.2.2.2.1 ∧ Rd Kd.u8 (A.un N) u4 r.2.2.2.2.2.2.2.2.2.2.2.2.2.2.2.2.2.2.2.2.2.2.2.2.2.2.2.2.1 ∧ Rd Kd.u8 (A.un N) u5 r.2.2.2.2.2.2.2.2.2.2.2.2.2.2.2.2.2.2.2.2.2.2.2.2.2.2.2.2.2.1 ∧ Rd Kd.u8 (A.un N) u6 r.2.2.2.2.2.2.2.2.2.2.2.2.2.2.2.2.2.2.2.2.2.2.2.2.2.2.2.2.2.2.1) := by
  unfold gath_Gather_Ready.f at H
  refine f_enter _ Try.func47 rfl Try.ntmps47 rfl fun a hm => ?_
  replace hm : Fr 26 a [(0, .pointer (some ⟨g0, 0, none⟩)), (1, .int .i64 x1)] := hm
  replace hS := hS.start
  replace hS : Sep w0 w [Mem.no, Mem.one g0 (.cells ([.int .i64 x0_n, .int .i64 x0_id, .int .i64 x0_v, p0_0, .int .i64 x0_come, .int .i64 x0_ready, .int .i64 x0_commit_Kind, .int .i64 x0_commit_From, .int .i64 x0_commit_To, .int .i64 x0_commit_View, .int .i64 x0_commit_Inst, .int .i64 x0_commit_Len, .bool x0_commit_Has, .int .i64 x0_commit_Members, .int .i64 x0_commit_Source, .int .i64 x0_commit_At, .int .i64 x0_commit_Total, p0_1, .int .i64 x0_commit_Hop, .int .i64 x0_commit_Seq, p0_2, p0_3, .int .i64 x0_commit_Index, .int .i64 x0_commit_Entry_Sess, .int .i64 x0_commit_Entry_Seq, .int .i64 x0_commit_Entry_Cmd_Kind, .int .i64 x0_commit_Entry_Cmd_Who, p0_4, p0_5, p0_6, .bool x0_is] : List Value).toArray 80 (0, 0)), M0_0] Z := hS
  refine wp_seq ?_
  refine wp_region_lit ?_
  refine s_assign hm rfl rfl ?_
  clear hm a; intro a hm
  refine wpList_nil ?_
  replace hm : Fr 26 a [(0, .pointer (some ⟨g0, 0, none⟩)), (1, .int .i64 x1), (4, .bool false)] := hm.keep [0, 1, 4]
  refine x_then_n ?_
  refine c_seq fun KJ_1 hKJ_1 => ?_
  refine c_seq fun KJ_2 hKJ_2 => ?_
  have hJ_j_6 : ∀ (x_4 : Bool), gath_Gather_Ready.J1 K x0_n x0_id x0_v x0_l x0_come x0_ready x0_commit_Kind x0_commit_From x0_commit_To x0_commit_View x0_commit_Inst x0_commit_Len x0_commit_Has x0_commit_Members x0_commit_Source x0_commit_At x0_commit_Total x0_commit_Data x0_commit_Hop x0_commit_Seq x0_commit_Have x0_commit_Need x0_commit_Index x0_commit_Entry_Sess x0_commit_Entry_Seq x0_commit_Entry_Cmd_Kind x0_commit_Entry_Cmd_Who x0_commit_Entry_Cmd_Key x0_commit_Entry_Cmd_Val x0_commit_Entry_Cmd_Old x0_is x1 x_4 = some r → ∀ (a : Act) (w_5 : World), (∃ (N_3 : Mem), Fr 26 a [(0, .pointer (some ⟨g0, 0, none⟩)), (1, .int .i64 x1), (4, .bool false), (16, .bool x_4)] ∧ Sep w0 w_5 [N_3, Mem.one g0 (.cells ([.int .i64 x0_n, .int .i64 x0_id, .int .i64 x0_v, p0_0, .int .i64 x0_come, .int .i64 x0_ready, .int .i64 x0_commit_Kind, .int .i64 x0_commit_From, .int .i64 x0_commit_To, .int .i64 x0_commit_View, .int .i64 x0_commit_Inst, .int .i64 x0_commit_Len, .bool x0_commit_Has, .int .i64 x0_commit_Members, .int .i64 x0_commit_Source, .int .i64 x0_commit_At, .int .i64 x0_commit_Total, p0_1, .int .i64 x0_commit_Hop, .int .i64 x0_commit_Seq, p0_2, p0_3, .int .i64 x0_commit_Index, .int .i64 x0_commit_Entry_Sess, .int .i64 x0_commit_Entry_Seq, .int .i64 x0_commit_Entry_Cmd_Kind, .int .i64 x0_commit_Entry_Cmd_Who, p0_4, p0_5, p0_6, .bool x0_is] : List Value).toArray 80 (0, 0)), M0_0] Z ∧ Mem.no.le N_3) → KJ_2 a w_5 := by
    clear H hm hS a
    rintro x_4 H a w_5 ⟨N_3, hm, hS, le_3⟩
    unfold gath_Gather_Ready.J1 at H
    refine hKJ_2 _ _ ?_
    by_cases hc_7 : x_4 = true
    · rw [if_pos hc_7] at H
      refine c_cond_t hm rfl hc_7 ?_
      refine wp_seq ?_
      refine wp_region_lit ?_
      refine s_assign hm rfl rfl ?_
      clear hm a; intro a hm
      refine wpList_nil ?_
      replace hm : Fr 26 a [(0, .pointer (some ⟨g0, 0, none⟩)), (1, .int .i64 x1), (4, .bool false)] := hm.keep [0, 1, 4]
      refine x_then_n ?_
      refine wp_ret (x_then_r ?_)
      obtain rfl := Option.some.inj H
      exact f_ret hm (rs := [.tmp 4]) rfl (.tmp rfl .nil) ⟨_, rfl, p0_0, p0_1, p0_2, p0_3, p0_4, p0_5, p0_6, N_3, M0_0, rfl, (Sep.sel hS [0, 1, 2] (by decide)), (hp0_0.mono (Mem.le_un _ _)), (hp0_1.mono (Mem.le_un _ _)), (hp0_2.mono (Mem.le_un _ _)), (hp0_3.mono (Mem.le_un _ _)), (hp0_4.mono (Mem.le_un _ _)), (hp0_5.mono (Mem.le_un _ _)), (hp0_6.mono (Mem.le_un _ _))⟩
    · rw [if_neg hc_7] at H
      refine c_cond_f hm rfl (Bool.eq_false_iff.2 hc_7) ?_
      refine wp_skip ?_
      refine x_then_n (hKJ_1 _ _ ?_)
      refine c_seq fun KJ_8 hKJ_8 => ?_
      refine h_begin (S := fun w => Sep w0 w [N_3, Mem.no, M0_0] Z) 10 (by kernel_rfl) rfl [false, false, false, false, false, false, false, false, false, false].toArray rfl hS fun w_9 hS => ?_
      replace hS : Sep w0 w_9 [N_3, Mem.one g0 (.cells ([.int .i64 x0_n, .int .i64 x0_id, .int .i64 x0_v, p0_0, .int .i64 x0_come, .int .i64 x0_ready, .int .i64 x0_commit_Kind, .int .i64 x0_commit_From, .int .i64 x0_commit_To, .int .i64 x0_commit_View, .int .i64 x0_commit_Inst, .int .i64 x0_commit_Len, .bool x0_commit_Has, .int .i64 x0_commit_Members, .int .i64 x0_commit_Source, .int .i64 x0_commit_At, .int .i64 x0_commit_Total, p0_1, .int .i64 x0_commit_Hop, .int .i64 x0_commit_Seq, p0_2, p0_3, .int .i64 x0_commit_Index, .int .i64 x0_commit_Entry_Sess, .int .i64 x0_commit_Entry_Seq, .int .i64 x0_commit_Entry_Cmd_Kind, .int .i64 x0_commit_Entry_Cmd_Who, p0_4, p0_5, p0_6, .bool x0_is] : List Value).toArray 80 (0, 0)), M0_0] Z := hS
      refine h_take 0 [true, false, false, false, false, false, false, false, false, false].toArray rfl (by kernel_rfl) (by kernel_rfl) (by kernel_rfl) (fun _ _ _ _ h => h) rfl rfl rfl rfl hm (hS.sub (.cons (Mem.le.refl _) (.cons (Mem.no_le _) (.cons (Mem.le.refl _) (Sub.nil _))))) (v := .pointer (some ⟨g0, 0, none⟩)) (fun w hS => r_move hm rfl) ?_
      clear hm a; intro a hm
      refine h_take 1 [true, true, false, false, false, false, false, false, false, false].toArray rfl (by kernel_rfl) (by kernel_rfl) (by kernel_rfl) (fun _ _ _ _ h => h) rfl rfl rfl rfl hm (hS.sub (.cons (Mem.le.refl _) (.cons (Mem.no_le _) (.cons (Mem.le.refl _) (Sub.nil _))))) (v := .pointer (some ⟨g0, 0, none⟩)) (fun w hS => r_nilCheck hm rfl) ?_
      clear hm a; intro a hm
      refine h_take 2 [true, true, true, false, false, false, false, false, false, false].toArray rfl (by kernel_rfl) (by kernel_rfl) (by kernel_rfl) (fun _ _ _ _ h => h) rfl rfl rfl rfl hm (hS.sub (.cons (Mem.le.refl _) (.cons (Mem.no_le _) (.cons (Mem.le.refl _) (Sub.nil _))))) (v := .pointer (some ⟨g0, 5, none⟩)) (fun w hS => r_fieldAddr hm Try.underlying80 rfl ti3 rfl rfl rfl) ?_
      clear hm a; intro a hm
      refine h_take 4 [true, true, true, false, true, false, false, false, false, false].toArray rfl (by kernel_rfl) (by kernel_rfl) (by kernel_rfl) (fun _ _ _ _ h => h) rfl rfl rfl rfl hm (hS.sub (.cons (Mem.le.refl _) (.cons (Mem.no_le _) (.cons (Mem.le.refl _) (Sub.nil _))))) (v := .int .i64 x1) (fun w hS => r_move hm rfl) ?_
      clear hm a; intro a hm
      obtain ⟨u_10, eu_10, H⟩ := Option.bind_eq_some_iff.1 H
      refine h_take 5 [true, true, true, false, true, true, false, false, false, false].toArray rfl (by kernel_rfl) (by kernel_rfl) (by kernel_rfl) (fun _ _ _ _ h => h) rfl rfl rfl rfl hm (hS.sub (.cons (Mem.le.refl _) (.cons (Mem.no_le _) (.cons (Mem.le.refl _) (Sub.nil _))))) (v := .int .i64 (shl .i64 1 x1)) (fun w hS => r_shift (r := shl .i64 1 x1) hm rfl rfl (must_some eu_10) (.inl ⟨rfl, rfl⟩)) ?_
      clear hm a; intro a hm
      refine h_event 3 [true, true, true, true, true, true, false, false, false, false].toArray rfl (by kernel_rfl) rfl ?_
      refine s_load hm rfl rfl (hS.load_one (p := 1) rfl Try.underlying3 rfl rfl) ?_
      clear hm a; intro a hm
      refine wpList_nil ?_
      refine x_then_n ⟨(hS.sub (.cons (Mem.le.refl _) (.cons (Mem.no_le _) (.cons (Mem.le.refl _) (Sub.nil _))))), ?_⟩
      refine h_take 6 [true, true, true, true, true, true, true, false, false, false].toArray rfl (by kernel_rfl) (by kernel_rfl) (by kernel_rfl) (fun _ _ _ _ h => h) rfl rfl rfl rfl hm (hS.sub (.cons (Mem.le.refl _) (.cons (Mem.no_le _) (.cons (Mem.le.refl _) (Sub.nil _))))) (v := .int .i64 (bor .i64 x0_ready (shl .i64 1 x1))) (fun w hS => r_bits (i := x0_ready) (j := shl .i64 1 x1) (r := bor .i64 x0_ready (shl .i64 1 x1)) hm rfl rfl (.inr (.inl ⟨rfl, rfl⟩))) ?_
      clear hm a; intro a hm
      refine h_take 7 [true, true, true, true, true, true, true, true, false, false].toArray rfl (by kernel_rfl) (by kernel_rfl) (by kernel_rfl) (fun _ _ _ _ h => h) rfl rfl rfl rfl hm (hS.sub (.cons (Mem.le.refl _) (.cons (Mem.no_le _) (.cons (Mem.le.refl _) (Sub.nil _))))) (v := .pointer (some ⟨g0, 0, none⟩)) (fun w hS => r_nilCheck hm rfl) ?_
      clear hm a; intro a hm
      refine h_take 8 [true, true, true, true, true, true, true, true, true, false].toArray rfl (by kernel_rfl) (by kernel_rfl) (by kernel_rfl) (fun _ _ _ _ h => h) rfl rfl rfl rfl hm (hS.sub (.cons (Mem.le.refl _) (.cons (Mem.no_le _) (.cons (Mem.le.refl _) (Sub.nil _))))) (v := .pointer (some ⟨g0, 5, none⟩)) (fun w hS => r_fieldAddr hm Try.underlying80 rfl ti3 rfl rfl rfl) ?_
      clear hm a; intro a hm
      refine h_event 9 [true, true, true, true, true, true, true, true, true, true].toArray rfl (by kernel_rfl) rfl ?_
      obtain ⟨w_11, hs', hS'⟩ := hS.store (P := Try.prog) (p := 1) (o := 5) (t := 3) (v := .int .i64 (bor .i64 x0_ready (shl .i64 1 x1))) (vs := [.int .i64 (bor .i64 x0_ready (shl .i64 1 x1))]) rfl ti3 rfl rfl rfl (by intro u hu; simp only [List.mem_cons, List.not_mem_nil, or_false] at hu; rcases hu with rfl <;> rfl)
      refine s_store hm rfl rfl hs' ?_
      replace hS : Sep w0 w_11 [N_3, Mem.one g0 (.cells ([.int .i64 x0_n, .int .i64 x0_id, .int .i64 x0_v, p0_0, .int .i64 x0_come, .int .i64 (bor .i64 x0_ready (shl .i64 1 x1)), .int .i64 x0_commit_Kind, .int .i64 x0_commit_From, .int .i64 x0_commit_To, .int .i64 x0_commit_View, .int .i64 x0_commit_Inst, .int .i64 x0_commit_Len, .bool x0_commit_Has, .int .i64 x0_commit_Members, .int .i64 x0_commit_Source, .int .i64 x0_commit_At, .int .i64 x0_commit_Total, p0_1, .int .i64 x0_commit_Hop, .int .i64 x0_commit_Seq, p0_2, p0_3, .int .i64 x0_commit_Index, .int .i64 x0_commit_Entry_Sess, .int .i64 x0_commit_Entry_Seq, .int .i64 x0_commit_Entry_Cmd_Kind, .int .i64 x0_commit_Entry_Cmd_Who, p0_4, p0_5, p0_6, .bool x0_is] : List Value).toArray 80 (0, 0)), M0_0] Z := hS'
      clear hs' hS'
      refine wpList_nil ?_
      refine x_then_n ⟨(hS.sub (.cons (Mem.le.refl _) (.cons (Mem.no_le _) (.cons (Mem.le.refl _) (Sub.nil _))))), ?_⟩
      refine h_done (by kernel_rfl) ?_
      replace hm : Fr 26 a [(4, .bool false)] := hm.keep [4]
      refine x_then_n (hKJ_8 _ _ ?_)
      refine wp_seq ?_
      refine wp_region_lit ?_
      refine s_assign hm rfl rfl ?_
      clear hm a; intro a hm
      refine wpList_nil ?_
      replace hm : Fr 26 a [(4, .bool true)] := hm.keep [4]
      refine x_then_n ?_
      refine wp_ret ?_
      obtain rfl := Option.some.inj H
      exact f_ret hm (rs := [.tmp 4]) rfl (.tmp rfl .nil) ⟨_, rfl, p0_0, p0_1, p0_2, p0_3, p0_4, p0_5, p0_6, N_3, M0_0, rfl, (Sep.sel hS [0, 1, 2] (by decide)), (hp0_0.mono (Mem.le_un _ _)), (hp0_1.mono (Mem.le_un _ _)), (hp0_2.mono (Mem.le_un _ _)), (hp0_3.mono (Mem.le_un _ _)), (hp0_4.mono (Mem.le_un _ _)), (hp0_5.mono (Mem.le_un _ _)), (hp0_6.mono (Mem.le_un _ _))⟩
  clear hKJ_2
  refine wp_region_lit ?_
  refine s_move hm rfl rfl ?_
  clear hm a; intro a hm
  refine s_nilCheck hm rfl rfl ?_
  clear hm a; intro a hm
  refine s_fieldAddr hm rfl Try.underlying80 rfl ti4 rfl rfl ?_
  clear hm a; intro a hm
  refine s_load hm rfl rfl (hS.load_one (p := 1) rfl Try.underlying4 rfl rfl) ?_
  clear hm a; intro a hm
  refine s_not hm rfl rfl ?_
  clear hm a; intro a hm
  refine s_move hm rfl rfl ?_
  clear hm a; intro a hm
  by_cases hc_12 : x0_is = true
  · rw [if_pos hc_12] at H
    refine s_on hm rfl rfl (nf hc_12) ?_
    refine s_move hm rfl rfl ?_
    clear hm a; intro a hm
    refine s_on hm rfl rfl (nf hc_12) ?_
    obtain ⟨t_13, et_13, H⟩ := Option.bind_eq_some_iff.1 H
    refine s_call hm rfl Try.call48 rfl (gath_Gather_Unready.calls K _ x0_n x0_id x0_v x0_l _ x0_come x0_ready x0_commit_Kind x0_commit_From x0_commit_To x0_commit_View x0_commit_Inst x0_commit_Len x0_commit_Has x0_commit_Members x0_commit_Source x0_commit_At x0_commit_Total x0_commit_Data _ x0_commit_Hop x0_commit_Seq x0_commit_Have _ x0_commit_Need _ x0_commit_Index x0_commit_Entry_Sess x0_commit_Entry_Seq x0_commit_Entry_Cmd_Kind x0_commit_Entry_Cmd_Who x0_commit_Entry_Cmd_Key _ x0_commit_Entry_Cmd_Val _ x0_commit_Entry_Cmd_Old _ x0_is t_13 w0 _ _ _ (Mem.le.refl _) (hS.enter [0] (by decide)) (hp0_0.rd (hS.own_zed [0] 1 (by decide)) (hA.trans (hS.le_zed [0]))) (hp0_1.mono (hA.trans (hS.le_zed [0]))) (hp0_2.mono (hA.trans (hS.le_zed [0]))) (hp0_3.mono (hA.trans (hS.le_zed [0]))) (hp0_4.mono (hA.trans (hS.le_zed [0]))) (hp0_5.mono (hA.trans (hS.le_zed [0]))) (hp0_6.mono (hA.trans (hS.le_zed [0]))) et_13) ?_
    rintro v_17 w_14 ⟨_, N_15, M_19, rfl, hS', hr_18⟩
    clear hm a; intro a hm
    obtain ⟨N_16, hS'', le_16, ln_16⟩ := hS.call [0] (by decide) rfl (l' := [Mem.one g0 (.cells ([.int .i64 x0_n, .int .i64 x0_id, .int .i64 x0_v, p0_0, .int .i64 x0_come, .int .i64 x0_ready, .int .i64 x0_commit_Kind, .int .i64 x0_commit_From, .int .i64 x0_commit_To, .int .i64 x0_commit_View, .int .i64 x0_commit_Inst, .int .i64 x0_commit_Len, .bool x0_commit_Has, .int .i64 x0_commit_Members, .int .i64 x0_commit_Source, .int .i64 x0_commit_At, .int .i64 x0_commit_Total, p0_1, .int .i64 x0_commit_Hop, .int .i64 x0_commit_Seq, p0_2, p0_3, .int .i64 x0_commit_Index, .int .i64 x0_commit_Entry_Sess, .int .i64 x0_commit_Entry_Seq, .int .i64 x0_commit_Entry_Cmd_Kind, .int .i64 x0_commit_Entry_Cmd_Who, p0_4, p0_5, p0_6, .bool x0_is] : List Value).toArray 80 (0, 0))]) (ow := [M_19]) rfl hS'
    replace hS : Sep w0 w_14 [N_16, Mem.one g0 (.cells ([.int .i64 x0_n, .int .i64 x0_id, .int .i64 x0_v, p0_0, .int .i64 x0_come, .int .i64 x0_ready, .int .i64 x0_commit_Kind, .int .i64 x0_commit_From, .int .i64 x0_commit_To, .int .i64 x0_commit_View, .int .i64 x0_commit_Inst, .int .i64 x0_commit_Len, .bool x0_commit_Has, .int .i64 x0_commit_Members, .int .i64 x0_commit_Source, .int .i64 x0_commit_At, .int .i64 x0_commit_Total, p0_1, .int .i64 x0_commit_Hop, .int .i64 x0_commit_Seq, p0_2, p0_3, .int .i64 x0_commit_Index, .int .i64 x0_commit_Entry_Sess, .int .i64 x0_commit_Entry_Seq, .int .i64 x0_commit_Entry_Cmd_Kind, .int .i64 x0_commit_Entry_Cmd_Who, p0_4, p0_5, p0_6, .bool x0_is] : List Value).toArray 80 (0, 0)), M0_0, M_19] Z := hS''
    clear hS' hS''
    refine s_on hm rfl rfl (nf hc_12) ?_
    refine s_move hm rfl rfl ?_
    clear hm a; intro a hm
    refine s_on hm rfl rfl (nf hc_12) ?_
    obtain ⟨t_21, et_21, H⟩ := Option.bind_eq_some_iff.1 H
    refine s_call hm rfl Try.call63 rfl (slices_Contains_sint_int.calls K t_13 _ x1 t_21 w0 _ _ _ (Mem.le.refl _) (hS.enter [] (by decide)) (hr_18.rd (hS.own_zed [] 2 (by decide)) (Mem.no_le _)) et_21) ?_
    rintro _ w_22 ⟨N_23, rfl, hS'⟩
    clear hm a; intro a hm
    obtain ⟨N_24, hS'', le_24, ln_24⟩ := hS.call [] (by decide) rfl (l' := []) (ow := []) rfl hS'
    replace hS : Sep w0 w_22 [N_24, Mem.one g0 (.cells ([.int .i64 x0_n, .int .i64 x0_id, .int .i64 x0_v, p0_0, .int .i64 x0_come, .int .i64 x0_ready, .int .i64 x0_commit_Kind, .int .i64 x0_commit_From, .int .i64 x0_commit_To, .int .i64 x0_commit_View, .int .i64 x0_commit_Inst, .int .i64 x0_commit_Len, .bool x0_commit_Has, .int .i64 x0_commit_Members, .int .i64 x0_commit_Source, .int .i64 x0_commit_At, .int .i64 x0_commit_Total, p0_1, .int .i64 x0_commit_Hop, .int .i64 x0_commit_Seq, p0_2, p0_3, .int .i64 x0_commit_Index, .int .i64 x0_commit_Entry_Sess, .int .i64 x0_commit_Entry_Seq, .int .i64 x0_commit_Entry_Cmd_Kind, .int .i64 x0_commit_Entry_Cmd_Who, p0_4, p0_5, p0_6, .bool x0_is] : List Value).toArray 80 (0, 0)), M0_0, M_19] Z := hS''
    clear hS' hS''
    refine s_on hm rfl rfl (nf hc_12) ?_
    refine s_not hm rfl rfl ?_
    clear hm a; intro a hm
    refine s_pick_f hm rfl rfl (nf hc_12) rfl ?_
    clear hm a; intro a hm
    refine wpList_nil ?_
    replace hm : Fr 26 a [(0, .pointer (some ⟨g0, 0, none⟩)), (1, .int .i64 x1), (4, .bool false), (16, .bool (!t_21))] := hm.keep [0, 1, 4, 16]
    replace hS : Sep w0 w_22 [N_24, Mem.one g0 (.cells ([.int .i64 x0_n, .int .i64 x0_id, .int .i64 x0_v, p0_0, .int .i64 x0_come, .int .i64 x0_ready, .int .i64 x0_commit_Kind, .int .i64 x0_commit_From, .int .i64 x0_commit_To, .int .i64 x0_commit_View, .int .i64 x0_commit_Inst, .int .i64 x0_commit_Len, .bool x0_commit_Has, .int .i64 x0_commit_Members, .int .i64 x0_commit_Source, .int .i64 x0_commit_At, .int .i64 x0_commit_Total, p0_1, .int .i64 x0_commit_Hop, .int .i64 x0_commit_Seq, p0_2, p0_3, .int .i64 x0_commit_Index, .int .i64 x0_commit_Entry_Sess, .int .i64 x0_commit_Entry_Seq, .int .i64 x0_commit_Entry_Cmd_Kind, .int .i64 x0_commit_Entry_Cmd_Who, p0_4, p0_5, p0_6, .bool x0_is] : List Value).toArray 80 (0, 0)), M0_0, M_19] Z := hS
    replace hm : Fr 26 a [(0, .pointer (some ⟨g0, 0, none⟩)), (1, .int .i64 x1), (4, .bool false), (16, .bool (!t_21))] := hm.keep [0, 1, 4, 16]
    exact x_then_n (hJ_j_6 (!t_21) H _ _ ⟨N_24, hm, (Sep.sel hS [0, 1, 2] (by decide)), (le_16.trans le_24)⟩)
  · rw [if_neg hc_12] at H
    refine s_off hm rfl rfl rfl (nt (Bool.eq_false_iff.2 hc_12)) ?_
    clear hm a; intro a hm
    refine s_off hm rfl rfl rfl (nt (Bool.eq_false_iff.2 hc_12)) ?_
    clear hm a; intro a hm
    refine s_off hm rfl rfl rfl (nt (Bool.eq_false_iff.2 hc_12)) ?_
    clear hm a; intro a hm
    refine s_off hm rfl rfl rfl (nt (Bool.eq_false_iff.2 hc_12)) ?_
    clear hm a; intro a hm
    refine s_off hm rfl rfl rfl (nt (Bool.eq_false_iff.2 hc_12)) ?_
    clear hm a; intro a hm
    refine s_pick_t hm rfl rfl (nt (Bool.eq_false_iff.2 hc_12)) rfl ?_
    clear hm a; intro a hm
    refine wpList_nil ?_
    replace hm : Fr 26 a [(0, .pointer (some ⟨g0, 0, none⟩)), (1, .int .i64 x1), (4, .bool false), (16, .bool true)] := hm.keep [0, 1, 4, 16]
    replace hS : Sep w0 w [Mem.no, Mem.one g0 (.cells ([.int .i64 x0_n, .int .i64 x0_id, .int .i64 x0_v, p0_0, .int .i64 x0_come, .int .i64 x0_ready, .int .i64 x0_commit_Kind, .int .i64 x0_commit_From, .int .i64 x0_commit_To, .int .i64 x0_commit_View, .int .i64 x0_commit_Inst, .int .i64 x0_commit_Len, .bool x0_commit_Has, .int .i64 x0_commit_Members, .int .i64 x0_commit_Source, .int .i64 x0_commit_At, .int .i64 x0_commit_Total, p0_1, .int .i64 x0_commit_Hop, .int .i64 x0_commit_Seq, p0_2, p0_3, .int .i64 x0_commit_Index, .int .i64 x0_commit_Entry_Sess, .int .i64 x0_commit_Entry_Seq, .int .i64 x0_commit_Entry_Cmd_Kind, .int .i64 x0_commit_Entry_Cmd_Who, p0_4, p0_5, p0_6, .bool x0_is] : List Value).toArray 80 (0, 0)), M0_0] Z := hS
    replace hm : Fr 26 a [(0, .pointer (some ⟨g0, 0, none⟩)), (1, .int .i64 x1), (4, .bool false), (16, .bool true)] := hm.keep [0, 1, 4, 16]
    exact x_then_n (hJ_j_6 true H _ _ ⟨Mem.no, hm, (Sep.sel hS [0, 1, 2] (by decide)), (Mem.le.refl _)⟩)


end Go.Proofs
