/- What the calls do: each function once. -/
import Derived.Test.YteojmbigbifklaaWaitPlaysc4
namespace Go.Proofs
open Go.Gp
set_option linter.unusedVariables false
set_option maxHeartbeats 4000000 in
set_option maxRecDepth 20000 in
theorem hocketref15_Calls_Done.calls (K : Nat) (g0 : Nat) (x0_l : List hocketref15_call) (p0_0 : Value) (M0_0 : Mem) (x0_r : List api_Reply) (p0_1 : Value) (M0_1 : Mem) (x1 : api_Done) (p1_2 : Value) (p1_3 : Value) (p1_4 : Value) (p1_5 : Value) (r : Bool × (List hocketref15_call) × (List api_Reply)) (w0 w : World) (Z A : Mem) (hA : A.le Z) (hS : Sep w0 w [Mem.one g0 (.cells ([p0_0, p0_1] : List Value).toArray 63 (0, 0)), M0_0, M0_1] Z) (hp0_0 : Own k_hocketref15_call 84 M0_0 A p0_0 x0_l) (hp0_1 : Own k_api_Reply 56 M0_1 A p0_1 x0_r) (hp1_2 : Rd Kd.u8 A p1_2 x1.Entry.Cmd.Key) (hp1_3 : Rd Kd.u8 A p1_3 x1.Entry.Cmd.Val) (hp1_4 : Rd Kd.u8 A p1_4 x1.Entry.Cmd.Old) (hp1_5 : Rd Kd.u8 A p1_5 x1.Result.Val)
    (H : hocketref15_Calls_Done.f K x0_l x0_r x1 = some r) :
    Calls Try.prog 34 [.pointer (some ⟨g0, 0, none⟩), .agg ([.int .i64 x1.Index, .int .i64 x1.Entry.Sess, .int .i64 x1.Entry.Seq, .int .i64 x1.Entry.Cmd.Kind, .int .i64 x1.Entry.Cmd.Who, p1_2, p1_3, p1_4, .int .i64 x1.Result.Err, p1_5, .int .i64 x1.Result.N] : List Value).toArray].toArray w (Ret fun v w' => ∃ (u0 : Value) (u1 : Value) (N : Mem) (M100 : Mem) (M101 : Mem), v = .bool r.1 ∧ Sep w0 w' [N, Mem.one g0 (.cells ([u0, u1] : List Value).toArray 63 (0, 0)), M100, M101] Z ∧ Own k_hocketref15_call 84 M100 (A.un N) u0 r.2.1 ∧ Own k_api_Reply 56 M101 (A.un N) u1 r.2.2) := by
  unfold hocketref15_Calls_Done.f at H
  refine f_enter _ Try.func34 rfl Try.ntmps34 rfl fun a hm => ?_
  replace hm : Fr 80 a [(0, .pointer (some ⟨g0, 0, none⟩)), (1, .agg ([.int .i64 x1.Index, .int .i64 x1.Entry.Sess, .int .i64 x1.Entry.Seq, .int .i64 x1.Entry.Cmd.Kind, .int .i64 x1.Entry.Cmd.Who, p1_2, p1_3, p1_4, .int .i64 x1.Result.Err, p1_5, .int .i64 x1.Result.N] : List Value).toArray)] := hm
  replace hS := hS.start
  replace hS : Sep w0 w [Mem.no, Mem.one g0 (.cells ([p0_0, p0_1] : List Value).toArray 63 (0, 0)), M0_0, M0_1] Z := hS
  refine wp_seq ?_
  refine wp_region_lit ?_
  refine v_box (vs := [.int .i64 x1.Index, .int .i64 x1.Entry.Sess, .int .i64 x1.Entry.Seq, .int .i64 x1.Entry.Cmd.Kind, .int .i64 x1.Entry.Cmd.Who, p1_2, p1_3, p1_4, .int .i64 x1.Result.Err, p1_5, .int .i64 x1.Result.N]) hm rfl rfl rfl hS ?_
  intro w_1 g_2 hS'
  clear hm a; intro a hm
  replace hS : Sep w0 w_1 [Mem.no, Mem.one g0 (.cells ([p0_0, p0_1] : List Value).toArray 63 (0, 0)), M0_0, M0_1, Mem.one g_2 (.cells ([.int .i64 x1.Index, .int .i64 x1.Entry.Sess, .int .i64 x1.Entry.Seq, .int .i64 x1.Entry.Cmd.Kind, .int .i64 x1.Entry.Cmd.Who, p1_2, p1_3, p1_4, .int .i64 x1.Result.Err, p1_5, .int .i64 x1.Result.N] : List Value).toArray 51 (0, 0))] Z := hS'
  clear hS'
  refine s_assign hm rfl rfl ?_
  clear hm a; intro a hm
  refine wpList_nil ?_
  replace hm : Fr 80 a [(0, .pointer (some ⟨g0, 0, none⟩)), (3, .pointer (some ⟨g_2, 0, none⟩)), (4, .bool false)] := hm.keep [0, 3, 4]
  refine x_then_n ?_
  refine c_seq fun KJ_3 hKJ_3 => ?_
  refine wp_seq ?_
  refine wp_region_lit ?_
  refine s_assign hm rfl rfl ?_
  clear hm a; intro a hm
  refine wpList_nil ?_
  replace hm : Fr 80 a [(0, .pointer (some ⟨g0, 0, none⟩)), (3, .pointer (some ⟨g_2, 0, none⟩)), (4, .bool false), (5, .int .i64 0)] := hm.keep [0, 3, 4, 5]
  refine x_then_n ?_
  have hJ_j_6 : hocketref15_Calls_Done.J1 K x0_l x0_r = some r → ∀ (a : Act) (w_5 : World), (∃ (N_4 : Mem), Fr 80 a [(4, .bool false)] ∧ Sep w0 w_5 [N_4, Mem.one g0 (.cells ([p0_0, p0_1] : List Value).toArray 63 (0, 0)), M0_0, M0_1, Mem.no] Z ∧ Mem.no.le N_4) → KJ_3 a w_5 := by
    clear H hm hS a
    rintro H a w_5 ⟨N_4, hm, hS, le_4⟩
    unfold hocketref15_Calls_Done.J1 at H
    refine hKJ_3 _ _ ?_
    refine wp_seq ?_
    refine wp_region_lit ?_
    refine s_assign hm rfl rfl ?_
    clear hm a; intro a hm
    refine wpList_nil ?_
    replace hm : Fr 80 a [(4, .bool false)] := hm.keep [4]
    refine x_then_n ?_
    refine wp_ret ?_
    obtain rfl := Option.some.inj H
    exact f_ret hm (rs := [.tmp 4]) rfl (.tmp rfl .nil) ⟨_, rfl, p0_0, p0_1, N_4, M0_0, M0_1, rfl, (Sep.sel hS [0, 1, 2, 3] (by decide)), (hp0_0.mono (Mem.le_un _ _)), (hp0_1.mono (Mem.le_un _ _))⟩
  clear hKJ_3
  replace hS : Sep w0 w_1 [Mem.no, Mem.one g0 (.cells ([p0_0, p0_1] : List Value).toArray 63 (0, 0)), M0_0, M0_1, Mem.one g_2 (.cells ([.int .i64 x1.Index, .int .i64 x1.Entry.Sess, .int .i64 x1.Entry.Seq, .int .i64 x1.Entry.Cmd.Kind, .int .i64 x1.Entry.Cmd.Who, p1_2, p1_3, p1_4, .int .i64 x1.Result.Err, p1_5, .int .i64 x1.Result.N] : List Value).toArray 51 (0, 0))] Z := hS
  replace hm : Fr 80 a [(0, .pointer (some ⟨g0, 0, none⟩)), (3, .pointer (some ⟨g_2, 0, none⟩)), (4, .bool false), (5, .int .i64 0)] := hm.keep [0, 3, 4, 5]
  refine c_block ?_
  refine c_loop (fun k_9 a w_9 => ∃ (x_8 : Int) (N_7 : Mem), hocketref15_Calls_Done.L1 K x0_l x1 x0_r (fun v => hocketref15_Calls_Done.J1 K x0_l x0_r) k_9 x_8 = some r ∧ Fr 80 a [(0, .pointer (some ⟨g0, 0, none⟩)), (3, .pointer (some ⟨g_2, 0, none⟩)), (4, .bool false), (5, .int .i64 x_8)] ∧ Sep w0 w_9 [N_7, Mem.one g0 (.cells ([p0_0, p0_1] : List Value).toArray 63 (0, 0)), M0_0, M0_1, Mem.one g_2 (.cells ([.int .i64 x1.Index, .int .i64 x1.Entry.Sess, .int .i64 x1.Entry.Seq, .int .i64 x1.Entry.Cmd.Kind, .int .i64 x1.Entry.Cmd.Who, p1_2, p1_3, p1_4, .int .i64 x1.Result.Err, p1_5, .int .i64 x1.Result.N] : List Value).toArray 51 (0, 0))] Z ∧ Mem.no.le N_7) K ⟨0, Mem.no, H, hm, (Sep.sel hS [0, 1, 2, 3, 4] (by decide)), (Mem.le.refl _)⟩ (fun a w h => by obtain ⟨_, _, H, _⟩ := h; cases (show (none : Option (Bool × (List hocketref15_call) × (List api_Reply))) = some r from H)) ?_
  clear hm hS a H
  rintro k_9 a w_9 KL_9 hKL_9 ⟨x_8, N_7, H, hm, hS, le_7⟩
  replace H : hocketref15_Calls_Done.B1 K x0_l x1 x0_r (fun v => hocketref15_Calls_Done.J1 K x0_l x0_r) (hocketref15_Calls_Done.L1 K x0_l x1 x0_r (fun v => hocketref15_Calls_Done.J1 K x0_l x0_r) k_9) x_8 = some r := H
  unfold hocketref15_Calls_Done.B1 at H
  refine c_seq fun KJ_11 hKJ_11 => ?_
  refine wp_seq ?_
  refine wp_region_lit ?_
  refine s_move hm rfl rfl ?_
  clear hm a; intro a hm
  refine s_move hm rfl rfl ?_
  clear hm a; intro a hm
  refine s_nilCheck hm rfl rfl ?_
  clear hm a; intro a hm
  refine s_fieldAddr hm rfl Try.underlying63 rfl ti61 rfl rfl ?_
  clear hm a; intro a hm
  refine s_load hm rfl rfl (hS.load_one (p := 1) rfl Try.underlying61 rfl rfl) ?_
  clear hm a; intro a hm
  refine s_lenO hm rfl Try.underlying61 rfl hp0_0 ?_
  clear hm a; intro a hm
  refine s_cmp (b := decide (x_8 < (x0_l.length : Int))) hm rfl rfl rfl (.inr (.inr (.inl ⟨rfl, rfl⟩))) ?_
  clear hm a; intro a hm
  refine wpList_nil ?_
  replace hm : Fr 80 a [(0, .pointer (some ⟨g0, 0, none⟩)), (3, .pointer (some ⟨g_2, 0, none⟩)), (4, .bool false), (5, .int .i64 x_8), (12, .bool (decide (x_8 < (x0_l.length : Int))))] := hm.keep [0, 3, 4, 5, 12]
  refine x_then_n ?_
  by_cases hc_12 : x_8 < (x0_l.length : Int)
  · rw [if_pos hc_12] at H
    refine c_cond_t hm rfl (decide_eq_true hc_12) ?_
    refine wp_skip ?_
    refine x_then_n (hKJ_11 _ _ ?_)
    refine c_seq fun KJ_13 hKJ_13 => ?_
    refine c_block ?_
    refine c_seq fun KJ_14 hKJ_14 => ?_
    have hJ_j_18 : ∀ (x_16 : Bool), hocketref15_Calls_Done.J2 K x0_l x_8 x0_r x1 (hocketref15_Calls_Done.L1 K x0_l x1 x0_r (fun v => hocketref15_Calls_Done.J1 K x0_l x0_r) k_9) x_16 = some r → ∀ (a : Act) (w_17 : World), (∃ (N_15 : Mem), Fr 80 a [(0, .pointer (some ⟨g0, 0, none⟩)), (3, .pointer (some ⟨g_2, 0, none⟩)), (4, .bool false), (5, .int .i64 x_8), (42, .bool x_16)] ∧ Sep w0 w_17 [N_15, Mem.one g0 (.cells ([p0_0, p0_1] : List Value).toArray 63 (0, 0)), M0_0, M0_1, Mem.one g_2 (.cells ([.int .i64 x1.Index, .int .i64 x1.Entry.Sess, .int .i64 x1.Entry.Seq, .int .i64 x1.Entry.Cmd.Kind, .int .i64 x1.Entry.Cmd.Who, p1_2, p1_3, p1_4, .int .i64 x1.Result.Err, p1_5, .int .i64 x1.Result.N] : List Value).toArray 51 (0, 0))] Z ∧ N_7.le N_15) → KJ_14 a w_17 := by
      clear H hm hS a
      rintro x_16 H a w_17 ⟨N_15, hm, hS, le_15⟩
      unfold hocketref15_Calls_Done.J2 at H
      refine hKJ_14 _ _ ?_
      by_cases hc_19 : x_16 = true
      · rw [if_pos hc_19] at H
        refine c_cond_t hm rfl hc_19 ?_
        refine c_seq fun KJ_20 hKJ_20 => ?_
        have hJ_j_28 : ∀ (x_22 : List hocketref15_call), hocketref15_Calls_Done.J3 K x0_r x1 x_22 = some r → ∀ (a : Act) (w_27 : World), (∃ (v_25 : Value) (N_21 : Mem) (M_23 : Mem), Fr 80 a [(0, .pointer (some ⟨g0, 0, none⟩)), (3, .pointer (some ⟨g_2, 0, none⟩)), (4, .bool false), (5, .int .i64 x_8)] ∧ Sep w0 w_27 [N_21, Mem.one g0 (.cells ([v_25, p0_1] : List Value).toArray 63 (0, 0)), Mem.no, M0_1, Mem.one g_2 (.cells ([.int .i64 x1.Index, .int .i64 x1.Entry.Sess, .int .i64 x1.Entry.Seq, .int .i64 x1.Entry.Cmd.Kind, .int .i64 x1.Entry.Cmd.Who, p1_2, p1_3, p1_4, .int .i64 x1.Result.Err, p1_5, .int .i64 x1.Result.N] : List Value).toArray 51 (0, 0)), M_23] Z ∧ N_15.le N_21 ∧ Own k_hocketref15_call 84 M_23 (A.un N_21) v_25 x_22) → KJ_20 a w_27 := by
          clear H hm hS a
          rintro x_22 H a w_27 ⟨v_25, N_21, M_23, hm, hS, le_21, ho_26⟩
          unfold hocketref15_Calls_Done.J3 at H
          refine hKJ_20 _ _ ?_
          refine c_seq fun KJ_29 hKJ_29 => ?_
          have hJ_j_37 : ∀ (x_31 : List api_Reply), hocketref15_Calls_Done.J4 K x_22 x_31 = some r → ∀ (a : Act) (w_36 : World), (∃ (v_34 : Value) (N_30 : Mem) (M_32 : Mem), Fr 80 a [(0, .pointer (some ⟨g0, 0, none⟩)), (3, .pointer (some ⟨g_2, 0, none⟩)), (4, .bool false), (5, .int .i64 x_8)] ∧ Sep w0 w_36 [N_30, Mem.one g0 (.cells ([v_25, v_34] : List Value).toArray 63 (0, 0)), Mem.no, M_32, Mem.one g_2 (.cells ([.int .i64 x1.Index, .int .i64 x1.Entry.Sess, .int .i64 x1.Entry.Seq, .int .i64 x1.Entry.Cmd.Kind, .int .i64 x1.Entry.Cmd.Who, p1_2, p1_3, p1_4, .int .i64 x1.Result.Err, p1_5, .int .i64 x1.Result.N] : List Value).toArray 51 (0, 0)), M_23] Z ∧ N_21.le N_30 ∧ Own k_api_Reply 56 M_32 (A.un N_30) v_34 x_31) → KJ_29 a w_36 := by
            clear H hm hS a
            rintro x_31 H a w_36 ⟨v_34, N_30, M_32, hm, hS, le_30, ho_35⟩
            unfold hocketref15_Calls_Done.J4 at H
            refine hKJ_29 _ _ ?_
            refine wp_seq ?_
            refine wp_region_lit ?_
            refine s_assign hm rfl rfl ?_
            clear hm a; intro a hm
            refine wpList_nil ?_
            replace hm : Fr 80 a [(0, .pointer (some ⟨g0, 0, none⟩)), (3, .pointer (some ⟨g_2, 0, none⟩)), (4, .bool true), (5, .int .i64 x_8)] := hm.keep [0, 3, 4, 5]
            refine x_then_n ?_
            refine wp_ret (x_block_r (x_then_r (x_then_r (x_block_r (x_then_r ?_)))))
            obtain rfl := Option.some.inj H
            exact f_ret hm (rs := [.tmp 4]) rfl (.tmp rfl .nil) ⟨_, rfl, v_25, v_34, N_30, M_23, M_32, rfl, (Sep.sel hS [0, 1, 5, 3] (by decide)), (ho_26.mono (Mem.un_left le_30)), (ho_35.mono (Mem.un_left (Mem.le.refl _)))⟩
          clear hKJ_29
          refine h_begin (S := fun w => Sep w0 w [N_21, Mem.no, Mem.no, Mem.no, Mem.one g_2 (.cells ([.int .i64 x1.Index, .int .i64 x1.Entry.Sess, .int .i64 x1.Entry.Seq, .int .i64 x1.Entry.Cmd.Kind, .int .i64 x1.Entry.Cmd.Who, p1_2, p1_3, p1_4, .int .i64 x1.Result.Err, p1_5, .int .i64 x1.Result.N] : List Value).toArray 51 (0, 0)), M_23] Z) 19 (by kernel_rfl) rfl [false, false, false, false, false, false, false, false, false, false, false, false, false, false, false, false, false, false, false].toArray rfl hS fun w_38 hS => ?_
          replace hS : Sep w0 w_38 [N_21, Mem.one g0 (.cells ([v_25, p0_1] : List Value).toArray 63 (0, 0)), Mem.no, M0_1, Mem.one g_2 (.cells ([.int .i64 x1.Index, .int .i64 x1.Entry.Sess, .int .i64 x1.Entry.Seq, .int .i64 x1.Entry.Cmd.Kind, .int .i64 x1.Entry.Cmd.Who, p1_2, p1_3, p1_4, .int .i64 x1.Result.Err, p1_5, .int .i64 x1.Result.N] : List Value).toArray 51 (0, 0)), M_23] Z := hS
          refine h_take 0 [true, false, false, false, false, false, false, false, false, false, false, false, false, false, false, false, false, false, false].toArray rfl (by kernel_rfl) (by kernel_rfl) (by kernel_rfl) (fun _ _ _ _ h => h) rfl rfl rfl rfl hm (hS.sub (.cons (Mem.le.refl _) (.cons (Mem.no_le _) (.cons (Mem.no_le _) (.cons (Mem.no_le _) (.cons (Mem.le.refl _) (.cons (Mem.le.refl _) (Sub.nil _)))))))) (v := .pointer (some ⟨g0, 0, none⟩)) (fun w hS => r_move hm rfl) ?_
          clear hm a; intro a hm
          refine h_take 1 [true, true, false, false, false, false, false, false, false, false, false, false, false, false, false, false, false, false, false].toArray rfl (by kernel_rfl) (by kernel_rfl) (by kernel_rfl) (fun _ _ _ _ h => h) rfl rfl rfl rfl hm (hS.sub (.cons (Mem.le.refl _) (.cons (Mem.no_le _) (.cons (Mem.no_le _) (.cons (Mem.no_le _) (.cons (Mem.le.refl _) (.cons (Mem.le.refl _) (Sub.nil _)))))))) (v := .pointer (some ⟨g0, 0, none⟩)) (fun w hS => r_move hm rfl) ?_
          clear hm a; intro a hm
          refine h_take 2 [true, true, true, false, false, false, false, false, false, false, false, false, false, false, false, false, false, false, false].toArray rfl (by kernel_rfl) (by kernel_rfl) (by kernel_rfl) (fun _ _ _ _ h => h) rfl rfl rfl rfl hm (hS.sub (.cons (Mem.le.refl _) (.cons (Mem.no_le _) (.cons (Mem.no_le _) (.cons (Mem.no_le _) (.cons (Mem.le.refl _) (.cons (Mem.le.refl _) (Sub.nil _)))))))) (v := .pointer (some ⟨g0, 0, none⟩)) (fun w hS => r_nilCheck hm rfl) ?_
          clear hm a; intro a hm
          refine h_take 3 [true, true, true, true, false, false, false, false, false, false, false, false, false, false, false, false, false, false, false].toArray rfl (by kernel_rfl) (by kernel_rfl) (by kernel_rfl) (fun _ _ _ _ h => h) rfl rfl rfl rfl hm (hS.sub (.cons (Mem.le.refl _) (.cons (Mem.no_le _) (.cons (Mem.no_le _) (.cons (Mem.no_le _) (.cons (Mem.le.refl _) (.cons (Mem.le.refl _) (Sub.nil _)))))))) (v := .pointer (some ⟨g0, 1, none⟩)) (fun w hS => r_fieldAddr hm Try.underlying63 rfl ti53 rfl rfl rfl) ?_
          clear hm a; intro a hm
          refine h_take 5 [true, true, true, true, false, true, false, false, false, false, false, false, false, false, false, false, false, false, false].toArray rfl (by kernel_rfl) (by kernel_rfl) (by kernel_rfl) (fun _ _ _ _ h => h) rfl rfl rfl rfl hm (hS.sub (.cons (Mem.le.refl _) (.cons (Mem.no_le _) (.cons (Mem.no_le _) (.cons (Mem.no_le _) (.cons (Mem.le.refl _) (.cons (Mem.le.refl _) (Sub.nil _)))))))) (v := .pointer (some ⟨g_2, 1, none⟩)) (fun w hS => r_fieldAddr hm Try.underlying51 rfl ti45 rfl rfl rfl) ?_
          clear hm a; intro a hm
          refine h_take 6 [true, true, true, true, false, true, true, false, false, false, false, false, false, false, false, false, false, false, false].toArray rfl (by kernel_rfl) (by kernel_rfl) (by kernel_rfl) (fun _ _ _ _ h => h) rfl rfl rfl rfl hm (hS.sub (.cons (Mem.le.refl _) (.cons (Mem.no_le _) (.cons (Mem.no_le _) (.cons (Mem.no_le _) (.cons (Mem.le.refl _) (.cons (Mem.le.refl _) (Sub.nil _)))))))) (v := .pointer (some ⟨g_2, 1, none⟩)) (fun w hS => r_fieldAddr hm Try.underlying45 rfl ti3 rfl rfl rfl) ?_
          clear hm a; intro a hm
          refine h_take 7 [true, true, true, true, false, true, true, true, false, false, false, false, false, false, false, false, false, false, false].toArray rfl (by kernel_rfl) (by kernel_rfl) (by kernel_rfl) (fun _ _ _ _ h => h) rfl rfl rfl rfl hm (hS.sub (.cons (Mem.le.refl _) (.cons (Mem.no_le _) (.cons (Mem.no_le _) (.cons (Mem.no_le _) (.cons (Mem.le.refl _) (.cons (Mem.le.refl _) (Sub.nil _)))))))) (v := .int .i64 x1.Entry.Sess) (fun w hS => r_load hm rfl (hS.load_one (p := 4) rfl Try.underlying3 rfl rfl)) ?_
          clear hm a; intro a hm
          refine h_take 8 [true, true, true, true, false, true, true, true, true, false, false, false, false, false, false, false, false, false, false].toArray rfl (by kernel_rfl) (by kernel_rfl) (by kernel_rfl) (fun _ _ _ _ h => h) rfl rfl rfl rfl hm (hS.sub (.cons (Mem.le.refl _) (.cons (Mem.no_le _) (.cons (Mem.no_le _) (.cons (Mem.no_le _) (.cons (Mem.le.refl _) (.cons (Mem.le.refl _) (Sub.nil _)))))))) (v := .pointer (some ⟨g_2, 1, none⟩)) (fun w hS => r_fieldAddr hm Try.underlying51 rfl ti45 rfl rfl rfl) ?_
          clear hm a; intro a hm
          refine h_take 9 [true, true, true, true, false, true, true, true, true, true, false, false, false, false, false, false, false, false, false].toArray rfl (by kernel_rfl) (by kernel_rfl) (by kernel_rfl) (fun _ _ _ _ h => h) rfl rfl rfl rfl hm (hS.sub (.cons (Mem.le.refl _) (.cons (Mem.no_le _) (.cons (Mem.no_le _) (.cons (Mem.no_le _) (.cons (Mem.le.refl _) (.cons (Mem.le.refl _) (Sub.nil _)))))))) (v := .pointer (some ⟨g_2, 2, none⟩)) (fun w hS => r_fieldAddr hm Try.underlying45 rfl ti3 rfl rfl rfl) ?_
          clear hm a; intro a hm
          refine h_take 10 [true, true, true, true, false, true, true, true, true, true, true, false, false, false, false, false, false, false, false].toArray rfl (by kernel_rfl) (by kernel_rfl) (by kernel_rfl) (fun _ _ _ _ h => h) rfl rfl rfl rfl hm (hS.sub (.cons (Mem.le.refl _) (.cons (Mem.no_le _) (.cons (Mem.no_le _) (.cons (Mem.no_le _) (.cons (Mem.le.refl _) (.cons (Mem.le.refl _) (Sub.nil _)))))))) (v := .int .i64 x1.Entry.Seq) (fun w hS => r_load hm rfl (hS.load_one (p := 4) rfl Try.underlying3 rfl rfl)) ?_
          clear hm a; intro a hm
          refine h_take 11 [true, true, true, true, false, true, true, true, true, true, true, true, false, false, false, false, false, false, false].toArray rfl (by kernel_rfl) (by kernel_rfl) (by kernel_rfl) (fun _ _ _ _ h => h) rfl rfl rfl rfl hm (hS.sub (.cons (Mem.le.refl _) (.cons (Mem.no_le _) (.cons (Mem.no_le _) (.cons (Mem.no_le _) (.cons (Mem.le.refl _) (.cons (Mem.le.refl _) (Sub.nil _)))))))) (v := .pointer (some ⟨g_2, 8, none⟩)) (fun w hS => r_fieldAddr hm Try.underlying51 rfl ti28 rfl rfl rfl) ?_
          clear hm a; intro a hm
          refine h_take 12 [true, true, true, true, false, true, true, true, true, true, true, true, true, false, false, false, false, false, false].toArray rfl (by kernel_rfl) (by kernel_rfl) (by kernel_rfl) (fun _ _ _ _ h => h) rfl rfl rfl rfl hm (hS.sub (.cons (Mem.le.refl _) (.cons (Mem.no_le _) (.cons (Mem.no_le _) (.cons (Mem.no_le _) (.cons (Mem.le.refl _) (.cons (Mem.le.refl _) (Sub.nil _)))))))) (v := .agg ([.int .i64 x1.Result.Err, p1_5, .int .i64 x1.Result.N] : List Value).toArray) (fun w hS => r_load hm rfl (hS.load_agg (p := 4) (us := [.int .i64 x1.Result.Err, p1_5, .int .i64 x1.Result.N]) rfl Try.underlying28 rfl ti28 rfl rfl)) ?_
          clear hm a; intro a hm
          refine h_take 13 [true, true, true, true, false, true, true, true, true, true, true, true, true, true, false, false, false, false, false].toArray rfl (by kernel_rfl) (by kernel_rfl) (by kernel_rfl) (fun _ _ _ _ h => h) rfl rfl rfl rfl hm (hS.sub (.cons (Mem.le.refl _) (.cons (Mem.no_le _) (.cons (Mem.no_le _) (.cons (Mem.no_le _) (.cons (Mem.le.refl _) (.cons (Mem.le.refl _) (Sub.nil _)))))))) (v := .agg ([.int .i64 x1.Entry.Sess, .int .i64 x1.Entry.Seq, .int .i64 x1.Result.Err, p1_5, .int .i64 x1.Result.N] : List Value).toArray) (fun w hS => r_build hm ti56 pl56 rfl (.cons rfl (.cons rfl (.cons rfl .nil))) (cs := [.int .i64 x1.Entry.Sess, .int .i64 x1.Entry.Seq, .int .i64 x1.Result.Err, p1_5, .int .i64 x1.Result.N]) rfl) ?_
          clear hm a; intro a hm
          obtain ⟨t_45, et_45, H⟩ := Option.bind_eq_some_iff.1 H
          refine h_events [4, 14] (by kernel_rfl) (by simp) ?_
          intro i hi; simp only [List.mem_cons, List.not_mem_nil, or_false] at hi; rcases hi with rfl | rfl
          · refine ⟨_, [true, true, true, true, true, true, true, true, true, true, true, true, true, true, false, false, false, false, false].toArray, rfl, rfl, ?_⟩
            refine s_load hm rfl rfl (hS.load_one (p := 1) rfl Try.underlying53 rfl rfl) ?_
            clear hm a; intro a hm
            refine wpList_nil ?_
            refine x_then_n ⟨(hS.sub (.cons (Mem.le.refl _) (.cons (Mem.no_le _) (.cons (Mem.no_le _) (.cons (Mem.no_le _) (.cons (Mem.le.refl _) (.cons (Mem.le.refl _) (Sub.nil _)))))))), ?_⟩
            refine h_event 14 [true, true, true, true, true, true, true, true, true, true, true, true, true, true, true, false, false, false, false].toArray rfl (by kernel_rfl) rfl ?_
            have hq_43 : Reps k_api_Reply (A.un N_21) ([(⟨x1.Entry.Sess, x1.Entry.Seq, x1.Result⟩ : api_Reply)] : List api_Reply) _ := ((Reps.one (d := k_api_Reply) (x := (⟨x1.Entry.Sess, x1.Entry.Seq, x1.Result⟩ : api_Reply)) (k_api_Reply.mk' (hp1_5.mono (Mem.le_un _ _)))).append (Reps.nil k_api_Reply _))
            refine s_buildSlice hm rfl Try.underlying53 ti56 rfl rfl rfl (.cons rfl .nil) rfl rfl rfl hS hq_43 rfl ?_
            intro w_39 v_40 M_41 hS' ho_42
            clear hm a; intro a hm
            replace hS : Sep w0 w_39 [N_21, Mem.one g0 (.cells ([v_25, p0_1] : List Value).toArray 63 (0, 0)), Mem.no, M0_1, Mem.one g_2 (.cells ([.int .i64 x1.Index, .int .i64 x1.Entry.Sess, .int .i64 x1.Entry.Seq, .int .i64 x1.Entry.Cmd.Kind, .int .i64 x1.Entry.Cmd.Who, p1_2, p1_3, p1_4, .int .i64 x1.Result.Err, p1_5, .int .i64 x1.Result.N] : List Value).toArray 51 (0, 0)), M_23, M_41] Z := hS'
            clear hS' hq_43
            refine wpList_nil ?_
            refine x_then_n ⟨(hS.sub (.cons (Mem.le.refl _) (.cons (Mem.no_le _) (.cons (Mem.no_le _) (.cons (Mem.no_le _) (.cons (Mem.le.refl _) (.cons (Mem.le.refl _) (Sub.nil _)))))))), ?_⟩
            refine h_event 15 [true, true, true, true, true, true, true, true, true, true, true, true, true, true, true, true, false, false, false].toArray rfl (by kernel_rfl) rfl ?_
            refine s_append (J := (A.un N_21)) (I' := (A.un N_21)) (p := 3) 2513169434916 hm rfl rfl rfl Try.underlying53 ti56 rfl rfl rfl rfl hS rfl hp0_1 (ho_42.src (hS.own 6)) (Mem.le_un _ _) (Mem.un_left (Mem.le.refl _)) et_45 ?_
            intro w_46 v_47 M_48 hS' ho_49
            clear hm a; intro a hm
            replace hS : Sep w0 w_46 [N_21, Mem.one g0 (.cells ([v_25, p0_1] : List Value).toArray 63 (0, 0)), Mem.no, M_48, Mem.one g_2 (.cells ([.int .i64 x1.Index, .int .i64 x1.Entry.Sess, .int .i64 x1.Entry.Seq, .int .i64 x1.Entry.Cmd.Kind, .int .i64 x1.Entry.Cmd.Who, p1_2, p1_3, p1_4, .int .i64 x1.Result.Err, p1_5, .int .i64 x1.Result.N] : List Value).toArray 51 (0, 0)), M_23, M_41] Z := hS'
            clear hS'
            refine wpList_nil ?_
            refine x_then_n ⟨(hS.sub (.cons (Mem.le.refl _) (.cons (Mem.no_le _) (.cons (Mem.no_le _) (.cons (Mem.no_le _) (.cons (Mem.le.refl _) (.cons (Mem.le.refl _) (Sub.nil _)))))))), ?_⟩
            refine h_take 16 [true, true, true, true, true, true, true, true, true, true, true, true, true, true, true, true, true, false, false].toArray rfl (by kernel_rfl) (by kernel_rfl) (by kernel_rfl) (fun _ _ _ _ h => h) rfl rfl rfl rfl hm (hS.sub (.cons (Mem.le.refl _) (.cons (Mem.no_le _) (.cons (Mem.no_le _) (.cons (Mem.no_le _) (.cons (Mem.le.refl _) (.cons (Mem.le.refl _) (Sub.nil _)))))))) (v := .pointer (some ⟨g0, 0, none⟩)) (fun w hS => r_nilCheck hm rfl) ?_
            clear hm a; intro a hm
            refine h_take 17 [true, true, true, true, true, true, true, true, true, true, true, true, true, true, true, true, true, true, false].toArray rfl (by kernel_rfl) (by kernel_rfl) (by kernel_rfl) (fun _ _ _ _ h => h) rfl rfl rfl rfl hm (hS.sub (.cons (Mem.le.refl _) (.cons (Mem.no_le _) (.cons (Mem.no_le _) (.cons (Mem.no_le _) (.cons (Mem.le.refl _) (.cons (Mem.le.refl _) (Sub.nil _)))))))) (v := .pointer (some ⟨g0, 1, none⟩)) (fun w hS => r_fieldAddr hm Try.underlying63 rfl ti53 rfl rfl rfl) ?_
            clear hm a; intro a hm
            refine h_event 18 [true, true, true, true, true, true, true, true, true, true, true, true, true, true, true, true, true, true, true].toArray rfl (by kernel_rfl) rfl ?_
            obtain ⟨w_51, hs', hS'⟩ := hS.store (P := Try.prog) (p := 1) (o := 1) (t := 53) (v := v_47) (vs := [v_47]) rfl ti53 ho_49.cellsA rfl rfl (by intro u hu; simp only [List.mem_cons, List.not_mem_nil, or_false] at hu; rcases hu with rfl <;> first | rfl | exact ho_49.one)
            refine s_store hm rfl rfl hs' ?_
            replace hS : Sep w0 w_51 [N_21, Mem.one g0 (.cells ([v_25, v_47] : List Value).toArray 63 (0, 0)), Mem.no, M_48, Mem.one g_2 (.cells ([.int .i64 x1.Index, .int .i64 x1.Entry.Sess, .int .i64 x1.Entry.Seq, .int .i64 x1.Entry.Cmd.Kind, .int .i64 x1.Entry.Cmd.Who, p1_2, p1_3, p1_4, .int .i64 x1.Result.Err, p1_5, .int .i64 x1.Result.N] : List Value).toArray 51 (0, 0)), M_23, M_41] Z := hS'
            clear hs' hS'
            refine wpList_nil ?_
            refine x_then_n ⟨(hS.sub (.cons (Mem.le.refl _) (.cons (Mem.no_le _) (.cons (Mem.no_le _) (.cons (Mem.no_le _) (.cons (Mem.le.refl _) (.cons (Mem.le.refl _) (Sub.nil _)))))))), ?_⟩
            refine h_done (by kernel_rfl) ?_
            replace hm : Fr 80 a [(0, .pointer (some ⟨g0, 0, none⟩)), (3, .pointer (some ⟨g_2, 0, none⟩)), (4, .bool false), (5, .int .i64 x_8)] := hm.keep [0, 3, 4, 5]
            replace hS : Sep w0 w_51 [N_21, Mem.one g0 (.cells ([v_25, v_47] : List Value).toArray 63 (0, 0)), Mem.no, M_48, Mem.one g_2 (.cells ([.int .i64 x1.Index, .int .i64 x1.Entry.Sess, .int .i64 x1.Entry.Seq, .int .i64 x1.Entry.Cmd.Kind, .int .i64 x1.Entry.Cmd.Who, p1_2, p1_3, p1_4, .int .i64 x1.Result.Err, p1_5, .int .i64 x1.Result.N] : List Value).toArray 51 (0, 0)), M_23, M_41] Z := hS
            replace hm : Fr 80 a [(0, .pointer (some ⟨g0, 0, none⟩)), (3, .pointer (some ⟨g_2, 0, none⟩)), (4, .bool false), (5, .int .i64 x_8)] := hm.keep [0, 3, 4, 5]
            exact x_then_n (hJ_j_37 t_45 H _ _ ⟨v_47, N_21, M_48, hm, (Sep.sel hS [0, 1, 1001, 3, 4, 5] (by decide)), (Mem.le.refl _), (ho_49.mono (Mem.un_left (Mem.le.refl _)))⟩)
          · refine ⟨_, [true, true, true, true, false, true, true, true, true, true, true, true, true, true, true, false, false, false, false].toArray, rfl, rfl, ?_⟩
            have hq_56 : Reps k_api_Reply (A.un N_21) ([(⟨x1.Entry.Sess, x1.Entry.Seq, x1.Result⟩ : api_Reply)] : List api_Reply) _ := ((Reps.one (d := k_api_Reply) (x := (⟨x1.Entry.Sess, x1.Entry.Seq, x1.Result⟩ : api_Reply)) (k_api_Reply.mk' (hp1_5.mono (Mem.le_un _ _)))).append (Reps.nil k_api_Reply _))
            refine s_buildSlice hm rfl Try.underlying53 ti56 rfl rfl rfl (.cons rfl .nil) rfl rfl rfl hS hq_56 rfl ?_
            intro w_52 v_53 M_54 hS' ho_55
            clear hm a; intro a hm
            replace hS : Sep w0 w_52 [N_21, Mem.one g0 (.cells ([v_25, p0_1] : List Value).toArray 63 (0, 0)), Mem.no, M0_1, Mem.one g_2 (.cells ([.int .i64 x1.Index, .int .i64 x1.Entry.Sess, .int .i64 x1.Entry.Seq, .int .i64 x1.Entry.Cmd.Kind, .int .i64 x1.Entry.Cmd.Who, p1_2, p1_3, p1_4, .int .i64 x1.Result.Err, p1_5, .int .i64 x1.Result.N] : List Value).toArray 51 (0, 0)), M_23, M_54] Z := hS'
            clear hS' hq_56
            refine wpList_nil ?_
            refine x_then_n ⟨(hS.sub (.cons (Mem.le.refl _) (.cons (Mem.no_le _) (.cons (Mem.no_le _) (.cons (Mem.no_le _) (.cons (Mem.le.refl _) (.cons (Mem.le.refl _) (Sub.nil _)))))))), ?_⟩
            refine h_event 4 [true, true, true, true, true, true, true, true, true, true, true, true, true, true, true, false, false, false, false].toArray rfl (by kernel_rfl) rfl ?_
            refine s_load hm rfl rfl (hS.load_one (p := 1) rfl Try.underlying53 rfl rfl) ?_
            clear hm a; intro a hm
            refine wpList_nil ?_
            refine x_then_n ⟨(hS.sub (.cons (Mem.le.refl _) (.cons (Mem.no_le _) (.cons (Mem.no_le _) (.cons (Mem.no_le _) (.cons (Mem.le.refl _) (.cons (Mem.le.refl _) (Sub.nil _)))))))), ?_⟩
            refine h_event 15 [true, true, true, true, true, true, true, true, true, true, true, true, true, true, true, true, false, false, false].toArray rfl (by kernel_rfl) rfl ?_
            refine s_append (J := (A.un N_21)) (I' := (A.un N_21)) (p := 3) 2513169434916 hm rfl rfl rfl Try.underlying53 ti56 rfl rfl rfl rfl hS rfl hp0_1 (ho_55.src (hS.own 6)) (Mem.le_un _ _) (Mem.un_left (Mem.le.refl _)) et_45 ?_
            intro w_59 v_60 M_61 hS' ho_62
            clear hm a; intro a hm
            replace hS : Sep w0 w_59 [N_21, Mem.one g0 (.cells ([v_25, p0_1] : List Value).toArray 63 (0, 0)), Mem.no, M_61, Mem.one g_2 (.cells ([.int .i64 x1.Index, .int .i64 x1.Entry.Sess, .int .i64 x1.Entry.Seq, .int .i64 x1.Entry.Cmd.Kind, .int .i64 x1.Entry.Cmd.Who, p1_2, p1_3, p1_4, .int .i64 x1.Result.Err, p1_5, .int .i64 x1.Result.N] : List Value).toArray 51 (0, 0)), M_23, M_54] Z := hS'
            clear hS'
            refine wpList_nil ?_
            refine x_then_n ⟨(hS.sub (.cons (Mem.le.refl _) (.cons (Mem.no_le _) (.cons (Mem.no_le _) (.cons (Mem.no_le _) (.cons (Mem.le.refl _) (.cons (Mem.le.refl _) (Sub.nil _)))))))), ?_⟩
            refine h_take 16 [true, true, true, true, true, true, true, true, true, true, true, true, true, true, true, true, true, false, false].toArray rfl (by kernel_rfl) (by kernel_rfl) (by kernel_rfl) (fun _ _ _ _ h => h) rfl rfl rfl rfl hm (hS.sub (.cons (Mem.le.refl _) (.cons (Mem.no_le _) (.cons (Mem.no_le _) (.cons (Mem.no_le _) (.cons (Mem.le.refl _) (.cons (Mem.le.refl _) (Sub.nil _)))))))) (v := .pointer (some ⟨g0, 0, none⟩)) (fun w hS => r_nilCheck hm rfl) ?_
            clear hm a; intro a hm
            refine h_take 17 [true, true, true, true, true, true, true, true, true, true, true, true, true, true, true, true, true, true, false].toArray rfl (by kernel_rfl) (by kernel_rfl) (by kernel_rfl) (fun _ _ _ _ h => h) rfl rfl rfl rfl hm (hS.sub (.cons (Mem.le.refl _) (.cons (Mem.no_le _) (.cons (Mem.no_le _) (.cons (Mem.no_le _) (.cons (Mem.le.refl _) (.cons (Mem.le.refl _) (Sub.nil _)))))))) (v := .pointer (some ⟨g0, 1, none⟩)) (fun w hS => r_fieldAddr hm Try.underlying63 rfl ti53 rfl rfl rfl) ?_
            clear hm a; intro a hm
            refine h_event 18 [true, true, true, true, true, true, true, true, true, true, true, true, true, true, true, true, true, true, true].toArray rfl (by kernel_rfl) rfl ?_
            obtain ⟨w_64, hs', hS'⟩ := hS.store (P := Try.prog) (p := 1) (o := 1) (t := 53) (v := v_60) (vs := [v_60]) rfl ti53 ho_62.cellsA rfl rfl (by intro u hu; simp only [List.mem_cons, List.not_mem_nil, or_false] at hu; rcases hu with rfl <;> first | rfl | exact ho_62.one)
            refine s_store hm rfl rfl hs' ?_
            replace hS : Sep w0 w_64 [N_21, Mem.one g0 (.cells ([v_25, v_60] : List Value).toArray 63 (0, 0)), Mem.no, M_61, Mem.one g_2 (.cells ([.int .i64 x1.Index, .int .i64 x1.Entry.Sess, .int .i64 x1.Entry.Seq, .int .i64 x1.Entry.Cmd.Kind, .int .i64 x1.Entry.Cmd.Who, p1_2, p1_3, p1_4, .int .i64 x1.Result.Err, p1_5, .int .i64 x1.Result.N] : List Value).toArray 51 (0, 0)), M_23, M_54] Z := hS'
            clear hs' hS'
            refine wpList_nil ?_
            refine x_then_n ⟨(hS.sub (.cons (Mem.le.refl _) (.cons (Mem.no_le _) (.cons (Mem.no_le _) (.cons (Mem.no_le _) (.cons (Mem.le.refl _) (.cons (Mem.le.refl _) (Sub.nil _)))))))), ?_⟩
            refine h_done (by kernel_rfl) ?_
            replace hm : Fr 80 a [(0, .pointer (some ⟨g0, 0, none⟩)), (3, .pointer (some ⟨g_2, 0, none⟩)), (4, .bool false), (5, .int .i64 x_8)] := hm.keep [0, 3, 4, 5]
            replace hS : Sep w0 w_64 [N_21, Mem.one g0 (.cells ([v_25, v_60] : List Value).toArray 63 (0, 0)), Mem.no, M_61, Mem.one g_2 (.cells ([.int .i64 x1.Index, .int .i64 x1.Entry.Sess, .int .i64 x1.Entry.Seq, .int .i64 x1.Entry.Cmd.Kind, .int .i64 x1.Entry.Cmd.Who, p1_2, p1_3, p1_4, .int .i64 x1.Result.Err, p1_5, .int .i64 x1.Result.N] : List Value).toArray 51 (0, 0)), M_23, M_54] Z := hS
            replace hm : Fr 80 a [(0, .pointer (some ⟨g0, 0, none⟩)), (3, .pointer (some ⟨g_2, 0, none⟩)), (4, .bool false), (5, .int .i64 x_8)] := hm.keep [0, 3, 4, 5]
            exact x_then_n (hJ_j_37 t_45 H _ _ ⟨v_60, N_21, M_61, hm, (Sep.sel hS [0, 1, 1001, 3, 4, 5] (by decide)), (Mem.le.refl _), (ho_62.mono (Mem.un_left (Mem.le.refl _)))⟩)
        clear hKJ_20
        obtain ⟨N_65, hS', le_65, lo_65⟩ := hS.freeze 1 rfl
        replace hS : Sep w0 w_17 [N_65, Mem.one g0 (.cells ([p0_0, p0_1] : List Value).toArray 63 (0, 0)), Mem.no, M0_1, Mem.one g_2 (.cells ([.int .i64 x1.Index, .int .i64 x1.Entry.Sess, .int .i64 x1.Entry.Seq, .int .i64 x1.Entry.Cmd.Kind, .int .i64 x1.Entry.Cmd.Who, p1_2, p1_3, p1_4, .int .i64 x1.Result.Err, p1_5, .int .i64 x1.Result.N] : List Value).toArray 51 (0, 0))] Z := hS'
        clear hS'
        have hr_66 : Rd k_hocketref15_call (A.un N_65) p0_0 x0_l := (hp0_0.rd (lo_65.trans (hS.sndA hA)) (Mem.le_un _ _))
        refine h_begin (S := fun w => Sep w0 w [N_65, Mem.no, Mem.no, M0_1, Mem.one g_2 (.cells ([.int .i64 x1.Index, .int .i64 x1.Entry.Sess, .int .i64 x1.Entry.Seq, .int .i64 x1.Entry.Cmd.Kind, .int .i64 x1.Entry.Cmd.Who, p1_2, p1_3, p1_4, .int .i64 x1.Result.Err, p1_5, .int .i64 x1.Result.N] : List Value).toArray 51 (0, 0))] Z) 20 (by kernel_rfl) rfl [false, false, false, false, false, false, false, false, false, false, false, false, false, false, false, false, false, false, false, false].toArray rfl hS fun w_67 hS => ?_
        replace hS : Sep w0 w_67 [N_65, Mem.one g0 (.cells ([p0_0, p0_1] : List Value).toArray 63 (0, 0)), Mem.no, M0_1, Mem.one g_2 (.cells ([.int .i64 x1.Index, .int .i64 x1.Entry.Sess, .int .i64 x1.Entry.Seq, .int .i64 x1.Entry.Cmd.Kind, .int .i64 x1.Entry.Cmd.Who, p1_2, p1_3, p1_4, .int .i64 x1.Result.Err, p1_5, .int .i64 x1.Result.N] : List Value).toArray 51 (0, 0))] Z := hS
        refine h_take 0 [true, false, false, false, false, false, false, false, false, false, false, false, false, false, false, false, false, false, false, false].toArray rfl (by kernel_rfl) (by kernel_rfl) (by kernel_rfl) (fun _ _ _ _ h => h) rfl rfl rfl rfl hm (hS.sub (.cons (Mem.le.refl _) (.cons (Mem.no_le _) (.cons (Mem.no_le _) (.cons (Mem.le.refl _) (.cons (Mem.le.refl _) (Sub.nil _))))))) (v := .pointer (some ⟨g0, 0, none⟩)) (fun w hS => r_move hm rfl) ?_
        clear hm a; intro a hm
        refine h_take 2 [true, false, true, false, false, false, false, false, false, false, false, false, false, false, false, false, false, false, false, false].toArray rfl (by kernel_rfl) (by kernel_rfl) (by kernel_rfl) (fun _ _ _ _ h => h) rfl rfl rfl rfl hm (hS.sub (.cons (Mem.le.refl _) (.cons (Mem.no_le _) (.cons (Mem.no_le _) (.cons (Mem.le.refl _) (.cons (Mem.le.refl _) (Sub.nil _))))))) (v := .pointer (some ⟨g0, 0, none⟩)) (fun w hS => r_move hm rfl) ?_
        clear hm a; intro a hm
        refine h_take 3 [true, false, true, true, false, false, false, false, false, false, false, false, false, false, false, false, false, false, false, false].toArray rfl (by kernel_rfl) (by kernel_rfl) (by kernel_rfl) (fun _ _ _ _ h => h) rfl rfl rfl rfl hm (hS.sub (.cons (Mem.le.refl _) (.cons (Mem.no_le _) (.cons (Mem.no_le _) (.cons (Mem.le.refl _) (.cons (Mem.le.refl _) (Sub.nil _))))))) (v := .pointer (some ⟨g0, 0, none⟩)) (fun w hS => r_nilCheck hm rfl) ?_
        clear hm a; intro a hm
        refine h_take 4 [true, false, true, true, true, false, false, false, false, false, false, false, false, false, false, false, false, false, false, false].toArray rfl (by kernel_rfl) (by kernel_rfl) (by kernel_rfl) (fun _ _ _ _ h => h) rfl rfl rfl rfl hm (hS.sub (.cons (Mem.le.refl _) (.cons (Mem.no_le _) (.cons (Mem.no_le _) (.cons (Mem.le.refl _) (.cons (Mem.le.refl _) (Sub.nil _))))))) (v := .pointer (some ⟨g0, 0, none⟩)) (fun w hS => r_fieldAddr hm Try.underlying63 rfl ti61 rfl rfl rfl) ?_
        clear hm a; intro a hm
        refine h_take 6 [true, false, true, true, true, false, true, false, false, false, false, false, false, false, false, false, false, false, false, false].toArray rfl (by kernel_rfl) (by kernel_rfl) (by kernel_rfl) (fun _ _ _ _ h => h) rfl rfl rfl rfl hm (hS.sub (.cons (Mem.le.refl _) (.cons (Mem.no_le _) (.cons (Mem.no_le _) (.cons (Mem.le.refl _) (.cons (Mem.le.refl _) (Sub.nil _))))))) (v := .int .i64 x_8) (fun w hS => r_move hm rfl) ?_
        clear hm a; intro a hm
        refine h_take 9 [true, false, true, true, true, false, true, false, false, true, false, false, false, false, false, false, false, false, false, false].toArray rfl (by kernel_rfl) (by kernel_rfl) (by kernel_rfl) (fun _ _ _ _ h => h) rfl rfl rfl rfl hm (hS.sub (.cons (Mem.le.refl _) (.cons (Mem.no_le _) (.cons (Mem.no_le _) (.cons (Mem.le.refl _) (.cons (Mem.le.refl _) (Sub.nil _))))))) (v := .pointer (some ⟨g0, 0, none⟩)) (fun w hS => r_move hm rfl) ?_
        clear hm a; intro a hm
        refine h_take 10 [true, false, true, true, true, false, true, false, false, true, true, false, false, false, false, false, false, false, false, false].toArray rfl (by kernel_rfl) (by kernel_rfl) (by kernel_rfl) (fun _ _ _ _ h => h) rfl rfl rfl rfl hm (hS.sub (.cons (Mem.le.refl _) (.cons (Mem.no_le _) (.cons (Mem.no_le _) (.cons (Mem.le.refl _) (.cons (Mem.le.refl _) (Sub.nil _))))))) (v := .pointer (some ⟨g0, 0, none⟩)) (fun w hS => r_nilCheck hm rfl) ?_
        clear hm a; intro a hm
        refine h_take 11 [true, false, true, true, true, false, true, false, false, true, true, true, false, false, false, false, false, false, false, false].toArray rfl (by kernel_rfl) (by kernel_rfl) (by kernel_rfl) (fun _ _ _ _ h => h) rfl rfl rfl rfl hm (hS.sub (.cons (Mem.le.refl _) (.cons (Mem.no_le _) (.cons (Mem.no_le _) (.cons (Mem.le.refl _) (.cons (Mem.le.refl _) (Sub.nil _))))))) (v := .pointer (some ⟨g0, 0, none⟩)) (fun w hS => r_fieldAddr hm Try.underlying63 rfl ti61 rfl rfl rfl) ?_
        clear hm a; intro a hm
        refine h_take 13 [true, false, true, true, true, false, true, false, false, true, true, true, false, true, false, false, false, false, false, false].toArray rfl (by kernel_rfl) (by kernel_rfl) (by kernel_rfl) (fun _ _ _ _ h => h) rfl rfl rfl rfl hm (hS.sub (.cons (Mem.le.refl _) (.cons (Mem.no_le _) (.cons (Mem.no_le _) (.cons (Mem.le.refl _) (.cons (Mem.le.refl _) (Sub.nil _))))))) (v := .int .i64 x_8) (fun w hS => r_move hm rfl) ?_
        clear hm a; intro a hm
        refine h_take 14 [true, false, true, true, true, false, true, false, false, true, true, true, false, true, true, false, false, false, false, false].toArray rfl (by kernel_rfl) (by kernel_rfl) (by kernel_rfl) (fun _ _ _ _ h => h) rfl rfl rfl rfl hm (hS.sub (.cons (Mem.le.refl _) (.cons (Mem.no_le _) (.cons (Mem.no_le _) (.cons (Mem.le.refl _) (.cons (Mem.le.refl _) (Sub.nil _))))))) (v := .int .i64 (w64 (x_8 + 1))) (fun w hS => r_arith (r := w64 (x_8 + 1)) hm rfl rfl (.inl ⟨rfl, rfl⟩)) ?_
        clear hm a; intro a hm
        obtain ⟨t_74, et_74, H⟩ := Option.bind_eq_some_iff.1 H
        obtain ⟨t_77, et_77, H⟩ := Option.bind_eq_some_iff.1 H
        obtain ⟨t_83, et_83, H⟩ := Option.bind_eq_some_iff.1 H
        obtain ⟨t_86, et_86, H⟩ := Option.bind_eq_some_iff.1 H
        refine h_events [1, 5, 12] (by kernel_rfl) (by simp) ?_
        intro i hi; simp only [List.mem_cons, List.not_mem_nil, or_false] at hi; rcases hi with rfl | rfl | rfl
        · refine ⟨_, [true, true, true, true, true, false, true, false, false, true, true, true, false, true, true, false, false, false, false, false].toArray, rfl, rfl, ?_⟩
          have hq_72 : Reps k_hocketref15_call N_65 ([] : List hocketref15_call) _ := (Reps.nil k_hocketref15_call _)
          refine s_buildSlice hm rfl Try.underlying61 ti84 rfl rfl rfl .nil rfl rfl rfl hS hq_72 rfl ?_
          intro w_68 v_69 M_70 hS' ho_71
          clear hm a; intro a hm
          replace hS : Sep w0 w_68 [N_65, Mem.one g0 (.cells ([p0_0, p0_1] : List Value).toArray 63 (0, 0)), Mem.no, M0_1, Mem.one g_2 (.cells ([.int .i64 x1.Index, .int .i64 x1.Entry.Sess, .int .i64 x1.Entry.Seq, .int .i64 x1.Entry.Cmd.Kind, .int .i64 x1.Entry.Cmd.Who, p1_2, p1_3, p1_4, .int .i64 x1.Result.Err, p1_5, .int .i64 x1.Result.N] : List Value).toArray 51 (0, 0)), M_70] Z := hS'
          clear hS' hq_72
          refine wpList_nil ?_
          refine x_then_n ⟨(hS.sub (.cons (Mem.le.refl _) (.cons (Mem.no_le _) (.cons (Mem.no_le _) (.cons (Mem.le.refl _) (.cons (Mem.le.refl _) (Sub.nil _))))))), ?_⟩
          refine h_events [5, 12] (by kernel_rfl) (by simp) ?_
          intro i hi; simp only [List.mem_cons, List.not_mem_nil, or_false] at hi; rcases hi with rfl | rfl
          · refine ⟨_, [true, true, true, true, true, true, true, false, false, true, true, true, false, true, true, false, false, false, false, false].toArray, rfl, rfl, ?_⟩
            refine s_load hm rfl rfl (hS.load_one (p := 1) rfl Try.underlying61 rfl rfl) ?_
            clear hm a; intro a hm
            refine wpList_nil ?_
            refine x_then_n ⟨(hS.sub (.cons (Mem.le.refl _) (.cons (Mem.no_le _) (.cons (Mem.no_le _) (.cons (Mem.le.refl _) (.cons (Mem.le.refl _) (Sub.nil _))))))), ?_⟩
            refine h_takeE 7 [true, true, true, true, true, true, true, true, false, true, true, true, false, true, true, false, false, false, false, false].toArray rfl (by kernel_rfl) (by kernel_rfl) (by kernel_rfl) (fun _ _ _ _ h => h) rfl rfl rfl rfl hm (hS.sub (.cons (Mem.le.refl _) (.cons (Mem.no_le _) (.cons (Mem.no_le _) (.cons (Mem.le.refl _) (.cons (Mem.le.refl _) (Sub.nil _))))))) (f := fun v => v) (r_slice hm Try.underlying61 ti84 rfl rfl hr_66 rfl rfl et_74) ?_
            intro v_75 hr_76
            clear hm a; intro a hm
            refine h_events [8, 12] (by kernel_rfl) (by simp) ?_
            intro i hi; simp only [List.mem_cons, List.not_mem_nil, or_false] at hi; rcases hi with rfl | rfl
            · refine ⟨_, [true, true, true, true, true, true, true, true, true, true, true, true, false, true, true, false, false, false, false, false].toArray, rfl, rfl, ?_⟩
              refine s_append (J := (A.un N_65)) (I' := (A.un N_65)) (p := 5) 1256584717458 hm rfl rfl rfl Try.underlying61 ti84 rfl rfl rfl rfl hS rfl ho_71 (hr_76.src (Mem.un_le (hA.trans hS.old) ((Mem.le.refl _).trans (hS.own 0)))) ((Mem.le.refl _).trans (hS.sndA hA)) (Mem.un_left (Mem.le.refl _)) et_77 ?_
              intro w_78 v_79 M_80 hS' ho_81
              clear hm a; intro a hm
              replace hS : Sep w0 w_78 [N_65, Mem.one g0 (.cells ([p0_0, p0_1] : List Value).toArray 63 (0, 0)), Mem.no, M0_1, Mem.one g_2 (.cells ([.int .i64 x1.Index, .int .i64 x1.Entry.Sess, .int .i64 x1.Entry.Seq, .int .i64 x1.Entry.Cmd.Kind, .int .i64 x1.Entry.Cmd.Who, p1_2, p1_3, p1_4, .int .i64 x1.Result.Err, p1_5, .int .i64 x1.Result.N] : List Value).toArray 51 (0, 0)), M_80] Z := hS'
              clear hS'
              refine wpList_nil ?_
              refine x_then_n ⟨(hS.sub (.cons (Mem.le.refl _) (.cons (Mem.no_le _) (.cons (Mem.no_le _) (.cons (Mem.le.refl _) (.cons (Mem.le.refl _) (Sub.nil _))))))), ?_⟩
              refine h_event 12 [true, true, true, true, true, true, true, true, true, true, true, true, true, true, true, false, false, false, false, false].toArray rfl (by kernel_rfl) rfl ?_
              refine s_load hm rfl rfl (hS.load_one (p := 1) rfl Try.underlying61 rfl rfl) ?_
              clear hm a; intro a hm
              refine wpList_nil ?_
              refine x_then_n ⟨(hS.sub (.cons (Mem.le.refl _) (.cons (Mem.no_le _) (.cons (Mem.no_le _) (.cons (Mem.le.refl _) (.cons (Mem.le.refl _) (Sub.nil _))))))), ?_⟩
              refine h_takeE 15 [true, true, true, true, true, true, true, true, true, true, true, true, true, true, true, true, false, false, false, false].toArray rfl (by kernel_rfl) (by kernel_rfl) (by kernel_rfl) (fun _ _ _ _ h => h) rfl rfl rfl rfl hm (hS.sub (.cons (Mem.le.refl _) (.cons (Mem.no_le _) (.cons (Mem.no_le _) (.cons (Mem.le.refl _) (.cons (Mem.le.refl _) (Sub.nil _))))))) (f := fun v => v) (r_slice hm Try.underlying61 ti84 rfl rfl hr_66 rfl rfl et_83) ?_
              intro v_84 hr_85
              clear hm a; intro a hm
              refine h_event 16 [true, true, true, true, true, true, true, true, true, true, true, true, true, true, true, true, true, false, false, false].toArray rfl (by kernel_rfl) rfl ?_
              refine s_append (J := (A.un N_65)) (I' := (A.un N_65)) (p := 5) 1256584717458 hm rfl rfl rfl Try.underlying61 ti84 rfl rfl rfl rfl hS rfl ho_81 (hr_85.src (Mem.un_le (hA.trans hS.old) ((Mem.le.refl _).trans (hS.own 0)))) (Mem.un_left (Mem.le.refl _)) (Mem.un_left (Mem.le.refl _)) et_86 ?_
              intro w_87 v_88 M_89 hS' ho_90
              clear hm a; intro a hm
              replace hS : Sep w0 w_87 [N_65, Mem.one g0 (.cells ([p0_0, p0_1] : List Value).toArray 63 (0, 0)), Mem.no, M0_1, Mem.one g_2 (.cells ([.int .i64 x1.Index, .int .i64 x1.Entry.Sess, .int .i64 x1.Entry.Seq, .int .i64 x1.Entry.Cmd.Kind, .int .i64 x1.Entry.Cmd.Who, p1_2, p1_3, p1_4, .int .i64 x1.Result.Err, p1_5, .int .i64 x1.Result.N] : List Value).toArray 51 (0, 0)), M_89] Z := hS'
              clear hS'
              refine wpList_nil ?_
              refine x_then_n ⟨(hS.sub (.cons (Mem.le.refl _) (.cons (Mem.no_le _) (.cons (Mem.no_le _) (.cons (Mem.le.refl _) (.cons (Mem.le.refl _) (Sub.nil _))))))), ?_⟩
              refine h_take 17 [true, true, true, true, true, true, true, true, true, true, true, true, true, true, true, true, true, true, false, false].toArray rfl (by kernel_rfl) (by kernel_rfl) (by kernel_rfl) (fun _ _ _ _ h => h) rfl rfl rfl rfl hm (hS.sub (.cons (Mem.le.refl _) (.cons (Mem.no_le _) (.cons (Mem.no_le _) (.cons (Mem.le.refl _) (.cons (Mem.le.refl _) (Sub.nil _))))))) (v := .pointer (some ⟨g0, 0, none⟩)) (fun w hS => r_nilCheck hm rfl) ?_
              clear hm a; intro a hm
              refine h_take 18 [true, true, true, true, true, true, true, true, true, true, true, true, true, true, true, true, true, true, true, false].toArray rfl (by kernel_rfl) (by kernel_rfl) (by kernel_rfl) (fun _ _ _ _ h => h) rfl rfl rfl rfl hm (hS.sub (.cons (Mem.le.refl _) (.cons (Mem.no_le _) (.cons (Mem.no_le _) (.cons (Mem.le.refl _) (.cons (Mem.le.refl _) (Sub.nil _))))))) (v := .pointer (some ⟨g0, 0, none⟩)) (fun w hS => r_fieldAddr hm Try.underlying63 rfl ti61 rfl rfl rfl) ?_
              clear hm a; intro a hm
              refine h_event 19 [true, true, true, true, true, true, true, true, true, true, true, true, true, true, true, true, true, true, true, true].toArray rfl (by kernel_rfl) rfl ?_
              obtain ⟨w_92, hs', hS'⟩ := hS.store (P := Try.prog) (p := 1) (o := 0) (t := 61) (v := v_88) (vs := [v_88]) rfl ti61 ho_90.cellsA rfl rfl (by intro u hu; simp only [List.mem_cons, List.not_mem_nil, or_false] at hu; rcases hu with rfl <;> first | rfl | exact ho_90.one)
              refine s_store hm rfl rfl hs' ?_
              replace hS : Sep w0 w_92 [N_65, Mem.one g0 (.cells ([v_88, p0_1] : List Value).toArray 63 (0, 0)), Mem.no, M0_1, Mem.one g_2 (.cells ([.int .i64 x1.Index, .int .i64 x1.Entry.Sess, .int .i64 x1.Entry.Seq, .int .i64 x1.Entry.Cmd.Kind, .int .i64 x1.Entry.Cmd.Who, p1_2, p1_3, p1_4, .int .i64 x1.Result.Err, p1_5, .int .i64 x1.Result.N] : List Value).toArray 51 (0, 0)), M_89] Z := hS'
              clear hs' hS'
              refine wpList_nil ?_
              refine x_then_n ⟨(hS.sub (.cons (Mem.le.refl _) (.cons (Mem.no_le _) (.cons (Mem.no_le _) (.cons (Mem.le.refl _) (.cons (Mem.le.refl _) (Sub.nil _))))))), ?_⟩
              refine h_done (by kernel_rfl) ?_
              replace hm : Fr 80 a [(0, .pointer (some ⟨g0, 0, none⟩)), (3, .pointer (some ⟨g_2, 0, none⟩)), (4, .bool false), (5, .int .i64 x_8)] := hm.keep [0, 3, 4, 5]
              replace hS : Sep w0 w_92 [N_65, Mem.one g0 (.cells ([v_88, p0_1] : List Value).toArray 63 (0, 0)), Mem.no, M0_1, Mem.one g_2 (.cells ([.int .i64 x1.Index, .int .i64 x1.Entry.Sess, .int .i64 x1.Entry.Seq, .int .i64 x1.Entry.Cmd.Kind, .int .i64 x1.Entry.Cmd.Who, p1_2, p1_3, p1_4, .int .i64 x1.Result.Err, p1_5, .int .i64 x1.Result.N] : List Value).toArray 51 (0, 0)), M_89] Z := hS
              replace hm : Fr 80 a [(0, .pointer (some ⟨g0, 0, none⟩)), (3, .pointer (some ⟨g_2, 0, none⟩)), (4, .bool false), (5, .int .i64 x_8)] := hm.keep [0, 3, 4, 5]
              exact x_then_n (hJ_j_28 t_86 H _ _ ⟨v_88, N_65, M_89, hm, (Sep.sel hS [0, 1, 1001, 3, 4, 5] (by decide)), le_65, (ho_90.mono (Mem.un_left (Mem.le.refl _)))⟩)
            · refine ⟨_, [true, true, true, true, true, true, true, true, false, true, true, true, true, true, true, false, false, false, false, false].toArray, rfl, rfl, ?_⟩
              refine s_load hm rfl rfl (hS.load_one (p := 1) rfl Try.underlying61 rfl rfl) ?_
              clear hm a; intro a hm
              refine wpList_nil ?_
              refine x_then_n ⟨(hS.sub (.cons (Mem.le.refl _) (.cons (Mem.no_le _) (.cons (Mem.no_le _) (.cons (Mem.le.refl _) (.cons (Mem.le.refl _) (Sub.nil _))))))), ?_⟩
              refine h_takeE 15 [true, true, true, true, true, true, true, true, false, true, true, true, true, true, true, true, false, false, false, false].toArray rfl (by kernel_rfl) (by kernel_rfl) (by kernel_rfl) (fun _ _ _ _ h => h) rfl rfl rfl rfl hm (hS.sub (.cons (Mem.le.refl _) (.cons (Mem.no_le _) (.cons (Mem.no_le _) (.cons (Mem.le.refl _) (.cons (Mem.le.refl _) (Sub.nil _))))))) (f := fun v => v) (r_slice hm Try.underlying61 ti84 rfl rfl hr_66 rfl rfl et_83) ?_
              intro v_94 hr_95
              clear hm a; intro a hm
              refine h_event 8 [true, true, true, true, true, true, true, true, true, true, true, true, true, true, true, true, false, false, false, false].toArray rfl (by kernel_rfl) rfl ?_
              refine s_append (J := (A.un N_65)) (I' := (A.un N_65)) (p := 5) 1256584717458 hm rfl rfl rfl Try.underlying61 ti84 rfl rfl rfl rfl hS rfl ho_71 (hr_76.src (Mem.un_le (hA.trans hS.old) ((Mem.le.refl _).trans (hS.own 0)))) ((Mem.le.refl _).trans (hS.sndA hA)) (Mem.un_left (Mem.le.refl _)) et_77 ?_
              intro w_97 v_98 M_99 hS' ho_100
              clear hm a; intro a hm
              replace hS : Sep w0 w_97 [N_65, Mem.one g0 (.cells ([p0_0, p0_1] : List Value).toArray 63 (0, 0)), Mem.no, M0_1, Mem.one g_2 (.cells ([.int .i64 x1.Index, .int .i64 x1.Entry.Sess, .int .i64 x1.Entry.Seq, .int .i64 x1.Entry.Cmd.Kind, .int .i64 x1.Entry.Cmd.Who, p1_2, p1_3, p1_4, .int .i64 x1.Result.Err, p1_5, .int .i64 x1.Result.N] : List Value).toArray 51 (0, 0)), M_99] Z := hS'
              clear hS'
              refine wpList_nil ?_
              refine x_then_n ⟨(hS.sub (.cons (Mem.le.refl _) (.cons (Mem.no_le _) (.cons (Mem.no_le _) (.cons (Mem.le.refl _) (.cons (Mem.le.refl _) (Sub.nil _))))))), ?_⟩
              refine h_event 16 [true, true, true, true, true, true, true, true, true, true, true, true, true, true, true, true, true, false, false, false].toArray rfl (by kernel_rfl) rfl ?_
              refine s_append (J := (A.un N_65)) (I' := (A.un N_65)) (p := 5) 1256584717458 hm rfl rfl rfl Try.underlying61 ti84 rfl rfl rfl rfl hS rfl ho_100 (hr_95.src (Mem.un_le (hA.trans hS.old) ((Mem.le.refl _).trans (hS.own 0)))) (Mem.un_left (Mem.le.refl _)) (Mem.un_left (Mem.le.refl _)) et_86 ?_
              intro w_103 v_104 M_105 hS' ho_106
              clear hm a; intro a hm
              replace hS : Sep w0 w_103 [N_65, Mem.one g0 (.cells ([p0_0, p0_1] : List Value).toArray 63 (0, 0)), Mem.no, M0_1, Mem.one g_2 (.cells ([.int .i64 x1.Index, .int .i64 x1.Entry.Sess, .int .i64 x1.Entry.Seq, .int .i64 x1.Entry.Cmd.Kind, .int .i64 x1.Entry.Cmd.Who, p1_2, p1_3, p1_4, .int .i64 x1.Result.Err, p1_5, .int .i64 x1.Result.N] : List Value).toArray 51 (0, 0)), M_105] Z := hS'
              clear hS'
              refine wpList_nil ?_
              refine x_then_n ⟨(hS.sub (.cons (Mem.le.refl _) (.cons (Mem.no_le _) (.cons (Mem.no_le _) (.cons (Mem.le.refl _) (.cons (Mem.le.refl _) (Sub.nil _))))))), ?_⟩
              refine h_take 17 [true, true, true, true, true, true, true, true, true, true, true, true, true, true, true, true, true, true, false, false].toArray rfl (by kernel_rfl) (by kernel_rfl) (by kernel_rfl) (fun _ _ _ _ h => h) rfl rfl rfl rfl hm (hS.sub (.cons (Mem.le.refl _) (.cons (Mem.no_le _) (.cons (Mem.no_le _) (.cons (Mem.le.refl _) (.cons (Mem.le.refl _) (Sub.nil _))))))) (v := .pointer (some ⟨g0, 0, none⟩)) (fun w hS => r_nilCheck hm rfl) ?_
              clear hm a; intro a hm
              refine h_take 18 [true, true, true, true, true, true, true, true, true, true, true, true, true, true, true, true, true, true, true, false].toArray rfl (by kernel_rfl) (by kernel_rfl) (by kernel_rfl) (fun _ _ _ _ h => h) rfl rfl rfl rfl hm (hS.sub (.cons (Mem.le.refl _) (.cons (Mem.no_le _) (.cons (Mem.no_le _) (.cons (Mem.le.refl _) (.cons (Mem.le.refl _) (Sub.nil _))))))) (v := .pointer (some ⟨g0, 0, none⟩)) (fun w hS => r_fieldAddr hm Try.underlying63 rfl ti61 rfl rfl rfl) ?_
              clear hm a; intro a hm
              refine h_event 19 [true, true, true, true, true, true, true, true, true, true, true, true, true, true, true, true, true, true, true, true].toArray rfl (by kernel_rfl) rfl ?_
              obtain ⟨w_108, hs', hS'⟩ := hS.store (P := Try.prog) (p := 1) (o := 0) (t := 61) (v := v_104) (vs := [v_104]) rfl ti61 ho_106.cellsA rfl rfl (by intro u hu; simp only [List.mem_cons, List.not_mem_nil, or_false] at hu; rcases hu with rfl <;> first | rfl | exact ho_106.one)
              refine s_store hm rfl rfl hs' ?_
              replace hS : Sep w0 w_108 [N_65, Mem.one g0 (.cells ([v_104, p0_1] : List Value).toArray 63 (0, 0)), Mem.no, M0_1, Mem.one g_2 (.cells ([.int .i64 x1.Index, .int .i64 x1.Entry.Sess, .int .i64 x1.Entry.Seq, .int .i64 x1.Entry.Cmd.Kind, .int .i64 x1.Entry.Cmd.Who, p1_2, p1_3, p1_4, .int .i64 x1.Result.Err, p1_5, .int .i64 x1.Result.N] : List Value).toArray 51 (0, 0)), M_105] Z := hS'
              clear hs' hS'
              refine wpList_nil ?_
              refine x_then_n ⟨(hS.sub (.cons (Mem.le.refl _) (.cons (Mem.no_le _) (.cons (Mem.no_le _) (.cons (Mem.le.refl _) (.cons (Mem.le.refl _) (Sub.nil _))))))), ?_⟩
              refine h_done (by kernel_rfl) ?_
              replace hm : Fr 80 a [(0, .pointer (some ⟨g0, 0, none⟩)), (3, .pointer (some ⟨g_2, 0, none⟩)), (4, .bool false), (5, .int .i64 x_8)] := hm.keep [0, 3, 4, 5]
              replace hS : Sep w0 w_108 [N_65, Mem.one g0 (.cells ([v_104, p0_1] : List Value).toArray 63 (0, 0)), Mem.no, M0_1, Mem.one g_2 (.cells ([.int .i64 x1.Index, .int .i64 x1.Entry.Sess, .int .i64 x1.Entry.Seq, .int .i64 x1.Entry.Cmd.Kind, .int .i64 x1.Entry.Cmd.Who, p1_2, p1_3, p1_4, .int .i64 x1.Result.Err, p1_5, .int .i64 x1.Result.N] : List Value).toArray 51 (0, 0)), M_105] Z := hS
              replace hm : Fr 80 a [(0, .pointer (some ⟨g0, 0, none⟩)), (3, .pointer (some ⟨g_2, 0, none⟩)), (4, .bool false), (5, .int .i64 x_8)] := hm.keep [0, 3, 4, 5]
              exact x_then_n (hJ_j_28 t_86 H _ _ ⟨v_104, N_65, M_105, hm, (Sep.sel hS [0, 1, 1001, 3, 4, 5] (by decide)), le_65, (ho_106.mono (Mem.un_left (Mem.le.refl _)))⟩)
          · refine ⟨_, [true, true, true, true, true, false, true, false, false, true, true, true, true, true, true, false, false, false, false, false].toArray, rfl, rfl, ?_⟩
            refine s_load hm rfl rfl (hS.load_one (p := 1) rfl Try.underlying61 rfl rfl) ?_
            clear hm a; intro a hm
            refine wpList_nil ?_
            refine x_then_n ⟨(hS.sub (.cons (Mem.le.refl _) (.cons (Mem.no_le _) (.cons (Mem.no_le _) (.cons (Mem.le.refl _) (.cons (Mem.le.refl _) (Sub.nil _))))))), ?_⟩
            refine h_takeE 15 [true, true, true, true, true, false, true, false, false, true, true, true, true, true, true, true, false, false, false, false].toArray rfl (by kernel_rfl) (by kernel_rfl) (by kernel_rfl) (fun _ _ _ _ h => h) rfl rfl rfl rfl hm (hS.sub (.cons (Mem.le.refl _) (.cons (Mem.no_le _) (.cons (Mem.no_le _) (.cons (Mem.le.refl _) (.cons (Mem.le.refl _) (Sub.nil _))))))) (f := fun v => v) (r_slice hm Try.underlying61 ti84 rfl rfl hr_66 rfl rfl et_83) ?_
            intro v_110 hr_111
            clear hm a; intro a hm
            refine h_event 5 [true, true, true, true, true, true, true, false, false, true, true, true, true, true, true, true, false, false, false, false].toArray rfl (by kernel_rfl) rfl ?_
            refine s_load hm rfl rfl (hS.load_one (p := 1) rfl Try.underlying61 rfl rfl) ?_
            clear hm a; intro a hm
            refine wpList_nil ?_
            refine x_then_n ⟨(hS.sub (.cons (Mem.le.refl _) (.cons (Mem.no_le _) (.cons (Mem.no_le _) (.cons (Mem.le.refl _) (.cons (Mem.le.refl _) (Sub.nil _))))))), ?_⟩
            refine h_takeE 7 [true, true, true, true, true, true, true, true, false, true, true, true, true, true, true, true, false, false, false, false].toArray rfl (by kernel_rfl) (by kernel_rfl) (by kernel_rfl) (fun _ _ _ _ h => h) rfl rfl rfl rfl hm (hS.sub (.cons (Mem.le.refl _) (.cons (Mem.no_le _) (.cons (Mem.no_le _) (.cons (Mem.le.refl _) (.cons (Mem.le.refl _) (Sub.nil _))))))) (f := fun v => v) (r_slice hm Try.underlying61 ti84 rfl rfl hr_66 rfl rfl et_74) ?_
            intro v_113 hr_114
            clear hm a; intro a hm
            refine h_event 8 [true, true, true, true, true, true, true, true, true, true, true, true, true, true, true, true, false, false, false, false].toArray rfl (by kernel_rfl) rfl ?_
            refine s_append (J := (A.un N_65)) (I' := (A.un N_65)) (p := 5) 1256584717458 hm rfl rfl rfl Try.underlying61 ti84 rfl rfl rfl rfl hS rfl ho_71 (hr_114.src (Mem.un_le (hA.trans hS.old) ((Mem.le.refl _).trans (hS.own 0)))) ((Mem.le.refl _).trans (hS.sndA hA)) (Mem.un_left (Mem.le.refl _)) et_77 ?_
            intro w_116 v_117 M_118 hS' ho_119
            clear hm a; intro a hm
            replace hS : Sep w0 w_116 [N_65, Mem.one g0 (.cells ([p0_0, p0_1] : List Value).toArray 63 (0, 0)), Mem.no, M0_1, Mem.one g_2 (.cells ([.int .i64 x1.Index, .int .i64 x1.Entry.Sess, .int .i64 x1.Entry.Seq, .int .i64 x1.Entry.Cmd.Kind, .int .i64 x1.Entry.Cmd.Who, p1_2, p1_3, p1_4, .int .i64 x1.Result.Err, p1_5, .int .i64 x1.Result.N] : List Value).toArray 51 (0, 0)), M_118] Z := hS'
            clear hS'
            refine wpList_nil ?_
            refine x_then_n ⟨(hS.sub (.cons (Mem.le.refl _) (.cons (Mem.no_le _) (.cons (Mem.no_le _) (.cons (Mem.le.refl _) (.cons (Mem.le.refl _) (Sub.nil _))))))), ?_⟩
            refine h_event 16 [true, true, true, true, true, true, true, true, true, true, true, true, true, true, true, true, true, false, false, false].toArray rfl (by kernel_rfl) rfl ?_
            refine s_append (J := (A.un N_65)) (I' := (A.un N_65)) (p := 5) 1256584717458 hm rfl rfl rfl Try.underlying61 ti84 rfl rfl rfl rfl hS rfl ho_119 (hr_111.src (Mem.un_le (hA.trans hS.old) ((Mem.le.refl _).trans (hS.own 0)))) (Mem.un_left (Mem.le.refl _)) (Mem.un_left (Mem.le.refl _)) et_86 ?_
            intro w_122 v_123 M_124 hS' ho_125
            clear hm a; intro a hm
            replace hS : Sep w0 w_122 [N_65, Mem.one g0 (.cells ([p0_0, p0_1] : List Value).toArray 63 (0, 0)), Mem.no, M0_1, Mem.one g_2 (.cells ([.int .i64 x1.Index, .int .i64 x1.Entry.Sess, .int .i64 x1.Entry.Seq, .int .i64 x1.Entry.Cmd.Kind, .int .i64 x1.Entry.Cmd.Who, p1_2, p1_3, p1_4, .int .i64 x1.Result.Err, p1_5, .int .i64 x1.Result.N] : List Value).toArray 51 (0, 0)), M_124] Z := hS'
            clear hS'
            refine wpList_nil ?_
            refine x_then_n ⟨(hS.sub (.cons (Mem.le.refl _) (.cons (Mem.no_le _) (.cons (Mem.no_le _) (.cons (Mem.le.refl _) (.cons (Mem.le.refl _) (Sub.nil _))))))), ?_⟩
            refine h_take 17 [true, true, true, true, true, true, true, true, true, true, true, true, true, true, true, true, true, true, false, false].toArray rfl (by kernel_rfl) (by kernel_rfl) (by kernel_rfl) (fun _ _ _ _ h => h) rfl rfl rfl rfl hm (hS.sub (.cons (Mem.le.refl _) (.cons (Mem.no_le _) (.cons (Mem.no_le _) (.cons (Mem.le.refl _) (.cons (Mem.le.refl _) (Sub.nil _))))))) (v := .pointer (some ⟨g0, 0, none⟩)) (fun w hS => r_nilCheck hm rfl) ?_
            clear hm a; intro a hm
            refine h_take 18 [true, true, true, true, true, true, true, true, true, true, true, true, true, true, true, true, true, true, true, false].toArray rfl (by kernel_rfl) (by kernel_rfl) (by kernel_rfl) (fun _ _ _ _ h => h) rfl rfl rfl rfl hm (hS.sub (.cons (Mem.le.refl _) (.cons (Mem.no_le _) (.cons (Mem.no_le _) (.cons (Mem.le.refl _) (.cons (Mem.le.refl _) (Sub.nil _))))))) (v := .pointer (some ⟨g0, 0, none⟩)) (fun w hS => r_fieldAddr hm Try.underlying63 rfl ti61 rfl rfl rfl) ?_
            clear hm a; intro a hm
            refine h_event 19 [true, true, true, true, true, true, true, true, true, true, true, true, true, true, true, true, true, true, true, true].toArray rfl (by kernel_rfl) rfl ?_
            obtain ⟨w_127, hs', hS'⟩ := hS.store (P := Try.prog) (p := 1) (o := 0) (t := 61) (v := v_123) (vs := [v_123]) rfl ti61 ho_125.cellsA rfl rfl (by intro u hu; simp only [List.mem_cons, List.not_mem_nil, or_false] at hu; rcases hu with rfl <;> first | rfl | exact ho_125.one)
            refine s_store hm rfl rfl hs' ?_
            replace hS : Sep w0 w_127 [N_65, Mem.one g0 (.cells ([v_123, p0_1] : List Value).toArray 63 (0, 0)), Mem.no, M0_1, Mem.one g_2 (.cells ([.int .i64 x1.Index, .int .i64 x1.Entry.Sess, .int .i64 x1.Entry.Seq, .int .i64 x1.Entry.Cmd.Kind, .int .i64 x1.Entry.Cmd.Who, p1_2, p1_3, p1_4, .int .i64 x1.Result.Err, p1_5, .int .i64 x1.Result.N] : List Value).toArray 51 (0, 0)), M_124] Z := hS'
            clear hs' hS'
            refine wpList_nil ?_
            refine x_then_n ⟨(hS.sub (.cons (Mem.le.refl _) (.cons (Mem.no_le _) (.cons (Mem.no_le _) (.cons (Mem.le.refl _) (.cons (Mem.le.refl _) (Sub.nil _))))))), ?_⟩
            refine h_done (by kernel_rfl) ?_
            replace hm : Fr 80 a [(0, .pointer (some ⟨g0, 0, none⟩)), (3, .pointer (some ⟨g_2, 0, none⟩)), (4, .bool false), (5, .int .i64 x_8)] := hm.keep [0, 3, 4, 5]
            replace hS : Sep w0 w_127 [N_65, Mem.one g0 (.cells ([v_123, p0_1] : List Value).toArray 63 (0, 0)), Mem.no, M0_1, Mem.one g_2 (.cells ([.int .i64 x1.Index, .int .i64 x1.Entry.Sess, .int .i64 x1.Entry.Seq, .int .i64 x1.Entry.Cmd.Kind, .int .i64 x1.Entry.Cmd.Who, p1_2, p1_3, p1_4, .int .i64 x1.Result.Err, p1_5, .int .i64 x1.Result.N] : List Value).toArray 51 (0, 0)), M_124] Z := hS
            replace hm : Fr 80 a [(0, .pointer (some ⟨g0, 0, none⟩)), (3, .pointer (some ⟨g_2, 0, none⟩)), (4, .bool false), (5, .int .i64 x_8)] := hm.keep [0, 3, 4, 5]
            exact x_then_n (hJ_j_28 t_86 H _ _ ⟨v_123, N_65, M_124, hm, (Sep.sel hS [0, 1, 1001, 3, 4, 5] (by decide)), le_65, (ho_125.mono (Mem.un_left (Mem.le.refl _)))⟩)
        · refine ⟨_, [true, false, true, true, true, true, true, false, false, true, true, true, false, true, true, false, false, false, false, false].toArray, rfl, rfl, ?_⟩
          refine s_load hm rfl rfl (hS.load_one (p := 1) rfl Try.underlying61 rfl rfl) ?_
          clear hm a; intro a hm
          refine wpList_nil ?_
          refine x_then_n ⟨(hS.sub (.cons (Mem.le.refl _) (.cons (Mem.no_le _) (.cons (Mem.no_le _) (.cons (Mem.le.refl _) (.cons (Mem.le.refl _) (Sub.nil _))))))), ?_⟩
          refine h_takeE 7 [true, false, true, true, true, true, true, true, false, true, true, true, false, true, true, false, false, false, false, false].toArray rfl (by kernel_rfl) (by kernel_rfl) (by kernel_rfl) (fun _ _ _ _ h => h) rfl rfl rfl rfl hm (hS.sub (.cons (Mem.le.refl _) (.cons (Mem.no_le _) (.cons (Mem.no_le _) (.cons (Mem.le.refl _) (.cons (Mem.le.refl _) (Sub.nil _))))))) (f := fun v => v) (r_slice hm Try.underlying61 ti84 rfl rfl hr_66 rfl rfl et_74) ?_
          intro v_129 hr_130
          clear hm a; intro a hm
          refine h_events [1, 12] (by kernel_rfl) (by simp) ?_
          intro i hi; simp only [List.mem_cons, List.not_mem_nil, or_false] at hi; rcases hi with rfl | rfl
          · refine ⟨_, [true, true, true, true, true, true, true, true, false, true, true, true, false, true, true, false, false, false, false, false].toArray, rfl, rfl, ?_⟩
            have hq_135 : Reps k_hocketref15_call N_65 ([] : List hocketref15_call) _ := (Reps.nil k_hocketref15_call _)
            refine s_buildSlice hm rfl Try.underlying61 ti84 rfl rfl rfl .nil rfl rfl rfl hS hq_135 rfl ?_
            intro w_131 v_132 M_133 hS' ho_134
            clear hm a; intro a hm
            replace hS : Sep w0 w_131 [N_65, Mem.one g0 (.cells ([p0_0, p0_1] : List Value).toArray 63 (0, 0)), Mem.no, M0_1, Mem.one g_2 (.cells ([.int .i64 x1.Index, .int .i64 x1.Entry.Sess, .int .i64 x1.Entry.Seq, .int .i64 x1.Entry.Cmd.Kind, .int .i64 x1.Entry.Cmd.Who, p1_2, p1_3, p1_4, .int .i64 x1.Result.Err, p1_5, .int .i64 x1.Result.N] : List Value).toArray 51 (0, 0)), M_133] Z := hS'
            clear hS' hq_135
            refine wpList_nil ?_
            refine x_then_n ⟨(hS.sub (.cons (Mem.le.refl _) (.cons (Mem.no_le _) (.cons (Mem.no_le _) (.cons (Mem.le.refl _) (.cons (Mem.le.refl _) (Sub.nil _))))))), ?_⟩
            refine h_events [8, 12] (by kernel_rfl) (by simp) ?_
            intro i hi; simp only [List.mem_cons, List.not_mem_nil, or_false] at hi; rcases hi with rfl | rfl
            · refine ⟨_, [true, true, true, true, true, true, true, true, true, true, true, true, false, true, true, false, false, false, false, false].toArray, rfl, rfl, ?_⟩
              refine s_append (J := (A.un N_65)) (I' := (A.un N_65)) (p := 5) 1256584717458 hm rfl rfl rfl Try.underlying61 ti84 rfl rfl rfl rfl hS rfl ho_134 (hr_130.src (Mem.un_le (hA.trans hS.old) ((Mem.le.refl _).trans (hS.own 0)))) ((Mem.le.refl _).trans (hS.sndA hA)) (Mem.un_left (Mem.le.refl _)) et_77 ?_
              intro w_138 v_139 M_140 hS' ho_141
              clear hm a; intro a hm
              replace hS : Sep w0 w_138 [N_65, Mem.one g0 (.cells ([p0_0, p0_1] : List Value).toArray 63 (0, 0)), Mem.no, M0_1, Mem.one g_2 (.cells ([.int .i64 x1.Index, .int .i64 x1.Entry.Sess, .int .i64 x1.Entry.Seq, .int .i64 x1.Entry.Cmd.Kind, .int .i64 x1.Entry.Cmd.Who, p1_2, p1_3, p1_4, .int .i64 x1.Result.Err, p1_5, .int .i64 x1.Result.N] : List Value).toArray 51 (0, 0)), M_140] Z := hS'
              clear hS'
              refine wpList_nil ?_
              refine x_then_n ⟨(hS.sub (.cons (Mem.le.refl _) (.cons (Mem.no_le _) (.cons (Mem.no_le _) (.cons (Mem.le.refl _) (.cons (Mem.le.refl _) (Sub.nil _))))))), ?_⟩
              refine h_event 12 [true, true, true, true, true, true, true, true, true, true, true, true, true, true, true, false, false, false, false, false].toArray rfl (by kernel_rfl) rfl ?_
              refine s_load hm rfl rfl (hS.load_one (p := 1) rfl Try.underlying61 rfl rfl) ?_
              clear hm a; intro a hm
              refine wpList_nil ?_
              refine x_then_n ⟨(hS.sub (.cons (Mem.le.refl _) (.cons (Mem.no_le _) (.cons (Mem.no_le _) (.cons (Mem.le.refl _) (.cons (Mem.le.refl _) (Sub.nil _))))))), ?_⟩
              refine h_takeE 15 [true, true, true, true, true, true, true, true, true, true, true, true, true, true, true, true, false, false, false, false].toArray rfl (by kernel_rfl) (by kernel_rfl) (by kernel_rfl) (fun _ _ _ _ h => h) rfl rfl rfl rfl hm (hS.sub (.cons (Mem.le.refl _) (.cons (Mem.no_le _) (.cons (Mem.no_le _) (.cons (Mem.le.refl _) (.cons (Mem.le.refl _) (Sub.nil _))))))) (f := fun v => v) (r_slice hm Try.underlying61 ti84 rfl rfl hr_66 rfl rfl et_83) ?_
              intro v_144 hr_145
              clear hm a; intro a hm
              refine h_event 16 [true, true, true, true, true, true, true, true, true, true, true, true, true, true, true, true, true, false, false, false].toArray rfl (by kernel_rfl) rfl ?_
              refine s_append (J := (A.un N_65)) (I' := (A.un N_65)) (p := 5) 1256584717458 hm rfl rfl rfl Try.underlying61 ti84 rfl rfl rfl rfl hS rfl ho_141 (hr_145.src (Mem.un_le (hA.trans hS.old) ((Mem.le.refl _).trans (hS.own 0)))) (Mem.un_left (Mem.le.refl _)) (Mem.un_left (Mem.le.refl _)) et_86 ?_
              intro w_147 v_148 M_149 hS' ho_150
              clear hm a; intro a hm
              replace hS : Sep w0 w_147 [N_65, Mem.one g0 (.cells ([p0_0, p0_1] : List Value).toArray 63 (0, 0)), Mem.no, M0_1, Mem.one g_2 (.cells ([.int .i64 x1.Index, .int .i64 x1.Entry.Sess, .int .i64 x1.Entry.Seq, .int .i64 x1.Entry.Cmd.Kind, .int .i64 x1.Entry.Cmd.Who, p1_2, p1_3, p1_4, .int .i64 x1.Result.Err, p1_5, .int .i64 x1.Result.N] : List Value).toArray 51 (0, 0)), M_149] Z := hS'
              clear hS'
              refine wpList_nil ?_
              refine x_then_n ⟨(hS.sub (.cons (Mem.le.refl _) (.cons (Mem.no_le _) (.cons (Mem.no_le _) (.cons (Mem.le.refl _) (.cons (Mem.le.refl _) (Sub.nil _))))))), ?_⟩
              refine h_take 17 [true, true, true, true, true, true, true, true, true, true, true, true, true, true, true, true, true, true, false, false].toArray rfl (by kernel_rfl) (by kernel_rfl) (by kernel_rfl) (fun _ _ _ _ h => h) rfl rfl rfl rfl hm (hS.sub (.cons (Mem.le.refl _) (.cons (Mem.no_le _) (.cons (Mem.no_le _) (.cons (Mem.le.refl _) (.cons (Mem.le.refl _) (Sub.nil _))))))) (v := .pointer (some ⟨g0, 0, none⟩)) (fun w hS => r_nilCheck hm rfl) ?_
              clear hm a; intro a hm
              refine h_take 18 [true, true, true, true, true, true, true, true, true, true, true, true, true, true, true, true, true, true, true, false].toArray rfl (by kernel_rfl) (by kernel_rfl) (by kernel_rfl) (fun _ _ _ _ h => h) rfl rfl rfl rfl hm (hS.sub (.cons (Mem.le.refl _) (.cons (Mem.no_le _) (.cons (Mem.no_le _) (.cons (Mem.le.refl _) (.cons (Mem.le.refl _) (Sub.nil _))))))) (v := .pointer (some ⟨g0, 0, none⟩)) (fun w hS => r_fieldAddr hm Try.underlying63 rfl ti61 rfl rfl rfl) ?_
              clear hm a; intro a hm
              refine h_event 19 [true, true, true, true, true, true, true, true, true, true, true, true, true, true, true, true, true, true, true, true].toArray rfl (by kernel_rfl) rfl ?_
              obtain ⟨w_152, hs', hS'⟩ := hS.store (P := Try.prog) (p := 1) (o := 0) (t := 61) (v := v_148) (vs := [v_148]) rfl ti61 ho_150.cellsA rfl rfl (by intro u hu; simp only [List.mem_cons, List.not_mem_nil, or_false] at hu; rcases hu with rfl <;> first | rfl | exact ho_150.one)
              refine s_store hm rfl rfl hs' ?_
              replace hS : Sep w0 w_152 [N_65, Mem.one g0 (.cells ([v_148, p0_1] : List Value).toArray 63 (0, 0)), Mem.no, M0_1, Mem.one g_2 (.cells ([.int .i64 x1.Index, .int .i64 x1.Entry.Sess, .int .i64 x1.Entry.Seq, .int .i64 x1.Entry.Cmd.Kind, .int .i64 x1.Entry.Cmd.Who, p1_2, p1_3, p1_4, .int .i64 x1.Result.Err, p1_5, .int .i64 x1.Result.N] : List Value).toArray 51 (0, 0)), M_149] Z := hS'
              clear hs' hS'
              refine wpList_nil ?_
              refine x_then_n ⟨(hS.sub (.cons (Mem.le.refl _) (.cons (Mem.no_le _) (.cons (Mem.no_le _) (.cons (Mem.le.refl _) (.cons (Mem.le.refl _) (Sub.nil _))))))), ?_⟩
              refine h_done (by kernel_rfl) ?_
              replace hm : Fr 80 a [(0, .pointer (some ⟨g0, 0, none⟩)), (3, .pointer (some ⟨g_2, 0, none⟩)), (4, .bool false), (5, .int .i64 x_8)] := hm.keep [0, 3, 4, 5]
              replace hS : Sep w0 w_152 [N_65, Mem.one g0 (.cells ([v_148, p0_1] : List Value).toArray 63 (0, 0)), Mem.no, M0_1, Mem.one g_2 (.cells ([.int .i64 x1.Index, .int .i64 x1.Entry.Sess, .int .i64 x1.Entry.Seq, .int .i64 x1.Entry.Cmd.Kind, .int .i64 x1.Entry.Cmd.Who, p1_2, p1_3, p1_4, .int .i64 x1.Result.Err, p1_5, .int .i64 x1.Result.N] : List Value).toArray 51 (0, 0)), M_149] Z := hS
              replace hm : Fr 80 a [(0, .pointer (some ⟨g0, 0, none⟩)), (3, .pointer (some ⟨g_2, 0, none⟩)), (4, .bool false), (5, .int .i64 x_8)] := hm.keep [0, 3, 4, 5]
              exact x_then_n (hJ_j_28 t_86 H _ _ ⟨v_148, N_65, M_149, hm, (Sep.sel hS [0, 1, 1001, 3, 4, 5] (by decide)), le_65, (ho_150.mono (Mem.un_left (Mem.le.refl _)))⟩)
            · refine ⟨_, [true, true, true, true, true, true, true, true, false, true, true, true, true, true, true, false, false, false, false, false].toArray, rfl, rfl, ?_⟩
              refine s_load hm rfl rfl (hS.load_one (p := 1) rfl Try.underlying61 rfl rfl) ?_
              clear hm a; intro a hm
              refine wpList_nil ?_
              refine x_then_n ⟨(hS.sub (.cons (Mem.le.refl _) (.cons (Mem.no_le _) (.cons (Mem.no_le _) (.cons (Mem.le.refl _) (.cons (Mem.le.refl _) (Sub.nil _))))))), ?_⟩
              refine h_takeE 15 [true, true, true, true, true, true, true, true, false, true, true, true, true, true, true, true, false, false, false, false].toArray rfl (by kernel_rfl) (by kernel_rfl) (by kernel_rfl) (fun _ _ _ _ h => h) rfl rfl rfl rfl hm (hS.sub (.cons (Mem.le.refl _) (.cons (Mem.no_le _) (.cons (Mem.no_le _) (.cons (Mem.le.refl _) (.cons (Mem.le.refl _) (Sub.nil _))))))) (f := fun v => v) (r_slice hm Try.underlying61 ti84 rfl rfl hr_66 rfl rfl et_83) ?_
              intro v_154 hr_155
              clear hm a; intro a hm
              refine h_event 8 [true, true, true, true, true, true, true, true, true, true, true, true, true, true, true, true, false, false, false, false].toArray rfl (by kernel_rfl) rfl ?_
              refine s_append (J := (A.un N_65)) (I' := (A.un N_65)) (p := 5) 1256584717458 hm rfl rfl rfl Try.underlying61 ti84 rfl rfl rfl rfl hS rfl ho_134 (hr_130.src (Mem.un_le (hA.trans hS.old) ((Mem.le.refl _).trans (hS.own 0)))) ((Mem.le.refl _).trans (hS.sndA hA)) (Mem.un_left (Mem.le.refl _)) et_77 ?_
              intro w_157 v_158 M_159 hS' ho_160
              clear hm a; intro a hm
              replace hS : Sep w0 w_157 [N_65, Mem.one g0 (.cells ([p0_0, p0_1] : List Value).toArray 63 (0, 0)), Mem.no, M0_1, Mem.one g_2 (.cells ([.int .i64 x1.Index, .int .i64 x1.Entry.Sess, .int .i64 x1.Entry.Seq, .int .i64 x1.Entry.Cmd.Kind, .int .i64 x1.Entry.Cmd.Who, p1_2, p1_3, p1_4, .int .i64 x1.Result.Err, p1_5, .int .i64 x1.Result.N] : List Value).toArray 51 (0, 0)), M_159] Z := hS'
              clear hS'
              refine wpList_nil ?_
              refine x_then_n ⟨(hS.sub (.cons (Mem.le.refl _) (.cons (Mem.no_le _) (.cons (Mem.no_le _) (.cons (Mem.le.refl _) (.cons (Mem.le.refl _) (Sub.nil _))))))), ?_⟩
              refine h_event 16 [true, true, true, true, true, true, true, true, true, true, true, true, true, true, true, true, true, false, false, false].toArray rfl (by kernel_rfl) rfl ?_
              refine s_append (J := (A.un N_65)) (I' := (A.un N_65)) (p := 5) 1256584717458 hm rfl rfl rfl Try.underlying61 ti84 rfl rfl rfl rfl hS rfl ho_160 (hr_155.src (Mem.un_le (hA.trans hS.old) ((Mem.le.refl _).trans (hS.own 0)))) (Mem.un_left (Mem.le.refl _)) (Mem.un_left (Mem.le.refl _)) et_86 ?_
              intro w_163 v_164 M_165 hS' ho_166
              clear hm a; intro a hm
              replace hS : Sep w0 w_163 [N_65, Mem.one g0 (.cells ([p0_0, p0_1] : List Value).toArray 63 (0, 0)), Mem.no, M0_1, Mem.one g_2 (.cells ([.int .i64 x1.Index, .int .i64 x1.Entry.Sess, .int .i64 x1.Entry.Seq, .int .i64 x1.Entry.Cmd.Kind, .int .i64 x1.Entry.Cmd.Who, p1_2, p1_3, p1_4, .int .i64 x1.Result.Err, p1_5, .int .i64 x1.Result.N] : List Value).toArray 51 (0, 0)), M_165] Z := hS'
              clear hS'
              refine wpList_nil ?_
              refine x_then_n ⟨(hS.sub (.cons (Mem.le.refl _) (.cons (Mem.no_le _) (.cons (Mem.no_le _) (.cons (Mem.le.refl _) (.cons (Mem.le.refl _) (Sub.nil _))))))), ?_⟩
              refine h_take 17 [true, true, true, true, true, true, true, true, true, true, true, true, true, true, true, true, true, true, false, false].toArray rfl (by kernel_rfl) (by kernel_rfl) (by kernel_rfl) (fun _ _ _ _ h => h) rfl rfl rfl rfl hm (hS.sub (.cons (Mem.le.refl _) (.cons (Mem.no_le _) (.cons (Mem.no_le _) (.cons (Mem.le.refl _) (.cons (Mem.le.refl _) (Sub.nil _))))))) (v := .pointer (some ⟨g0, 0, none⟩)) (fun w hS => r_nilCheck hm rfl) ?_
              clear hm a; intro a hm
              refine h_take 18 [true, true, true, true, true, true, true, true, true, true, true, true, true, true, true, true, true, true, true, false].toArray rfl (by kernel_rfl) (by kernel_rfl) (by kernel_rfl) (fun _ _ _ _ h => h) rfl rfl rfl rfl hm (hS.sub (.cons (Mem.le.refl _) (.cons (Mem.no_le _) (.cons (Mem.no_le _) (.cons (Mem.le.refl _) (.cons (Mem.le.refl _) (Sub.nil _))))))) (v := .pointer (some ⟨g0, 0, none⟩)) (fun w hS => r_fieldAddr hm Try.underlying63 rfl ti61 rfl rfl rfl) ?_
              clear hm a; intro a hm
              refine h_event 19 [true, true, true, true, true, true, true, true, true, true, true, true, true, true, true, true, true, true, true, true].toArray rfl (by kernel_rfl) rfl ?_
              obtain ⟨w_168, hs', hS'⟩ := hS.store (P := Try.prog) (p := 1) (o := 0) (t := 61) (v := v_164) (vs := [v_164]) rfl ti61 ho_166.cellsA rfl rfl (by intro u hu; simp only [List.mem_cons, List.not_mem_nil, or_false] at hu; rcases hu with rfl <;> first | rfl | exact ho_166.one)
              refine s_store hm rfl rfl hs' ?_
              replace hS : Sep w0 w_168 [N_65, Mem.one g0 (.cells ([v_164, p0_1] : List Value).toArray 63 (0, 0)), Mem.no, M0_1, Mem.one g_2 (.cells ([.int .i64 x1.Index, .int .i64 x1.Entry.Sess, .int .i64 x1.Entry.Seq, .int .i64 x1.Entry.Cmd.Kind, .int .i64 x1.Entry.Cmd.Who, p1_2, p1_3, p1_4, .int .i64 x1.Result.Err, p1_5, .int .i64 x1.Result.N] : List Value).toArray 51 (0, 0)), M_165] Z := hS'
              clear hs' hS'
              refine wpList_nil ?_
              refine x_then_n ⟨(hS.sub (.cons (Mem.le.refl _) (.cons (Mem.no_le _) (.cons (Mem.no_le _) (.cons (Mem.le.refl _) (.cons (Mem.le.refl _) (Sub.nil _))))))), ?_⟩
              refine h_done (by kernel_rfl) ?_
              replace hm : Fr 80 a [(0, .pointer (some ⟨g0, 0, none⟩)), (3, .pointer (some ⟨g_2, 0, none⟩)), (4, .bool false), (5, .int .i64 x_8)] := hm.keep [0, 3, 4, 5]
              replace hS : Sep w0 w_168 [N_65, Mem.one g0 (.cells ([v_164, p0_1] : List Value).toArray 63 (0, 0)), Mem.no, M0_1, Mem.one g_2 (.cells ([.int .i64 x1.Index, .int .i64 x1.Entry.Sess, .int .i64 x1.Entry.Seq, .int .i64 x1.Entry.Cmd.Kind, .int .i64 x1.Entry.Cmd.Who, p1_2, p1_3, p1_4, .int .i64 x1.Result.Err, p1_5, .int .i64 x1.Result.N] : List Value).toArray 51 (0, 0)), M_165] Z := hS
              replace hm : Fr 80 a [(0, .pointer (some ⟨g0, 0, none⟩)), (3, .pointer (some ⟨g_2, 0, none⟩)), (4, .bool false), (5, .int .i64 x_8)] := hm.keep [0, 3, 4, 5]
              exact x_then_n (hJ_j_28 t_86 H _ _ ⟨v_164, N_65, M_165, hm, (Sep.sel hS [0, 1, 1001, 3, 4, 5] (by decide)), le_65, (ho_166.mono (Mem.un_left (Mem.le.refl _)))⟩)
          · refine ⟨_, [true, false, true, true, true, true, true, true, false, true, true, true, true, true, true, false, false, false, false, false].toArray, rfl, rfl, ?_⟩
            refine s_load hm rfl rfl (hS.load_one (p := 1) rfl Try.underlying61 rfl rfl) ?_
            clear hm a; intro a hm
            refine wpList_nil ?_
            refine x_then_n ⟨(hS.sub (.cons (Mem.le.refl _) (.cons (Mem.no_le _) (.cons (Mem.no_le _) (.cons (Mem.le.refl _) (.cons (Mem.le.refl _) (Sub.nil _))))))), ?_⟩
            refine h_takeE 15 [true, false, true, true, true, true, true, true, false, true, true, true, true, true, true, true, false, false, false, false].toArray rfl (by kernel_rfl) (by kernel_rfl) (by kernel_rfl) (fun _ _ _ _ h => h) rfl rfl rfl rfl hm (hS.sub (.cons (Mem.le.refl _) (.cons (Mem.no_le _) (.cons (Mem.no_le _) (.cons (Mem.le.refl _) (.cons (Mem.le.refl _) (Sub.nil _))))))) (f := fun v => v) (r_slice hm Try.underlying61 ti84 rfl rfl hr_66 rfl rfl et_83) ?_
            intro v_170 hr_171
            clear hm a; intro a hm
            refine h_event 1 [true, true, true, true, true, true, true, true, false, true, true, true, true, true, true, true, false, false, false, false].toArray rfl (by kernel_rfl) rfl ?_
            have hq_176 : Reps k_hocketref15_call N_65 ([] : List hocketref15_call) _ := (Reps.nil k_hocketref15_call _)
            refine s_buildSlice hm rfl Try.underlying61 ti84 rfl rfl rfl .nil rfl rfl rfl hS hq_176 rfl ?_
            intro w_172 v_173 M_174 hS' ho_175
            clear hm a; intro a hm
            replace hS : Sep w0 w_172 [N_65, Mem.one g0 (.cells ([p0_0, p0_1] : List Value).toArray 63 (0, 0)), Mem.no, M0_1, Mem.one g_2 (.cells ([.int .i64 x1.Index, .int .i64 x1.Entry.Sess, .int .i64 x1.Entry.Seq, .int .i64 x1.Entry.Cmd.Kind, .int .i64 x1.Entry.Cmd.Who, p1_2, p1_3, p1_4, .int .i64 x1.Result.Err, p1_5, .int .i64 x1.Result.N] : List Value).toArray 51 (0, 0)), M_174] Z := hS'
            clear hS' hq_176
            refine wpList_nil ?_
            refine x_then_n ⟨(hS.sub (.cons (Mem.le.refl _) (.cons (Mem.no_le _) (.cons (Mem.no_le _) (.cons (Mem.le.refl _) (.cons (Mem.le.refl _) (Sub.nil _))))))), ?_⟩
            refine h_event 8 [true, true, true, true, true, true, true, true, true, true, true, true, true, true, true, true, false, false, false, false].toArray rfl (by kernel_rfl) rfl ?_
            refine s_append (J := (A.un N_65)) (I' := (A.un N_65)) (p := 5) 1256584717458 hm rfl rfl rfl Try.underlying61 ti84 rfl rfl rfl rfl hS rfl ho_175 (hr_130.src (Mem.un_le (hA.trans hS.old) ((Mem.le.refl _).trans (hS.own 0)))) ((Mem.le.refl _).trans (hS.sndA hA)) (Mem.un_left (Mem.le.refl _)) et_77 ?_
            intro w_179 v_180 M_181 hS' ho_182
            clear hm a; intro a hm
            replace hS : Sep w0 w_179 [N_65, Mem.one g0 (.cells ([p0_0, p0_1] : List Value).toArray 63 (0, 0)), Mem.no, M0_1, Mem.one g_2 (.cells ([.int .i64 x1.Index, .int .i64 x1.Entry.Sess, .int .i64 x1.Entry.Seq, .int .i64 x1.Entry.Cmd.Kind, .int .i64 x1.Entry.Cmd.Who, p1_2, p1_3, p1_4, .int .i64 x1.Result.Err, p1_5, .int .i64 x1.Result.N] : List Value).toArray 51 (0, 0)), M_181] Z := hS'
            clear hS'
            refine wpList_nil ?_
            refine x_then_n ⟨(hS.sub (.cons (Mem.le.refl _) (.cons (Mem.no_le _) (.cons (Mem.no_le _) (.cons (Mem.le.refl _) (.cons (Mem.le.refl _) (Sub.nil _))))))), ?_⟩
            refine h_event 16 [true, true, true, true, true, true, true, true, true, true, true, true, true, true, true, true, true, false, false, false].toArray rfl (by kernel_rfl) rfl ?_
            refine s_append (J := (A.un N_65)) (I' := (A.un N_65)) (p := 5) 1256584717458 hm rfl rfl rfl Try.underlying61 ti84 rfl rfl rfl rfl hS rfl ho_182 (hr_171.src (Mem.un_le (hA.trans hS.old) ((Mem.le.refl _).trans (hS.own 0)))) (Mem.un_left (Mem.le.refl _)) (Mem.un_left (Mem.le.refl _)) et_86 ?_
            intro w_185 v_186 M_187 hS' ho_188
            clear hm a; intro a hm
            replace hS : Sep w0 w_185 [N_65, Mem.one g0 (.cells ([p0_0, p0_1] : List Value).toArray 63 (0, 0)), Mem.no, M0_1, Mem.one g_2 (.cells ([.int .i64 x1.Index, .int .i64 x1.Entry.Sess, .int .i64 x1.Entry.Seq, .int .i64 x1.Entry.Cmd.Kind, .int .i64 x1.Entry.Cmd.Who, p1_2, p1_3, p1_4, .int .i64 x1.Result.Err, p1_5, .int .i64 x1.Result.N] : List Value).toArray 51 (0, 0)), M_187] Z := hS'
            clear hS'
            refine wpList_nil ?_
            refine x_then_n ⟨(hS.sub (.cons (Mem.le.refl _) (.cons (Mem.no_le _) (.cons (Mem.no_le _) (.cons (Mem.le.refl _) (.cons (Mem.le.refl _) (Sub.nil _))))))), ?_⟩
            refine h_take 17 [true, true, true, true, true, true, true, true, true, true, true, true, true, true, true, true, true, true, false, false].toArray rfl (by kernel_rfl) (by kernel_rfl) (by kernel_rfl) (fun _ _ _ _ h => h) rfl rfl rfl rfl hm (hS.sub (.cons (Mem.le.refl _) (.cons (Mem.no_le _) (.cons (Mem.no_le _) (.cons (Mem.le.refl _) (.cons (Mem.le.refl _) (Sub.nil _))))))) (v := .pointer (some ⟨g0, 0, none⟩)) (fun w hS => r_nilCheck hm rfl) ?_
            clear hm a; intro a hm
            refine h_take 18 [true, true, true, true, true, true, true, true, true, true, true, true, true, true, true, true, true, true, true, false].toArray rfl (by kernel_rfl) (by kernel_rfl) (by kernel_rfl) (fun _ _ _ _ h => h) rfl rfl rfl rfl hm (hS.sub (.cons (Mem.le.refl _) (.cons (Mem.no_le _) (.cons (Mem.no_le _) (.cons (Mem.le.refl _) (.cons (Mem.le.refl _) (Sub.nil _))))))) (v := .pointer (some ⟨g0, 0, none⟩)) (fun w hS => r_fieldAddr hm Try.underlying63 rfl ti61 rfl rfl rfl) ?_
            clear hm a; intro a hm
            refine h_event 19 [true, true, true, true, true, true, true, true, true, true, true, true, true, true, true, true, true, true, true, true].toArray rfl (by kernel_rfl) rfl ?_
            obtain ⟨w_190, hs', hS'⟩ := hS.store (P := Try.prog) (p := 1) (o := 0) (t := 61) (v := v_186) (vs := [v_186]) rfl ti61 ho_188.cellsA rfl rfl (by intro u hu; simp only [List.mem_cons, List.not_mem_nil, or_false] at hu; rcases hu with rfl <;> first | rfl | exact ho_188.one)
            refine s_store hm rfl rfl hs' ?_
            replace hS : Sep w0 w_190 [N_65, Mem.one g0 (.cells ([v_186, p0_1] : List Value).toArray 63 (0, 0)), Mem.no, M0_1, Mem.one g_2 (.cells ([.int .i64 x1.Index, .int .i64 x1.Entry.Sess, .int .i64 x1.Entry.Seq, .int .i64 x1.Entry.Cmd.Kind, .int .i64 x1.Entry.Cmd.Who, p1_2, p1_3, p1_4, .int .i64 x1.Result.Err, p1_5, .int .i64 x1.Result.N] : List Value).toArray 51 (0, 0)), M_187] Z := hS'
            clear hs' hS'
            refine wpList_nil ?_
            refine x_then_n ⟨(hS.sub (.cons (Mem.le.refl _) (.cons (Mem.no_le _) (.cons (Mem.no_le _) (.cons (Mem.le.refl _) (.cons (Mem.le.refl _) (Sub.nil _))))))), ?_⟩
            refine h_done (by kernel_rfl) ?_
            replace hm : Fr 80 a [(0, .pointer (some ⟨g0, 0, none⟩)), (3, .pointer (some ⟨g_2, 0, none⟩)), (4, .bool false), (5, .int .i64 x_8)] := hm.keep [0, 3, 4, 5]
            replace hS : Sep w0 w_190 [N_65, Mem.one g0 (.cells ([v_186, p0_1] : List Value).toArray 63 (0, 0)), Mem.no, M0_1, Mem.one g_2 (.cells ([.int .i64 x1.Index, .int .i64 x1.Entry.Sess, .int .i64 x1.Entry.Seq, .int .i64 x1.Entry.Cmd.Kind, .int .i64 x1.Entry.Cmd.Who, p1_2, p1_3, p1_4, .int .i64 x1.Result.Err, p1_5, .int .i64 x1.Result.N] : List Value).toArray 51 (0, 0)), M_187] Z := hS
            replace hm : Fr 80 a [(0, .pointer (some ⟨g0, 0, none⟩)), (3, .pointer (some ⟨g_2, 0, none⟩)), (4, .bool false), (5, .int .i64 x_8)] := hm.keep [0, 3, 4, 5]
            exact x_then_n (hJ_j_28 t_86 H _ _ ⟨v_186, N_65, M_187, hm, (Sep.sel hS [0, 1, 1001, 3, 4, 5] (by decide)), le_65, (ho_188.mono (Mem.un_left (Mem.le.refl _)))⟩)
        · refine ⟨_, [true, false, true, true, true, false, true, false, false, true, true, true, true, true, true, false, false, false, false, false].toArray, rfl, rfl, ?_⟩
          refine s_load hm rfl rfl (hS.load_one (p := 1) rfl Try.underlying61 rfl rfl) ?_
          clear hm a; intro a hm
          refine wpList_nil ?_
          refine x_then_n ⟨(hS.sub (.cons (Mem.le.refl _) (.cons (Mem.no_le _) (.cons (Mem.no_le _) (.cons (Mem.le.refl _) (.cons (Mem.le.refl _) (Sub.nil _))))))), ?_⟩
          refine h_takeE 15 [true, false, true, true, true, false, true, false, false, true, true, true, true, true, true, true, false, false, false, false].toArray rfl (by kernel_rfl) (by kernel_rfl) (by kernel_rfl) (fun _ _ _ _ h => h) rfl rfl rfl rfl hm (hS.sub (.cons (Mem.le.refl _) (.cons (Mem.no_le _) (.cons (Mem.no_le _) (.cons (Mem.le.refl _) (.cons (Mem.le.refl _) (Sub.nil _))))))) (f := fun v => v) (r_slice hm Try.underlying61 ti84 rfl rfl hr_66 rfl rfl et_83) ?_
          intro v_192 hr_193
          clear hm a; intro a hm
          refine h_events [1, 5] (by kernel_rfl) (by simp) ?_
          intro i hi; simp only [List.mem_cons, List.not_mem_nil, or_false] at hi; rcases hi with rfl | rfl
          · refine ⟨_, [true, true, true, true, true, false, true, false, false, true, true, true, true, true, true, true, false, false, false, false].toArray, rfl, rfl, ?_⟩
            have hq_198 : Reps k_hocketref15_call N_65 ([] : List hocketref15_call) _ := (Reps.nil k_hocketref15_call _)
            refine s_buildSlice hm rfl Try.underlying61 ti84 rfl rfl rfl .nil rfl rfl rfl hS hq_198 rfl ?_
            intro w_194 v_195 M_196 hS' ho_197
            clear hm a; intro a hm
            replace hS : Sep w0 w_194 [N_65, Mem.one g0 (.cells ([p0_0, p0_1] : List Value).toArray 63 (0, 0)), Mem.no, M0_1, Mem.one g_2 (.cells ([.int .i64 x1.Index, .int .i64 x1.Entry.Sess, .int .i64 x1.Entry.Seq, .int .i64 x1.Entry.Cmd.Kind, .int .i64 x1.Entry.Cmd.Who, p1_2, p1_3, p1_4, .int .i64 x1.Result.Err, p1_5, .int .i64 x1.Result.N] : List Value).toArray 51 (0, 0)), M_196] Z := hS'
            clear hS' hq_198
            refine wpList_nil ?_
            refine x_then_n ⟨(hS.sub (.cons (Mem.le.refl _) (.cons (Mem.no_le _) (.cons (Mem.no_le _) (.cons (Mem.le.refl _) (.cons (Mem.le.refl _) (Sub.nil _))))))), ?_⟩
            refine h_event 5 [true, true, true, true, true, true, true, false, false, true, true, true, true, true, true, true, false, false, false, false].toArray rfl (by kernel_rfl) rfl ?_
            refine s_load hm rfl rfl (hS.load_one (p := 1) rfl Try.underlying61 rfl rfl) ?_
            clear hm a; intro a hm
            refine wpList_nil ?_
            refine x_then_n ⟨(hS.sub (.cons (Mem.le.refl _) (.cons (Mem.no_le _) (.cons (Mem.no_le _) (.cons (Mem.le.refl _) (.cons (Mem.le.refl _) (Sub.nil _))))))), ?_⟩
            refine h_takeE 7 [true, true, true, true, true, true, true, true, false, true, true, true, true, true, true, true, false, false, false, false].toArray rfl (by kernel_rfl) (by kernel_rfl) (by kernel_rfl) (fun _ _ _ _ h => h) rfl rfl rfl rfl hm (hS.sub (.cons (Mem.le.refl _) (.cons (Mem.no_le _) (.cons (Mem.no_le _) (.cons (Mem.le.refl _) (.cons (Mem.le.refl _) (Sub.nil _))))))) (f := fun v => v) (r_slice hm Try.underlying61 ti84 rfl rfl hr_66 rfl rfl et_74) ?_
            intro v_201 hr_202
            clear hm a; intro a hm
            refine h_event 8 [true, true, true, true, true, true, true, true, true, true, true, true, true, true, true, true, false, false, false, false].toArray rfl (by kernel_rfl) rfl ?_
            refine s_append (J := (A.un N_65)) (I' := (A.un N_65)) (p := 5) 1256584717458 hm rfl rfl rfl Try.underlying61 ti84 rfl rfl rfl rfl hS rfl ho_197 (hr_202.src (Mem.un_le (hA.trans hS.old) ((Mem.le.refl _).trans (hS.own 0)))) ((Mem.le.refl _).trans (hS.sndA hA)) (Mem.un_left (Mem.le.refl _)) et_77 ?_
            intro w_204 v_205 M_206 hS' ho_207
            clear hm a; intro a hm
            replace hS : Sep w0 w_204 [N_65, Mem.one g0 (.cells ([p0_0, p0_1] : List Value).toArray 63 (0, 0)), Mem.no, M0_1, Mem.one g_2 (.cells ([.int .i64 x1.Index, .int .i64 x1.Entry.Sess, .int .i64 x1.Entry.Seq, .int .i64 x1.Entry.Cmd.Kind, .int .i64 x1.Entry.Cmd.Who, p1_2, p1_3, p1_4, .int .i64 x1.Result.Err, p1_5, .int .i64 x1.Result.N] : List Value).toArray 51 (0, 0)), M_206] Z := hS'
            clear hS'
            refine wpList_nil ?_
            refine x_then_n ⟨(hS.sub (.cons (Mem.le.refl _) (.cons (Mem.no_le _) (.cons (Mem.no_le _) (.cons (Mem.le.refl _) (.cons (Mem.le.refl _) (Sub.nil _))))))), ?_⟩
            refine h_event 16 [true, true, true, true, true, true, true, true, true, true, true, true, true, true, true, true, true, false, false, false].toArray rfl (by kernel_rfl) rfl ?_
            refine s_append (J := (A.un N_65)) (I' := (A.un N_65)) (p := 5) 1256584717458 hm rfl rfl rfl Try.underlying61 ti84 rfl rfl rfl rfl hS rfl ho_207 (hr_193.src (Mem.un_le (hA.trans hS.old) ((Mem.le.refl _).trans (hS.own 0)))) (Mem.un_left (Mem.le.refl _)) (Mem.un_left (Mem.le.refl _)) et_86 ?_
            intro w_210 v_211 M_212 hS' ho_213
            clear hm a; intro a hm
            replace hS : Sep w0 w_210 [N_65, Mem.one g0 (.cells ([p0_0, p0_1] : List Value).toArray 63 (0, 0)), Mem.no, M0_1, Mem.one g_2 (.cells ([.int .i64 x1.Index, .int .i64 x1.Entry.Sess, .int .i64 x1.Entry.Seq, .int .i64 x1.Entry.Cmd.Kind, .int .i64 x1.Entry.Cmd.Who, p1_2, p1_3, p1_4, .int .i64 x1.Result.Err, p1_5, .int .i64 x1.Result.N] : List Value).toArray 51 (0, 0)), M_212] Z := hS'
            clear hS'
            refine wpList_nil ?_
            refine x_then_n ⟨(hS.sub (.cons (Mem.le.refl _) (.cons (Mem.no_le _) (.cons (Mem.no_le _) (.cons (Mem.le.refl _) (.cons (Mem.le.refl _) (Sub.nil _))))))), ?_⟩
            refine h_take 17 [true, true, true, true, true, true, true, true, true, true, true, true, true, true, true, true, true, true, false, false].toArray rfl (by kernel_rfl) (by kernel_rfl) (by kernel_rfl) (fun _ _ _ _ h => h) rfl rfl rfl rfl hm (hS.sub (.cons (Mem.le.refl _) (.cons (Mem.no_le _) (.cons (Mem.no_le _) (.cons (Mem.le.refl _) (.cons (Mem.le.refl _) (Sub.nil _))))))) (v := .pointer (some ⟨g0, 0, none⟩)) (fun w hS => r_nilCheck hm rfl) ?_
            clear hm a; intro a hm
            refine h_take 18 [true, true, true, true, true, true, true, true, true, true, true, true, true, true, true, true, true, true, true, false].toArray rfl (by kernel_rfl) (by kernel_rfl) (by kernel_rfl) (fun _ _ _ _ h => h) rfl rfl rfl rfl hm (hS.sub (.cons (Mem.le.refl _) (.cons (Mem.no_le _) (.cons (Mem.no_le _) (.cons (Mem.le.refl _) (.cons (Mem.le.refl _) (Sub.nil _))))))) (v := .pointer (some ⟨g0, 0, none⟩)) (fun w hS => r_fieldAddr hm Try.underlying63 rfl ti61 rfl rfl rfl) ?_
            clear hm a; intro a hm
            refine h_event 19 [true, true, true, true, true, true, true, true, true, true, true, true, true, true, true, true, true, true, true, true].toArray rfl (by kernel_rfl) rfl ?_
            obtain ⟨w_215, hs', hS'⟩ := hS.store (P := Try.prog) (p := 1) (o := 0) (t := 61) (v := v_211) (vs := [v_211]) rfl ti61 ho_213.cellsA rfl rfl (by intro u hu; simp only [List.mem_cons, List.not_mem_nil, or_false] at hu; rcases hu with rfl <;> first | rfl | exact ho_213.one)
            refine s_store hm rfl rfl hs' ?_
            replace hS : Sep w0 w_215 [N_65, Mem.one g0 (.cells ([v_211, p0_1] : List Value).toArray 63 (0, 0)), Mem.no, M0_1, Mem.one g_2 (.cells ([.int .i64 x1.Index, .int .i64 x1.Entry.Sess, .int .i64 x1.Entry.Seq, .int .i64 x1.Entry.Cmd.Kind, .int .i64 x1.Entry.Cmd.Who, p1_2, p1_3, p1_4, .int .i64 x1.Result.Err, p1_5, .int .i64 x1.Result.N] : List Value).toArray 51 (0, 0)), M_212] Z := hS'
            clear hs' hS'
            refine wpList_nil ?_
            refine x_then_n ⟨(hS.sub (.cons (Mem.le.refl _) (.cons (Mem.no_le _) (.cons (Mem.no_le _) (.cons (Mem.le.refl _) (.cons (Mem.le.refl _) (Sub.nil _))))))), ?_⟩
            refine h_done (by kernel_rfl) ?_
            replace hm : Fr 80 a [(0, .pointer (some ⟨g0, 0, none⟩)), (3, .pointer (some ⟨g_2, 0, none⟩)), (4, .bool false), (5, .int .i64 x_8)] := hm.keep [0, 3, 4, 5]
            replace hS : Sep w0 w_215 [N_65, Mem.one g0 (.cells ([v_211, p0_1] : List Value).toArray 63 (0, 0)), Mem.no, M0_1, Mem.one g_2 (.cells ([.int .i64 x1.Index, .int .i64 x1.Entry.Sess, .int .i64 x1.Entry.Seq, .int .i64 x1.Entry.Cmd.Kind, .int .i64 x1.Entry.Cmd.Who, p1_2, p1_3, p1_4, .int .i64 x1.Result.Err, p1_5, .int .i64 x1.Result.N] : List Value).toArray 51 (0, 0)), M_212] Z := hS
            replace hm : Fr 80 a [(0, .pointer (some ⟨g0, 0, none⟩)), (3, .pointer (some ⟨g_2, 0, none⟩)), (4, .bool false), (5, .int .i64 x_8)] := hm.keep [0, 3, 4, 5]
            exact x_then_n (hJ_j_28 t_86 H _ _ ⟨v_211, N_65, M_212, hm, (Sep.sel hS [0, 1, 1001, 3, 4, 5] (by decide)), le_65, (ho_213.mono (Mem.un_left (Mem.le.refl _)))⟩)
          · refine ⟨_, [true, false, true, true, true, true, true, false, false, true, true, true, true, true, true, true, false, false, false, false].toArray, rfl, rfl, ?_⟩
            refine s_load hm rfl rfl (hS.load_one (p := 1) rfl Try.underlying61 rfl rfl) ?_
            clear hm a; intro a hm
            refine wpList_nil ?_
            refine x_then_n ⟨(hS.sub (.cons (Mem.le.refl _) (.cons (Mem.no_le _) (.cons (Mem.no_le _) (.cons (Mem.le.refl _) (.cons (Mem.le.refl _) (Sub.nil _))))))), ?_⟩
            refine h_takeE 7 [true, false, true, true, true, true, true, true, false, true, true, true, true, true, true, true, false, false, false, false].toArray rfl (by kernel_rfl) (by kernel_rfl) (by kernel_rfl) (fun _ _ _ _ h => h) rfl rfl rfl rfl hm (hS.sub (.cons (Mem.le.refl _) (.cons (Mem.no_le _) (.cons (Mem.no_le _) (.cons (Mem.le.refl _) (.cons (Mem.le.refl _) (Sub.nil _))))))) (f := fun v => v) (r_slice hm Try.underlying61 ti84 rfl rfl hr_66 rfl rfl et_74) ?_
            intro v_217 hr_218
            clear hm a; intro a hm
            refine h_event 1 [true, true, true, true, true, true, true, true, false, true, true, true, true, true, true, true, false, false, false, false].toArray rfl (by kernel_rfl) rfl ?_
            have hq_223 : Reps k_hocketref15_call N_65 ([] : List hocketref15_call) _ := (Reps.nil k_hocketref15_call _)
            refine s_buildSlice hm rfl Try.underlying61 ti84 rfl rfl rfl .nil rfl rfl rfl hS hq_223 rfl ?_
            intro w_219 v_220 M_221 hS' ho_222
            clear hm a; intro a hm
            replace hS : Sep w0 w_219 [N_65, Mem.one g0 (.cells ([p0_0, p0_1] : List Value).toArray 63 (0, 0)), Mem.no, M0_1, Mem.one g_2 (.cells ([.int .i64 x1.Index, .int .i64 x1.Entry.Sess, .int .i64 x1.Entry.Seq, .int .i64 x1.Entry.Cmd.Kind, .int .i64 x1.Entry.Cmd.Who, p1_2, p1_3, p1_4, .int .i64 x1.Result.Err, p1_5, .int .i64 x1.Result.N] : List Value).toArray 51 (0, 0)), M_221] Z := hS'
            clear hS' hq_223
            refine wpList_nil ?_
            refine x_then_n ⟨(hS.sub (.cons (Mem.le.refl _) (.cons (Mem.no_le _) (.cons (Mem.no_le _) (.cons (Mem.le.refl _) (.cons (Mem.le.refl _) (Sub.nil _))))))), ?_⟩
            refine h_event 8 [true, true, true, true, true, true, true, true, true, true, true, true, true, true, true, true, false, false, false, false].toArray rfl (by kernel_rfl) rfl ?_
            refine s_append (J := (A.un N_65)) (I' := (A.un N_65)) (p := 5) 1256584717458 hm rfl rfl rfl Try.underlying61 ti84 rfl rfl rfl rfl hS rfl ho_222 (hr_218.src (Mem.un_le (hA.trans hS.old) ((Mem.le.refl _).trans (hS.own 0)))) ((Mem.le.refl _).trans (hS.sndA hA)) (Mem.un_left (Mem.le.refl _)) et_77 ?_
            intro w_226 v_227 M_228 hS' ho_229
            clear hm a; intro a hm
            replace hS : Sep w0 w_226 [N_65, Mem.one g0 (.cells ([p0_0, p0_1] : List Value).toArray 63 (0, 0)), Mem.no, M0_1, Mem.one g_2 (.cells ([.int .i64 x1.Index, .int .i64 x1.Entry.Sess, .int .i64 x1.Entry.Seq, .int .i64 x1.Entry.Cmd.Kind, .int .i64 x1.Entry.Cmd.Who, p1_2, p1_3, p1_4, .int .i64 x1.Result.Err, p1_5, .int .i64 x1.Result.N] : List Value).toArray 51 (0, 0)), M_228] Z := hS'
            clear hS'
            refine wpList_nil ?_
            refine x_then_n ⟨(hS.sub (.cons (Mem.le.refl _) (.cons (Mem.no_le _) (.cons (Mem.no_le _) (.cons (Mem.le.refl _) (.cons (Mem.le.refl _) (Sub.nil _))))))), ?_⟩
            refine h_event 16 [true, true, true, true, true, true, true, true, true, true, true, true, true, true, true, true, true, false, false, false].toArray rfl (by kernel_rfl) rfl ?_
            refine s_append (J := (A.un N_65)) (I' := (A.un N_65)) (p := 5) 1256584717458 hm rfl rfl rfl Try.underlying61 ti84 rfl rfl rfl rfl hS rfl ho_229 (hr_193.src (Mem.un_le (hA.trans hS.old) ((Mem.le.refl _).trans (hS.own 0)))) (Mem.un_left (Mem.le.refl _)) (Mem.un_left (Mem.le.refl _)) et_86 ?_
            intro w_232 v_233 M_234 hS' ho_235
            clear hm a; intro a hm
            replace hS : Sep w0 w_232 [N_65, Mem.one g0 (.cells ([p0_0, p0_1] : List Value).toArray 63 (0, 0)), Mem.no, M0_1, Mem.one g_2 (.cells ([.int .i64 x1.Index, .int .i64 x1.Entry.Sess, .int .i64 x1.Entry.Seq, .int .i64 x1.Entry.Cmd.Kind, .int .i64 x1.Entry.Cmd.Who, p1_2, p1_3, p1_4, .int .i64 x1.Result.Err, p1_5, .int .i64 x1.Result.N] : List Value).toArray 51 (0, 0)), M_234] Z := hS'
            clear hS'
            refine wpList_nil ?_
            refine x_then_n ⟨(hS.sub (.cons (Mem.le.refl _) (.cons (Mem.no_le _) (.cons (Mem.no_le _) (.cons (Mem.le.refl _) (.cons (Mem.le.refl _) (Sub.nil _))))))), ?_⟩
            refine h_take 17 [true, true, true, true, true, true, true, true, true, true, true, true, true, true, true, true, true, true, false, false].toArray rfl (by kernel_rfl) (by kernel_rfl) (by kernel_rfl) (fun _ _ _ _ h => h) rfl rfl rfl rfl hm (hS.sub (.cons (Mem.le.refl _) (.cons (Mem.no_le _) (.cons (Mem.no_le _) (.cons (Mem.le.refl _) (.cons (Mem.le.refl _) (Sub.nil _))))))) (v := .pointer (some ⟨g0, 0, none⟩)) (fun w hS => r_nilCheck hm rfl) ?_
            clear hm a; intro a hm
            refine h_take 18 [true, true, true, true, true, true, true, true, true, true, true, true, true, true, true, true, true, true, true, false].toArray rfl (by kernel_rfl) (by kernel_rfl) (by kernel_rfl) (fun _ _ _ _ h => h) rfl rfl rfl rfl hm (hS.sub (.cons (Mem.le.refl _) (.cons (Mem.no_le _) (.cons (Mem.no_le _) (.cons (Mem.le.refl _) (.cons (Mem.le.refl _) (Sub.nil _))))))) (v := .pointer (some ⟨g0, 0, none⟩)) (fun w hS => r_fieldAddr hm Try.underlying63 rfl ti61 rfl rfl rfl) ?_
            clear hm a; intro a hm
            refine h_event 19 [true, true, true, true, true, true, true, true, true, true, true, true, true, true, true, true, true, true, true, true].toArray rfl (by kernel_rfl) rfl ?_
            obtain ⟨w_237, hs', hS'⟩ := hS.store (P := Try.prog) (p := 1) (o := 0) (t := 61) (v := v_233) (vs := [v_233]) rfl ti61 ho_235.cellsA rfl rfl (by intro u hu; simp only [List.mem_cons, List.not_mem_nil, or_false] at hu; rcases hu with rfl <;> first | rfl | exact ho_235.one)
            refine s_store hm rfl rfl hs' ?_
            replace hS : Sep w0 w_237 [N_65, Mem.one g0 (.cells ([v_233, p0_1] : List Value).toArray 63 (0, 0)), Mem.no, M0_1, Mem.one g_2 (.cells ([.int .i64 x1.Index, .int .i64 x1.Entry.Sess, .int .i64 x1.Entry.Seq, .int .i64 x1.Entry.Cmd.Kind, .int .i64 x1.Entry.Cmd.Who, p1_2, p1_3, p1_4, .int .i64 x1.Result.Err, p1_5, .int .i64 x1.Result.N] : List Value).toArray 51 (0, 0)), M_234] Z := hS'
            clear hs' hS'
            refine wpList_nil ?_
            refine x_then_n ⟨(hS.sub (.cons (Mem.le.refl _) (.cons (Mem.no_le _) (.cons (Mem.no_le _) (.cons (Mem.le.refl _) (.cons (Mem.le.refl _) (Sub.nil _))))))), ?_⟩
            refine h_done (by kernel_rfl) ?_
            replace hm : Fr 80 a [(0, .pointer (some ⟨g0, 0, none⟩)), (3, .pointer (some ⟨g_2, 0, none⟩)), (4, .bool false), (5, .int .i64 x_8)] := hm.keep [0, 3, 4, 5]
            replace hS : Sep w0 w_237 [N_65, Mem.one g0 (.cells ([v_233, p0_1] : List Value).toArray 63 (0, 0)), Mem.no, M0_1, Mem.one g_2 (.cells ([.int .i64 x1.Index, .int .i64 x1.Entry.Sess, .int .i64 x1.Entry.Seq, .int .i64 x1.Entry.Cmd.Kind, .int .i64 x1.Entry.Cmd.Who, p1_2, p1_3, p1_4, .int .i64 x1.Result.Err, p1_5, .int .i64 x1.Result.N] : List Value).toArray 51 (0, 0)), M_234] Z := hS
            replace hm : Fr 80 a [(0, .pointer (some ⟨g0, 0, none⟩)), (3, .pointer (some ⟨g_2, 0, none⟩)), (4, .bool false), (5, .int .i64 x_8)] := hm.keep [0, 3, 4, 5]
            exact x_then_n (hJ_j_28 t_86 H _ _ ⟨v_233, N_65, M_234, hm, (Sep.sel hS [0, 1, 1001, 3, 4, 5] (by decide)), le_65, (ho_235.mono (Mem.un_left (Mem.le.refl _)))⟩)
      · rw [if_neg hc_19] at H
        refine c_cond_f hm rfl (Bool.eq_false_iff.2 hc_19) ?_
        refine wp_skip ?_
        refine x_block_n ?_
        refine x_then_n (hKJ_13 _ _ ?_)
        refine wp_region_lit ?_
        refine s_move hm rfl rfl ?_
        clear hm a; intro a hm
        refine s_arith (r := w64 (x_8 + 1)) hm rfl rfl rfl (.inl ⟨rfl, rfl⟩) ?_
        clear hm a; intro a hm
        refine s_assign hm rfl rfl ?_
        clear hm a; intro a hm
        refine wpList_nil ?_
        replace hm : Fr 80 a [(0, .pointer (some ⟨g0, 0, none⟩)), (3, .pointer (some ⟨g_2, 0, none⟩)), (4, .bool false), (5, .int .i64 (w64 (x_8 + 1)))] := hm.keep [0, 3, 4, 5]
        refine x_then_n (hKL_9 _ _ ?_)
        replace hS : Sep w0 w_17 [N_15, Mem.one g0 (.cells ([p0_0, p0_1] : List Value).toArray 63 (0, 0)), M0_0, M0_1, Mem.one g_2 (.cells ([.int .i64 x1.Index, .int .i64 x1.Entry.Sess, .int .i64 x1.Entry.Seq, .int .i64 x1.Entry.Cmd.Kind, .int .i64 x1.Entry.Cmd.Who, p1_2, p1_3, p1_4, .int .i64 x1.Result.Err, p1_5, .int .i64 x1.Result.N] : List Value).toArray 51 (0, 0))] Z := hS
        replace hm : Fr 80 a [(0, .pointer (some ⟨g0, 0, none⟩)), (3, .pointer (some ⟨g_2, 0, none⟩)), (4, .bool false), (5, .int .i64 (w64 (x_8 + 1)))] := hm.keep [0, 3, 4, 5]
        exact ⟨w64 (x_8 + 1), N_15, H, hm, (Sep.sel hS [0, 1, 2, 3, 4] (by decide)), (le_7.trans le_15)⟩
    clear hKJ_14
    refine h_begin (S := fun w => Sep w0 w [N_7, Mem.one g0 (.cells ([p0_0, p0_1] : List Value).toArray 63 (0, 0)), M0_0, M0_1, Mem.one g_2 (.cells ([.int .i64 x1.Index, .int .i64 x1.Entry.Sess, .int .i64 x1.Entry.Seq, .int .i64 x1.Entry.Cmd.Kind, .int .i64 x1.Entry.Cmd.Who, p1_2, p1_3, p1_4, .int .i64 x1.Result.Err, p1_5, .int .i64 x1.Result.N] : List Value).toArray 51 (0, 0))] Z) 28 (by kernel_rfl) rfl [false, false, false, false, false, false, false, false, false, false, false, false, false, false, false, false, false, false, false, false, false, false, false, false, false, false, false, false].toArray rfl hS fun w_238 hS => ?_
    replace hS : Sep w0 w_238 [N_7, Mem.one g0 (.cells ([p0_0, p0_1] : List Value).toArray 63 (0, 0)), M0_0, M0_1, Mem.one g_2 (.cells ([.int .i64 x1.Index, .int .i64 x1.Entry.Sess, .int .i64 x1.Entry.Seq, .int .i64 x1.Entry.Cmd.Kind, .int .i64 x1.Entry.Cmd.Who, p1_2, p1_3, p1_4, .int .i64 x1.Result.Err, p1_5, .int .i64 x1.Result.N] : List Value).toArray 51 (0, 0))] Z := hS
    refine h_take 0 [true, false, false, false, false, false, false, false, false, false, false, false, false, false, false, false, false, false, false, false, false, false, false, false, false, false, false, false].toArray rfl (by kernel_rfl) (by kernel_rfl) (by kernel_rfl) (fun _ _ _ _ h => h) rfl rfl rfl rfl hm (hS.sub (.cons (Mem.le.refl _) (.cons (Mem.le.refl _) (.cons (Mem.le.refl _) (.cons (Mem.le.refl _) (.cons (Mem.le.refl _) (Sub.nil _))))))) (v := .pointer (some ⟨g0, 0, none⟩)) (fun w hS => r_move hm rfl) ?_
    clear hm a; intro a hm
    refine h_take 1 [true, true, false, false, false, false, false, false, false, false, false, false, false, false, false, false, false, false, false, false, false, false, false, false, false, false, false, false].toArray rfl (by kernel_rfl) (by kernel_rfl) (by kernel_rfl) (fun _ _ _ _ h => h) rfl rfl rfl rfl hm (hS.sub (.cons (Mem.le.refl _) (.cons (Mem.le.refl _) (.cons (Mem.le.refl _) (.cons (Mem.le.refl _) (.cons (Mem.le.refl _) (Sub.nil _))))))) (v := .pointer (some ⟨g0, 0, none⟩)) (fun w hS => r_nilCheck hm rfl) ?_
    clear hm a; intro a hm
    refine h_take 2 [true, true, true, false, false, false, false, false, false, false, false, false, false, false, false, false, false, false, false, false, false, false, false, false, false, false, false, false].toArray rfl (by kernel_rfl) (by kernel_rfl) (by kernel_rfl) (fun _ _ _ _ h => h) rfl rfl rfl rfl hm (hS.sub (.cons (Mem.le.refl _) (.cons (Mem.le.refl _) (.cons (Mem.le.refl _) (.cons (Mem.le.refl _) (.cons (Mem.le.refl _) (Sub.nil _))))))) (v := .pointer (some ⟨g0, 0, none⟩)) (fun w hS => r_fieldAddr hm Try.underlying63 rfl ti61 rfl rfl rfl) ?_
    clear hm a; intro a hm
    refine h_take 3 [true, true, true, true, false, false, false, false, false, false, false, false, false, false, false, false, false, false, false, false, false, false, false, false, false, false, false, false].toArray rfl (by kernel_rfl) (by kernel_rfl) (by kernel_rfl) (fun _ _ _ _ h => h) rfl rfl rfl rfl hm (hS.sub (.cons (Mem.le.refl _) (.cons (Mem.le.refl _) (.cons (Mem.le.refl _) (.cons (Mem.le.refl _) (.cons (Mem.le.refl _) (Sub.nil _))))))) (v := p0_0) (fun w hS => r_load hm rfl (hS.load_one (p := 1) rfl Try.underlying61 rfl rfl)) ?_
    clear hm a; intro a hm
    refine h_take 4 [true, true, true, true, true, false, false, false, false, false, false, false, false, false, false, false, false, false, false, false, false, false, false, false, false, false, false, false].toArray rfl (by kernel_rfl) (by kernel_rfl) (by kernel_rfl) (fun _ _ _ _ h => h) rfl rfl rfl rfl hm (hS.sub (.cons (Mem.le.refl _) (.cons (Mem.le.refl _) (.cons (Mem.le.refl _) (.cons (Mem.le.refl _) (.cons (Mem.le.refl _) (Sub.nil _))))))) (v := .int .i64 x_8) (fun w hS => r_move hm rfl) ?_
    clear hm a; intro a hm
    obtain ⟨t_239, et_239, H⟩ := Option.bind_eq_some_iff.1 H
    refine h_takeE 5 [true, true, true, true, true, true, false, false, false, false, false, false, false, false, false, false, false, false, false, false, false, false, false, false, false, false, false, false].toArray rfl (by kernel_rfl) (by kernel_rfl) (by kernel_rfl) (fun _ _ _ _ h => h) rfl rfl rfl rfl hm (hS.sub (.cons (Mem.le.refl _) (.cons (Mem.le.refl _) (.cons (Mem.le.refl _) (.cons (Mem.le.refl _) (.cons (Mem.le.refl _) (Sub.nil _))))))) (f := fun ad => .pointer (some ad)) (r_indexO hm Try.underlying61 ti84 rfl rfl rfl hp0_0 et_239) ?_
    rintro ad_240 ⟨cs_241, hk_242, hc_243⟩
    obtain ⟨v_244, v_246, v_248, rfl, hr_245, hr_247, hr_249⟩ := k_hocketref15_call.open' hk_242
    clear hm a; intro a hm
    refine h_take 6 [true, true, true, true, true, true, true, false, false, false, false, false, false, false, false, false, false, false, false, false, false, false, false, false, false, false, false, false].toArray rfl (by kernel_rfl) (by kernel_rfl) (by kernel_rfl) (fun _ _ _ _ h => h) rfl rfl rfl rfl hm (hS.sub (.cons (Mem.le.refl _) (.cons (Mem.le.refl _) (.cons (Mem.le.refl _) (.cons (Mem.le.refl _) (.cons (Mem.le.refl _) (Sub.nil _))))))) (v := .pointer (some (ad_240.add 0))) (fun w hS => r_fieldAddr hm Try.underlying84 rfl ti45 rfl rfl rfl) ?_
    clear hm a; intro a hm
    refine h_take 7 [true, true, true, true, true, true, true, true, false, false, false, false, false, false, false, false, false, false, false, false, false, false, false, false, false, false, false, false].toArray rfl (by kernel_rfl) (by kernel_rfl) (by kernel_rfl) (fun _ _ _ _ h => h) rfl rfl rfl rfl hm (hS.sub (.cons (Mem.le.refl _) (.cons (Mem.le.refl _) (.cons (Mem.le.refl _) (.cons (Mem.le.refl _) (.cons (Mem.le.refl _) (Sub.nil _))))))) (v := .pointer (some ((ad_240.add 0).add 0))) (fun w hS => r_fieldAddr hm Try.underlying45 rfl ti3 rfl rfl rfl) ?_
    clear hm a; intro a hm
    refine h_take 8 [true, true, true, true, true, true, true, true, true, false, false, false, false, false, false, false, false, false, false, false, false, false, false, false, false, false, false, false].toArray rfl (by kernel_rfl) (by kernel_rfl) (by kernel_rfl) (fun _ _ _ _ h => h) rfl rfl rfl rfl hm (hS.sub (.cons (Mem.le.refl _) (.cons (Mem.le.refl _) (.cons (Mem.le.refl _) (.cons (Mem.le.refl _) (.cons (Mem.le.refl _) (Sub.nil _))))))) (v := .int .i64 t_239.e.Sess) (fun w hS => r_load hm rfl (by rw [Addr.add_add]; exact el_one (o := 0) (fun j c h => Mem.cell_le (hS.own 2) (hc_243 j c h)) Try.underlying3 rfl rfl)) ?_
    clear hm a; intro a hm
    refine h_take 9 [true, true, true, true, true, true, true, true, true, true, false, false, false, false, false, false, false, false, false, false, false, false, false, false, false, false, false, false].toArray rfl (by kernel_rfl) (by kernel_rfl) (by kernel_rfl) (fun _ _ _ _ h => h) rfl rfl rfl rfl hm (hS.sub (.cons (Mem.le.refl _) (.cons (Mem.le.refl _) (.cons (Mem.le.refl _) (.cons (Mem.le.refl _) (.cons (Mem.le.refl _) (Sub.nil _))))))) (v := .pointer (some ⟨g_2, 1, none⟩)) (fun w hS => r_fieldAddr hm Try.underlying51 rfl ti45 rfl rfl rfl) ?_
    clear hm a; intro a hm
    refine h_take 10 [true, true, true, true, true, true, true, true, true, true, true, false, false, false, false, false, false, false, false, false, false, false, false, false, false, false, false, false].toArray rfl (by kernel_rfl) (by kernel_rfl) (by kernel_rfl) (fun _ _ _ _ h => h) rfl rfl rfl rfl hm (hS.sub (.cons (Mem.le.refl _) (.cons (Mem.le.refl _) (.cons (Mem.le.refl _) (.cons (Mem.le.refl _) (.cons (Mem.le.refl _) (Sub.nil _))))))) (v := .pointer (some ⟨g_2, 1, none⟩)) (fun w hS => r_fieldAddr hm Try.underlying45 rfl ti3 rfl rfl rfl) ?_
    clear hm a; intro a hm
    refine h_take 11 [true, true, true, true, true, true, true, true, true, true, true, true, false, false, false, false, false, false, false, false, false, false, false, false, false, false, false, false].toArray rfl (by kernel_rfl) (by kernel_rfl) (by kernel_rfl) (fun _ _ _ _ h => h) rfl rfl rfl rfl hm (hS.sub (.cons (Mem.le.refl _) (.cons (Mem.le.refl _) (.cons (Mem.le.refl _) (.cons (Mem.le.refl _) (.cons (Mem.le.refl _) (Sub.nil _))))))) (v := .int .i64 x1.Entry.Sess) (fun w hS => r_load hm rfl (hS.load_one (p := 4) rfl Try.underlying3 rfl rfl)) ?_
    clear hm a; intro a hm
    refine h_take 12 [true, true, true, true, true, true, true, true, true, true, true, true, true, false, false, false, false, false, false, false, false, false, false, false, false, false, false, false].toArray rfl (by kernel_rfl) (by kernel_rfl) (by kernel_rfl) (fun _ _ _ _ h => h) rfl rfl rfl rfl hm (hS.sub (.cons (Mem.le.refl _) (.cons (Mem.le.refl _) (.cons (Mem.le.refl _) (.cons (Mem.le.refl _) (.cons (Mem.le.refl _) (Sub.nil _))))))) (v := .bool (t_239.e.Sess == x1.Entry.Sess)) (fun w hS => r_cmp (b := (t_239.e.Sess == x1.Entry.Sess)) hm rfl rfl (.inl ⟨rfl, rfl⟩)) ?_
    clear hm a; intro a hm
    refine h_take 13 [true, true, true, true, true, true, true, true, true, true, true, true, true, true, false, false, false, false, false, false, false, false, false, false, false, false, false, false].toArray rfl (by kernel_rfl) (by kernel_rfl) (by kernel_rfl) (fun _ _ _ _ h => h) rfl rfl rfl rfl hm (hS.sub (.cons (Mem.le.refl _) (.cons (Mem.le.refl _) (.cons (Mem.le.refl _) (.cons (Mem.le.refl _) (.cons (Mem.le.refl _) (Sub.nil _))))))) (v := .bool (t_239.e.Sess == x1.Entry.Sess)) (fun w hS => r_move hm rfl) ?_
    clear hm a; intro a hm
    by_cases hc_250 : t_239.e.Sess = x1.Entry.Sess
    · rw [if_pos hc_250] at H
      refine h_take_on 14 [true, true, true, true, true, true, true, true, true, true, true, true, true, true, true, false, false, false, false, false, false, false, false, false, false, false, false, false].toArray rfl (by kernel_rfl) (by kernel_rfl) (by kernel_rfl) (fun _ _ _ _ h => h) rfl rfl rfl rfl (beq_iff_eq.2 hc_250) rfl rfl hm (hS.sub (.cons (Mem.le.refl _) (.cons (Mem.le.refl _) (.cons (Mem.le.refl _) (.cons (Mem.le.refl _) (.cons (Mem.le.refl _) (Sub.nil _))))))) (v := .pointer (some ⟨g0, 0, none⟩)) (fun w hS => r_move hm rfl) ?_
      clear hm a; intro a hm
      refine h_take_on 15 [true, true, true, true, true, true, true, true, true, true, true, true, true, true, true, true, false, false, false, false, false, false, false, false, false, false, false, false].toArray rfl (by kernel_rfl) (by kernel_rfl) (by kernel_rfl) (fun _ _ _ _ h => h) rfl rfl rfl rfl (beq_iff_eq.2 hc_250) rfl rfl hm (hS.sub (.cons (Mem.le.refl _) (.cons (Mem.le.refl _) (.cons (Mem.le.refl _) (.cons (Mem.le.refl _) (.cons (Mem.le.refl _) (Sub.nil _))))))) (v := .pointer (some ⟨g0, 0, none⟩)) (fun w hS => r_nilCheck hm rfl) ?_
      clear hm a; intro a hm
      refine h_take_on 16 [true, true, true, true, true, true, true, true, true, true, true, true, true, true, true, true, true, false, false, false, false, false, false, false, false, false, false, false].toArray rfl (by kernel_rfl) (by kernel_rfl) (by kernel_rfl) (fun _ _ _ _ h => h) rfl rfl rfl rfl (beq_iff_eq.2 hc_250) rfl rfl hm (hS.sub (.cons (Mem.le.refl _) (.cons (Mem.le.refl _) (.cons (Mem.le.refl _) (.cons (Mem.le.refl _) (.cons (Mem.le.refl _) (Sub.nil _))))))) (v := .pointer (some ⟨g0, 0, none⟩)) (fun w hS => r_fieldAddr hm Try.underlying63 rfl ti61 rfl rfl rfl) ?_
      clear hm a; intro a hm
      refine h_take_on 17 [true, true, true, true, true, true, true, true, true, true, true, true, true, true, true, true, true, true, false, false, false, false, false, false, false, false, false, false].toArray rfl (by kernel_rfl) (by kernel_rfl) (by kernel_rfl) (fun _ _ _ _ h => h) rfl rfl rfl rfl (beq_iff_eq.2 hc_250) rfl rfl hm (hS.sub (.cons (Mem.le.refl _) (.cons (Mem.le.refl _) (.cons (Mem.le.refl _) (.cons (Mem.le.refl _) (.cons (Mem.le.refl _) (Sub.nil _))))))) (v := p0_0) (fun w hS => r_load hm rfl (hS.load_one (p := 1) rfl Try.underlying61 rfl rfl)) ?_
      clear hm a; intro a hm
      refine h_take_on 18 [true, true, true, true, true, true, true, true, true, true, true, true, true, true, true, true, true, true, true, false, false, false, false, false, false, false, false, false].toArray rfl (by kernel_rfl) (by kernel_rfl) (by kernel_rfl) (fun _ _ _ _ h => h) rfl rfl rfl rfl (beq_iff_eq.2 hc_250) rfl rfl hm (hS.sub (.cons (Mem.le.refl _) (.cons (Mem.le.refl _) (.cons (Mem.le.refl _) (.cons (Mem.le.refl _) (.cons (Mem.le.refl _) (Sub.nil _))))))) (v := .int .i64 x_8) (fun w hS => r_move hm rfl) ?_
      clear hm a; intro a hm
      obtain ⟨t_251, et_251, H⟩ := Option.bind_eq_some_iff.1 H
      refine h_takeE_on 19 [true, true, true, true, true, true, true, true, true, true, true, true, true, true, true, true, true, true, true, true, false, false, false, false, false, false, false, false].toArray rfl (by kernel_rfl) (by kernel_rfl) (by kernel_rfl) (fun _ _ _ _ h => h) rfl rfl rfl rfl (beq_iff_eq.2 hc_250) rfl rfl hm (hS.sub (.cons (Mem.le.refl _) (.cons (Mem.le.refl _) (.cons (Mem.le.refl _) (.cons (Mem.le.refl _) (.cons (Mem.le.refl _) (Sub.nil _))))))) (f := fun ad => .pointer (some ad)) (r_indexO hm Try.underlying61 ti84 rfl rfl rfl hp0_0 et_251) ?_
      rintro ad_252 ⟨cs_253, hk_254, hc_255⟩
      obtain ⟨v_256, v_258, v_260, rfl, hr_257, hr_259, hr_261⟩ := k_hocketref15_call.open' hk_254
      clear hm a; intro a hm
      refine h_take_on 20 [true, true, true, true, true, true, true, true, true, true, true, true, true, true, true, true, true, true, true, true, true, false, false, false, false, false, false, false].toArray rfl (by kernel_rfl) (by kernel_rfl) (by kernel_rfl) (fun _ _ _ _ h => h) rfl rfl rfl rfl (beq_iff_eq.2 hc_250) rfl rfl hm (hS.sub (.cons (Mem.le.refl _) (.cons (Mem.le.refl _) (.cons (Mem.le.refl _) (.cons (Mem.le.refl _) (.cons (Mem.le.refl _) (Sub.nil _))))))) (v := .pointer (some (ad_252.add 0))) (fun w hS => r_fieldAddr hm Try.underlying84 rfl ti45 rfl rfl rfl) ?_
      clear hm a; intro a hm
      refine h_take_on 21 [true, true, true, true, true, true, true, true, true, true, true, true, true, true, true, true, true, true, true, true, true, true, false, false, false, false, false, false].toArray rfl (by kernel_rfl) (by kernel_rfl) (by kernel_rfl) (fun _ _ _ _ h => h) rfl rfl rfl rfl (beq_iff_eq.2 hc_250) rfl rfl hm (hS.sub (.cons (Mem.le.refl _) (.cons (Mem.le.refl _) (.cons (Mem.le.refl _) (.cons (Mem.le.refl _) (.cons (Mem.le.refl _) (Sub.nil _))))))) (v := .pointer (some ((ad_252.add 0).add 1))) (fun w hS => r_fieldAddr hm Try.underlying45 rfl ti3 rfl rfl rfl) ?_
      clear hm a; intro a hm
      refine h_take_on 22 [true, true, true, true, true, true, true, true, true, true, true, true, true, true, true, true, true, true, true, true, true, true, true, false, false, false, false, false].toArray rfl (by kernel_rfl) (by kernel_rfl) (by kernel_rfl) (fun _ _ _ _ h => h) rfl rfl rfl rfl (beq_iff_eq.2 hc_250) rfl rfl hm (hS.sub (.cons (Mem.le.refl _) (.cons (Mem.le.refl _) (.cons (Mem.le.refl _) (.cons (Mem.le.refl _) (.cons (Mem.le.refl _) (Sub.nil _))))))) (v := .int .i64 t_251.e.Seq) (fun w hS => r_load hm rfl (by rw [Addr.add_add]; exact el_one (o := 1) (fun j c h => Mem.cell_le (hS.own 2) (hc_255 j c h)) Try.underlying3 rfl rfl)) ?_
      clear hm a; intro a hm
      refine h_take_on 23 [true, true, true, true, true, true, true, true, true, true, true, true, true, true, true, true, true, true, true, true, true, true, true, true, false, false, false, false].toArray rfl (by kernel_rfl) (by kernel_rfl) (by kernel_rfl) (fun _ _ _ _ h => h) rfl rfl rfl rfl (beq_iff_eq.2 hc_250) rfl rfl hm (hS.sub (.cons (Mem.le.refl _) (.cons (Mem.le.refl _) (.cons (Mem.le.refl _) (.cons (Mem.le.refl _) (.cons (Mem.le.refl _) (Sub.nil _))))))) (v := .pointer (some ⟨g_2, 1, none⟩)) (fun w hS => r_fieldAddr hm Try.underlying51 rfl ti45 rfl rfl rfl) ?_
      clear hm a; intro a hm
      refine h_take_on 24 [true, true, true, true, true, true, true, true, true, true, true, true, true, true, true, true, true, true, true, true, true, true, true, true, true, false, false, false].toArray rfl (by kernel_rfl) (by kernel_rfl) (by kernel_rfl) (fun _ _ _ _ h => h) rfl rfl rfl rfl (beq_iff_eq.2 hc_250) rfl rfl hm (hS.sub (.cons (Mem.le.refl _) (.cons (Mem.le.refl _) (.cons (Mem.le.refl _) (.cons (Mem.le.refl _) (.cons (Mem.le.refl _) (Sub.nil _))))))) (v := .pointer (some ⟨g_2, 2, none⟩)) (fun w hS => r_fieldAddr hm Try.underlying45 rfl ti3 rfl rfl rfl) ?_
      clear hm a; intro a hm
      refine h_take_on 25 [true, true, true, true, true, true, true, true, true, true, true, true, true, true, true, true, true, true, true, true, true, true, true, true, true, true, false, false].toArray rfl (by kernel_rfl) (by kernel_rfl) (by kernel_rfl) (fun _ _ _ _ h => h) rfl rfl rfl rfl (beq_iff_eq.2 hc_250) rfl rfl hm (hS.sub (.cons (Mem.le.refl _) (.cons (Mem.le.refl _) (.cons (Mem.le.refl _) (.cons (Mem.le.refl _) (.cons (Mem.le.refl _) (Sub.nil _))))))) (v := .int .i64 x1.Entry.Seq) (fun w hS => r_load hm rfl (hS.load_one (p := 4) rfl Try.underlying3 rfl rfl)) ?_
      clear hm a; intro a hm
      refine h_take_on 26 [true, true, true, true, true, true, true, true, true, true, true, true, true, true, true, true, true, true, true, true, true, true, true, true, true, true, true, false].toArray rfl (by kernel_rfl) (by kernel_rfl) (by kernel_rfl) (fun _ _ _ _ h => h) rfl rfl rfl rfl (beq_iff_eq.2 hc_250) rfl rfl hm (hS.sub (.cons (Mem.le.refl _) (.cons (Mem.le.refl _) (.cons (Mem.le.refl _) (.cons (Mem.le.refl _) (.cons (Mem.le.refl _) (Sub.nil _))))))) (v := .bool (t_251.e.Seq == x1.Entry.Seq)) (fun w hS => r_cmp (b := (t_251.e.Seq == x1.Entry.Seq)) hm rfl rfl (.inl ⟨rfl, rfl⟩)) ?_
      clear hm a; intro a hm
      refine h_take 27 [true, true, true, true, true, true, true, true, true, true, true, true, true, true, true, true, true, true, true, true, true, true, true, true, true, true, true, true].toArray rfl (by kernel_rfl) (by kernel_rfl) (by kernel_rfl) (fun _ _ _ _ h => h) rfl rfl rfl rfl hm (hS.sub (.cons (Mem.le.refl _) (.cons (Mem.le.refl _) (.cons (Mem.le.refl _) (.cons (Mem.le.refl _) (.cons (Mem.le.refl _) (Sub.nil _))))))) (v := .bool (t_251.e.Seq == x1.Entry.Seq)) (fun w hS => r_pick_t hm rfl (beq_iff_eq.2 hc_250) rfl) ?_
      clear hm a; intro a hm
      refine h_done (by kernel_rfl) ?_
      replace hm : Fr 80 a [(0, .pointer (some ⟨g0, 0, none⟩)), (3, .pointer (some ⟨g_2, 0, none⟩)), (4, .bool false), (5, .int .i64 x_8), (42, .bool (t_251.e.Seq == x1.Entry.Seq))] := hm.keep [0, 3, 4, 5, 42]
      replace hS : Sep w0 w_238 [N_7, Mem.one g0 (.cells ([p0_0, p0_1] : List Value).toArray 63 (0, 0)), M0_0, M0_1, Mem.one g_2 (.cells ([.int .i64 x1.Index, .int .i64 x1.Entry.Sess, .int .i64 x1.Entry.Seq, .int .i64 x1.Entry.Cmd.Kind, .int .i64 x1.Entry.Cmd.Who, p1_2, p1_3, p1_4, .int .i64 x1.Result.Err, p1_5, .int .i64 x1.Result.N] : List Value).toArray 51 (0, 0))] Z := hS
      replace hm : Fr 80 a [(0, .pointer (some ⟨g0, 0, none⟩)), (3, .pointer (some ⟨g_2, 0, none⟩)), (4, .bool false), (5, .int .i64 x_8), (42, .bool (t_251.e.Seq == x1.Entry.Seq))] := hm.keep [0, 3, 4, 5, 42]
      exact x_then_n (hJ_j_18 (t_251.e.Seq == x1.Entry.Seq) H _ _ ⟨N_7, hm, (Sep.sel hS [0, 1, 2, 3, 4] (by decide)), (Mem.le.refl _)⟩)
    · rw [if_neg hc_250] at H
      refine h_take_off 14 [true, true, true, true, true, true, true, true, true, true, true, true, true, true, true, false, false, false, false, false, false, false, false, false, false, false, false, false].toArray rfl (by kernel_rfl) (by kernel_rfl) (by kernel_rfl) (fun _ _ _ _ h => h) rfl rfl rfl rfl (.inl (congrArg Value.bool (beq_eq_false_iff_ne.2 hc_250))) rfl rfl hm (hS.sub (.cons (Mem.le.refl _) (.cons (Mem.le.refl _) (.cons (Mem.le.refl _) (.cons (Mem.le.refl _) (.cons (Mem.le.refl _) (Sub.nil _))))))) ?_
      clear hm a; intro a hm
      refine h_take_off 15 [true, true, true, true, true, true, true, true, true, true, true, true, true, true, true, true, false, false, false, false, false, false, false, false, false, false, false, false].toArray rfl (by kernel_rfl) (by kernel_rfl) (by kernel_rfl) (fun _ _ _ _ h => h) rfl rfl rfl rfl (.inl (congrArg Value.bool (beq_eq_false_iff_ne.2 hc_250))) rfl rfl hm (hS.sub (.cons (Mem.le.refl _) (.cons (Mem.le.refl _) (.cons (Mem.le.refl _) (.cons (Mem.le.refl _) (.cons (Mem.le.refl _) (Sub.nil _))))))) ?_
      clear hm a; intro a hm
      refine h_take_off 16 [true, true, true, true, true, true, true, true, true, true, true, true, true, true, true, true, true, false, false, false, false, false, false, false, false, false, false, false].toArray rfl (by kernel_rfl) (by kernel_rfl) (by kernel_rfl) (fun _ _ _ _ h => h) rfl rfl rfl rfl (.inl (congrArg Value.bool (beq_eq_false_iff_ne.2 hc_250))) rfl rfl hm (hS.sub (.cons (Mem.le.refl _) (.cons (Mem.le.refl _) (.cons (Mem.le.refl _) (.cons (Mem.le.refl _) (.cons (Mem.le.refl _) (Sub.nil _))))))) ?_
      clear hm a; intro a hm
      refine h_take_off 17 [true, true, true, true, true, true, true, true, true, true, true, true, true, true, true, true, true, true, false, false, false, false, false, false, false, false, false, false].toArray rfl (by kernel_rfl) (by kernel_rfl) (by kernel_rfl) (fun _ _ _ _ h => h) rfl rfl rfl rfl (.inl (congrArg Value.bool (beq_eq_false_iff_ne.2 hc_250))) rfl rfl hm (hS.sub (.cons (Mem.le.refl _) (.cons (Mem.le.refl _) (.cons (Mem.le.refl _) (.cons (Mem.le.refl _) (.cons (Mem.le.refl _) (Sub.nil _))))))) ?_
      clear hm a; intro a hm
      refine h_take_off 18 [true, true, true, true, true, true, true, true, true, true, true, true, true, true, true, true, true, true, true, false, false, false, false, false, false, false, false, false].toArray rfl (by kernel_rfl) (by kernel_rfl) (by kernel_rfl) (fun _ _ _ _ h => h) rfl rfl rfl rfl (.inl (congrArg Value.bool (beq_eq_false_iff_ne.2 hc_250))) rfl rfl hm (hS.sub (.cons (Mem.le.refl _) (.cons (Mem.le.refl _) (.cons (Mem.le.refl _) (.cons (Mem.le.refl _) (.cons (Mem.le.refl _) (Sub.nil _))))))) ?_
      clear hm a; intro a hm
      refine h_take_off 19 [true, true, true, true, true, true, true, true, true, true, true, true, true, true, true, true, true, true, true, true, false, false, false, false, false, false, false, false].toArray rfl (by kernel_rfl) (by kernel_rfl) (by kernel_rfl) (fun _ _ _ _ h => h) rfl rfl rfl rfl (.inl (congrArg Value.bool (beq_eq_false_iff_ne.2 hc_250))) rfl rfl hm (hS.sub (.cons (Mem.le.refl _) (.cons (Mem.le.refl _) (.cons (Mem.le.refl _) (.cons (Mem.le.refl _) (.cons (Mem.le.refl _) (Sub.nil _))))))) ?_
      clear hm a; intro a hm
      refine h_take_off 20 [true, true, true, true, true, true, true, true, true, true, true, true, true, true, true, true, true, true, true, true, true, false, false, false, false, false, false, false].toArray rfl (by kernel_rfl) (by kernel_rfl) (by kernel_rfl) (fun _ _ _ _ h => h) rfl rfl rfl rfl (.inl (congrArg Value.bool (beq_eq_false_iff_ne.2 hc_250))) rfl rfl hm (hS.sub (.cons (Mem.le.refl _) (.cons (Mem.le.refl _) (.cons (Mem.le.refl _) (.cons (Mem.le.refl _) (.cons (Mem.le.refl _) (Sub.nil _))))))) ?_
      clear hm a; intro a hm
      refine h_take_off 21 [true, true, true, true, true, true, true, true, true, true, true, true, true, true, true, true, true, true, true, true, true, true, false, false, false, false, false, false].toArray rfl (by kernel_rfl) (by kernel_rfl) (by kernel_rfl) (fun _ _ _ _ h => h) rfl rfl rfl rfl (.inl (congrArg Value.bool (beq_eq_false_iff_ne.2 hc_250))) rfl rfl hm (hS.sub (.cons (Mem.le.refl _) (.cons (Mem.le.refl _) (.cons (Mem.le.refl _) (.cons (Mem.le.refl _) (.cons (Mem.le.refl _) (Sub.nil _))))))) ?_
      clear hm a; intro a hm
      refine h_take_off 22 [true, true, true, true, true, true, true, true, true, true, true, true, true, true, true, true, true, true, true, true, true, true, true, false, false, false, false, false].toArray rfl (by kernel_rfl) (by kernel_rfl) (by kernel_rfl) (fun _ _ _ _ h => h) rfl rfl rfl rfl (.inl (congrArg Value.bool (beq_eq_false_iff_ne.2 hc_250))) rfl rfl hm (hS.sub (.cons (Mem.le.refl _) (.cons (Mem.le.refl _) (.cons (Mem.le.refl _) (.cons (Mem.le.refl _) (.cons (Mem.le.refl _) (Sub.nil _))))))) ?_
      clear hm a; intro a hm
      refine h_take_off 23 [true, true, true, true, true, true, true, true, true, true, true, true, true, true, true, true, true, true, true, true, true, true, true, true, false, false, false, false].toArray rfl (by kernel_rfl) (by kernel_rfl) (by kernel_rfl) (fun _ _ _ _ h => h) rfl rfl rfl rfl (.inl (congrArg Value.bool (beq_eq_false_iff_ne.2 hc_250))) rfl rfl hm (hS.sub (.cons (Mem.le.refl _) (.cons (Mem.le.refl _) (.cons (Mem.le.refl _) (.cons (Mem.le.refl _) (.cons (Mem.le.refl _) (Sub.nil _))))))) ?_
      clear hm a; intro a hm
      refine h_take_off 24 [true, true, true, true, true, true, true, true, true, true, true, true, true, true, true, true, true, true, true, true, true, true, true, true, true, false, false, false].toArray rfl (by kernel_rfl) (by kernel_rfl) (by kernel_rfl) (fun _ _ _ _ h => h) rfl rfl rfl rfl (.inl (congrArg Value.bool (beq_eq_false_iff_ne.2 hc_250))) rfl rfl hm (hS.sub (.cons (Mem.le.refl _) (.cons (Mem.le.refl _) (.cons (Mem.le.refl _) (.cons (Mem.le.refl _) (.cons (Mem.le.refl _) (Sub.nil _))))))) ?_
      clear hm a; intro a hm
      refine h_take_off 25 [true, true, true, true, true, true, true, true, true, true, true, true, true, true, true, true, true, true, true, true, true, true, true, true, true, true, false, false].toArray rfl (by kernel_rfl) (by kernel_rfl) (by kernel_rfl) (fun _ _ _ _ h => h) rfl rfl rfl rfl (.inl (congrArg Value.bool (beq_eq_false_iff_ne.2 hc_250))) rfl rfl hm (hS.sub (.cons (Mem.le.refl _) (.cons (Mem.le.refl _) (.cons (Mem.le.refl _) (.cons (Mem.le.refl _) (.cons (Mem.le.refl _) (Sub.nil _))))))) ?_
      clear hm a; intro a hm
      refine h_take_off 26 [true, true, true, true, true, true, true, true, true, true, true, true, true, true, true, true, true, true, true, true, true, true, true, true, true, true, true, false].toArray rfl (by kernel_rfl) (by kernel_rfl) (by kernel_rfl) (fun _ _ _ _ h => h) rfl rfl rfl rfl (.inl (congrArg Value.bool (beq_eq_false_iff_ne.2 hc_250))) rfl rfl hm (hS.sub (.cons (Mem.le.refl _) (.cons (Mem.le.refl _) (.cons (Mem.le.refl _) (.cons (Mem.le.refl _) (.cons (Mem.le.refl _) (Sub.nil _))))))) ?_
      clear hm a; intro a hm
      refine h_take 27 [true, true, true, true, true, true, true, true, true, true, true, true, true, true, true, true, true, true, true, true, true, true, true, true, true, true, true, true].toArray rfl (by kernel_rfl) (by kernel_rfl) (by kernel_rfl) (fun _ _ _ _ h => h) rfl rfl rfl rfl hm (hS.sub (.cons (Mem.le.refl _) (.cons (Mem.le.refl _) (.cons (Mem.le.refl _) (.cons (Mem.le.refl _) (.cons (Mem.le.refl _) (Sub.nil _))))))) (v := .bool false) (fun w hS => r_pick_f hm rfl (beq_eq_false_iff_ne.2 hc_250) rfl) ?_
      clear hm a; intro a hm
      refine h_done (by kernel_rfl) ?_
      replace hm : Fr 80 a [(0, .pointer (some ⟨g0, 0, none⟩)), (3, .pointer (some ⟨g_2, 0, none⟩)), (4, .bool false), (5, .int .i64 x_8), (42, .bool false)] := hm.keep [0, 3, 4, 5, 42]
      replace hS : Sep w0 w_238 [N_7, Mem.one g0 (.cells ([p0_0, p0_1] : List Value).toArray 63 (0, 0)), M0_0, M0_1, Mem.one g_2 (.cells ([.int .i64 x1.Index, .int .i64 x1.Entry.Sess, .int .i64 x1.Entry.Seq, .int .i64 x1.Entry.Cmd.Kind, .int .i64 x1.Entry.Cmd.Who, p1_2, p1_3, p1_4, .int .i64 x1.Result.Err, p1_5, .int .i64 x1.Result.N] : List Value).toArray 51 (0, 0))] Z := hS
      replace hm : Fr 80 a [(0, .pointer (some ⟨g0, 0, none⟩)), (3, .pointer (some ⟨g_2, 0, none⟩)), (4, .bool false), (5, .int .i64 x_8), (42, .bool false)] := hm.keep [0, 3, 4, 5, 42]
      exact x_then_n (hJ_j_18 false H _ _ ⟨N_7, hm, (Sep.sel hS [0, 1, 2, 3, 4] (by decide)), (Mem.le.refl _)⟩)
  · rw [if_neg hc_12] at H
    refine c_cond_f hm rfl (decide_eq_false hc_12) ?_
    refine wp_exit (x_then_x (x_then_x (x_block_t ?_)))
    replace hS : Sep w0 w_9 [N_7, Mem.one g0 (.cells ([p0_0, p0_1] : List Value).toArray 63 (0, 0)), M0_0, M0_1, Mem.one g_2 (.cells ([.int .i64 x1.Index, .int .i64 x1.Entry.Sess, .int .i64 x1.Entry.Seq, .int .i64 x1.Entry.Cmd.Kind, .int .i64 x1.Entry.Cmd.Who, p1_2, p1_3, p1_4, .int .i64 x1.Result.Err, p1_5, .int .i64 x1.Result.N] : List Value).toArray 51 (0, 0))] Z := hS
    replace hm : Fr 80 a [(4, .bool false)] := hm.keep [4]
    exact x_then_n (hJ_j_6  H _ _ ⟨N_7, hm, (Sep.sel hS [0, 1, 2, 3, 1003] (by decide)), le_7⟩)

set_option maxHeartbeats 4000000 in
set_option maxRecDepth 20000 in
theorem hocketref15_Calls_Again.calls (K : Nat) (g0 : Nat) (x0_l : List hocketref15_call) (p0_0 : Value) (M0_0 : Mem) (x0_r : List api_Reply) (p0_1 : Value) (M0_1 : Mem) (r : (List hocketref15_call) × (List api_Reply)) (w0 w : World) (Z A : Mem) (hA : A.le Z) (hS : Sep w0 w [Mem.one g0 (.cells ([p0_0, p0_1] : List Value).toArray 63 (0, 0)), M0_0, M0_1] Z) (hp0_0 : Own k_hocketref15_call 84 M0_0 A p0_0 x0_l) (hp0_1 : Own k_api_Reply 56 M0_1 A p0_1 x0_r)
    (H : hocketref15_Calls_Again.f K x0_l x0_r = some r) :
    Calls Try.prog 35 [.pointer (some ⟨g0, 0, none⟩)].toArray w (Ret fun v w' => ∃ (u0 : Value) (u1 : Value) (N : Mem) (M100 : Mem) (M101 : Mem), v = .tuple [].toArray ∧ Sep w0 w' [N, Mem.one g0 (.cells ([u0, u1] : List Value).toArray 63 (0, 0)), M100, M101] Z ∧ Own k_hocketref15_call 84 M100 (A.un N) u0 r.1 ∧ Own k_api_Reply 56 M101 (A.un N) u1 r.2) := by
  unfold hocketref15_Calls_Again.f at H
  refine f_enter _ Try.func35 rfl Try.ntmps35 rfl fun a hm => ?_
  replace hm : Fr 19 a [(0, .pointer (some ⟨g0, 0, none⟩))] := hm
  replace hS := hS.start
  replace hS : Sep w0 w [Mem.no, Mem.one g0 (.cells ([p0_0, p0_1] : List Value).toArray 63 (0, 0)), M0_0, M0_1] Z := hS
  refine wp_seq ?_
  refine wp_region_lit ?_
  refine s_assign hm rfl rfl ?_
  clear hm a; intro a hm
  refine wpList_nil ?_
  replace hm : Fr 19 a [(0, .pointer (some ⟨g0, 0, none⟩)), (2, .int .i64 0)] := hm.keep [0, 2]
  refine x_then_n ?_
  refine c_last fun KJ_1 hKJ_1 => ?_
  have hJ_j_9 : ∀ (x_3 : List hocketref15_call), hocketref15_Calls_Again.J1 K x0_r x_3 = some r → ∀ (a : Act) (w_8 : World), (∃ (v_6 : Value) (N_2 : Mem) (M_4 : Mem), Fr 19 a [] ∧ Sep w0 w_8 [N_2, Mem.one g0 (.cells ([v_6, p0_1] : List Value).toArray 63 (0, 0)), M_4, M0_1] Z ∧ Mem.no.le N_2 ∧ Own k_hocketref15_call 84 M_4 (A.un N_2) v_6 x_3) → KJ_1 a w_8 := by
    clear H hm hS a
    rintro x_3 H a w_8 ⟨v_6, N_2, M_4, hm, hS, le_2, ho_7⟩
    unfold hocketref15_Calls_Again.J1 at H
    refine hKJ_1 _ _ ?_
    refine f_end ?_
    obtain rfl := Option.some.inj H
    exact f_ret hm (rs := []) rfl .nil ⟨_, rfl, v_6, p0_1, N_2, M_4, M0_1, rfl, (Sep.sel hS [0, 1, 2, 3] (by decide)), (ho_7.mono (Mem.un_left (Mem.le.refl _))), (hp0_1.mono (Mem.le_un _ _))⟩
  clear hKJ_1
  replace hS : Sep w0 w [Mem.no, Mem.one g0 (.cells ([p0_0, p0_1] : List Value).toArray 63 (0, 0)), M0_0, M0_1] Z := hS
  replace hm : Fr 19 a [(0, .pointer (some ⟨g0, 0, none⟩)), (2, .int .i64 0)] := hm.keep [0, 2]
  refine c_block ?_
  refine c_loop (fun k_17 a w_17 => ∃ (x_11 : Int) (x_12 : List hocketref15_call) (v_15 : Value) (N_10 : Mem) (M_13 : Mem), hocketref15_Calls_Again.L1 K (fun v => hocketref15_Calls_Again.J1 K x0_r v) k_17 (x_11, x_12) = some r ∧ Fr 19 a [(0, .pointer (some ⟨g0, 0, none⟩)), (2, .int .i64 x_11)] ∧ Sep w0 w_17 [N_10, Mem.one g0 (.cells ([v_15, p0_1] : List Value).toArray 63 (0, 0)), M_13, M0_1] Z ∧ Mem.no.le N_10 ∧ Own k_hocketref15_call 84 M_13 (A.un N_10) v_15 x_12) K ⟨0, x0_l, p0_0, Mem.no, M0_0, H, hm, (Sep.sel hS [0, 1, 2, 3] (by decide)), (Mem.le.refl _), (hp0_0.mono (Mem.le_un _ _))⟩ (fun a w h => by obtain ⟨_, _, _, _, _, H, _⟩ := h; cases (show (none : Option ((List hocketref15_call) × (List api_Reply))) = some r from H)) ?_
  clear hm hS a H
  rintro k_17 a w_17 KL_17 hKL_17 ⟨x_11, x_12, v_15, N_10, M_13, H, hm, hS, le_10, ho_16⟩
  replace H : hocketref15_Calls_Again.B1 K (fun v => hocketref15_Calls_Again.J1 K x0_r v) (hocketref15_Calls_Again.L1 K (fun v => hocketref15_Calls_Again.J1 K x0_r v) k_17) x_11 x_12 = some r := H
  unfold hocketref15_Calls_Again.B1 at H
  refine c_seq fun KJ_19 hKJ_19 => ?_
  refine wp_seq ?_
  refine wp_region_lit ?_
  refine s_move hm rfl rfl ?_
  clear hm a; intro a hm
  refine s_move hm rfl rfl ?_
  clear hm a; intro a hm
  refine s_nilCheck hm rfl rfl ?_
  clear hm a; intro a hm
  refine s_fieldAddr hm rfl Try.underlying63 rfl ti61 rfl rfl ?_
  clear hm a; intro a hm
  refine s_load hm rfl rfl (hS.load_one (p := 1) rfl Try.underlying61 rfl rfl) ?_
  clear hm a; intro a hm
  refine s_lenO hm rfl Try.underlying61 rfl ho_16 ?_
  clear hm a; intro a hm
  refine s_cmp (b := decide (x_11 < (x_12.length : Int))) hm rfl rfl rfl (.inr (.inr (.inl ⟨rfl, rfl⟩))) ?_
  clear hm a; intro a hm
  refine wpList_nil ?_
  replace hm : Fr 19 a [(0, .pointer (some ⟨g0, 0, none⟩)), (2, .int .i64 x_11), (9, .bool (decide (x_11 < (x_12.length : Int))))] := hm.keep [0, 2, 9]
  refine x_then_n ?_
  by_cases hc_20 : x_11 < (x_12.length : Int)
  · rw [if_pos hc_20] at H
    refine c_cond_t hm rfl (decide_eq_true hc_20) ?_
    refine wp_skip ?_
    refine x_then_n (hKJ_19 _ _ ?_)
    refine wp_seq ?_
    refine c_block ?_
    refine wp_region_lit ?_
    refine s_move hm rfl rfl ?_
    clear hm a; intro a hm
    refine s_nilCheck hm rfl rfl ?_
    clear hm a; intro a hm
    refine s_fieldAddr hm rfl Try.underlying63 rfl ti61 rfl rfl ?_
    clear hm a; intro a hm
    refine s_load hm rfl rfl (hS.load_one (p := 1) rfl Try.underlying61 rfl rfl) ?_
    clear hm a; intro a hm
    refine s_move hm rfl rfl ?_
    clear hm a; intro a hm
    obtain ⟨t_21, et_21, H⟩ := Option.bind_eq_some_iff.1 H
    refine s_indexOwn hm rfl Try.underlying61 ti84 rfl rfl rfl ho_16 et_21 ?_
    intro g_22 cur_23 hM_24
    clear hm a; intro a hm
    refine s_fieldAddr hm rfl Try.underlying84 rfl ti4 rfl rfl ?_
    clear hm a; intro a hm
    obtain ⟨w_25, M_26, hs', hS', ho_27⟩ := Own.stored (P := Try.prog) (p := 2) (t := 4) (o := 7) (nv := .bool false) (vs := [.bool false]) (u' := (⟨t_21.e, false⟩ : hocketref15_call)) hS rfl ho_16 hM_24 et_21 ti4 rfl rfl rfl (by intro u hu; simp only [List.mem_cons, List.not_mem_nil, or_false] at hu; rcases hu with rfl <;> rfl) (by intro cs hk; obtain ⟨v_28, v_29, v_30, rfl, hr_31, hr_32, hr_33⟩ := k_hocketref15_call.open' hk; exact k_hocketref15_call.mk' hr_31 hr_32 hr_33)
    refine s_store hm rfl rfl hs' ?_
    replace hS : Sep w0 w_25 [N_10, Mem.one g0 (.cells ([v_15, p0_1] : List Value).toArray 63 (0, 0)), M_26, M0_1] Z := hS'
    clear hs' hS'
    refine wpList_nil ?_
    replace hm : Fr 19 a [(0, .pointer (some ⟨g0, 0, none⟩)), (2, .int .i64 x_11)] := hm.keep [0, 2]
    refine x_block_n ?_
    refine x_then_n ?_
    refine wp_region_lit ?_
    refine s_move hm rfl rfl ?_
    clear hm a; intro a hm
    refine s_arith (r := w64 (x_11 + 1)) hm rfl rfl rfl (.inl ⟨rfl, rfl⟩) ?_
    clear hm a; intro a hm
    refine s_assign hm rfl rfl ?_
    clear hm a; intro a hm
    refine wpList_nil ?_
    replace hm : Fr 19 a [(0, .pointer (some ⟨g0, 0, none⟩)), (2, .int .i64 (w64 (x_11 + 1)))] := hm.keep [0, 2]
    refine x_then_n (hKL_17 _ _ ?_)
    replace hS : Sep w0 w_25 [N_10, Mem.one g0 (.cells ([v_15, p0_1] : List Value).toArray 63 (0, 0)), M_26, M0_1] Z := hS
    replace hm : Fr 19 a [(0, .pointer (some ⟨g0, 0, none⟩)), (2, .int .i64 (w64 (x_11 + 1)))] := hm.keep [0, 2]
    exact ⟨w64 (x_11 + 1), (x_12.set (x_11).toNat (⟨t_21.e, false⟩ : hocketref15_call)), v_15, N_10, M_26, H, hm, (Sep.sel hS [0, 1, 2, 3] (by decide)), le_10, (ho_27.mono (Mem.un_left (Mem.le.refl _)))⟩
  · rw [if_neg hc_20] at H
    refine c_cond_f hm rfl (decide_eq_false hc_20) ?_
    refine wp_exit (x_then_x (x_then_x (x_block_t ?_)))
    replace hS : Sep w0 w_17 [N_10, Mem.one g0 (.cells ([v_15, p0_1] : List Value).toArray 63 (0, 0)), M_13, M0_1] Z := hS
    replace hm : Fr 19 a [] := hm.keep []
    exact x_then_n (hJ_j_9 x_12 H _ _ ⟨v_15, N_10, M_13, hm, (Sep.sel hS [0, 1, 2, 3] (by decide)), le_10, (ho_16.mono (Mem.un_left (Mem.le.refl _)))⟩)

set_option maxHeartbeats 4000000 in
set_option maxRecDepth 20000 in
theorem hocketref15_SameReplies.calls (K : Nat) (x0 : List api_Reply) (p0_0 : Value) (x1 : List api_Reply) (p1_1 : Value) (r : Bool) (w0 w : World) (Z A : Mem) (hA : A.le Z) (hS : Sep w0 w [] Z) (hp0_0 : Rd k_api_Reply A p0_0 x0) (hp1_1 : Rd k_api_Reply A p1_1 x1)
    (H : hocketref15_SameReplies.f K x0 x1 = some r) :
    Calls Try.prog 36 [p0_0, p1_1].toArray w (Ret fun v w' => ∃ (N : Mem), v = .bool r ∧ Sep w0 w' [N] Z) := by
  unfold hocketref15_SameReplies.f at H
  refine f_enter _ Try.func36 rfl Try.ntmps36 rfl fun a hm => ?_
  replace hm : Fr 55 a [(0, p0_0), (1, p1_1)] := hm
  replace hS := hS.start
  replace hS : Sep w0 w [Mem.no] Z := hS
  refine wp_seq ?_
  refine wp_region_lit ?_
  refine s_assign hm rfl rfl ?_
  clear hm a; intro a hm
  refine wpList_nil ?_
  replace hm : Fr 55 a [(0, p0_0), (1, p1_1), (4, .bool false)] := hm.keep [0, 1, 4]
  refine x_then_n ?_
  refine c_seq fun KJ_1 hKJ_1 => ?_
  refine wp_seq ?_
  refine wp_region_lit ?_
  refine s_move hm rfl rfl ?_
  clear hm a; intro a hm
  refine s_len hm rfl Try.underlying53 rfl hp0_0 ?_
  clear hm a; intro a hm
  refine s_move hm rfl rfl ?_
  clear hm a; intro a hm
  refine s_len hm rfl Try.underlying53 rfl hp1_1 ?_
  clear hm a; intro a hm
  refine s_cmp (b := ((x0.length : Int) != (x1.length : Int))) hm rfl rfl rfl (.inr (.inl ⟨rfl, rfl⟩)) ?_
  clear hm a; intro a hm
  refine wpList_nil ?_
  replace hm : Fr 55 a [(0, p0_0), (1, p1_1), (4, .bool false), (10, .bool ((x0.length : Int) != (x1.length : Int)))] := hm.keep [0, 1, 4, 10]
  refine x_then_n ?_
  by_cases hc_2 : (x0.length : Int) = (x1.length : Int)
  · rw [if_pos hc_2] at H
    refine c_cond_f hm rfl (bne_eq_false_iff_eq.2 hc_2) ?_
    refine wp_skip ?_
    refine x_then_n (hKJ_1 _ _ ?_)
    refine c_seq fun KJ_3 hKJ_3 => ?_
    refine wp_seq ?_
    refine wp_region_lit ?_
    refine s_assign hm rfl rfl ?_
    clear hm a; intro a hm
    refine wpList_nil ?_
    replace hm : Fr 55 a [(0, p0_0), (1, p1_1), (4, .bool false), (5, .int .i64 0)] := hm.keep [0, 1, 4, 5]
    refine x_then_n ?_
    have hJ_j_6 : hocketref15_SameReplies.J1 K = some r → ∀ (a : Act) (w_5 : World), (∃ (N_4 : Mem), Fr 55 a [(4, .bool false)] ∧ Sep w0 w_5 [N_4] Z ∧ Mem.no.le N_4) → KJ_3 a w_5 := by
      clear H hm hS a
      rintro H a w_5 ⟨N_4, hm, hS, le_4⟩
      unfold hocketref15_SameReplies.J1 at H
      refine hKJ_3 _ _ ?_
      refine wp_seq ?_
      refine wp_region_lit ?_
      refine s_assign hm rfl rfl ?_
      clear hm a; intro a hm
      refine wpList_nil ?_
      replace hm : Fr 55 a [(4, .bool true)] := hm.keep [4]
      refine x_then_n ?_
      refine wp_ret ?_
      obtain rfl := Option.some.inj H
      exact f_ret hm (rs := [.tmp 4]) rfl (.tmp rfl .nil) ⟨_, rfl, N_4, rfl, (Sep.sel hS [0] (by decide))⟩
    clear hKJ_3
    replace hS : Sep w0 w [Mem.no] Z := hS
    replace hm : Fr 55 a [(0, p0_0), (1, p1_1), (4, .bool false), (5, .int .i64 0)] := hm.keep [0, 1, 4, 5]
    refine c_block ?_
    refine c_loop (fun k_9 a w_9 => ∃ (x_8 : Int) (N_7 : Mem), hocketref15_SameReplies.L1 K x0 x1 (fun v => hocketref15_SameReplies.J1 K) k_9 x_8 = some r ∧ Fr 55 a [(0, p0_0), (1, p1_1), (4, .bool false), (5, .int .i64 x_8)] ∧ Sep w0 w_9 [N_7] Z ∧ Mem.no.le N_7) K ⟨0, Mem.no, H, hm, (Sep.sel hS [0] (by decide)), (Mem.le.refl _)⟩ (fun a w h => by obtain ⟨_, _, H, _⟩ := h; cases (show (none : Option (Bool)) = some r from H)) ?_
    clear hm hS a H
    rintro k_9 a w_9 KL_9 hKL_9 ⟨x_8, N_7, H, hm, hS, le_7⟩
    replace H : hocketref15_SameReplies.B1 K x0 x1 (fun v => hocketref15_SameReplies.J1 K) (hocketref15_SameReplies.L1 K x0 x1 (fun v => hocketref15_SameReplies.J1 K) k_9) x_8 = some r := H
    unfold hocketref15_SameReplies.B1 at H
    refine c_seq fun KJ_11 hKJ_11 => ?_
    refine wp_seq ?_
    refine wp_region_lit ?_
    refine s_move hm rfl rfl ?_
    clear hm a; intro a hm
    refine s_move hm rfl rfl ?_
    clear hm a; intro a hm
    refine s_len hm rfl Try.underlying53 rfl hp0_0 ?_
    clear hm a; intro a hm
    refine s_cmp (b := decide (x_8 < (x0.length : Int))) hm rfl rfl rfl (.inr (.inr (.inl ⟨rfl, rfl⟩))) ?_
    clear hm a; intro a hm
    refine wpList_nil ?_
    replace hm : Fr 55 a [(0, p0_0), (1, p1_1), (4, .bool false), (5, .int .i64 x_8), (14, .bool (decide (x_8 < (x0.length : Int))))] := hm.keep [0, 1, 4, 5, 14]
    refine x_then_n ?_
    by_cases hc_12 : x_8 < (x0.length : Int)
    · rw [if_pos hc_12] at H
      refine c_cond_t hm rfl (decide_eq_true hc_12) ?_
      refine wp_skip ?_
      refine x_then_n (hKJ_11 _ _ ?_)
      refine c_seq fun KJ_13 hKJ_13 => ?_
      refine c_block ?_
      refine c_seq fun KJ_14 hKJ_14 => ?_
      have hJ_j_18 : ∀ (x_16 : Bool), hocketref15_SameReplies.J2 K (hocketref15_SameReplies.L1 K x0 x1 (fun v => hocketref15_SameReplies.J1 K) k_9) x_8 x_16 = some r → ∀ (a : Act) (w_17 : World), (∃ (N_15 : Mem), Fr 55 a [(0, p0_0), (1, p1_1), (4, .bool false), (5, .int .i64 x_8), (54, .bool x_16)] ∧ Sep w0 w_17 [N_15] Z ∧ N_7.le N_15) → KJ_14 a w_17 := by
        clear H hm hS a
        rintro x_16 H a w_17 ⟨N_15, hm, hS, le_15⟩
        unfold hocketref15_SameReplies.J2 at H
        refine hKJ_14 _ _ ?_
        by_cases hc_19 : x_16 = true
        · rw [if_pos hc_19] at H
          refine c_cond_t hm rfl hc_19 ?_
          refine wp_seq ?_
          refine wp_region_lit ?_
          refine s_assign hm rfl rfl ?_
          clear hm a; intro a hm
          refine wpList_nil ?_
          replace hm : Fr 55 a [(0, p0_0), (1, p1_1), (4, .bool false), (5, .int .i64 x_8)] := hm.keep [0, 1, 4, 5]
          refine x_then_n ?_
          refine wp_ret (x_block_r (x_then_r (x_then_r (x_block_r (x_then_r ?_)))))
          obtain rfl := Option.some.inj H
          exact f_ret hm (rs := [.tmp 4]) rfl (.tmp rfl .nil) ⟨_, rfl, N_15, rfl, (Sep.sel hS [0] (by decide))⟩
        · rw [if_neg hc_19] at H
          refine c_cond_f hm rfl (Bool.eq_false_iff.2 hc_19) ?_
          refine wp_skip ?_
          refine x_block_n ?_
          refine x_then_n (hKJ_13 _ _ ?_)
          refine wp_region_lit ?_
          refine s_move hm rfl rfl ?_
          clear hm a; intro a hm
          refine s_arith (r := w64 (x_8 + 1)) hm rfl rfl rfl (.inl ⟨rfl, rfl⟩) ?_
          clear hm a; intro a hm
          refine s_assign hm rfl rfl ?_
          clear hm a; intro a hm
          refine wpList_nil ?_
          replace hm : Fr 55 a [(0, p0_0), (1, p1_1), (4, .bool false), (5, .int .i64 (w64 (x_8 + 1)))] := hm.keep [0, 1, 4, 5]
          refine x_then_n (hKL_9 _ _ ?_)
          replace hS : Sep w0 w_17 [N_15] Z := hS
          replace hm : Fr 55 a [(0, p0_0), (1, p1_1), (4, .bool false), (5, .int .i64 (w64 (x_8 + 1)))] := hm.keep [0, 1, 4, 5]
          exact ⟨w64 (x_8 + 1), N_15, H, hm, (Sep.sel hS [0] (by decide)), (le_7.trans le_15)⟩
      clear hKJ_14
      refine h_begin (S := fun w => Sep w0 w [N_7] Z) 38 (by kernel_rfl) rfl [false, false, false, false, false, false, false, false, false, false, false, false, false, false, false, false, false, false, false, false, false, false, false, false, false, false, false, false, false, false, false, false, false, false, false, false, false, false].toArray rfl hS fun w_20 hS => ?_
      replace hS : Sep w0 w_20 [N_7] Z := hS
      refine h_take 0 [true, false, false, false, false, false, false, false, false, false, false, false, false, false, false, false, false, false, false, false, false, false, false, false, false, false, false, false, false, false, false, false, false, false, false, false, false, false].toArray rfl (by kernel_rfl) (by kernel_rfl) (by kernel_rfl) (fun _ _ _ _ h => h) rfl rfl rfl rfl hm (hS.sub (.cons (Mem.le.refl _) (Sub.nil _))) (v := p0_0) (fun w hS => r_move hm rfl) ?_
      clear hm a; intro a hm
      refine h_take 1 [true, true, false, false, false, false, false, false, false, false, false, false, false, false, false, false, false, false, false, false, false, false, false, false, false, false, false, false, false, false, false, false, false, false, false, false, false, false].toArray rfl (by kernel_rfl) (by kernel_rfl) (by kernel_rfl) (fun _ _ _ _ h => h) rfl rfl rfl rfl hm (hS.sub (.cons (Mem.le.refl _) (Sub.nil _))) (v := .int .i64 x_8) (fun w hS => r_move hm rfl) ?_
      clear hm a; intro a hm
      obtain ⟨t_21, et_21, H⟩ := Option.bind_eq_some_iff.1 H
      refine h_takeE 2 [true, true, true, false, false, false, false, false, false, false, false, false, false, false, false, false, false, false, false, false, false, false, false, false, false, false, false, false, false, false, false, false, false, false, false, false, false, false].toArray rfl (by kernel_rfl) (by kernel_rfl) (by kernel_rfl) (fun _ _ _ _ h => h) rfl rfl rfl rfl hm (hS.sub (.cons (Mem.le.refl _) (Sub.nil _))) (f := fun ad => .pointer (some ad)) (r_index hm Try.underlying53 ti56 rfl rfl rfl hp0_0 et_21) ?_
      rintro ad_22 ⟨cs_23, hk_24, hc_25⟩
      obtain ⟨v_26, rfl, hr_27⟩ := k_api_Reply.open' hk_24
      clear hm a; intro a hm
      refine h_take 3 [true, true, true, true, false, false, false, false, false, false, false, false, false, false, false, false, false, false, false, false, false, false, false, false, false, false, false, false, false, false, false, false, false, false, false, false, false, false].toArray rfl (by kernel_rfl) (by kernel_rfl) (by kernel_rfl) (fun _ _ _ _ h => h) rfl rfl rfl rfl hm (hS.sub (.cons (Mem.le.refl _) (Sub.nil _))) (v := .pointer (some (ad_22.add 0))) (fun w hS => r_fieldAddr hm Try.underlying56 rfl ti3 rfl rfl rfl) ?_
      clear hm a; intro a hm
      refine h_take 4 [true, true, true, true, true, false, false, false, false, false, false, false, false, false, false, false, false, false, false, false, false, false, false, false, false, false, false, false, false, false, false, false, false, false, false, false, false, false].toArray rfl (by kernel_rfl) (by kernel_rfl) (by kernel_rfl) (fun _ _ _ _ h => h) rfl rfl rfl rfl hm (hS.sub (.cons (Mem.le.refl _) (Sub.nil _))) (v := .int .i64 t_21.Sess) (fun w hS => r_load hm rfl (el_one (o := 0) (fun j c h => Mem.cell_le (hA.trans hS.old) (hc_25 j c h)) Try.underlying3 rfl rfl)) ?_
      clear hm a; intro a hm
      refine h_take 5 [true, true, true, true, true, true, false, false, false, false, false, false, false, false, false, false, false, false, false, false, false, false, false, false, false, false, false, false, false, false, false, false, false, false, false, false, false, false].toArray rfl (by kernel_rfl) (by kernel_rfl) (by kernel_rfl) (fun _ _ _ _ h => h) rfl rfl rfl rfl hm (hS.sub (.cons (Mem.le.refl _) (Sub.nil _))) (v := p1_1) (fun w hS => r_move hm rfl) ?_
      clear hm a; intro a hm
      refine h_take 6 [true, true, true, true, true, true, true, false, false, false, false, false, false, false, false, false, false, false, false, false, false, false, false, false, false, false, false, false, false, false, false, false, false, false, false, false, false, false].toArray rfl (by kernel_rfl) (by kernel_rfl) (by kernel_rfl) (fun _ _ _ _ h => h) rfl rfl rfl rfl hm (hS.sub (.cons (Mem.le.refl _) (Sub.nil _))) (v := .int .i64 x_8) (fun w hS => r_move hm rfl) ?_
      clear hm a; intro a hm
      obtain ⟨t_28, et_28, H⟩ := Option.bind_eq_some_iff.1 H
      refine h_takeE 7 [true, true, true, true, true, true, true, true, false, false, false, false, false, false, false, false, false, false, false, false, false, false, false, false, false, false, false, false, false, false, false, false, false, false, false, false, false, false].toArray rfl (by kernel_rfl) (by kernel_rfl) (by kernel_rfl) (fun _ _ _ _ h => h) rfl rfl rfl rfl hm (hS.sub (.cons (Mem.le.refl _) (Sub.nil _))) (f := fun ad => .pointer (some ad)) (r_index hm Try.underlying53 ti56 rfl rfl rfl hp1_1 et_28) ?_
      rintro ad_29 ⟨cs_30, hk_31, hc_32⟩
      obtain ⟨v_33, rfl, hr_34⟩ := k_api_Reply.open' hk_31
      clear hm a; intro a hm
      refine h_take 8 [true, true, true, true, true, true, true, true, true, false, false, false, false, false, false, false, false, false, false, false, false, false, false, false, false, false, false, false, false, false, false, false, false, false, false, false, false, false].toArray rfl (by kernel_rfl) (by kernel_rfl) (by kernel_rfl) (fun _ _ _ _ h => h) rfl rfl rfl rfl hm (hS.sub (.cons (Mem.le.refl _) (Sub.nil _))) (v := .pointer (some (ad_29.add 0))) (fun w hS => r_fieldAddr hm Try.underlying56 rfl ti3 rfl rfl rfl) ?_
      clear hm a; intro a hm
      refine h_take 9 [true, true, true, true, true, true, true, true, true, true, false, false, false, false, false, false, false, false, false, false, false, false, false, false, false, false, false, false, false, false, false, false, false, false, false, false, false, false].toArray rfl (by kernel_rfl) (by kernel_rfl) (by kernel_rfl) (fun _ _ _ _ h => h) rfl rfl rfl rfl hm (hS.sub (.cons (Mem.le.refl _) (Sub.nil _))) (v := .int .i64 t_28.Sess) (fun w hS => r_load hm rfl (el_one (o := 0) (fun j c h => Mem.cell_le (hA.trans hS.old) (hc_32 j c h)) Try.underlying3 rfl rfl)) ?_
      clear hm a; intro a hm
      refine h_take 10 [true, true, true, true, true, true, true, true, true, true, true, false, false, false, false, false, false, false, false, false, false, false, false, false, false, false, false, false, false, false, false, false, false, false, false, false, false, false].toArray rfl (by kernel_rfl) (by kernel_rfl) (by kernel_rfl) (fun _ _ _ _ h => h) rfl rfl rfl rfl hm (hS.sub (.cons (Mem.le.refl _) (Sub.nil _))) (v := .bool (t_21.Sess != t_28.Sess)) (fun w hS => r_cmp (b := (t_21.Sess != t_28.Sess)) hm rfl rfl (.inr (.inl ⟨rfl, rfl⟩))) ?_
      clear hm a; intro a hm
      refine h_take 11 [true, true, true, true, true, true, true, true, true, true, true, true, false, false, false, false, false, false, false, false, false, false, false, false, false, false, false, false, false, false, false, false, false, false, false, false, false, false].toArray rfl (by kernel_rfl) (by kernel_rfl) (by kernel_rfl) (fun _ _ _ _ h => h) rfl rfl rfl rfl hm (hS.sub (.cons (Mem.le.refl _) (Sub.nil _))) (v := .bool (t_21.Sess != t_28.Sess)) (fun w hS => r_move hm rfl) ?_
      clear hm a; intro a hm
      by_cases hc_35 : t_21.Sess = t_28.Sess
      · rw [if_pos hc_35] at H
        refine h_take_on 12 [true, true, true, true, true, true, true, true, true, true, true, true, true, false, false, false, false, false, false, false, false, false, false, false, false, false, false, false, false, false, false, false, false, false, false, false, false, false].toArray rfl (by kernel_rfl) (by kernel_rfl) (by kernel_rfl) (fun _ _ _ _ h => h) rfl rfl rfl rfl (bne_eq_false_iff_eq.2 hc_35) rfl rfl hm (hS.sub (.cons (Mem.le.refl _) (Sub.nil _))) (v := p0_0) (fun w hS => r_move hm rfl) ?_
        clear hm a; intro a hm
        refine h_take_on 13 [true, true, true, true, true, true, true, true, true, true, true, true, true, true, false, false, false, false, false, false, false, false, false, false, false, false, false, false, false, false, false, false, false, false, false, false, false, false].toArray rfl (by kernel_rfl) (by kernel_rfl) (by kernel_rfl) (fun _ _ _ _ h => h) rfl rfl rfl rfl (bne_eq_false_iff_eq.2 hc_35) rfl rfl hm (hS.sub (.cons (Mem.le.refl _) (Sub.nil _))) (v := .int .i64 x_8) (fun w hS => r_move hm rfl) ?_
        clear hm a; intro a hm
        obtain ⟨t_36, et_36, H⟩ := Option.bind_eq_some_iff.1 H
        refine h_takeE_on 14 [true, true, true, true, true, true, true, true, true, true, true, true, true, true, true, false, false, false, false, false, false, false, false, false, false, false, false, false, false, false, false, false, false, false, false, false, false, false].toArray rfl (by kernel_rfl) (by kernel_rfl) (by kernel_rfl) (fun _ _ _ _ h => h) rfl rfl rfl rfl (bne_eq_false_iff_eq.2 hc_35) rfl rfl hm (hS.sub (.cons (Mem.le.refl _) (Sub.nil _))) (f := fun ad => .pointer (some ad)) (r_index hm Try.underlying53 ti56 rfl rfl rfl hp0_0 et_36) ?_
        rintro ad_37 ⟨cs_38, hk_39, hc_40⟩
        obtain ⟨v_41, rfl, hr_42⟩ := k_api_Reply.open' hk_39
        clear hm a; intro a hm
        refine h_take_on 15 [true, true, true, true, true, true, true, true, true, true, true, true, true, true, true, true, false, false, false, false, false, false, false, false, false, false, false, false, false, false, false, false, false, false, false, false, false, false].toArray rfl (by kernel_rfl) (by kernel_rfl) (by kernel_rfl) (fun _ _ _ _ h => h) rfl rfl rfl rfl (bne_eq_false_iff_eq.2 hc_35) rfl rfl hm (hS.sub (.cons (Mem.le.refl _) (Sub.nil _))) (v := .pointer (some (ad_37.add 1))) (fun w hS => r_fieldAddr hm Try.underlying56 rfl ti3 rfl rfl rfl) ?_
        clear hm a; intro a hm
        refine h_take_on 16 [true, true, true, true, true, true, true, true, true, true, true, true, true, true, true, true, true, false, false, false, false, false, false, false, false, false, false, false, false, false, false, false, false, false, false, false, false, false].toArray rfl (by kernel_rfl) (by kernel_rfl) (by kernel_rfl) (fun _ _ _ _ h => h) rfl rfl rfl rfl (bne_eq_false_iff_eq.2 hc_35) rfl rfl hm (hS.sub (.cons (Mem.le.refl _) (Sub.nil _))) (v := .int .i64 t_36.Seq) (fun w hS => r_load hm rfl (el_one (o := 1) (fun j c h => Mem.cell_le (hA.trans hS.old) (hc_40 j c h)) Try.underlying3 rfl rfl)) ?_
        clear hm a; intro a hm
        refine h_take_on 17 [true, true, true, true, true, true, true, true, true, true, true, true, true, true, true, true, true, true, false, false, false, false, false, false, false, false, false, false, false, false, false, false, false, false, false, false, false, false].toArray rfl (by kernel_rfl) (by kernel_rfl) (by kernel_rfl) (fun _ _ _ _ h => h) rfl rfl rfl rfl (bne_eq_false_iff_eq.2 hc_35) rfl rfl hm (hS.sub (.cons (Mem.le.refl _) (Sub.nil _))) (v := p1_1) (fun w hS => r_move hm rfl) ?_
        clear hm a; intro a hm
        refine h_take_on 18 [true, true, true, true, true, true, true, true, true, true, true, true, true, true, true, true, true, true, true, false, false, false, false, false, false, false, false, false, false, false, false, false, false, false, false, false, false, false].toArray rfl (by kernel_rfl) (by kernel_rfl) (by kernel_rfl) (fun _ _ _ _ h => h) rfl rfl rfl rfl (bne_eq_false_iff_eq.2 hc_35) rfl rfl hm (hS.sub (.cons (Mem.le.refl _) (Sub.nil _))) (v := .int .i64 x_8) (fun w hS => r_move hm rfl) ?_
        clear hm a; intro a hm
        obtain ⟨t_43, et_43, H⟩ := Option.bind_eq_some_iff.1 H
        refine h_takeE_on 19 [true, true, true, true, true, true, true, true, true, true, true, true, true, true, true, true, true, true, true, true, false, false, false, false, false, false, false, false, false, false, false, false, false, false, false, false, false, false].toArray rfl (by kernel_rfl) (by kernel_rfl) (by kernel_rfl) (fun _ _ _ _ h => h) rfl rfl rfl rfl (bne_eq_false_iff_eq.2 hc_35) rfl rfl hm (hS.sub (.cons (Mem.le.refl _) (Sub.nil _))) (f := fun ad => .pointer (some ad)) (r_index hm Try.underlying53 ti56 rfl rfl rfl hp1_1 et_43) ?_
        rintro ad_44 ⟨cs_45, hk_46, hc_47⟩
        obtain ⟨v_48, rfl, hr_49⟩ := k_api_Reply.open' hk_46
        clear hm a; intro a hm
        refine h_take_on 20 [true, true, true, true, true, true, true, true, true, true, true, true, true, true, true, true, true, true, true, true, true, false, false, false, false, false, false, false, false, false, false, false, false, false, false, false, false, false].toArray rfl (by kernel_rfl) (by kernel_rfl) (by kernel_rfl) (fun _ _ _ _ h => h) rfl rfl rfl rfl (bne_eq_false_iff_eq.2 hc_35) rfl rfl hm (hS.sub (.cons (Mem.le.refl _) (Sub.nil _))) (v := .pointer (some (ad_44.add 1))) (fun w hS => r_fieldAddr hm Try.underlying56 rfl ti3 rfl rfl rfl) ?_
        clear hm a; intro a hm
        refine h_take_on 21 [true, true, true, true, true, true, true, true, true, true, true, true, true, true, true, true, true, true, true, true, true, true, false, false, false, false, false, false, false, false, false, false, false, false, false, false, false, false].toArray rfl (by kernel_rfl) (by kernel_rfl) (by kernel_rfl) (fun _ _ _ _ h => h) rfl rfl rfl rfl (bne_eq_false_iff_eq.2 hc_35) rfl rfl hm (hS.sub (.cons (Mem.le.refl _) (Sub.nil _))) (v := .int .i64 t_43.Seq) (fun w hS => r_load hm rfl (el_one (o := 1) (fun j c h => Mem.cell_le (hA.trans hS.old) (hc_47 j c h)) Try.underlying3 rfl rfl)) ?_
        clear hm a; intro a hm
        refine h_take_on 22 [true, true, true, true, true, true, true, true, true, true, true, true, true, true, true, true, true, true, true, true, true, true, true, false, false, false, false, false, false, false, false, false, false, false, false, false, false, false].toArray rfl (by kernel_rfl) (by kernel_rfl) (by kernel_rfl) (fun _ _ _ _ h => h) rfl rfl rfl rfl (bne_eq_false_iff_eq.2 hc_35) rfl rfl hm (hS.sub (.cons (Mem.le.refl _) (Sub.nil _))) (v := .bool (t_36.Seq != t_43.Seq)) (fun w hS => r_cmp (b := (t_36.Seq != t_43.Seq)) hm rfl rfl (.inr (.inl ⟨rfl, rfl⟩))) ?_
        clear hm a; intro a hm
        refine h_take 23 [true, true, true, true, true, true, true, true, true, true, true, true, true, true, true, true, true, true, true, true, true, true, true, true, false, false, false, false, false, false, false, false, false, false, false, false, false, false].toArray rfl (by kernel_rfl) (by kernel_rfl) (by kernel_rfl) (fun _ _ _ _ h => h) rfl rfl rfl rfl hm (hS.sub (.cons (Mem.le.refl _) (Sub.nil _))) (v := .bool (t_36.Seq != t_43.Seq)) (fun w hS => r_pick_f hm rfl (bne_eq_false_iff_eq.2 hc_35) rfl) ?_
        clear hm a; intro a hm
        refine h_take 24 [true, true, true, true, true, true, true, true, true, true, true, true, true, true, true, true, true, true, true, true, true, true, true, true, true, false, false, false, false, false, false, false, false, false, false, false, false, false].toArray rfl (by kernel_rfl) (by kernel_rfl) (by kernel_rfl) (fun _ _ _ _ h => h) rfl rfl rfl rfl hm (hS.sub (.cons (Mem.le.refl _) (Sub.nil _))) (v := .bool (t_36.Seq != t_43.Seq)) (fun w hS => r_move hm rfl) ?_
        clear hm a; intro a hm
        by_cases hc_50 : t_36.Seq = t_43.Seq
        · rw [if_pos hc_50] at H
          refine h_take_on 25 [true, true, true, true, true, true, true, true, true, true, true, true, true, true, true, true, true, true, true, true, true, true, true, true, true, true, false, false, false, false, false, false, false, false, false, false, false, false].toArray rfl (by kernel_rfl) (by kernel_rfl) (by kernel_rfl) (fun _ _ _ _ h => h) rfl rfl rfl rfl (bne_eq_false_iff_eq.2 hc_50) rfl rfl hm (hS.sub (.cons (Mem.le.refl _) (Sub.nil _))) (v := p0_0) (fun w hS => r_move hm rfl) ?_
          clear hm a; intro a hm
          refine h_take_on 26 [true, true, true, true, true, true, true, true, true, true, true, true, true, true, true, true, true, true, true, true, true, true, true, true, true, true, true, false, false, false, false, false, false, false, false, false, false, false].toArray rfl (by kernel_rfl) (by kernel_rfl) (by kernel_rfl) (fun _ _ _ _ h => h) rfl rfl rfl rfl (bne_eq_false_iff_eq.2 hc_50) rfl rfl hm (hS.sub (.cons (Mem.le.refl _) (Sub.nil _))) (v := .int .i64 x_8) (fun w hS => r_move hm rfl) ?_
          clear hm a; intro a hm
          obtain ⟨t_51, et_51, H⟩ := Option.bind_eq_some_iff.1 H
          refine h_takeE_on 27 [true, true, true, true, true, true, true, true, true, true, true, true, true, true, true, true, true, true, true, true, true, true, true, true, true, true, true, true, false, false, false, false, false, false, false, false, false, false].toArray rfl (by kernel_rfl) (by kernel_rfl) (by kernel_rfl) (fun _ _ _ _ h => h) rfl rfl rfl rfl (bne_eq_false_iff_eq.2 hc_50) rfl rfl hm (hS.sub (.cons (Mem.le.refl _) (Sub.nil _))) (f := fun ad => .pointer (some ad)) (r_index hm Try.underlying53 ti56 rfl rfl rfl hp0_0 et_51) ?_
          rintro ad_52 ⟨cs_53, hk_54, hc_55⟩
          obtain ⟨v_56, rfl, hr_57⟩ := k_api_Reply.open' hk_54
          clear hm a; intro a hm
          refine h_take_on 28 [true, true, true, true, true, true, true, true, true, true, true, true, true, true, true, true, true, true, true, true, true, true, true, true, true, true, true, true, true, false, false, false, false, false, false, false, false, false].toArray rfl (by kernel_rfl) (by kernel_rfl) (by kernel_rfl) (fun _ _ _ _ h => h) rfl rfl rfl rfl (bne_eq_false_iff_eq.2 hc_50) rfl rfl hm (hS.sub (.cons (Mem.le.refl _) (Sub.nil _))) (v := .pointer (some (ad_52.add 2))) (fun w hS => r_fieldAddr hm Try.underlying56 rfl ti28 rfl rfl rfl) ?_
          clear hm a; intro a hm
          refine h_take_on 29 [true, true, true, true, true, true, true, true, true, true, true, true, true, true, true, true, true, true, true, true, true, true, true, true, true, true, true, true, true, true, false, false, false, false, false, false, false, false].toArray rfl (by kernel_rfl) (by kernel_rfl) (by kernel_rfl) (fun _ _ _ _ h => h) rfl rfl rfl rfl (bne_eq_false_iff_eq.2 hc_50) rfl rfl hm (hS.sub (.cons (Mem.le.refl _) (Sub.nil _))) (v := .agg ([.int .i64 t_51.Result.Err, v_56, .int .i64 t_51.Result.N] : List Value).toArray) (fun w hS => r_load hm rfl (el_agg (o := 2) (us := [.int .i64 t_51.Result.Err, v_56, .int .i64 t_51.Result.N]) (fun j c h => Mem.cell_le (hA.trans hS.old) (hc_55 j c h)) Try.underlying28 rfl ti28 rfl rfl)) ?_
          clear hm a; intro a hm
          refine h_take_on 30 [true, true, true, true, true, true, true, true, true, true, true, true, true, true, true, true, true, true, true, true, true, true, true, true, true, true, true, true, true, true, true, false, false, false, false, false, false, false].toArray rfl (by kernel_rfl) (by kernel_rfl) (by kernel_rfl) (fun _ _ _ _ h => h) rfl rfl rfl rfl (bne_eq_false_iff_eq.2 hc_50) rfl rfl hm (hS.sub (.cons (Mem.le.refl _) (Sub.nil _))) (v := p1_1) (fun w hS => r_move hm rfl) ?_
          clear hm a; intro a hm
          refine h_take_on 31 [true, true, true, true, true, true, true, true, true, true, true, true, true, true, true, true, true, true, true, true, true, true, true, true, true, true, true, true, true, true, true, true, false, false, false, false, false, false].toArray rfl (by kernel_rfl) (by kernel_rfl) (by kernel_rfl) (fun _ _ _ _ h => h) rfl rfl rfl rfl (bne_eq_false_iff_eq.2 hc_50) rfl rfl hm (hS.sub (.cons (Mem.le.refl _) (Sub.nil _))) (v := .int .i64 x_8) (fun w hS => r_move hm rfl) ?_
          clear hm a; intro a hm
          obtain ⟨t_58, et_58, H⟩ := Option.bind_eq_some_iff.1 H
          refine h_takeE_on 32 [true, true, true, true, true, true, true, true, true, true, true, true, true, true, true, true, true, true, true, true, true, true, true, true, true, true, true, true, true, true, true, true, true, false, false, false, false, false].toArray rfl (by kernel_rfl) (by kernel_rfl) (by kernel_rfl) (fun _ _ _ _ h => h) rfl rfl rfl rfl (bne_eq_false_iff_eq.2 hc_50) rfl rfl hm (hS.sub (.cons (Mem.le.refl _) (Sub.nil _))) (f := fun ad => .pointer (some ad)) (r_index hm Try.underlying53 ti56 rfl rfl rfl hp1_1 et_58) ?_
          rintro ad_59 ⟨cs_60, hk_61, hc_62⟩
          obtain ⟨v_63, rfl, hr_64⟩ := k_api_Reply.open' hk_61
          clear hm a; intro a hm
          refine h_take_on 33 [true, true, true, true, true, true, true, true, true, true, true, true, true, true, true, true, true, true, true, true, true, true, true, true, true, true, true, true, true, true, true, true, true, true, false, false, false, false].toArray rfl (by kernel_rfl) (by kernel_rfl) (by kernel_rfl) (fun _ _ _ _ h => h) rfl rfl rfl rfl (bne_eq_false_iff_eq.2 hc_50) rfl rfl hm (hS.sub (.cons (Mem.le.refl _) (Sub.nil _))) (v := .pointer (some (ad_59.add 2))) (fun w hS => r_fieldAddr hm Try.underlying56 rfl ti28 rfl rfl rfl) ?_
          clear hm a; intro a hm
          refine h_take_on 34 [true, true, true, true, true, true, true, true, true, true, true, true, true, true, true, true, true, true, true, true, true, true, true, true, true, true, true, true, true, true, true, true, true, true, true, false, false, false].toArray rfl (by kernel_rfl) (by kernel_rfl) (by kernel_rfl) (fun _ _ _ _ h => h) rfl rfl rfl rfl (bne_eq_false_iff_eq.2 hc_50) rfl rfl hm (hS.sub (.cons (Mem.le.refl _) (Sub.nil _))) (v := .agg ([.int .i64 t_58.Result.Err, v_63, .int .i64 t_58.Result.N] : List Value).toArray) (fun w hS => r_load hm rfl (el_agg (o := 2) (us := [.int .i64 t_58.Result.Err, v_63, .int .i64 t_58.Result.N]) (fun j c h => Mem.cell_le (hA.trans hS.old) (hc_62 j c h)) Try.underlying28 rfl ti28 rfl rfl)) ?_
          clear hm a; intro a hm
          refine h_event 35 [true, true, true, true, true, true, true, true, true, true, true, true, true, true, true, true, true, true, true, true, true, true, true, true, true, true, true, true, true, true, true, true, true, true, true, true, false, false].toArray rfl (by kernel_rfl) rfl ?_
          refine s_on hm rfl rfl (bne_eq_false_iff_eq.2 hc_50) ?_
          obtain ⟨t_65, et_65, H⟩ := Option.bind_eq_some_iff.1 H
          refine s_call hm rfl Try.call19 rfl (hocketref4_SameResult.calls t_51.Result _ t_58.Result _ t_65 w0 _ _ _ (Mem.le.refl _) (hS.enter [] (by decide)) (hr_57.mono (hA.trans (hS.le_zed []))) (hr_64.mono (hA.trans (hS.le_zed []))) et_65) ?_
          rintro _ w_66 ⟨N_67, rfl, hS'⟩
          clear hm a; intro a hm
          obtain ⟨N_68, hS'', le_68, ln_68⟩ := hS.call [] (by decide) rfl (l' := []) (ow := []) rfl hS'
          replace hS : Sep w0 w_66 [N_68] Z := hS''
          clear hS' hS''
          refine wpList_nil ?_
          refine x_then_n ⟨(hS.sub (.cons le_68 (Sub.nil _))), ?_⟩
          refine h_take_on 36 [true, true, true, true, true, true, true, true, true, true, true, true, true, true, true, true, true, true, true, true, true, true, true, true, true, true, true, true, true, true, true, true, true, true, true, true, true, false].toArray rfl (by kernel_rfl) (by kernel_rfl) (by kernel_rfl) (fun _ _ _ _ h => h) rfl rfl rfl rfl (bne_eq_false_iff_eq.2 hc_50) rfl rfl hm (hS.sub (.cons le_68 (Sub.nil _))) (v := .bool (!t_65)) (fun w hS => r_not hm rfl) ?_
          clear hm a; intro a hm
          refine h_take 37 [true, true, true, true, true, true, true, true, true, true, true, true, true, true, true, true, true, true, true, true, true, true, true, true, true, true, true, true, true, true, true, true, true, true, true, true, true, true].toArray rfl (by kernel_rfl) (by kernel_rfl) (by kernel_rfl) (fun _ _ _ _ h => h) rfl rfl rfl rfl hm (hS.sub (.cons le_68 (Sub.nil _))) (v := .bool (!t_65)) (fun w hS => r_pick_f hm rfl (bne_eq_false_iff_eq.2 hc_50) rfl) ?_
          clear hm a; intro a hm
          refine h_done (by kernel_rfl) ?_
          replace hm : Fr 55 a [(0, p0_0), (1, p1_1), (4, .bool false), (5, .int .i64 x_8), (54, .bool (!t_65))] := hm.keep [0, 1, 4, 5, 54]
          replace hS : Sep w0 w_66 [N_68] Z := hS
          replace hm : Fr 55 a [(0, p0_0), (1, p1_1), (4, .bool false), (5, .int .i64 x_8), (54, .bool (!t_65))] := hm.keep [0, 1, 4, 5, 54]
          exact x_then_n (hJ_j_18 (!t_65) H _ _ ⟨N_68, hm, (Sep.sel hS [0] (by decide)), le_68⟩)
        · rw [if_neg hc_50] at H
          refine h_take_off 25 [true, true, true, true, true, true, true, true, true, true, true, true, true, true, true, true, true, true, true, true, true, true, true, true, true, true, false, false, false, false, false, false, false, false, false, false, false, false].toArray rfl (by kernel_rfl) (by kernel_rfl) (by kernel_rfl) (fun _ _ _ _ h => h) rfl rfl rfl rfl (.inl (congrArg Value.bool (bne_iff_ne.2 hc_50))) rfl rfl hm (hS.sub (.cons (Mem.le.refl _) (Sub.nil _))) ?_
          clear hm a; intro a hm
          refine h_take_off 26 [true, true, true, true, true, true, true, true, true, true, true, true, true, true, true, true, true, true, true, true, true, true, true, true, true, true, true, false, false, false, false, false, false, false, false, false, false, false].toArray rfl (by kernel_rfl) (by kernel_rfl) (by kernel_rfl) (fun _ _ _ _ h => h) rfl rfl rfl rfl (.inl (congrArg Value.bool (bne_iff_ne.2 hc_50))) rfl rfl hm (hS.sub (.cons (Mem.le.refl _) (Sub.nil _))) ?_
          clear hm a; intro a hm
          refine h_take_off 27 [true, true, true, true, true, true, true, true, true, true, true, true, true, true, true, true, true, true, true, true, true, true, true, true, true, true, true, true, false, false, false, false, false, false, false, false, false, false].toArray rfl (by kernel_rfl) (by kernel_rfl) (by kernel_rfl) (fun _ _ _ _ h => h) rfl rfl rfl rfl (.inl (congrArg Value.bool (bne_iff_ne.2 hc_50))) rfl rfl hm (hS.sub (.cons (Mem.le.refl _) (Sub.nil _))) ?_
          clear hm a; intro a hm
          refine h_take_off 28 [true, true, true, true, true, true, true, true, true, true, true, true, true, true, true, true, true, true, true, true, true, true, true, true, true, true, true, true, true, false, false, false, false, false, false, false, false, false].toArray rfl (by kernel_rfl) (by kernel_rfl) (by kernel_rfl) (fun _ _ _ _ h => h) rfl rfl rfl rfl (.inl (congrArg Value.bool (bne_iff_ne.2 hc_50))) rfl rfl hm (hS.sub (.cons (Mem.le.refl _) (Sub.nil _))) ?_
          clear hm a; intro a hm
          refine h_take_off 29 [true, true, true, true, true, true, true, true, true, true, true, true, true, true, true, true, true, true, true, true, true, true, true, true, true, true, true, true, true, true, false, false, false, false, false, false, false, false].toArray rfl (by kernel_rfl) (by kernel_rfl) (by kernel_rfl) (fun _ _ _ _ h => h) rfl rfl rfl rfl (.inl (congrArg Value.bool (bne_iff_ne.2 hc_50))) rfl rfl hm (hS.sub (.cons (Mem.le.refl _) (Sub.nil _))) ?_
          clear hm a; intro a hm
          refine h_take_off 30 [true, true, true, true, true, true, true, true, true, true, true, true, true, true, true, true, true, true, true, true, true, true, true, true, true, true, true, true, true, true, true, false, false, false, false, false, false, false].toArray rfl (by kernel_rfl) (by kernel_rfl) (by kernel_rfl) (fun _ _ _ _ h => h) rfl rfl rfl rfl (.inl (congrArg Value.bool (bne_iff_ne.2 hc_50))) rfl rfl hm (hS.sub (.cons (Mem.le.refl _) (Sub.nil _))) ?_
          clear hm a; intro a hm
          refine h_take_off 31 [true, true, true, true, true, true, true, true, true, true, true, true, true, true, true, true, true, true, true, true, true, true, true, true, true, true, true, true, true, true, true, true, false, false, false, false, false, false].toArray rfl (by kernel_rfl) (by kernel_rfl) (by kernel_rfl) (fun _ _ _ _ h => h) rfl rfl rfl rfl (.inl (congrArg Value.bool (bne_iff_ne.2 hc_50))) rfl rfl hm (hS.sub (.cons (Mem.le.refl _) (Sub.nil _))) ?_
          clear hm a; intro a hm
          refine h_take_off 32 [true, true, true, true, true, true, true, true, true, true, true, true, true, true, true, true, true, true, true, true, true, true, true, true, true, true, true, true, true, true, true, true, true, false, false, false, false, false].toArray rfl (by kernel_rfl) (by kernel_rfl) (by kernel_rfl) (fun _ _ _ _ h => h) rfl rfl rfl rfl (.inl (congrArg Value.bool (bne_iff_ne.2 hc_50))) rfl rfl hm (hS.sub (.cons (Mem.le.refl _) (Sub.nil _))) ?_
          clear hm a; intro a hm
          refine h_take_off 33 [true, true, true, true, true, true, true, true, true, true, true, true, true, true, true, true, true, true, true, true, true, true, true, true, true, true, true, true, true, true, true, true, true, true, false, false, false, false].toArray rfl (by kernel_rfl) (by kernel_rfl) (by kernel_rfl) (fun _ _ _ _ h => h) rfl rfl rfl rfl (.inl (congrArg Value.bool (bne_iff_ne.2 hc_50))) rfl rfl hm (hS.sub (.cons (Mem.le.refl _) (Sub.nil _))) ?_
          clear hm a; intro a hm
          refine h_take_off 34 [true, true, true, true, true, true, true, true, true, true, true, true, true, true, true, true, true, true, true, true, true, true, true, true, true, true, true, true, true, true, true, true, true, true, true, false, false, false].toArray rfl (by kernel_rfl) (by kernel_rfl) (by kernel_rfl) (fun _ _ _ _ h => h) rfl rfl rfl rfl (.inl (congrArg Value.bool (bne_iff_ne.2 hc_50))) rfl rfl hm (hS.sub (.cons (Mem.le.refl _) (Sub.nil _))) ?_
          clear hm a; intro a hm
          refine h_take_off 35 [true, true, true, true, true, true, true, true, true, true, true, true, true, true, true, true, true, true, true, true, true, true, true, true, true, true, true, true, true, true, true, true, true, true, true, true, false, false].toArray rfl (by kernel_rfl) (by kernel_rfl) (by kernel_rfl) (fun _ _ _ _ h => h) rfl rfl rfl rfl (.inl (congrArg Value.bool (bne_iff_ne.2 hc_50))) rfl rfl hm (hS.sub (.cons (Mem.le.refl _) (Sub.nil _))) ?_
          clear hm a; intro a hm
          refine h_take_off 36 [true, true, true, true, true, true, true, true, true, true, true, true, true, true, true, true, true, true, true, true, true, true, true, true, true, true, true, true, true, true, true, true, true, true, true, true, true, false].toArray rfl (by kernel_rfl) (by kernel_rfl) (by kernel_rfl) (fun _ _ _ _ h => h) rfl rfl rfl rfl (.inl (congrArg Value.bool (bne_iff_ne.2 hc_50))) rfl rfl hm (hS.sub (.cons (Mem.le.refl _) (Sub.nil _))) ?_
          clear hm a; intro a hm
          refine h_take 37 [true, true, true, true, true, true, true, true, true, true, true, true, true, true, true, true, true, true, true, true, true, true, true, true, true, true, true, true, true, true, true, true, true, true, true, true, true, true].toArray rfl (by kernel_rfl) (by kernel_rfl) (by kernel_rfl) (fun _ _ _ _ h => h) rfl rfl rfl rfl hm (hS.sub (.cons (Mem.le.refl _) (Sub.nil _))) (v := .bool true) (fun w hS => r_pick_t hm rfl (bne_iff_ne.2 hc_50) rfl) ?_
          clear hm a; intro a hm
          refine h_done (by kernel_rfl) ?_
          replace hm : Fr 55 a [(0, p0_0), (1, p1_1), (4, .bool false), (5, .int .i64 x_8), (54, .bool true)] := hm.keep [0, 1, 4, 5, 54]
          replace hS : Sep w0 w_20 [N_7] Z := hS
          replace hm : Fr 55 a [(0, p0_0), (1, p1_1), (4, .bool false), (5, .int .i64 x_8), (54, .bool true)] := hm.keep [0, 1, 4, 5, 54]
          exact x_then_n (hJ_j_18 true H _ _ ⟨N_7, hm, (Sep.sel hS [0] (by decide)), (Mem.le.refl _)⟩)
      · rw [if_neg hc_35] at H
        refine h_take_off 12 [true, true, true, true, true, true, true, true, true, true, true, true, true, false, false, false, false, false, false, false, false, false, false, false, false, false, false, false, false, false, false, false, false, false, false, false, false, false].toArray rfl (by kernel_rfl) (by kernel_rfl) (by kernel_rfl) (fun _ _ _ _ h => h) rfl rfl rfl rfl (.inl (congrArg Value.bool (bne_iff_ne.2 hc_35))) rfl rfl hm (hS.sub (.cons (Mem.le.refl _) (Sub.nil _))) ?_
        clear hm a; intro a hm
        refine h_take_off 13 [true, true, true, true, true, true, true, true, true, true, true, true, true, true, false, false, false, false, false, false, false, false, false, false, false, false, false, false, false, false, false, false, false, false, false, false, false, false].toArray rfl (by kernel_rfl) (by kernel_rfl) (by kernel_rfl) (fun _ _ _ _ h => h) rfl rfl rfl rfl (.inl (congrArg Value.bool (bne_iff_ne.2 hc_35))) rfl rfl hm (hS.sub (.cons (Mem.le.refl _) (Sub.nil _))) ?_
        clear hm a; intro a hm
        refine h_take_off 14 [true, true, true, true, true, true, true, true, true, true, true, true, true, true, true, false, false, false, false, false, false, false, false, false, false, false, false, false, false, false, false, false, false, false, false, false, false, false].toArray rfl (by kernel_rfl) (by kernel_rfl) (by kernel_rfl) (fun _ _ _ _ h => h) rfl rfl rfl rfl (.inl (congrArg Value.bool (bne_iff_ne.2 hc_35))) rfl rfl hm (hS.sub (.cons (Mem.le.refl _) (Sub.nil _))) ?_
        clear hm a; intro a hm
        refine h_take_off 15 [true, true, true, true, true, true, true, true, true, true, true, true, true, true, true, true, false, false, false, false, false, false, false, false, false, false, false, false, false, false, false, false, false, false, false, false, false, false].toArray rfl (by kernel_rfl) (by kernel_rfl) (by kernel_rfl) (fun _ _ _ _ h => h) rfl rfl rfl rfl (.inl (congrArg Value.bool (bne_iff_ne.2 hc_35))) rfl rfl hm (hS.sub (.cons (Mem.le.refl _) (Sub.nil _))) ?_
        clear hm a; intro a hm
        refine h_take_off 16 [true, true, true, true, true, true, true, true, true, true, true, true, true, true, true, true, true, false, false, false, false, false, false, false, false, false, false, false, false, false, false, false, false, false, false, false, false, false].toArray rfl (by kernel_rfl) (by kernel_rfl) (by kernel_rfl) (fun _ _ _ _ h => h) rfl rfl rfl rfl (.inl (congrArg Value.bool (bne_iff_ne.2 hc_35))) rfl rfl hm (hS.sub (.cons (Mem.le.refl _) (Sub.nil _))) ?_
        clear hm a; intro a hm
        refine h_take_off 17 [true, true, true, true, true, true, true, true, true, true, true, true, true, true, true, true, true, true, false, false, false, false, false, false, false, false, false, false, false, false, false, false, false, false, false, false, false, false].toArray rfl (by kernel_rfl) (by kernel_rfl) (by kernel_rfl) (fun _ _ _ _ h => h) rfl rfl rfl rfl (.inl (congrArg Value.bool (bne_iff_ne.2 hc_35))) rfl rfl hm (hS.sub (.cons (Mem.le.refl _) (Sub.nil _))) ?_
        clear hm a; intro a hm
        refine h_take_off 18 [true, true, true, true, true, true, true, true, true, true, true, true, true, true, true, true, true, true, true, false, false, false, false, false, false, false, false, false, false, false, false, false, false, false, false, false, false, false].toArray rfl (by kernel_rfl) (by kernel_rfl) (by kernel_rfl) (fun _ _ _ _ h => h) rfl rfl rfl rfl (.inl (congrArg Value.bool (bne_iff_ne.2 hc_35))) rfl rfl hm (hS.sub (.cons (Mem.le.refl _) (Sub.nil _))) ?_
        clear hm a; intro a hm
        refine h_take_off 19 [true, true, true, true, true, true, true, true, true, true, true, true, true, true, true, true, true, true, true, true, false, false, false, false, false, false, false, false, false, false, false, false, false, false, false, false, false, false].toArray rfl (by kernel_rfl) (by kernel_rfl) (by kernel_rfl) (fun _ _ _ _ h => h) rfl rfl rfl rfl (.inl (congrArg Value.bool (bne_iff_ne.2 hc_35))) rfl rfl hm (hS.sub (.cons (Mem.le.refl _) (Sub.nil _))) ?_
        clear hm a; intro a hm
        refine h_take_off 20 [true, true, true, true, true, true, true, true, true, true, true, true, true, true, true, true, true, true, true, true, true, false, false, false, false, false, false, false, false, false, false, false, false, false, false, false, false, false].toArray rfl (by kernel_rfl) (by kernel_rfl) (by kernel_rfl) (fun _ _ _ _ h => h) rfl rfl rfl rfl (.inl (congrArg Value.bool (bne_iff_ne.2 hc_35))) rfl rfl hm (hS.sub (.cons (Mem.le.refl _) (Sub.nil _))) ?_
        clear hm a; intro a hm
        refine h_take_off 21 [true, true, true, true, true, true, true, true, true, true, true, true, true, true, true, true, true, true, true, true, true, true, false, false, false, false, false, false, false, false, false, false, false, false, false, false, false, false].toArray rfl (by kernel_rfl) (by kernel_rfl) (by kernel_rfl) (fun _ _ _ _ h => h) rfl rfl rfl rfl (.inl (congrArg Value.bool (bne_iff_ne.2 hc_35))) rfl rfl hm (hS.sub (.cons (Mem.le.refl _) (Sub.nil _))) ?_
        clear hm a; intro a hm
        refine h_take_off 22 [true, true, true, true, true, true, true, true, true, true, true, true, true, true, true, true, true, true, true, true, true, true, true, false, false, false, false, false, false, false, false, false, false, false, false, false, false, false].toArray rfl (by kernel_rfl) (by kernel_rfl) (by kernel_rfl) (fun _ _ _ _ h => h) rfl rfl rfl rfl (.inl (congrArg Value.bool (bne_iff_ne.2 hc_35))) rfl rfl hm (hS.sub (.cons (Mem.le.refl _) (Sub.nil _))) ?_
        clear hm a; intro a hm
        refine h_take 23 [true, true, true, true, true, true, true, true, true, true, true, true, true, true, true, true, true, true, true, true, true, true, true, true, false, false, false, false, false, false, false, false, false, false, false, false, false, false].toArray rfl (by kernel_rfl) (by kernel_rfl) (by kernel_rfl) (fun _ _ _ _ h => h) rfl rfl rfl rfl hm (hS.sub (.cons (Mem.le.refl _) (Sub.nil _))) (v := .bool true) (fun w hS => r_pick_t hm rfl (bne_iff_ne.2 hc_35) rfl) ?_
        clear hm a; intro a hm
        refine h_take 24 [true, true, true, true, true, true, true, true, true, true, true, true, true, true, true, true, true, true, true, true, true, true, true, true, true, false, false, false, false, false, false, false, false, false, false, false, false, false].toArray rfl (by kernel_rfl) (by kernel_rfl) (by kernel_rfl) (fun _ _ _ _ h => h) rfl rfl rfl rfl hm (hS.sub (.cons (Mem.le.refl _) (Sub.nil _))) (v := .bool true) (fun w hS => r_move hm rfl) ?_
        clear hm a; intro a hm
        refine h_take_off 25 [true, true, true, true, true, true, true, true, true, true, true, true, true, true, true, true, true, true, true, true, true, true, true, true, true, true, false, false, false, false, false, false, false, false, false, false, false, false].toArray rfl (by kernel_rfl) (by kernel_rfl) (by kernel_rfl) (fun _ _ _ _ h => h) rfl rfl rfl rfl (.inl (congrArg Value.bool rfl)) rfl rfl hm (hS.sub (.cons (Mem.le.refl _) (Sub.nil _))) ?_
        clear hm a; intro a hm
        refine h_take_off 26 [true, true, true, true, true, true, true, true, true, true, true, true, true, true, true, true, true, true, true, true, true, true, true, true, true, true, true, false, false, false, false, false, false, false, false, false, false, false].toArray rfl (by kernel_rfl) (by kernel_rfl) (by kernel_rfl) (fun _ _ _ _ h => h) rfl rfl rfl rfl (.inl (congrArg Value.bool rfl)) rfl rfl hm (hS.sub (.cons (Mem.le.refl _) (Sub.nil _))) ?_
        clear hm a; intro a hm
        refine h_take_off 27 [true, true, true, true, true, true, true, true, true, true, true, true, true, true, true, true, true, true, true, true, true, true, true, true, true, true, true, true, false, false, false, false, false, false, false, false, false, false].toArray rfl (by kernel_rfl) (by kernel_rfl) (by kernel_rfl) (fun _ _ _ _ h => h) rfl rfl rfl rfl (.inl (congrArg Value.bool rfl)) rfl rfl hm (hS.sub (.cons (Mem.le.refl _) (Sub.nil _))) ?_
        clear hm a; intro a hm
        refine h_take_off 28 [true, true, true, true, true, true, true, true, true, true, true, true, true, true, true, true, true, true, true, true, true, true, true, true, true, true, true, true, true, false, false, false, false, false, false, false, false, false].toArray rfl (by kernel_rfl) (by kernel_rfl) (by kernel_rfl) (fun _ _ _ _ h => h) rfl rfl rfl rfl (.inl (congrArg Value.bool rfl)) rfl rfl hm (hS.sub (.cons (Mem.le.refl _) (Sub.nil _))) ?_
        clear hm a; intro a hm
        refine h_take_off 29 [true, true, true, true, true, true, true, true, true, true, true, true, true, true, true, true, true, true, true, true, true, true, true, true, true, true, true, true, true, true, false, false, false, false, false, false, false, false].toArray rfl (by kernel_rfl) (by kernel_rfl) (by kernel_rfl) (fun _ _ _ _ h => h) rfl rfl rfl rfl (.inl (congrArg Value.bool rfl)) rfl rfl hm (hS.sub (.cons (Mem.le.refl _) (Sub.nil _))) ?_
        clear hm a; intro a hm
        refine h_take_off 30 [true, true, true, true, true, true, true, true, true, true, true, true, true, true, true, true, true, true, true, true, true, true, true, true, true, true, true, true, true, true, true, false, false, false, false, false, false, false].toArray rfl (by kernel_rfl) (by kernel_rfl) (by kernel_rfl) (fun _ _ _ _ h => h) rfl rfl rfl rfl (.inl (congrArg Value.bool rfl)) rfl rfl hm (hS.sub (.cons (Mem.le.refl _) (Sub.nil _))) ?_
        clear hm a; intro a hm
        refine h_take_off 31 [true, true, true, true, true, true, true, true, true, true, true, true, true, true, true, true, true, true, true, true, true, true, true, true, true, true, true, true, true, true, true, true, false, false, false, false, false, false].toArray rfl (by kernel_rfl) (by kernel_rfl) (by kernel_rfl) (fun _ _ _ _ h => h) rfl rfl rfl rfl (.inl (congrArg Value.bool rfl)) rfl rfl hm (hS.sub (.cons (Mem.le.refl _) (Sub.nil _))) ?_
        clear hm a; intro a hm
        refine h_take_off 32 [true, true, true, true, true, true, true, true, true, true, true, true, true, true, true, true, true, true, true, true, true, true, true, true, true, true, true, true, true, true, true, true, true, false, false, false, false, false].toArray rfl (by kernel_rfl) (by kernel_rfl) (by kernel_rfl) (fun _ _ _ _ h => h) rfl rfl rfl rfl (.inl (congrArg Value.bool rfl)) rfl rfl hm (hS.sub (.cons (Mem.le.refl _) (Sub.nil _))) ?_
        clear hm a; intro a hm
        refine h_take_off 33 [true, true, true, true, true, true, true, true, true, true, true, true, true, true, true, true, true, true, true, true, true, true, true, true, true, true, true, true, true, true, true, true, true, true, false, false, false, false].toArray rfl (by kernel_rfl) (by kernel_rfl) (by kernel_rfl) (fun _ _ _ _ h => h) rfl rfl rfl rfl (.inl (congrArg Value.bool rfl)) rfl rfl hm (hS.sub (.cons (Mem.le.refl _) (Sub.nil _))) ?_
        clear hm a; intro a hm
        refine h_take_off 34 [true, true, true, true, true, true, true, true, true, true, true, true, true, true, true, true, true, true, true, true, true, true, true, true, true, true, true, true, true, true, true, true, true, true, true, false, false, false].toArray rfl (by kernel_rfl) (by kernel_rfl) (by kernel_rfl) (fun _ _ _ _ h => h) rfl rfl rfl rfl (.inl (congrArg Value.bool rfl)) rfl rfl hm (hS.sub (.cons (Mem.le.refl _) (Sub.nil _))) ?_
        clear hm a; intro a hm
        refine h_take_off 35 [true, true, true, true, true, true, true, true, true, true, true, true, true, true, true, true, true, true, true, true, true, true, true, true, true, true, true, true, true, true, true, true, true, true, true, true, false, false].toArray rfl (by kernel_rfl) (by kernel_rfl) (by kernel_rfl) (fun _ _ _ _ h => h) rfl rfl rfl rfl (.inl (congrArg Value.bool rfl)) rfl rfl hm (hS.sub (.cons (Mem.le.refl _) (Sub.nil _))) ?_
        clear hm a; intro a hm
        refine h_take_off 36 [true, true, true, true, true, true, true, true, true, true, true, true, true, true, true, true, true, true, true, true, true, true, true, true, true, true, true, true, true, true, true, true, true, true, true, true, true, false].toArray rfl (by kernel_rfl) (by kernel_rfl) (by kernel_rfl) (fun _ _ _ _ h => h) rfl rfl rfl rfl (.inl (congrArg Value.bool rfl)) rfl rfl hm (hS.sub (.cons (Mem.le.refl _) (Sub.nil _))) ?_
        clear hm a; intro a hm
        refine h_take 37 [true, true, true, true, true, true, true, true, true, true, true, true, true, true, true, true, true, true, true, true, true, true, true, true, true, true, true, true, true, true, true, true, true, true, true, true, true, true].toArray rfl (by kernel_rfl) (by kernel_rfl) (by kernel_rfl) (fun _ _ _ _ h => h) rfl rfl rfl rfl hm (hS.sub (.cons (Mem.le.refl _) (Sub.nil _))) (v := .bool true) (fun w hS => r_pick_t hm rfl rfl rfl) ?_
        clear hm a; intro a hm
        refine h_done (by kernel_rfl) ?_
        replace hm : Fr 55 a [(0, p0_0), (1, p1_1), (4, .bool false), (5, .int .i64 x_8), (54, .bool true)] := hm.keep [0, 1, 4, 5, 54]
        replace hS : Sep w0 w_20 [N_7] Z := hS
        replace hm : Fr 55 a [(0, p0_0), (1, p1_1), (4, .bool false), (5, .int .i64 x_8), (54, .bool true)] := hm.keep [0, 1, 4, 5, 54]
        exact x_then_n (hJ_j_18 true H _ _ ⟨N_7, hm, (Sep.sel hS [0] (by decide)), (Mem.le.refl _)⟩)
    · rw [if_neg hc_12] at H
      refine c_cond_f hm rfl (decide_eq_false hc_12) ?_
      refine wp_exit (x_then_x (x_then_x (x_block_t ?_)))
      replace hS : Sep w0 w_9 [N_7] Z := hS
      replace hm : Fr 55 a [(4, .bool false)] := hm.keep [4]
      exact x_then_n (hJ_j_6  H _ _ ⟨N_7, hm, (Sep.sel hS [0] (by decide)), le_7⟩)
  · rw [if_neg hc_2] at H
    refine c_cond_t hm rfl (bne_iff_ne.2 hc_2) ?_
    refine wp_seq ?_
    refine wp_region_lit ?_
    refine s_assign hm rfl rfl ?_
    clear hm a; intro a hm
    refine wpList_nil ?_
    replace hm : Fr 55 a [(0, p0_0), (1, p1_1), (4, .bool false)] := hm.keep [0, 1, 4]
    refine x_then_n ?_
    refine wp_ret (x_then_r ?_)
    obtain rfl := Option.some.inj H
    exact f_ret hm (rs := [.tmp 4]) rfl (.tmp rfl .nil) ⟨_, rfl, Mem.no, rfl, (Sep.sel hS [0] (by decide))⟩

set_option maxHeartbeats 4000000 in
set_option maxRecDepth 20000 in
theorem hocketref15_Calls_Take.calls (g0 : Nat) (x0_l : List hocketref15_call) (p0_0 : Value) (M0_0 : Mem) (x0_r : List api_Reply) (p0_1 : Value) (M0_1 : Mem) (r : (List api_Reply) × (List hocketref15_call) × (List api_Reply)) (w0 w : World) (Z A : Mem) (hA : A.le Z) (hS : Sep w0 w [Mem.one g0 (.cells ([p0_0, p0_1] : List Value).toArray 63 (0, 0)), M0_0, M0_1] Z) (hp0_0 : Own k_hocketref15_call 84 M0_0 A p0_0 x0_l) (hp0_1 : Own k_api_Reply 56 M0_1 A p0_1 x0_r)
    (H : hocketref15_Calls_Take.f x0_l x0_r = some r) :
    Calls Try.prog 37 [.pointer (some ⟨g0, 0, none⟩)].toArray w (Ret fun v w' => ∃ (u0 : Value) (u1 : Value) (u2 : Value) (N : Mem) (M0 : Mem) (M100 : Mem) (M101 : Mem), v = u0 ∧ Sep w0 w' [N, Mem.one g0 (.cells ([u1, u2] : List Value).toArray 63 (0, 0)), M100, M101, M0] Z ∧ Own k_api_Reply 56 M0 (A.un N) u0 r.1 ∧ Own k_hocketref15_call 84 M100 (A.un N) u1 r.2.1 ∧ Own k_api_Reply 56 M101 (A.un N) u2 r.2.2) := by
  unfold hocketref15_Calls_Take.f at H
  refine f_enter _ Try.func37 rfl Try.ntmps37 rfl fun a hm => ?_
  replace hm : Fr 12 a [(0, .pointer (some ⟨g0, 0, none⟩))] := hm
  replace hS := hS.start
  replace hS : Sep w0 w [Mem.no, Mem.one g0 (.cells ([p0_0, p0_1] : List Value).toArray 63 (0, 0)), M0_0, M0_1] Z := hS
  refine wp_seq ?_
  refine wp_region_lit ?_
  refine s_assign hm rfl rfl ?_
  clear hm a; intro a hm
  refine wpList_nil ?_
  replace hm : Fr 12 a [(0, .pointer (some ⟨g0, 0, none⟩)), (2, .slice none 0 0)] := hm.keep [0, 2]
  refine x_then_n ?_
  refine wp_seq ?_
  refine wp_region_lit ?_
  refine s_move hm rfl rfl ?_
  clear hm a; intro a hm
  refine s_nilCheck hm rfl rfl ?_
  clear hm a; intro a hm
  refine s_fieldAddr hm rfl Try.underlying63 rfl ti53 rfl rfl ?_
  clear hm a; intro a hm
  refine s_load hm rfl rfl (hS.load_one (p := 1) rfl Try.underlying53 rfl rfl) ?_
  clear hm a; intro a hm
  refine s_assign hm rfl rfl ?_
  clear hm a; intro a hm
  refine wpList_nil ?_
  replace hm : Fr 12 a [(0, .pointer (some ⟨g0, 0, none⟩)), (2, .slice none 0 0), (3, p0_1)] := hm.keep [0, 2, 3]
  refine x_then_n ?_
  refine wp_seq ?_
  refine wp_region_lit ?_
  refine s_move hm rfl rfl ?_
  clear hm a; intro a hm
  refine s_nilCheck hm rfl rfl ?_
  clear hm a; intro a hm
  refine s_fieldAddr hm rfl Try.underlying63 rfl ti53 rfl rfl ?_
  clear hm a; intro a hm
  obtain ⟨w_1, hs', hS'⟩ := hS.store (P := Try.prog) (p := 1) (o := 1) (t := 53) (v := .slice none 0 0) (vs := [.slice none 0 0]) rfl ti53 rfl rfl rfl (by intro u hu; simp only [List.mem_cons, List.not_mem_nil, or_false] at hu; rcases hu with rfl <;> rfl)
  refine s_store hm rfl rfl hs' ?_
  replace hS : Sep w0 w_1 [Mem.no, Mem.one g0 (.cells ([p0_0, .slice none 0 0] : List Value).toArray 63 (0, 0)), M0_0, M0_1] Z := hS'
  clear hs' hS'
  refine wpList_nil ?_
  replace hm : Fr 12 a [(2, .slice none 0 0), (3, p0_1)] := hm.keep [2, 3]
  refine x_then_n ?_
  refine wp_seq ?_
  refine wp_region_lit ?_
  refine s_move hm rfl rfl ?_
  clear hm a; intro a hm
  refine s_assign hm rfl rfl ?_
  clear hm a; intro a hm
  refine wpList_nil ?_
  replace hm : Fr 12 a [(2, p0_1)] := hm.keep [2]
  refine x_then_n ?_
  refine wp_ret ?_
  have hS' := hS.room
  replace hS : Sep w0 w_1 [Mem.no, Mem.one g0 (.cells ([p0_0, .slice none 0 0] : List Value).toArray 63 (0, 0)), M0_0, M0_1, Mem.no] Z := hS'
  clear hS'
  replace hS : Sep w0 w_1 [Mem.no, Mem.one g0 (.cells ([p0_0, .slice none 0 0] : List Value).toArray 63 (0, 0)), M0_0, M0_1, Mem.no] Z := hS
  obtain rfl := Option.some.inj H
  exact f_ret hm (rs := [.tmp 2]) rfl (.tmp rfl .nil) ⟨_, rfl, p0_1, p0_0, .slice none 0 0, Mem.no, M0_1, M0_0, Mem.no, rfl, (Sep.sel hS [0, 1, 2, 4, 3] (by decide)), (hp0_1.mono (Mem.le_un _ _)), (hp0_0.mono (Mem.le_un _ _)), ((Own.nil k_api_Reply 56 Mem.no).mono ((Mem.le.refl _).trans (hS.sndA hA)))⟩

set_option maxHeartbeats 4000000 in
set_option maxRecDepth 20000 in
theorem hocketref15_Calls_Waiting.calls (g0 : Nat) (x0_l : List hocketref15_call) (p0_0 : Value) (x0_r : List api_Reply) (p0_1 : Value) (r : Int) (w0 w : World) (Z A : Mem) (hA : A.le Z) (hS : Sep w0 w [Mem.one g0 (.cells ([p0_0, p0_1] : List Value).toArray 63 (0, 0))] Z) (hp0_0 : Rd k_hocketref15_call A p0_0 x0_l) (hp0_1 : Rd k_api_Reply A p0_1 x0_r)
    (H : hocketref15_Calls_Waiting.f x0_l x0_r = some r) :
    Calls Try.prog 38 [.pointer (some ⟨g0, 0, none⟩)].toArray w (Ret fun v w' => ∃ (N : Mem), v = .int .i64 r ∧ Sep w0 w' [N, Mem.one g0 (.cells ([p0_0, p0_1] : List Value).toArray 63 (0, 0))] Z) := by
  unfold hocketref15_Calls_Waiting.f at H
  refine f_enter _ Try.func38 rfl Try.ntmps38 rfl fun a hm => ?_
  replace hm : Fr 8 a [(0, .pointer (some ⟨g0, 0, none⟩))] := hm
  replace hS := hS.start
  replace hS : Sep w0 w [Mem.no, Mem.one g0 (.cells ([p0_0, p0_1] : List Value).toArray 63 (0, 0))] Z := hS
  refine wp_seq ?_
  refine wp_region_lit ?_
  refine s_assign hm rfl rfl ?_
  clear hm a; intro a hm
  refine wpList_nil ?_
  replace hm : Fr 8 a [(0, .pointer (some ⟨g0, 0, none⟩)), (2, .int .i64 0)] := hm.keep [0, 2]
  refine x_then_n ?_
  refine wp_seq ?_
  refine wp_region_lit ?_
  refine s_move hm rfl rfl ?_
  clear hm a; intro a hm
  refine s_nilCheck hm rfl rfl ?_
  clear hm a; intro a hm
  refine s_fieldAddr hm rfl Try.underlying63 rfl ti61 rfl rfl ?_
  clear hm a; intro a hm
  refine s_load hm rfl rfl (hS.load_one (p := 1) rfl Try.underlying61 rfl rfl) ?_
  clear hm a; intro a hm
  refine s_len hm rfl Try.underlying61 rfl hp0_0 ?_
  clear hm a; intro a hm
  refine s_assign hm rfl rfl ?_
  clear hm a; intro a hm
  refine wpList_nil ?_
  replace hm : Fr 8 a [(2, .int .i64 (x0_l.length : Int))] := hm.keep [2]
  refine x_then_n ?_
  refine wp_ret ?_
  obtain rfl := Option.some.inj H
  exact f_ret hm (rs := [.tmp 2]) rfl (.tmp rfl .nil) ⟨_, rfl, Mem.no, rfl, (Sep.sel hS [0, 1] (by decide))⟩


end Go.Proofs
