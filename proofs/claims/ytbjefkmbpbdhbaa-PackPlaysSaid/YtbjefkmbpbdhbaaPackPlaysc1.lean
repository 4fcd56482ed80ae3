/- What the calls do: each function once. -/
import Derived.Test.YtbjefkmbpbdhbaaPackPlaysc0
namespace Go.Proofs
open Go.Gp
set_option linter.unusedVariables false
set_option maxHeartbeats 4000000 in
set_option maxRecDepth 20000 in
theorem hocketlaw2_PackPlays.calls (K : Nat) (x0 : List UInt8) (p0_0 : Value) (x1 : List Int) (p1_1 : Value) (x2 : List Int) (p2_2 : Value) (x3 : List Int) (p3_3 : Value) (x4 : Int) (x5 : UInt8) (r : Unit) (w0 w : World) (Z A : Mem) (hA : A.le Z) (hS : Sep w0 w [] Z) (hp0_0 : Rd Kd.u8 A p0_0 x0) (hp1_1 : Rd (Kd.int .i64) A p1_1 x1) (hp2_2 : Rd (Kd.int .i64) A p2_2 x2) (hp3_3 : Rd (Kd.int .i64) A p3_3 x3)
    (H : hocketlaw2_PackPlays.f K x0 x1 x2 x3 x4 x5 = some r) :
    Calls Try.prog 12 [p0_0, p1_1, p2_2, p3_3, .int .i64 x4, .int .u8 (x5.toNat : Int)].toArray w (Ret fun v w' => ∃ (N : Mem), v = .bool true ∧ Sep w0 w' [N] Z) := by
  unfold hocketlaw2_PackPlays.f at H
  refine f_enter _ Try.func12 rfl Try.ntmps12 rfl fun a hm => ?_
  replace hm : Fr 187 a [(0, p0_0), (1, p1_1), (2, p2_2), (3, p3_3), (4, .int .i64 x4), (5, .int .u8 (x5.toNat : Int))] := hm
  replace hS := hS.start
  replace hS : Sep w0 w [Mem.no] Z := hS
  refine wp_seq ?_
  refine wp_region_lit ?_
  refine s_assign hm rfl rfl ?_
  clear hm a; intro a hm
  refine wpList_nil ?_
  replace hm : Fr 187 a [(0, p0_0), (1, p1_1), (2, p2_2), (3, p3_3), (4, .int .i64 x4), (5, .int .u8 (x5.toNat : Int)), (12, .bool false)] := hm.keep [0, 1, 2, 3, 4, 5, 12]
  refine x_then_n ?_
  refine c_seq fun KJ_1 hKJ_1 => ?_
  refine wp_seq ?_
  refine wp_region_lit ?_
  refine s_move hm rfl rfl ?_
  clear hm a; intro a hm
  refine s_len hm rfl Try.underlying25 rfl hp0_0 ?_
  clear hm a; intro a hm
  refine s_cmp (b := decide ((x0.length : Int) > 200)) hm rfl rfl rfl (.inr (.inr (.inr (.inr (.inl ⟨rfl, rfl⟩))))) ?_
  clear hm a; intro a hm
  refine wpList_nil ?_
  replace hm : Fr 187 a [(0, p0_0), (1, p1_1), (2, p2_2), (3, p3_3), (4, .int .i64 x4), (5, .int .u8 (x5.toNat : Int)), (12, .bool false), (25, .bool (decide ((x0.length : Int) > 200)))] := hm.keep [0, 1, 2, 3, 4, 5, 12, 25]
  refine x_then_n ?_
  by_cases hc_2 : (x0.length : Int) > 200
  · rw [if_pos hc_2] at H
    refine c_cond_t hm rfl (decide_eq_true hc_2) ?_
    refine wp_seq ?_
    refine wp_region_lit ?_
    obtain ⟨t_3, et_3, H⟩ := Option.bind_eq_some_iff.1 H
    refine s_call hm rfl Try.call33 rfl (hocketlaw2_awake.calls K  t_3 w0 _ _ _ (Mem.le.refl _) (hS.enter [] (by decide))  et_3) ?_
    rintro _ w_4 ⟨N_5, rfl, hS'⟩
    clear hm a; intro a hm
    obtain ⟨N_6, hS'', le_6, ln_6⟩ := hS.call [] (by decide) rfl (l' := []) (ow := []) rfl hS'
    replace hS : Sep w0 w_4 [N_6] Z := hS''
    clear hS' hS''
    refine s_assign hm rfl rfl ?_
    clear hm a; intro a hm
    refine wpList_nil ?_
    replace hm : Fr 187 a [(0, p0_0), (1, p1_1), (2, p2_2), (3, p3_3), (4, .int .i64 x4), (5, .int .u8 (x5.toNat : Int)), (12, .bool true)] := hm.keep [0, 1, 2, 3, 4, 5, 12]
    refine x_then_n ?_
    refine wp_ret (x_then_r ?_)
    exact f_ret hm (rs := [.tmp 12]) rfl (.tmp rfl .nil) ⟨_, rfl, N_6, rfl, (Sep.sel hS [0] (by decide))⟩
  · rw [if_neg hc_2] at H
    refine c_cond_f hm rfl (decide_eq_false hc_2) ?_
    refine wp_skip ?_
    refine x_then_n (hKJ_1 _ _ ?_)
    refine wp_seq ?_
    refine wp_region_lit ?_
    have hq_11 : Reps Kd.u8 Mem.no ([] : List UInt8) _ := (Reps.nil Kd.u8 _)
    refine s_buildSlice hm rfl Try.underlying25 ti5 rfl rfl rfl .nil rfl rfl rfl hS hq_11 rfl ?_
    intro w_7 v_8 M_9 hS' ho_10
    clear hm a; intro a hm
    replace hS : Sep w0 w_7 [Mem.no, M_9] Z := hS'
    clear hS' hq_11
    have hq_17 : Reps Kd.u8 Mem.no ([] : List UInt8) _ := (Reps.nil Kd.u8 _)
    refine s_buildSlice hm rfl Try.underlying25 ti5 rfl rfl rfl .nil rfl rfl rfl hS hq_17 rfl ?_
    intro w_13 v_14 M_15 hS' ho_16
    clear hm a; intro a hm
    replace hS : Sep w0 w_13 [Mem.no, M_9, M_15] Z := hS'
    clear hS' hq_17
    refine s_assign hm rfl rfl ?_
    clear hm a; intro a hm
    refine s_assign hm rfl rfl ?_
    clear hm a; intro a hm
    refine wpList_nil ?_
    replace hm : Fr 187 a [(0, p0_0), (1, p1_1), (2, p2_2), (3, p3_3), (4, .int .i64 x4), (5, .int .u8 (x5.toNat : Int)), (12, .bool false), (13, v_8), (14, v_14)] := hm.keep [0, 1, 2, 3, 4, 5, 12, 13, 14]
    refine x_then_n ?_
    refine c_seq fun KJ_19 hKJ_19 => ?_
    refine wp_seq ?_
    refine wp_region_lit ?_
    refine s_assign hm rfl rfl ?_
    clear hm a; intro a hm
    refine wpList_nil ?_
    replace hm : Fr 187 a [(0, p0_0), (1, p1_1), (2, p2_2), (3, p3_3), (4, .int .i64 x4), (5, .int .u8 (x5.toNat : Int)), (12, .bool false), (13, v_8), (14, v_14), (15, .int .i64 0)] := hm.keep [0, 1, 2, 3, 4, 5, 12, 13, 14, 15]
    refine x_then_n ?_
    have hJ_j_32 : ∀ (x_21 : List UInt8), ∀ (x_26 : List UInt8), hocketlaw2_PackPlays.J1 K x4 x0 x2 x3 x5 x_21 x_26 = some r → ∀ (a : Act) (w_31 : World), (∃ (v_24 : Value) (v_29 : Value) (N_20 : Mem) (M_22 : Mem) (M_27 : Mem), Fr 187 a [(0, p0_0), (2, p2_2), (3, p3_3), (4, .int .i64 x4), (5, .int .u8 (x5.toNat : Int)), (12, .bool false), (13, v_24), (14, v_29)] ∧ Sep w0 w_31 [N_20, Mem.no, Mem.no, M_22, M_27] Z ∧ Mem.no.le N_20 ∧ Own Kd.u8 5 M_22 Mem.no v_24 x_21 ∧ Own Kd.u8 5 M_27 Mem.no v_29 x_26) → KJ_19 a w_31 := by
      clear H hm hS a
      rintro x_21 x_26 H a w_31 ⟨v_24, v_29, N_20, M_22, M_27, hm, hS, le_20, ho_25, ho_30⟩
      unfold hocketlaw2_PackPlays.J1 at H
      refine hKJ_19 _ _ ?_
      refine c_seq fun KJ_33 hKJ_33 => ?_
      refine wp_seq ?_
      refine wp_region_lit ?_
      refine s_move hm rfl rfl ?_
      clear hm a; intro a hm
      refine s_b2s hm rfl Try.underlying25 Try.underlying5 Try.underlying9 rfl (ho_25.rd (J := hp w_31) (hS.own 3) (Mem.no_le _)) (Mem.le.refl _) ?_
      clear hm a; intro a hm
      refine s_move hm rfl rfl ?_
      clear hm a; intro a hm
      refine s_b2s hm rfl Try.underlying25 Try.underlying5 Try.underlying9 rfl (ho_30.rd (J := hp w_31) (hS.own 4) (Mem.no_le _)) (Mem.le.refl _) ?_
      clear hm a; intro a hm
      refine s_strEq (b := !(x_21 == x_26)) hm rfl rfl rfl (.inr ⟨rfl, rfl⟩) ?_
      clear hm a; intro a hm
      refine wpList_nil ?_
      replace hm : Fr 187 a [(0, p0_0), (2, p2_2), (3, p3_3), (4, .int .i64 x4), (5, .int .u8 (x5.toNat : Int)), (12, .bool false), (13, v_24), (79, .bool (!(x_21 == x_26)))] := hm.keep [0, 2, 3, 4, 5, 12, 13, 79]
      refine x_then_n ?_
      by_cases hc_34 : x_21 = x_26
      · rw [if_pos hc_34] at H
        refine c_cond_f hm rfl (nf (beq_iff_eq.2 hc_34)) ?_
        refine wp_skip ?_
        refine x_then_n (hKJ_33 _ _ ?_)
        refine wp_seq ?_
        refine wp_region_lit ?_
        have hq_39 : Reps Kd.u8 Mem.no ([] : List UInt8) _ := (Reps.nil Kd.u8 _)
        refine s_buildSlice hm rfl Try.underlying25 ti5 rfl rfl rfl .nil rfl rfl rfl hS hq_39 rfl ?_
        intro w_35 v_36 M_37 hS' ho_38
        clear hm a; intro a hm
        replace hS : Sep w0 w_35 [N_20, Mem.no, Mem.no, M_22, M_27, M_37] Z := hS'
        clear hS' hq_39
        refine s_move hm rfl rfl ?_
        clear hm a; intro a hm
        obtain ⟨t_41, et_41, H⟩ := Option.bind_eq_some_iff.1 H
        refine s_append (J := Mem.no) (I' := Mem.no) (p := 5) 140737488355328 hm rfl rfl rfl Try.underlying25 ti5 rfl rfl rfl rfl hS rfl ho_38 (Src.flat flat_u8 (ho_25.src (hS.own 3))) (Mem.le.refl _) (Mem.le.refl _) et_41 ?_
        intro w_42 v_43 M_44 hS' ho_45
        clear hm a; intro a hm
        replace hS : Sep w0 w_42 [N_20, Mem.no, Mem.no, M_22, M_27, M_44] Z := hS'
        clear hS'
        refine s_assign hm rfl rfl ?_
        clear hm a; intro a hm
        refine wpList_nil ?_
        replace hm : Fr 187 a [(0, p0_0), (2, p2_2), (3, p3_3), (4, .int .i64 x4), (5, .int .u8 (x5.toNat : Int)), (12, .bool false), (13, v_24), (17, v_43)] := hm.keep [0, 2, 3, 4, 5, 12, 13, 17]
        refine x_then_n ?_
        refine c_seq fun KJ_47 hKJ_47 => ?_
        refine wp_seq ?_
        refine wp_region_lit ?_
        refine s_move hm rfl rfl ?_
        clear hm a; intro a hm
        refine s_lenO hm rfl Try.underlying25 rfl ho_45 ?_
        clear hm a; intro a hm
        refine s_cmp (b := decide ((t_41.length : Int) > 0)) hm rfl rfl rfl (.inr (.inr (.inr (.inr (.inl ⟨rfl, rfl⟩))))) ?_
        clear hm a; intro a hm
        refine wpList_nil ?_
        replace hm : Fr 187 a [(0, p0_0), (2, p2_2), (3, p3_3), (4, .int .i64 x4), (5, .int .u8 (x5.toNat : Int)), (12, .bool false), (13, v_24), (17, v_43), (85, .bool (decide ((t_41.length : Int) > 0)))] := hm.keep [0, 2, 3, 4, 5, 12, 13, 17, 85]
        refine x_then_n ?_
        have hJ_j_55 : ∀ (x_49 : List UInt8), hocketlaw2_PackPlays.J2 K x_21 x0 x2 x3 x_49 = some r → ∀ (a : Act) (w_54 : World), (∃ (v_52 : Value) (N_48 : Mem) (M_50 : Mem), Fr 187 a [(0, p0_0), (2, p2_2), (3, p3_3), (12, .bool false), (13, v_24), (17, v_52)] ∧ Sep w0 w_54 [N_48, Mem.no, Mem.no, M_22, Mem.no, M_50] Z ∧ N_20.le N_48 ∧ Own Kd.u8 5 M_50 Mem.no v_52 x_49) → KJ_47 a w_54 := by
          clear H hm hS a
          rintro x_49 H a w_54 ⟨v_52, N_48, M_50, hm, hS, le_48, ho_53⟩
          unfold hocketlaw2_PackPlays.J2 at H
          refine hKJ_47 _ _ ?_
          refine c_seq fun KJ_56 hKJ_56 => ?_
          refine c_seq fun KJ_57 hKJ_57 => ?_
          obtain ⟨N_58, hS', le_58, lo_58⟩ := hS.freeze 2 rfl
          replace hS : Sep w0 w_54 [N_58, Mem.no, Mem.no, Mem.no, Mem.no, M_50] Z := hS'
          clear hS'
          refine h_begin (S := fun w => Sep w0 w [N_58, Mem.no, Mem.no, Mem.no, Mem.no, Mem.no] Z) 16 (by kernel_rfl) rfl [false, false, false, false, false, false, false, false, false, false, false, false, false, false, false, false].toArray rfl hS fun w_59 hS => ?_
          replace hS : Sep w0 w_59 [N_58, Mem.no, Mem.no, Mem.no, Mem.no, M_50] Z := hS
          refine h_take 0 [true, false, false, false, false, false, false, false, false, false, false, false, false, false, false, false].toArray rfl (by kernel_rfl) (by kernel_rfl) (by kernel_rfl) (fun _ _ _ _ h => h) rfl rfl rfl rfl hm (hS.sub (.cons (Mem.le.refl _) (.cons (Mem.no_le _) (.cons (Mem.no_le _) (.cons (Mem.no_le _) (.cons (Mem.no_le _) (.cons (Mem.no_le _) (Sub.nil _)))))))) (v := p0_0) (fun w hS => r_move hm rfl) ?_
          clear hm a; intro a hm
          refine h_take 1 [true, true, false, false, false, false, false, false, false, false, false, false, false, false, false, false].toArray rfl (by kernel_rfl) (by kernel_rfl) (by kernel_rfl) (fun _ _ _ _ h => h) rfl rfl rfl rfl hm (hS.sub (.cons (Mem.le.refl _) (.cons (Mem.no_le _) (.cons (Mem.no_le _) (.cons (Mem.no_le _) (.cons (Mem.no_le _) (.cons (Mem.no_le _) (Sub.nil _)))))))) (v := v_24) (fun w hS => r_move hm rfl) ?_
          clear hm a; intro a hm
          refine h_take 2 [true, true, true, false, false, false, false, false, false, false, false, false, false, false, false, false].toArray rfl (by kernel_rfl) (by kernel_rfl) (by kernel_rfl) (fun _ _ _ _ h => h) rfl rfl rfl rfl hm (hS.sub (.cons (Mem.le.refl _) (.cons (Mem.no_le _) (.cons (Mem.no_le _) (.cons (Mem.no_le _) (.cons (Mem.no_le _) (.cons (Mem.no_le _) (Sub.nil _)))))))) (v := v_52) (fun w hS => r_move hm rfl) ?_
          clear hm a; intro a hm
          refine h_take 3 [true, true, true, true, false, false, false, false, false, false, false, false, false, false, false, false].toArray rfl (by kernel_rfl) (by kernel_rfl) (by kernel_rfl) (fun _ _ _ _ h => h) rfl rfl rfl rfl hm (hS.sub (.cons (Mem.le.refl _) (.cons (Mem.no_le _) (.cons (Mem.no_le _) (.cons (Mem.no_le _) (.cons (Mem.no_le _) (.cons (Mem.no_le _) (Sub.nil _)))))))) (v := v_24) (fun w hS => r_move hm rfl) ?_
          clear hm a; intro a hm
          refine h_take 4 [true, true, true, true, true, false, false, false, false, false, false, false, false, false, false, false].toArray rfl (by kernel_rfl) (by kernel_rfl) (by kernel_rfl) (fun _ _ _ _ h => h) rfl rfl rfl rfl hm (hS.sub (.cons (Mem.le.refl _) (.cons (Mem.no_le _) (.cons (Mem.no_le _) (.cons (Mem.no_le _) (.cons (Mem.no_le _) (.cons (Mem.no_le _) (Sub.nil _)))))))) (v := v_24) (fun w hS => r_move hm rfl) ?_
          clear hm a; intro a hm
          refine h_take 5 [true, true, true, true, true, true, false, false, false, false, false, false, false, false, false, false].toArray rfl (by kernel_rfl) (by kernel_rfl) (by kernel_rfl) (fun _ _ _ _ h => h) rfl rfl rfl rfl hm (hS.sub (.cons (Mem.le.refl _) (.cons (Mem.no_le _) (.cons (Mem.no_le _) (.cons (Mem.no_le _) (.cons (Mem.no_le _) (.cons (Mem.no_le _) (Sub.nil _)))))))) (v := .int .i64 (x_21.length : Int)) (fun w hS => r_len hm Try.underlying25 rfl (ho_25.rd lo_58 (Mem.no_le _))) ?_
          clear hm a; intro a hm
          refine h_take 6 [true, true, true, true, true, true, true, false, false, false, false, false, false, false, false, false].toArray rfl (by kernel_rfl) (by kernel_rfl) (by kernel_rfl) (fun _ _ _ _ h => h) rfl rfl rfl rfl hm (hS.sub (.cons (Mem.le.refl _) (.cons (Mem.no_le _) (.cons (Mem.no_le _) (.cons (Mem.no_le _) (.cons (Mem.no_le _) (.cons (Mem.no_le _) (Sub.nil _)))))))) (v := .int .i64 (w64 (Int.tdiv (x_21.length : Int) 2))) (fun w hS => r_div (r := w64 (Int.tdiv (x_21.length : Int) 2)) hm rfl rfl (by decide) (.inl ⟨rfl, rfl⟩)) ?_
          clear hm a; intro a hm
          obtain ⟨t_60, et_60, H⟩ := Option.bind_eq_some_iff.1 H
          refine h_takeE 7 [true, true, true, true, true, true, true, true, false, false, false, false, false, false, false, false].toArray rfl (by kernel_rfl) (by kernel_rfl) (by kernel_rfl) (fun _ _ _ _ h => h) rfl rfl rfl rfl hm (hS.sub (.cons (Mem.le.refl _) (.cons (Mem.no_le _) (.cons (Mem.no_le _) (.cons (Mem.no_le _) (.cons (Mem.no_le _) (.cons (Mem.no_le _) (Sub.nil _)))))))) (f := fun v => v) (r_slice hm Try.underlying25 ti5 rfl rfl (ho_25.rd lo_58 (Mem.no_le _)) rfl rfl et_60) ?_
          intro v_61 hr_62
          clear hm a; intro a hm
          refine h_take 9 [true, true, true, true, true, true, true, true, false, true, false, false, false, false, false, false].toArray rfl (by kernel_rfl) (by kernel_rfl) (by kernel_rfl) (fun _ _ _ _ h => h) rfl rfl rfl rfl hm (hS.sub (.cons (Mem.le.refl _) (.cons (Mem.no_le _) (.cons (Mem.no_le _) (.cons (Mem.no_le _) (.cons (Mem.no_le _) (.cons (Mem.no_le _) (Sub.nil _)))))))) (v := v_24) (fun w hS => r_move hm rfl) ?_
          clear hm a; intro a hm
          refine h_take 11 [true, true, true, true, true, true, true, true, false, true, false, true, false, false, false, false].toArray rfl (by kernel_rfl) (by kernel_rfl) (by kernel_rfl) (fun _ _ _ _ h => h) rfl rfl rfl rfl hm (hS.sub (.cons (Mem.le.refl _) (.cons (Mem.no_le _) (.cons (Mem.no_le _) (.cons (Mem.no_le _) (.cons (Mem.no_le _) (.cons (Mem.no_le _) (Sub.nil _)))))))) (v := p0_0) (fun w hS => r_move hm rfl) ?_
          clear hm a; intro a hm
          refine h_take 15 [true, true, true, true, true, true, true, true, false, true, false, true, false, false, false, true].toArray rfl (by kernel_rfl) (by kernel_rfl) (by kernel_rfl) (fun _ _ _ _ h => h) rfl rfl rfl rfl hm (hS.sub (.cons (Mem.le.refl _) (.cons (Mem.no_le _) (.cons (Mem.no_le _) (.cons (Mem.no_le _) (.cons (Mem.no_le _) (.cons (Mem.no_le _) (Sub.nil _)))))))) (v := .int .i64 0) (fun w hS => r_move hm rfl) ?_
          clear hm a; intro a hm
          refine h_event 8 [true, true, true, true, true, true, true, true, true, true, false, true, false, false, false, true].toArray rfl (by kernel_rfl) rfl ?_
          have hq_67 : Reps Kd.u8 Mem.no ([] : List UInt8) _ := (Reps.nil Kd.u8 _)
          refine s_buildSlice hm rfl Try.underlying25 ti5 rfl rfl rfl .nil rfl rfl rfl hS hq_67 rfl ?_
          intro w_63 v_64 M_65 hS' ho_66
          clear hm a; intro a hm
          replace hS : Sep w0 w_63 [N_58, Mem.no, Mem.no, Mem.no, Mem.no, M_50, M_65] Z := hS'
          clear hS' hq_67
          refine wpList_nil ?_
          refine x_then_n ⟨(hS.sub (.cons (Mem.le.refl _) (.cons (Mem.no_le _) (.cons (Mem.no_le _) (.cons (Mem.no_le _) (.cons (Mem.no_le _) (.cons (Mem.no_le _) (Sub.nil _)))))))), ?_⟩
          refine h_event 10 [true, true, true, true, true, true, true, true, true, true, true, true, false, false, false, true].toArray rfl (by kernel_rfl) rfl ?_
          obtain ⟨t_69, et_69, H⟩ := Option.bind_eq_some_iff.1 H
          refine s_append (J := Mem.no) (I' := Mem.no) (p := 6) 140737488355328 hm rfl rfl rfl Try.underlying25 ti5 rfl rfl rfl rfl hS rfl ho_66 (Src.flat flat_u8 ((ho_25.rd lo_58 (Mem.no_le _)).src ((Mem.le.refl _).trans (hS.own 0)))) (Mem.le.refl _) (Mem.le.refl _) et_69 ?_
          intro w_70 v_71 M_72 hS' ho_73
          clear hm a; intro a hm
          replace hS : Sep w0 w_70 [N_58, Mem.no, Mem.no, Mem.no, Mem.no, M_50, M_72] Z := hS'
          clear hS'
          refine wpList_nil ?_
          refine x_then_n ⟨(hS.sub (.cons (Mem.le.refl _) (.cons (Mem.no_le _) (.cons (Mem.no_le _) (.cons (Mem.no_le _) (.cons (Mem.no_le _) (.cons (Mem.no_le _) (Sub.nil _)))))))), ?_⟩
          refine h_event 12 [true, true, true, true, true, true, true, true, true, true, true, true, true, false, false, true].toArray rfl (by kernel_rfl) rfl ?_
          obtain ⟨t_75, et_75, H⟩ := Option.bind_eq_some_iff.1 H
          refine s_append (J := Mem.no) (I' := Mem.no) (p := 6) 140737488355328 hm rfl rfl rfl Try.underlying25 ti5 rfl rfl rfl rfl hS rfl ho_73 (Src.flat flat_u8 (hp0_0.src (hA.trans hS.old))) (Mem.le.refl _) (Mem.le.refl _) et_75 ?_
          intro w_76 v_77 M_78 hS' ho_79
          clear hm a; intro a hm
          replace hS : Sep w0 w_76 [N_58, Mem.no, Mem.no, Mem.no, Mem.no, M_50, M_78] Z := hS'
          clear hS'
          refine wpList_nil ?_
          refine x_then_n ⟨(hS.sub (.cons (Mem.le.refl _) (.cons (Mem.no_le _) (.cons (Mem.no_le _) (.cons (Mem.no_le _) (.cons (Mem.no_le _) (.cons (Mem.no_le _) (Sub.nil _)))))))), ?_⟩
          refine h_event 13 [true, true, true, true, true, true, true, true, true, true, true, true, true, true, false, true].toArray rfl (by kernel_rfl) rfl ?_
          obtain ⟨N_81, hS', le_81, lo_81⟩ := hS.freeze 4 rfl
          replace hS : Sep w0 w_76 [N_81, Mem.no, Mem.no, Mem.no, Mem.no, Mem.no, M_78] Z := hS'
          clear hS'
          obtain ⟨N_82, hS', le_82, lo_82⟩ := hS.freeze 5 rfl
          replace hS : Sep w0 w_76 [N_82, Mem.no, Mem.no, Mem.no, Mem.no, Mem.no, Mem.no] Z := hS'
          clear hS'
          have hq_87 : Reps (Kd.slice Kd.u8) (A.un N_82) ([x0, x_21, x_49, t_60, t_75] : List (List UInt8)) _ := ((Reps.one (d := (Kd.slice Kd.u8)) (x := x0) ⟨_, rfl, (hp0_0.mono (Mem.le_un _ _))⟩).append ((Reps.one (d := (Kd.slice Kd.u8)) (x := x_21) ⟨_, rfl, ((ho_25.rd lo_58 (Mem.no_le _)).mono ((le_81.trans le_82).trans (hS.sndA hA)))⟩).append ((Reps.one (d := (Kd.slice Kd.u8)) (x := x_49) ⟨_, rfl, ((ho_53.rd lo_81 (Mem.no_le _)).mono (le_82.trans (hS.sndA hA)))⟩).append ((Reps.one (d := (Kd.slice Kd.u8)) (x := t_60) ⟨_, rfl, (hr_62.mono ((le_81.trans le_82).trans (hS.sndA hA)))⟩).append ((Reps.one (d := (Kd.slice Kd.u8)) (x := t_75) ⟨_, rfl, ((ho_79.rd lo_82 (Mem.no_le _)).mono ((Mem.le.refl _).trans (hS.sndA hA)))⟩).append (Reps.nil (Kd.slice Kd.u8) _))))))
          refine s_buildSlice hm rfl Try.underlying37 ti25 rfl rfl rfl (.cons hp0_0.cells (.cons (ho_25.rd lo_58 (Mem.no_le _)).cells (.cons (ho_53.rd lo_81 (Mem.no_le _)).cells (.cons hr_62.cells (.cons (ho_79.rd lo_82 (Mem.no_le _)).cells .nil))))) rfl rfl rfl hS hq_87 rfl ?_
          intro w_83 v_84 M_85 hS' ho_86
          clear hm a; intro a hm
          replace hS : Sep w0 w_83 [N_82, Mem.no, Mem.no, Mem.no, Mem.no, Mem.no, Mem.no, M_85] Z := hS'
          clear hS' hq_87
          refine wpList_nil ?_
          refine x_then_n ⟨(hS.sub (.cons (le_81.trans le_82) (.cons (Mem.no_le _) (.cons (Mem.no_le _) (.cons (Mem.no_le _) (.cons (Mem.no_le _) (.cons (Mem.no_le _) (Sub.nil _)))))))), ?_⟩
          refine h_take 14 [true, true, true, true, true, true, true, true, true, true, true, true, true, true, true, true].toArray rfl (by kernel_rfl) (by kernel_rfl) (by kernel_rfl) (fun _ _ _ _ h => h) rfl rfl rfl rfl hm (hS.sub (.cons (le_81.trans le_82) (.cons (Mem.no_le _) (.cons (Mem.no_le _) (.cons (Mem.no_le _) (.cons (Mem.no_le _) (.cons (Mem.no_le _) (Sub.nil _)))))))) (v := .int .i64 (([x0, x_21, x_49, t_60, t_75] : List (List UInt8)).length : Int)) (fun w hS => r_lenO hm Try.underlying37 rfl ho_86) ?_
          clear hm a; intro a hm
          refine h_done (by kernel_rfl) ?_
          replace hm : Fr 187 a [(2, p2_2), (3, p3_3), (12, .bool false), (107, v_84), (108, .int .i64 (([x0, x_21, x_49, t_60, t_75] : List (List UInt8)).length : Int)), (109, .int .i64 0)] := hm.keep [2, 3, 12, 107, 108, 109]
          refine x_then_n (hKJ_57 _ _ ?_)
          have hJ_j_91 : hocketlaw2_PackPlays.J3 K = some r → ∀ (a : Act) (w_90 : World), (∃ (N_89 : Mem), Fr 187 a [(12, .bool false)] ∧ Sep w0 w_90 [N_89, Mem.no, Mem.no, Mem.no, Mem.no, Mem.no, Mem.no, Mem.no] Z ∧ N_82.le N_89) → KJ_56 a w_90 := by
            clear H hm hS a
            rintro H a w_90 ⟨N_89, hm, hS, le_89⟩
            unfold hocketlaw2_PackPlays.J3 at H
            refine hKJ_56 _ _ ?_
            refine wp_seq ?_
            refine wp_region_lit ?_
            obtain ⟨t_92, et_92, H⟩ := Option.bind_eq_some_iff.1 H
            refine s_call hm rfl Try.call33 rfl (hocketlaw2_awake.calls K  t_92 w0 _ _ _ (Mem.le.refl _) (hS.enter [] (by decide))  et_92) ?_
            rintro _ w_93 ⟨N_94, rfl, hS'⟩
            clear hm a; intro a hm
            obtain ⟨N_95, hS'', le_95, ln_95⟩ := hS.call [] (by decide) rfl (l' := []) (ow := []) rfl hS'
            replace hS : Sep w0 w_93 [N_95, Mem.no, Mem.no, Mem.no, Mem.no, Mem.no, Mem.no, Mem.no] Z := hS''
            clear hS' hS''
            refine s_assign hm rfl rfl ?_
            clear hm a; intro a hm
            refine wpList_nil ?_
            replace hm : Fr 187 a [(12, .bool true)] := hm.keep [12]
            refine x_then_n ?_
            refine wp_ret ?_
            exact f_ret hm (rs := [.tmp 12]) rfl (.tmp rfl .nil) ⟨_, rfl, N_95, rfl, (Sep.sel hS [0] (by decide))⟩
          clear hKJ_56
          replace hS : Sep w0 w_83 [N_82, Mem.no, Mem.no, Mem.no, Mem.no, Mem.no, Mem.no, M_85] Z := hS
          replace hm : Fr 187 a [(2, p2_2), (3, p3_3), (12, .bool false), (107, v_84), (108, .int .i64 (([x0, x_21, x_49, t_60, t_75] : List (List UInt8)).length : Int)), (109, .int .i64 0)] := hm.keep [2, 3, 12, 107, 108, 109]
          refine c_block ?_
          refine c_loop (fun k_98 a w_98 => ∃ (x_97 : Int) (N_96 : Mem), hocketlaw2_PackPlays.L1 K x0 x_21 x_49 t_60 t_75 x2 x3 (fun v => hocketlaw2_PackPlays.J3 K) k_98 x_97 = some r ∧ Fr 187 a [(2, p2_2), (3, p3_3), (12, .bool false), (107, v_84), (108, .int .i64 (([x0, x_21, x_49, t_60, t_75] : List (List UInt8)).length : Int)), (109, .int .i64 x_97)] ∧ Sep w0 w_98 [N_96, Mem.no, Mem.no, Mem.no, Mem.no, Mem.no, Mem.no, M_85] Z ∧ N_82.le N_96) K ⟨0, N_82, H, hm, (Sep.sel hS [0, 1000, 1001, 1002, 1003, 1004, 1005, 7] (by decide)), (Mem.le.refl _)⟩ (fun a w h => by obtain ⟨_, _, H, _⟩ := h; cases (show (none : Option (Unit)) = some r from H)) ?_
          clear hm hS a H
          rintro k_98 a w_98 KL_98 hKL_98 ⟨x_97, N_96, H, hm, hS, le_96⟩
          replace H : hocketlaw2_PackPlays.B1 K x0 x_21 x_49 t_60 t_75 x2 x3 (fun v => hocketlaw2_PackPlays.J3 K) (hocketlaw2_PackPlays.L1 K x0 x_21 x_49 t_60 t_75 x2 x3 (fun v => hocketlaw2_PackPlays.J3 K) k_98) x_97 = some r := H
          unfold hocketlaw2_PackPlays.B1 at H
          refine wp_seq ?_
          refine wp_region_lit ?_
          refine s_cmp (b := decide (x_97 < (([x0, x_21, x_49, t_60, t_75] : List (List UInt8)).length : Int))) hm rfl rfl rfl (.inr (.inr (.inl ⟨rfl, rfl⟩))) ?_
          clear hm a; intro a hm
          refine wpList_nil ?_
          replace hm : Fr 187 a [(2, p2_2), (3, p3_3), (12, .bool false), (107, v_84), (108, .int .i64 (([x0, x_21, x_49, t_60, t_75] : List (List UInt8)).length : Int)), (109, .int .i64 x_97), (110, .bool (decide (x_97 < (([x0, x_21, x_49, t_60, t_75] : List (List UInt8)).length : Int))))] := hm.keep [2, 3, 12, 107, 108, 109, 110]
          refine x_then_n ?_
          refine c_seq fun KJ_100 hKJ_100 => ?_
          by_cases hc_101 : x_97 < (([x0, x_21, x_49, t_60, t_75] : List (List UInt8)).length : Int)
          · rw [if_pos hc_101] at H
            refine c_cond_t hm rfl (decide_eq_true hc_101) ?_
            refine wp_skip ?_
            refine x_then_n (hKJ_100 _ _ ?_)
            refine c_seq fun KJ_102 hKJ_102 => ?_
            refine c_block ?_
            refine wp_seq ?_
            refine wp_region_lit ?_
            obtain ⟨t_103, et_103, H⟩ := Option.bind_eq_some_iff.1 H
            refine v_indexO hm rfl Try.underlying37 ti25 rfl rfl rfl ho_86 (hS.own 7) et_103 ?_
            intro ad_104 cs_105 hk_106 hc_107
            obtain ⟨v_108, rfl, hr_109⟩ := hk_106
            clear hm a; intro a hm
            refine s_load hm rfl rfl (el_one (o := 0) hc_107 Try.underlying25 rfl rfl) ?_
            clear hm a; intro a hm
            refine s_assign hm rfl rfl ?_
            clear hm a; intro a hm
            refine wpList_nil ?_
            replace hm : Fr 187 a [(2, p2_2), (3, p3_3), (12, .bool false), (19, v_108), (107, v_84), (108, .int .i64 (([x0, x_21, x_49, t_60, t_75] : List (List UInt8)).length : Int)), (109, .int .i64 x_97)] := hm.keep [2, 3, 12, 19, 107, 108, 109]
            refine x_then_n ?_
            refine wp_seq ?_
            refine wp_region_lit ?_
            refine s_move hm rfl rfl ?_
            clear hm a; intro a hm
            obtain ⟨t_110, et_110, H⟩ := Option.bind_eq_some_iff.1 H
            refine s_call hm rfl Try.call28 rfl (pack_Read.calls t_103 _ t_110 w0 _ _ _ (Mem.le.refl _) (hS.enter [] (by decide)) (hr_109.mono (Mem.un_le (hA.trans (hS.le_zed [])) (le_96.trans (hS.new_zed [])))) et_110) ?_
            rintro _ w_111 ⟨g_114, v_115, N_112, rfl, hS', hr_116⟩
            clear hm a; intro a hm
            obtain ⟨N_113, hS'', le_113, ln_113⟩ := hS.call [] (by decide) rfl (l' := []) (ow := [Mem.one g_114 (.cells ([v_115, .bool t_110.2] : List Value).toArray 66 (0, 0))]) rfl hS'
            replace hS : Sep w0 w_111 [N_113, Mem.no, Mem.no, Mem.no, Mem.no, Mem.no, Mem.no, M_85, Mem.one g_114 (.cells ([v_115, .bool t_110.2] : List Value).toArray 66 (0, 0))] Z := hS''
            clear hS' hS''
            refine s_move hm rfl rfl ?_
            clear hm a; intro a hm
            refine s_build hm rfl ti58 pl58 rfl (.cons hr_109.cells .nil) (cs := [v_108, .bool false]) rfl ?_
            clear hm a; intro a hm
            refine v_box (vs := [v_108, .bool false]) hm rfl rfl rfl hS ?_
            intro w_117 g_118 hS'
            clear hm a; intro a hm
            replace hS : Sep w0 w_117 [N_113, Mem.no, Mem.no, Mem.no, Mem.no, Mem.no, Mem.no, M_85, Mem.one g_114 (.cells ([v_115, .bool t_110.2] : List Value).toArray 66 (0, 0)), Mem.one g_118 (.cells ([v_108, .bool false] : List Value).toArray 58 (0, 0))] Z := hS'
            clear hS'
            refine s_assign hm rfl rfl ?_
            clear hm a; intro a hm
            refine s_assign hm rfl rfl ?_
            clear hm a; intro a hm
            refine wpList_nil ?_
            replace hm : Fr 187 a [(2, p2_2), (3, p3_3), (12, .bool false), (20, .pointer (some ⟨g_114, 0, none⟩)), (21, .pointer (some ⟨g_118, 0, none⟩)), (107, v_84), (108, .int .i64 (([x0, x_21, x_49, t_60, t_75] : List (List UInt8)).length : Int)), (109, .int .i64 x_97)] := hm.keep [2, 3, 12, 20, 21, 107, 108, 109]
            refine x_then_n ?_
            refine c_seq fun KJ_119 hKJ_119 => ?_
            refine wp_seq ?_
            refine wp_region_lit ?_
            refine s_move hm rfl rfl ?_
            clear hm a; intro a hm
            refine s_ptrNil (b := false) hm rfl Try.underlying49 rfl (.inl ⟨rfl, rfl⟩) ?_
            clear hm a; intro a hm
            refine wpList_nil ?_
            replace hm : Fr 187 a [(2, p2_2), (3, p3_3), (12, .bool false), (20, .pointer (some ⟨g_114, 0, none⟩)), (21, .pointer (some ⟨g_118, 0, none⟩)), (107, v_84), (108, .int .i64 (([x0, x_21, x_49, t_60, t_75] : List (List UInt8)).length : Int)), (109, .int .i64 x_97), (119, .bool false)] := hm.keep [2, 3, 12, 20, 21, 107, 108, 109, 119]
            refine x_then_n ?_
            refine c_cond_f hm rfl rfl ?_
            refine wp_skip ?_
            refine x_then_n (hKJ_119 _ _ ?_)
            refine wp_seq ?_
            refine wp_region_lit ?_
            refine s_assign hm rfl rfl ?_
            clear hm a; intro a hm
            refine wpList_nil ?_
            replace hm : Fr 187 a [(2, p2_2), (3, p3_3), (12, .bool false), (20, .pointer (some ⟨g_114, 0, none⟩)), (21, .pointer (some ⟨g_118, 0, none⟩)), (22, .int .i64 0), (107, v_84), (108, .int .i64 (([x0, x_21, x_49, t_60, t_75] : List (List UInt8)).length : Int)), (109, .int .i64 x_97)] := hm.keep [2, 3, 12, 20, 21, 22, 107, 108, 109]
            refine x_then_n ?_
            refine c_last fun KJ_120 hKJ_120 => ?_
            have hJ_j_123 : hocketlaw2_PackPlays.J4 K (hocketlaw2_PackPlays.L1 K x0 x_21 x_49 t_60 t_75 x2 x3 (fun v => hocketlaw2_PackPlays.J3 K) k_98) x_97 = some r → ∀ (a : Act) (w_122 : World), (∃ (N_121 : Mem), Fr 187 a [(2, p2_2), (3, p3_3), (12, .bool false), (107, v_84), (108, .int .i64 (([x0, x_21, x_49, t_60, t_75] : List (List UInt8)).length : Int)), (109, .int .i64 x_97)] ∧ Sep w0 w_122 [N_121, Mem.no, Mem.no, Mem.no, Mem.no, Mem.no, Mem.no, M_85, Mem.no, Mem.no] Z ∧ N_113.le N_121) → KJ_120 a w_122 := by
              clear H hm hS a
              rintro H a w_122 ⟨N_121, hm, hS, le_121⟩
              unfold hocketlaw2_PackPlays.J4 at H
              refine hKJ_120 _ _ ?_
              refine x_block_n ?_
              refine x_then_n (hKJ_102 _ _ ?_)
              refine wp_region_lit ?_
              refine s_arith (r := w64 (x_97 + 1)) hm rfl rfl rfl (.inl ⟨rfl, rfl⟩) ?_
              clear hm a; intro a hm
              refine s_move hm rfl rfl ?_
              clear hm a; intro a hm
              refine wpList_nil ?_
              replace hm : Fr 187 a [(2, p2_2), (3, p3_3), (12, .bool false), (107, v_84), (108, .int .i64 (([x0, x_21, x_49, t_60, t_75] : List (List UInt8)).length : Int)), (109, .int .i64 (w64 (x_97 + 1)))] := hm.keep [2, 3, 12, 107, 108, 109]
              refine x_then_n (hKL_98 _ _ ?_)
              replace hS : Sep w0 w_122 [N_121, Mem.no, Mem.no, Mem.no, Mem.no, Mem.no, Mem.no, M_85, Mem.no, Mem.no] Z := hS
              replace hm : Fr 187 a [(2, p2_2), (3, p3_3), (12, .bool false), (107, v_84), (108, .int .i64 (([x0, x_21, x_49, t_60, t_75] : List (List UInt8)).length : Int)), (109, .int .i64 (w64 (x_97 + 1)))] := hm.keep [2, 3, 12, 107, 108, 109]
              exact ⟨w64 (x_97 + 1), N_121, H, hm, (Sep.sel hS [0, 1000, 1001, 1002, 1003, 1004, 1005, 7] (by decide)), (le_96.trans (le_113.trans le_121))⟩
            clear hKJ_120
            replace hS : Sep w0 w_117 [N_113, Mem.no, Mem.no, Mem.no, Mem.no, Mem.no, Mem.no, M_85, Mem.one g_114 (.cells ([v_115, .bool t_110.2] : List Value).toArray 66 (0, 0)), Mem.one g_118 (.cells ([v_108, .bool false] : List Value).toArray 58 (0, 0))] Z := hS
            replace hm : Fr 187 a [(2, p2_2), (3, p3_3), (12, .bool false), (20, .pointer (some ⟨g_114, 0, none⟩)), (21, .pointer (some ⟨g_118, 0, none⟩)), (22, .int .i64 0), (107, v_84), (108, .int .i64 (([x0, x_21, x_49, t_60, t_75] : List (List UInt8)).length : Int)), (109, .int .i64 x_97)] := hm.keep [2, 3, 12, 20, 21, 22, 107, 108, 109]
            refine c_block ?_
            refine c_loop (fun k_132 a w_132 => ∃ (x_125 : Int) (x_126 : pack_Reader) (x_129 : hocketref1_Reader) (v_127 : Value) (v_130 : Value) (N_124 : Mem), hocketlaw2_PackPlays.L2 K x2 x3 (fun v => hocketlaw2_PackPlays.J4 K (hocketlaw2_PackPlays.L1 K x0 x_21 x_49 t_60 t_75 x2 x3 (fun v => hocketlaw2_PackPlays.J3 K) k_98) x_97) k_132 (x_125, x_126, x_129) = some r ∧ Fr 187 a [(2, p2_2), (3, p3_3), (12, .bool false), (20, .pointer (some ⟨g_114, 0, none⟩)), (21, .pointer (some ⟨g_118, 0, none⟩)), (22, .int .i64 x_125), (107, v_84), (108, .int .i64 (([x0, x_21, x_49, t_60, t_75] : List (List UInt8)).length : Int)), (109, .int .i64 x_97)] ∧ Sep w0 w_132 [N_124, Mem.no, Mem.no, Mem.no, Mem.no, Mem.no, Mem.no, M_85, Mem.one g_114 (.cells ([v_127, .bool x_126.bad] : List Value).toArray 66 (0, 0)), Mem.one g_118 (.cells ([v_130, .bool x_129.Bad] : List Value).toArray 58 (0, 0))] Z ∧ N_113.le N_124 ∧ Rd Kd.u8 N_124 v_127 x_126.b ∧ Rd Kd.u8 (A.un N_124) v_130 x_129.B) K ⟨0, (⟨t_110.1, t_110.2⟩ : pack_Reader), (⟨t_103, false⟩ : hocketref1_Reader), v_115, v_108, N_113, H, hm, (Sep.sel hS [0, 1000, 1001, 1002, 1003, 1004, 1005, 7, 8, 9] (by decide)), (Mem.le.refl _), (hr_116.mono ln_113), (hr_109.mono (Mem.un_left (le_96.trans le_113)))⟩ (fun a w h => by obtain ⟨_, _, _, _, _, _, H, _⟩ := h; cases (show (none : Option (Unit)) = some r from H)) ?_
            clear hm hS a H
            rintro k_132 a w_132 KL_132 hKL_132 ⟨x_125, x_126, x_129, v_127, v_130, N_124, H, hm, hS, le_124, hr_128, hr_131⟩
            replace H : hocketlaw2_PackPlays.B2 K x2 x3 (fun v => hocketlaw2_PackPlays.J4 K (hocketlaw2_PackPlays.L1 K x0 x_21 x_49 t_60 t_75 x2 x3 (fun v => hocketlaw2_PackPlays.J3 K) k_98) x_97) (hocketlaw2_PackPlays.L2 K x2 x3 (fun v => hocketlaw2_PackPlays.J4 K (hocketlaw2_PackPlays.L1 K x0 x_21 x_49 t_60 t_75 x2 x3 (fun v => hocketlaw2_PackPlays.J3 K) k_98) x_97) k_132) x_125 x_126 x_129 = some r := H
            unfold hocketlaw2_PackPlays.B2 at H
            refine c_seq fun KJ_134 hKJ_134 => ?_
            refine c_seq fun KJ_135 hKJ_135 => ?_
            have hJ_j_139 : ∀ (x_137 : Bool), hocketlaw2_PackPlays.J5 K x2 x_125 x3 x_126 x_129 (hocketlaw2_PackPlays.L2 K x2 x3 (fun v => hocketlaw2_PackPlays.J4 K (hocketlaw2_PackPlays.L1 K x0 x_21 x_49 t_60 t_75 x2 x3 (fun v => hocketlaw2_PackPlays.J3 K) k_98) x_97) k_132) (fun v => hocketlaw2_PackPlays.J4 K (hocketlaw2_PackPlays.L1 K x0 x_21 x_49 t_60 t_75 x2 x3 (fun v => hocketlaw2_PackPlays.J3 K) k_98) x_97) x_137 = some r → ∀ (a : Act) (w_138 : World), (∃ (N_136 : Mem), Fr 187 a [(2, p2_2), (3, p3_3), (12, .bool false), (20, .pointer (some ⟨g_114, 0, none⟩)), (21, .pointer (some ⟨g_118, 0, none⟩)), (22, .int .i64 x_125), (107, v_84), (108, .int .i64 (([x0, x_21, x_49, t_60, t_75] : List (List UInt8)).length : Int)), (109, .int .i64 x_97), (133, .bool x_137)] ∧ Sep w0 w_138 [N_136, Mem.no, Mem.no, Mem.no, Mem.no, Mem.no, Mem.no, M_85, Mem.one g_114 (.cells ([v_127, .bool x_126.bad] : List Value).toArray 66 (0, 0)), Mem.one g_118 (.cells ([v_130, .bool x_129.Bad] : List Value).toArray 58 (0, 0))] Z ∧ N_124.le N_136) → KJ_135 a w_138 := by
              clear H hm hS a
              rintro x_137 H a w_138 ⟨N_136, hm, hS, le_136⟩
              unfold hocketlaw2_PackPlays.J5 at H
              refine hKJ_135 _ _ ?_
              by_cases hc_140 : x_137 = true
              · rw [if_pos hc_140] at H
                refine c_cond_t hm rfl hc_140 ?_
                refine wp_skip ?_
                refine x_then_n (hKJ_134 _ _ ?_)
                refine c_seq fun KJ_141 hKJ_141 => ?_
                refine c_block ?_
                refine c_seq fun KJ_142 hKJ_142 => ?_
                refine wp_seq ?_
                refine wp_region_lit ?_
                refine s_move hm rfl rfl ?_
                clear hm a; intro a hm
                refine s_move hm rfl rfl ?_
                clear hm a; intro a hm
                obtain ⟨t_143, et_143, H⟩ := Option.bind_eq_some_iff.1 H
                refine v_index hm rfl Try.underlying44 ti3 rfl rfl rfl hp2_2 (hA.trans hS.old) et_143 ?_
                intro ad_144 cs_145 hk_146 hc_147
                obtain rfl := (show cs_145 = [.int .i64 t_143] from hk_146)
                clear hm a; intro a hm
                refine s_load hm rfl rfl (el_one (o := 0) hc_147 Try.underlying3 rfl rfl) ?_
                clear hm a; intro a hm
                refine s_bits (i := t_143) (j := 3) (r := band .i64 t_143 3) hm rfl rfl rfl (.inl ⟨rfl, rfl⟩) ?_
                clear hm a; intro a hm
                refine s_cmp (b := ((band .i64 t_143 3) == 0)) hm rfl rfl rfl (.inl ⟨rfl, rfl⟩) ?_
                clear hm a; intro a hm
                refine wpList_nil ?_
                replace hm : Fr 187 a [(2, p2_2), (3, p3_3), (12, .bool false), (20, .pointer (some ⟨g_114, 0, none⟩)), (21, .pointer (some ⟨g_118, 0, none⟩)), (22, .int .i64 x_125), (107, v_84), (108, .int .i64 (([x0, x_21, x_49, t_60, t_75] : List (List UInt8)).length : Int)), (109, .int .i64 x_97), (141, .bool ((band .i64 t_143 3) == 0))] := hm.keep [2, 3, 12, 20, 21, 22, 107, 108, 109, 141]
                refine x_then_n ?_
                have hJ_j_156 : ∀ (x_149 : pack_Reader), ∀ (x_152 : hocketref1_Reader), hocketlaw2_PackPlays.J6 K (hocketlaw2_PackPlays.L2 K x2 x3 (fun v => hocketlaw2_PackPlays.J4 K (hocketlaw2_PackPlays.L1 K x0 x_21 x_49 t_60 t_75 x2 x3 (fun v => hocketlaw2_PackPlays.J3 K) k_98) x_97) k_132) x_125 x_149 x_152 = some r → ∀ (a : Act) (w_155 : World), (∃ (v_150 : Value) (v_153 : Value) (N_148 : Mem), Fr 187 a [(2, p2_2), (3, p3_3), (12, .bool false), (20, .pointer (some ⟨g_114, 0, none⟩)), (21, .pointer (some ⟨g_118, 0, none⟩)), (22, .int .i64 x_125), (107, v_84), (108, .int .i64 (([x0, x_21, x_49, t_60, t_75] : List (List UInt8)).length : Int)), (109, .int .i64 x_97)] ∧ Sep w0 w_155 [N_148, Mem.no, Mem.no, Mem.no, Mem.no, Mem.no, Mem.no, M_85, Mem.one g_114 (.cells ([v_150, .bool x_149.bad] : List Value).toArray 66 (0, 0)), Mem.one g_118 (.cells ([v_153, .bool x_152.Bad] : List Value).toArray 58 (0, 0))] Z ∧ N_136.le N_148 ∧ Rd Kd.u8 N_148 v_150 x_149.b ∧ Rd Kd.u8 (A.un N_148) v_153 x_152.B) → KJ_142 a w_155 := by
                  clear H hm hS a
                  rintro x_149 x_152 H a w_155 ⟨v_150, v_153, N_148, hm, hS, le_148, hr_151, hr_154⟩
                  unfold hocketlaw2_PackPlays.J6 at H
                  refine hKJ_142 _ _ ?_
                  refine c_seq fun KJ_157 hKJ_157 => ?_
                  have hJ_j_167 : ∀ (x_159 : Bool), ∀ (x_160 : pack_Reader), ∀ (x_163 : hocketref1_Reader), hocketlaw2_PackPlays.J7 K (hocketlaw2_PackPlays.L2 K x2 x3 (fun v => hocketlaw2_PackPlays.J4 K (hocketlaw2_PackPlays.L1 K x0 x_21 x_49 t_60 t_75 x2 x3 (fun v => hocketlaw2_PackPlays.J3 K) k_98) x_97) k_132) x_125 x_159 x_160 x_163 = some r → ∀ (a : Act) (w_166 : World), (∃ (v_161 : Value) (v_164 : Value) (N_158 : Mem), Fr 187 a [(2, p2_2), (3, p3_3), (12, .bool false), (20, .pointer (some ⟨g_114, 0, none⟩)), (21, .pointer (some ⟨g_118, 0, none⟩)), (22, .int .i64 x_125), (107, v_84), (108, .int .i64 (([x0, x_21, x_49, t_60, t_75] : List (List UInt8)).length : Int)), (109, .int .i64 x_97), (184, .bool x_159)] ∧ Sep w0 w_166 [N_158, Mem.no, Mem.no, Mem.no, Mem.no, Mem.no, Mem.no, M_85, Mem.one g_114 (.cells ([v_161, .bool x_160.bad] : List Value).toArray 66 (0, 0)), Mem.one g_118 (.cells ([v_164, .bool x_163.Bad] : List Value).toArray 58 (0, 0))] Z ∧ N_148.le N_158 ∧ Rd Kd.u8 N_158 v_161 x_160.b ∧ Rd Kd.u8 (A.un N_158) v_164 x_163.B) → KJ_157 a w_166 := by
                    clear H hm hS a
                    rintro x_159 x_160 x_163 H a w_166 ⟨v_161, v_164, N_158, hm, hS, le_158, hr_162, hr_165⟩
                    unfold hocketlaw2_PackPlays.J7 at H
                    refine hKJ_157 _ _ ?_
                    by_cases hc_168 : x_159 = true
                    · rw [if_pos hc_168] at H
                      cases H
                    · rw [if_neg hc_168] at H
                      refine c_cond_f hm rfl (Bool.eq_false_iff.2 hc_168) ?_
                      refine wp_skip ?_
                      refine x_block_n ?_
                      refine x_then_n (hKJ_141 _ _ ?_)
                      refine wp_region_lit ?_
                      refine s_move hm rfl rfl ?_
                      clear hm a; intro a hm
                      refine s_arith (r := w64 (x_125 + 1)) hm rfl rfl rfl (.inl ⟨rfl, rfl⟩) ?_
                      clear hm a; intro a hm
                      refine s_assign hm rfl rfl ?_
                      clear hm a; intro a hm
                      refine wpList_nil ?_
                      replace hm : Fr 187 a [(2, p2_2), (3, p3_3), (12, .bool false), (20, .pointer (some ⟨g_114, 0, none⟩)), (21, .pointer (some ⟨g_118, 0, none⟩)), (22, .int .i64 (w64 (x_125 + 1))), (107, v_84), (108, .int .i64 (([x0, x_21, x_49, t_60, t_75] : List (List UInt8)).length : Int)), (109, .int .i64 x_97)] := hm.keep [2, 3, 12, 20, 21, 22, 107, 108, 109]
                      refine x_then_n (hKL_132 _ _ ?_)
                      replace hS : Sep w0 w_166 [N_158, Mem.no, Mem.no, Mem.no, Mem.no, Mem.no, Mem.no, M_85, Mem.one g_114 (.cells ([v_161, .bool x_160.bad] : List Value).toArray 66 (0, 0)), Mem.one g_118 (.cells ([v_164, .bool x_163.Bad] : List Value).toArray 58 (0, 0))] Z := hS
                      replace hm : Fr 187 a [(2, p2_2), (3, p3_3), (12, .bool false), (20, .pointer (some ⟨g_114, 0, none⟩)), (21, .pointer (some ⟨g_118, 0, none⟩)), (22, .int .i64 (w64 (x_125 + 1))), (107, v_84), (108, .int .i64 (([x0, x_21, x_49, t_60, t_75] : List (List UInt8)).length : Int)), (109, .int .i64 x_97)] := hm.keep [2, 3, 12, 20, 21, 22, 107, 108, 109]
                      exact ⟨w64 (x_125 + 1), x_160, x_163, v_161, v_164, N_158, H, hm, (Sep.sel hS [0, 1000, 1001, 1002, 1003, 1004, 1005, 7, 8, 9] (by decide)), (le_124.trans (le_136.trans (le_148.trans le_158))), hr_162, hr_165⟩
                  clear hKJ_157
                  refine h_begin (S := fun w => Sep w0 w [N_148, Mem.no, Mem.no, Mem.no, Mem.no, Mem.no, Mem.no, M_85, Mem.no, Mem.no] Z) 15 (by kernel_rfl) rfl [false, false, false, false, false, false, false, false, false, false, false, false, false, false, false].toArray rfl hS fun w_169 hS => ?_
                  replace hS : Sep w0 w_169 [N_148, Mem.no, Mem.no, Mem.no, Mem.no, Mem.no, Mem.no, M_85, Mem.one g_114 (.cells ([v_150, .bool x_149.bad] : List Value).toArray 66 (0, 0)), Mem.one g_118 (.cells ([v_153, .bool x_152.Bad] : List Value).toArray 58 (0, 0))] Z := hS
                  refine h_take 0 [true, false, false, false, false, false, false, false, false, false, false, false, false, false, false].toArray rfl (by kernel_rfl) (by kernel_rfl) (by kernel_rfl) (fun _ _ _ _ h => h) rfl rfl rfl rfl hm (hS.sub (.cons (Mem.le.refl _) (.cons (Mem.no_le _) (.cons (Mem.no_le _) (.cons (Mem.no_le _) (.cons (Mem.no_le _) (.cons (Mem.no_le _) (.cons (Mem.no_le _) (.cons (Mem.le.refl _) (.cons (Mem.no_le _) (.cons (Mem.no_le _) (Sub.nil _)))))))))))) (v := .pointer (some ⟨g_114, 0, none⟩)) (fun w hS => r_move hm rfl) ?_
                  clear hm a; intro a hm
                  refine h_take 2 [true, false, true, false, false, false, false, false, false, false, false, false, false, false, false].toArray rfl (by kernel_rfl) (by kernel_rfl) (by kernel_rfl) (fun _ _ _ _ h => h) rfl rfl rfl rfl hm (hS.sub (.cons (Mem.le.refl _) (.cons (Mem.no_le _) (.cons (Mem.no_le _) (.cons (Mem.no_le _) (.cons (Mem.no_le _) (.cons (Mem.no_le _) (.cons (Mem.no_le _) (.cons (Mem.le.refl _) (.cons (Mem.no_le _) (.cons (Mem.no_le _) (Sub.nil _)))))))))))) (v := .pointer (some ⟨g_118, 0, none⟩)) (fun w hS => r_move hm rfl) ?_
                  clear hm a; intro a hm
                  refine h_take 3 [true, false, true, true, false, false, false, false, false, false, false, false, false, false, false].toArray rfl (by kernel_rfl) (by kernel_rfl) (by kernel_rfl) (fun _ _ _ _ h => h) rfl rfl rfl rfl hm (hS.sub (.cons (Mem.le.refl _) (.cons (Mem.no_le _) (.cons (Mem.no_le _) (.cons (Mem.no_le _) (.cons (Mem.no_le _) (.cons (Mem.no_le _) (.cons (Mem.no_le _) (.cons (Mem.le.refl _) (.cons (Mem.no_le _) (.cons (Mem.no_le _) (Sub.nil _)))))))))))) (v := .pointer (some ⟨g_118, 0, none⟩)) (fun w hS => r_nilCheck hm rfl) ?_
                  clear hm a; intro a hm
                  refine h_take 4 [true, false, true, true, true, false, false, false, false, false, false, false, false, false, false].toArray rfl (by kernel_rfl) (by kernel_rfl) (by kernel_rfl) (fun _ _ _ _ h => h) rfl rfl rfl rfl hm (hS.sub (.cons (Mem.le.refl _) (.cons (Mem.no_le _) (.cons (Mem.no_le _) (.cons (Mem.no_le _) (.cons (Mem.no_le _) (.cons (Mem.no_le _) (.cons (Mem.no_le _) (.cons (Mem.le.refl _) (.cons (Mem.no_le _) (.cons (Mem.no_le _) (Sub.nil _)))))))))))) (v := .pointer (some ⟨g_118, 1, none⟩)) (fun w hS => r_fieldAddr hm Try.underlying58 rfl ti4 rfl rfl rfl) ?_
                  clear hm a; intro a hm
                  obtain ⟨t_170, et_170, H⟩ := Option.bind_eq_some_iff.1 H
                  refine h_events [1, 5] (by kernel_rfl) (by simp) ?_
                  intro i hi; simp only [List.mem_cons, List.not_mem_nil, or_false] at hi; rcases hi with rfl | rfl
                  · refine ⟨_, [true, true, true, true, true, false, false, false, false, false, false, false, false, false, false].toArray, rfl, rfl, ?_⟩
                    refine s_call hm rfl Try.call30 rfl (pack_Reader_Ok.calls _ x_149.b _ x_149.bad t_170 w0 _ _ N_148 (hS.new_zed [7]) (hS.enter [7] (by decide)) hr_151 et_170) ?_
                    rintro _ w_171 ⟨v_174, N_172, rfl, hS', hr_175⟩
                    clear hm a; intro a hm
                    obtain ⟨N_173, hS'', le_173, ln_173⟩ := hS.call [7] (by decide) rfl (l' := [Mem.one g_114 (.cells ([v_174, .bool t_170.2.2] : List Value).toArray 66 (0, 0))]) (ow := []) rfl hS'
                    replace hS : Sep w0 w_171 [N_173, Mem.no, Mem.no, Mem.no, Mem.no, Mem.no, Mem.no, M_85, Mem.one g_114 (.cells ([v_174, .bool t_170.2.2] : List Value).toArray 66 (0, 0)), Mem.one g_118 (.cells ([v_153, .bool x_152.Bad] : List Value).toArray 58 (0, 0))] Z := hS''
                    clear hS' hS''
                    refine wpList_nil ?_
                    refine x_then_n ⟨(hS.sub (.cons le_173 (.cons (Mem.no_le _) (.cons (Mem.no_le _) (.cons (Mem.no_le _) (.cons (Mem.no_le _) (.cons (Mem.no_le _) (.cons (Mem.no_le _) (.cons (Mem.le.refl _) (.cons (Mem.no_le _) (.cons (Mem.no_le _) (Sub.nil _)))))))))))), ?_⟩
                    refine h_event 5 [true, true, true, true, true, true, false, false, false, false, false, false, false, false, false].toArray rfl (by kernel_rfl) rfl ?_
                    refine s_load hm rfl rfl (hS.load_one (p := 9) rfl Try.underlying4 rfl rfl) ?_
                    clear hm a; intro a hm
                    refine wpList_nil ?_
                    refine x_then_n ⟨(hS.sub (.cons le_173 (.cons (Mem.no_le _) (.cons (Mem.no_le _) (.cons (Mem.no_le _) (.cons (Mem.no_le _) (.cons (Mem.no_le _) (.cons (Mem.no_le _) (.cons (Mem.le.refl _) (.cons (Mem.no_le _) (.cons (Mem.no_le _) (Sub.nil _)))))))))))), ?_⟩
                    refine h_take 6 [true, true, true, true, true, true, true, false, false, false, false, false, false, false, false].toArray rfl (by kernel_rfl) (by kernel_rfl) (by kernel_rfl) (fun _ _ _ _ h => h) rfl rfl rfl rfl hm (hS.sub (.cons le_173 (.cons (Mem.no_le _) (.cons (Mem.no_le _) (.cons (Mem.no_le _) (.cons (Mem.no_le _) (.cons (Mem.no_le _) (.cons (Mem.no_le _) (.cons (Mem.le.refl _) (.cons (Mem.no_le _) (.cons (Mem.no_le _) (Sub.nil _)))))))))))) (v := .bool (!x_152.Bad)) (fun w hS => r_not hm rfl) ?_
                    clear hm a; intro a hm
                    refine h_take 7 [true, true, true, true, true, true, true, true, false, false, false, false, false, false, false].toArray rfl (by kernel_rfl) (by kernel_rfl) (by kernel_rfl) (fun _ _ _ _ h => h) rfl rfl rfl rfl hm (hS.sub (.cons le_173 (.cons (Mem.no_le _) (.cons (Mem.no_le _) (.cons (Mem.no_le _) (.cons (Mem.no_le _) (.cons (Mem.no_le _) (.cons (Mem.no_le _) (.cons (Mem.le.refl _) (.cons (Mem.no_le _) (.cons (Mem.no_le _) (Sub.nil _)))))))))))) (v := .bool (!(t_170.1 == (!x_152.Bad)))) (fun w hS => r_beq (b := !(t_170.1 == (!x_152.Bad))) hm Try.underlying4 rfl rfl (.inr ⟨rfl, rfl⟩)) ?_
                    clear hm a; intro a hm
                    refine h_take 8 [true, true, true, true, true, true, true, true, true, false, false, false, false, false, false].toArray rfl (by kernel_rfl) (by kernel_rfl) (by kernel_rfl) (fun _ _ _ _ h => h) rfl rfl rfl rfl hm (hS.sub (.cons le_173 (.cons (Mem.no_le _) (.cons (Mem.no_le _) (.cons (Mem.no_le _) (.cons (Mem.no_le _) (.cons (Mem.no_le _) (.cons (Mem.no_le _) (.cons (Mem.le.refl _) (.cons (Mem.no_le _) (.cons (Mem.no_le _) (Sub.nil _)))))))))))) (v := .bool (!(t_170.1 == (!x_152.Bad)))) (fun w hS => r_move hm rfl) ?_
                    clear hm a; intro a hm
                    by_cases hc_176 : t_170.1 = (!x_152.Bad)
                    · rw [if_pos hc_176] at H
                      refine h_take_on 9 [true, true, true, true, true, true, true, true, true, true, false, false, false, false, false].toArray rfl (by kernel_rfl) (by kernel_rfl) (by kernel_rfl) (fun _ _ _ _ h => h) rfl rfl rfl rfl (nf (beq_iff_eq.2 hc_176)) rfl rfl hm (hS.sub (.cons le_173 (.cons (Mem.no_le _) (.cons (Mem.no_le _) (.cons (Mem.no_le _) (.cons (Mem.no_le _) (.cons (Mem.no_le _) (.cons (Mem.no_le _) (.cons (Mem.le.refl _) (.cons (Mem.no_le _) (.cons (Mem.no_le _) (Sub.nil _)))))))))))) (v := .pointer (some ⟨g_114, 0, none⟩)) (fun w hS => r_move hm rfl) ?_
                      clear hm a; intro a hm
                      refine h_take_on 11 [true, true, true, true, true, true, true, true, true, true, false, true, false, false, false].toArray rfl (by kernel_rfl) (by kernel_rfl) (by kernel_rfl) (fun _ _ _ _ h => h) rfl rfl rfl rfl (nf (beq_iff_eq.2 hc_176)) rfl rfl hm (hS.sub (.cons le_173 (.cons (Mem.no_le _) (.cons (Mem.no_le _) (.cons (Mem.no_le _) (.cons (Mem.no_le _) (.cons (Mem.no_le _) (.cons (Mem.no_le _) (.cons (Mem.le.refl _) (.cons (Mem.no_le _) (.cons (Mem.no_le _) (Sub.nil _)))))))))))) (v := .pointer (some ⟨g_118, 0, none⟩)) (fun w hS => r_move hm rfl) ?_
                      clear hm a; intro a hm
                      refine h_event 10 [true, true, true, true, true, true, true, true, true, true, true, true, false, false, false].toArray rfl (by kernel_rfl) rfl ?_
                      refine s_on hm rfl rfl (nf (beq_iff_eq.2 hc_176)) ?_
                      obtain ⟨t_177, et_177, H⟩ := Option.bind_eq_some_iff.1 H
                      refine s_call hm rfl Try.call32 rfl (pack_Reader_End.calls _ t_170.2.1 _ t_170.2.2 t_177 w0 _ _ N_173 (hS.new_zed [7]) (hS.enter [7] (by decide)) (hr_175.mono (Mem.un_le le_173 ln_173)) et_177) ?_
                      rintro _ w_178 ⟨v_181, N_179, rfl, hS', hr_182⟩
                      clear hm a; intro a hm
                      obtain ⟨N_180, hS'', le_180, ln_180⟩ := hS.call [7] (by decide) rfl (l' := [Mem.one g_114 (.cells ([v_181, .bool t_177.2.2] : List Value).toArray 66 (0, 0))]) (ow := []) rfl hS'
                      replace hS : Sep w0 w_178 [N_180, Mem.no, Mem.no, Mem.no, Mem.no, Mem.no, Mem.no, M_85, Mem.one g_114 (.cells ([v_181, .bool t_177.2.2] : List Value).toArray 66 (0, 0)), Mem.one g_118 (.cells ([v_153, .bool x_152.Bad] : List Value).toArray 58 (0, 0))] Z := hS''
                      clear hS' hS''
                      refine wpList_nil ?_
                      refine x_then_n ⟨(hS.sub (.cons (le_173.trans le_180) (.cons (Mem.no_le _) (.cons (Mem.no_le _) (.cons (Mem.no_le _) (.cons (Mem.no_le _) (.cons (Mem.no_le _) (.cons (Mem.no_le _) (.cons (Mem.le.refl _) (.cons (Mem.no_le _) (.cons (Mem.no_le _) (Sub.nil _)))))))))))), ?_⟩
                      refine h_event 12 [true, true, true, true, true, true, true, true, true, true, true, true, true, false, false].toArray rfl (by kernel_rfl) rfl ?_
                      refine s_on hm rfl rfl (nf (beq_iff_eq.2 hc_176)) ?_
                      obtain ⟨t_183, et_183, H⟩ := Option.bind_eq_some_iff.1 H
                      refine s_call hm rfl Try.call40 rfl (hocketref1_Reader_End.calls _ x_152.B _ x_152.Bad t_183 w0 _ _ (A.un N_180) (Mem.un_le (hA.trans (hS.le_zed [8])) (hS.new_zed [8])) (hS.enter [8] (by decide)) (hr_154.mono (Mem.un_left (le_173.trans le_180))) et_183) ?_
                      rintro _ w_184 ⟨v_187, N_185, rfl, hS', hr_188⟩
                      clear hm a; intro a hm
                      obtain ⟨N_186, hS'', le_186, ln_186⟩ := hS.call [8] (by decide) rfl (l' := [Mem.one g_118 (.cells ([v_187, .bool t_183.2.2] : List Value).toArray 58 (0, 0))]) (ow := []) rfl hS'
                      replace hS : Sep w0 w_184 [N_186, Mem.no, Mem.no, Mem.no, Mem.no, Mem.no, Mem.no, M_85, Mem.one g_114 (.cells ([v_181, .bool t_177.2.2] : List Value).toArray 66 (0, 0)), Mem.one g_118 (.cells ([v_187, .bool t_183.2.2] : List Value).toArray 58 (0, 0))] Z := hS''
                      clear hS' hS''
                      have hr_189 : Rd Kd.u8 (A.un N_186) v_187 t_183.2.1 := hr_188.mono (Mem.un_le (Mem.un_left le_186) (ln_186.trans (hS.sndA hA)))
                      refine wpList_nil ?_
                      refine x_then_n ⟨(hS.sub (.cons (le_173.trans (le_180.trans le_186)) (.cons (Mem.no_le _) (.cons (Mem.no_le _) (.cons (Mem.no_le _) (.cons (Mem.no_le _) (.cons (Mem.no_le _) (.cons (Mem.no_le _) (.cons (Mem.le.refl _) (.cons (Mem.no_le _) (.cons (Mem.no_le _) (Sub.nil _)))))))))))), ?_⟩
                      refine h_take_on 13 [true, true, true, true, true, true, true, true, true, true, true, true, true, true, false].toArray rfl (by kernel_rfl) (by kernel_rfl) (by kernel_rfl) (fun _ _ _ _ h => h) rfl rfl rfl rfl (nf (beq_iff_eq.2 hc_176)) rfl rfl hm (hS.sub (.cons (le_173.trans (le_180.trans le_186)) (.cons (Mem.no_le _) (.cons (Mem.no_le _) (.cons (Mem.no_le _) (.cons (Mem.no_le _) (.cons (Mem.no_le _) (.cons (Mem.no_le _) (.cons (Mem.le.refl _) (.cons (Mem.no_le _) (.cons (Mem.no_le _) (Sub.nil _)))))))))))) (v := .bool (!(t_177.1 == t_183.1))) (fun w hS => r_beq (b := !(t_177.1 == t_183.1)) hm Try.underlying4 rfl rfl (.inr ⟨rfl, rfl⟩)) ?_
                      clear hm a; intro a hm
                      refine h_take 14 [true, true, true, true, true, true, true, true, true, true, true, true, true, true, true].toArray rfl (by kernel_rfl) (by kernel_rfl) (by kernel_rfl) (fun _ _ _ _ h => h) rfl rfl rfl rfl hm (hS.sub (.cons (le_173.trans (le_180.trans le_186)) (.cons (Mem.no_le _) (.cons (Mem.no_le _) (.cons (Mem.no_le _) (.cons (Mem.no_le _) (.cons (Mem.no_le _) (.cons (Mem.no_le _) (.cons (Mem.le.refl _) (.cons (Mem.no_le _) (.cons (Mem.no_le _) (Sub.nil _)))))))))))) (v := .bool (!(t_177.1 == t_183.1))) (fun w hS => r_pick_f hm rfl (nf (beq_iff_eq.2 hc_176)) rfl) ?_
                      clear hm a; intro a hm
                      refine h_done (by kernel_rfl) ?_
                      replace hm : Fr 187 a [(2, p2_2), (3, p3_3), (12, .bool false), (20, .pointer (some ⟨g_114, 0, none⟩)), (21, .pointer (some ⟨g_118, 0, none⟩)), (22, .int .i64 x_125), (107, v_84), (108, .int .i64 (([x0, x_21, x_49, t_60, t_75] : List (List UInt8)).length : Int)), (109, .int .i64 x_97), (184, .bool (!(t_177.1 == t_183.1)))] := hm.keep [2, 3, 12, 20, 21, 22, 107, 108, 109, 184]
                      replace hS : Sep w0 w_184 [N_186, Mem.no, Mem.no, Mem.no, Mem.no, Mem.no, Mem.no, M_85, Mem.one g_114 (.cells ([v_181, .bool t_177.2.2] : List Value).toArray 66 (0, 0)), Mem.one g_118 (.cells ([v_187, .bool t_183.2.2] : List Value).toArray 58 (0, 0))] Z := hS
                      replace hm : Fr 187 a [(2, p2_2), (3, p3_3), (12, .bool false), (20, .pointer (some ⟨g_114, 0, none⟩)), (21, .pointer (some ⟨g_118, 0, none⟩)), (22, .int .i64 x_125), (107, v_84), (108, .int .i64 (([x0, x_21, x_49, t_60, t_75] : List (List UInt8)).length : Int)), (109, .int .i64 x_97), (184, .bool (!(t_177.1 == t_183.1)))] := hm.keep [2, 3, 12, 20, 21, 22, 107, 108, 109, 184]
                      exact x_then_n (hJ_j_167 (!(t_177.1 == t_183.1)) (⟨t_177.2.1, t_177.2.2⟩ : pack_Reader) (⟨t_183.2.1, t_183.2.2⟩ : hocketref1_Reader) H _ _ ⟨v_181, v_187, N_186, hm, (Sep.sel hS [0, 1000, 1001, 1002, 1003, 1004, 1005, 7, 8, 9] (by decide)), (le_173.trans (le_180.trans le_186)), ((hr_182.mono (Mem.un_le le_180 ln_180)).mono le_186), hr_189⟩)
                    · rw [if_neg hc_176] at H
                      refine h_take_off 9 [true, true, true, true, true, true, true, true, true, true, false, false, false, false, false].toArray rfl (by kernel_rfl) (by kernel_rfl) (by kernel_rfl) (fun _ _ _ _ h => h) rfl rfl rfl rfl (.inl (congrArg Value.bool (nt (beq_eq_false_iff_ne.2 hc_176)))) rfl rfl hm (hS.sub (.cons le_173 (.cons (Mem.no_le _) (.cons (Mem.no_le _) (.cons (Mem.no_le _) (.cons (Mem.no_le _) (.cons (Mem.no_le _) (.cons (Mem.no_le _) (.cons (Mem.le.refl _) (.cons (Mem.no_le _) (.cons (Mem.no_le _) (Sub.nil _)))))))))))) ?_
                      clear hm a; intro a hm
                      refine h_take_off 10 [true, true, true, true, true, true, true, true, true, true, true, false, false, false, false].toArray rfl (by kernel_rfl) (by kernel_rfl) (by kernel_rfl) (fun _ _ _ _ h => h) rfl rfl rfl rfl (.inl (congrArg Value.bool (nt (beq_eq_false_iff_ne.2 hc_176)))) rfl rfl hm (hS.sub (.cons le_173 (.cons (Mem.no_le _) (.cons (Mem.no_le _) (.cons (Mem.no_le _) (.cons (Mem.no_le _) (.cons (Mem.no_le _) (.cons (Mem.no_le _) (.cons (Mem.le.refl _) (.cons (Mem.no_le _) (.cons (Mem.no_le _) (Sub.nil _)))))))))))) ?_
                      clear hm a; intro a hm
                      refine h_take_off 11 [true, true, true, true, true, true, true, true, true, true, true, true, false, false, false].toArray rfl (by kernel_rfl) (by kernel_rfl) (by kernel_rfl) (fun _ _ _ _ h => h) rfl rfl rfl rfl (.inl (congrArg Value.bool (nt (beq_eq_false_iff_ne.2 hc_176)))) rfl rfl hm (hS.sub (.cons le_173 (.cons (Mem.no_le _) (.cons (Mem.no_le _) (.cons (Mem.no_le _) (.cons (Mem.no_le _) (.cons (Mem.no_le _) (.cons (Mem.no_le _) (.cons (Mem.le.refl _) (.cons (Mem.no_le _) (.cons (Mem.no_le _) (Sub.nil _)))))))))))) ?_
                      clear hm a; intro a hm
                      refine h_take_off 12 [true, true, true, true, true, true, true, true, true, true, true, true, true, false, false].toArray rfl (by kernel_rfl) (by kernel_rfl) (by kernel_rfl) (fun _ _ _ _ h => h) rfl rfl rfl rfl (.inl (congrArg Value.bool (nt (beq_eq_false_iff_ne.2 hc_176)))) rfl rfl hm (hS.sub (.cons le_173 (.cons (Mem.no_le _) (.cons (Mem.no_le _) (.cons (Mem.no_le _) (.cons (Mem.no_le _) (.cons (Mem.no_le _) (.cons (Mem.no_le _) (.cons (Mem.le.refl _) (.cons (Mem.no_le _) (.cons (Mem.no_le _) (Sub.nil _)))))))))))) ?_
                      clear hm a; intro a hm
                      refine h_take_off 13 [true, true, true, true, true, true, true, true, true, true, true, true, true, true, false].toArray rfl (by kernel_rfl) (by kernel_rfl) (by kernel_rfl) (fun _ _ _ _ h => h) rfl rfl rfl rfl (.inl (congrArg Value.bool (nt (beq_eq_false_iff_ne.2 hc_176)))) rfl rfl hm (hS.sub (.cons le_173 (.cons (Mem.no_le _) (.cons (Mem.no_le _) (.cons (Mem.no_le _) (.cons (Mem.no_le _) (.cons (Mem.no_le _) (.cons (Mem.no_le _) (.cons (Mem.le.refl _) (.cons (Mem.no_le _) (.cons (Mem.no_le _) (Sub.nil _)))))))))))) ?_
                      clear hm a; intro a hm
                      refine h_take 14 [true, true, true, true, true, true, true, true, true, true, true, true, true, true, true].toArray rfl (by kernel_rfl) (by kernel_rfl) (by kernel_rfl) (fun _ _ _ _ h => h) rfl rfl rfl rfl hm (hS.sub (.cons le_173 (.cons (Mem.no_le _) (.cons (Mem.no_le _) (.cons (Mem.no_le _) (.cons (Mem.no_le _) (.cons (Mem.no_le _) (.cons (Mem.no_le _) (.cons (Mem.le.refl _) (.cons (Mem.no_le _) (.cons (Mem.no_le _) (Sub.nil _)))))))))))) (v := .bool true) (fun w hS => r_pick_t hm rfl (nt (beq_eq_false_iff_ne.2 hc_176)) rfl) ?_
                      clear hm a; intro a hm
                      refine h_done (by kernel_rfl) ?_
                      replace hm : Fr 187 a [(2, p2_2), (3, p3_3), (12, .bool false), (20, .pointer (some ⟨g_114, 0, none⟩)), (21, .pointer (some ⟨g_118, 0, none⟩)), (22, .int .i64 x_125), (107, v_84), (108, .int .i64 (([x0, x_21, x_49, t_60, t_75] : List (List UInt8)).length : Int)), (109, .int .i64 x_97), (184, .bool true)] := hm.keep [2, 3, 12, 20, 21, 22, 107, 108, 109, 184]
                      replace hS : Sep w0 w_171 [N_173, Mem.no, Mem.no, Mem.no, Mem.no, Mem.no, Mem.no, M_85, Mem.one g_114 (.cells ([v_174, .bool t_170.2.2] : List Value).toArray 66 (0, 0)), Mem.one g_118 (.cells ([v_153, .bool x_152.Bad] : List Value).toArray 58 (0, 0))] Z := hS
                      replace hm : Fr 187 a [(2, p2_2), (3, p3_3), (12, .bool false), (20, .pointer (some ⟨g_114, 0, none⟩)), (21, .pointer (some ⟨g_118, 0, none⟩)), (22, .int .i64 x_125), (107, v_84), (108, .int .i64 (([x0, x_21, x_49, t_60, t_75] : List (List UInt8)).length : Int)), (109, .int .i64 x_97), (184, .bool true)] := hm.keep [2, 3, 12, 20, 21, 22, 107, 108, 109, 184]
                      exact x_then_n (hJ_j_167 true (⟨t_170.2.1, t_170.2.2⟩ : pack_Reader) x_152 H _ _ ⟨v_174, v_153, N_173, hm, (Sep.sel hS [0, 1000, 1001, 1002, 1003, 1004, 1005, 7, 8, 9] (by decide)), le_173, (hr_175.mono (Mem.un_le le_173 ln_173)), (hr_154.mono (Mem.un_left le_173))⟩)
                  · refine ⟨_, [true, false, true, true, true, true, false, false, false, false, false, false, false, false, false].toArray, rfl, rfl, ?_⟩
                    refine s_load hm rfl rfl (hS.load_one (p := 9) rfl Try.underlying4 rfl rfl) ?_
                    clear hm a; intro a hm
                    refine wpList_nil ?_
                    refine x_then_n ⟨(hS.sub (.cons (Mem.le.refl _) (.cons (Mem.no_le _) (.cons (Mem.no_le _) (.cons (Mem.no_le _) (.cons (Mem.no_le _) (.cons (Mem.no_le _) (.cons (Mem.no_le _) (.cons (Mem.le.refl _) (.cons (Mem.no_le _) (.cons (Mem.no_le _) (Sub.nil _)))))))))))), ?_⟩
                    refine h_take 6 [true, false, true, true, true, true, true, false, false, false, false, false, false, false, false].toArray rfl (by kernel_rfl) (by kernel_rfl) (by kernel_rfl) (fun _ _ _ _ h => h) rfl rfl rfl rfl hm (hS.sub (.cons (Mem.le.refl _) (.cons (Mem.no_le _) (.cons (Mem.no_le _) (.cons (Mem.no_le _) (.cons (Mem.no_le _) (.cons (Mem.no_le _) (.cons (Mem.no_le _) (.cons (Mem.le.refl _) (.cons (Mem.no_le _) (.cons (Mem.no_le _) (Sub.nil _)))))))))))) (v := .bool (!x_152.Bad)) (fun w hS => r_not hm rfl) ?_
                    clear hm a; intro a hm
                    refine h_event 1 [true, true, true, true, true, true, true, false, false, false, false, false, false, false, false].toArray rfl (by kernel_rfl) rfl ?_
                    refine s_call hm rfl Try.call30 rfl (pack_Reader_Ok.calls _ x_149.b _ x_149.bad t_170 w0 _ _ N_148 (hS.new_zed [7]) (hS.enter [7] (by decide)) hr_151 et_170) ?_
                    rintro _ w_191 ⟨v_194, N_192, rfl, hS', hr_195⟩
                    clear hm a; intro a hm
                    obtain ⟨N_193, hS'', le_193, ln_193⟩ := hS.call [7] (by decide) rfl (l' := [Mem.one g_114 (.cells ([v_194, .bool t_170.2.2] : List Value).toArray 66 (0, 0))]) (ow := []) rfl hS'
                    replace hS : Sep w0 w_191 [N_193, Mem.no, Mem.no, Mem.no, Mem.no, Mem.no, Mem.no, M_85, Mem.one g_114 (.cells ([v_194, .bool t_170.2.2] : List Value).toArray 66 (0, 0)), Mem.one g_118 (.cells ([v_153, .bool x_152.Bad] : List Value).toArray 58 (0, 0))] Z := hS''
                    clear hS' hS''
                    refine wpList_nil ?_
                    refine x_then_n ⟨(hS.sub (.cons le_193 (.cons (Mem.no_le _) (.cons (Mem.no_le _) (.cons (Mem.no_le _) (.cons (Mem.no_le _) (.cons (Mem.no_le _) (.cons (Mem.no_le _) (.cons (Mem.le.refl _) (.cons (Mem.no_le _) (.cons (Mem.no_le _) (Sub.nil _)))))))))))), ?_⟩
                    refine h_take 7 [true, true, true, true, true, true, true, true, false, false, false, false, false, false, false].toArray rfl (by kernel_rfl) (by kernel_rfl) (by kernel_rfl) (fun _ _ _ _ h => h) rfl rfl rfl rfl hm (hS.sub (.cons le_193 (.cons (Mem.no_le _) (.cons (Mem.no_le _) (.cons (Mem.no_le _) (.cons (Mem.no_le _) (.cons (Mem.no_le _) (.cons (Mem.no_le _) (.cons (Mem.le.refl _) (.cons (Mem.no_le _) (.cons (Mem.no_le _) (Sub.nil _)))))))))))) (v := .bool (!(t_170.1 == (!x_152.Bad)))) (fun w hS => r_beq (b := !(t_170.1 == (!x_152.Bad))) hm Try.underlying4 rfl rfl (.inr ⟨rfl, rfl⟩)) ?_
                    clear hm a; intro a hm
                    refine h_take 8 [true, true, true, true, true, true, true, true, true, false, false, false, false, false, false].toArray rfl (by kernel_rfl) (by kernel_rfl) (by kernel_rfl) (fun _ _ _ _ h => h) rfl rfl rfl rfl hm (hS.sub (.cons le_193 (.cons (Mem.no_le _) (.cons (Mem.no_le _) (.cons (Mem.no_le _) (.cons (Mem.no_le _) (.cons (Mem.no_le _) (.cons (Mem.no_le _) (.cons (Mem.le.refl _) (.cons (Mem.no_le _) (.cons (Mem.no_le _) (Sub.nil _)))))))))))) (v := .bool (!(t_170.1 == (!x_152.Bad)))) (fun w hS => r_move hm rfl) ?_
                    clear hm a; intro a hm
                    by_cases hc_196 : t_170.1 = (!x_152.Bad)
                    · rw [if_pos hc_196] at H
                      refine h_take_on 9 [true, true, true, true, true, true, true, true, true, true, false, false, false, false, false].toArray rfl (by kernel_rfl) (by kernel_rfl) (by kernel_rfl) (fun _ _ _ _ h => h) rfl rfl rfl rfl (nf (beq_iff_eq.2 hc_196)) rfl rfl hm (hS.sub (.cons le_193 (.cons (Mem.no_le _) (.cons (Mem.no_le _) (.cons (Mem.no_le _) (.cons (Mem.no_le _) (.cons (Mem.no_le _) (.cons (Mem.no_le _) (.cons (Mem.le.refl _) (.cons (Mem.no_le _) (.cons (Mem.no_le _) (Sub.nil _)))))))))))) (v := .pointer (some ⟨g_114, 0, none⟩)) (fun w hS => r_move hm rfl) ?_
                      clear hm a; intro a hm
                      refine h_take_on 11 [true, true, true, true, true, true, true, true, true, true, false, true, false, false, false].toArray rfl (by kernel_rfl) (by kernel_rfl) (by kernel_rfl) (fun _ _ _ _ h => h) rfl rfl rfl rfl (nf (beq_iff_eq.2 hc_196)) rfl rfl hm (hS.sub (.cons le_193 (.cons (Mem.no_le _) (.cons (Mem.no_le _) (.cons (Mem.no_le _) (.cons (Mem.no_le _) (.cons (Mem.no_le _) (.cons (Mem.no_le _) (.cons (Mem.le.refl _) (.cons (Mem.no_le _) (.cons (Mem.no_le _) (Sub.nil _)))))))))))) (v := .pointer (some ⟨g_118, 0, none⟩)) (fun w hS => r_move hm rfl) ?_
                      clear hm a; intro a hm
                      refine h_event 10 [true, true, true, true, true, true, true, true, true, true, true, true, false, false, false].toArray rfl (by kernel_rfl) rfl ?_
                      refine s_on hm rfl rfl (nf (beq_iff_eq.2 hc_196)) ?_
                      obtain ⟨t_197, et_197, H⟩ := Option.bind_eq_some_iff.1 H
                      refine s_call hm rfl Try.call32 rfl (pack_Reader_End.calls _ t_170.2.1 _ t_170.2.2 t_197 w0 _ _ N_193 (hS.new_zed [7]) (hS.enter [7] (by decide)) (hr_195.mono (Mem.un_le le_193 ln_193)) et_197) ?_
                      rintro _ w_198 ⟨v_201, N_199, rfl, hS', hr_202⟩
                      clear hm a; intro a hm
                      obtain ⟨N_200, hS'', le_200, ln_200⟩ := hS.call [7] (by decide) rfl (l' := [Mem.one g_114 (.cells ([v_201, .bool t_197.2.2] : List Value).toArray 66 (0, 0))]) (ow := []) rfl hS'
                      replace hS : Sep w0 w_198 [N_200, Mem.no, Mem.no, Mem.no, Mem.no, Mem.no, Mem.no, M_85, Mem.one g_114 (.cells ([v_201, .bool t_197.2.2] : List Value).toArray 66 (0, 0)), Mem.one g_118 (.cells ([v_153, .bool x_152.Bad] : List Value).toArray 58 (0, 0))] Z := hS''
                      clear hS' hS''
                      refine wpList_nil ?_
                      refine x_then_n ⟨(hS.sub (.cons (le_193.trans le_200) (.cons (Mem.no_le _) (.cons (Mem.no_le _) (.cons (Mem.no_le _) (.cons (Mem.no_le _) (.cons (Mem.no_le _) (.cons (Mem.no_le _) (.cons (Mem.le.refl _) (.cons (Mem.no_le _) (.cons (Mem.no_le _) (Sub.nil _)))))))))))), ?_⟩
                      refine h_event 12 [true, true, true, true, true, true, true, true, true, true, true, true, true, false, false].toArray rfl (by kernel_rfl) rfl ?_
                      refine s_on hm rfl rfl (nf (beq_iff_eq.2 hc_196)) ?_
                      obtain ⟨t_203, et_203, H⟩ := Option.bind_eq_some_iff.1 H
                      refine s_call hm rfl Try.call40 rfl (hocketref1_Reader_End.calls _ x_152.B _ x_152.Bad t_203 w0 _ _ (A.un N_200) (Mem.un_le (hA.trans (hS.le_zed [8])) (hS.new_zed [8])) (hS.enter [8] (by decide)) (hr_154.mono (Mem.un_left (le_193.trans le_200))) et_203) ?_
                      rintro _ w_204 ⟨v_207, N_205, rfl, hS', hr_208⟩
                      clear hm a; intro a hm
                      obtain ⟨N_206, hS'', le_206, ln_206⟩ := hS.call [8] (by decide) rfl (l' := [Mem.one g_118 (.cells ([v_207, .bool t_203.2.2] : List Value).toArray 58 (0, 0))]) (ow := []) rfl hS'
                      replace hS : Sep w0 w_204 [N_206, Mem.no, Mem.no, Mem.no, Mem.no, Mem.no, Mem.no, M_85, Mem.one g_114 (.cells ([v_201, .bool t_197.2.2] : List Value).toArray 66 (0, 0)), Mem.one g_118 (.cells ([v_207, .bool t_203.2.2] : List Value).toArray 58 (0, 0))] Z := hS''
                      clear hS' hS''
                      have hr_209 : Rd Kd.u8 (A.un N_206) v_207 t_203.2.1 := hr_208.mono (Mem.un_le (Mem.un_left le_206) (ln_206.trans (hS.sndA hA)))
                      refine wpList_nil ?_
                      refine x_then_n ⟨(hS.sub (.cons (le_193.trans (le_200.trans le_206)) (.cons (Mem.no_le _) (.cons (Mem.no_le _) (.cons (Mem.no_le _) (.cons (Mem.no_le _) (.cons (Mem.no_le _) (.cons (Mem.no_le _) (.cons (Mem.le.refl _) (.cons (Mem.no_le _) (.cons (Mem.no_le _) (Sub.nil _)))))))))))), ?_⟩
                      refine h_take_on 13 [true, true, true, true, true, true, true, true, true, true, true, true, true, true, false].toArray rfl (by kernel_rfl) (by kernel_rfl) (by kernel_rfl) (fun _ _ _ _ h => h) rfl rfl rfl rfl (nf (beq_iff_eq.2 hc_196)) rfl rfl hm (hS.sub (.cons (le_193.trans (le_200.trans le_206)) (.cons (Mem.no_le _) (.cons (Mem.no_le _) (.cons (Mem.no_le _) (.cons (Mem.no_le _) (.cons (Mem.no_le _) (.cons (Mem.no_le _) (.cons (Mem.le.refl _) (.cons (Mem.no_le _) (.cons (Mem.no_le _) (Sub.nil _)))))))))))) (v := .bool (!(t_197.1 == t_203.1))) (fun w hS => r_beq (b := !(t_197.1 == t_203.1)) hm Try.underlying4 rfl rfl (.inr ⟨rfl, rfl⟩)) ?_
                      clear hm a; intro a hm
                      refine h_take 14 [true, true, true, true, true, true, true, true, true, true, true, true, true, true, true].toArray rfl (by kernel_rfl) (by kernel_rfl) (by kernel_rfl) (fun _ _ _ _ h => h) rfl rfl rfl rfl hm (hS.sub (.cons (le_193.trans (le_200.trans le_206)) (.cons (Mem.no_le _) (.cons (Mem.no_le _) (.cons (Mem.no_le _) (.cons (Mem.no_le _) (.cons (Mem.no_le _) (.cons (Mem.no_le _) (.cons (Mem.le.refl _) (.cons (Mem.no_le _) (.cons (Mem.no_le _) (Sub.nil _)))))))))))) (v := .bool (!(t_197.1 == t_203.1))) (fun w hS => r_pick_f hm rfl (nf (beq_iff_eq.2 hc_196)) rfl) ?_
                      clear hm a; intro a hm
                      refine h_done (by kernel_rfl) ?_
                      replace hm : Fr 187 a [(2, p2_2), (3, p3_3), (12, .bool false), (20, .pointer (some ⟨g_114, 0, none⟩)), (21, .pointer (some ⟨g_118, 0, none⟩)), (22, .int .i64 x_125), (107, v_84), (108, .int .i64 (([x0, x_21, x_49, t_60, t_75] : List (List UInt8)).length : Int)), (109, .int .i64 x_97), (184, .bool (!(t_197.1 == t_203.1)))] := hm.keep [2, 3, 12, 20, 21, 22, 107, 108, 109, 184]
                      replace hS : Sep w0 w_204 [N_206, Mem.no, Mem.no, Mem.no, Mem.no, Mem.no, Mem.no, M_85, Mem.one g_114 (.cells ([v_201, .bool t_197.2.2] : List Value).toArray 66 (0, 0)), Mem.one g_118 (.cells ([v_207, .bool t_203.2.2] : List Value).toArray 58 (0, 0))] Z := hS
                      replace hm : Fr 187 a [(2, p2_2), (3, p3_3), (12, .bool false), (20, .pointer (some ⟨g_114, 0, none⟩)), (21, .pointer (some ⟨g_118, 0, none⟩)), (22, .int .i64 x_125), (107, v_84), (108, .int .i64 (([x0, x_21, x_49, t_60, t_75] : List (List UInt8)).length : Int)), (109, .int .i64 x_97), (184, .bool (!(t_197.1 == t_203.1)))] := hm.keep [2, 3, 12, 20, 21, 22, 107, 108, 109, 184]
                      exact x_then_n (hJ_j_167 (!(t_197.1 == t_203.1)) (⟨t_197.2.1, t_197.2.2⟩ : pack_Reader) (⟨t_203.2.1, t_203.2.2⟩ : hocketref1_Reader) H _ _ ⟨v_201, v_207, N_206, hm, (Sep.sel hS [0, 1000, 1001, 1002, 1003, 1004, 1005, 7, 8, 9] (by decide)), (le_193.trans (le_200.trans le_206)), ((hr_202.mono (Mem.un_le le_200 ln_200)).mono le_206), hr_209⟩)
                    · rw [if_neg hc_196] at H
                      refine h_take_off 9 [true, true, true, true, true, true, true, true, true, true, false, false, false, false, false].toArray rfl (by kernel_rfl) (by kernel_rfl) (by kernel_rfl) (fun _ _ _ _ h => h) rfl rfl rfl rfl (.inl (congrArg Value.bool (nt (beq_eq_false_iff_ne.2 hc_196)))) rfl rfl hm (hS.sub (.cons le_193 (.cons (Mem.no_le _) (.cons (Mem.no_le _) (.cons (Mem.no_le _) (.cons (Mem.no_le _) (.cons (Mem.no_le _) (.cons (Mem.no_le _) (.cons (Mem.le.refl _) (.cons (Mem.no_le _) (.cons (Mem.no_le _) (Sub.nil _)))))))))))) ?_
                      clear hm a; intro a hm
                      refine h_take_off 10 [true, true, true, true, true, true, true, true, true, true, true, false, false, false, false].toArray rfl (by kernel_rfl) (by kernel_rfl) (by kernel_rfl) (fun _ _ _ _ h => h) rfl rfl rfl rfl (.inl (congrArg Value.bool (nt (beq_eq_false_iff_ne.2 hc_196)))) rfl rfl hm (hS.sub (.cons le_193 (.cons (Mem.no_le _) (.cons (Mem.no_le _) (.cons (Mem.no_le _) (.cons (Mem.no_le _) (.cons (Mem.no_le _) (.cons (Mem.no_le _) (.cons (Mem.le.refl _) (.cons (Mem.no_le _) (.cons (Mem.no_le _) (Sub.nil _)))))))))))) ?_
                      clear hm a; intro a hm
                      refine h_take_off 11 [true, true, true, true, true, true, true, true, true, true, true, true, false, false, false].toArray rfl (by kernel_rfl) (by kernel_rfl) (by kernel_rfl) (fun _ _ _ _ h => h) rfl rfl rfl rfl (.inl (congrArg Value.bool (nt (beq_eq_false_iff_ne.2 hc_196)))) rfl rfl hm (hS.sub (.cons le_193 (.cons (Mem.no_le _) (.cons (Mem.no_le _) (.cons (Mem.no_le _) (.cons (Mem.no_le _) (.cons (Mem.no_le _) (.cons (Mem.no_le _) (.cons (Mem.le.refl _) (.cons (Mem.no_le _) (.cons (Mem.no_le _) (Sub.nil _)))))))))))) ?_
                      clear hm a; intro a hm
                      refine h_take_off 12 [true, true, true, true, true, true, true, true, true, true, true, true, true, false, false].toArray rfl (by kernel_rfl) (by kernel_rfl) (by kernel_rfl) (fun _ _ _ _ h => h) rfl rfl rfl rfl (.inl (congrArg Value.bool (nt (beq_eq_false_iff_ne.2 hc_196)))) rfl rfl hm (hS.sub (.cons le_193 (.cons (Mem.no_le _) (.cons (Mem.no_le _) (.cons (Mem.no_le _) (.cons (Mem.no_le _) (.cons (Mem.no_le _) (.cons (Mem.no_le _) (.cons (Mem.le.refl _) (.cons (Mem.no_le _) (.cons (Mem.no_le _) (Sub.nil _)))))))))))) ?_
                      clear hm a; intro a hm
                      refine h_take_off 13 [true, true, true, true, true, true, true, true, true, true, true, true, true, true, false].toArray rfl (by kernel_rfl) (by kernel_rfl) (by kernel_rfl) (fun _ _ _ _ h => h) rfl rfl rfl rfl (.inl (congrArg Value.bool (nt (beq_eq_false_iff_ne.2 hc_196)))) rfl rfl hm (hS.sub (.cons le_193 (.cons (Mem.no_le _) (.cons (Mem.no_le _) (.cons (Mem.no_le _) (.cons (Mem.no_le _) (.cons (Mem.no_le _) (.cons (Mem.no_le _) (.cons (Mem.le.refl _) (.cons (Mem.no_le _) (.cons (Mem.no_le _) (Sub.nil _)))))))))))) ?_
                      clear hm a; intro a hm
                      refine h_take 14 [true, true, true, true, true, true, true, true, true, true, true, true, true, true, true].toArray rfl (by kernel_rfl) (by kernel_rfl) (by kernel_rfl) (fun _ _ _ _ h => h) rfl rfl rfl rfl hm (hS.sub (.cons le_193 (.cons (Mem.no_le _) (.cons (Mem.no_le _) (.cons (Mem.no_le _) (.cons (Mem.no_le _) (.cons (Mem.no_le _) (.cons (Mem.no_le _) (.cons (Mem.le.refl _) (.cons (Mem.no_le _) (.cons (Mem.no_le _) (Sub.nil _)))))))))))) (v := .bool true) (fun w hS => r_pick_t hm rfl (nt (beq_eq_false_iff_ne.2 hc_196)) rfl) ?_
                      clear hm a; intro a hm
                      refine h_done (by kernel_rfl) ?_
                      replace hm : Fr 187 a [(2, p2_2), (3, p3_3), (12, .bool false), (20, .pointer (some ⟨g_114, 0, none⟩)), (21, .pointer (some ⟨g_118, 0, none⟩)), (22, .int .i64 x_125), (107, v_84), (108, .int .i64 (([x0, x_21, x_49, t_60, t_75] : List (List UInt8)).length : Int)), (109, .int .i64 x_97), (184, .bool true)] := hm.keep [2, 3, 12, 20, 21, 22, 107, 108, 109, 184]
                      replace hS : Sep w0 w_191 [N_193, Mem.no, Mem.no, Mem.no, Mem.no, Mem.no, Mem.no, M_85, Mem.one g_114 (.cells ([v_194, .bool t_170.2.2] : List Value).toArray 66 (0, 0)), Mem.one g_118 (.cells ([v_153, .bool x_152.Bad] : List Value).toArray 58 (0, 0))] Z := hS
                      replace hm : Fr 187 a [(2, p2_2), (3, p3_3), (12, .bool false), (20, .pointer (some ⟨g_114, 0, none⟩)), (21, .pointer (some ⟨g_118, 0, none⟩)), (22, .int .i64 x_125), (107, v_84), (108, .int .i64 (([x0, x_21, x_49, t_60, t_75] : List (List UInt8)).length : Int)), (109, .int .i64 x_97), (184, .bool true)] := hm.keep [2, 3, 12, 20, 21, 22, 107, 108, 109, 184]
                      exact x_then_n (hJ_j_167 true (⟨t_170.2.1, t_170.2.2⟩ : pack_Reader) x_152 H _ _ ⟨v_194, v_153, N_193, hm, (Sep.sel hS [0, 1000, 1001, 1002, 1003, 1004, 1005, 7, 8, 9] (by decide)), le_193, (hr_195.mono (Mem.un_le le_193 ln_193)), (hr_154.mono (Mem.un_left le_193))⟩)
                clear hKJ_142
                by_cases hc_210 : (band .i64 t_143 3) = 0
                · rw [if_pos hc_210] at H
                  refine c_cond_t hm rfl (beq_iff_eq.2 hc_210) ?_
                  refine c_seq fun KJ_211 hKJ_211 => ?_
                  refine h_begin (S := fun w => Sep w0 w [N_136, Mem.no, Mem.no, Mem.no, Mem.no, Mem.no, Mem.no, M_85, Mem.no, Mem.no] Z) 15 (by kernel_rfl) rfl [false, false, false, false, false, false, false, false, false, false, false, false, false, false, false].toArray rfl hS fun w_212 hS => ?_
                  replace hS : Sep w0 w_212 [N_136, Mem.no, Mem.no, Mem.no, Mem.no, Mem.no, Mem.no, M_85, Mem.one g_114 (.cells ([v_127, .bool x_126.bad] : List Value).toArray 66 (0, 0)), Mem.one g_118 (.cells ([v_130, .bool x_129.Bad] : List Value).toArray 58 (0, 0))] Z := hS
                  refine h_take 0 [true, false, false, false, false, false, false, false, false, false, false, false, false, false, false].toArray rfl (by kernel_rfl) (by kernel_rfl) (by kernel_rfl) (fun _ _ _ _ h => h) rfl rfl rfl rfl hm (hS.sub (.cons (Mem.le.refl _) (.cons (Mem.no_le _) (.cons (Mem.no_le _) (.cons (Mem.no_le _) (.cons (Mem.no_le _) (.cons (Mem.no_le _) (.cons (Mem.no_le _) (.cons (Mem.le.refl _) (.cons (Mem.no_le _) (.cons (Mem.no_le _) (Sub.nil _)))))))))))) (v := .pointer (some ⟨g_114, 0, none⟩)) (fun w hS => r_move hm rfl) ?_
                  clear hm a; intro a hm
                  refine h_take 1 [true, true, false, false, false, false, false, false, false, false, false, false, false, false, false].toArray rfl (by kernel_rfl) (by kernel_rfl) (by kernel_rfl) (fun _ _ _ _ h => h) rfl rfl rfl rfl hm (hS.sub (.cons (Mem.le.refl _) (.cons (Mem.no_le _) (.cons (Mem.no_le _) (.cons (Mem.no_le _) (.cons (Mem.no_le _) (.cons (Mem.no_le _) (.cons (Mem.no_le _) (.cons (Mem.le.refl _) (.cons (Mem.no_le _) (.cons (Mem.no_le _) (Sub.nil _)))))))))))) (v := p3_3) (fun w hS => r_move hm rfl) ?_
                  clear hm a; intro a hm
                  refine h_take 2 [true, true, true, false, false, false, false, false, false, false, false, false, false, false, false].toArray rfl (by kernel_rfl) (by kernel_rfl) (by kernel_rfl) (fun _ _ _ _ h => h) rfl rfl rfl rfl hm (hS.sub (.cons (Mem.le.refl _) (.cons (Mem.no_le _) (.cons (Mem.no_le _) (.cons (Mem.no_le _) (.cons (Mem.no_le _) (.cons (Mem.no_le _) (.cons (Mem.no_le _) (.cons (Mem.le.refl _) (.cons (Mem.no_le _) (.cons (Mem.no_le _) (Sub.nil _)))))))))))) (v := .int .i64 x_125) (fun w hS => r_move hm rfl) ?_
                  clear hm a; intro a hm
                  obtain ⟨t_213, et_213, H⟩ := Option.bind_eq_some_iff.1 H
                  refine h_takeE 3 [true, true, true, true, false, false, false, false, false, false, false, false, false, false, false].toArray rfl (by kernel_rfl) (by kernel_rfl) (by kernel_rfl) (fun _ _ _ _ h => h) rfl rfl rfl rfl hm (hS.sub (.cons (Mem.le.refl _) (.cons (Mem.no_le _) (.cons (Mem.no_le _) (.cons (Mem.no_le _) (.cons (Mem.no_le _) (.cons (Mem.no_le _) (.cons (Mem.no_le _) (.cons (Mem.le.refl _) (.cons (Mem.no_le _) (.cons (Mem.no_le _) (Sub.nil _)))))))))))) (f := fun ad => .pointer (some ad)) (r_index hm Try.underlying44 ti3 rfl rfl rfl hp3_3 et_213) ?_
                  rintro ad_214 ⟨cs_215, hk_216, hc_217⟩
                  obtain rfl := (show cs_215 = [.int .i64 t_213] from hk_216)
                  clear hm a; intro a hm
                  refine h_take 4 [true, true, true, true, true, false, false, false, false, false, false, false, false, false, false].toArray rfl (by kernel_rfl) (by kernel_rfl) (by kernel_rfl) (fun _ _ _ _ h => h) rfl rfl rfl rfl hm (hS.sub (.cons (Mem.le.refl _) (.cons (Mem.no_le _) (.cons (Mem.no_le _) (.cons (Mem.no_le _) (.cons (Mem.no_le _) (.cons (Mem.no_le _) (.cons (Mem.no_le _) (.cons (Mem.le.refl _) (.cons (Mem.no_le _) (.cons (Mem.no_le _) (Sub.nil _)))))))))))) (v := .int .i64 t_213) (fun w hS => r_load hm rfl (el_one (o := 0) (fun j c h => Mem.cell_le (hA.trans hS.old) (hc_217 j c h)) Try.underlying3 rfl rfl)) ?_
                  clear hm a; intro a hm
                  refine h_take 7 [true, true, true, true, true, false, false, true, false, false, false, false, false, false, false].toArray rfl (by kernel_rfl) (by kernel_rfl) (by kernel_rfl) (fun _ _ _ _ h => h) rfl rfl rfl rfl hm (hS.sub (.cons (Mem.le.refl _) (.cons (Mem.no_le _) (.cons (Mem.no_le _) (.cons (Mem.no_le _) (.cons (Mem.no_le _) (.cons (Mem.no_le _) (.cons (Mem.no_le _) (.cons (Mem.le.refl _) (.cons (Mem.no_le _) (.cons (Mem.no_le _) (Sub.nil _)))))))))))) (v := .pointer (some ⟨g_118, 0, none⟩)) (fun w hS => r_move hm rfl) ?_
                  clear hm a; intro a hm
                  refine h_take 8 [true, true, true, true, true, false, false, true, true, false, false, false, false, false, false].toArray rfl (by kernel_rfl) (by kernel_rfl) (by kernel_rfl) (fun _ _ _ _ h => h) rfl rfl rfl rfl hm (hS.sub (.cons (Mem.le.refl _) (.cons (Mem.no_le _) (.cons (Mem.no_le _) (.cons (Mem.no_le _) (.cons (Mem.no_le _) (.cons (Mem.no_le _) (.cons (Mem.no_le _) (.cons (Mem.le.refl _) (.cons (Mem.no_le _) (.cons (Mem.no_le _) (Sub.nil _)))))))))))) (v := p3_3) (fun w hS => r_move hm rfl) ?_
                  clear hm a; intro a hm
                  refine h_take 9 [true, true, true, true, true, false, false, true, true, true, false, false, false, false, false].toArray rfl (by kernel_rfl) (by kernel_rfl) (by kernel_rfl) (fun _ _ _ _ h => h) rfl rfl rfl rfl hm (hS.sub (.cons (Mem.le.refl _) (.cons (Mem.no_le _) (.cons (Mem.no_le _) (.cons (Mem.no_le _) (.cons (Mem.no_le _) (.cons (Mem.no_le _) (.cons (Mem.no_le _) (.cons (Mem.le.refl _) (.cons (Mem.no_le _) (.cons (Mem.no_le _) (Sub.nil _)))))))))))) (v := .int .i64 x_125) (fun w hS => r_move hm rfl) ?_
                  clear hm a; intro a hm
                  obtain ⟨t_218, et_218, H⟩ := Option.bind_eq_some_iff.1 H
                  refine h_takeE 10 [true, true, true, true, true, false, false, true, true, true, true, false, false, false, false].toArray rfl (by kernel_rfl) (by kernel_rfl) (by kernel_rfl) (fun _ _ _ _ h => h) rfl rfl rfl rfl hm (hS.sub (.cons (Mem.le.refl _) (.cons (Mem.no_le _) (.cons (Mem.no_le _) (.cons (Mem.no_le _) (.cons (Mem.no_le _) (.cons (Mem.no_le _) (.cons (Mem.no_le _) (.cons (Mem.le.refl _) (.cons (Mem.no_le _) (.cons (Mem.no_le _) (Sub.nil _)))))))))))) (f := fun ad => .pointer (some ad)) (r_index hm Try.underlying44 ti3 rfl rfl rfl hp3_3 et_218) ?_
                  rintro ad_219 ⟨cs_220, hk_221, hc_222⟩
                  obtain rfl := (show cs_220 = [.int .i64 t_218] from hk_221)
                  clear hm a; intro a hm
                  refine h_take 11 [true, true, true, true, true, false, false, true, true, true, true, true, false, false, false].toArray rfl (by kernel_rfl) (by kernel_rfl) (by kernel_rfl) (fun _ _ _ _ h => h) rfl rfl rfl rfl hm (hS.sub (.cons (Mem.le.refl _) (.cons (Mem.no_le _) (.cons (Mem.no_le _) (.cons (Mem.no_le _) (.cons (Mem.no_le _) (.cons (Mem.no_le _) (.cons (Mem.no_le _) (.cons (Mem.le.refl _) (.cons (Mem.no_le _) (.cons (Mem.no_le _) (Sub.nil _)))))))))))) (v := .int .i64 t_218) (fun w hS => r_load hm rfl (el_one (o := 0) (fun j c h => Mem.cell_le (hA.trans hS.old) (hc_222 j c h)) Try.underlying3 rfl rfl)) ?_
                  clear hm a; intro a hm
                  refine h_event 5 [true, true, true, true, true, true, false, true, true, true, true, true, false, false, false].toArray rfl (by kernel_rfl) rfl ?_
                  obtain ⟨t_223, et_223, H⟩ := Option.bind_eq_some_iff.1 H
                  refine s_call hm rfl Try.call35 rfl (pack_Reader_Bytes.calls K _ x_126.b _ x_126.bad t_213 t_223 w0 _ _ N_136 (hS.new_zed [7]) (hS.enter [7] (by decide)) (hr_128.mono le_136) et_223) ?_
                  rintro v_227 w_224 ⟨_, v_231, N_225, M_229, rfl, hS', hr_228, hr_232⟩
                  clear hm a; intro a hm
                  obtain ⟨N_226, hS'', le_226, ln_226⟩ := hS.call [7] (by decide) rfl (l' := [Mem.one g_114 (.cells ([v_231, .bool t_223.2.2] : List Value).toArray 66 (0, 0))]) (ow := [M_229]) rfl hS'
                  replace hS : Sep w0 w_224 [N_226, Mem.no, Mem.no, Mem.no, Mem.no, Mem.no, Mem.no, M_85, Mem.one g_114 (.cells ([v_231, .bool t_223.2.2] : List Value).toArray 66 (0, 0)), Mem.one g_118 (.cells ([v_130, .bool x_129.Bad] : List Value).toArray 58 (0, 0)), M_229] Z := hS''
                  clear hS' hS''
                  refine wpList_nil ?_
                  refine x_then_n ⟨(hS.sub (.cons le_226 (.cons (Mem.no_le _) (.cons (Mem.no_le _) (.cons (Mem.no_le _) (.cons (Mem.no_le _) (.cons (Mem.no_le _) (.cons (Mem.no_le _) (.cons (Mem.le.refl _) (.cons (Mem.no_le _) (.cons (Mem.no_le _) (Sub.nil _)))))))))))), ?_⟩
                  obtain ⟨t_233, et_233, H⟩ := Option.bind_eq_some_iff.1 H
                  refine h_events [6, 12] (by kernel_rfl) (by simp) ?_
                  intro i hi; simp only [List.mem_cons, List.not_mem_nil, or_false] at hi; rcases hi with rfl | rfl
                  · refine ⟨_, [true, true, true, true, true, true, true, true, true, true, true, true, false, false, false].toArray, rfl, rfl, ?_⟩
                    refine s_b2s hm rfl Try.underlying25 Try.underlying5 Try.underlying9 rfl (hr_228.rd (J := hp w_224) (hS.own 10) (Mem.no_le _)) (Mem.le.refl _) ?_
                    clear hm a; intro a hm
                    refine wpList_nil ?_
                    refine x_then_n ⟨(hS.sub (.cons le_226 (.cons (Mem.no_le _) (.cons (Mem.no_le _) (.cons (Mem.no_le _) (.cons (Mem.no_le _) (.cons (Mem.no_le _) (.cons (Mem.no_le _) (.cons (Mem.le.refl _) (.cons (Mem.no_le _) (.cons (Mem.no_le _) (Sub.nil _)))))))))))), ?_⟩
                    refine h_event 12 [true, true, true, true, true, true, true, true, true, true, true, true, true, false, false].toArray rfl (by kernel_rfl) rfl ?_
                    refine s_call hm rfl Try.call38 rfl (hocketref1_Reader_Bytes.calls K _ x_129.B _ x_129.Bad t_218 t_233 w0 _ _ (A.un N_226) (Mem.un_le (hA.trans (hS.le_zed [8])) (hS.new_zed [8])) (hS.enter [8] (by decide)) (hr_131.mono (Mem.un_left (le_136.trans le_226))) et_233) ?_
                    rintro v_237 w_234 ⟨_, v_241, N_235, M_239, rfl, hS', hr_238, hr_242⟩
                    clear hm a; intro a hm
                    obtain ⟨N_236, hS'', le_236, ln_236⟩ := hS.call [8] (by decide) rfl (l' := [Mem.one g_118 (.cells ([v_241, .bool t_233.2.2] : List Value).toArray 58 (0, 0))]) (ow := [M_239]) rfl hS'
                    replace hS : Sep w0 w_234 [N_236, Mem.no, Mem.no, Mem.no, Mem.no, Mem.no, Mem.no, M_85, Mem.one g_114 (.cells ([v_231, .bool t_223.2.2] : List Value).toArray 66 (0, 0)), Mem.one g_118 (.cells ([v_241, .bool t_233.2.2] : List Value).toArray 58 (0, 0)), M_229, M_239] Z := hS''
                    clear hS' hS''
                    have hr_243 : Rd Kd.u8 (A.un N_236) v_241 t_233.2.1 := hr_242.mono (Mem.un_le (Mem.un_left le_236) (ln_236.trans (hS.sndA hA)))
                    refine wpList_nil ?_
                    refine x_then_n ⟨(hS.sub (.cons (le_226.trans le_236) (.cons (Mem.no_le _) (.cons (Mem.no_le _) (.cons (Mem.no_le _) (.cons (Mem.no_le _) (.cons (Mem.no_le _) (.cons (Mem.no_le _) (.cons (Mem.le.refl _) (.cons (Mem.no_le _) (.cons (Mem.no_le _) (Sub.nil _)))))))))))), ?_⟩
                    refine h_event 13 [true, true, true, true, true, true, true, true, true, true, true, true, true, true, false].toArray rfl (by kernel_rfl) rfl ?_
                    refine s_b2s hm rfl Try.underlying25 Try.underlying5 Try.underlying9 rfl (hr_238.rd (J := hp w_234) (hS.own 11) (Mem.no_le _)) (Mem.le.refl _) ?_
                    clear hm a; intro a hm
                    refine wpList_nil ?_
                    refine x_then_n ⟨(hS.sub (.cons (le_226.trans le_236) (.cons (Mem.no_le _) (.cons (Mem.no_le _) (.cons (Mem.no_le _) (.cons (Mem.no_le _) (.cons (Mem.no_le _) (.cons (Mem.no_le _) (.cons (Mem.le.refl _) (.cons (Mem.no_le _) (.cons (Mem.no_le _) (Sub.nil _)))))))))))), ?_⟩
                    refine h_take 14 [true, true, true, true, true, true, true, true, true, true, true, true, true, true, true].toArray rfl (by kernel_rfl) (by kernel_rfl) (by kernel_rfl) (fun _ _ _ _ h => h) rfl rfl rfl rfl hm (hS.sub (.cons (le_226.trans le_236) (.cons (Mem.no_le _) (.cons (Mem.no_le _) (.cons (Mem.no_le _) (.cons (Mem.no_le _) (.cons (Mem.no_le _) (.cons (Mem.no_le _) (.cons (Mem.le.refl _) (.cons (Mem.no_le _) (.cons (Mem.no_le _) (Sub.nil _)))))))))))) (v := .bool (!(t_223.1 == t_233.1))) (fun w hS => r_strEq (b := !(t_223.1 == t_233.1)) hm rfl rfl (.inr ⟨rfl, rfl⟩)) ?_
                    clear hm a; intro a hm
                    refine h_done (by kernel_rfl) ?_
                    replace hm : Fr 187 a [(2, p2_2), (3, p3_3), (12, .bool false), (20, .pointer (some ⟨g_114, 0, none⟩)), (21, .pointer (some ⟨g_118, 0, none⟩)), (22, .int .i64 x_125), (107, v_84), (108, .int .i64 (([x0, x_21, x_49, t_60, t_75] : List (List UInt8)).length : Int)), (109, .int .i64 x_97), (156, .bool (!(t_223.1 == t_233.1)))] := hm.keep [2, 3, 12, 20, 21, 22, 107, 108, 109, 156]
                    refine x_then_n (hKJ_211 _ _ ?_)
                    by_cases hc_244 : t_223.1 = t_233.1
                    · rw [if_pos hc_244] at H
                      refine c_cond_f hm rfl (nf (beq_iff_eq.2 hc_244)) ?_
                      refine wp_skip ?_
                      replace hS : Sep w0 w_234 [N_236, Mem.no, Mem.no, Mem.no, Mem.no, Mem.no, Mem.no, M_85, Mem.one g_114 (.cells ([v_231, .bool t_223.2.2] : List Value).toArray 66 (0, 0)), Mem.one g_118 (.cells ([v_241, .bool t_233.2.2] : List Value).toArray 58 (0, 0)), M_229, M_239] Z := hS
                      replace hm : Fr 187 a [(2, p2_2), (3, p3_3), (12, .bool false), (20, .pointer (some ⟨g_114, 0, none⟩)), (21, .pointer (some ⟨g_118, 0, none⟩)), (22, .int .i64 x_125), (107, v_84), (108, .int .i64 (([x0, x_21, x_49, t_60, t_75] : List (List UInt8)).length : Int)), (109, .int .i64 x_97)] := hm.keep [2, 3, 12, 20, 21, 22, 107, 108, 109]
                      exact x_then_n (hJ_j_156 (⟨t_223.2.1, t_223.2.2⟩ : pack_Reader) (⟨t_233.2.1, t_233.2.2⟩ : hocketref1_Reader) H _ _ ⟨v_231, v_241, N_236, hm, (Sep.sel hS [0, 1000, 1001, 1002, 1003, 1004, 1005, 7, 8, 9] (by decide)), (le_226.trans le_236), ((hr_232.mono (Mem.un_le le_226 ln_226)).mono le_236), hr_243⟩)
                    · rw [if_neg hc_244] at H
                      cases H
                  · refine ⟨_, [true, true, true, true, true, true, false, true, true, true, true, true, true, false, false].toArray, rfl, rfl, ?_⟩
                    refine s_call hm rfl Try.call38 rfl (hocketref1_Reader_Bytes.calls K _ x_129.B _ x_129.Bad t_218 t_233 w0 _ _ (A.un N_226) (Mem.un_le (hA.trans (hS.le_zed [8])) (hS.new_zed [8])) (hS.enter [8] (by decide)) (hr_131.mono (Mem.un_left (le_136.trans le_226))) et_233) ?_
                    rintro v_249 w_246 ⟨_, v_253, N_247, M_251, rfl, hS', hr_250, hr_254⟩
                    clear hm a; intro a hm
                    obtain ⟨N_248, hS'', le_248, ln_248⟩ := hS.call [8] (by decide) rfl (l' := [Mem.one g_118 (.cells ([v_253, .bool t_233.2.2] : List Value).toArray 58 (0, 0))]) (ow := [M_251]) rfl hS'
                    replace hS : Sep w0 w_246 [N_248, Mem.no, Mem.no, Mem.no, Mem.no, Mem.no, Mem.no, M_85, Mem.one g_114 (.cells ([v_231, .bool t_223.2.2] : List Value).toArray 66 (0, 0)), Mem.one g_118 (.cells ([v_253, .bool t_233.2.2] : List Value).toArray 58 (0, 0)), M_229, M_251] Z := hS''
                    clear hS' hS''
                    have hr_255 : Rd Kd.u8 (A.un N_248) v_253 t_233.2.1 := hr_254.mono (Mem.un_le (Mem.un_left le_248) (ln_248.trans (hS.sndA hA)))
                    refine wpList_nil ?_
                    refine x_then_n ⟨(hS.sub (.cons (le_226.trans le_248) (.cons (Mem.no_le _) (.cons (Mem.no_le _) (.cons (Mem.no_le _) (.cons (Mem.no_le _) (.cons (Mem.no_le _) (.cons (Mem.no_le _) (.cons (Mem.le.refl _) (.cons (Mem.no_le _) (.cons (Mem.no_le _) (Sub.nil _)))))))))))), ?_⟩
                    refine h_events [6, 13] (by kernel_rfl) (by simp) ?_
                    intro i hi; simp only [List.mem_cons, List.not_mem_nil, or_false] at hi; rcases hi with rfl | rfl
                    · refine ⟨_, [true, true, true, true, true, true, true, true, true, true, true, true, true, false, false].toArray, rfl, rfl, ?_⟩
                      refine s_b2s hm rfl Try.underlying25 Try.underlying5 Try.underlying9 rfl (hr_228.rd (J := hp w_246) (hS.own 10) (Mem.no_le _)) (Mem.le.refl _) ?_
                      clear hm a; intro a hm
                      refine wpList_nil ?_
                      refine x_then_n ⟨(hS.sub (.cons (le_226.trans le_248) (.cons (Mem.no_le _) (.cons (Mem.no_le _) (.cons (Mem.no_le _) (.cons (Mem.no_le _) (.cons (Mem.no_le _) (.cons (Mem.no_le _) (.cons (Mem.le.refl _) (.cons (Mem.no_le _) (.cons (Mem.no_le _) (Sub.nil _)))))))))))), ?_⟩
                      refine h_event 13 [true, true, true, true, true, true, true, true, true, true, true, true, true, true, false].toArray rfl (by kernel_rfl) rfl ?_
                      refine s_b2s hm rfl Try.underlying25 Try.underlying5 Try.underlying9 rfl (hr_250.rd (J := hp w_246) (hS.own 11) (Mem.no_le _)) (Mem.le.refl _) ?_
                      clear hm a; intro a hm
                      refine wpList_nil ?_
                      refine x_then_n ⟨(hS.sub (.cons (le_226.trans le_248) (.cons (Mem.no_le _) (.cons (Mem.no_le _) (.cons (Mem.no_le _) (.cons (Mem.no_le _) (.cons (Mem.no_le _) (.cons (Mem.no_le _) (.cons (Mem.le.refl _) (.cons (Mem.no_le _) (.cons (Mem.no_le _) (Sub.nil _)))))))))))), ?_⟩
                      refine h_take 14 [true, true, true, true, true, true, true, true, true, true, true, true, true, true, true].toArray rfl (by kernel_rfl) (by kernel_rfl) (by kernel_rfl) (fun _ _ _ _ h => h) rfl rfl rfl rfl hm (hS.sub (.cons (le_226.trans le_248) (.cons (Mem.no_le _) (.cons (Mem.no_le _) (.cons (Mem.no_le _) (.cons (Mem.no_le _) (.cons (Mem.no_le _) (.cons (Mem.no_le _) (.cons (Mem.le.refl _) (.cons (Mem.no_le _) (.cons (Mem.no_le _) (Sub.nil _)))))))))))) (v := .bool (!(t_223.1 == t_233.1))) (fun w hS => r_strEq (b := !(t_223.1 == t_233.1)) hm rfl rfl (.inr ⟨rfl, rfl⟩)) ?_
                      clear hm a; intro a hm
                      refine h_done (by kernel_rfl) ?_
                      replace hm : Fr 187 a [(2, p2_2), (3, p3_3), (12, .bool false), (20, .pointer (some ⟨g_114, 0, none⟩)), (21, .pointer (some ⟨g_118, 0, none⟩)), (22, .int .i64 x_125), (107, v_84), (108, .int .i64 (([x0, x_21, x_49, t_60, t_75] : List (List UInt8)).length : Int)), (109, .int .i64 x_97), (156, .bool (!(t_223.1 == t_233.1)))] := hm.keep [2, 3, 12, 20, 21, 22, 107, 108, 109, 156]
                      refine x_then_n (hKJ_211 _ _ ?_)
                      by_cases hc_256 : t_223.1 = t_233.1
                      · rw [if_pos hc_256] at H
                        refine c_cond_f hm rfl (nf (beq_iff_eq.2 hc_256)) ?_
                        refine wp_skip ?_
                        replace hS : Sep w0 w_246 [N_248, Mem.no, Mem.no, Mem.no, Mem.no, Mem.no, Mem.no, M_85, Mem.one g_114 (.cells ([v_231, .bool t_223.2.2] : List Value).toArray 66 (0, 0)), Mem.one g_118 (.cells ([v_253, .bool t_233.2.2] : List Value).toArray 58 (0, 0)), M_229, M_251] Z := hS
                        replace hm : Fr 187 a [(2, p2_2), (3, p3_3), (12, .bool false), (20, .pointer (some ⟨g_114, 0, none⟩)), (21, .pointer (some ⟨g_118, 0, none⟩)), (22, .int .i64 x_125), (107, v_84), (108, .int .i64 (([x0, x_21, x_49, t_60, t_75] : List (List UInt8)).length : Int)), (109, .int .i64 x_97)] := hm.keep [2, 3, 12, 20, 21, 22, 107, 108, 109]
                        exact x_then_n (hJ_j_156 (⟨t_223.2.1, t_223.2.2⟩ : pack_Reader) (⟨t_233.2.1, t_233.2.2⟩ : hocketref1_Reader) H _ _ ⟨v_231, v_253, N_248, hm, (Sep.sel hS [0, 1000, 1001, 1002, 1003, 1004, 1005, 7, 8, 9] (by decide)), (le_226.trans le_248), ((hr_232.mono (Mem.un_le le_226 ln_226)).mono le_248), hr_255⟩)
                      · rw [if_neg hc_256] at H
                        cases H
                    · refine ⟨_, [true, true, true, true, true, true, false, true, true, true, true, true, true, true, false].toArray, rfl, rfl, ?_⟩
                      refine s_b2s hm rfl Try.underlying25 Try.underlying5 Try.underlying9 rfl (hr_250.rd (J := hp w_246) (hS.own 11) (Mem.no_le _)) (Mem.le.refl _) ?_
                      clear hm a; intro a hm
                      refine wpList_nil ?_
                      refine x_then_n ⟨(hS.sub (.cons (le_226.trans le_248) (.cons (Mem.no_le _) (.cons (Mem.no_le _) (.cons (Mem.no_le _) (.cons (Mem.no_le _) (.cons (Mem.no_le _) (.cons (Mem.no_le _) (.cons (Mem.le.refl _) (.cons (Mem.no_le _) (.cons (Mem.no_le _) (Sub.nil _)))))))))))), ?_⟩
                      refine h_event 6 [true, true, true, true, true, true, true, true, true, true, true, true, true, true, false].toArray rfl (by kernel_rfl) rfl ?_
                      refine s_b2s hm rfl Try.underlying25 Try.underlying5 Try.underlying9 rfl (hr_228.rd (J := hp w_246) (hS.own 10) (Mem.no_le _)) (Mem.le.refl _) ?_
                      clear hm a; intro a hm
                      refine wpList_nil ?_
                      refine x_then_n ⟨(hS.sub (.cons (le_226.trans le_248) (.cons (Mem.no_le _) (.cons (Mem.no_le _) (.cons (Mem.no_le _) (.cons (Mem.no_le _) (.cons (Mem.no_le _) (.cons (Mem.no_le _) (.cons (Mem.le.refl _) (.cons (Mem.no_le _) (.cons (Mem.no_le _) (Sub.nil _)))))))))))), ?_⟩
                      refine h_take 14 [true, true, true, true, true, true, true, true, true, true, true, true, true, true, true].toArray rfl (by kernel_rfl) (by kernel_rfl) (by kernel_rfl) (fun _ _ _ _ h => h) rfl rfl rfl rfl hm (hS.sub (.cons (le_226.trans le_248) (.cons (Mem.no_le _) (.cons (Mem.no_le _) (.cons (Mem.no_le _) (.cons (Mem.no_le _) (.cons (Mem.no_le _) (.cons (Mem.no_le _) (.cons (Mem.le.refl _) (.cons (Mem.no_le _) (.cons (Mem.no_le _) (Sub.nil _)))))))))))) (v := .bool (!(t_223.1 == t_233.1))) (fun w hS => r_strEq (b := !(t_223.1 == t_233.1)) hm rfl rfl (.inr ⟨rfl, rfl⟩)) ?_
                      clear hm a; intro a hm
                      refine h_done (by kernel_rfl) ?_
                      replace hm : Fr 187 a [(2, p2_2), (3, p3_3), (12, .bool false), (20, .pointer (some ⟨g_114, 0, none⟩)), (21, .pointer (some ⟨g_118, 0, none⟩)), (22, .int .i64 x_125), (107, v_84), (108, .int .i64 (([x0, x_21, x_49, t_60, t_75] : List (List UInt8)).length : Int)), (109, .int .i64 x_97), (156, .bool (!(t_223.1 == t_233.1)))] := hm.keep [2, 3, 12, 20, 21, 22, 107, 108, 109, 156]
                      refine x_then_n (hKJ_211 _ _ ?_)
                      by_cases hc_257 : t_223.1 = t_233.1
                      · rw [if_pos hc_257] at H
                        refine c_cond_f hm rfl (nf (beq_iff_eq.2 hc_257)) ?_
                        refine wp_skip ?_
                        replace hS : Sep w0 w_246 [N_248, Mem.no, Mem.no, Mem.no, Mem.no, Mem.no, Mem.no, M_85, Mem.one g_114 (.cells ([v_231, .bool t_223.2.2] : List Value).toArray 66 (0, 0)), Mem.one g_118 (.cells ([v_253, .bool t_233.2.2] : List Value).toArray 58 (0, 0)), M_229, M_251] Z := hS
                        replace hm : Fr 187 a [(2, p2_2), (3, p3_3), (12, .bool false), (20, .pointer (some ⟨g_114, 0, none⟩)), (21, .pointer (some ⟨g_118, 0, none⟩)), (22, .int .i64 x_125), (107, v_84), (108, .int .i64 (([x0, x_21, x_49, t_60, t_75] : List (List UInt8)).length : Int)), (109, .int .i64 x_97)] := hm.keep [2, 3, 12, 20, 21, 22, 107, 108, 109]
                        exact x_then_n (hJ_j_156 (⟨t_223.2.1, t_223.2.2⟩ : pack_Reader) (⟨t_233.2.1, t_233.2.2⟩ : hocketref1_Reader) H _ _ ⟨v_231, v_253, N_248, hm, (Sep.sel hS [0, 1000, 1001, 1002, 1003, 1004, 1005, 7, 8, 9] (by decide)), (le_226.trans le_248), ((hr_232.mono (Mem.un_le le_226 ln_226)).mono le_248), hr_255⟩)
                      · rw [if_neg hc_257] at H
                        cases H
                · rw [if_neg hc_210] at H
                  refine c_cond_f hm rfl (beq_eq_false_iff_ne.2 hc_210) ?_
                  refine c_seq fun KJ_258 hKJ_258 => ?_
                  refine h_begin (S := fun w => Sep w0 w [N_136, Mem.no, Mem.no, Mem.no, Mem.no, Mem.no, Mem.no, M_85, Mem.no, Mem.no] Z) 13 (by kernel_rfl) rfl [false, false, false, false, false, false, false, false, false, false, false, false, false].toArray rfl hS fun w_259 hS => ?_
                  replace hS : Sep w0 w_259 [N_136, Mem.no, Mem.no, Mem.no, Mem.no, Mem.no, Mem.no, M_85, Mem.one g_114 (.cells ([v_127, .bool x_126.bad] : List Value).toArray 66 (0, 0)), Mem.one g_118 (.cells ([v_130, .bool x_129.Bad] : List Value).toArray 58 (0, 0))] Z := hS
                  refine h_take 0 [true, false, false, false, false, false, false, false, false, false, false, false, false].toArray rfl (by kernel_rfl) (by kernel_rfl) (by kernel_rfl) (fun _ _ _ _ h => h) rfl rfl rfl rfl hm (hS.sub (.cons (Mem.le.refl _) (.cons (Mem.no_le _) (.cons (Mem.no_le _) (.cons (Mem.no_le _) (.cons (Mem.no_le _) (.cons (Mem.no_le _) (.cons (Mem.no_le _) (.cons (Mem.le.refl _) (.cons (Mem.no_le _) (.cons (Mem.no_le _) (Sub.nil _)))))))))))) (v := .pointer (some ⟨g_114, 0, none⟩)) (fun w hS => r_move hm rfl) ?_
                  clear hm a; intro a hm
                  refine h_take 1 [true, true, false, false, false, false, false, false, false, false, false, false, false].toArray rfl (by kernel_rfl) (by kernel_rfl) (by kernel_rfl) (fun _ _ _ _ h => h) rfl rfl rfl rfl hm (hS.sub (.cons (Mem.le.refl _) (.cons (Mem.no_le _) (.cons (Mem.no_le _) (.cons (Mem.no_le _) (.cons (Mem.no_le _) (.cons (Mem.no_le _) (.cons (Mem.no_le _) (.cons (Mem.le.refl _) (.cons (Mem.no_le _) (.cons (Mem.no_le _) (Sub.nil _)))))))))))) (v := p3_3) (fun w hS => r_move hm rfl) ?_
                  clear hm a; intro a hm
                  refine h_take 2 [true, true, true, false, false, false, false, false, false, false, false, false, false].toArray rfl (by kernel_rfl) (by kernel_rfl) (by kernel_rfl) (fun _ _ _ _ h => h) rfl rfl rfl rfl hm (hS.sub (.cons (Mem.le.refl _) (.cons (Mem.no_le _) (.cons (Mem.no_le _) (.cons (Mem.no_le _) (.cons (Mem.no_le _) (.cons (Mem.no_le _) (.cons (Mem.no_le _) (.cons (Mem.le.refl _) (.cons (Mem.no_le _) (.cons (Mem.no_le _) (Sub.nil _)))))))))))) (v := .int .i64 x_125) (fun w hS => r_move hm rfl) ?_
                  clear hm a; intro a hm
                  obtain ⟨t_260, et_260, H⟩ := Option.bind_eq_some_iff.1 H
                  refine h_takeE 3 [true, true, true, true, false, false, false, false, false, false, false, false, false].toArray rfl (by kernel_rfl) (by kernel_rfl) (by kernel_rfl) (fun _ _ _ _ h => h) rfl rfl rfl rfl hm (hS.sub (.cons (Mem.le.refl _) (.cons (Mem.no_le _) (.cons (Mem.no_le _) (.cons (Mem.no_le _) (.cons (Mem.no_le _) (.cons (Mem.no_le _) (.cons (Mem.no_le _) (.cons (Mem.le.refl _) (.cons (Mem.no_le _) (.cons (Mem.no_le _) (Sub.nil _)))))))))))) (f := fun ad => .pointer (some ad)) (r_index hm Try.underlying44 ti3 rfl rfl rfl hp3_3 et_260) ?_
                  rintro ad_261 ⟨cs_262, hk_263, hc_264⟩
                  obtain rfl := (show cs_262 = [.int .i64 t_260] from hk_263)
                  clear hm a; intro a hm
                  refine h_take 4 [true, true, true, true, true, false, false, false, false, false, false, false, false].toArray rfl (by kernel_rfl) (by kernel_rfl) (by kernel_rfl) (fun _ _ _ _ h => h) rfl rfl rfl rfl hm (hS.sub (.cons (Mem.le.refl _) (.cons (Mem.no_le _) (.cons (Mem.no_le _) (.cons (Mem.no_le _) (.cons (Mem.no_le _) (.cons (Mem.no_le _) (.cons (Mem.no_le _) (.cons (Mem.le.refl _) (.cons (Mem.no_le _) (.cons (Mem.no_le _) (Sub.nil _)))))))))))) (v := .int .i64 t_260) (fun w hS => r_load hm rfl (el_one (o := 0) (fun j c h => Mem.cell_le (hA.trans hS.old) (hc_264 j c h)) Try.underlying3 rfl rfl)) ?_
                  clear hm a; intro a hm
                  refine h_take 6 [true, true, true, true, true, false, true, false, false, false, false, false, false].toArray rfl (by kernel_rfl) (by kernel_rfl) (by kernel_rfl) (fun _ _ _ _ h => h) rfl rfl rfl rfl hm (hS.sub (.cons (Mem.le.refl _) (.cons (Mem.no_le _) (.cons (Mem.no_le _) (.cons (Mem.no_le _) (.cons (Mem.no_le _) (.cons (Mem.no_le _) (.cons (Mem.no_le _) (.cons (Mem.le.refl _) (.cons (Mem.no_le _) (.cons (Mem.no_le _) (Sub.nil _)))))))))))) (v := .pointer (some ⟨g_118, 0, none⟩)) (fun w hS => r_move hm rfl) ?_
                  clear hm a; intro a hm
                  refine h_take 7 [true, true, true, true, true, false, true, true, false, false, false, false, false].toArray rfl (by kernel_rfl) (by kernel_rfl) (by kernel_rfl) (fun _ _ _ _ h => h) rfl rfl rfl rfl hm (hS.sub (.cons (Mem.le.refl _) (.cons (Mem.no_le _) (.cons (Mem.no_le _) (.cons (Mem.no_le _) (.cons (Mem.no_le _) (.cons (Mem.no_le _) (.cons (Mem.no_le _) (.cons (Mem.le.refl _) (.cons (Mem.no_le _) (.cons (Mem.no_le _) (Sub.nil _)))))))))))) (v := p3_3) (fun w hS => r_move hm rfl) ?_
                  clear hm a; intro a hm
                  refine h_take 8 [true, true, true, true, true, false, true, true, true, false, false, false, false].toArray rfl (by kernel_rfl) (by kernel_rfl) (by kernel_rfl) (fun _ _ _ _ h => h) rfl rfl rfl rfl hm (hS.sub (.cons (Mem.le.refl _) (.cons (Mem.no_le _) (.cons (Mem.no_le _) (.cons (Mem.no_le _) (.cons (Mem.no_le _) (.cons (Mem.no_le _) (.cons (Mem.no_le _) (.cons (Mem.le.refl _) (.cons (Mem.no_le _) (.cons (Mem.no_le _) (Sub.nil _)))))))))))) (v := .int .i64 x_125) (fun w hS => r_move hm rfl) ?_
                  clear hm a; intro a hm
                  obtain ⟨t_265, et_265, H⟩ := Option.bind_eq_some_iff.1 H
                  refine h_takeE 9 [true, true, true, true, true, false, true, true, true, true, false, false, false].toArray rfl (by kernel_rfl) (by kernel_rfl) (by kernel_rfl) (fun _ _ _ _ h => h) rfl rfl rfl rfl hm (hS.sub (.cons (Mem.le.refl _) (.cons (Mem.no_le _) (.cons (Mem.no_le _) (.cons (Mem.no_le _) (.cons (Mem.no_le _) (.cons (Mem.no_le _) (.cons (Mem.no_le _) (.cons (Mem.le.refl _) (.cons (Mem.no_le _) (.cons (Mem.no_le _) (Sub.nil _)))))))))))) (f := fun ad => .pointer (some ad)) (r_index hm Try.underlying44 ti3 rfl rfl rfl hp3_3 et_265) ?_
                  rintro ad_266 ⟨cs_267, hk_268, hc_269⟩
                  obtain rfl := (show cs_267 = [.int .i64 t_265] from hk_268)
                  clear hm a; intro a hm
                  refine h_take 10 [true, true, true, true, true, false, true, true, true, true, true, false, false].toArray rfl (by kernel_rfl) (by kernel_rfl) (by kernel_rfl) (fun _ _ _ _ h => h) rfl rfl rfl rfl hm (hS.sub (.cons (Mem.le.refl _) (.cons (Mem.no_le _) (.cons (Mem.no_le _) (.cons (Mem.no_le _) (.cons (Mem.no_le _) (.cons (Mem.no_le _) (.cons (Mem.no_le _) (.cons (Mem.le.refl _) (.cons (Mem.no_le _) (.cons (Mem.no_le _) (Sub.nil _)))))))))))) (v := .int .i64 t_265) (fun w hS => r_load hm rfl (el_one (o := 0) (fun j c h => Mem.cell_le (hA.trans hS.old) (hc_269 j c h)) Try.underlying3 rfl rfl)) ?_
                  clear hm a; intro a hm
                  refine h_event 5 [true, true, true, true, true, true, true, true, true, true, true, false, false].toArray rfl (by kernel_rfl) rfl ?_
                  obtain ⟨t_270, et_270, H⟩ := Option.bind_eq_some_iff.1 H
                  refine s_call hm rfl Try.call29 rfl (pack_Reader_Num.calls K _ x_126.b _ x_126.bad t_260 t_270 w0 _ _ N_136 (hS.new_zed [7]) (hS.enter [7] (by decide)) (hr_128.mono le_136) et_270) ?_
                  rintro _ w_271 ⟨v_274, N_272, rfl, hS', hr_275⟩
                  clear hm a; intro a hm
                  obtain ⟨N_273, hS'', le_273, ln_273⟩ := hS.call [7] (by decide) rfl (l' := [Mem.one g_114 (.cells ([v_274, .bool t_270.2.2] : List Value).toArray 66 (0, 0))]) (ow := []) rfl hS'
                  replace hS : Sep w0 w_271 [N_273, Mem.no, Mem.no, Mem.no, Mem.no, Mem.no, Mem.no, M_85, Mem.one g_114 (.cells ([v_274, .bool t_270.2.2] : List Value).toArray 66 (0, 0)), Mem.one g_118 (.cells ([v_130, .bool x_129.Bad] : List Value).toArray 58 (0, 0))] Z := hS''
                  clear hS' hS''
                  refine wpList_nil ?_
                  refine x_then_n ⟨(hS.sub (.cons le_273 (.cons (Mem.no_le _) (.cons (Mem.no_le _) (.cons (Mem.no_le _) (.cons (Mem.no_le _) (.cons (Mem.no_le _) (.cons (Mem.no_le _) (.cons (Mem.le.refl _) (.cons (Mem.no_le _) (.cons (Mem.no_le _) (Sub.nil _)))))))))))), ?_⟩
                  refine h_event 11 [true, true, true, true, true, true, true, true, true, true, true, true, false].toArray rfl (by kernel_rfl) rfl ?_
                  obtain ⟨t_276, et_276, H⟩ := Option.bind_eq_some_iff.1 H
                  refine s_call hm rfl Try.call39 rfl (hocketref1_Reader_Num.calls K _ x_129.B _ x_129.Bad t_265 t_276 w0 _ _ (A.un N_273) (Mem.un_le (hA.trans (hS.le_zed [8])) (hS.new_zed [8])) (hS.enter [8] (by decide)) (hr_131.mono (Mem.un_left (le_136.trans le_273))) et_276) ?_
                  rintro _ w_277 ⟨v_280, N_278, rfl, hS', hr_281⟩
                  clear hm a; intro a hm
                  obtain ⟨N_279, hS'', le_279, ln_279⟩ := hS.call [8] (by decide) rfl (l' := [Mem.one g_118 (.cells ([v_280, .bool t_276.2.2] : List Value).toArray 58 (0, 0))]) (ow := []) rfl hS'
                  replace hS : Sep w0 w_277 [N_279, Mem.no, Mem.no, Mem.no, Mem.no, Mem.no, Mem.no, M_85, Mem.one g_114 (.cells ([v_274, .bool t_270.2.2] : List Value).toArray 66 (0, 0)), Mem.one g_118 (.cells ([v_280, .bool t_276.2.2] : List Value).toArray 58 (0, 0))] Z := hS''
                  clear hS' hS''
                  have hr_282 : Rd Kd.u8 (A.un N_279) v_280 t_276.2.1 := hr_281.mono (Mem.un_le (Mem.un_left le_279) (ln_279.trans (hS.sndA hA)))
                  refine wpList_nil ?_
                  refine x_then_n ⟨(hS.sub (.cons (le_273.trans le_279) (.cons (Mem.no_le _) (.cons (Mem.no_le _) (.cons (Mem.no_le _) (.cons (Mem.no_le _) (.cons (Mem.no_le _) (.cons (Mem.no_le _) (.cons (Mem.le.refl _) (.cons (Mem.no_le _) (.cons (Mem.no_le _) (Sub.nil _)))))))))))), ?_⟩
                  refine h_take 12 [true, true, true, true, true, true, true, true, true, true, true, true, true].toArray rfl (by kernel_rfl) (by kernel_rfl) (by kernel_rfl) (fun _ _ _ _ h => h) rfl rfl rfl rfl hm (hS.sub (.cons (le_273.trans le_279) (.cons (Mem.no_le _) (.cons (Mem.no_le _) (.cons (Mem.no_le _) (.cons (Mem.no_le _) (.cons (Mem.no_le _) (.cons (Mem.no_le _) (.cons (Mem.le.refl _) (.cons (Mem.no_le _) (.cons (Mem.no_le _) (Sub.nil _)))))))))))) (v := .bool (t_270.1 != t_276.1)) (fun w hS => r_cmp (b := (t_270.1 != t_276.1)) hm rfl rfl (.inr (.inl ⟨rfl, rfl⟩))) ?_
                  clear hm a; intro a hm
                  refine h_done (by kernel_rfl) ?_
                  replace hm : Fr 187 a [(2, p2_2), (3, p3_3), (12, .bool false), (20, .pointer (some ⟨g_114, 0, none⟩)), (21, .pointer (some ⟨g_118, 0, none⟩)), (22, .int .i64 x_125), (107, v_84), (108, .int .i64 (([x0, x_21, x_49, t_60, t_75] : List (List UInt8)).length : Int)), (109, .int .i64 x_97), (169, .bool (t_270.1 != t_276.1))] := hm.keep [2, 3, 12, 20, 21, 22, 107, 108, 109, 169]
                  refine x_then_n (hKJ_258 _ _ ?_)
                  by_cases hc_283 : t_270.1 = t_276.1
                  · rw [if_pos hc_283] at H
                    refine c_cond_f hm rfl (bne_eq_false_iff_eq.2 hc_283) ?_
                    refine wp_skip ?_
                    replace hS : Sep w0 w_277 [N_279, Mem.no, Mem.no, Mem.no, Mem.no, Mem.no, Mem.no, M_85, Mem.one g_114 (.cells ([v_274, .bool t_270.2.2] : List Value).toArray 66 (0, 0)), Mem.one g_118 (.cells ([v_280, .bool t_276.2.2] : List Value).toArray 58 (0, 0))] Z := hS
                    replace hm : Fr 187 a [(2, p2_2), (3, p3_3), (12, .bool false), (20, .pointer (some ⟨g_114, 0, none⟩)), (21, .pointer (some ⟨g_118, 0, none⟩)), (22, .int .i64 x_125), (107, v_84), (108, .int .i64 (([x0, x_21, x_49, t_60, t_75] : List (List UInt8)).length : Int)), (109, .int .i64 x_97)] := hm.keep [2, 3, 12, 20, 21, 22, 107, 108, 109]
                    exact x_then_n (hJ_j_156 (⟨t_270.2.1, t_270.2.2⟩ : pack_Reader) (⟨t_276.2.1, t_276.2.2⟩ : hocketref1_Reader) H _ _ ⟨v_274, v_280, N_279, hm, (Sep.sel hS [0, 1000, 1001, 1002, 1003, 1004, 1005, 7, 8, 9] (by decide)), (le_273.trans le_279), ((hr_275.mono (Mem.un_le le_273 ln_273)).mono le_279), hr_282⟩)
                  · rw [if_neg hc_283] at H
                    cases H
              · rw [if_neg hc_140] at H
                refine c_cond_f hm rfl (Bool.eq_false_iff.2 hc_140) ?_
                refine wp_exit (x_then_x (x_then_x (x_block_t ?_)))
                replace hS : Sep w0 w_138 [N_136, Mem.no, Mem.no, Mem.no, Mem.no, Mem.no, Mem.no, M_85, Mem.one g_114 (.cells ([v_127, .bool x_126.bad] : List Value).toArray 66 (0, 0)), Mem.one g_118 (.cells ([v_130, .bool x_129.Bad] : List Value).toArray 58 (0, 0))] Z := hS
                replace hm : Fr 187 a [(2, p2_2), (3, p3_3), (12, .bool false), (107, v_84), (108, .int .i64 (([x0, x_21, x_49, t_60, t_75] : List (List UInt8)).length : Int)), (109, .int .i64 x_97)] := hm.keep [2, 3, 12, 107, 108, 109]
                exact x_then_n (hJ_j_123  H _ _ ⟨N_136, hm, (Sep.sel hS [0, 1000, 1001, 1002, 1003, 1004, 1005, 7, 1007, 1008] (by decide)), (le_124.trans le_136)⟩)
            clear hKJ_135
            refine wp_region_lit ?_
            refine s_move hm rfl rfl ?_
            clear hm a; intro a hm
            refine s_move hm rfl rfl ?_
            clear hm a; intro a hm
            refine s_len hm rfl Try.underlying44 rfl hp2_2 ?_
            clear hm a; intro a hm
            refine s_cmp (b := decide (x_125 < (x2.length : Int))) hm rfl rfl rfl (.inr (.inr (.inl ⟨rfl, rfl⟩))) ?_
            clear hm a; intro a hm
            refine s_move hm rfl rfl ?_
            clear hm a; intro a hm
            by_cases hc_284 : x_125 < (x2.length : Int)
            · rw [if_pos hc_284] at H
              refine s_on hm rfl rfl (decide_eq_true hc_284) ?_
              refine s_move hm rfl rfl ?_
              clear hm a; intro a hm
              refine s_on hm rfl rfl (decide_eq_true hc_284) ?_
              refine s_move hm rfl rfl ?_
              clear hm a; intro a hm
              refine s_on hm rfl rfl (decide_eq_true hc_284) ?_
              refine s_len hm rfl Try.underlying44 rfl hp3_3 ?_
              clear hm a; intro a hm
              refine s_on hm rfl rfl (decide_eq_true hc_284) ?_
              refine s_cmp (b := decide (x_125 < (x3.length : Int))) hm rfl rfl rfl (.inr (.inr (.inl ⟨rfl, rfl⟩))) ?_
              clear hm a; intro a hm
              refine s_pick_t hm rfl rfl (decide_eq_true hc_284) rfl ?_
              clear hm a; intro a hm
              refine s_move hm rfl rfl ?_
              clear hm a; intro a hm
              by_cases hc_285 : x_125 < (x3.length : Int)
              · rw [if_pos hc_285] at H
                refine s_on hm rfl rfl (decide_eq_true hc_285) ?_
                refine s_move hm rfl rfl ?_
                clear hm a; intro a hm
                refine s_on hm rfl rfl (decide_eq_true hc_285) ?_
                refine s_cmp (b := decide (x_125 < 20)) hm rfl rfl rfl (.inr (.inr (.inl ⟨rfl, rfl⟩))) ?_
                clear hm a; intro a hm
                refine s_pick_t hm rfl rfl (decide_eq_true hc_285) rfl ?_
                clear hm a; intro a hm
                refine wpList_nil ?_
                replace hm : Fr 187 a [(2, p2_2), (3, p3_3), (12, .bool false), (20, .pointer (some ⟨g_114, 0, none⟩)), (21, .pointer (some ⟨g_118, 0, none⟩)), (22, .int .i64 x_125), (107, v_84), (108, .int .i64 (([x0, x_21, x_49, t_60, t_75] : List (List UInt8)).length : Int)), (109, .int .i64 x_97), (133, .bool (decide (x_125 < 20)))] := hm.keep [2, 3, 12, 20, 21, 22, 107, 108, 109, 133]
                replace hS : Sep w0 w_132 [N_124, Mem.no, Mem.no, Mem.no, Mem.no, Mem.no, Mem.no, M_85, Mem.one g_114 (.cells ([v_127, .bool x_126.bad] : List Value).toArray 66 (0, 0)), Mem.one g_118 (.cells ([v_130, .bool x_129.Bad] : List Value).toArray 58 (0, 0))] Z := hS
                replace hm : Fr 187 a [(2, p2_2), (3, p3_3), (12, .bool false), (20, .pointer (some ⟨g_114, 0, none⟩)), (21, .pointer (some ⟨g_118, 0, none⟩)), (22, .int .i64 x_125), (107, v_84), (108, .int .i64 (([x0, x_21, x_49, t_60, t_75] : List (List UInt8)).length : Int)), (109, .int .i64 x_97), (133, .bool (decide (x_125 < 20)))] := hm.keep [2, 3, 12, 20, 21, 22, 107, 108, 109, 133]
                exact x_then_n (hJ_j_139 (decide (x_125 < 20)) H _ _ ⟨N_124, hm, (Sep.sel hS [0, 1000, 1001, 1002, 1003, 1004, 1005, 7, 8, 9] (by decide)), (Mem.le.refl _)⟩)
              · rw [if_neg hc_285] at H
                refine s_off hm rfl rfl rfl (decide_eq_false hc_285) ?_
                clear hm a; intro a hm
                refine s_off hm rfl rfl rfl (decide_eq_false hc_285) ?_
                clear hm a; intro a hm
                refine s_pick_f hm rfl rfl (decide_eq_false hc_285) rfl ?_
                clear hm a; intro a hm
                refine wpList_nil ?_
                replace hm : Fr 187 a [(2, p2_2), (3, p3_3), (12, .bool false), (20, .pointer (some ⟨g_114, 0, none⟩)), (21, .pointer (some ⟨g_118, 0, none⟩)), (22, .int .i64 x_125), (107, v_84), (108, .int .i64 (([x0, x_21, x_49, t_60, t_75] : List (List UInt8)).length : Int)), (109, .int .i64 x_97), (133, .bool false)] := hm.keep [2, 3, 12, 20, 21, 22, 107, 108, 109, 133]
                replace hS : Sep w0 w_132 [N_124, Mem.no, Mem.no, Mem.no, Mem.no, Mem.no, Mem.no, M_85, Mem.one g_114 (.cells ([v_127, .bool x_126.bad] : List Value).toArray 66 (0, 0)), Mem.one g_118 (.cells ([v_130, .bool x_129.Bad] : List Value).toArray 58 (0, 0))] Z := hS
                replace hm : Fr 187 a [(2, p2_2), (3, p3_3), (12, .bool false), (20, .pointer (some ⟨g_114, 0, none⟩)), (21, .pointer (some ⟨g_118, 0, none⟩)), (22, .int .i64 x_125), (107, v_84), (108, .int .i64 (([x0, x_21, x_49, t_60, t_75] : List (List UInt8)).length : Int)), (109, .int .i64 x_97), (133, .bool false)] := hm.keep [2, 3, 12, 20, 21, 22, 107, 108, 109, 133]
                exact x_then_n (hJ_j_139 false H _ _ ⟨N_124, hm, (Sep.sel hS [0, 1000, 1001, 1002, 1003, 1004, 1005, 7, 8, 9] (by decide)), (Mem.le.refl _)⟩)
            · rw [if_neg hc_284] at H
              refine s_off hm rfl rfl rfl (decide_eq_false hc_284) ?_
              clear hm a; intro a hm
              refine s_off hm rfl rfl rfl (decide_eq_false hc_284) ?_
              clear hm a; intro a hm
              refine s_off hm rfl rfl rfl (decide_eq_false hc_284) ?_
              clear hm a; intro a hm
              refine s_off hm rfl rfl rfl (decide_eq_false hc_284) ?_
              clear hm a; intro a hm
              refine s_pick_f hm rfl rfl (decide_eq_false hc_284) rfl ?_
              clear hm a; intro a hm
              refine s_move hm rfl rfl ?_
              clear hm a; intro a hm
              refine s_off hm rfl rfl rfl rfl ?_
              clear hm a; intro a hm
              refine s_off hm rfl rfl rfl rfl ?_
              clear hm a; intro a hm
              refine s_pick_f hm rfl rfl rfl rfl ?_
              clear hm a; intro a hm
              refine wpList_nil ?_
              replace hm : Fr 187 a [(2, p2_2), (3, p3_3), (12, .bool false), (20, .pointer (some ⟨g_114, 0, none⟩)), (21, .pointer (some ⟨g_118, 0, none⟩)), (22, .int .i64 x_125), (107, v_84), (108, .int .i64 (([x0, x_21, x_49, t_60, t_75] : List (List UInt8)).length : Int)), (109, .int .i64 x_97), (133, .bool false)] := hm.keep [2, 3, 12, 20, 21, 22, 107, 108, 109, 133]
              replace hS : Sep w0 w_132 [N_124, Mem.no, Mem.no, Mem.no, Mem.no, Mem.no, Mem.no, M_85, Mem.one g_114 (.cells ([v_127, .bool x_126.bad] : List Value).toArray 66 (0, 0)), Mem.one g_118 (.cells ([v_130, .bool x_129.Bad] : List Value).toArray 58 (0, 0))] Z := hS
              replace hm : Fr 187 a [(2, p2_2), (3, p3_3), (12, .bool false), (20, .pointer (some ⟨g_114, 0, none⟩)), (21, .pointer (some ⟨g_118, 0, none⟩)), (22, .int .i64 x_125), (107, v_84), (108, .int .i64 (([x0, x_21, x_49, t_60, t_75] : List (List UInt8)).length : Int)), (109, .int .i64 x_97), (133, .bool false)] := hm.keep [2, 3, 12, 20, 21, 22, 107, 108, 109, 133]
              exact x_then_n (hJ_j_139 false H _ _ ⟨N_124, hm, (Sep.sel hS [0, 1000, 1001, 1002, 1003, 1004, 1005, 7, 8, 9] (by decide)), (Mem.le.refl _)⟩)
          · rw [if_neg hc_101] at H
            refine c_cond_f hm rfl (decide_eq_false hc_101) ?_
            refine wp_exit (x_then_x (x_then_x (x_block_t ?_)))
            replace hS : Sep w0 w_98 [N_96, Mem.no, Mem.no, Mem.no, Mem.no, Mem.no, Mem.no, M_85] Z := hS
            replace hm : Fr 187 a [(12, .bool false)] := hm.keep [12]
            exact x_then_n (hJ_j_91  H _ _ ⟨N_96, hm, (Sep.sel hS [0, 1000, 1001, 1002, 1003, 1004, 1005, 1006] (by decide)), le_96⟩)
        clear hKJ_47
        by_cases hc_286 : (t_41.length : Int) > 0
        · rw [if_pos hc_286] at H
          refine c_cond_t hm rfl (decide_eq_true hc_286) ?_
          refine wp_region_lit ?_
          refine s_move hm rfl rfl ?_
          clear hm a; intro a hm
          refine s_move hm rfl rfl ?_
          clear hm a; intro a hm
          refine s_bits (i := x4) (j := 65535) (r := band .i64 x4 65535) hm rfl rfl rfl (.inl ⟨rfl, rfl⟩) ?_
          clear hm a; intro a hm
          refine s_move hm rfl rfl ?_
          clear hm a; intro a hm
          refine s_lenO hm rfl Try.underlying25 rfl ho_45 ?_
          clear hm a; intro a hm
          obtain ⟨t_287, et_287, H⟩ := Option.bind_eq_some_iff.1 H
          refine s_div (r := t_287) hm rfl rfl rfl (rem_some et_287).1 (.inr ⟨rfl, (rem_some et_287).2⟩) ?_
          clear hm a; intro a hm
          refine s_move hm rfl rfl ?_
          clear hm a; intro a hm
          obtain ⟨t_288, et_288, H⟩ := Option.bind_eq_some_iff.1 H
          refine s_indexOwn hm rfl Try.underlying25 ti5 rfl rfl rfl ho_45 et_288 ?_
          intro g_289 cur_290 hM_291
          clear hm a; intro a hm
          obtain ⟨w_292, M_293, hs', hS', ho_294⟩ := Own.stored (P := Try.prog) (p := 5) (t := 5) (o := 0) (nv := .int .u8 (x5.toNat : Int)) (vs := [.int .u8 (x5.toNat : Int)]) (u' := x5) hS rfl ho_45 hM_291 et_288 ti5 rfl rfl rfl (by intro u hu; simp only [List.mem_cons, List.not_mem_nil, or_false] at hu; rcases hu with rfl <;> rfl) (fun cs hk => by obtain rfl := (show cs = [_] from hk); rfl)
          refine s_store hm rfl rfl hs' ?_
          replace hS : Sep w0 w_292 [N_20, Mem.no, Mem.no, M_22, M_27, M_293] Z := hS'
          clear hs' hS'
          refine wpList_nil ?_
          replace hm : Fr 187 a [(0, p0_0), (2, p2_2), (3, p3_3), (12, .bool false), (13, v_24), (17, v_43)] := hm.keep [0, 2, 3, 12, 13, 17]
          replace hS : Sep w0 w_292 [N_20, Mem.no, Mem.no, M_22, M_27, M_293] Z := hS
          replace hm : Fr 187 a [(0, p0_0), (2, p2_2), (3, p3_3), (12, .bool false), (13, v_24), (17, v_43)] := hm.keep [0, 2, 3, 12, 13, 17]
          exact x_then_n (hJ_j_55 (t_41.set (t_287).toNat x5) H _ _ ⟨v_43, N_20, M_293, hm, (Sep.sel hS [0, 1000, 1001, 3, 1003, 5] (by decide)), (Mem.le.refl _), ho_294⟩)
        · rw [if_neg hc_286] at H
          refine c_cond_f hm rfl (decide_eq_false hc_286) ?_
          refine wp_skip ?_
          replace hS : Sep w0 w_42 [N_20, Mem.no, Mem.no, M_22, M_27, M_44] Z := hS
          replace hm : Fr 187 a [(0, p0_0), (2, p2_2), (3, p3_3), (12, .bool false), (13, v_24), (17, v_43)] := hm.keep [0, 2, 3, 12, 13, 17]
          exact x_then_n (hJ_j_55 t_41 H _ _ ⟨v_43, N_20, M_44, hm, (Sep.sel hS [0, 1000, 1001, 3, 1003, 5] (by decide)), (Mem.le.refl _), ho_45⟩)
      · rw [if_neg hc_34] at H
        cases H
    clear hKJ_19
    replace hS : Sep w0 w_13 [Mem.no, M_9, M_15] Z := hS
    replace hm : Fr 187 a [(0, p0_0), (1, p1_1), (2, p2_2), (3, p3_3), (4, .int .i64 x4), (5, .int .u8 (x5.toNat : Int)), (12, .bool false), (13, v_8), (14, v_14), (15, .int .i64 0)] := hm.keep [0, 1, 2, 3, 4, 5, 12, 13, 14, 15]
    refine c_block ?_
    refine c_loop (fun k_307 a w_307 => ∃ (x_296 : List UInt8) (x_301 : List UInt8) (x_306 : Int) (v_299 : Value) (v_304 : Value) (N_295 : Mem) (M_297 : Mem) (M_302 : Mem), hocketlaw2_PackPlays.L3 K x1 x0 (fun v => hocketlaw2_PackPlays.J1 K x4 x0 x2 x3 x5 v.1 v.2) k_307 (x_296, x_301, x_306) = some r ∧ Fr 187 a [(0, p0_0), (1, p1_1), (2, p2_2), (3, p3_3), (4, .int .i64 x4), (5, .int .u8 (x5.toNat : Int)), (12, .bool false), (13, v_299), (14, v_304), (15, .int .i64 x_306)] ∧ Sep w0 w_307 [N_295, Mem.no, Mem.no, M_297, M_302] Z ∧ Mem.no.le N_295 ∧ Own Kd.u8 5 M_297 Mem.no v_299 x_296 ∧ Own Kd.u8 5 M_302 Mem.no v_304 x_301) K ⟨([] : List UInt8), ([] : List UInt8), 0, v_8, v_14, Mem.no, M_9, M_15, H, hm, (Sep.sel hS [0, 1000, 1001, 1, 2] (by decide)), (Mem.le.refl _), ho_10, ho_16⟩ (fun a w h => by obtain ⟨_, _, _, _, _, _, _, _, H, _⟩ := h; cases (show (none : Option (Unit)) = some r from H)) ?_
    clear hm hS a H
    rintro k_307 a w_307 KL_307 hKL_307 ⟨x_296, x_301, x_306, v_299, v_304, N_295, M_297, M_302, H, hm, hS, le_295, ho_300, ho_305⟩
    replace H : hocketlaw2_PackPlays.B3 K x1 x0 (fun v => hocketlaw2_PackPlays.J1 K x4 x0 x2 x3 x5 v.1 v.2) (hocketlaw2_PackPlays.L3 K x1 x0 (fun v => hocketlaw2_PackPlays.J1 K x4 x0 x2 x3 x5 v.1 v.2) k_307) x_296 x_301 x_306 = some r := H
    unfold hocketlaw2_PackPlays.B3 at H
    refine c_seq fun KJ_309 hKJ_309 => ?_
    refine c_seq fun KJ_310 hKJ_310 => ?_
    have hJ_j_314 : ∀ (x_312 : Bool), hocketlaw2_PackPlays.J8 K x1 x_306 x_296 x_301 x0 (hocketlaw2_PackPlays.L3 K x1 x0 (fun v => hocketlaw2_PackPlays.J1 K x4 x0 x2 x3 x5 v.1 v.2) k_307) (fun v => hocketlaw2_PackPlays.J1 K x4 x0 x2 x3 x5 v.1 v.2) x_312 = some r → ∀ (a : Act) (w_313 : World), (∃ (N_311 : Mem), Fr 187 a [(0, p0_0), (1, p1_1), (2, p2_2), (3, p3_3), (4, .int .i64 x4), (5, .int .u8 (x5.toNat : Int)), (12, .bool false), (13, v_299), (14, v_304), (15, .int .i64 x_306), (36, .bool x_312)] ∧ Sep w0 w_313 [N_311, Mem.no, Mem.no, M_297, M_302] Z ∧ N_295.le N_311) → KJ_310 a w_313 := by
      clear H hm hS a
      rintro x_312 H a w_313 ⟨N_311, hm, hS, le_311⟩
      unfold hocketlaw2_PackPlays.J8 at H
      refine hKJ_310 _ _ ?_
      by_cases hc_315 : x_312 = true
      · rw [if_pos hc_315] at H
        refine c_cond_t hm rfl hc_315 ?_
        refine wp_skip ?_
        refine x_then_n (hKJ_309 _ _ ?_)
        refine c_seq fun KJ_316 hKJ_316 => ?_
        refine c_block ?_
        refine wp_seq ?_
        refine wp_region_lit ?_
        refine s_move hm rfl rfl ?_
        clear hm a; intro a hm
        refine s_move hm rfl rfl ?_
        clear hm a; intro a hm
        obtain ⟨t_317, et_317, H⟩ := Option.bind_eq_some_iff.1 H
        refine v_index hm rfl Try.underlying44 ti3 rfl rfl rfl hp1_1 (hA.trans hS.old) et_317 ?_
        intro ad_318 cs_319 hk_320 hc_321
        obtain rfl := (show cs_319 = [.int .i64 t_317] from hk_320)
        clear hm a; intro a hm
        refine s_load hm rfl rfl (el_one (o := 0) hc_321 Try.underlying3 rfl rfl) ?_
        clear hm a; intro a hm
        refine s_assign hm rfl rfl ?_
        clear hm a; intro a hm
        refine wpList_nil ?_
        replace hm : Fr 187 a [(0, p0_0), (1, p1_1), (2, p2_2), (3, p3_3), (4, .int .i64 x4), (5, .int .u8 (x5.toNat : Int)), (12, .bool false), (13, v_299), (14, v_304), (15, .int .i64 x_306), (16, .int .i64 t_317)] := hm.keep [0, 1, 2, 3, 4, 5, 12, 13, 14, 15, 16]
        refine x_then_n ?_
        refine c_seq fun KJ_322 hKJ_322 => ?_
        refine wp_seq ?_
        refine wp_region_lit ?_
        refine s_move hm rfl rfl ?_
        clear hm a; intro a hm
        refine s_bits (i := t_317) (j := 1) (r := band .i64 t_317 1) hm rfl rfl rfl (.inl ⟨rfl, rfl⟩) ?_
        clear hm a; intro a hm
        refine s_cmp (b := ((band .i64 t_317 1) == 0)) hm rfl rfl rfl (.inl ⟨rfl, rfl⟩) ?_
        clear hm a; intro a hm
        refine wpList_nil ?_
        replace hm : Fr 187 a [(0, p0_0), (1, p1_1), (2, p2_2), (3, p3_3), (4, .int .i64 x4), (5, .int .u8 (x5.toNat : Int)), (12, .bool false), (13, v_299), (14, v_304), (15, .int .i64 x_306), (16, .int .i64 t_317), (45, .bool ((band .i64 t_317 1) == 0))] := hm.keep [0, 1, 2, 3, 4, 5, 12, 13, 14, 15, 16, 45]
        refine x_then_n ?_
        have hJ_j_326 : ∀ (x_324 : Int), hocketlaw2_PackPlays.J9 K x_296 x_301 x_306 x0 (hocketlaw2_PackPlays.L3 K x1 x0 (fun v => hocketlaw2_PackPlays.J1 K x4 x0 x2 x3 x5 v.1 v.2) k_307) x_324 = some r → ∀ (a : Act) (w_325 : World), (∃ (N_323 : Mem), Fr 187 a [(0, p0_0), (1, p1_1), (2, p2_2), (3, p3_3), (4, .int .i64 x4), (5, .int .u8 (x5.toNat : Int)), (12, .bool false), (13, v_299), (14, v_304), (15, .int .i64 x_306), (16, .int .i64 x_324)] ∧ Sep w0 w_325 [N_323, Mem.no, Mem.no, M_297, M_302] Z ∧ N_311.le N_323) → KJ_322 a w_325 := by
          clear H hm hS a
          rintro x_324 H a w_325 ⟨N_323, hm, hS, le_323⟩
          unfold hocketlaw2_PackPlays.J9 at H
          refine hKJ_322 _ _ ?_
          refine wp_seq ?_
          refine wp_region_lit ?_
          refine s_move hm rfl rfl ?_
          clear hm a; intro a hm
          refine s_move hm rfl rfl ?_
          clear hm a; intro a hm
          obtain ⟨t_327, et_327, H⟩ := Option.bind_eq_some_iff.1 H
          refine s_call hm rfl Try.call31 rfl (pack_Num.calls K x_296 _ x_324 t_327 w0 _ _ _ (Mem.le.refl _) (hS.enter [] (by decide)) (ho_300.rd (hS.own_zed [] 2 (by decide)) (Mem.no_le _)) et_327) ?_
          rintro v_331 w_328 ⟨_, N_329, M_333, rfl, hS', hr_332⟩
          clear hm a; intro a hm
          obtain ⟨N_330, hS'', le_330, ln_330⟩ := hS.call [] (by decide) rfl (l' := []) (ow := [M_333]) rfl hS'
          replace hS : Sep w0 w_328 [N_330, Mem.no, Mem.no, M_297, M_302, M_333] Z := hS''
          clear hS' hS''
          refine s_move hm rfl rfl ?_
          clear hm a; intro a hm
          refine s_move hm rfl rfl ?_
          clear hm a; intro a hm
          obtain ⟨t_335, et_335, H⟩ := Option.bind_eq_some_iff.1 H
          refine s_call hm rfl Try.call36 rfl (hocketref1_Num.calls K x_301 _ x_324 t_335 w0 _ _ _ (Mem.le.refl _) (hS.enter [] (by decide)) (ho_305.rd (hS.own_zed [] 3 (by decide)) (Mem.no_le _)) et_335) ?_
          rintro v_339 w_336 ⟨_, N_337, M_341, rfl, hS', hr_340⟩
          clear hm a; intro a hm
          obtain ⟨N_338, hS'', le_338, ln_338⟩ := hS.call [] (by decide) rfl (l' := []) (ow := [M_341]) rfl hS'
          replace hS : Sep w0 w_336 [N_338, Mem.no, Mem.no, M_297, M_302, M_333, M_341] Z := hS''
          clear hS' hS''
          refine s_assign hm rfl rfl ?_
          clear hm a; intro a hm
          refine s_assign hm rfl rfl ?_
          clear hm a; intro a hm
          refine wpList_nil ?_
          replace hm : Fr 187 a [(0, p0_0), (1, p1_1), (2, p2_2), (3, p3_3), (4, .int .i64 x4), (5, .int .u8 (x5.toNat : Int)), (12, .bool false), (13, v_331), (14, v_339), (15, .int .i64 x_306)] := hm.keep [0, 1, 2, 3, 4, 5, 12, 13, 14, 15]
          refine x_then_n ?_
          refine wp_seq ?_
          refine wp_region_lit ?_
          refine s_move hm rfl rfl ?_
          clear hm a; intro a hm
          refine s_bits (i := x_306) (j := 3) (r := band .i64 x_306 3) hm rfl rfl rfl (.inl ⟨rfl, rfl⟩) ?_
          clear hm a; intro a hm
          refine s_cmp (b := ((band .i64 x_306 3) == 3)) hm rfl rfl rfl (.inl ⟨rfl, rfl⟩) ?_
          clear hm a; intro a hm
          refine wpList_nil ?_
          replace hm : Fr 187 a [(0, p0_0), (1, p1_1), (2, p2_2), (3, p3_3), (4, .int .i64 x4), (5, .int .u8 (x5.toNat : Int)), (12, .bool false), (13, v_331), (14, v_339), (15, .int .i64 x_306), (58, .bool ((band .i64 x_306 3) == 3))] := hm.keep [0, 1, 2, 3, 4, 5, 12, 13, 14, 15, 58]
          refine x_then_n ?_
          by_cases hc_343 : (band .i64 x_306 3) = 3
          · rw [if_pos hc_343] at H
            refine c_cond_t hm rfl (beq_iff_eq.2 hc_343) ?_
            refine h_begin (S := fun w => Sep w0 w [N_338, Mem.no, Mem.no, M_297, M_302, M_333, M_341] Z) 18 (by kernel_rfl) rfl [false, false, false, false, false, false, false, false, false, false, false, false, false, false, false, false, false, false].toArray rfl hS fun w_344 hS => ?_
            replace hS : Sep w0 w_344 [N_338, Mem.no, Mem.no, M_297, M_302, M_333, M_341] Z := hS
            refine h_take 0 [true, false, false, false, false, false, false, false, false, false, false, false, false, false, false, false, false, false].toArray rfl (by kernel_rfl) (by kernel_rfl) (by kernel_rfl) (fun _ _ _ _ h => h) rfl rfl rfl rfl hm (hS.sub (.cons (Mem.le.refl _) (.cons (Mem.no_le _) (.cons (Mem.no_le _) (.cons (Mem.le.refl _) (.cons (Mem.le.refl _) (.cons (Mem.le.refl _) (.cons (Mem.le.refl _) (Sub.nil _))))))))) (v := v_331) (fun w hS => r_move hm rfl) ?_
            clear hm a; intro a hm
            refine h_take 1 [true, true, false, false, false, false, false, false, false, false, false, false, false, false, false, false, false, false].toArray rfl (by kernel_rfl) (by kernel_rfl) (by kernel_rfl) (fun _ _ _ _ h => h) rfl rfl rfl rfl hm (hS.sub (.cons (Mem.le.refl _) (.cons (Mem.no_le _) (.cons (Mem.no_le _) (.cons (Mem.le.refl _) (.cons (Mem.le.refl _) (.cons (Mem.le.refl _) (.cons (Mem.le.refl _) (Sub.nil _))))))))) (v := p0_0) (fun w hS => r_move hm rfl) ?_
            clear hm a; intro a hm
            refine h_take 2 [true, true, true, false, false, false, false, false, false, false, false, false, false, false, false, false, false, false].toArray rfl (by kernel_rfl) (by kernel_rfl) (by kernel_rfl) (fun _ _ _ _ h => h) rfl rfl rfl rfl hm (hS.sub (.cons (Mem.le.refl _) (.cons (Mem.no_le _) (.cons (Mem.no_le _) (.cons (Mem.le.refl _) (.cons (Mem.le.refl _) (.cons (Mem.le.refl _) (.cons (Mem.le.refl _) (Sub.nil _))))))))) (v := p0_0) (fun w hS => r_move hm rfl) ?_
            clear hm a; intro a hm
            refine h_take 3 [true, true, true, true, false, false, false, false, false, false, false, false, false, false, false, false, false, false].toArray rfl (by kernel_rfl) (by kernel_rfl) (by kernel_rfl) (fun _ _ _ _ h => h) rfl rfl rfl rfl hm (hS.sub (.cons (Mem.le.refl _) (.cons (Mem.no_le _) (.cons (Mem.no_le _) (.cons (Mem.le.refl _) (.cons (Mem.le.refl _) (.cons (Mem.le.refl _) (.cons (Mem.le.refl _) (Sub.nil _))))))))) (v := .int .i64 (x0.length : Int)) (fun w hS => r_len hm Try.underlying25 rfl hp0_0) ?_
            clear hm a; intro a hm
            refine h_take 4 [true, true, true, true, true, false, false, false, false, false, false, false, false, false, false, false, false, false].toArray rfl (by kernel_rfl) (by kernel_rfl) (by kernel_rfl) (fun _ _ _ _ h => h) rfl rfl rfl rfl hm (hS.sub (.cons (Mem.le.refl _) (.cons (Mem.no_le _) (.cons (Mem.no_le _) (.cons (Mem.le.refl _) (.cons (Mem.le.refl _) (.cons (Mem.le.refl _) (.cons (Mem.le.refl _) (Sub.nil _))))))))) (v := .int .i64 x_306) (fun w hS => r_move hm rfl) ?_
            clear hm a; intro a hm
            refine h_take 5 [true, true, true, true, true, true, false, false, false, false, false, false, false, false, false, false, false, false].toArray rfl (by kernel_rfl) (by kernel_rfl) (by kernel_rfl) (fun _ _ _ _ h => h) rfl rfl rfl rfl hm (hS.sub (.cons (Mem.le.refl _) (.cons (Mem.no_le _) (.cons (Mem.no_le _) (.cons (Mem.le.refl _) (.cons (Mem.le.refl _) (.cons (Mem.le.refl _) (.cons (Mem.le.refl _) (Sub.nil _))))))))) (v := .int .i64 (mn (x0.length : Int) x_306)) (fun w hS => r_min hm rfl rfl) ?_
            clear hm a; intro a hm
            obtain ⟨t_345, et_345, H⟩ := Option.bind_eq_some_iff.1 H
            refine h_takeE 6 [true, true, true, true, true, true, true, false, false, false, false, false, false, false, false, false, false, false].toArray rfl (by kernel_rfl) (by kernel_rfl) (by kernel_rfl) (fun _ _ _ _ h => h) rfl rfl rfl rfl hm (hS.sub (.cons (Mem.le.refl _) (.cons (Mem.no_le _) (.cons (Mem.no_le _) (.cons (Mem.le.refl _) (.cons (Mem.le.refl _) (.cons (Mem.le.refl _) (.cons (Mem.le.refl _) (Sub.nil _))))))))) (f := fun v => v) (r_slice hm Try.underlying25 ti5 rfl rfl hp0_0 rfl rfl et_345) ?_
            intro v_346 hr_347
            clear hm a; intro a hm
            refine h_take 8 [true, true, true, true, true, true, true, false, true, false, false, false, false, false, false, false, false, false].toArray rfl (by kernel_rfl) (by kernel_rfl) (by kernel_rfl) (fun _ _ _ _ h => h) rfl rfl rfl rfl hm (hS.sub (.cons (Mem.le.refl _) (.cons (Mem.no_le _) (.cons (Mem.no_le _) (.cons (Mem.le.refl _) (.cons (Mem.le.refl _) (.cons (Mem.le.refl _) (.cons (Mem.le.refl _) (Sub.nil _))))))))) (v := v_339) (fun w hS => r_move hm rfl) ?_
            clear hm a; intro a hm
            refine h_take 9 [true, true, true, true, true, true, true, false, true, true, false, false, false, false, false, false, false, false].toArray rfl (by kernel_rfl) (by kernel_rfl) (by kernel_rfl) (fun _ _ _ _ h => h) rfl rfl rfl rfl hm (hS.sub (.cons (Mem.le.refl _) (.cons (Mem.no_le _) (.cons (Mem.no_le _) (.cons (Mem.le.refl _) (.cons (Mem.le.refl _) (.cons (Mem.le.refl _) (.cons (Mem.le.refl _) (Sub.nil _))))))))) (v := p0_0) (fun w hS => r_move hm rfl) ?_
            clear hm a; intro a hm
            refine h_take 10 [true, true, true, true, true, true, true, false, true, true, true, false, false, false, false, false, false, false].toArray rfl (by kernel_rfl) (by kernel_rfl) (by kernel_rfl) (fun _ _ _ _ h => h) rfl rfl rfl rfl hm (hS.sub (.cons (Mem.le.refl _) (.cons (Mem.no_le _) (.cons (Mem.no_le _) (.cons (Mem.le.refl _) (.cons (Mem.le.refl _) (.cons (Mem.le.refl _) (.cons (Mem.le.refl _) (Sub.nil _))))))))) (v := p0_0) (fun w hS => r_move hm rfl) ?_
            clear hm a; intro a hm
            refine h_take 11 [true, true, true, true, true, true, true, false, true, true, true, true, false, false, false, false, false, false].toArray rfl (by kernel_rfl) (by kernel_rfl) (by kernel_rfl) (fun _ _ _ _ h => h) rfl rfl rfl rfl hm (hS.sub (.cons (Mem.le.refl _) (.cons (Mem.no_le _) (.cons (Mem.no_le _) (.cons (Mem.le.refl _) (.cons (Mem.le.refl _) (.cons (Mem.le.refl _) (.cons (Mem.le.refl _) (Sub.nil _))))))))) (v := .int .i64 (x0.length : Int)) (fun w hS => r_len hm Try.underlying25 rfl hp0_0) ?_
            clear hm a; intro a hm
            refine h_take 12 [true, true, true, true, true, true, true, false, true, true, true, true, true, false, false, false, false, false].toArray rfl (by kernel_rfl) (by kernel_rfl) (by kernel_rfl) (fun _ _ _ _ h => h) rfl rfl rfl rfl hm (hS.sub (.cons (Mem.le.refl _) (.cons (Mem.no_le _) (.cons (Mem.no_le _) (.cons (Mem.le.refl _) (.cons (Mem.le.refl _) (.cons (Mem.le.refl _) (.cons (Mem.le.refl _) (Sub.nil _))))))))) (v := .int .i64 x_306) (fun w hS => r_move hm rfl) ?_
            clear hm a; intro a hm
            refine h_take 13 [true, true, true, true, true, true, true, false, true, true, true, true, true, true, false, false, false, false].toArray rfl (by kernel_rfl) (by kernel_rfl) (by kernel_rfl) (fun _ _ _ _ h => h) rfl rfl rfl rfl hm (hS.sub (.cons (Mem.le.refl _) (.cons (Mem.no_le _) (.cons (Mem.no_le _) (.cons (Mem.le.refl _) (.cons (Mem.le.refl _) (.cons (Mem.le.refl _) (.cons (Mem.le.refl _) (Sub.nil _))))))))) (v := .int .i64 (mn (x0.length : Int) x_306)) (fun w hS => r_min hm rfl rfl) ?_
            clear hm a; intro a hm
            obtain ⟨t_348, et_348, H⟩ := Option.bind_eq_some_iff.1 H
            refine h_takeE 14 [true, true, true, true, true, true, true, false, true, true, true, true, true, true, true, false, false, false].toArray rfl (by kernel_rfl) (by kernel_rfl) (by kernel_rfl) (fun _ _ _ _ h => h) rfl rfl rfl rfl hm (hS.sub (.cons (Mem.le.refl _) (.cons (Mem.no_le _) (.cons (Mem.no_le _) (.cons (Mem.le.refl _) (.cons (Mem.le.refl _) (.cons (Mem.le.refl _) (.cons (Mem.le.refl _) (Sub.nil _))))))))) (f := fun v => v) (r_slice hm Try.underlying25 ti5 rfl rfl hp0_0 rfl rfl et_348) ?_
            intro v_349 hr_350
            clear hm a; intro a hm
            refine h_event 7 [true, true, true, true, true, true, true, true, true, true, true, true, true, true, true, false, false, false].toArray rfl (by kernel_rfl) rfl ?_
            obtain ⟨t_351, et_351, H⟩ := Option.bind_eq_some_iff.1 H
            refine s_call hm rfl Try.call34 rfl (pack_Bytes.calls K t_327 _ t_345 _ t_351 w0 _ _ _ (Mem.le.refl _) (hS.enter [] (by decide)) (hr_332.rd (hS.own_zed [] 4 (by decide)) (Mem.no_le _)) (hr_347.mono (hA.trans (hS.le_zed []))) et_351) ?_
            rintro v_355 w_352 ⟨_, N_353, M_357, rfl, hS', hr_356⟩
            clear hm a; intro a hm
            obtain ⟨N_354, hS'', le_354, ln_354⟩ := hS.call [] (by decide) rfl (l' := []) (ow := [M_357]) rfl hS'
            replace hS : Sep w0 w_352 [N_354, Mem.no, Mem.no, M_297, M_302, M_333, M_341, M_357] Z := hS''
            clear hS' hS''
            refine wpList_nil ?_
            refine x_then_n ⟨(hS.sub (.cons le_354 (.cons (Mem.no_le _) (.cons (Mem.no_le _) (.cons (Mem.le.refl _) (.cons (Mem.le.refl _) (.cons (Mem.le.refl _) (.cons (Mem.le.refl _) (Sub.nil _))))))))), ?_⟩
            refine h_event 15 [true, true, true, true, true, true, true, true, true, true, true, true, true, true, true, true, false, false].toArray rfl (by kernel_rfl) rfl ?_
            obtain ⟨t_359, et_359, H⟩ := Option.bind_eq_some_iff.1 H
            refine s_call hm rfl Try.call37 rfl (hocketref1_Bytes.calls K t_335 _ t_348 _ t_359 w0 _ _ _ (Mem.le.refl _) (hS.enter [] (by decide)) (hr_340.rd (hS.own_zed [] 5 (by decide)) (Mem.no_le _)) (hr_350.mono (hA.trans (hS.le_zed []))) et_359) ?_
            rintro v_363 w_360 ⟨_, N_361, M_365, rfl, hS', hr_364⟩
            clear hm a; intro a hm
            obtain ⟨N_362, hS'', le_362, ln_362⟩ := hS.call [] (by decide) rfl (l' := []) (ow := [M_365]) rfl hS'
            replace hS : Sep w0 w_360 [N_362, Mem.no, Mem.no, M_297, M_302, M_333, M_341, M_357, M_365] Z := hS''
            clear hS' hS''
            refine wpList_nil ?_
            refine x_then_n ⟨(hS.sub (.cons (le_354.trans le_362) (.cons (Mem.no_le _) (.cons (Mem.no_le _) (.cons (Mem.le.refl _) (.cons (Mem.le.refl _) (.cons (Mem.le.refl _) (.cons (Mem.le.refl _) (Sub.nil _))))))))), ?_⟩
            refine h_take 16 [true, true, true, true, true, true, true, true, true, true, true, true, true, true, true, true, true, false].toArray rfl (by kernel_rfl) (by kernel_rfl) (by kernel_rfl) (fun _ _ _ _ h => h) rfl rfl rfl rfl hm (hS.sub (.cons (le_354.trans le_362) (.cons (Mem.no_le _) (.cons (Mem.no_le _) (.cons (Mem.le.refl _) (.cons (Mem.le.refl _) (.cons (Mem.le.refl _) (.cons (Mem.le.refl _) (Sub.nil _))))))))) (v := v_355) (fun w hS => r_assign hm rfl) ?_
            clear hm a; intro a hm
            refine h_take 17 [true, true, true, true, true, true, true, true, true, true, true, true, true, true, true, true, true, true].toArray rfl (by kernel_rfl) (by kernel_rfl) (by kernel_rfl) (fun _ _ _ _ h => h) rfl rfl rfl rfl hm (hS.sub (.cons (le_354.trans le_362) (.cons (Mem.no_le _) (.cons (Mem.no_le _) (.cons (Mem.le.refl _) (.cons (Mem.le.refl _) (.cons (Mem.le.refl _) (.cons (Mem.le.refl _) (Sub.nil _))))))))) (v := v_363) (fun w hS => r_assign hm rfl) ?_
            clear hm a; intro a hm
            refine h_done (by kernel_rfl) ?_
            replace hm : Fr 187 a [(0, p0_0), (1, p1_1), (2, p2_2), (3, p3_3), (4, .int .i64 x4), (5, .int .u8 (x5.toNat : Int)), (12, .bool false), (13, v_355), (14, v_363), (15, .int .i64 x_306)] := hm.keep [0, 1, 2, 3, 4, 5, 12, 13, 14, 15]
            refine x_block_n ?_
            refine x_then_n (hKJ_316 _ _ ?_)
            refine wp_region_lit ?_
            refine s_move hm rfl rfl ?_
            clear hm a; intro a hm
            refine s_arith (r := w64 (x_306 + 1)) hm rfl rfl rfl (.inl ⟨rfl, rfl⟩) ?_
            clear hm a; intro a hm
            refine s_assign hm rfl rfl ?_
            clear hm a; intro a hm
            refine wpList_nil ?_
            replace hm : Fr 187 a [(0, p0_0), (1, p1_1), (2, p2_2), (3, p3_3), (4, .int .i64 x4), (5, .int .u8 (x5.toNat : Int)), (12, .bool false), (13, v_355), (14, v_363), (15, .int .i64 (w64 (x_306 + 1)))] := hm.keep [0, 1, 2, 3, 4, 5, 12, 13, 14, 15]
            refine x_then_n (hKL_307 _ _ ?_)
            replace hS : Sep w0 w_360 [N_362, Mem.no, Mem.no, M_297, M_302, M_333, M_341, M_357, M_365] Z := hS
            replace hm : Fr 187 a [(0, p0_0), (1, p1_1), (2, p2_2), (3, p3_3), (4, .int .i64 x4), (5, .int .u8 (x5.toNat : Int)), (12, .bool false), (13, v_355), (14, v_363), (15, .int .i64 (w64 (x_306 + 1)))] := hm.keep [0, 1, 2, 3, 4, 5, 12, 13, 14, 15]
            exact ⟨t_351, t_359, w64 (x_306 + 1), v_355, v_363, N_362, M_357, M_365, H, hm, (Sep.sel hS [0, 1000, 1001, 7, 8] (by decide)), (le_295.trans (le_311.trans (le_323.trans (le_330.trans (le_338.trans (le_354.trans le_362)))))), hr_356, hr_364⟩
          · rw [if_neg hc_343] at H
            refine c_cond_f hm rfl (beq_eq_false_iff_ne.2 hc_343) ?_
            refine wp_skip ?_
            refine x_block_n ?_
            refine x_then_n (hKJ_316 _ _ ?_)
            refine wp_region_lit ?_
            refine s_move hm rfl rfl ?_
            clear hm a; intro a hm
            refine s_arith (r := w64 (x_306 + 1)) hm rfl rfl rfl (.inl ⟨rfl, rfl⟩) ?_
            clear hm a; intro a hm
            refine s_assign hm rfl rfl ?_
            clear hm a; intro a hm
            refine wpList_nil ?_
            replace hm : Fr 187 a [(0, p0_0), (1, p1_1), (2, p2_2), (3, p3_3), (4, .int .i64 x4), (5, .int .u8 (x5.toNat : Int)), (12, .bool false), (13, v_331), (14, v_339), (15, .int .i64 (w64 (x_306 + 1)))] := hm.keep [0, 1, 2, 3, 4, 5, 12, 13, 14, 15]
            refine x_then_n (hKL_307 _ _ ?_)
            replace hS : Sep w0 w_336 [N_338, Mem.no, Mem.no, M_297, M_302, M_333, M_341] Z := hS
            replace hm : Fr 187 a [(0, p0_0), (1, p1_1), (2, p2_2), (3, p3_3), (4, .int .i64 x4), (5, .int .u8 (x5.toNat : Int)), (12, .bool false), (13, v_331), (14, v_339), (15, .int .i64 (w64 (x_306 + 1)))] := hm.keep [0, 1, 2, 3, 4, 5, 12, 13, 14, 15]
            exact ⟨t_327, t_335, w64 (x_306 + 1), v_331, v_339, N_338, M_333, M_341, H, hm, (Sep.sel hS [0, 1000, 1001, 5, 6] (by decide)), (le_295.trans (le_311.trans (le_323.trans (le_330.trans le_338)))), hr_332, hr_340⟩
        clear hKJ_322
        by_cases hc_367 : (band .i64 t_317 1) = 0
        · rw [if_pos hc_367] at H
          refine c_cond_t hm rfl (beq_iff_eq.2 hc_367) ?_
          refine wp_region_lit ?_
          refine s_move hm rfl rfl ?_
          clear hm a; intro a hm
          refine s_move hm rfl rfl ?_
          clear hm a; intro a hm
          refine s_conv (wu64 x_306) hm rfl Try.underlying3 Try.underlying45 rfl rfl ?_
          clear hm a; intro a hm
          refine s_shift (r := shr .i64 t_317 (wu64 x_306)) hm rfl rfl rfl (wu64_nn _) (.inr ⟨rfl, rfl⟩) ?_
          clear hm a; intro a hm
          refine s_assign hm rfl rfl ?_
          clear hm a; intro a hm
          refine wpList_nil ?_
          replace hm : Fr 187 a [(0, p0_0), (1, p1_1), (2, p2_2), (3, p3_3), (4, .int .i64 x4), (5, .int .u8 (x5.toNat : Int)), (12, .bool false), (13, v_299), (14, v_304), (15, .int .i64 x_306), (16, .int .i64 (shr .i64 t_317 (wu64 x_306)))] := hm.keep [0, 1, 2, 3, 4, 5, 12, 13, 14, 15, 16]
          replace hS : Sep w0 w_313 [N_311, Mem.no, Mem.no, M_297, M_302] Z := hS
          replace hm : Fr 187 a [(0, p0_0), (1, p1_1), (2, p2_2), (3, p3_3), (4, .int .i64 x4), (5, .int .u8 (x5.toNat : Int)), (12, .bool false), (13, v_299), (14, v_304), (15, .int .i64 x_306), (16, .int .i64 (shr .i64 t_317 (wu64 x_306)))] := hm.keep [0, 1, 2, 3, 4, 5, 12, 13, 14, 15, 16]
          exact x_then_n (hJ_j_326 (shr .i64 t_317 (wu64 x_306)) H _ _ ⟨N_311, hm, (Sep.sel hS [0, 1000, 1001, 3, 4] (by decide)), (Mem.le.refl _)⟩)
        · rw [if_neg hc_367] at H
          refine c_cond_f hm rfl (beq_eq_false_iff_ne.2 hc_367) ?_
          refine wp_skip ?_
          replace hS : Sep w0 w_313 [N_311, Mem.no, Mem.no, M_297, M_302] Z := hS
          replace hm : Fr 187 a [(0, p0_0), (1, p1_1), (2, p2_2), (3, p3_3), (4, .int .i64 x4), (5, .int .u8 (x5.toNat : Int)), (12, .bool false), (13, v_299), (14, v_304), (15, .int .i64 x_306), (16, .int .i64 t_317)] := hm.keep [0, 1, 2, 3, 4, 5, 12, 13, 14, 15, 16]
          exact x_then_n (hJ_j_326 t_317 H _ _ ⟨N_311, hm, (Sep.sel hS [0, 1000, 1001, 3, 4] (by decide)), (Mem.le.refl _)⟩)
      · rw [if_neg hc_315] at H
        refine c_cond_f hm rfl (Bool.eq_false_iff.2 hc_315) ?_
        refine wp_exit (x_then_x (x_then_x (x_block_t ?_)))
        replace hS : Sep w0 w_313 [N_311, Mem.no, Mem.no, M_297, M_302] Z := hS
        replace hm : Fr 187 a [(0, p0_0), (2, p2_2), (3, p3_3), (4, .int .i64 x4), (5, .int .u8 (x5.toNat : Int)), (12, .bool false), (13, v_299), (14, v_304)] := hm.keep [0, 2, 3, 4, 5, 12, 13, 14]
        exact x_then_n (hJ_j_32 x_296 x_301 H _ _ ⟨v_299, v_304, N_311, M_297, M_302, hm, (Sep.sel hS [0, 1000, 1001, 3, 4] (by decide)), (le_295.trans le_311), ho_300, ho_305⟩)
    clear hKJ_310
    refine wp_region_lit ?_
    refine s_move hm rfl rfl ?_
    clear hm a; intro a hm
    refine s_move hm rfl rfl ?_
    clear hm a; intro a hm
    refine s_len hm rfl Try.underlying44 rfl hp1_1 ?_
    clear hm a; intro a hm
    refine s_cmp (b := decide (x_306 < (x1.length : Int))) hm rfl rfl rfl (.inr (.inr (.inl ⟨rfl, rfl⟩))) ?_
    clear hm a; intro a hm
    refine s_move hm rfl rfl ?_
    clear hm a; intro a hm
    by_cases hc_368 : x_306 < (x1.length : Int)
    · rw [if_pos hc_368] at H
      refine s_on hm rfl rfl (decide_eq_true hc_368) ?_
      refine s_move hm rfl rfl ?_
      clear hm a; intro a hm
      refine s_on hm rfl rfl (decide_eq_true hc_368) ?_
      refine s_cmp (b := decide (x_306 < 10)) hm rfl rfl rfl (.inr (.inr (.inl ⟨rfl, rfl⟩))) ?_
      clear hm a; intro a hm
      refine s_pick_t hm rfl rfl (decide_eq_true hc_368) rfl ?_
      clear hm a; intro a hm
      refine wpList_nil ?_
      replace hm : Fr 187 a [(0, p0_0), (1, p1_1), (2, p2_2), (3, p3_3), (4, .int .i64 x4), (5, .int .u8 (x5.toNat : Int)), (12, .bool false), (13, v_299), (14, v_304), (15, .int .i64 x_306), (36, .bool (decide (x_306 < 10)))] := hm.keep [0, 1, 2, 3, 4, 5, 12, 13, 14, 15, 36]
      replace hS : Sep w0 w_307 [N_295, Mem.no, Mem.no, M_297, M_302] Z := hS
      replace hm : Fr 187 a [(0, p0_0), (1, p1_1), (2, p2_2), (3, p3_3), (4, .int .i64 x4), (5, .int .u8 (x5.toNat : Int)), (12, .bool false), (13, v_299), (14, v_304), (15, .int .i64 x_306), (36, .bool (decide (x_306 < 10)))] := hm.keep [0, 1, 2, 3, 4, 5, 12, 13, 14, 15, 36]
      exact x_then_n (hJ_j_314 (decide (x_306 < 10)) H _ _ ⟨N_295, hm, (Sep.sel hS [0, 1000, 1001, 3, 4] (by decide)), (Mem.le.refl _)⟩)
    · rw [if_neg hc_368] at H
      refine s_off hm rfl rfl rfl (decide_eq_false hc_368) ?_
      clear hm a; intro a hm
      refine s_off hm rfl rfl rfl (decide_eq_false hc_368) ?_
      clear hm a; intro a hm
      refine s_pick_f hm rfl rfl (decide_eq_false hc_368) rfl ?_
      clear hm a; intro a hm
      refine wpList_nil ?_
      replace hm : Fr 187 a [(0, p0_0), (1, p1_1), (2, p2_2), (3, p3_3), (4, .int .i64 x4), (5, .int .u8 (x5.toNat : Int)), (12, .bool false), (13, v_299), (14, v_304), (15, .int .i64 x_306), (36, .bool false)] := hm.keep [0, 1, 2, 3, 4, 5, 12, 13, 14, 15, 36]
      replace hS : Sep w0 w_307 [N_295, Mem.no, Mem.no, M_297, M_302] Z := hS
      replace hm : Fr 187 a [(0, p0_0), (1, p1_1), (2, p2_2), (3, p3_3), (4, .int .i64 x4), (5, .int .u8 (x5.toNat : Int)), (12, .bool false), (13, v_299), (14, v_304), (15, .int .i64 x_306), (36, .bool false)] := hm.keep [0, 1, 2, 3, 4, 5, 12, 13, 14, 15, 36]
      exact x_then_n (hJ_j_314 false H _ _ ⟨N_295, hm, (Sep.sel hS [0, 1000, 1001, 3, 4] (by decide)), (Mem.le.refl _)⟩)


end Go.Proofs
