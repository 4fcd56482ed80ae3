/- What the calls do: each function once. -/
import Derived.Test.YtmcaielgjfpekaaNetsTurnedc1
namespace Go.Proofs
open Go.Gp
set_option linter.unusedVariables false
set_option maxHeartbeats 4000000 in
set_option maxRecDepth 20000 in
theorem hocketlaw8_Cmd.calls (x0 : Int) (r : api_Cmd) (w0 w : World) (Z A : Mem) (hA : A.le Z) (hS : Sep w0 w [] Z)
    (H : hocketlaw8_Cmd.f x0 = some r) :
    Calls Try.prog 45 [iV x0].toArray w (Ret fun v w' => ∃ (u0 : Value) (u1 : Value) (u2 : Value) (N : Mem), v = .agg [iV r.Kind, iV r.Who, u0, u1, u2].toArray ∧ Sep w0 w' [N] Z ∧ Rd Kd.u8 N u0 r.Key ∧ Rd Kd.u8 N u1 r.Val ∧ Rd Kd.u8 N u2 r.Old) := by
 unfold hocketlaw8_Cmd.f at H
 refine f_enter _ Try.func45 rfl Try.ntmps45 rfl fun a h=>?_
 replace h : Fr 60 a [(0, iV x0)] := h
 replace hS := hS.start
 replace hS : Sep w0 w [_] Z := hS
 refine wp_seq <| wp_region_lit <| v_alloc h rfl ti28 hS fun w_1 g_2 hS' a h => ?_
 replace hS : Sep w0 w_1 [_, Mem.one g_2 (.cells ([iV 0, iV 0, nS, nS, nS] : List Value).toArray 28 (0, 0))] Z := hS'
 clear hS'
 refine wpList_nil <| x_then_n <| wp_seq <| wp_region_lit ?_
 have hq_7 : Reps Kd.str Mem.no ([([] : List UInt8), ([97] : List UInt8), ([98] : List UInt8), ([97, 98] : List UInt8), ([118, 97, 108, 117, 101] : List UInt8), ([48, 49, 50, 51, 52, 53, 54, 55, 56, 57, 97, 98, 99, 100, 101, 102] : List UInt8), ([48, 49, 50, 51, 52, 53, 54, 55, 56, 57, 97, 98, 99, 100, 101, 102, 103] : List UInt8), ([0, 255] : List UInt8)] : List (List UInt8)) _ := ((Reps.one (d := Kd.str) (x := ([] : List UInt8)) (show Kd.str.K _ _ [.string ⟨([] : List UInt8).toArray⟩] from rfl)).append ((Reps.one (d := Kd.str) (x := ([97] : List UInt8)) (show Kd.str.K _ _ [.string ⟨([97] : List UInt8).toArray⟩] from rfl)).append ((Reps.one (d := Kd.str) (x := ([98] : List UInt8)) (show Kd.str.K _ _ [.string ⟨([98] : List UInt8).toArray⟩] from rfl)).append ((Reps.one (d := Kd.str) (x := ([97, 98] : List UInt8)) (show Kd.str.K _ _ [.string ⟨([97, 98] : List UInt8).toArray⟩] from rfl)).append ((Reps.one (d := Kd.str) (x := ([118, 97, 108, 117, 101] : List UInt8)) (show Kd.str.K _ _ [.string ⟨([118, 97, 108, 117, 101] : List UInt8).toArray⟩] from rfl)).append ((Reps.one (d := Kd.str) (x := ([48, 49, 50, 51, 52, 53, 54, 55, 56, 57, 97, 98, 99, 100, 101, 102] : List UInt8)) (show Kd.str.K _ _ [.string ⟨([48, 49, 50, 51, 52, 53, 54, 55, 56, 57, 97, 98, 99, 100, 101, 102] : List UInt8).toArray⟩] from rfl)).append ((Reps.one (d := Kd.str) (x := ([48, 49, 50, 51, 52, 53, 54, 55, 56, 57, 97, 98, 99, 100, 101, 102, 103] : List UInt8)) (show Kd.str.K _ _ [.string ⟨([48, 49, 50, 51, 52, 53, 54, 55, 56, 57, 97, 98, 99, 100, 101, 102, 103] : List UInt8).toArray⟩] from rfl)).append ((Reps.one (d := Kd.str) (x := ([0, 255] : List UInt8)) (show Kd.str.K _ _ [.string ⟨([0, 255] : List UInt8).toArray⟩] from rfl)).append (Reps.nil Kd.str _)))))))))
 refine s_buildSlice h rfl U83 ti9 rfl rfl rfl (.cons rfl (.cons rfl (.cons rfl (.cons rfl (.cons rfl (.cons rfl (.cons rfl (.cons rfl .nil)))))))) rfl rfl rfl hS hq_7 rfl fun w_3 v_4 M_5 hS' ho_6 a h => ?_
 replace hS : Sep w0 w_3 [_, _, M_5] Z := hS'
 clear hS' hq_7
 refine s_move h rfl rfl fun a h=>s_shift (r := shr .i64 x0 5) h rfl rfl rfl (by decide) (.inr ⟨rfl, rfl⟩) fun a h=>s_bits (i := shr .i64 x0 5) (j := 7) (r := band .i64 (shr .i64 x0 5) 7) h rfl rfl rfl (.inl ⟨rfl, rfl⟩) fun a h=>?_
 obtain ⟨t_9, et_9, H⟩ := Option.bind_eq_some_iff.1 H
 refine v_indexO h rfl U83 ti9 rfl rfl rfl ho_6 (hS.own 2) et_9 fun ad_10 cs_11 hk_12 hc_13 => ?_
 obtain rfl := (show cs_11 = [.string ⟨t_9.toArray⟩] from hk_12)
 intro a h
 refine s_load h rfl rfl (el_one (o := 0) hc_13 U9 rfl rfl) fun a h=>?_
 obtain ⟨u_14, eu_14, H⟩ := Option.bind_eq_some_iff.1 H
 refine s_s2b h rfl U9 U26 U5 rfl (must_some eu_14) hS fun w_15 v_16 M_17 hS' hr_18 a h => ?_
 obtain ⟨N_19, hS'', le_19, lo_19⟩ := Sep.freeze (l := [Mem.one g_2 (.cells ([iV 0, iV 0, nS, nS, nS] : List Value).toArray 28 (0, 0)), M_5, M_17]) hS' 2 rfl
 replace hS : Sep w0 w_15 [N_19, _, _, Mem.no] Z := hS''
 clear hS' hS''
 refine s_assign h rfl rfl fun a h=>wpList_nil <| x_then_n <| c_seq fun KJ_20 hKJ_20 => ?_
 have hJ_j_31 : ∀ (x_23 : api_Cmd), hocketlaw8_Cmd.J1 x0 x_23 = some r → ∀ (a : Act) (w_30 : World), (∃ (v_24 : Value) (v_26 : Value) (v_28 : Value) (g_22 : Nat) (N_21 : Mem), Fr 60 a [(0, iV x0), (2, .pointer (some ⟨g_2, 0, none⟩)), (4, .pointer (some ⟨g_22, 0, none⟩))] ∧ Sep w0 w_30 [N_21, Mem.one g_2 (.cells ([iV 0, iV 0, nS, nS, nS] : List Value).toArray 28 (0, 0)), Mem.no, Mem.no, Mem.one g_22 (.cells ([iV x_23.Kind, iV x_23.Who, v_24, v_26, v_28] : List Value).toArray 28 (0, 0))] Z ∧ N_19.le N_21 ∧ Rd Kd.u8 N_21 v_24 x_23.Key ∧ Rd Kd.u8 N_21 v_26 x_23.Val ∧ Rd Kd.u8 N_21 v_28 x_23.Old) → KJ_20 a w_30 := by
  clear H h hS a
  rintro x_23 H a w_30 ⟨v_24, v_26, v_28, g_22, N_21, h, hS, le_21, hr_25, hr_27, hr_29⟩
  unfold hocketlaw8_Cmd.J1 at H
  refine hKJ_20 _ _ <| c_seq fun KJ_32 hKJ_32 => c_seq fun KJ_33 hKJ_33 => ?_
  have hJ_j_37 : ∀ (x_35 : Bool), hocketlaw8_Cmd.J2 x0 x_23 x_35 = some r → ∀ (a : Act) (w_36 : World), (∃ (N_34 : Mem), Fr 60 a [(0, iV x0), (2, .pointer (some ⟨g_2, 0, none⟩)), (4, .pointer (some ⟨g_22, 0, none⟩)), (38, .bool x_35)] ∧ Sep w0 w_36 [N_34, Mem.one g_2 (.cells ([iV 0, iV 0, nS, nS, nS] : List Value).toArray 28 (0, 0)), Mem.no, Mem.no, Mem.one g_22 (.cells ([iV x_23.Kind, iV x_23.Who, v_24, v_26, v_28] : List Value).toArray 28 (0, 0))] Z ∧ N_21.le N_34) → KJ_33 a w_36 := by
   clear H h hS a
   rintro x_35 H a w_36 ⟨N_34, h, hS, le_34⟩
   unfold hocketlaw8_Cmd.J2 at H
   refine hKJ_33 _ _ ?_
   have hJ_j_41 : ∀ (x_39 : Int), hocketlaw8_Cmd.J3 x0 x_23 x_39 = some r → ∀ (a : Act) (w_40 : World), (∃ (N_38 : Mem), Fr 60 a [(0, iV x0), (2, .pointer (some ⟨g_2, 0, none⟩)), (4, .pointer (some ⟨g_22, 0, none⟩))] ∧ Sep w0 w_40 [N_38, Mem.one g_2 (.cells ([iV 0, iV 0, nS, nS, nS] : List Value).toArray 28 (0, 0)), Mem.no, Mem.no, Mem.one g_22 (.cells ([iV x_39, iV x_23.Who, v_24, v_26, v_28] : List Value).toArray 28 (0, 0))] Z ∧ N_34.le N_38) → KJ_32 a w_40 := by
    clear H h hS a
    rintro x_39 H a w_40 ⟨N_38, h, hS, le_38⟩
    unfold hocketlaw8_Cmd.J3 at H
    refine hKJ_32 _ _ <| c_seq fun KJ_42 hKJ_42 => wp_seq <| wp_region_lit <| s_move h rfl rfl fun a h=>s_shift (r := shr .i64 x0 19) h rfl rfl rfl (by decide) (.inr ⟨rfl, rfl⟩) fun a h=>s_bits (i := shr .i64 x0 19) (j := 31) (r := band .i64 (shr .i64 x0 19) 31) h rfl rfl rfl (.inl ⟨rfl, rfl⟩) fun a h=>s_cmp (b := ((band .i64 (shr .i64 x0 19) 31) == 0)) h rfl rfl rfl (.inl ⟨rfl, rfl⟩) fun a h=>wpList_nil <| x_then_n ?_
    by_cases hc_43 : (band .i64 (shr .i64 x0 19) 31) = 0
    ·rw [if_pos hc_43] at H
     refine c_cond_t h rfl (beq_iff_eq.2 hc_43) <| wp_seq <| wp_region_lit <| s_move h rfl rfl fun a h=>s_shift (r := shr .i64 x0 24) h rfl rfl rfl (by decide) (.inr ⟨rfl, rfl⟩) fun a h=>s_bits (i := shr .i64 x0 24) (j := 31) (r := band .i64 (shr .i64 x0 24) 31) h rfl rfl rfl (.inl ⟨rfl, rfl⟩) fun a h=>s_fieldAddr h rfl U28 rfl ti3 rfl rfl fun a h=>?_
     obtain ⟨w_44, hs', hS'⟩ := hS.store (P := Try.prog) (p := 4) (o := 0) (t := 3) (v := iV (band .i64 (shr .i64 x0 24) 31)) (vs := [iV (band .i64 (shr .i64 x0 24) 31)]) rfl ti3 rfl rfl rfl (by intro u hu; simp only [List.mem_cons, List.not_mem_nil, or_false] at hu; rcases hu with rfl <;> rfl)
     refine s_store h rfl rfl hs' ?_
     replace hS : Sep w0 w_44 [_, _, _, _, Mem.one g_22 (.cells ([iV (band .i64 (shr .i64 x0 24) 31), _, _, _, _] : List Value).toArray 28 (0, 0))] Z := hS'
     clear hs' hS'
     refine wpList_nil ?_
     replace h : Fr 60 a [(0, _), (2, _), (4, _)] := h.keep [0, 2, 4]
     refine x_then_n <| wp_region_lit <| s_move h rfl rfl fun a h=>s_shift (r := shr .i64 x0 17) h rfl rfl rfl (by decide) (.inr ⟨rfl, rfl⟩) fun a h=>s_bits (i := shr .i64 x0 17) (j := 2047) (r := band .i64 (shr .i64 x0 17) 2047) h rfl rfl rfl (.inl ⟨rfl, rfl⟩) fun a h=>s_arith (r := w64 ((band .i64 (shr .i64 x0 17) 2047) - 20)) h rfl rfl rfl (.inr (.inl ⟨rfl, rfl⟩)) fun a h=>s_fieldAddr h rfl U28 rfl ti3 rfl rfl fun a h=>?_
     obtain ⟨w_45, hs', hS'⟩ := hS.store (P := Try.prog) (p := 4) (o := 1) (t := 3) (v := iV (w64 ((band .i64 (shr .i64 x0 17) 2047) - 20))) (vs := [iV (w64 ((band .i64 (shr .i64 x0 17) 2047) - 20))]) rfl ti3 rfl rfl rfl (by intro u hu; simp only [List.mem_cons, List.not_mem_nil, or_false] at hu; rcases hu with rfl <;> rfl)
     refine s_store h rfl rfl hs' ?_
     replace hS : Sep w0 w_45 [_, _, _, _, Mem.one g_22 (.cells ([_, iV (w64 ((band .i64 (shr .i64 x0 17) 2047) - 20)), _, _, _] : List Value).toArray 28 (0, 0))] Z := hS'
     clear hs' hS'
     refine wpList_nil <| x_then_n (hKJ_42 _ _ ?_)
     refine wp_seq <| wp_region_lit <| s_load h rfl rfl (hS.load_agg (p := 4) (us := [iV (band .i64 (shr .i64 x0 24) 31), iV (w64 ((band .i64 (shr .i64 x0 17) 2047) - 20)), v_24, v_26, v_28]) rfl U28 rfl ti28 rfl rfl) fun a h=>?_
     obtain ⟨w_46, hs', hS'⟩ := hS.store (P := Try.prog) (p := 1) (o := 0) (t := 28) (v := .agg ([iV (band .i64 (shr .i64 x0 24) 31), iV (w64 ((band .i64 (shr .i64 x0 17) 2047) - 20)), v_24, v_26, v_28] : List Value).toArray) (vs := [iV (band .i64 (shr .i64 x0 24) 31), iV (w64 ((band .i64 (shr .i64 x0 17) 2047) - 20)), v_24, v_26, v_28]) rfl ti28 rfl rfl rfl (by intro u hu; simp only [List.mem_cons, List.not_mem_nil, or_false] at hu; rcases hu with rfl | rfl | rfl | rfl | rfl <;> first | rfl | exact hr_25.one | exact hr_27.one | exact hr_29.one)
     refine s_store h rfl rfl hs' ?_
     replace hS : Sep w0 w_46 [_, Mem.one g_2 (.cells ([iV (band .i64 (shr .i64 x0 24) 31), iV (w64 ((band .i64 (shr .i64 x0 17) 2047) - 20)), v_24, v_26, v_28] : List Value).toArray 28 (0, 0)), _, _, _] Z := hS'
     clear hs' hS'
     refine wpList_nil <| x_then_n <| wp_ret ?_
     obtain rfl := Option.some.inj H
     exact f_ret h (rs := [.cell 2 28]) rfl (.cell rfl (hS.load_agg (p := 1) (us := [iV (band .i64 (shr .i64 x0 24) 31), iV (w64 ((band .i64 (shr .i64 x0 17) 2047) - 20)), v_24, v_26, v_28]) rfl U28 rfl ti28 rfl rfl) .nil) ⟨_, rfl, v_24, v_26, v_28, N_38, rfl, (Sep.sel hS [0] (by decide)), (hr_25.mono (le_34.trans le_38)), (hr_27.mono (le_34.trans le_38)), (hr_29.mono (le_34.trans le_38))⟩
    ·rw [if_neg hc_43] at H
     refine c_cond_f h rfl (beq_eq_false_iff_ne.2 hc_43) <| wp_skip <| x_then_n (hKJ_42 _ _ ?_)
     refine wp_seq <| wp_region_lit <| s_load h rfl rfl (hS.load_agg (p := 4) (us := [iV x_39, iV x_23.Who, v_24, v_26, v_28]) rfl U28 rfl ti28 rfl rfl) fun a h=>?_
     obtain ⟨w_47, hs', hS'⟩ := hS.store (P := Try.prog) (p := 1) (o := 0) (t := 28) (v := .agg ([iV x_39, iV x_23.Who, v_24, v_26, v_28] : List Value).toArray) (vs := [iV x_39, iV x_23.Who, v_24, v_26, v_28]) rfl ti28 rfl rfl rfl (by intro u hu; simp only [List.mem_cons, List.not_mem_nil, or_false] at hu; rcases hu with rfl | rfl | rfl | rfl | rfl <;> first | rfl | exact hr_25.one | exact hr_27.one | exact hr_29.one)
     refine s_store h rfl rfl hs' ?_
     replace hS : Sep w0 w_47 [_, Mem.one g_2 (.cells ([iV x_39, iV x_23.Who, v_24, v_26, v_28] : List Value).toArray 28 (0, 0)), _, _, _] Z := hS'
     clear hs' hS'
     refine wpList_nil ?_
     replace h : Fr 60 a [(2, _)] := h.keep [2]
     refine x_then_n <| wp_ret ?_
     obtain rfl := Option.some.inj H
     exact f_ret h (rs := [.cell 2 28]) rfl (.cell rfl (hS.load_agg (p := 1) (us := [iV x_39, iV x_23.Who, v_24, v_26, v_28]) rfl U28 rfl ti28 rfl rfl) .nil) ⟨_, rfl, v_24, v_26, v_28, N_38, rfl, (Sep.sel hS [0] (by decide)), (hr_25.mono (le_34.trans le_38)), (hr_27.mono (le_34.trans le_38)), (hr_29.mono (le_34.trans le_38))⟩
   clear hKJ_32
   by_cases hc_48 : x_35 = true
   ·rw [if_pos hc_48] at H
    refine c_cond_t h rfl hc_48 <| wp_region_lit ?_
    have hq_53 : Reps (Kd.int .i64) Mem.no ([1, 2, 4, 9] : List Int) _ := ((Reps.one (d := (Kd.int .i64)) (x := 1) (show (Kd.int .i64).K _ _ [iV 1] from rfl)).append ((Reps.one (d := (Kd.int .i64)) (x := 2) (show (Kd.int .i64).K _ _ [iV 2] from rfl)).append ((Reps.one (d := (Kd.int .i64)) (x := 4) (show (Kd.int .i64).K _ _ [iV 4] from rfl)).append ((Reps.one (d := (Kd.int .i64)) (x := 9) (show (Kd.int .i64).K _ _ [iV 9] from rfl)).append (Reps.nil (Kd.int .i64) _)))))
    refine s_buildSlice h rfl U22 ti3 rfl rfl rfl (.cons rfl (.cons rfl (.cons rfl (.cons rfl .nil)))) rfl rfl rfl hS hq_53 rfl fun w_49 v_50 M_51 hS' ho_52 a h => ?_
    replace hS : Sep w0 w_49 [_, _, _, _, _, M_51] Z := hS'
    clear hS' hq_53
    refine s_move h rfl rfl fun a h=>s_shift (r := shr .i64 x0 17) h rfl rfl rfl (by decide) (.inr ⟨rfl, rfl⟩) fun a h=>s_bits (i := shr .i64 x0 17) (j := 3) (r := band .i64 (shr .i64 x0 17) 3) h rfl rfl rfl (.inl ⟨rfl, rfl⟩) fun a h=>?_
    obtain ⟨t_55, et_55, H⟩ := Option.bind_eq_some_iff.1 H
    refine v_indexO h rfl U22 ti3 rfl rfl rfl ho_52 (hS.own 5) et_55 fun ad_56 cs_57 hk_58 hc_59 => ?_
    obtain rfl := (show cs_57 = [iV t_55] from hk_58)
    intro a h
    refine s_load h rfl rfl (el_one (o := 0) hc_59 U3 rfl rfl) fun a h=>s_fieldAddr h rfl U28 rfl ti3 rfl rfl fun a h=>?_
    obtain ⟨w_60, hs', hS'⟩ := hS.store (P := Try.prog) (p := 4) (o := 0) (t := 3) (v := iV t_55) (vs := [iV t_55]) rfl ti3 rfl rfl rfl (by intro u hu; simp only [List.mem_cons, List.not_mem_nil, or_false] at hu; rcases hu with rfl <;> rfl)
    refine s_store h rfl rfl hs' ?_
    replace hS : Sep w0 w_60 [_, _, _, _, Mem.one g_22 (.cells ([iV t_55, _, _, _, _] : List Value).toArray 28 (0, 0)), _] Z := hS'
    clear hs' hS'
    refine wpList_nil ?_
    replace hS : Sep w0 w_60 [_, _, _, _, _, _] Z := hS
    replace h : Fr 60 a [(0, _), (2, _), (4, _)] := h.keep [0, 2, 4]
    exact x_then_n (hJ_j_41 t_55 H _ _ ⟨N_34, h, (Sep.sel hS [0, 1, 1001, 1002, 4] (by decide)), (Mem.le.refl _)⟩)
   ·rw [if_neg hc_48] at H
    refine c_cond_f h rfl (Bool.eq_false_iff.2 hc_48) <| wp_skip ?_
    replace hS : Sep w0 w_36 [_, _, _, _, _] Z := hS
    replace h : Fr 60 a [(0, _), (2, _), (4, _)] := h.keep [0, 2, 4]
    exact x_then_n (hJ_j_41 x_23.Kind H _ _ ⟨N_34, h, (Sep.sel hS [0, 1, 1001, 1002, 4] (by decide)), (Mem.le.refl _)⟩)
  clear hKJ_33
  refine wp_region_lit <| s_fieldAddr h rfl U28 rfl ti3 rfl rfl fun a h=>s_load h rfl rfl (hS.load_one (p := 4) rfl U3 rfl rfl) fun a h=>s_cmp (b := (x_23.Kind == 0)) h rfl rfl rfl (.inl ⟨rfl, rfl⟩) fun a h=>s_move h rfl rfl fun a h=>?_
  by_cases hc_61 : x_23.Kind = 0
  ·rw [if_pos hc_61] at H
   refine s_off h rfl rfl rfl (beq_iff_eq.2 hc_61) fun a h=>s_off h rfl rfl rfl (beq_iff_eq.2 hc_61) fun a h=>s_off h rfl rfl rfl (beq_iff_eq.2 hc_61) fun a h=>s_pick_t h rfl rfl (beq_iff_eq.2 hc_61) rfl fun a h=>wpList_nil ?_
   replace hS : Sep w0 w_30 [_, _, _, _, _] Z := hS
   replace h : Fr 60 a [(0, _), (2, _), (4, _), (38, .bool true)] := h.keep [0, 2, 4, 38]
   exact x_then_n (hJ_j_37 true H _ _ ⟨N_21, h, (Sep.sel hS [0, 1, 1001, 1002, 4] (by decide)), (Mem.le.refl _)⟩)
  ·rw [if_neg hc_61] at H
   refine s_on h rfl rfl (beq_eq_false_iff_ne.2 hc_61) <| s_fieldAddr h rfl U28 rfl ti3 rfl rfl fun a h=>s_on h rfl rfl (beq_eq_false_iff_ne.2 hc_61) <| s_load h rfl rfl (hS.load_one (p := 4) rfl U3 rfl rfl) fun a h=>s_on h rfl rfl (beq_eq_false_iff_ne.2 hc_61) <| s_cmp (b := (x_23.Kind == 12)) h rfl rfl rfl (.inl ⟨rfl, rfl⟩) fun a h=>s_pick_f h rfl rfl (beq_eq_false_iff_ne.2 hc_61) rfl fun a h=>wpList_nil ?_
   replace hS : Sep w0 w_30 [_, _, _, _, _] Z := hS
   replace h : Fr 60 a [(0, _), (2, _), (4, _), (38, .bool (x_23.Kind == 12))] := h.keep [0, 2, 4, 38]
   exact x_then_n (hJ_j_37 (x_23.Kind == 12) H _ _ ⟨N_21, h, (Sep.sel hS [0, 1, 1001, 1002, 4] (by decide)), (Mem.le.refl _)⟩)
 clear hKJ_20
 refine h_begin (S := fun w => Sep w0 w [N_19, Mem.one g_2 (.cells ([iV 0, iV 0, nS, nS, nS] : List Value).toArray 28 (0, 0)), M_5, Mem.no] Z) 21 (by kernel_rfl) rfl (bA 21 0) (by kernel_rfl) hS fun w_62 hS => ?_
 replace hS : Sep w0 w_62 [_, _, _, _] Z := hS
 refine t_take 0 (bA 21 1) rfl rfl rfl rfl h (hS.sub (.cons (Mem.le.refl _) (.rr (.rr (.zz .ii))))) (v := iV x0) (fun w hS => r_move h rfl) fun a h=>t_take 1 (bA 21 3) rfl rfl rfl rfl h (hS.sub (.cons (Mem.le.refl _) (.rr (.rr (.zz .ii))))) (v := iV (band .i64 x0 31)) (fun w hS => r_bits (i := x0) (j := 31) (r := band .i64 x0 31) h rfl rfl (.inl ⟨rfl, rfl⟩)) fun a h=>t_take 2 (bA 21 7) rfl rfl rfl rfl h (hS.sub (.cons (Mem.le.refl _) (.rr (.rr (.zz .ii))))) (v := iV (Int.tmod (band .i64 x0 31) 13)) (fun w hS => r_div (r := Int.tmod (band .i64 x0 31) 13) h rfl rfl (by decide) (.inr ⟨rfl, rfl⟩)) fun a h=>t_take 3 (bA 21 15) rfl rfl rfl rfl h (hS.sub (.cons (Mem.le.refl _) (.rr (.rr (.zz .ii))))) (v := iV (w64 ((Int.tmod (band .i64 x0 31) 13) + 0))) (fun w hS => r_arith (r := w64 ((Int.tmod (band .i64 x0 31) 13) + 0)) h rfl rfl (.inl ⟨rfl, rfl⟩)) fun a h=>t_take 4 (bA 21 31) rfl rfl rfl rfl h (hS.sub (.cons (Mem.le.refl _) (.rr (.rr (.zz .ii))))) (v := iV x0) (fun w hS => r_move h rfl) fun a h=>t_take 5 (bA 21 63) rfl rfl rfl rfl h (hS.sub (.cons (Mem.le.refl _) (.rr (.rr (.zz .ii))))) (v := iV (shr .i64 x0 8)) (fun w hS => r_shift (r := shr .i64 x0 8) h rfl rfl (by decide) (.inr ⟨rfl, rfl⟩)) fun a h=>?_
 refine t_take 6 (bA 21 127) rfl rfl rfl rfl h (hS.sub (.cons (Mem.le.refl _) (.rr (.rr (.zz .ii))))) (v := iV (band .i64 (shr .i64 x0 8) 7)) (fun w hS => r_bits (i := shr .i64 x0 8) (j := 7) (r := band .i64 (shr .i64 x0 8) 7) h rfl rfl (.inl ⟨rfl, rfl⟩)) fun a h=>t_take 7 (bA 21 255) rfl rfl rfl rfl h (hS.sub (.cons (Mem.le.refl _) (.rr (.rr (.zz .ii))))) (v := iV x0) (fun w hS => r_move h rfl) fun a h=>t_take 8 (bA 21 511) rfl rfl rfl rfl h (hS.sub (.cons (Mem.le.refl _) (.rr (.rr (.zz .ii))))) (v := iV (shr .i64 x0 11)) (fun w hS => r_shift (r := shr .i64 x0 11) h rfl rfl (by decide) (.inr ⟨rfl, rfl⟩)) fun a h=>t_take 10 (bA 21 1535) rfl rfl rfl rfl h (hS.sub (.cons (Mem.le.refl _) (.rr (.rr (.zz .ii))))) (v := v_16) (fun w hS => r_move h rfl) fun a h=>t_take 12 (bA 21 5631) rfl rfl rfl rfl h (hS.sub (.cons (Mem.le.refl _) (.rr (.rr (.zz .ii))))) (v := iV x0) (fun w hS => r_move h rfl) fun a h=>t_take 13 (bA 21 13823) rfl rfl rfl rfl h (hS.sub (.cons (Mem.le.refl _) (.rr (.rr (.zz .ii))))) (v := iV (shr .i64 x0 15)) (fun w hS => r_shift (r := shr .i64 x0 15) h rfl rfl (by decide) (.inr ⟨rfl, rfl⟩)) fun a h=>?_
 refine t_take 14 (bA 21 30207) rfl rfl rfl rfl h (hS.sub (.cons (Mem.le.refl _) (.rr (.rr (.zz .ii))))) (v := iV (band .i64 (shr .i64 x0 15) 3)) (fun w hS => r_bits (i := shr .i64 x0 15) (j := 3) (r := band .i64 (shr .i64 x0 15) 3) h rfl rfl (.inl ⟨rfl, rfl⟩)) fun a h=>?_
 obtain ⟨t_63, et_63, H⟩ := Option.bind_eq_some_iff.1 H
 obtain ⟨t_75, et_75, H⟩ := Option.bind_eq_some_iff.1 H
 obtain ⟨u_80, eu_80, H⟩ := Option.bind_eq_some_iff.1 H
 refine h_events [9, 11, 19] (by kernel_rfl) (by simp) ?_
 intro i hi; simp only [List.mem_cons, List.not_mem_nil, or_false] at hi; rcases hi with rfl | rfl | rfl
 ·refine ⟨_, (bA 21 30719), rfl, by kernel_rfl, ?_⟩
  refine s_call h rfl Try.call60 rfl (hocketlaw7_Keys.calls (shr .i64 x0 11) t_63 w0 _ _ _ (Mem.le.refl _) (hS.enter [] (by decide))  et_63) ?_
  rintro v_67 w_64 ⟨_, N_65, rfl, hS', hr_68⟩
  intro a h
  obtain ⟨N_66, hS'', le_66, ln_66⟩ := hS.call [] (by decide) rfl (l' := []) (ow := []) rfl hS'
  replace hS : Sep w0 w_64 [N_66, _, _, _] Z := hS''
  clear hS' hS''
  refine wpList_nil <| x_then_n ⟨(hS.sub (.cons le_66 (.rr (.rr (.zz .ii))))), ?_⟩
  refine h_events [11, 19] (by kernel_rfl) (by simp) ?_
  intro i hi; simp only [List.mem_cons, List.not_mem_nil, or_false] at hi; rcases hi with rfl | rfl
  ·refine ⟨_, (bA 21 32767), rfl, by kernel_rfl, ?_⟩
   have hq_73 : Reps Kd.str Mem.no ([([] : List UInt8), ([97] : List UInt8), ([98] : List UInt8), ([97, 98] : List UInt8)] : List (List UInt8)) _ := ((Reps.one (d := Kd.str) (x := ([] : List UInt8)) (show Kd.str.K _ _ [.string ⟨([] : List UInt8).toArray⟩] from rfl)).append ((Reps.one (d := Kd.str) (x := ([97] : List UInt8)) (show Kd.str.K _ _ [.string ⟨([97] : List UInt8).toArray⟩] from rfl)).append ((Reps.one (d := Kd.str) (x := ([98] : List UInt8)) (show Kd.str.K _ _ [.string ⟨([98] : List UInt8).toArray⟩] from rfl)).append ((Reps.one (d := Kd.str) (x := ([97, 98] : List UInt8)) (show Kd.str.K _ _ [.string ⟨([97, 98] : List UInt8).toArray⟩] from rfl)).append (Reps.nil Kd.str _)))))
   refine s_buildSlice h rfl U83 ti9 rfl rfl rfl (.cons rfl (.cons rfl (.cons rfl (.cons rfl .nil)))) rfl rfl rfl hS hq_73 rfl fun w_69 v_70 M_71 hS' ho_72 a h => ?_
   replace hS : Sep w0 w_69 [_, _, _, _, M_71] Z := hS'
   clear hS' hq_73
   refine wpList_nil <| x_then_n ⟨(hS.sub (.cons le_66 (.rr (.rr (.zz .nn))))), ?_⟩
   refine t_takeE 15 (bA 21 65535) rfl rfl rfl rfl h (hS.sub (.cons le_66 (.rr (.rr (.zz .nn))))) (f := fun ad => .pointer (some ad)) (r_indexO h U83 ti9 rfl rfl rfl ho_72 et_75) ?_
   rintro ad_76 ⟨cs_77, hk_78, hc_79⟩
   obtain rfl := (show cs_77 = [.string ⟨t_75.toArray⟩] from hk_78)
   intro a h
   refine h_events [16, 19] (by kernel_rfl) (by simp) ?_
   intro i hi; simp only [List.mem_cons, List.not_mem_nil, or_false] at hi; rcases hi with rfl | rfl
   ·refine ⟨_, (bA 21 131071), rfl, by kernel_rfl, ?_⟩
    refine s_load h rfl rfl (el_one (o := 0) (fun j c h => Mem.cell_le (hS.own 4) (hc_79 j c h)) U9 rfl rfl) fun a h=>wpList_nil <| x_then_n ⟨(hS.sub (.cons le_66 (.rr (.rr (.zz .nn))))), ?_⟩
    refine h_events [17, 19] (by kernel_rfl) (by simp) ?_
    intro i hi; simp only [List.mem_cons, List.not_mem_nil, or_false] at hi; rcases hi with rfl | rfl
    ·refine ⟨_, (bA 21 262143), rfl, by kernel_rfl, ?_⟩
     refine s_s2b h rfl U9 U26 U5 rfl (must_some eu_80) hS fun w_81 v_82 M_83 hS' hr_84 a h => ?_
     obtain ⟨N_85, hS'', le_85, lo_85⟩ := Sep.freeze (l := [Mem.one g_2 (.cells ([iV 0, iV 0, nS, nS, nS] : List Value).toArray 28 (0, 0)), M_5, Mem.no, M_71, M_83]) hS' 4 rfl
     replace hS : Sep w0 w_81 [N_85, _, _, _, _, Mem.no] Z := hS''
     clear hS' hS''
     refine wpList_nil <| x_then_n ⟨(hS.sub (.cons (le_66.trans le_85) (.rr (.rr (.zz .nn))))), ?_⟩
     refine t_take 18 (bA 21 524287) rfl rfl rfl rfl h (hS.sub (.cons (le_66.trans le_85) (.rr (.rr (.zz .nn))))) (v := .agg ([iV (w64 ((Int.tmod (band .i64 x0 31) 13) + 0)), iV (band .i64 (shr .i64 x0 8) 7), v_67, v_16, v_82] : List Value).toArray) (fun w hS => r_build h ti28 pl28 rfl (.cons rfl (.cons rfl (.cons (hr_68.mono ln_66).cells (.cons (hr_18.mono lo_19).cells (.cons (hr_84.mono lo_85).cells .nil))))) (cs := [iV (w64 ((Int.tmod (band .i64 x0 31) 13) + 0)), iV (band .i64 (shr .i64 x0 8) 7), v_67, v_16, v_82]) (by kernel_rfl)) fun a h=>h_event 19 (bA 21 1048575) rfl (by kernel_rfl) (by kernel_rfl) <| v_alloc h rfl ti28 hS fun w_86 g_87 hS' a h => ?_
     replace hS : Sep w0 w_86 [_, _, _, _, _, _, Mem.one g_87 (.cells ([iV 0, iV 0, nS, nS, nS] : List Value).toArray 28 (0, 0))] Z := hS'
     clear hS'
     refine wpList_nil <| x_then_n ⟨(hS.sub (.cons (le_66.trans le_85) (.rr (.rr (.zz .nn))))), ?_⟩
     refine h_event 20 (bA 21 2097151) rfl (by kernel_rfl) (by kernel_rfl) ?_
     obtain ⟨w_88, hs', hS'⟩ := hS.store (P := Try.prog) (p := 6) (o := 0) (t := 28) (v := .agg ([iV (w64 ((Int.tmod (band .i64 x0 31) 13) + 0)), iV (band .i64 (shr .i64 x0 8) 7), v_67, v_16, v_82] : List Value).toArray) (vs := [iV (w64 ((Int.tmod (band .i64 x0 31) 13) + 0)), iV (band .i64 (shr .i64 x0 8) 7), v_67, v_16, v_82]) rfl ti28 rfl rfl rfl (by intro u hu; simp only [List.mem_cons, List.not_mem_nil, or_false] at hu; rcases hu with rfl | rfl | rfl | rfl | rfl <;> first | rfl | exact (hr_68.mono ln_66).one | exact (hr_18.mono lo_19).one | exact (hr_84.mono lo_85).one)
     refine s_store h rfl rfl hs' ?_
     replace hS : Sep w0 w_88 [_, _, _, _, _, _, Mem.one g_87 (.cells ([iV (w64 ((Int.tmod (band .i64 x0 31) 13) + 0)), iV (band .i64 (shr .i64 x0 8) 7), v_67, v_16, v_82] : List Value).toArray 28 (0, 0))] Z := hS'
     clear hs' hS'
     refine wpList_nil <| x_then_n ⟨(hS.sub (.cons (le_66.trans le_85) (.rr (.rr (.zz .nn))))), ?_⟩
     refine h_done (by kernel_rfl) ?_
     replace hS : Sep w0 w_88 [_, _, _, _, _, _, _] Z := hS
     replace h : Fr 60 a [(0, _), (2, .pointer (some ⟨g_2, 0, none⟩)), (4, .pointer (some ⟨g_87, 0, none⟩))] := h.keep [0, 2, 4]
     exact x_then_n (hJ_j_31 (⟨w64 ((Int.tmod (band .i64 x0 31) 13) + 0), band .i64 (shr .i64 x0 8) 7, t_63, t_9, t_75⟩ : api_Cmd) H _ _ ⟨v_67, v_16, v_82, g_87, N_85, h, (Sep.sel hS [0, 1, 1001, 1002, 6] (by decide)), (le_66.trans le_85), ((hr_68.mono ln_66).mono le_85), ((hr_18.mono lo_19).mono (le_66.trans le_85)), (hr_84.mono lo_85)⟩)
    ·refine ⟨_, (bA 21 655359), rfl, by kernel_rfl, ?_⟩
     refine v_alloc h rfl ti28 hS fun w_89 g_90 hS' a h => ?_
     replace hS : Sep w0 w_89 [_, _, _, _, _, Mem.one g_90 (.cells ([iV 0, iV 0, nS, nS, nS] : List Value).toArray 28 (0, 0))] Z := hS'
     clear hS'
     refine wpList_nil <| x_then_n ⟨(hS.sub (.cons le_66 (.rr (.rr (.zz .nn))))), ?_⟩
     refine h_event 17 (bA 21 786431) rfl (by kernel_rfl) (by kernel_rfl) <| s_s2b h rfl U9 U26 U5 rfl (must_some eu_80) hS fun w_92 v_93 M_94 hS' hr_95 a h => ?_
     obtain ⟨N_96, hS'', le_96, lo_96⟩ := Sep.freeze (l := [Mem.one g_2 (.cells ([iV 0, iV 0, nS, nS, nS] : List Value).toArray 28 (0, 0)), M_5, Mem.no, M_71, Mem.one g_90 (.cells ([iV 0, iV 0, nS, nS, nS] : List Value).toArray 28 (0, 0)), M_94]) hS' 5 rfl
     replace hS : Sep w0 w_92 [N_96, _, _, _, _, _, Mem.no] Z := hS''
     clear hS' hS''
     refine wpList_nil <| x_then_n ⟨(hS.sub (.cons (le_66.trans le_96) (.rr (.rr (.zz .nn))))), ?_⟩
     refine t_take 18 (bA 21 1048575) rfl rfl rfl rfl h (hS.sub (.cons (le_66.trans le_96) (.rr (.rr (.zz .nn))))) (v := .agg ([iV (w64 ((Int.tmod (band .i64 x0 31) 13) + 0)), iV (band .i64 (shr .i64 x0 8) 7), v_67, v_16, v_93] : List Value).toArray) (fun w hS => r_build h ti28 pl28 rfl (.cons rfl (.cons rfl (.cons (hr_68.mono ln_66).cells (.cons (hr_18.mono lo_19).cells (.cons (hr_95.mono lo_96).cells .nil))))) (cs := [iV (w64 ((Int.tmod (band .i64 x0 31) 13) + 0)), iV (band .i64 (shr .i64 x0 8) 7), v_67, v_16, v_93]) (by kernel_rfl)) fun a h=>h_event 20 (bA 21 2097151) rfl (by kernel_rfl) (by kernel_rfl) ?_
     obtain ⟨w_97, hs', hS'⟩ := hS.store (P := Try.prog) (p := 5) (o := 0) (t := 28) (v := .agg ([iV (w64 ((Int.tmod (band .i64 x0 31) 13) + 0)), iV (band .i64 (shr .i64 x0 8) 7), v_67, v_16, v_93] : List Value).toArray) (vs := [iV (w64 ((Int.tmod (band .i64 x0 31) 13) + 0)), iV (band .i64 (shr .i64 x0 8) 7), v_67, v_16, v_93]) rfl ti28 rfl rfl rfl (by intro u hu; simp only [List.mem_cons, List.not_mem_nil, or_false] at hu; rcases hu with rfl | rfl | rfl | rfl | rfl <;> first | rfl | exact (hr_68.mono ln_66).one | exact (hr_18.mono lo_19).one | exact (hr_95.mono lo_96).one)
     refine s_store h rfl rfl hs' ?_
     replace hS : Sep w0 w_97 [_, _, _, _, _, Mem.one g_90 (.cells ([iV (w64 ((Int.tmod (band .i64 x0 31) 13) + 0)), iV (band .i64 (shr .i64 x0 8) 7), v_67, v_16, v_93] : List Value).toArray 28 (0, 0)), _] Z := hS'
     clear hs' hS'
     refine wpList_nil <| x_then_n ⟨(hS.sub (.cons (le_66.trans le_96) (.rr (.rr (.zz .nn))))), ?_⟩
     refine h_done (by kernel_rfl) ?_
     replace hS : Sep w0 w_97 [_, _, _, _, _, _, _] Z := hS
     replace h : Fr 60 a [(0, _), (2, .pointer (some ⟨g_2, 0, none⟩)), (4, .pointer (some ⟨g_90, 0, none⟩))] := h.keep [0, 2, 4]
     exact x_then_n (hJ_j_31 (⟨w64 ((Int.tmod (band .i64 x0 31) 13) + 0), band .i64 (shr .i64 x0 8) 7, t_63, t_9, t_75⟩ : api_Cmd) H _ _ ⟨v_67, v_16, v_93, g_90, N_96, h, (Sep.sel hS [0, 1, 1001, 1002, 5] (by decide)), (le_66.trans le_96), ((hr_68.mono ln_66).mono le_96), ((hr_18.mono lo_19).mono (le_66.trans le_96)), (hr_95.mono lo_96)⟩)
   ·refine ⟨_, (bA 21 589823), rfl, by kernel_rfl, ?_⟩
    refine v_alloc h rfl ti28 hS fun w_98 g_99 hS' a h => ?_
    replace hS : Sep w0 w_98 [_, _, _, _, _, Mem.one g_99 (.cells ([iV 0, iV 0, nS, nS, nS] : List Value).toArray 28 (0, 0))] Z := hS'
    clear hS'
    refine wpList_nil <| x_then_n ⟨(hS.sub (.cons le_66 (.rr (.rr (.zz .nn))))), ?_⟩
    refine h_event 16 (bA 21 655359) rfl (by kernel_rfl) (by kernel_rfl) <| s_load h rfl rfl (el_one (o := 0) (fun j c h => Mem.cell_le (hS.own 4) (hc_79 j c h)) U9 rfl rfl) fun a h=>wpList_nil <| x_then_n ⟨(hS.sub (.cons le_66 (.rr (.rr (.zz .nn))))), ?_⟩
    refine h_event 17 (bA 21 786431) rfl (by kernel_rfl) (by kernel_rfl) <| s_s2b h rfl U9 U26 U5 rfl (must_some eu_80) hS fun w_101 v_102 M_103 hS' hr_104 a h => ?_
    obtain ⟨N_105, hS'', le_105, lo_105⟩ := Sep.freeze (l := [Mem.one g_2 (.cells ([iV 0, iV 0, nS, nS, nS] : List Value).toArray 28 (0, 0)), M_5, Mem.no, M_71, Mem.one g_99 (.cells ([iV 0, iV 0, nS, nS, nS] : List Value).toArray 28 (0, 0)), M_103]) hS' 5 rfl
    replace hS : Sep w0 w_101 [N_105, _, _, _, _, _, Mem.no] Z := hS''
    clear hS' hS''
    refine wpList_nil <| x_then_n ⟨(hS.sub (.cons (le_66.trans le_105) (.rr (.rr (.zz .nn))))), ?_⟩
    refine t_take 18 (bA 21 1048575) rfl rfl rfl rfl h (hS.sub (.cons (le_66.trans le_105) (.rr (.rr (.zz .nn))))) (v := .agg ([iV (w64 ((Int.tmod (band .i64 x0 31) 13) + 0)), iV (band .i64 (shr .i64 x0 8) 7), v_67, v_16, v_102] : List Value).toArray) (fun w hS => r_build h ti28 pl28 rfl (.cons rfl (.cons rfl (.cons (hr_68.mono ln_66).cells (.cons (hr_18.mono lo_19).cells (.cons (hr_104.mono lo_105).cells .nil))))) (cs := [iV (w64 ((Int.tmod (band .i64 x0 31) 13) + 0)), iV (band .i64 (shr .i64 x0 8) 7), v_67, v_16, v_102]) (by kernel_rfl)) fun a h=>h_event 20 (bA 21 2097151) rfl (by kernel_rfl) (by kernel_rfl) ?_
    obtain ⟨w_106, hs', hS'⟩ := hS.store (P := Try.prog) (p := 5) (o := 0) (t := 28) (v := .agg ([iV (w64 ((Int.tmod (band .i64 x0 31) 13) + 0)), iV (band .i64 (shr .i64 x0 8) 7), v_67, v_16, v_102] : List Value).toArray) (vs := [iV (w64 ((Int.tmod (band .i64 x0 31) 13) + 0)), iV (band .i64 (shr .i64 x0 8) 7), v_67, v_16, v_102]) rfl ti28 rfl rfl rfl (by intro u hu; simp only [List.mem_cons, List.not_mem_nil, or_false] at hu; rcases hu with rfl | rfl | rfl | rfl | rfl <;> first | rfl | exact (hr_68.mono ln_66).one | exact (hr_18.mono lo_19).one | exact (hr_104.mono lo_105).one)
    refine s_store h rfl rfl hs' ?_
    replace hS : Sep w0 w_106 [_, _, _, _, _, Mem.one g_99 (.cells ([iV (w64 ((Int.tmod (band .i64 x0 31) 13) + 0)), iV (band .i64 (shr .i64 x0 8) 7), v_67, v_16, v_102] : List Value).toArray 28 (0, 0)), _] Z := hS'
    clear hs' hS'
    refine wpList_nil <| x_then_n ⟨(hS.sub (.cons (le_66.trans le_105) (.rr (.rr (.zz .nn))))), ?_⟩
    refine h_done (by kernel_rfl) ?_
    replace hS : Sep w0 w_106 [_, _, _, _, _, _, _] Z := hS
    replace h : Fr 60 a [(0, _), (2, .pointer (some ⟨g_2, 0, none⟩)), (4, .pointer (some ⟨g_99, 0, none⟩))] := h.keep [0, 2, 4]
    exact x_then_n (hJ_j_31 (⟨w64 ((Int.tmod (band .i64 x0 31) 13) + 0), band .i64 (shr .i64 x0 8) 7, t_63, t_9, t_75⟩ : api_Cmd) H _ _ ⟨v_67, v_16, v_102, g_99, N_105, h, (Sep.sel hS [0, 1, 1001, 1002, 5] (by decide)), (le_66.trans le_105), ((hr_68.mono ln_66).mono le_105), ((hr_18.mono lo_19).mono (le_66.trans le_105)), (hr_104.mono lo_105)⟩)
  ·refine ⟨_, (bA 21 555007), rfl, by kernel_rfl, ?_⟩
   refine v_alloc h rfl ti28 hS fun w_107 g_108 hS' a h => ?_
   replace hS : Sep w0 w_107 [_, _, _, _, Mem.one g_108 (.cells ([iV 0, iV 0, nS, nS, nS] : List Value).toArray 28 (0, 0))] Z := hS'
   clear hS'
   refine wpList_nil <| x_then_n ⟨(hS.sub (.cons le_66 (.rr (.rr (.zz .nn))))), ?_⟩
   refine h_event 11 (bA 21 557055) rfl (by kernel_rfl) (by kernel_rfl) ?_
   have hq_113 : Reps Kd.str Mem.no ([([] : List UInt8), ([97] : List UInt8), ([98] : List UInt8), ([97, 98] : List UInt8)] : List (List UInt8)) _ := ((Reps.one (d := Kd.str) (x := ([] : List UInt8)) (show Kd.str.K _ _ [.string ⟨([] : List UInt8).toArray⟩] from rfl)).append ((Reps.one (d := Kd.str) (x := ([97] : List UInt8)) (show Kd.str.K _ _ [.string ⟨([97] : List UInt8).toArray⟩] from rfl)).append ((Reps.one (d := Kd.str) (x := ([98] : List UInt8)) (show Kd.str.K _ _ [.string ⟨([98] : List UInt8).toArray⟩] from rfl)).append ((Reps.one (d := Kd.str) (x := ([97, 98] : List UInt8)) (show Kd.str.K _ _ [.string ⟨([97, 98] : List UInt8).toArray⟩] from rfl)).append (Reps.nil Kd.str _)))))
   refine s_buildSlice h rfl U83 ti9 rfl rfl rfl (.cons rfl (.cons rfl (.cons rfl (.cons rfl .nil)))) rfl rfl rfl hS hq_113 rfl fun w_109 v_110 M_111 hS' ho_112 a h => ?_
   replace hS : Sep w0 w_109 [_, _, _, _, _, M_111] Z := hS'
   clear hS' hq_113
   refine wpList_nil <| x_then_n ⟨(hS.sub (.cons le_66 (.rr (.rr (.zz .nn))))), ?_⟩
   refine t_takeE 15 (bA 21 589823) rfl rfl rfl rfl h (hS.sub (.cons le_66 (.rr (.rr (.zz .nn))))) (f := fun ad => .pointer (some ad)) (r_indexO h U83 ti9 rfl rfl rfl ho_112 et_75) ?_
   rintro ad_116 ⟨cs_117, hk_118, hc_119⟩
   obtain rfl := (show cs_117 = [.string ⟨t_75.toArray⟩] from hk_118)
   intro a h
   refine h_event 16 (bA 21 655359) rfl (by kernel_rfl) (by kernel_rfl) <| s_load h rfl rfl (el_one (o := 0) (fun j c h => Mem.cell_le (hS.own 5) (hc_119 j c h)) U9 rfl rfl) fun a h=>wpList_nil <| x_then_n ⟨(hS.sub (.cons le_66 (.rr (.rr (.zz .nn))))), ?_⟩
   refine h_event 17 (bA 21 786431) rfl (by kernel_rfl) (by kernel_rfl) <| s_s2b h rfl U9 U26 U5 rfl (must_some eu_80) hS fun w_121 v_122 M_123 hS' hr_124 a h => ?_
   obtain ⟨N_125, hS'', le_125, lo_125⟩ := Sep.freeze (l := [Mem.one g_2 (.cells ([iV 0, iV 0, nS, nS, nS] : List Value).toArray 28 (0, 0)), M_5, Mem.no, Mem.one g_108 (.cells ([iV 0, iV 0, nS, nS, nS] : List Value).toArray 28 (0, 0)), M_111, M_123]) hS' 5 rfl
   replace hS : Sep w0 w_121 [N_125, _, _, _, _, _, Mem.no] Z := hS''
   clear hS' hS''
   refine wpList_nil <| x_then_n ⟨(hS.sub (.cons (le_66.trans le_125) (.rr (.rr (.zz .nn))))), ?_⟩
   refine t_take 18 (bA 21 1048575) rfl rfl rfl rfl h (hS.sub (.cons (le_66.trans le_125) (.rr (.rr (.zz .nn))))) (v := .agg ([iV (w64 ((Int.tmod (band .i64 x0 31) 13) + 0)), iV (band .i64 (shr .i64 x0 8) 7), v_67, v_16, v_122] : List Value).toArray) (fun w hS => r_build h ti28 pl28 rfl (.cons rfl (.cons rfl (.cons (hr_68.mono ln_66).cells (.cons (hr_18.mono lo_19).cells (.cons (hr_124.mono lo_125).cells .nil))))) (cs := [iV (w64 ((Int.tmod (band .i64 x0 31) 13) + 0)), iV (band .i64 (shr .i64 x0 8) 7), v_67, v_16, v_122]) (by kernel_rfl)) fun a h=>h_event 20 (bA 21 2097151) rfl (by kernel_rfl) (by kernel_rfl) ?_
   obtain ⟨w_126, hs', hS'⟩ := hS.store (P := Try.prog) (p := 4) (o := 0) (t := 28) (v := .agg ([iV (w64 ((Int.tmod (band .i64 x0 31) 13) + 0)), iV (band .i64 (shr .i64 x0 8) 7), v_67, v_16, v_122] : List Value).toArray) (vs := [iV (w64 ((Int.tmod (band .i64 x0 31) 13) + 0)), iV (band .i64 (shr .i64 x0 8) 7), v_67, v_16, v_122]) rfl ti28 rfl rfl rfl (by intro u hu; simp only [List.mem_cons, List.not_mem_nil, or_false] at hu; rcases hu with rfl | rfl | rfl | rfl | rfl <;> first | rfl | exact (hr_68.mono ln_66).one | exact (hr_18.mono lo_19).one | exact (hr_124.mono lo_125).one)
   refine s_store h rfl rfl hs' ?_
   replace hS : Sep w0 w_126 [_, _, _, _, Mem.one g_108 (.cells ([iV (w64 ((Int.tmod (band .i64 x0 31) 13) + 0)), iV (band .i64 (shr .i64 x0 8) 7), v_67, v_16, v_122] : List Value).toArray 28 (0, 0)), _, _] Z := hS'
   clear hs' hS'
   refine wpList_nil <| x_then_n ⟨(hS.sub (.cons (le_66.trans le_125) (.rr (.rr (.zz .nn))))), ?_⟩
   refine h_done (by kernel_rfl) ?_
   replace hS : Sep w0 w_126 [_, _, _, _, _, _, _] Z := hS
   replace h : Fr 60 a [(0, _), (2, .pointer (some ⟨g_2, 0, none⟩)), (4, .pointer (some ⟨g_108, 0, none⟩))] := h.keep [0, 2, 4]
   exact x_then_n (hJ_j_31 (⟨w64 ((Int.tmod (band .i64 x0 31) 13) + 0), band .i64 (shr .i64 x0 8) 7, t_63, t_9, t_75⟩ : api_Cmd) H _ _ ⟨v_67, v_16, v_122, g_108, N_125, h, (Sep.sel hS [0, 1, 1001, 1002, 4] (by decide)), (le_66.trans le_125), ((hr_68.mono ln_66).mono le_125), ((hr_18.mono lo_19).mono (le_66.trans le_125)), (hr_124.mono lo_125)⟩)
 ·refine ⟨_, (bA 21 32255), rfl, by kernel_rfl, ?_⟩
  have hq_131 : Reps Kd.str Mem.no ([([] : List UInt8), ([97] : List UInt8), ([98] : List UInt8), ([97, 98] : List UInt8)] : List (List UInt8)) _ := ((Reps.one (d := Kd.str) (x := ([] : List UInt8)) (show Kd.str.K _ _ [.string ⟨([] : List UInt8).toArray⟩] from rfl)).append ((Reps.one (d := Kd.str) (x := ([97] : List UInt8)) (show Kd.str.K _ _ [.string ⟨([97] : List UInt8).toArray⟩] from rfl)).append ((Reps.one (d := Kd.str) (x := ([98] : List UInt8)) (show Kd.str.K _ _ [.string ⟨([98] : List UInt8).toArray⟩] from rfl)).append ((Reps.one (d := Kd.str) (x := ([97, 98] : List UInt8)) (show Kd.str.K _ _ [.string ⟨([97, 98] : List UInt8).toArray⟩] from rfl)).append (Reps.nil Kd.str _)))))
  refine s_buildSlice h rfl U83 ti9 rfl rfl rfl (.cons rfl (.cons rfl (.cons rfl (.cons rfl .nil)))) rfl rfl rfl hS hq_131 rfl fun w_127 v_128 M_129 hS' ho_130 a h => ?_
  replace hS : Sep w0 w_127 [_, _, _, _, M_129] Z := hS'
  clear hS' hq_131
  refine wpList_nil <| x_then_n ⟨(hS.sub (.cons (Mem.le.refl _) (.rr (.rr (.zz .nn))))), ?_⟩
  refine t_takeE 15 (bA 21 65023) rfl rfl rfl rfl h (hS.sub (.cons (Mem.le.refl _) (.rr (.rr (.zz .nn))))) (f := fun ad => .pointer (some ad)) (r_indexO h U83 ti9 rfl rfl rfl ho_130 et_75) ?_
  rintro ad_134 ⟨cs_135, hk_136, hc_137⟩
  obtain rfl := (show cs_135 = [.string ⟨t_75.toArray⟩] from hk_136)
  intro a h
  refine h_events [9, 16, 19] (by kernel_rfl) (by simp) ?_
  intro i hi; simp only [List.mem_cons, List.not_mem_nil, or_false] at hi; rcases hi with rfl | rfl | rfl
  ·refine ⟨_, (bA 21 65535), rfl, by kernel_rfl, ?_⟩
   refine s_call h rfl Try.call60 rfl (hocketlaw7_Keys.calls (shr .i64 x0 11) t_63 w0 _ _ _ (Mem.le.refl _) (hS.enter [] (by decide))  et_63) ?_
   rintro v_142 w_139 ⟨_, N_140, rfl, hS', hr_143⟩
   intro a h
   obtain ⟨N_141, hS'', le_141, ln_141⟩ := hS.call [] (by decide) rfl (l' := []) (ow := []) rfl hS'
   replace hS : Sep w0 w_139 [N_141, _, _, _, _] Z := hS''
   clear hS' hS''
   refine wpList_nil <| x_then_n ⟨(hS.sub (.cons le_141 (.rr (.rr (.zz .nn))))), ?_⟩
   refine h_events [16, 19] (by kernel_rfl) (by simp) ?_
   intro i hi; simp only [List.mem_cons, List.not_mem_nil, or_false] at hi; rcases hi with rfl | rfl
   ·refine ⟨_, (bA 21 131071), rfl, by kernel_rfl, ?_⟩
    refine s_load h rfl rfl (el_one (o := 0) (fun j c h => Mem.cell_le (hS.own 4) (hc_137 j c h)) U9 rfl rfl) fun a h=>wpList_nil <| x_then_n ⟨(hS.sub (.cons le_141 (.rr (.rr (.zz .nn))))), ?_⟩
    refine h_events [17, 19] (by kernel_rfl) (by simp) ?_
    intro i hi; simp only [List.mem_cons, List.not_mem_nil, or_false] at hi; rcases hi with rfl | rfl
    ·refine ⟨_, (bA 21 262143), rfl, by kernel_rfl, ?_⟩
     refine s_s2b h rfl U9 U26 U5 rfl (must_some eu_80) hS fun w_145 v_146 M_147 hS' hr_148 a h => ?_
     obtain ⟨N_149, hS'', le_149, lo_149⟩ := Sep.freeze (l := [Mem.one g_2 (.cells ([iV 0, iV 0, nS, nS, nS] : List Value).toArray 28 (0, 0)), M_5, Mem.no, M_129, M_147]) hS' 4 rfl
     replace hS : Sep w0 w_145 [N_149, _, _, _, _, Mem.no] Z := hS''
     clear hS' hS''
     refine wpList_nil <| x_then_n ⟨(hS.sub (.cons (le_141.trans le_149) (.rr (.rr (.zz .nn))))), ?_⟩
     refine t_take 18 (bA 21 524287) rfl rfl rfl rfl h (hS.sub (.cons (le_141.trans le_149) (.rr (.rr (.zz .nn))))) (v := .agg ([iV (w64 ((Int.tmod (band .i64 x0 31) 13) + 0)), iV (band .i64 (shr .i64 x0 8) 7), v_142, v_16, v_146] : List Value).toArray) (fun w hS => r_build h ti28 pl28 rfl (.cons rfl (.cons rfl (.cons (hr_143.mono ln_141).cells (.cons (hr_18.mono lo_19).cells (.cons (hr_148.mono lo_149).cells .nil))))) (cs := [iV (w64 ((Int.tmod (band .i64 x0 31) 13) + 0)), iV (band .i64 (shr .i64 x0 8) 7), v_142, v_16, v_146]) (by kernel_rfl)) fun a h=>h_event 19 (bA 21 1048575) rfl (by kernel_rfl) (by kernel_rfl) <| v_alloc h rfl ti28 hS fun w_150 g_151 hS' a h => ?_
     replace hS : Sep w0 w_150 [_, _, _, _, _, _, Mem.one g_151 (.cells ([iV 0, iV 0, nS, nS, nS] : List Value).toArray 28 (0, 0))] Z := hS'
     clear hS'
     refine wpList_nil <| x_then_n ⟨(hS.sub (.cons (le_141.trans le_149) (.rr (.rr (.zz .nn))))), ?_⟩
     refine h_event 20 (bA 21 2097151) rfl (by kernel_rfl) (by kernel_rfl) ?_
     obtain ⟨w_152, hs', hS'⟩ := hS.store (P := Try.prog) (p := 6) (o := 0) (t := 28) (v := .agg ([iV (w64 ((Int.tmod (band .i64 x0 31) 13) + 0)), iV (band .i64 (shr .i64 x0 8) 7), v_142, v_16, v_146] : List Value).toArray) (vs := [iV (w64 ((Int.tmod (band .i64 x0 31) 13) + 0)), iV (band .i64 (shr .i64 x0 8) 7), v_142, v_16, v_146]) rfl ti28 rfl rfl rfl (by intro u hu; simp only [List.mem_cons, List.not_mem_nil, or_false] at hu; rcases hu with rfl | rfl | rfl | rfl | rfl <;> first | rfl | exact (hr_143.mono ln_141).one | exact (hr_18.mono lo_19).one | exact (hr_148.mono lo_149).one)
     refine s_store h rfl rfl hs' ?_
     replace hS : Sep w0 w_152 [_, _, _, _, _, _, Mem.one g_151 (.cells ([iV (w64 ((Int.tmod (band .i64 x0 31) 13) + 0)), iV (band .i64 (shr .i64 x0 8) 7), v_142, v_16, v_146] : List Value).toArray 28 (0, 0))] Z := hS'
     clear hs' hS'
     refine wpList_nil <| x_then_n ⟨(hS.sub (.cons (le_141.trans le_149) (.rr (.rr (.zz .nn))))), ?_⟩
     refine h_done (by kernel_rfl) ?_
     replace hS : Sep w0 w_152 [_, _, _, _, _, _, _] Z := hS
     replace h : Fr 60 a [(0, _), (2, .pointer (some ⟨g_2, 0, none⟩)), (4, .pointer (some ⟨g_151, 0, none⟩))] := h.keep [0, 2, 4]
     exact x_then_n (hJ_j_31 (⟨w64 ((Int.tmod (band .i64 x0 31) 13) + 0), band .i64 (shr .i64 x0 8) 7, t_63, t_9, t_75⟩ : api_Cmd) H _ _ ⟨v_142, v_16, v_146, g_151, N_149, h, (Sep.sel hS [0, 1, 1001, 1002, 6] (by decide)), (le_141.trans le_149), ((hr_143.mono ln_141).mono le_149), ((hr_18.mono lo_19).mono (le_141.trans le_149)), (hr_148.mono lo_149)⟩)
    ·refine ⟨_, (bA 21 655359), rfl, by kernel_rfl, ?_⟩
     refine v_alloc h rfl ti28 hS fun w_153 g_154 hS' a h => ?_
     replace hS : Sep w0 w_153 [_, _, _, _, _, Mem.one g_154 (.cells ([iV 0, iV 0, nS, nS, nS] : List Value).toArray 28 (0, 0))] Z := hS'
     clear hS'
     refine wpList_nil <| x_then_n ⟨(hS.sub (.cons le_141 (.rr (.rr (.zz .nn))))), ?_⟩
     refine h_event 17 (bA 21 786431) rfl (by kernel_rfl) (by kernel_rfl) <| s_s2b h rfl U9 U26 U5 rfl (must_some eu_80) hS fun w_156 v_157 M_158 hS' hr_159 a h => ?_
     obtain ⟨N_160, hS'', le_160, lo_160⟩ := Sep.freeze (l := [Mem.one g_2 (.cells ([iV 0, iV 0, nS, nS, nS] : List Value).toArray 28 (0, 0)), M_5, Mem.no, M_129, Mem.one g_154 (.cells ([iV 0, iV 0, nS, nS, nS] : List Value).toArray 28 (0, 0)), M_158]) hS' 5 rfl
     replace hS : Sep w0 w_156 [N_160, _, _, _, _, _, Mem.no] Z := hS''
     clear hS' hS''
     refine wpList_nil <| x_then_n ⟨(hS.sub (.cons (le_141.trans le_160) (.rr (.rr (.zz .nn))))), ?_⟩
     refine t_take 18 (bA 21 1048575) rfl rfl rfl rfl h (hS.sub (.cons (le_141.trans le_160) (.rr (.rr (.zz .nn))))) (v := .agg ([iV (w64 ((Int.tmod (band .i64 x0 31) 13) + 0)), iV (band .i64 (shr .i64 x0 8) 7), v_142, v_16, v_157] : List Value).toArray) (fun w hS => r_build h ti28 pl28 rfl (.cons rfl (.cons rfl (.cons (hr_143.mono ln_141).cells (.cons (hr_18.mono lo_19).cells (.cons (hr_159.mono lo_160).cells .nil))))) (cs := [iV (w64 ((Int.tmod (band .i64 x0 31) 13) + 0)), iV (band .i64 (shr .i64 x0 8) 7), v_142, v_16, v_157]) (by kernel_rfl)) fun a h=>h_event 20 (bA 21 2097151) rfl (by kernel_rfl) (by kernel_rfl) ?_
     obtain ⟨w_161, hs', hS'⟩ := hS.store (P := Try.prog) (p := 5) (o := 0) (t := 28) (v := .agg ([iV (w64 ((Int.tmod (band .i64 x0 31) 13) + 0)), iV (band .i64 (shr .i64 x0 8) 7), v_142, v_16, v_157] : List Value).toArray) (vs := [iV (w64 ((Int.tmod (band .i64 x0 31) 13) + 0)), iV (band .i64 (shr .i64 x0 8) 7), v_142, v_16, v_157]) rfl ti28 rfl rfl rfl (by intro u hu; simp only [List.mem_cons, List.not_mem_nil, or_false] at hu; rcases hu with rfl | rfl | rfl | rfl | rfl <;> first | rfl | exact (hr_143.mono ln_141).one | exact (hr_18.mono lo_19).one | exact (hr_159.mono lo_160).one)
     refine s_store h rfl rfl hs' ?_
     replace hS : Sep w0 w_161 [_, _, _, _, _, Mem.one g_154 (.cells ([iV (w64 ((Int.tmod (band .i64 x0 31) 13) + 0)), iV (band .i64 (shr .i64 x0 8) 7), v_142, v_16, v_157] : List Value).toArray 28 (0, 0)), _] Z := hS'
     clear hs' hS'
     refine wpList_nil <| x_then_n ⟨(hS.sub (.cons (le_141.trans le_160) (.rr (.rr (.zz .nn))))), ?_⟩
     refine h_done (by kernel_rfl) ?_
     replace hS : Sep w0 w_161 [_, _, _, _, _, _, _] Z := hS
     replace h : Fr 60 a [(0, _), (2, .pointer (some ⟨g_2, 0, none⟩)), (4, .pointer (some ⟨g_154, 0, none⟩))] := h.keep [0, 2, 4]
     exact x_then_n (hJ_j_31 (⟨w64 ((Int.tmod (band .i64 x0 31) 13) + 0), band .i64 (shr .i64 x0 8) 7, t_63, t_9, t_75⟩ : api_Cmd) H _ _ ⟨v_142, v_16, v_157, g_154, N_160, h, (Sep.sel hS [0, 1, 1001, 1002, 5] (by decide)), (le_141.trans le_160), ((hr_143.mono ln_141).mono le_160), ((hr_18.mono lo_19).mono (le_141.trans le_160)), (hr_159.mono lo_160)⟩)
   ·refine ⟨_, (bA 21 589823), rfl, by kernel_rfl, ?_⟩
    refine v_alloc h rfl ti28 hS fun w_162 g_163 hS' a h => ?_
    replace hS : Sep w0 w_162 [_, _, _, _, _, Mem.one g_163 (.cells ([iV 0, iV 0, nS, nS, nS] : List Value).toArray 28 (0, 0))] Z := hS'
    clear hS'
    refine wpList_nil <| x_then_n ⟨(hS.sub (.cons le_141 (.rr (.rr (.zz .nn))))), ?_⟩
    refine h_event 16 (bA 21 655359) rfl (by kernel_rfl) (by kernel_rfl) <| s_load h rfl rfl (el_one (o := 0) (fun j c h => Mem.cell_le (hS.own 4) (hc_137 j c h)) U9 rfl rfl) fun a h=>wpList_nil <| x_then_n ⟨(hS.sub (.cons le_141 (.rr (.rr (.zz .nn))))), ?_⟩
    refine h_event 17 (bA 21 786431) rfl (by kernel_rfl) (by kernel_rfl) <| s_s2b h rfl U9 U26 U5 rfl (must_some eu_80) hS fun w_165 v_166 M_167 hS' hr_168 a h => ?_
    obtain ⟨N_169, hS'', le_169, lo_169⟩ := Sep.freeze (l := [Mem.one g_2 (.cells ([iV 0, iV 0, nS, nS, nS] : List Value).toArray 28 (0, 0)), M_5, Mem.no, M_129, Mem.one g_163 (.cells ([iV 0, iV 0, nS, nS, nS] : List Value).toArray 28 (0, 0)), M_167]) hS' 5 rfl
    replace hS : Sep w0 w_165 [N_169, _, _, _, _, _, Mem.no] Z := hS''
    clear hS' hS''
    refine wpList_nil <| x_then_n ⟨(hS.sub (.cons (le_141.trans le_169) (.rr (.rr (.zz .nn))))), ?_⟩
    refine t_take 18 (bA 21 1048575) rfl rfl rfl rfl h (hS.sub (.cons (le_141.trans le_169) (.rr (.rr (.zz .nn))))) (v := .agg ([iV (w64 ((Int.tmod (band .i64 x0 31) 13) + 0)), iV (band .i64 (shr .i64 x0 8) 7), v_142, v_16, v_166] : List Value).toArray) (fun w hS => r_build h ti28 pl28 rfl (.cons rfl (.cons rfl (.cons (hr_143.mono ln_141).cells (.cons (hr_18.mono lo_19).cells (.cons (hr_168.mono lo_169).cells .nil))))) (cs := [iV (w64 ((Int.tmod (band .i64 x0 31) 13) + 0)), iV (band .i64 (shr .i64 x0 8) 7), v_142, v_16, v_166]) (by kernel_rfl)) fun a h=>h_event 20 (bA 21 2097151) rfl (by kernel_rfl) (by kernel_rfl) ?_
    obtain ⟨w_170, hs', hS'⟩ := hS.store (P := Try.prog) (p := 5) (o := 0) (t := 28) (v := .agg ([iV (w64 ((Int.tmod (band .i64 x0 31) 13) + 0)), iV (band .i64 (shr .i64 x0 8) 7), v_142, v_16, v_166] : List Value).toArray) (vs := [iV (w64 ((Int.tmod (band .i64 x0 31) 13) + 0)), iV (band .i64 (shr .i64 x0 8) 7), v_142, v_16, v_166]) rfl ti28 rfl rfl rfl (by intro u hu; simp only [List.mem_cons, List.not_mem_nil, or_false] at hu; rcases hu with rfl | rfl | rfl | rfl | rfl <;> first | rfl | exact (hr_143.mono ln_141).one | exact (hr_18.mono lo_19).one | exact (hr_168.mono lo_169).one)
    refine s_store h rfl rfl hs' ?_
    replace hS : Sep w0 w_170 [_, _, _, _, _, Mem.one g_163 (.cells ([iV (w64 ((Int.tmod (band .i64 x0 31) 13) + 0)), iV (band .i64 (shr .i64 x0 8) 7), v_142, v_16, v_166] : List Value).toArray 28 (0, 0)), _] Z := hS'
    clear hs' hS'
    refine wpList_nil <| x_then_n ⟨(hS.sub (.cons (le_141.trans le_169) (.rr (.rr (.zz .nn))))), ?_⟩
    refine h_done (by kernel_rfl) ?_
    replace hS : Sep w0 w_170 [_, _, _, _, _, _, _] Z := hS
    replace h : Fr 60 a [(0, _), (2, .pointer (some ⟨g_2, 0, none⟩)), (4, .pointer (some ⟨g_163, 0, none⟩))] := h.keep [0, 2, 4]
    exact x_then_n (hJ_j_31 (⟨w64 ((Int.tmod (band .i64 x0 31) 13) + 0), band .i64 (shr .i64 x0 8) 7, t_63, t_9, t_75⟩ : api_Cmd) H _ _ ⟨v_142, v_16, v_166, g_163, N_169, h, (Sep.sel hS [0, 1, 1001, 1002, 5] (by decide)), (le_141.trans le_169), ((hr_143.mono ln_141).mono le_169), ((hr_18.mono lo_19).mono (le_141.trans le_169)), (hr_168.mono lo_169)⟩)
  ·refine ⟨_, (bA 21 130559), rfl, by kernel_rfl, ?_⟩
   refine s_load h rfl rfl (el_one (o := 0) (fun j c h => Mem.cell_le (hS.own 4) (hc_137 j c h)) U9 rfl rfl) fun a h=>wpList_nil <| x_then_n ⟨(hS.sub (.cons (Mem.le.refl _) (.rr (.rr (.zz .nn))))), ?_⟩
   refine h_events [9, 17, 19] (by kernel_rfl) (by simp) ?_
   intro i hi; simp only [List.mem_cons, List.not_mem_nil, or_false] at hi; rcases hi with rfl | rfl | rfl
   ·refine ⟨_, (bA 21 131071), rfl, by kernel_rfl, ?_⟩
    refine s_call h rfl Try.call60 rfl (hocketlaw7_Keys.calls (shr .i64 x0 11) t_63 w0 _ _ _ (Mem.le.refl _) (hS.enter [] (by decide))  et_63) ?_
    rintro v_175 w_172 ⟨_, N_173, rfl, hS', hr_176⟩
    intro a h
    obtain ⟨N_174, hS'', le_174, ln_174⟩ := hS.call [] (by decide) rfl (l' := []) (ow := []) rfl hS'
    replace hS : Sep w0 w_172 [N_174, _, _, _, _] Z := hS''
    clear hS' hS''
    refine wpList_nil <| x_then_n ⟨(hS.sub (.cons le_174 (.rr (.rr (.zz .nn))))), ?_⟩
    refine h_events [17, 19] (by kernel_rfl) (by simp) ?_
    intro i hi; simp only [List.mem_cons, List.not_mem_nil, or_false] at hi; rcases hi with rfl | rfl
    ·refine ⟨_, (bA 21 262143), rfl, by kernel_rfl, ?_⟩
     refine s_s2b h rfl U9 U26 U5 rfl (must_some eu_80) hS fun w_178 v_179 M_180 hS' hr_181 a h => ?_
     obtain ⟨N_182, hS'', le_182, lo_182⟩ := Sep.freeze (l := [Mem.one g_2 (.cells ([iV 0, iV 0, nS, nS, nS] : List Value).toArray 28 (0, 0)), M_5, Mem.no, M_129, M_180]) hS' 4 rfl
     replace hS : Sep w0 w_178 [N_182, _, _, _, _, Mem.no] Z := hS''
     clear hS' hS''
     refine wpList_nil <| x_then_n ⟨(hS.sub (.cons (le_174.trans le_182) (.rr (.rr (.zz .nn))))), ?_⟩
     refine t_take 18 (bA 21 524287) rfl rfl rfl rfl h (hS.sub (.cons (le_174.trans le_182) (.rr (.rr (.zz .nn))))) (v := .agg ([iV (w64 ((Int.tmod (band .i64 x0 31) 13) + 0)), iV (band .i64 (shr .i64 x0 8) 7), v_175, v_16, v_179] : List Value).toArray) (fun w hS => r_build h ti28 pl28 rfl (.cons rfl (.cons rfl (.cons (hr_176.mono ln_174).cells (.cons (hr_18.mono lo_19).cells (.cons (hr_181.mono lo_182).cells .nil))))) (cs := [iV (w64 ((Int.tmod (band .i64 x0 31) 13) + 0)), iV (band .i64 (shr .i64 x0 8) 7), v_175, v_16, v_179]) (by kernel_rfl)) fun a h=>h_event 19 (bA 21 1048575) rfl (by kernel_rfl) (by kernel_rfl) <| v_alloc h rfl ti28 hS fun w_183 g_184 hS' a h => ?_
     replace hS : Sep w0 w_183 [_, _, _, _, _, _, Mem.one g_184 (.cells ([iV 0, iV 0, nS, nS, nS] : List Value).toArray 28 (0, 0))] Z := hS'
     clear hS'
     refine wpList_nil <| x_then_n ⟨(hS.sub (.cons (le_174.trans le_182) (.rr (.rr (.zz .nn))))), ?_⟩
     refine h_event 20 (bA 21 2097151) rfl (by kernel_rfl) (by kernel_rfl) ?_
     obtain ⟨w_185, hs', hS'⟩ := hS.store (P := Try.prog) (p := 6) (o := 0) (t := 28) (v := .agg ([iV (w64 ((Int.tmod (band .i64 x0 31) 13) + 0)), iV (band .i64 (shr .i64 x0 8) 7), v_175, v_16, v_179] : List Value).toArray) (vs := [iV (w64 ((Int.tmod (band .i64 x0 31) 13) + 0)), iV (band .i64 (shr .i64 x0 8) 7), v_175, v_16, v_179]) rfl ti28 rfl rfl rfl (by intro u hu; simp only [List.mem_cons, List.not_mem_nil, or_false] at hu; rcases hu with rfl | rfl | rfl | rfl | rfl <;> first | rfl | exact (hr_176.mono ln_174).one | exact (hr_18.mono lo_19).one | exact (hr_181.mono lo_182).one)
     refine s_store h rfl rfl hs' ?_
     replace hS : Sep w0 w_185 [_, _, _, _, _, _, Mem.one g_184 (.cells ([iV (w64 ((Int.tmod (band .i64 x0 31) 13) + 0)), iV (band .i64 (shr .i64 x0 8) 7), v_175, v_16, v_179] : List Value).toArray 28 (0, 0))] Z := hS'
     clear hs' hS'
     refine wpList_nil <| x_then_n ⟨(hS.sub (.cons (le_174.trans le_182) (.rr (.rr (.zz .nn))))), ?_⟩
     refine h_done (by kernel_rfl) ?_
     replace hS : Sep w0 w_185 [_, _, _, _, _, _, _] Z := hS
     replace h : Fr 60 a [(0, _), (2, .pointer (some ⟨g_2, 0, none⟩)), (4, .pointer (some ⟨g_184, 0, none⟩))] := h.keep [0, 2, 4]
     exact x_then_n (hJ_j_31 (⟨w64 ((Int.tmod (band .i64 x0 31) 13) + 0), band .i64 (shr .i64 x0 8) 7, t_63, t_9, t_75⟩ : api_Cmd) H _ _ ⟨v_175, v_16, v_179, g_184, N_182, h, (Sep.sel hS [0, 1, 1001, 1002, 6] (by decide)), (le_174.trans le_182), ((hr_176.mono ln_174).mono le_182), ((hr_18.mono lo_19).mono (le_174.trans le_182)), (hr_181.mono lo_182)⟩)
    ·refine ⟨_, (bA 21 655359), rfl, by kernel_rfl, ?_⟩
     refine v_alloc h rfl ti28 hS fun w_186 g_187 hS' a h => ?_
     replace hS : Sep w0 w_186 [_, _, _, _, _, Mem.one g_187 (.cells ([iV 0, iV 0, nS, nS, nS] : List Value).toArray 28 (0, 0))] Z := hS'
     clear hS'
     refine wpList_nil <| x_then_n ⟨(hS.sub (.cons le_174 (.rr (.rr (.zz .nn))))), ?_⟩
     refine h_event 17 (bA 21 786431) rfl (by kernel_rfl) (by kernel_rfl) <| s_s2b h rfl U9 U26 U5 rfl (must_some eu_80) hS fun w_189 v_190 M_191 hS' hr_192 a h => ?_
     obtain ⟨N_193, hS'', le_193, lo_193⟩ := Sep.freeze (l := [Mem.one g_2 (.cells ([iV 0, iV 0, nS, nS, nS] : List Value).toArray 28 (0, 0)), M_5, Mem.no, M_129, Mem.one g_187 (.cells ([iV 0, iV 0, nS, nS, nS] : List Value).toArray 28 (0, 0)), M_191]) hS' 5 rfl
     replace hS : Sep w0 w_189 [N_193, _, _, _, _, _, Mem.no] Z := hS''
     clear hS' hS''
     refine wpList_nil <| x_then_n ⟨(hS.sub (.cons (le_174.trans le_193) (.rr (.rr (.zz .nn))))), ?_⟩
     refine t_take 18 (bA 21 1048575) rfl rfl rfl rfl h (hS.sub (.cons (le_174.trans le_193) (.rr (.rr (.zz .nn))))) (v := .agg ([iV (w64 ((Int.tmod (band .i64 x0 31) 13) + 0)), iV (band .i64 (shr .i64 x0 8) 7), v_175, v_16, v_190] : List Value).toArray) (fun w hS => r_build h ti28 pl28 rfl (.cons rfl (.cons rfl (.cons (hr_176.mono ln_174).cells (.cons (hr_18.mono lo_19).cells (.cons (hr_192.mono lo_193).cells .nil))))) (cs := [iV (w64 ((Int.tmod (band .i64 x0 31) 13) + 0)), iV (band .i64 (shr .i64 x0 8) 7), v_175, v_16, v_190]) (by kernel_rfl)) fun a h=>h_event 20 (bA 21 2097151) rfl (by kernel_rfl) (by kernel_rfl) ?_
     obtain ⟨w_194, hs', hS'⟩ := hS.store (P := Try.prog) (p := 5) (o := 0) (t := 28) (v := .agg ([iV (w64 ((Int.tmod (band .i64 x0 31) 13) + 0)), iV (band .i64 (shr .i64 x0 8) 7), v_175, v_16, v_190] : List Value).toArray) (vs := [iV (w64 ((Int.tmod (band .i64 x0 31) 13) + 0)), iV (band .i64 (shr .i64 x0 8) 7), v_175, v_16, v_190]) rfl ti28 rfl rfl rfl (by intro u hu; simp only [List.mem_cons, List.not_mem_nil, or_false] at hu; rcases hu with rfl | rfl | rfl | rfl | rfl <;> first | rfl | exact (hr_176.mono ln_174).one | exact (hr_18.mono lo_19).one | exact (hr_192.mono lo_193).one)
     refine s_store h rfl rfl hs' ?_
     replace hS : Sep w0 w_194 [_, _, _, _, _, Mem.one g_187 (.cells ([iV (w64 ((Int.tmod (band .i64 x0 31) 13) + 0)), iV (band .i64 (shr .i64 x0 8) 7), v_175, v_16, v_190] : List Value).toArray 28 (0, 0)), _] Z := hS'
     clear hs' hS'
     refine wpList_nil <| x_then_n ⟨(hS.sub (.cons (le_174.trans le_193) (.rr (.rr (.zz .nn))))), ?_⟩
     refine h_done (by kernel_rfl) ?_
     replace hS : Sep w0 w_194 [_, _, _, _, _, _, _] Z := hS
     replace h : Fr 60 a [(0, _), (2, .pointer (some ⟨g_2, 0, none⟩)), (4, .pointer (some ⟨g_187, 0, none⟩))] := h.keep [0, 2, 4]
     exact x_then_n (hJ_j_31 (⟨w64 ((Int.tmod (band .i64 x0 31) 13) + 0), band .i64 (shr .i64 x0 8) 7, t_63, t_9, t_75⟩ : api_Cmd) H _ _ ⟨v_175, v_16, v_190, g_187, N_193, h, (Sep.sel hS [0, 1, 1001, 1002, 5] (by decide)), (le_174.trans le_193), ((hr_176.mono ln_174).mono le_193), ((hr_18.mono lo_19).mono (le_174.trans le_193)), (hr_192.mono lo_193)⟩)
   ·refine ⟨_, (bA 21 261631), rfl, by kernel_rfl, ?_⟩
    refine s_s2b h rfl U9 U26 U5 rfl (must_some eu_80) hS fun w_196 v_197 M_198 hS' hr_199 a h => ?_
    obtain ⟨N_200, hS'', le_200, lo_200⟩ := Sep.freeze (l := [Mem.one g_2 (.cells ([iV 0, iV 0, nS, nS, nS] : List Value).toArray 28 (0, 0)), M_5, Mem.no, M_129, M_198]) hS' 4 rfl
    replace hS : Sep w0 w_196 [N_200, _, _, _, _, Mem.no] Z := hS''
    clear hS' hS''
    refine wpList_nil <| x_then_n ⟨(hS.sub (.cons le_200 (.rr (.rr (.zz .nn))))), ?_⟩
    refine h_events [9, 19] (by kernel_rfl) (by simp) ?_
    intro i hi; simp only [List.mem_cons, List.not_mem_nil, or_false] at hi; rcases hi with rfl | rfl
    ·refine ⟨_, (bA 21 262143), rfl, by kernel_rfl, ?_⟩
     refine s_call h rfl Try.call60 rfl (hocketlaw7_Keys.calls (shr .i64 x0 11) t_63 w0 _ _ _ (Mem.le.refl _) (hS.enter [] (by decide))  et_63) ?_
     rintro v_205 w_202 ⟨_, N_203, rfl, hS', hr_206⟩
     intro a h
     obtain ⟨N_204, hS'', le_204, ln_204⟩ := hS.call [] (by decide) rfl (l' := []) (ow := []) rfl hS'
     replace hS : Sep w0 w_202 [N_204, _, _, _, _, _] Z := hS''
     clear hS' hS''
     refine wpList_nil <| x_then_n ⟨(hS.sub (.cons (le_200.trans le_204) (.rr (.rr (.zz .nn))))), ?_⟩
     refine t_take 18 (bA 21 524287) rfl rfl rfl rfl h (hS.sub (.cons (le_200.trans le_204) (.rr (.rr (.zz .nn))))) (v := .agg ([iV (w64 ((Int.tmod (band .i64 x0 31) 13) + 0)), iV (band .i64 (shr .i64 x0 8) 7), v_205, v_16, v_197] : List Value).toArray) (fun w hS => r_build h ti28 pl28 rfl (.cons rfl (.cons rfl (.cons (hr_206.mono ln_204).cells (.cons (hr_18.mono lo_19).cells (.cons (hr_199.mono lo_200).cells .nil))))) (cs := [iV (w64 ((Int.tmod (band .i64 x0 31) 13) + 0)), iV (band .i64 (shr .i64 x0 8) 7), v_205, v_16, v_197]) (by kernel_rfl)) fun a h=>h_event 19 (bA 21 1048575) rfl (by kernel_rfl) (by kernel_rfl) <| v_alloc h rfl ti28 hS fun w_207 g_208 hS' a h => ?_
     replace hS : Sep w0 w_207 [_, _, _, _, _, _, Mem.one g_208 (.cells ([iV 0, iV 0, nS, nS, nS] : List Value).toArray 28 (0, 0))] Z := hS'
     clear hS'
     refine wpList_nil <| x_then_n ⟨(hS.sub (.cons (le_200.trans le_204) (.rr (.rr (.zz .nn))))), ?_⟩
     refine h_event 20 (bA 21 2097151) rfl (by kernel_rfl) (by kernel_rfl) ?_
     obtain ⟨w_209, hs', hS'⟩ := hS.store (P := Try.prog) (p := 6) (o := 0) (t := 28) (v := .agg ([iV (w64 ((Int.tmod (band .i64 x0 31) 13) + 0)), iV (band .i64 (shr .i64 x0 8) 7), v_205, v_16, v_197] : List Value).toArray) (vs := [iV (w64 ((Int.tmod (band .i64 x0 31) 13) + 0)), iV (band .i64 (shr .i64 x0 8) 7), v_205, v_16, v_197]) rfl ti28 rfl rfl rfl (by intro u hu; simp only [List.mem_cons, List.not_mem_nil, or_false] at hu; rcases hu with rfl | rfl | rfl | rfl | rfl <;> first | rfl | exact (hr_206.mono ln_204).one | exact (hr_18.mono lo_19).one | exact (hr_199.mono lo_200).one)
     refine s_store h rfl rfl hs' ?_
     replace hS : Sep w0 w_209 [_, _, _, _, _, _, Mem.one g_208 (.cells ([iV (w64 ((Int.tmod (band .i64 x0 31) 13) + 0)), iV (band .i64 (shr .i64 x0 8) 7), v_205, v_16, v_197] : List Value).toArray 28 (0, 0))] Z := hS'
     clear hs' hS'
     refine wpList_nil <| x_then_n ⟨(hS.sub (.cons (le_200.trans le_204) (.rr (.rr (.zz .nn))))), ?_⟩
     refine h_done (by kernel_rfl) ?_
     replace hS : Sep w0 w_209 [_, _, _, _, _, _, _] Z := hS
     replace h : Fr 60 a [(0, _), (2, .pointer (some ⟨g_2, 0, none⟩)), (4, .pointer (some ⟨g_208, 0, none⟩))] := h.keep [0, 2, 4]
     exact x_then_n (hJ_j_31 (⟨w64 ((Int.tmod (band .i64 x0 31) 13) + 0), band .i64 (shr .i64 x0 8) 7, t_63, t_9, t_75⟩ : api_Cmd) H _ _ ⟨v_205, v_16, v_197, g_208, N_204, h, (Sep.sel hS [0, 1, 1001, 1002, 6] (by decide)), (le_200.trans le_204), (hr_206.mono ln_204), ((hr_18.mono lo_19).mono (le_200.trans le_204)), ((hr_199.mono lo_200).mono le_204)⟩)
    ·refine ⟨_, (bA 21 785919), rfl, by kernel_rfl, ?_⟩
     refine v_alloc h rfl ti28 hS fun w_210 g_211 hS' a h => ?_
     replace hS : Sep w0 w_210 [_, _, _, _, _, _, Mem.one g_211 (.cells ([iV 0, iV 0, nS, nS, nS] : List Value).toArray 28 (0, 0))] Z := hS'
     clear hS'
     refine wpList_nil <| x_then_n ⟨(hS.sub (.cons le_200 (.rr (.rr (.zz .nn))))), ?_⟩
     refine h_event 9 (bA 21 786431) rfl (by kernel_rfl) (by kernel_rfl) <| s_call h rfl Try.call60 rfl (hocketlaw7_Keys.calls (shr .i64 x0 11) t_63 w0 _ _ _ (Mem.le.refl _) (hS.enter [] (by decide))  et_63) ?_
     rintro v_216 w_213 ⟨_, N_214, rfl, hS', hr_217⟩
     intro a h
     obtain ⟨N_215, hS'', le_215, ln_215⟩ := hS.call [] (by decide) rfl (l' := []) (ow := []) rfl hS'
     replace hS : Sep w0 w_213 [N_215, _, _, _, _, _, _] Z := hS''
     clear hS' hS''
     refine wpList_nil <| x_then_n ⟨(hS.sub (.cons (le_200.trans le_215) (.rr (.rr (.zz .nn))))), ?_⟩
     refine t_take 18 (bA 21 1048575) rfl rfl rfl rfl h (hS.sub (.cons (le_200.trans le_215) (.rr (.rr (.zz .nn))))) (v := .agg ([iV (w64 ((Int.tmod (band .i64 x0 31) 13) + 0)), iV (band .i64 (shr .i64 x0 8) 7), v_216, v_16, v_197] : List Value).toArray) (fun w hS => r_build h ti28 pl28 rfl (.cons rfl (.cons rfl (.cons (hr_217.mono ln_215).cells (.cons (hr_18.mono lo_19).cells (.cons (hr_199.mono lo_200).cells .nil))))) (cs := [iV (w64 ((Int.tmod (band .i64 x0 31) 13) + 0)), iV (band .i64 (shr .i64 x0 8) 7), v_216, v_16, v_197]) (by kernel_rfl)) fun a h=>h_event 20 (bA 21 2097151) rfl (by kernel_rfl) (by kernel_rfl) ?_
     obtain ⟨w_218, hs', hS'⟩ := hS.store (P := Try.prog) (p := 6) (o := 0) (t := 28) (v := .agg ([iV (w64 ((Int.tmod (band .i64 x0 31) 13) + 0)), iV (band .i64 (shr .i64 x0 8) 7), v_216, v_16, v_197] : List Value).toArray) (vs := [iV (w64 ((Int.tmod (band .i64 x0 31) 13) + 0)), iV (band .i64 (shr .i64 x0 8) 7), v_216, v_16, v_197]) rfl ti28 rfl rfl rfl (by intro u hu; simp only [List.mem_cons, List.not_mem_nil, or_false] at hu; rcases hu with rfl | rfl | rfl | rfl | rfl <;> first | rfl | exact (hr_217.mono ln_215).one | exact (hr_18.mono lo_19).one | exact (hr_199.mono lo_200).one)
     refine s_store h rfl rfl hs' ?_
     replace hS : Sep w0 w_218 [_, _, _, _, _, _, Mem.one g_211 (.cells ([iV (w64 ((Int.tmod (band .i64 x0 31) 13) + 0)), iV (band .i64 (shr .i64 x0 8) 7), v_216, v_16, v_197] : List Value).toArray 28 (0, 0))] Z := hS'
     clear hs' hS'
     refine wpList_nil <| x_then_n ⟨(hS.sub (.cons (le_200.trans le_215) (.rr (.rr (.zz .nn))))), ?_⟩
     refine h_done (by kernel_rfl) ?_
     replace hS : Sep w0 w_218 [_, _, _, _, _, _, _] Z := hS
     replace h : Fr 60 a [(0, _), (2, .pointer (some ⟨g_2, 0, none⟩)), (4, .pointer (some ⟨g_211, 0, none⟩))] := h.keep [0, 2, 4]
     exact x_then_n (hJ_j_31 (⟨w64 ((Int.tmod (band .i64 x0 31) 13) + 0), band .i64 (shr .i64 x0 8) 7, t_63, t_9, t_75⟩ : api_Cmd) H _ _ ⟨v_216, v_16, v_197, g_211, N_215, h, (Sep.sel hS [0, 1, 1001, 1002, 6] (by decide)), (le_200.trans le_215), (hr_217.mono ln_215), ((hr_18.mono lo_19).mono (le_200.trans le_215)), ((hr_199.mono lo_200).mono le_215)⟩)
   ·refine ⟨_, (bA 21 654847), rfl, by kernel_rfl, ?_⟩
    refine v_alloc h rfl ti28 hS fun w_219 g_220 hS' a h => ?_
    replace hS : Sep w0 w_219 [_, _, _, _, _, Mem.one g_220 (.cells ([iV 0, iV 0, nS, nS, nS] : List Value).toArray 28 (0, 0))] Z := hS'
    clear hS'
    refine wpList_nil <| x_then_n ⟨(hS.sub (.cons (Mem.le.refl _) (.rr (.rr (.zz .nn))))), ?_⟩
    refine h_events [9, 17] (by kernel_rfl) (by simp) ?_
    intro i hi; simp only [List.mem_cons, List.not_mem_nil, or_false] at hi; rcases hi with rfl | rfl
    ·refine ⟨_, (bA 21 655359), rfl, by kernel_rfl, ?_⟩
     refine s_call h rfl Try.call60 rfl (hocketlaw7_Keys.calls (shr .i64 x0 11) t_63 w0 _ _ _ (Mem.le.refl _) (hS.enter [] (by decide))  et_63) ?_
     rintro v_225 w_222 ⟨_, N_223, rfl, hS', hr_226⟩
     intro a h
     obtain ⟨N_224, hS'', le_224, ln_224⟩ := hS.call [] (by decide) rfl (l' := []) (ow := []) rfl hS'
     replace hS : Sep w0 w_222 [N_224, _, _, _, _, _] Z := hS''
     clear hS' hS''
     refine wpList_nil <| x_then_n ⟨(hS.sub (.cons le_224 (.rr (.rr (.zz .nn))))), ?_⟩
     refine h_event 17 (bA 21 786431) rfl (by kernel_rfl) (by kernel_rfl) <| s_s2b h rfl U9 U26 U5 rfl (must_some eu_80) hS fun w_228 v_229 M_230 hS' hr_231 a h => ?_
     obtain ⟨N_232, hS'', le_232, lo_232⟩ := Sep.freeze (l := [Mem.one g_2 (.cells ([iV 0, iV 0, nS, nS, nS] : List Value).toArray 28 (0, 0)), M_5, Mem.no, M_129, Mem.one g_220 (.cells ([iV 0, iV 0, nS, nS, nS] : List Value).toArray 28 (0, 0)), M_230]) hS' 5 rfl
     replace hS : Sep w0 w_228 [N_232, _, _, _, _, _, Mem.no] Z := hS''
     clear hS' hS''
     refine wpList_nil <| x_then_n ⟨(hS.sub (.cons (le_224.trans le_232) (.rr (.rr (.zz .nn))))), ?_⟩
     refine t_take 18 (bA 21 1048575) rfl rfl rfl rfl h (hS.sub (.cons (le_224.trans le_232) (.rr (.rr (.zz .nn))))) (v := .agg ([iV (w64 ((Int.tmod (band .i64 x0 31) 13) + 0)), iV (band .i64 (shr .i64 x0 8) 7), v_225, v_16, v_229] : List Value).toArray) (fun w hS => r_build h ti28 pl28 rfl (.cons rfl (.cons rfl (.cons (hr_226.mono ln_224).cells (.cons (hr_18.mono lo_19).cells (.cons (hr_231.mono lo_232).cells .nil))))) (cs := [iV (w64 ((Int.tmod (band .i64 x0 31) 13) + 0)), iV (band .i64 (shr .i64 x0 8) 7), v_225, v_16, v_229]) (by kernel_rfl)) fun a h=>h_event 20 (bA 21 2097151) rfl (by kernel_rfl) (by kernel_rfl) ?_
     obtain ⟨w_233, hs', hS'⟩ := hS.store (P := Try.prog) (p := 5) (o := 0) (t := 28) (v := .agg ([iV (w64 ((Int.tmod (band .i64 x0 31) 13) + 0)), iV (band .i64 (shr .i64 x0 8) 7), v_225, v_16, v_229] : List Value).toArray) (vs := [iV (w64 ((Int.tmod (band .i64 x0 31) 13) + 0)), iV (band .i64 (shr .i64 x0 8) 7), v_225, v_16, v_229]) rfl ti28 rfl rfl rfl (by intro u hu; simp only [List.mem_cons, List.not_mem_nil, or_false] at hu; rcases hu with rfl | rfl | rfl | rfl | rfl <;> first | rfl | exact (hr_226.mono ln_224).one | exact (hr_18.mono lo_19).one | exact (hr_231.mono lo_232).one)
     refine s_store h rfl rfl hs' ?_
     replace hS : Sep w0 w_233 [_, _, _, _, _, Mem.one g_220 (.cells ([iV (w64 ((Int.tmod (band .i64 x0 31) 13) + 0)), iV (band .i64 (shr .i64 x0 8) 7), v_225, v_16, v_229] : List Value).toArray 28 (0, 0)), _] Z := hS'
     clear hs' hS'
     refine wpList_nil <| x_then_n ⟨(hS.sub (.cons (le_224.trans le_232) (.rr (.rr (.zz .nn))))), ?_⟩
     refine h_done (by kernel_rfl) ?_
     replace hS : Sep w0 w_233 [_, _, _, _, _, _, _] Z := hS
     replace h : Fr 60 a [(0, _), (2, .pointer (some ⟨g_2, 0, none⟩)), (4, .pointer (some ⟨g_220, 0, none⟩))] := h.keep [0, 2, 4]
     exact x_then_n (hJ_j_31 (⟨w64 ((Int.tmod (band .i64 x0 31) 13) + 0), band .i64 (shr .i64 x0 8) 7, t_63, t_9, t_75⟩ : api_Cmd) H _ _ ⟨v_225, v_16, v_229, g_220, N_232, h, (Sep.sel hS [0, 1, 1001, 1002, 5] (by decide)), (le_224.trans le_232), ((hr_226.mono ln_224).mono le_232), ((hr_18.mono lo_19).mono (le_224.trans le_232)), (hr_231.mono lo_232)⟩)
    ·refine ⟨_, (bA 21 785919), rfl, by kernel_rfl, ?_⟩
     refine s_s2b h rfl U9 U26 U5 rfl (must_some eu_80) hS fun w_235 v_236 M_237 hS' hr_238 a h => ?_
     obtain ⟨N_239, hS'', le_239, lo_239⟩ := Sep.freeze (l := [Mem.one g_2 (.cells ([iV 0, iV 0, nS, nS, nS] : List Value).toArray 28 (0, 0)), M_5, Mem.no, M_129, Mem.one g_220 (.cells ([iV 0, iV 0, nS, nS, nS] : List Value).toArray 28 (0, 0)), M_237]) hS' 5 rfl
     replace hS : Sep w0 w_235 [N_239, _, _, _, _, _, Mem.no] Z := hS''
     clear hS' hS''
     refine wpList_nil <| x_then_n ⟨(hS.sub (.cons le_239 (.rr (.rr (.zz .nn))))), ?_⟩
     refine h_event 9 (bA 21 786431) rfl (by kernel_rfl) (by kernel_rfl) <| s_call h rfl Try.call60 rfl (hocketlaw7_Keys.calls (shr .i64 x0 11) t_63 w0 _ _ _ (Mem.le.refl _) (hS.enter [] (by decide))  et_63) ?_
     rintro v_244 w_241 ⟨_, N_242, rfl, hS', hr_245⟩
     intro a h
     obtain ⟨N_243, hS'', le_243, ln_243⟩ := hS.call [] (by decide) rfl (l' := []) (ow := []) rfl hS'
     replace hS : Sep w0 w_241 [N_243, _, _, _, _, _, _] Z := hS''
     clear hS' hS''
     refine wpList_nil <| x_then_n ⟨(hS.sub (.cons (le_239.trans le_243) (.rr (.rr (.zz .nn))))), ?_⟩
     refine t_take 18 (bA 21 1048575) rfl rfl rfl rfl h (hS.sub (.cons (le_239.trans le_243) (.rr (.rr (.zz .nn))))) (v := .agg ([iV (w64 ((Int.tmod (band .i64 x0 31) 13) + 0)), iV (band .i64 (shr .i64 x0 8) 7), v_244, v_16, v_236] : List Value).toArray) (fun w hS => r_build h ti28 pl28 rfl (.cons rfl (.cons rfl (.cons (hr_245.mono ln_243).cells (.cons (hr_18.mono lo_19).cells (.cons (hr_238.mono lo_239).cells .nil))))) (cs := [iV (w64 ((Int.tmod (band .i64 x0 31) 13) + 0)), iV (band .i64 (shr .i64 x0 8) 7), v_244, v_16, v_236]) (by kernel_rfl)) fun a h=>h_event 20 (bA 21 2097151) rfl (by kernel_rfl) (by kernel_rfl) ?_
     obtain ⟨w_246, hs', hS'⟩ := hS.store (P := Try.prog) (p := 5) (o := 0) (t := 28) (v := .agg ([iV (w64 ((Int.tmod (band .i64 x0 31) 13) + 0)), iV (band .i64 (shr .i64 x0 8) 7), v_244, v_16, v_236] : List Value).toArray) (vs := [iV (w64 ((Int.tmod (band .i64 x0 31) 13) + 0)), iV (band .i64 (shr .i64 x0 8) 7), v_244, v_16, v_236]) rfl ti28 rfl rfl rfl (by intro u hu; simp only [List.mem_cons, List.not_mem_nil, or_false] at hu; rcases hu with rfl | rfl | rfl | rfl | rfl <;> first | rfl | exact (hr_245.mono ln_243).one | exact (hr_18.mono lo_19).one | exact (hr_238.mono lo_239).one)
     refine s_store h rfl rfl hs' ?_
     replace hS : Sep w0 w_246 [_, _, _, _, _, Mem.one g_220 (.cells ([iV (w64 ((Int.tmod (band .i64 x0 31) 13) + 0)), iV (band .i64 (shr .i64 x0 8) 7), v_244, v_16, v_236] : List Value).toArray 28 (0, 0)), _] Z := hS'
     clear hs' hS'
     refine wpList_nil <| x_then_n ⟨(hS.sub (.cons (le_239.trans le_243) (.rr (.rr (.zz .nn))))), ?_⟩
     refine h_done (by kernel_rfl) ?_
     replace hS : Sep w0 w_246 [_, _, _, _, _, _, _] Z := hS
     replace h : Fr 60 a [(0, _), (2, .pointer (some ⟨g_2, 0, none⟩)), (4, .pointer (some ⟨g_220, 0, none⟩))] := h.keep [0, 2, 4]
     exact x_then_n (hJ_j_31 (⟨w64 ((Int.tmod (band .i64 x0 31) 13) + 0), band .i64 (shr .i64 x0 8) 7, t_63, t_9, t_75⟩ : api_Cmd) H _ _ ⟨v_244, v_16, v_236, g_220, N_243, h, (Sep.sel hS [0, 1, 1001, 1002, 5] (by decide)), (le_239.trans le_243), (hr_245.mono ln_243), ((hr_18.mono lo_19).mono (le_239.trans le_243)), ((hr_238.mono lo_239).mono le_243)⟩)
  ·refine ⟨_, (bA 21 589311), rfl, by kernel_rfl, ?_⟩
   refine v_alloc h rfl ti28 hS fun w_247 g_248 hS' a h => ?_
   replace hS : Sep w0 w_247 [_, _, _, _, _, Mem.one g_248 (.cells ([iV 0, iV 0, nS, nS, nS] : List Value).toArray 28 (0, 0))] Z := hS'
   clear hS'
   refine wpList_nil <| x_then_n ⟨(hS.sub (.cons (Mem.le.refl _) (.rr (.rr (.zz .nn))))), ?_⟩
   refine h_events [9, 16] (by kernel_rfl) (by simp) ?_
   intro i hi; simp only [List.mem_cons, List.not_mem_nil, or_false] at hi; rcases hi with rfl | rfl
   ·refine ⟨_, (bA 21 589823), rfl, by kernel_rfl, ?_⟩
    refine s_call h rfl Try.call60 rfl (hocketlaw7_Keys.calls (shr .i64 x0 11) t_63 w0 _ _ _ (Mem.le.refl _) (hS.enter [] (by decide))  et_63) ?_
    rintro v_253 w_250 ⟨_, N_251, rfl, hS', hr_254⟩
    intro a h
    obtain ⟨N_252, hS'', le_252, ln_252⟩ := hS.call [] (by decide) rfl (l' := []) (ow := []) rfl hS'
    replace hS : Sep w0 w_250 [N_252, _, _, _, _, _] Z := hS''
    clear hS' hS''
    refine wpList_nil <| x_then_n ⟨(hS.sub (.cons le_252 (.rr (.rr (.zz .nn))))), ?_⟩
    refine h_event 16 (bA 21 655359) rfl (by kernel_rfl) (by kernel_rfl) <| s_load h rfl rfl (el_one (o := 0) (fun j c h => Mem.cell_le (hS.own 4) (hc_137 j c h)) U9 rfl rfl) fun a h=>wpList_nil <| x_then_n ⟨(hS.sub (.cons le_252 (.rr (.rr (.zz .nn))))), ?_⟩
    refine h_event 17 (bA 21 786431) rfl (by kernel_rfl) (by kernel_rfl) <| s_s2b h rfl U9 U26 U5 rfl (must_some eu_80) hS fun w_256 v_257 M_258 hS' hr_259 a h => ?_
    obtain ⟨N_260, hS'', le_260, lo_260⟩ := Sep.freeze (l := [Mem.one g_2 (.cells ([iV 0, iV 0, nS, nS, nS] : List Value).toArray 28 (0, 0)), M_5, Mem.no, M_129, Mem.one g_248 (.cells ([iV 0, iV 0, nS, nS, nS] : List Value).toArray 28 (0, 0)), M_258]) hS' 5 rfl
    replace hS : Sep w0 w_256 [N_260, _, _, _, _, _, Mem.no] Z := hS''
    clear hS' hS''
    refine wpList_nil <| x_then_n ⟨(hS.sub (.cons (le_252.trans le_260) (.rr (.rr (.zz .nn))))), ?_⟩
    refine t_take 18 (bA 21 1048575) rfl rfl rfl rfl h (hS.sub (.cons (le_252.trans le_260) (.rr (.rr (.zz .nn))))) (v := .agg ([iV (w64 ((Int.tmod (band .i64 x0 31) 13) + 0)), iV (band .i64 (shr .i64 x0 8) 7), v_253, v_16, v_257] : List Value).toArray) (fun w hS => r_build h ti28 pl28 rfl (.cons rfl (.cons rfl (.cons (hr_254.mono ln_252).cells (.cons (hr_18.mono lo_19).cells (.cons (hr_259.mono lo_260).cells .nil))))) (cs := [iV (w64 ((Int.tmod (band .i64 x0 31) 13) + 0)), iV (band .i64 (shr .i64 x0 8) 7), v_253, v_16, v_257]) (by kernel_rfl)) fun a h=>h_event 20 (bA 21 2097151) rfl (by kernel_rfl) (by kernel_rfl) ?_
    obtain ⟨w_261, hs', hS'⟩ := hS.store (P := Try.prog) (p := 5) (o := 0) (t := 28) (v := .agg ([iV (w64 ((Int.tmod (band .i64 x0 31) 13) + 0)), iV (band .i64 (shr .i64 x0 8) 7), v_253, v_16, v_257] : List Value).toArray) (vs := [iV (w64 ((Int.tmod (band .i64 x0 31) 13) + 0)), iV (band .i64 (shr .i64 x0 8) 7), v_253, v_16, v_257]) rfl ti28 rfl rfl rfl (by intro u hu; simp only [List.mem_cons, List.not_mem_nil, or_false] at hu; rcases hu with rfl | rfl | rfl | rfl | rfl <;> first | rfl | exact (hr_254.mono ln_252).one | exact (hr_18.mono lo_19).one | exact (hr_259.mono lo_260).one)
    refine s_store h rfl rfl hs' ?_
    replace hS : Sep w0 w_261 [_, _, _, _, _, Mem.one g_248 (.cells ([iV (w64 ((Int.tmod (band .i64 x0 31) 13) + 0)), iV (band .i64 (shr .i64 x0 8) 7), v_253, v_16, v_257] : List Value).toArray 28 (0, 0)), _] Z := hS'
    clear hs' hS'
    refine wpList_nil <| x_then_n ⟨(hS.sub (.cons (le_252.trans le_260) (.rr (.rr (.zz .nn))))), ?_⟩
    refine h_done (by kernel_rfl) ?_
    replace hS : Sep w0 w_261 [_, _, _, _, _, _, _] Z := hS
    replace h : Fr 60 a [(0, _), (2, .pointer (some ⟨g_2, 0, none⟩)), (4, .pointer (some ⟨g_248, 0, none⟩))] := h.keep [0, 2, 4]
    exact x_then_n (hJ_j_31 (⟨w64 ((Int.tmod (band .i64 x0 31) 13) + 0), band .i64 (shr .i64 x0 8) 7, t_63, t_9, t_75⟩ : api_Cmd) H _ _ ⟨v_253, v_16, v_257, g_248, N_260, h, (Sep.sel hS [0, 1, 1001, 1002, 5] (by decide)), (le_252.trans le_260), ((hr_254.mono ln_252).mono le_260), ((hr_18.mono lo_19).mono (le_252.trans le_260)), (hr_259.mono lo_260)⟩)
   ·refine ⟨_, (bA 21 654847), rfl, by kernel_rfl, ?_⟩
    refine s_load h rfl rfl (el_one (o := 0) (fun j c h => Mem.cell_le (hS.own 4) (hc_137 j c h)) U9 rfl rfl) fun a h=>wpList_nil <| x_then_n ⟨(hS.sub (.cons (Mem.le.refl _) (.rr (.rr (.zz .nn))))), ?_⟩
    refine h_events [9, 17] (by kernel_rfl) (by simp) ?_
    intro i hi; simp only [List.mem_cons, List.not_mem_nil, or_false] at hi; rcases hi with rfl | rfl
    ·refine ⟨_, (bA 21 655359), rfl, by kernel_rfl, ?_⟩
     refine s_call h rfl Try.call60 rfl (hocketlaw7_Keys.calls (shr .i64 x0 11) t_63 w0 _ _ _ (Mem.le.refl _) (hS.enter [] (by decide))  et_63) ?_
     rintro v_266 w_263 ⟨_, N_264, rfl, hS', hr_267⟩
     intro a h
     obtain ⟨N_265, hS'', le_265, ln_265⟩ := hS.call [] (by decide) rfl (l' := []) (ow := []) rfl hS'
     replace hS : Sep w0 w_263 [N_265, _, _, _, _, _] Z := hS''
     clear hS' hS''
     refine wpList_nil <| x_then_n ⟨(hS.sub (.cons le_265 (.rr (.rr (.zz .nn))))), ?_⟩
     refine h_event 17 (bA 21 786431) rfl (by kernel_rfl) (by kernel_rfl) <| s_s2b h rfl U9 U26 U5 rfl (must_some eu_80) hS fun w_269 v_270 M_271 hS' hr_272 a h => ?_
     obtain ⟨N_273, hS'', le_273, lo_273⟩ := Sep.freeze (l := [Mem.one g_2 (.cells ([iV 0, iV 0, nS, nS, nS] : List Value).toArray 28 (0, 0)), M_5, Mem.no, M_129, Mem.one g_248 (.cells ([iV 0, iV 0, nS, nS, nS] : List Value).toArray 28 (0, 0)), M_271]) hS' 5 rfl
     replace hS : Sep w0 w_269 [N_273, _, _, _, _, _, Mem.no] Z := hS''
     clear hS' hS''
     refine wpList_nil <| x_then_n ⟨(hS.sub (.cons (le_265.trans le_273) (.rr (.rr (.zz .nn))))), ?_⟩
     refine t_take 18 (bA 21 1048575) rfl rfl rfl rfl h (hS.sub (.cons (le_265.trans le_273) (.rr (.rr (.zz .nn))))) (v := .agg ([iV (w64 ((Int.tmod (band .i64 x0 31) 13) + 0)), iV (band .i64 (shr .i64 x0 8) 7), v_266, v_16, v_270] : List Value).toArray) (fun w hS => r_build h ti28 pl28 rfl (.cons rfl (.cons rfl (.cons (hr_267.mono ln_265).cells (.cons (hr_18.mono lo_19).cells (.cons (hr_272.mono lo_273).cells .nil))))) (cs := [iV (w64 ((Int.tmod (band .i64 x0 31) 13) + 0)), iV (band .i64 (shr .i64 x0 8) 7), v_266, v_16, v_270]) (by kernel_rfl)) fun a h=>h_event 20 (bA 21 2097151) rfl (by kernel_rfl) (by kernel_rfl) ?_
     obtain ⟨w_274, hs', hS'⟩ := hS.store (P := Try.prog) (p := 5) (o := 0) (t := 28) (v := .agg ([iV (w64 ((Int.tmod (band .i64 x0 31) 13) + 0)), iV (band .i64 (shr .i64 x0 8) 7), v_266, v_16, v_270] : List Value).toArray) (vs := [iV (w64 ((Int.tmod (band .i64 x0 31) 13) + 0)), iV (band .i64 (shr .i64 x0 8) 7), v_266, v_16, v_270]) rfl ti28 rfl rfl rfl (by intro u hu; simp only [List.mem_cons, List.not_mem_nil, or_false] at hu; rcases hu with rfl | rfl | rfl | rfl | rfl <;> first | rfl | exact (hr_267.mono ln_265).one | exact (hr_18.mono lo_19).one | exact (hr_272.mono lo_273).one)
     refine s_store h rfl rfl hs' ?_
     replace hS : Sep w0 w_274 [_, _, _, _, _, Mem.one g_248 (.cells ([iV (w64 ((Int.tmod (band .i64 x0 31) 13) + 0)), iV (band .i64 (shr .i64 x0 8) 7), v_266, v_16, v_270] : List Value).toArray 28 (0, 0)), _] Z := hS'
     clear hs' hS'
     refine wpList_nil <| x_then_n ⟨(hS.sub (.cons (le_265.trans le_273) (.rr (.rr (.zz .nn))))), ?_⟩
     refine h_done (by kernel_rfl) ?_
     replace hS : Sep w0 w_274 [_, _, _, _, _, _, _] Z := hS
     replace h : Fr 60 a [(0, _), (2, .pointer (some ⟨g_2, 0, none⟩)), (4, .pointer (some ⟨g_248, 0, none⟩))] := h.keep [0, 2, 4]
     exact x_then_n (hJ_j_31 (⟨w64 ((Int.tmod (band .i64 x0 31) 13) + 0), band .i64 (shr .i64 x0 8) 7, t_63, t_9, t_75⟩ : api_Cmd) H _ _ ⟨v_266, v_16, v_270, g_248, N_273, h, (Sep.sel hS [0, 1, 1001, 1002, 5] (by decide)), (le_265.trans le_273), ((hr_267.mono ln_265).mono le_273), ((hr_18.mono lo_19).mono (le_265.trans le_273)), (hr_272.mono lo_273)⟩)
    ·refine ⟨_, (bA 21 785919), rfl, by kernel_rfl, ?_⟩
     refine s_s2b h rfl U9 U26 U5 rfl (must_some eu_80) hS fun w_276 v_277 M_278 hS' hr_279 a h => ?_
     obtain ⟨N_280, hS'', le_280, lo_280⟩ := Sep.freeze (l := [Mem.one g_2 (.cells ([iV 0, iV 0, nS, nS, nS] : List Value).toArray 28 (0, 0)), M_5, Mem.no, M_129, Mem.one g_248 (.cells ([iV 0, iV 0, nS, nS, nS] : List Value).toArray 28 (0, 0)), M_278]) hS' 5 rfl
     replace hS : Sep w0 w_276 [N_280, _, _, _, _, _, Mem.no] Z := hS''
     clear hS' hS''
     refine wpList_nil <| x_then_n ⟨(hS.sub (.cons le_280 (.rr (.rr (.zz .nn))))), ?_⟩
     refine h_event 9 (bA 21 786431) rfl (by kernel_rfl) (by kernel_rfl) <| s_call h rfl Try.call60 rfl (hocketlaw7_Keys.calls (shr .i64 x0 11) t_63 w0 _ _ _ (Mem.le.refl _) (hS.enter [] (by decide))  et_63) ?_
     rintro v_285 w_282 ⟨_, N_283, rfl, hS', hr_286⟩
     intro a h
     obtain ⟨N_284, hS'', le_284, ln_284⟩ := hS.call [] (by decide) rfl (l' := []) (ow := []) rfl hS'
     replace hS : Sep w0 w_282 [N_284, _, _, _, _, _, _] Z := hS''
     clear hS' hS''
     refine wpList_nil <| x_then_n ⟨(hS.sub (.cons (le_280.trans le_284) (.rr (.rr (.zz .nn))))), ?_⟩
     refine t_take 18 (bA 21 1048575) rfl rfl rfl rfl h (hS.sub (.cons (le_280.trans le_284) (.rr (.rr (.zz .nn))))) (v := .agg ([iV (w64 ((Int.tmod (band .i64 x0 31) 13) + 0)), iV (band .i64 (shr .i64 x0 8) 7), v_285, v_16, v_277] : List Value).toArray) (fun w hS => r_build h ti28 pl28 rfl (.cons rfl (.cons rfl (.cons (hr_286.mono ln_284).cells (.cons (hr_18.mono lo_19).cells (.cons (hr_279.mono lo_280).cells .nil))))) (cs := [iV (w64 ((Int.tmod (band .i64 x0 31) 13) + 0)), iV (band .i64 (shr .i64 x0 8) 7), v_285, v_16, v_277]) (by kernel_rfl)) fun a h=>h_event 20 (bA 21 2097151) rfl (by kernel_rfl) (by kernel_rfl) ?_
     obtain ⟨w_287, hs', hS'⟩ := hS.store (P := Try.prog) (p := 5) (o := 0) (t := 28) (v := .agg ([iV (w64 ((Int.tmod (band .i64 x0 31) 13) + 0)), iV (band .i64 (shr .i64 x0 8) 7), v_285, v_16, v_277] : List Value).toArray) (vs := [iV (w64 ((Int.tmod (band .i64 x0 31) 13) + 0)), iV (band .i64 (shr .i64 x0 8) 7), v_285, v_16, v_277]) rfl ti28 rfl rfl rfl (by intro u hu; simp only [List.mem_cons, List.not_mem_nil, or_false] at hu; rcases hu with rfl | rfl | rfl | rfl | rfl <;> first | rfl | exact (hr_286.mono ln_284).one | exact (hr_18.mono lo_19).one | exact (hr_279.mono lo_280).one)
     refine s_store h rfl rfl hs' ?_
     replace hS : Sep w0 w_287 [_, _, _, _, _, Mem.one g_248 (.cells ([iV (w64 ((Int.tmod (band .i64 x0 31) 13) + 0)), iV (band .i64 (shr .i64 x0 8) 7), v_285, v_16, v_277] : List Value).toArray 28 (0, 0)), _] Z := hS'
     clear hs' hS'
     refine wpList_nil <| x_then_n ⟨(hS.sub (.cons (le_280.trans le_284) (.rr (.rr (.zz .nn))))), ?_⟩
     refine h_done (by kernel_rfl) ?_
     replace hS : Sep w0 w_287 [_, _, _, _, _, _, _] Z := hS
     replace h : Fr 60 a [(0, _), (2, .pointer (some ⟨g_2, 0, none⟩)), (4, .pointer (some ⟨g_248, 0, none⟩))] := h.keep [0, 2, 4]
     exact x_then_n (hJ_j_31 (⟨w64 ((Int.tmod (band .i64 x0 31) 13) + 0), band .i64 (shr .i64 x0 8) 7, t_63, t_9, t_75⟩ : api_Cmd) H _ _ ⟨v_285, v_16, v_277, g_248, N_284, h, (Sep.sel hS [0, 1, 1001, 1002, 5] (by decide)), (le_280.trans le_284), (hr_286.mono ln_284), ((hr_18.mono lo_19).mono (le_280.trans le_284)), ((hr_279.mono lo_280).mono le_284)⟩)
 ·refine ⟨_, (bA 21 554495), rfl, by kernel_rfl, ?_⟩
  refine v_alloc h rfl ti28 hS fun w_288 g_289 hS' a h => ?_
  replace hS : Sep w0 w_288 [_, _, _, _, Mem.one g_289 (.cells ([iV 0, iV 0, nS, nS, nS] : List Value).toArray 28 (0, 0))] Z := hS'
  clear hS'
  refine wpList_nil <| x_then_n ⟨(hS.sub (.cons (Mem.le.refl _) (.rr (.rr (.zz .nn))))), ?_⟩
  refine h_events [9, 11] (by kernel_rfl) (by simp) ?_
  intro i hi; simp only [List.mem_cons, List.not_mem_nil, or_false] at hi; rcases hi with rfl | rfl
  ·refine ⟨_, (bA 21 555007), rfl, by kernel_rfl, ?_⟩
   refine s_call h rfl Try.call60 rfl (hocketlaw7_Keys.calls (shr .i64 x0 11) t_63 w0 _ _ _ (Mem.le.refl _) (hS.enter [] (by decide))  et_63) ?_
   rintro v_294 w_291 ⟨_, N_292, rfl, hS', hr_295⟩
   intro a h
   obtain ⟨N_293, hS'', le_293, ln_293⟩ := hS.call [] (by decide) rfl (l' := []) (ow := []) rfl hS'
   replace hS : Sep w0 w_291 [N_293, _, _, _, _] Z := hS''
   clear hS' hS''
   refine wpList_nil <| x_then_n ⟨(hS.sub (.cons le_293 (.rr (.rr (.zz .nn))))), ?_⟩
   refine h_event 11 (bA 21 557055) rfl (by kernel_rfl) (by kernel_rfl) ?_
   have hq_300 : Reps Kd.str Mem.no ([([] : List UInt8), ([97] : List UInt8), ([98] : List UInt8), ([97, 98] : List UInt8)] : List (List UInt8)) _ := ((Reps.one (d := Kd.str) (x := ([] : List UInt8)) (show Kd.str.K _ _ [.string ⟨([] : List UInt8).toArray⟩] from rfl)).append ((Reps.one (d := Kd.str) (x := ([97] : List UInt8)) (show Kd.str.K _ _ [.string ⟨([97] : List UInt8).toArray⟩] from rfl)).append ((Reps.one (d := Kd.str) (x := ([98] : List UInt8)) (show Kd.str.K _ _ [.string ⟨([98] : List UInt8).toArray⟩] from rfl)).append ((Reps.one (d := Kd.str) (x := ([97, 98] : List UInt8)) (show Kd.str.K _ _ [.string ⟨([97, 98] : List UInt8).toArray⟩] from rfl)).append (Reps.nil Kd.str _)))))
   refine s_buildSlice h rfl U83 ti9 rfl rfl rfl (.cons rfl (.cons rfl (.cons rfl (.cons rfl .nil)))) rfl rfl rfl hS hq_300 rfl fun w_296 v_297 M_298 hS' ho_299 a h => ?_
   replace hS : Sep w0 w_296 [_, _, _, _, _, M_298] Z := hS'
   clear hS' hq_300
   refine wpList_nil <| x_then_n ⟨(hS.sub (.cons le_293 (.rr (.rr (.zz .nn))))), ?_⟩
   refine t_takeE 15 (bA 21 589823) rfl rfl rfl rfl h (hS.sub (.cons le_293 (.rr (.rr (.zz .nn))))) (f := fun ad => .pointer (some ad)) (r_indexO h U83 ti9 rfl rfl rfl ho_299 et_75) ?_
   rintro ad_303 ⟨cs_304, hk_305, hc_306⟩
   obtain rfl := (show cs_304 = [.string ⟨t_75.toArray⟩] from hk_305)
   intro a h
   refine h_event 16 (bA 21 655359) rfl (by kernel_rfl) (by kernel_rfl) <| s_load h rfl rfl (el_one (o := 0) (fun j c h => Mem.cell_le (hS.own 5) (hc_306 j c h)) U9 rfl rfl) fun a h=>wpList_nil <| x_then_n ⟨(hS.sub (.cons le_293 (.rr (.rr (.zz .nn))))), ?_⟩
   refine h_event 17 (bA 21 786431) rfl (by kernel_rfl) (by kernel_rfl) <| s_s2b h rfl U9 U26 U5 rfl (must_some eu_80) hS fun w_308 v_309 M_310 hS' hr_311 a h => ?_
   obtain ⟨N_312, hS'', le_312, lo_312⟩ := Sep.freeze (l := [Mem.one g_2 (.cells ([iV 0, iV 0, nS, nS, nS] : List Value).toArray 28 (0, 0)), M_5, Mem.no, Mem.one g_289 (.cells ([iV 0, iV 0, nS, nS, nS] : List Value).toArray 28 (0, 0)), M_298, M_310]) hS' 5 rfl
   replace hS : Sep w0 w_308 [N_312, _, _, _, _, _, Mem.no] Z := hS''
   clear hS' hS''
   refine wpList_nil <| x_then_n ⟨(hS.sub (.cons (le_293.trans le_312) (.rr (.rr (.zz .nn))))), ?_⟩
   refine t_take 18 (bA 21 1048575) rfl rfl rfl rfl h (hS.sub (.cons (le_293.trans le_312) (.rr (.rr (.zz .nn))))) (v := .agg ([iV (w64 ((Int.tmod (band .i64 x0 31) 13) + 0)), iV (band .i64 (shr .i64 x0 8) 7), v_294, v_16, v_309] : List Value).toArray) (fun w hS => r_build h ti28 pl28 rfl (.cons rfl (.cons rfl (.cons (hr_295.mono ln_293).cells (.cons (hr_18.mono lo_19).cells (.cons (hr_311.mono lo_312).cells .nil))))) (cs := [iV (w64 ((Int.tmod (band .i64 x0 31) 13) + 0)), iV (band .i64 (shr .i64 x0 8) 7), v_294, v_16, v_309]) (by kernel_rfl)) fun a h=>h_event 20 (bA 21 2097151) rfl (by kernel_rfl) (by kernel_rfl) ?_
   obtain ⟨w_313, hs', hS'⟩ := hS.store (P := Try.prog) (p := 4) (o := 0) (t := 28) (v := .agg ([iV (w64 ((Int.tmod (band .i64 x0 31) 13) + 0)), iV (band .i64 (shr .i64 x0 8) 7), v_294, v_16, v_309] : List Value).toArray) (vs := [iV (w64 ((Int.tmod (band .i64 x0 31) 13) + 0)), iV (band .i64 (shr .i64 x0 8) 7), v_294, v_16, v_309]) rfl ti28 rfl rfl rfl (by intro u hu; simp only [List.mem_cons, List.not_mem_nil, or_false] at hu; rcases hu with rfl | rfl | rfl | rfl | rfl <;> first | rfl | exact (hr_295.mono ln_293).one | exact (hr_18.mono lo_19).one | exact (hr_311.mono lo_312).one)
   refine s_store h rfl rfl hs' ?_
   replace hS : Sep w0 w_313 [_, _, _, _, Mem.one g_289 (.cells ([iV (w64 ((Int.tmod (band .i64 x0 31) 13) + 0)), iV (band .i64 (shr .i64 x0 8) 7), v_294, v_16, v_309] : List Value).toArray 28 (0, 0)), _, _] Z := hS'
   clear hs' hS'
   refine wpList_nil <| x_then_n ⟨(hS.sub (.cons (le_293.trans le_312) (.rr (.rr (.zz .nn))))), ?_⟩
   refine h_done (by kernel_rfl) ?_
   replace hS : Sep w0 w_313 [_, _, _, _, _, _, _] Z := hS
   replace h : Fr 60 a [(0, _), (2, .pointer (some ⟨g_2, 0, none⟩)), (4, .pointer (some ⟨g_289, 0, none⟩))] := h.keep [0, 2, 4]
   exact x_then_n (hJ_j_31 (⟨w64 ((Int.tmod (band .i64 x0 31) 13) + 0), band .i64 (shr .i64 x0 8) 7, t_63, t_9, t_75⟩ : api_Cmd) H _ _ ⟨v_294, v_16, v_309, g_289, N_312, h, (Sep.sel hS [0, 1, 1001, 1002, 4] (by decide)), (le_293.trans le_312), ((hr_295.mono ln_293).mono le_312), ((hr_18.mono lo_19).mono (le_293.trans le_312)), (hr_311.mono lo_312)⟩)
  ·refine ⟨_, (bA 21 556543), rfl, by kernel_rfl, ?_⟩
   have hq_318 : Reps Kd.str Mem.no ([([] : List UInt8), ([97] : List UInt8), ([98] : List UInt8), ([97, 98] : List UInt8)] : List (List UInt8)) _ := ((Reps.one (d := Kd.str) (x := ([] : List UInt8)) (show Kd.str.K _ _ [.string ⟨([] : List UInt8).toArray⟩] from rfl)).append ((Reps.one (d := Kd.str) (x := ([97] : List UInt8)) (show Kd.str.K _ _ [.string ⟨([97] : List UInt8).toArray⟩] from rfl)).append ((Reps.one (d := Kd.str) (x := ([98] : List UInt8)) (show Kd.str.K _ _ [.string ⟨([98] : List UInt8).toArray⟩] from rfl)).append ((Reps.one (d := Kd.str) (x := ([97, 98] : List UInt8)) (show Kd.str.K _ _ [.string ⟨([97, 98] : List UInt8).toArray⟩] from rfl)).append (Reps.nil Kd.str _)))))
   refine s_buildSlice h rfl U83 ti9 rfl rfl rfl (.cons rfl (.cons rfl (.cons rfl (.cons rfl .nil)))) rfl rfl rfl hS hq_318 rfl fun w_314 v_315 M_316 hS' ho_317 a h => ?_
   replace hS : Sep w0 w_314 [_, _, _, _, _, M_316] Z := hS'
   clear hS' hq_318
   refine wpList_nil <| x_then_n ⟨(hS.sub (.cons (Mem.le.refl _) (.rr (.rr (.zz .nn))))), ?_⟩
   refine t_takeE 15 (bA 21 589311) rfl rfl rfl rfl h (hS.sub (.cons (Mem.le.refl _) (.rr (.rr (.zz .nn))))) (f := fun ad => .pointer (some ad)) (r_indexO h U83 ti9 rfl rfl rfl ho_317 et_75) ?_
   rintro ad_321 ⟨cs_322, hk_323, hc_324⟩
   obtain rfl := (show cs_322 = [.string ⟨t_75.toArray⟩] from hk_323)
   intro a h
   refine h_events [9, 16] (by kernel_rfl) (by simp) ?_
   intro i hi; simp only [List.mem_cons, List.not_mem_nil, or_false] at hi; rcases hi with rfl | rfl
   ·refine ⟨_, (bA 21 589823), rfl, by kernel_rfl, ?_⟩
    refine s_call h rfl Try.call60 rfl (hocketlaw7_Keys.calls (shr .i64 x0 11) t_63 w0 _ _ _ (Mem.le.refl _) (hS.enter [] (by decide))  et_63) ?_
    rintro v_329 w_326 ⟨_, N_327, rfl, hS', hr_330⟩
    intro a h
    obtain ⟨N_328, hS'', le_328, ln_328⟩ := hS.call [] (by decide) rfl (l' := []) (ow := []) rfl hS'
    replace hS : Sep w0 w_326 [N_328, _, _, _, _, _] Z := hS''
    clear hS' hS''
    refine wpList_nil <| x_then_n ⟨(hS.sub (.cons le_328 (.rr (.rr (.zz .nn))))), ?_⟩
    refine h_event 16 (bA 21 655359) rfl (by kernel_rfl) (by kernel_rfl) <| s_load h rfl rfl (el_one (o := 0) (fun j c h => Mem.cell_le (hS.own 5) (hc_324 j c h)) U9 rfl rfl) fun a h=>wpList_nil <| x_then_n ⟨(hS.sub (.cons le_328 (.rr (.rr (.zz .nn))))), ?_⟩
    refine h_event 17 (bA 21 786431) rfl (by kernel_rfl) (by kernel_rfl) <| s_s2b h rfl U9 U26 U5 rfl (must_some eu_80) hS fun w_332 v_333 M_334 hS' hr_335 a h => ?_
    obtain ⟨N_336, hS'', le_336, lo_336⟩ := Sep.freeze (l := [Mem.one g_2 (.cells ([iV 0, iV 0, nS, nS, nS] : List Value).toArray 28 (0, 0)), M_5, Mem.no, Mem.one g_289 (.cells ([iV 0, iV 0, nS, nS, nS] : List Value).toArray 28 (0, 0)), M_316, M_334]) hS' 5 rfl
    replace hS : Sep w0 w_332 [N_336, _, _, _, _, _, Mem.no] Z := hS''
    clear hS' hS''
    refine wpList_nil <| x_then_n ⟨(hS.sub (.cons (le_328.trans le_336) (.rr (.rr (.zz .nn))))), ?_⟩
    refine t_take 18 (bA 21 1048575) rfl rfl rfl rfl h (hS.sub (.cons (le_328.trans le_336) (.rr (.rr (.zz .nn))))) (v := .agg ([iV (w64 ((Int.tmod (band .i64 x0 31) 13) + 0)), iV (band .i64 (shr .i64 x0 8) 7), v_329, v_16, v_333] : List Value).toArray) (fun w hS => r_build h ti28 pl28 rfl (.cons rfl (.cons rfl (.cons (hr_330.mono ln_328).cells (.cons (hr_18.mono lo_19).cells (.cons (hr_335.mono lo_336).cells .nil))))) (cs := [iV (w64 ((Int.tmod (band .i64 x0 31) 13) + 0)), iV (band .i64 (shr .i64 x0 8) 7), v_329, v_16, v_333]) (by kernel_rfl)) fun a h=>h_event 20 (bA 21 2097151) rfl (by kernel_rfl) (by kernel_rfl) ?_
    obtain ⟨w_337, hs', hS'⟩ := hS.store (P := Try.prog) (p := 4) (o := 0) (t := 28) (v := .agg ([iV (w64 ((Int.tmod (band .i64 x0 31) 13) + 0)), iV (band .i64 (shr .i64 x0 8) 7), v_329, v_16, v_333] : List Value).toArray) (vs := [iV (w64 ((Int.tmod (band .i64 x0 31) 13) + 0)), iV (band .i64 (shr .i64 x0 8) 7), v_329, v_16, v_333]) rfl ti28 rfl rfl rfl (by intro u hu; simp only [List.mem_cons, List.not_mem_nil, or_false] at hu; rcases hu with rfl | rfl | rfl | rfl | rfl <;> first | rfl | exact (hr_330.mono ln_328).one | exact (hr_18.mono lo_19).one | exact (hr_335.mono lo_336).one)
    refine s_store h rfl rfl hs' ?_
    replace hS : Sep w0 w_337 [_, _, _, _, Mem.one g_289 (.cells ([iV (w64 ((Int.tmod (band .i64 x0 31) 13) + 0)), iV (band .i64 (shr .i64 x0 8) 7), v_329, v_16, v_333] : List Value).toArray 28 (0, 0)), _, _] Z := hS'
    clear hs' hS'
    refine wpList_nil <| x_then_n ⟨(hS.sub (.cons (le_328.trans le_336) (.rr (.rr (.zz .nn))))), ?_⟩
    refine h_done (by kernel_rfl) ?_
    replace hS : Sep w0 w_337 [_, _, _, _, _, _, _] Z := hS
    replace h : Fr 60 a [(0, _), (2, .pointer (some ⟨g_2, 0, none⟩)), (4, .pointer (some ⟨g_289, 0, none⟩))] := h.keep [0, 2, 4]
    exact x_then_n (hJ_j_31 (⟨w64 ((Int.tmod (band .i64 x0 31) 13) + 0), band .i64 (shr .i64 x0 8) 7, t_63, t_9, t_75⟩ : api_Cmd) H _ _ ⟨v_329, v_16, v_333, g_289, N_336, h, (Sep.sel hS [0, 1, 1001, 1002, 4] (by decide)), (le_328.trans le_336), ((hr_330.mono ln_328).mono le_336), ((hr_18.mono lo_19).mono (le_328.trans le_336)), (hr_335.mono lo_336)⟩)
   ·refine ⟨_, (bA 21 654847), rfl, by kernel_rfl, ?_⟩
    refine s_load h rfl rfl (el_one (o := 0) (fun j c h => Mem.cell_le (hS.own 5) (hc_324 j c h)) U9 rfl rfl) fun a h=>wpList_nil <| x_then_n ⟨(hS.sub (.cons (Mem.le.refl _) (.rr (.rr (.zz .nn))))), ?_⟩
    refine h_events [9, 17] (by kernel_rfl) (by simp) ?_
    intro i hi; simp only [List.mem_cons, List.not_mem_nil, or_false] at hi; rcases hi with rfl | rfl
    ·refine ⟨_, (bA 21 655359), rfl, by kernel_rfl, ?_⟩
     refine s_call h rfl Try.call60 rfl (hocketlaw7_Keys.calls (shr .i64 x0 11) t_63 w0 _ _ _ (Mem.le.refl _) (hS.enter [] (by decide))  et_63) ?_
     rintro v_342 w_339 ⟨_, N_340, rfl, hS', hr_343⟩
     intro a h
     obtain ⟨N_341, hS'', le_341, ln_341⟩ := hS.call [] (by decide) rfl (l' := []) (ow := []) rfl hS'
     replace hS : Sep w0 w_339 [N_341, _, _, _, _, _] Z := hS''
     clear hS' hS''
     refine wpList_nil <| x_then_n ⟨(hS.sub (.cons le_341 (.rr (.rr (.zz .nn))))), ?_⟩
     refine h_event 17 (bA 21 786431) rfl (by kernel_rfl) (by kernel_rfl) <| s_s2b h rfl U9 U26 U5 rfl (must_some eu_80) hS fun w_345 v_346 M_347 hS' hr_348 a h => ?_
     obtain ⟨N_349, hS'', le_349, lo_349⟩ := Sep.freeze (l := [Mem.one g_2 (.cells ([iV 0, iV 0, nS, nS, nS] : List Value).toArray 28 (0, 0)), M_5, Mem.no, Mem.one g_289 (.cells ([iV 0, iV 0, nS, nS, nS] : List Value).toArray 28 (0, 0)), M_316, M_347]) hS' 5 rfl
     replace hS : Sep w0 w_345 [N_349, _, _, _, _, _, Mem.no] Z := hS''
     clear hS' hS''
     refine wpList_nil <| x_then_n ⟨(hS.sub (.cons (le_341.trans le_349) (.rr (.rr (.zz .nn))))), ?_⟩
     refine t_take 18 (bA 21 1048575) rfl rfl rfl rfl h (hS.sub (.cons (le_341.trans le_349) (.rr (.rr (.zz .nn))))) (v := .agg ([iV (w64 ((Int.tmod (band .i64 x0 31) 13) + 0)), iV (band .i64 (shr .i64 x0 8) 7), v_342, v_16, v_346] : List Value).toArray) (fun w hS => r_build h ti28 pl28 rfl (.cons rfl (.cons rfl (.cons (hr_343.mono ln_341).cells (.cons (hr_18.mono lo_19).cells (.cons (hr_348.mono lo_349).cells .nil))))) (cs := [iV (w64 ((Int.tmod (band .i64 x0 31) 13) + 0)), iV (band .i64 (shr .i64 x0 8) 7), v_342, v_16, v_346]) (by kernel_rfl)) fun a h=>h_event 20 (bA 21 2097151) rfl (by kernel_rfl) (by kernel_rfl) ?_
     obtain ⟨w_350, hs', hS'⟩ := hS.store (P := Try.prog) (p := 4) (o := 0) (t := 28) (v := .agg ([iV (w64 ((Int.tmod (band .i64 x0 31) 13) + 0)), iV (band .i64 (shr .i64 x0 8) 7), v_342, v_16, v_346] : List Value).toArray) (vs := [iV (w64 ((Int.tmod (band .i64 x0 31) 13) + 0)), iV (band .i64 (shr .i64 x0 8) 7), v_342, v_16, v_346]) rfl ti28 rfl rfl rfl (by intro u hu; simp only [List.mem_cons, List.not_mem_nil, or_false] at hu; rcases hu with rfl | rfl | rfl | rfl | rfl <;> first | rfl | exact (hr_343.mono ln_341).one | exact (hr_18.mono lo_19).one | exact (hr_348.mono lo_349).one)
     refine s_store h rfl rfl hs' ?_
     replace hS : Sep w0 w_350 [_, _, _, _, Mem.one g_289 (.cells ([iV (w64 ((Int.tmod (band .i64 x0 31) 13) + 0)), iV (band .i64 (shr .i64 x0 8) 7), v_342, v_16, v_346] : List Value).toArray 28 (0, 0)), _, _] Z := hS'
     clear hs' hS'
     refine wpList_nil <| x_then_n ⟨(hS.sub (.cons (le_341.trans le_349) (.rr (.rr (.zz .nn))))), ?_⟩
     refine h_done (by kernel_rfl) ?_
     replace hS : Sep w0 w_350 [_, _, _, _, _, _, _] Z := hS
     replace h : Fr 60 a [(0, _), (2, .pointer (some ⟨g_2, 0, none⟩)), (4, .pointer (some ⟨g_289, 0, none⟩))] := h.keep [0, 2, 4]
     exact x_then_n (hJ_j_31 (⟨w64 ((Int.tmod (band .i64 x0 31) 13) + 0), band .i64 (shr .i64 x0 8) 7, t_63, t_9, t_75⟩ : api_Cmd) H _ _ ⟨v_342, v_16, v_346, g_289, N_349, h, (Sep.sel hS [0, 1, 1001, 1002, 4] (by decide)), (le_341.trans le_349), ((hr_343.mono ln_341).mono le_349), ((hr_18.mono lo_19).mono (le_341.trans le_349)), (hr_348.mono lo_349)⟩)
    ·refine ⟨_, (bA 21 785919), rfl, by kernel_rfl, ?_⟩
     refine s_s2b h rfl U9 U26 U5 rfl (must_some eu_80) hS fun w_352 v_353 M_354 hS' hr_355 a h => ?_
     obtain ⟨N_356, hS'', le_356, lo_356⟩ := Sep.freeze (l := [Mem.one g_2 (.cells ([iV 0, iV 0, nS, nS, nS] : List Value).toArray 28 (0, 0)), M_5, Mem.no, Mem.one g_289 (.cells ([iV 0, iV 0, nS, nS, nS] : List Value).toArray 28 (0, 0)), M_316, M_354]) hS' 5 rfl
     replace hS : Sep w0 w_352 [N_356, _, _, _, _, _, Mem.no] Z := hS''
     clear hS' hS''
     refine wpList_nil <| x_then_n ⟨(hS.sub (.cons le_356 (.rr (.rr (.zz .nn))))), ?_⟩
     refine h_event 9 (bA 21 786431) rfl (by kernel_rfl) (by kernel_rfl) <| s_call h rfl Try.call60 rfl (hocketlaw7_Keys.calls (shr .i64 x0 11) t_63 w0 _ _ _ (Mem.le.refl _) (hS.enter [] (by decide))  et_63) ?_
     rintro v_361 w_358 ⟨_, N_359, rfl, hS', hr_362⟩
     intro a h
     obtain ⟨N_360, hS'', le_360, ln_360⟩ := hS.call [] (by decide) rfl (l' := []) (ow := []) rfl hS'
     replace hS : Sep w0 w_358 [N_360, _, _, _, _, _, _] Z := hS''
     clear hS' hS''
     refine wpList_nil <| x_then_n ⟨(hS.sub (.cons (le_356.trans le_360) (.rr (.rr (.zz .nn))))), ?_⟩
     refine t_take 18 (bA 21 1048575) rfl rfl rfl rfl h (hS.sub (.cons (le_356.trans le_360) (.rr (.rr (.zz .nn))))) (v := .agg ([iV (w64 ((Int.tmod (band .i64 x0 31) 13) + 0)), iV (band .i64 (shr .i64 x0 8) 7), v_361, v_16, v_353] : List Value).toArray) (fun w hS => r_build h ti28 pl28 rfl (.cons rfl (.cons rfl (.cons (hr_362.mono ln_360).cells (.cons (hr_18.mono lo_19).cells (.cons (hr_355.mono lo_356).cells .nil))))) (cs := [iV (w64 ((Int.tmod (band .i64 x0 31) 13) + 0)), iV (band .i64 (shr .i64 x0 8) 7), v_361, v_16, v_353]) (by kernel_rfl)) fun a h=>h_event 20 (bA 21 2097151) rfl (by kernel_rfl) (by kernel_rfl) ?_
     obtain ⟨w_363, hs', hS'⟩ := hS.store (P := Try.prog) (p := 4) (o := 0) (t := 28) (v := .agg ([iV (w64 ((Int.tmod (band .i64 x0 31) 13) + 0)), iV (band .i64 (shr .i64 x0 8) 7), v_361, v_16, v_353] : List Value).toArray) (vs := [iV (w64 ((Int.tmod (band .i64 x0 31) 13) + 0)), iV (band .i64 (shr .i64 x0 8) 7), v_361, v_16, v_353]) rfl ti28 rfl rfl rfl (by intro u hu; simp only [List.mem_cons, List.not_mem_nil, or_false] at hu; rcases hu with rfl | rfl | rfl | rfl | rfl <;> first | rfl | exact (hr_362.mono ln_360).one | exact (hr_18.mono lo_19).one | exact (hr_355.mono lo_356).one)
     refine s_store h rfl rfl hs' ?_
     replace hS : Sep w0 w_363 [_, _, _, _, Mem.one g_289 (.cells ([iV (w64 ((Int.tmod (band .i64 x0 31) 13) + 0)), iV (band .i64 (shr .i64 x0 8) 7), v_361, v_16, v_353] : List Value).toArray 28 (0, 0)), _, _] Z := hS'
     clear hs' hS'
     refine wpList_nil <| x_then_n ⟨(hS.sub (.cons (le_356.trans le_360) (.rr (.rr (.zz .nn))))), ?_⟩
     refine h_done (by kernel_rfl) ?_
     replace hS : Sep w0 w_363 [_, _, _, _, _, _, _] Z := hS
     replace h : Fr 60 a [(0, _), (2, .pointer (some ⟨g_2, 0, none⟩)), (4, .pointer (some ⟨g_289, 0, none⟩))] := h.keep [0, 2, 4]
     exact x_then_n (hJ_j_31 (⟨w64 ((Int.tmod (band .i64 x0 31) 13) + 0), band .i64 (shr .i64 x0 8) 7, t_63, t_9, t_75⟩ : api_Cmd) H _ _ ⟨v_361, v_16, v_353, g_289, N_360, h, (Sep.sel hS [0, 1, 1001, 1002, 4] (by decide)), (le_356.trans le_360), (hr_362.mono ln_360), ((hr_18.mono lo_19).mono (le_356.trans le_360)), ((hr_355.mono lo_356).mono le_360)⟩)

set_option maxHeartbeats 4000000 in
set_option maxRecDepth 20000 in
theorem hocketlaw10_Entry.calls (x0 : Int) (x1 : Int) (r : api_Entry) (w0 w : World) (Z A : Mem) (hA : A.le Z) (hS : Sep w0 w [] Z)
    (H : hocketlaw10_Entry.f x0 x1 = some r) :
    Calls Try.prog 28 [iV x0, iV x1].toArray w (Ret fun v w' => ∃ (u0 : Value) (u1 : Value) (u2 : Value) (N : Mem), v = .agg [iV r.Sess, iV r.Seq, iV r.Cmd.Kind, iV r.Cmd.Who, u0, u1, u2].toArray ∧ Sep w0 w' [N] Z ∧ Rd Kd.u8 N u0 r.Cmd.Key ∧ Rd Kd.u8 N u1 r.Cmd.Val ∧ Rd Kd.u8 N u2 r.Cmd.Old) := by
 unfold hocketlaw10_Entry.f at H
 refine f_enter _ Try.func28 rfl Try.ntmps28 rfl fun a h=>?_
 replace h : Fr 20 a [(0, iV x0), (1, iV x1)] := h
 replace hS := hS.start
 replace hS : Sep w0 w [_] Z := hS
 refine wp_seq <| wp_region_lit <| v_alloc h rfl ti30 hS fun w_1 g_2 hS' a h => ?_
 replace hS : Sep w0 w_1 [_, Mem.one g_2 (.cells ([iV 0, iV 0, iV 0, iV 0, nS, nS, nS] : List Value).toArray 30 (0, 0))] Z := hS'
 clear hS'
 refine wpList_nil <| x_then_n <| wp_seq <| wp_region_lit <| s_move h rfl rfl fun a h=>s_shift (r := shr .i64 x0 25) h rfl rfl rfl (by decide) (.inr ⟨rfl, rfl⟩) fun a h=>s_bits (i := shr .i64 x0 25) (j := 7) (r := band .i64 (shr .i64 x0 25) 7) h rfl rfl rfl (.inl ⟨rfl, rfl⟩) fun a h=>s_div (r := Int.tmod (band .i64 (shr .i64 x0 25) 7) 6) h rfl rfl rfl (by decide) (.inr ⟨rfl, rfl⟩) fun a h=>s_arith (r := w64 ((Int.tmod (band .i64 (shr .i64 x0 25) 7) 6) + 1)) h rfl rfl rfl (.inl ⟨rfl, rfl⟩) fun a h=>s_move h rfl rfl fun a h=>s_div (r := w64 (Int.tdiv x1 3)) h rfl rfl rfl (by decide) (.inl ⟨rfl, rfl⟩) fun a h=>s_move h rfl rfl fun a h=>?_
 refine s_shift (r := shr .i64 x0 28) h rfl rfl rfl (by decide) (.inr ⟨rfl, rfl⟩) fun a h=>s_bits (i := shr .i64 x0 28) (j := 1) (r := band .i64 (shr .i64 x0 28) 1) h rfl rfl rfl (.inl ⟨rfl, rfl⟩) fun a h=>s_arith (r := w64 ((w64 (Int.tdiv x1 3)) + (band .i64 (shr .i64 x0 28) 1))) h rfl rfl rfl (.inl ⟨rfl, rfl⟩) fun a h=>s_arith (r := w64 ((w64 ((w64 (Int.tdiv x1 3)) + (band .i64 (shr .i64 x0 28) 1))) + 1)) h rfl rfl rfl (.inl ⟨rfl, rfl⟩) fun a h=>s_move h rfl rfl fun a h=>?_
 obtain ⟨t_3, et_3, H⟩ := Option.bind_eq_some_iff.1 H
 refine s_call h rfl Try.call45 rfl (hocketlaw8_Cmd.calls x0 t_3 w0 _ _ _ (Mem.le.refl _) (hS.enter [] (by decide))  et_3) ?_
 rintro _ w_4 ⟨v_7, v_9, v_11, N_5, rfl, hS', hr_8, hr_10, hr_12⟩
 intro a h
 obtain ⟨N_6, hS'', le_6, ln_6⟩ := hS.call [] (by decide) rfl (l' := []) (ow := []) rfl hS'
 replace hS : Sep w0 w_4 [N_6, _] Z := hS''
 clear hS' hS''
 refine s_build h rfl ti30 pl30 rfl (.cons rfl (.cons rfl (.cons rfl .nil))) (cs := [iV (w64 ((Int.tmod (band .i64 (shr .i64 x0 25) 7) 6) + 1)), iV (w64 ((w64 ((w64 (Int.tdiv x1 3)) + (band .i64 (shr .i64 x0 28) 1))) + 1)), iV t_3.Kind, iV t_3.Who, v_7, v_9, v_11]) (by kernel_rfl) fun a h=>?_
 obtain ⟨w_13, hs', hS'⟩ := hS.store (P := Try.prog) (p := 1) (o := 0) (t := 30) (v := .agg ([iV (w64 ((Int.tmod (band .i64 (shr .i64 x0 25) 7) 6) + 1)), iV (w64 ((w64 ((w64 (Int.tdiv x1 3)) + (band .i64 (shr .i64 x0 28) 1))) + 1)), iV t_3.Kind, iV t_3.Who, v_7, v_9, v_11] : List Value).toArray) (vs := [iV (w64 ((Int.tmod (band .i64 (shr .i64 x0 25) 7) 6) + 1)), iV (w64 ((w64 ((w64 (Int.tdiv x1 3)) + (band .i64 (shr .i64 x0 28) 1))) + 1)), iV t_3.Kind, iV t_3.Who, v_7, v_9, v_11]) rfl ti30 rfl rfl rfl (by intro u hu; simp only [List.mem_cons, List.not_mem_nil, or_false] at hu; rcases hu with rfl | rfl | rfl | rfl | rfl | rfl | rfl <;> first | rfl | exact (hr_8.mono ln_6).one | exact (hr_10.mono ln_6).one | exact (hr_12.mono ln_6).one)
 refine s_store h rfl rfl hs' ?_
 replace hS : Sep w0 w_13 [_, Mem.one g_2 (.cells ([iV (w64 ((Int.tmod (band .i64 (shr .i64 x0 25) 7) 6) + 1)), iV (w64 ((w64 ((w64 (Int.tdiv x1 3)) + (band .i64 (shr .i64 x0 28) 1))) + 1)), iV t_3.Kind, iV t_3.Who, v_7, v_9, v_11] : List Value).toArray 30 (0, 0))] Z := hS'
 clear hs' hS'
 refine wpList_nil <| x_then_n <| wp_ret ?_
 obtain rfl := Option.some.inj H
 exact f_ret h (rs := [.cell 4 30]) rfl (.cell rfl (hS.load_agg (p := 1) (us := [iV (w64 ((Int.tmod (band .i64 (shr .i64 x0 25) 7) 6) + 1)), iV (w64 ((w64 ((w64 (Int.tdiv x1 3)) + (band .i64 (shr .i64 x0 28) 1))) + 1)), iV t_3.Kind, iV t_3.Who, v_7, v_9, v_11]) rfl U30 rfl ti30 rfl rfl) .nil) ⟨_, rfl, v_7, v_9, v_11, N_6, rfl, (Sep.sel hS [0] (by decide)), (hr_8.mono ln_6), (hr_10.mono ln_6), (hr_12.mono ln_6)⟩

set_option maxHeartbeats 4000000 in
set_option maxRecDepth 20000 in
theorem hocketlaw11_Msg.calls (K : Nat) (x0 : Int) (x1 : Int) (r : api_Msg) (w0 w : World) (Z A : Mem) (hA : A.le Z) (hS : Sep w0 w [] Z)
    (H : hocketlaw11_Msg.f K x0 x1 = some r) :
    Calls Try.prog 14 [iV x0, iV x1].toArray w (Ret fun v w' => ∃ (u0 : Value) (u1 : Value) (u2 : Value) (u3 : Value) (u4 : Value) (u5 : Value) (N : Mem) (M0 : Mem) (M1 : Mem) (M2 : Mem), v = .agg [iV r.Kind, iV r.From, iV r.To, iV r.View, iV r.Inst, iV r.Len, .bool r.Has, iV r.Members, iV r.Source, iV r.At, iV r.Total, u0, iV r.Hop, iV r.Seq, u1, u2, iV r.Index, iV r.Entry.Sess, iV r.Entry.Seq, iV r.Entry.Cmd.Kind, iV r.Entry.Cmd.Who, u3, u4, u5].toArray ∧ Sep w0 w' [N, M0, M1, M2] Z ∧ Own Kd.u8 5 M0 Mem.no u0 r.Data ∧ Own (Kd.int .i64) 3 M1 Mem.no u1 r.Have ∧ Own (Kd.int .i64) 3 M2 Mem.no u2 r.Need ∧ Rd Kd.u8 N u3 r.Entry.Cmd.Key ∧ Rd Kd.u8 N u4 r.Entry.Cmd.Val ∧ Rd Kd.u8 N u5 r.Entry.Cmd.Old) := by
 unfold hocketlaw11_Msg.f at H
 refine f_enter _ Try.func14 rfl Try.ntmps14 rfl fun a h=>?_
 replace h : Fr 150 a [(0, iV x0), (1, iV x1)] := h
 replace hS := hS.start
 replace hS : Sep w0 w [_] Z := hS
 refine wp_seq <| wp_region_lit <| v_alloc h rfl ti32 hS fun w_1 g_2 hS' a h => ?_
 replace hS : Sep w0 w_1 [_, Mem.one g_2 (.cells ([iV 0, iV 0, iV 0, iV 0, iV 0, iV 0, .bool false, iV 0, iV 0, iV 0, iV 0, nS, iV 0, iV 0, nS, nS, iV 0, iV 0, iV 0, iV 0, iV 0, nS, nS, nS] : List Value).toArray 32 (0, 0))] Z := hS'
 clear hS'
 refine wpList_nil <| x_then_n <| wp_seq <| wp_region_lit <| s_move h rfl rfl fun a h=>s_bits (i := x0) (j := 7) (r := band .i64 x0 7) h rfl rfl rfl (.inl ⟨rfl, rfl⟩) fun a h=>s_arith (r := w64 ((band .i64 x0 7) + 1)) h rfl rfl rfl (.inl ⟨rfl, rfl⟩) fun a h=>s_move h rfl rfl fun a h=>s_shift (r := shr .i64 x0 3) h rfl rfl rfl (by decide) (.inr ⟨rfl, rfl⟩) fun a h=>s_bits (i := shr .i64 x0 3) (j := 7) (r := band .i64 (shr .i64 x0 3) 7) h rfl rfl rfl (.inl ⟨rfl, rfl⟩) fun a h=>s_div (r := Int.tmod (band .i64 (shr .i64 x0 3) 7) 7) h rfl rfl rfl (by decide) (.inr ⟨rfl, rfl⟩) fun a h=>s_move h rfl rfl fun a h=>?_
 refine s_shift (r := shr .i64 x0 6) h rfl rfl rfl (by decide) (.inr ⟨rfl, rfl⟩) fun a h=>s_bits (i := shr .i64 x0 6) (j := 7) (r := band .i64 (shr .i64 x0 6) 7) h rfl rfl rfl (.inl ⟨rfl, rfl⟩) fun a h=>s_div (r := Int.tmod (band .i64 (shr .i64 x0 6) 7) 7) h rfl rfl rfl (by decide) (.inr ⟨rfl, rfl⟩) fun a h=>s_move h rfl rfl fun a h=>s_shift (r := shr .i64 x0 9) h rfl rfl rfl (by decide) (.inr ⟨rfl, rfl⟩) fun a h=>s_bits (i := shr .i64 x0 9) (j := 1023) (r := band .i64 (shr .i64 x0 9) 1023) h rfl rfl rfl (.inl ⟨rfl, rfl⟩) fun a h=>s_build h rfl ti32 pl32 rfl (.cons rfl (.cons rfl (.cons rfl (.cons rfl .nil)))) (cs := [iV (w64 ((band .i64 x0 7) + 1)), iV (Int.tmod (band .i64 (shr .i64 x0 3) 7) 7), iV (Int.tmod (band .i64 (shr .i64 x0 6) 7) 7), iV (band .i64 (shr .i64 x0 9) 1023), iV 0, iV 0, .bool false, iV 0, iV 0, iV 0, iV 0, nS, iV 0, iV 0, nS, nS, iV 0, iV 0, iV 0, iV 0, iV 0, nS, nS, nS]) (by kernel_rfl) fun a h=>v_alloc h rfl ti32 hS fun w_3 g_4 hS' a h => ?_
 replace hS : Sep w0 w_3 [_, _, Mem.one g_4 (.cells ([iV 0, iV 0, iV 0, iV 0, iV 0, iV 0, .bool false, iV 0, iV 0, iV 0, iV 0, nS, iV 0, iV 0, nS, nS, iV 0, iV 0, iV 0, iV 0, iV 0, nS, nS, nS] : List Value).toArray 32 (0, 0))] Z := hS'
 clear hS'
 obtain ⟨w_5, hs', hS'⟩ := hS.store (P := Try.prog) (p := 2) (o := 0) (t := 32) (v := .agg ([iV (w64 ((band .i64 x0 7) + 1)), iV (Int.tmod (band .i64 (shr .i64 x0 3) 7) 7), iV (Int.tmod (band .i64 (shr .i64 x0 6) 7) 7), iV (band .i64 (shr .i64 x0 9) 1023), iV 0, iV 0, .bool false, iV 0, iV 0, iV 0, iV 0, nS, iV 0, iV 0, nS, nS, iV 0, iV 0, iV 0, iV 0, iV 0, nS, nS, nS] : List Value).toArray) (vs := [iV (w64 ((band .i64 x0 7) + 1)), iV (Int.tmod (band .i64 (shr .i64 x0 3) 7) 7), iV (Int.tmod (band .i64 (shr .i64 x0 6) 7) 7), iV (band .i64 (shr .i64 x0 9) 1023), iV 0, iV 0, .bool false, iV 0, iV 0, iV 0, iV 0, nS, iV 0, iV 0, nS, nS, iV 0, iV 0, iV 0, iV 0, iV 0, nS, nS, nS]) rfl ti32 rfl rfl rfl (by intro u hu; simp only [List.mem_cons, List.not_mem_nil, or_false] at hu; rcases hu with rfl | rfl | rfl | rfl | rfl | rfl | rfl | rfl | rfl | rfl | rfl | rfl | rfl | rfl | rfl | rfl | rfl | rfl | rfl | rfl | rfl | rfl | rfl | rfl <;> rfl)
 refine s_store h rfl rfl hs' ?_
 replace hS : Sep w0 w_5 [_, _, Mem.one g_4 (.cells ([iV (w64 ((band .i64 x0 7) + 1)), iV (Int.tmod (band .i64 (shr .i64 x0 3) 7) 7), iV (Int.tmod (band .i64 (shr .i64 x0 6) 7) 7), iV (band .i64 (shr .i64 x0 9) 1023), _, _, _, _, _, _, _, _, _, _, _, _, _, _, _, _, _, _, _, _] : List Value).toArray 32 (0, 0))] Z := hS'
 clear hs' hS'
 refine wpList_nil <| x_then_n <| c_seq fun KJ_6 hKJ_6 => wp_seq <| wp_region_lit <| s_fieldAddr h rfl U32 rfl ti3 rfl rfl fun a h=>s_load h rfl rfl (hS.load_one (p := 2) rfl U3 rfl rfl) fun a h=>wpList_nil <| x_then_n <| c_block <| wp_seq <| wp_region_lit <| s_cmp (b := ((w64 ((band .i64 x0 7) + 1)) == 2)) h rfl rfl rfl (.inl ⟨rfl, rfl⟩) fun a h=>?_
 refine s_assign h rfl rfl fun a h=>wpList_nil ?_
 replace h : Fr 150 a [(0, _), (1, _), (4, .pointer (some ⟨g_2, 0, none⟩)), (5, .pointer (some ⟨g_4, 0, none⟩)), (25, iV (w64 ((band .i64 x0 7) + 1))), (26, .bool ((w64 ((band .i64 x0 7) + 1)) == 2))] := h.keep [0, 1, 4, 5, 25, 26]
 refine x_then_n ?_
 by_cases hc_7 : (w64 ((band .i64 x0 7) + 1)) = 2
 ·rw [if_pos hc_7] at H
  refine c_cond_t h rfl (beq_iff_eq.2 hc_7) <| wp_region_lit <| s_move h rfl rfl fun a h=>s_bits (i := x1) (j := 255) (r := band .i64 x1 255) h rfl rfl rfl (.inl ⟨rfl, rfl⟩) fun a h=>s_move h rfl rfl fun a h=>s_shift (r := shr .i64 x1 8) h rfl rfl rfl (by decide) (.inr ⟨rfl, rfl⟩) fun a h=>s_bits (i := shr .i64 x1 8) (j := 63) (r := band .i64 (shr .i64 x1 8) 63) h rfl rfl rfl (.inl ⟨rfl, rfl⟩) fun a h=>s_move h rfl rfl fun a h=>s_shift (r := shr .i64 x1 14) h rfl rfl rfl (by decide) (.inr ⟨rfl, rfl⟩) fun a h=>s_bits (i := shr .i64 x1 14) (j := 1) (r := band .i64 (shr .i64 x1 14) 1) h rfl rfl rfl (.inl ⟨rfl, rfl⟩) fun a h=>s_cmp (b := ((band .i64 (shr .i64 x1 14) 1) == 1)) h rfl rfl rfl (.inl ⟨rfl, rfl⟩) fun a h=>s_fieldAddr h rfl U32 rfl ti3 rfl rfl fun a h=>?_
  obtain ⟨w_8, hs', hS'⟩ := hS.store (P := Try.prog) (p := 2) (o := 4) (t := 3) (v := iV (band .i64 x1 255)) (vs := [iV (band .i64 x1 255)]) rfl ti3 rfl rfl rfl (by intro u hu; simp only [List.mem_cons, List.not_mem_nil, or_false] at hu; rcases hu with rfl <;> rfl)
  refine s_store h rfl rfl hs' ?_
  replace hS : Sep w0 w_8 [_, _, Mem.one g_4 (.cells ([_, _, _, _, iV (band .i64 x1 255), _, _, _, _, _, _, _, _, _, _, _, _, _, _, _, _, _, _, _] : List Value).toArray 32 (0, 0))] Z := hS'
  clear hs' hS'
  refine s_fieldAddr h rfl U32 rfl ti3 rfl rfl fun a h=>?_
  obtain ⟨w_9, hs', hS'⟩ := hS.store (P := Try.prog) (p := 2) (o := 5) (t := 3) (v := iV (band .i64 (shr .i64 x1 8) 63)) (vs := [iV (band .i64 (shr .i64 x1 8) 63)]) rfl ti3 rfl rfl rfl (by intro u hu; simp only [List.mem_cons, List.not_mem_nil, or_false] at hu; rcases hu with rfl <;> rfl)
  refine s_store h rfl rfl hs' ?_
  replace hS : Sep w0 w_9 [_, _, Mem.one g_4 (.cells ([_, _, _, _, _, iV (band .i64 (shr .i64 x1 8) 63), _, _, _, _, _, _, _, _, _, _, _, _, _, _, _, _, _, _] : List Value).toArray 32 (0, 0))] Z := hS'
  clear hs' hS'
  refine s_fieldAddr h rfl U32 rfl ti4 rfl rfl fun a h=>?_
  obtain ⟨w_10, hs', hS'⟩ := hS.store (P := Try.prog) (p := 2) (o := 6) (t := 4) (v := .bool ((band .i64 (shr .i64 x1 14) 1) == 1)) (vs := [.bool ((band .i64 (shr .i64 x1 14) 1) == 1)]) rfl ti4 rfl rfl rfl (by intro u hu; simp only [List.mem_cons, List.not_mem_nil, or_false] at hu; rcases hu with rfl <;> rfl)
  refine s_store h rfl rfl hs' ?_
  replace hS : Sep w0 w_10 [_, _, Mem.one g_4 (.cells ([_, _, _, _, _, _, .bool ((band .i64 (shr .i64 x1 14) 1) == 1), _, _, _, _, _, _, _, _, _, _, _, _, _, _, _, _, _] : List Value).toArray 32 (0, 0))] Z := hS'
  clear hs' hS'
  refine wpList_nil <| x_block_n <| x_then_n (hKJ_6 _ _ ?_)
  refine wp_seq <| wp_region_lit <| s_load h rfl rfl (hS.load_agg (p := 2) (us := [iV (w64 ((band .i64 x0 7) + 1)), iV (Int.tmod (band .i64 (shr .i64 x0 3) 7) 7), iV (Int.tmod (band .i64 (shr .i64 x0 6) 7) 7), iV (band .i64 (shr .i64 x0 9) 1023), iV (band .i64 x1 255), iV (band .i64 (shr .i64 x1 8) 63), .bool ((band .i64 (shr .i64 x1 14) 1) == 1), iV 0, iV 0, iV 0, iV 0, nS, iV 0, iV 0, nS, nS, iV 0, iV 0, iV 0, iV 0, iV 0, nS, nS, nS]) rfl U32 rfl ti32 rfl rfl) fun a h=>?_
  obtain ⟨w_11, hs', hS'⟩ := hS.store (P := Try.prog) (p := 1) (o := 0) (t := 32) (v := .agg ([iV (w64 ((band .i64 x0 7) + 1)), iV (Int.tmod (band .i64 (shr .i64 x0 3) 7) 7), iV (Int.tmod (band .i64 (shr .i64 x0 6) 7) 7), iV (band .i64 (shr .i64 x0 9) 1023), iV (band .i64 x1 255), iV (band .i64 (shr .i64 x1 8) 63), .bool ((band .i64 (shr .i64 x1 14) 1) == 1), iV 0, iV 0, iV 0, iV 0, nS, iV 0, iV 0, nS, nS, iV 0, iV 0, iV 0, iV 0, iV 0, nS, nS, nS] : List Value).toArray) (vs := [iV (w64 ((band .i64 x0 7) + 1)), iV (Int.tmod (band .i64 (shr .i64 x0 3) 7) 7), iV (Int.tmod (band .i64 (shr .i64 x0 6) 7) 7), iV (band .i64 (shr .i64 x0 9) 1023), iV (band .i64 x1 255), iV (band .i64 (shr .i64 x1 8) 63), .bool ((band .i64 (shr .i64 x1 14) 1) == 1), iV 0, iV 0, iV 0, iV 0, nS, iV 0, iV 0, nS, nS, iV 0, iV 0, iV 0, iV 0, iV 0, nS, nS, nS]) rfl ti32 rfl rfl rfl (by intro u hu; simp only [List.mem_cons, List.not_mem_nil, or_false] at hu; rcases hu with rfl | rfl | rfl | rfl | rfl | rfl | rfl | rfl | rfl | rfl | rfl | rfl | rfl | rfl | rfl | rfl | rfl | rfl | rfl | rfl | rfl | rfl | rfl | rfl <;> rfl)
  refine s_store h rfl rfl hs' ?_
  replace hS : Sep w0 w_11 [_, Mem.one g_2 (.cells ([iV (w64 ((band .i64 x0 7) + 1)), iV (Int.tmod (band .i64 (shr .i64 x0 3) 7) 7), iV (Int.tmod (band .i64 (shr .i64 x0 6) 7) 7), iV (band .i64 (shr .i64 x0 9) 1023), iV (band .i64 x1 255), iV (band .i64 (shr .i64 x1 8) 63), .bool ((band .i64 (shr .i64 x1 14) 1) == 1), _, _, _, _, _, _, _, _, _, _, _, _, _, _, _, _, _] : List Value).toArray 32 (0, 0)), _] Z := hS'
  clear hs' hS'
  refine wpList_nil <| x_then_n <| wp_ret ?_
  have hS' := hS.room
  replace hS : Sep w0 w_11 [_, _, _, Mem.no] Z := hS'
  clear hS'
  replace hS : Sep w0 w_11 [_, _, _, _] Z := hS
  have hS' := hS.room
  replace hS : Sep w0 w_11 [_, _, _, _, Mem.no] Z := hS'
  clear hS'
  replace hS : Sep w0 w_11 [_, _, _, _, _] Z := hS
  have hS' := hS.room
  replace hS : Sep w0 w_11 [_, _, _, _, _, Mem.no] Z := hS'
  clear hS'
  replace hS : Sep w0 w_11 [_, _, _, _, _, _] Z := hS
  obtain rfl := Option.some.inj H
  exact f_ret h (rs := [.cell 4 32]) rfl (.cell rfl (hS.load_agg (p := 1) (us := [iV (w64 ((band .i64 x0 7) + 1)), iV (Int.tmod (band .i64 (shr .i64 x0 3) 7) 7), iV (Int.tmod (band .i64 (shr .i64 x0 6) 7) 7), iV (band .i64 (shr .i64 x0 9) 1023), iV (band .i64 x1 255), iV (band .i64 (shr .i64 x1 8) 63), .bool ((band .i64 (shr .i64 x1 14) 1) == 1), iV 0, iV 0, iV 0, iV 0, nS, iV 0, iV 0, nS, nS, iV 0, iV 0, iV 0, iV 0, iV 0, nS, nS, nS]) rfl U32 rfl ti32 rfl rfl) .nil) ⟨_, rfl, nS, nS, nS, nS, nS, nS, Mem.no, Mem.no, Mem.no, Mem.no, rfl, (Sep.sel hS [0, 3, 4, 5] (by decide)), (Own.nil Kd.u8 5 Mem.no), (Own.nil (Kd.int .i64) 3 Mem.no), (Own.nil (Kd.int .i64) 3 Mem.no), (Rd.nil _ _), (Rd.nil _ _), (Rd.nil _ _)⟩
 ·rw [if_neg hc_7] at H
  refine c_cond_f h rfl (beq_eq_false_iff_ne.2 hc_7) <| wp_seq <| wp_region_lit <| s_cmp (b := ((w64 ((band .i64 x0 7) + 1)) == 3)) h rfl rfl rfl (.inl ⟨rfl, rfl⟩) fun a h=>s_assign h rfl rfl fun a h=>wpList_nil <| x_then_n ?_
  by_cases hc_15 : (w64 ((band .i64 x0 7) + 1)) = 3
  ·rw [if_pos hc_15] at H
   refine c_cond_t h rfl (beq_iff_eq.2 hc_15) <| wp_region_lit <| s_move h rfl rfl fun a h=>s_bits (i := x1) (j := 127) (r := band .i64 x1 127) h rfl rfl rfl (.inl ⟨rfl, rfl⟩) fun a h=>s_move h rfl rfl fun a h=>s_shift (r := shr .i64 x1 7) h rfl rfl rfl (by decide) (.inr ⟨rfl, rfl⟩) fun a h=>s_bits (i := shr .i64 x1 7) (j := 7) (r := band .i64 (shr .i64 x1 7) 7) h rfl rfl rfl (.inl ⟨rfl, rfl⟩) fun a h=>s_div (r := Int.tmod (band .i64 (shr .i64 x1 7) 7) 7) h rfl rfl rfl (by decide) (.inr ⟨rfl, rfl⟩) fun a h=>s_move h rfl rfl fun a h=>s_shift (r := shr .i64 x1 10) h rfl rfl rfl (by decide) (.inr ⟨rfl, rfl⟩) fun a h=>s_bits (i := shr .i64 x1 10) (j := 63) (r := band .i64 (shr .i64 x1 10) 63) h rfl rfl rfl (.inl ⟨rfl, rfl⟩) fun a h=>s_fieldAddr h rfl U32 rfl ti3 rfl rfl fun a h=>?_
   obtain ⟨w_16, hs', hS'⟩ := hS.store (P := Try.prog) (p := 2) (o := 7) (t := 3) (v := iV (band .i64 x1 127)) (vs := [iV (band .i64 x1 127)]) rfl ti3 rfl rfl rfl (by intro u hu; simp only [List.mem_cons, List.not_mem_nil, or_false] at hu; rcases hu with rfl <;> rfl)
   refine s_store h rfl rfl hs' ?_
   replace hS : Sep w0 w_16 [_, _, Mem.one g_4 (.cells ([_, _, _, _, _, _, _, iV (band .i64 x1 127), _, _, _, _, _, _, _, _, _, _, _, _, _, _, _, _] : List Value).toArray 32 (0, 0))] Z := hS'
   clear hs' hS'
   refine s_fieldAddr h rfl U32 rfl ti3 rfl rfl fun a h=>?_
   obtain ⟨w_17, hs', hS'⟩ := hS.store (P := Try.prog) (p := 2) (o := 8) (t := 3) (v := iV (Int.tmod (band .i64 (shr .i64 x1 7) 7) 7)) (vs := [iV (Int.tmod (band .i64 (shr .i64 x1 7) 7) 7)]) rfl ti3 rfl rfl rfl (by intro u hu; simp only [List.mem_cons, List.not_mem_nil, or_false] at hu; rcases hu with rfl <;> rfl)
   refine s_store h rfl rfl hs' ?_
   replace hS : Sep w0 w_17 [_, _, Mem.one g_4 (.cells ([_, _, _, _, _, _, _, _, iV (Int.tmod (band .i64 (shr .i64 x1 7) 7) 7), _, _, _, _, _, _, _, _, _, _, _, _, _, _, _] : List Value).toArray 32 (0, 0))] Z := hS'
   clear hs' hS'
   refine s_fieldAddr h rfl U32 rfl ti3 rfl rfl fun a h=>?_
   obtain ⟨w_18, hs', hS'⟩ := hS.store (P := Try.prog) (p := 2) (o := 5) (t := 3) (v := iV (band .i64 (shr .i64 x1 10) 63)) (vs := [iV (band .i64 (shr .i64 x1 10) 63)]) rfl ti3 rfl rfl rfl (by intro u hu; simp only [List.mem_cons, List.not_mem_nil, or_false] at hu; rcases hu with rfl <;> rfl)
   refine s_store h rfl rfl hs' ?_
   replace hS : Sep w0 w_18 [_, _, Mem.one g_4 (.cells ([_, _, _, _, _, iV (band .i64 (shr .i64 x1 10) 63), _, _, _, _, _, _, _, _, _, _, _, _, _, _, _, _, _, _] : List Value).toArray 32 (0, 0))] Z := hS'
   clear hs' hS'
   refine wpList_nil <| x_block_n <| x_then_n (hKJ_6 _ _ ?_)
   refine wp_seq <| wp_region_lit <| s_load h rfl rfl (hS.load_agg (p := 2) (us := [iV (w64 ((band .i64 x0 7) + 1)), iV (Int.tmod (band .i64 (shr .i64 x0 3) 7) 7), iV (Int.tmod (band .i64 (shr .i64 x0 6) 7) 7), iV (band .i64 (shr .i64 x0 9) 1023), iV 0, iV (band .i64 (shr .i64 x1 10) 63), .bool false, iV (band .i64 x1 127), iV (Int.tmod (band .i64 (shr .i64 x1 7) 7) 7), iV 0, iV 0, nS, iV 0, iV 0, nS, nS, iV 0, iV 0, iV 0, iV 0, iV 0, nS, nS, nS]) rfl U32 rfl ti32 rfl rfl) fun a h=>?_
   obtain ⟨w_19, hs', hS'⟩ := hS.store (P := Try.prog) (p := 1) (o := 0) (t := 32) (v := .agg ([iV (w64 ((band .i64 x0 7) + 1)), iV (Int.tmod (band .i64 (shr .i64 x0 3) 7) 7), iV (Int.tmod (band .i64 (shr .i64 x0 6) 7) 7), iV (band .i64 (shr .i64 x0 9) 1023), iV 0, iV (band .i64 (shr .i64 x1 10) 63), .bool false, iV (band .i64 x1 127), iV (Int.tmod (band .i64 (shr .i64 x1 7) 7) 7), iV 0, iV 0, nS, iV 0, iV 0, nS, nS, iV 0, iV 0, iV 0, iV 0, iV 0, nS, nS, nS] : List Value).toArray) (vs := [iV (w64 ((band .i64 x0 7) + 1)), iV (Int.tmod (band .i64 (shr .i64 x0 3) 7) 7), iV (Int.tmod (band .i64 (shr .i64 x0 6) 7) 7), iV (band .i64 (shr .i64 x0 9) 1023), iV 0, iV (band .i64 (shr .i64 x1 10) 63), .bool false, iV (band .i64 x1 127), iV (Int.tmod (band .i64 (shr .i64 x1 7) 7) 7), iV 0, iV 0, nS, iV 0, iV 0, nS, nS, iV 0, iV 0, iV 0, iV 0, iV 0, nS, nS, nS]) rfl ti32 rfl rfl rfl (by intro u hu; simp only [List.mem_cons, List.not_mem_nil, or_false] at hu; rcases hu with rfl | rfl | rfl | rfl | rfl | rfl | rfl | rfl | rfl | rfl | rfl | rfl | rfl | rfl | rfl | rfl | rfl | rfl | rfl | rfl | rfl | rfl | rfl | rfl <;> rfl)
   refine s_store h rfl rfl hs' ?_
   replace hS : Sep w0 w_19 [_, Mem.one g_2 (.cells ([iV (w64 ((band .i64 x0 7) + 1)), iV (Int.tmod (band .i64 (shr .i64 x0 3) 7) 7), iV (Int.tmod (band .i64 (shr .i64 x0 6) 7) 7), iV (band .i64 (shr .i64 x0 9) 1023), _, iV (band .i64 (shr .i64 x1 10) 63), _, iV (band .i64 x1 127), iV (Int.tmod (band .i64 (shr .i64 x1 7) 7) 7), _, _, _, _, _, _, _, _, _, _, _, _, _, _, _] : List Value).toArray 32 (0, 0)), _] Z := hS'
   clear hs' hS'
   refine wpList_nil <| x_then_n <| wp_ret ?_
   have hS' := hS.room
   replace hS : Sep w0 w_19 [_, _, _, Mem.no] Z := hS'
   clear hS'
   replace hS : Sep w0 w_19 [_, _, _, _] Z := hS
   have hS' := hS.room
   replace hS : Sep w0 w_19 [_, _, _, _, Mem.no] Z := hS'
   clear hS'
   replace hS : Sep w0 w_19 [_, _, _, _, _] Z := hS
   have hS' := hS.room
   replace hS : Sep w0 w_19 [_, _, _, _, _, Mem.no] Z := hS'
   clear hS'
   replace hS : Sep w0 w_19 [_, _, _, _, _, _] Z := hS
   obtain rfl := Option.some.inj H
   exact f_ret h (rs := [.cell 4 32]) rfl (.cell rfl (hS.load_agg (p := 1) (us := [iV (w64 ((band .i64 x0 7) + 1)), iV (Int.tmod (band .i64 (shr .i64 x0 3) 7) 7), iV (Int.tmod (band .i64 (shr .i64 x0 6) 7) 7), iV (band .i64 (shr .i64 x0 9) 1023), iV 0, iV (band .i64 (shr .i64 x1 10) 63), .bool false, iV (band .i64 x1 127), iV (Int.tmod (band .i64 (shr .i64 x1 7) 7) 7), iV 0, iV 0, nS, iV 0, iV 0, nS, nS, iV 0, iV 0, iV 0, iV 0, iV 0, nS, nS, nS]) rfl U32 rfl ti32 rfl rfl) .nil) ⟨_, rfl, nS, nS, nS, nS, nS, nS, Mem.no, Mem.no, Mem.no, Mem.no, rfl, (Sep.sel hS [0, 3, 4, 5] (by decide)), (Own.nil Kd.u8 5 Mem.no), (Own.nil (Kd.int .i64) 3 Mem.no), (Own.nil (Kd.int .i64) 3 Mem.no), (Rd.nil _ _), (Rd.nil _ _), (Rd.nil _ _)⟩
  ·rw [if_neg hc_15] at H
   refine c_cond_f h rfl (beq_eq_false_iff_ne.2 hc_15) <| wp_seq <| wp_region_lit <| s_cmp (b := ((w64 ((band .i64 x0 7) + 1)) == 4)) h rfl rfl rfl (.inl ⟨rfl, rfl⟩) fun a h=>s_assign h rfl rfl fun a h=>wpList_nil <| x_then_n ?_
   by_cases hc_23 : (w64 ((band .i64 x0 7) + 1)) = 4
   ·rw [if_pos hc_23] at H
    refine c_cond_t h rfl (beq_iff_eq.2 hc_23) <| wp_region_lit <| s_move h rfl rfl fun a h=>s_bits (i := x1) (j := 4095) (r := band .i64 x1 4095) h rfl rfl rfl (.inl ⟨rfl, rfl⟩) fun a h=>s_fieldAddr h rfl U32 rfl ti3 rfl rfl fun a h=>?_
    obtain ⟨w_24, hs', hS'⟩ := hS.store (P := Try.prog) (p := 2) (o := 9) (t := 3) (v := iV (band .i64 x1 4095)) (vs := [iV (band .i64 x1 4095)]) rfl ti3 rfl rfl rfl (by intro u hu; simp only [List.mem_cons, List.not_mem_nil, or_false] at hu; rcases hu with rfl <;> rfl)
    refine s_store h rfl rfl hs' ?_
    replace hS : Sep w0 w_24 [_, _, Mem.one g_4 (.cells ([_, _, _, _, _, _, _, _, _, iV (band .i64 x1 4095), _, _, _, _, _, _, _, _, _, _, _, _, _, _] : List Value).toArray 32 (0, 0))] Z := hS'
    clear hs' hS'
    refine wpList_nil <| x_block_n <| x_then_n (hKJ_6 _ _ ?_)
    refine wp_seq <| wp_region_lit <| s_load h rfl rfl (hS.load_agg (p := 2) (us := [iV (w64 ((band .i64 x0 7) + 1)), iV (Int.tmod (band .i64 (shr .i64 x0 3) 7) 7), iV (Int.tmod (band .i64 (shr .i64 x0 6) 7) 7), iV (band .i64 (shr .i64 x0 9) 1023), iV 0, iV 0, .bool false, iV 0, iV 0, iV (band .i64 x1 4095), iV 0, nS, iV 0, iV 0, nS, nS, iV 0, iV 0, iV 0, iV 0, iV 0, nS, nS, nS]) rfl U32 rfl ti32 rfl rfl) fun a h=>?_
    obtain ⟨w_25, hs', hS'⟩ := hS.store (P := Try.prog) (p := 1) (o := 0) (t := 32) (v := .agg ([iV (w64 ((band .i64 x0 7) + 1)), iV (Int.tmod (band .i64 (shr .i64 x0 3) 7) 7), iV (Int.tmod (band .i64 (shr .i64 x0 6) 7) 7), iV (band .i64 (shr .i64 x0 9) 1023), iV 0, iV 0, .bool false, iV 0, iV 0, iV (band .i64 x1 4095), iV 0, nS, iV 0, iV 0, nS, nS, iV 0, iV 0, iV 0, iV 0, iV 0, nS, nS, nS] : List Value).toArray) (vs := [iV (w64 ((band .i64 x0 7) + 1)), iV (Int.tmod (band .i64 (shr .i64 x0 3) 7) 7), iV (Int.tmod (band .i64 (shr .i64 x0 6) 7) 7), iV (band .i64 (shr .i64 x0 9) 1023), iV 0, iV 0, .bool false, iV 0, iV 0, iV (band .i64 x1 4095), iV 0, nS, iV 0, iV 0, nS, nS, iV 0, iV 0, iV 0, iV 0, iV 0, nS, nS, nS]) rfl ti32 rfl rfl rfl (by intro u hu; simp only [List.mem_cons, List.not_mem_nil, or_false] at hu; rcases hu with rfl | rfl | rfl | rfl | rfl | rfl | rfl | rfl | rfl | rfl | rfl | rfl | rfl | rfl | rfl | rfl | rfl | rfl | rfl | rfl | rfl | rfl | rfl | rfl <;> rfl)
    refine s_store h rfl rfl hs' ?_
    replace hS : Sep w0 w_25 [_, Mem.one g_2 (.cells ([iV (w64 ((band .i64 x0 7) + 1)), iV (Int.tmod (band .i64 (shr .i64 x0 3) 7) 7), iV (Int.tmod (band .i64 (shr .i64 x0 6) 7) 7), iV (band .i64 (shr .i64 x0 9) 1023), _, _, _, _, _, iV (band .i64 x1 4095), _, _, _, _, _, _, _, _, _, _, _, _, _, _] : List Value).toArray 32 (0, 0)), _] Z := hS'
    clear hs' hS'
    refine wpList_nil ?_
    replace h : Fr 150 a [(4, _)] := h.keep [4]
    refine x_then_n <| wp_ret ?_
    have hS' := hS.room
    replace hS : Sep w0 w_25 [_, _, _, Mem.no] Z := hS'
    clear hS'
    replace hS : Sep w0 w_25 [_, _, _, _] Z := hS
    have hS' := hS.room
    replace hS : Sep w0 w_25 [_, _, _, _, Mem.no] Z := hS'
    clear hS'
    replace hS : Sep w0 w_25 [_, _, _, _, _] Z := hS
    have hS' := hS.room
    replace hS : Sep w0 w_25 [_, _, _, _, _, Mem.no] Z := hS'
    clear hS'
    replace hS : Sep w0 w_25 [_, _, _, _, _, _] Z := hS
    obtain rfl := Option.some.inj H
    exact f_ret h (rs := [.cell 4 32]) rfl (.cell rfl (hS.load_agg (p := 1) (us := [iV (w64 ((band .i64 x0 7) + 1)), iV (Int.tmod (band .i64 (shr .i64 x0 3) 7) 7), iV (Int.tmod (band .i64 (shr .i64 x0 6) 7) 7), iV (band .i64 (shr .i64 x0 9) 1023), iV 0, iV 0, .bool false, iV 0, iV 0, iV (band .i64 x1 4095), iV 0, nS, iV 0, iV 0, nS, nS, iV 0, iV 0, iV 0, iV 0, iV 0, nS, nS, nS]) rfl U32 rfl ti32 rfl rfl) .nil) ⟨_, rfl, nS, nS, nS, nS, nS, nS, Mem.no, Mem.no, Mem.no, Mem.no, rfl, (Sep.sel hS [0, 3, 4, 5] (by decide)), (Own.nil Kd.u8 5 Mem.no), (Own.nil (Kd.int .i64) 3 Mem.no), (Own.nil (Kd.int .i64) 3 Mem.no), (Rd.nil _ _), (Rd.nil _ _), (Rd.nil _ _)⟩
   ·rw [if_neg hc_23] at H
    refine c_cond_f h rfl (beq_eq_false_iff_ne.2 hc_23) <| wp_seq <| wp_region_lit <| s_cmp (b := ((w64 ((band .i64 x0 7) + 1)) == 5)) h rfl rfl rfl (.inl ⟨rfl, rfl⟩) fun a h=>s_assign h rfl rfl fun a h=>wpList_nil <| x_then_n ?_
    by_cases hc_29 : (w64 ((band .i64 x0 7) + 1)) = 5
    ·rw [if_pos hc_29] at H
     refine c_cond_t h rfl (beq_iff_eq.2 hc_29) <| wp_seq <| wp_region_lit <| s_move h rfl rfl fun a h=>s_bits (i := x1) (j := 4095) (r := band .i64 x1 4095) h rfl rfl rfl (.inl ⟨rfl, rfl⟩) fun a h=>s_move h rfl rfl fun a h=>s_shift (r := shr .i64 x1 12) h rfl rfl rfl (by decide) (.inr ⟨rfl, rfl⟩) fun a h=>s_bits (i := shr .i64 x1 12) (j := 4095) (r := band .i64 (shr .i64 x1 12) 4095) h rfl rfl rfl (.inl ⟨rfl, rfl⟩) fun a h=>s_fieldAddr h rfl U32 rfl ti3 rfl rfl fun a h=>?_
     obtain ⟨w_30, hs', hS'⟩ := hS.store (P := Try.prog) (p := 2) (o := 9) (t := 3) (v := iV (band .i64 x1 4095)) (vs := [iV (band .i64 x1 4095)]) rfl ti3 rfl rfl rfl (by intro u hu; simp only [List.mem_cons, List.not_mem_nil, or_false] at hu; rcases hu with rfl <;> rfl)
     refine s_store h rfl rfl hs' ?_
     replace hS : Sep w0 w_30 [_, _, Mem.one g_4 (.cells ([_, _, _, _, _, _, _, _, _, iV (band .i64 x1 4095), _, _, _, _, _, _, _, _, _, _, _, _, _, _] : List Value).toArray 32 (0, 0))] Z := hS'
     clear hs' hS'
     refine s_fieldAddr h rfl U32 rfl ti3 rfl rfl fun a h=>?_
     obtain ⟨w_31, hs', hS'⟩ := hS.store (P := Try.prog) (p := 2) (o := 10) (t := 3) (v := iV (band .i64 (shr .i64 x1 12) 4095)) (vs := [iV (band .i64 (shr .i64 x1 12) 4095)]) rfl ti3 rfl rfl rfl (by intro u hu; simp only [List.mem_cons, List.not_mem_nil, or_false] at hu; rcases hu with rfl <;> rfl)
     refine s_store h rfl rfl hs' ?_
     replace hS : Sep w0 w_31 [_, _, Mem.one g_4 (.cells ([_, _, _, _, _, _, _, _, _, _, iV (band .i64 (shr .i64 x1 12) 4095), _, _, _, _, _, _, _, _, _, _, _, _, _] : List Value).toArray 32 (0, 0))] Z := hS'
     clear hs' hS'
     refine wpList_nil ?_
     replace h : Fr 150 a [(1, _), (4, _), (5, _)] := h.keep [1, 4, 5]
     refine x_then_n <| wp_seq <| wp_region_lit <| s_assign h rfl rfl fun a h=>wpList_nil <| x_then_n <| c_last fun KJ_32 hKJ_32 => ?_
     have hJ_j_40 : ∀ (x_34 : List UInt8), hocketlaw11_Msg.J1 K x0 x1 x_34 = some r → ∀ (a : Act) (w_39 : World), (∃ (v_37 : Value) (N_33 : Mem) (M_35 : Mem), Fr 150 a [(4, .pointer (some ⟨g_2, 0, none⟩)), (5, .pointer (some ⟨g_4, 0, none⟩))] ∧ Sep w0 w_39 [N_33, Mem.one g_2 (.cells ([iV 0, iV 0, iV 0, iV 0, iV 0, iV 0, .bool false, iV 0, iV 0, iV 0, iV 0, nS, iV 0, iV 0, nS, nS, iV 0, iV 0, iV 0, iV 0, iV 0, nS, nS, nS] : List Value).toArray 32 (0, 0)), Mem.one g_4 (.cells ([iV (w64 ((band .i64 x0 7) + 1)), iV (Int.tmod (band .i64 (shr .i64 x0 3) 7) 7), iV (Int.tmod (band .i64 (shr .i64 x0 6) 7) 7), iV (band .i64 (shr .i64 x0 9) 1023), iV 0, iV 0, .bool false, iV 0, iV 0, iV (band .i64 x1 4095), iV (band .i64 (shr .i64 x1 12) 4095), v_37, iV 0, iV 0, nS, nS, iV 0, iV 0, iV 0, iV 0, iV 0, nS, nS, nS] : List Value).toArray 32 (0, 0)), M_35] Z ∧ Mem.no.le N_33 ∧ Own Kd.u8 5 M_35 Mem.no v_37 x_34) → KJ_32 a w_39 := by
      clear H h hS a
      rintro x_34 H a w_39 ⟨v_37, N_33, M_35, h, hS, le_33, ho_38⟩
      unfold hocketlaw11_Msg.J1 at H
      refine hKJ_32 _ _ <| x_block_n <| x_then_n (hKJ_6 _ _ ?_)
      refine wp_seq <| wp_region_lit <| s_load h rfl rfl (hS.load_agg (p := 2) (us := [iV (w64 ((band .i64 x0 7) + 1)), iV (Int.tmod (band .i64 (shr .i64 x0 3) 7) 7), iV (Int.tmod (band .i64 (shr .i64 x0 6) 7) 7), iV (band .i64 (shr .i64 x0 9) 1023), iV 0, iV 0, .bool false, iV 0, iV 0, iV (band .i64 x1 4095), iV (band .i64 (shr .i64 x1 12) 4095), v_37, iV 0, iV 0, nS, nS, iV 0, iV 0, iV 0, iV 0, iV 0, nS, nS, nS]) rfl U32 rfl ti32 rfl rfl) fun a h=>?_
      obtain ⟨w_41, hs', hS'⟩ := hS.store (P := Try.prog) (p := 1) (o := 0) (t := 32) (v := .agg ([iV (w64 ((band .i64 x0 7) + 1)), iV (Int.tmod (band .i64 (shr .i64 x0 3) 7) 7), iV (Int.tmod (band .i64 (shr .i64 x0 6) 7) 7), iV (band .i64 (shr .i64 x0 9) 1023), iV 0, iV 0, .bool false, iV 0, iV 0, iV (band .i64 x1 4095), iV (band .i64 (shr .i64 x1 12) 4095), v_37, iV 0, iV 0, nS, nS, iV 0, iV 0, iV 0, iV 0, iV 0, nS, nS, nS] : List Value).toArray) (vs := [iV (w64 ((band .i64 x0 7) + 1)), iV (Int.tmod (band .i64 (shr .i64 x0 3) 7) 7), iV (Int.tmod (band .i64 (shr .i64 x0 6) 7) 7), iV (band .i64 (shr .i64 x0 9) 1023), iV 0, iV 0, .bool false, iV 0, iV 0, iV (band .i64 x1 4095), iV (band .i64 (shr .i64 x1 12) 4095), v_37, iV 0, iV 0, nS, nS, iV 0, iV 0, iV 0, iV 0, iV 0, nS, nS, nS]) rfl ti32 rfl rfl rfl (by intro u hu; simp only [List.mem_cons, List.not_mem_nil, or_false] at hu; rcases hu with rfl | rfl | rfl | rfl | rfl | rfl | rfl | rfl | rfl | rfl | rfl | rfl | rfl | rfl | rfl | rfl | rfl | rfl | rfl | rfl | rfl | rfl | rfl | rfl <;> first | rfl | exact ho_38.one)
      refine s_store h rfl rfl hs' ?_
      replace hS : Sep w0 w_41 [_, Mem.one g_2 (.cells ([iV (w64 ((band .i64 x0 7) + 1)), iV (Int.tmod (band .i64 (shr .i64 x0 3) 7) 7), iV (Int.tmod (band .i64 (shr .i64 x0 6) 7) 7), iV (band .i64 (shr .i64 x0 9) 1023), _, _, _, _, _, iV (band .i64 x1 4095), iV (band .i64 (shr .i64 x1 12) 4095), v_37, _, _, _, _, _, _, _, _, _, _, _, _] : List Value).toArray 32 (0, 0)), _, _] Z := hS'
      clear hs' hS'
      refine wpList_nil <| x_then_n <| wp_ret ?_
      have hS' := hS.room
      replace hS : Sep w0 w_41 [_, _, _, _, Mem.no] Z := hS'
      clear hS'
      replace hS : Sep w0 w_41 [_, _, _, _, _] Z := hS
      have hS' := hS.room
      replace hS : Sep w0 w_41 [_, _, _, _, _, Mem.no] Z := hS'
      clear hS'
      replace hS : Sep w0 w_41 [_, _, _, _, _, _] Z := hS
      obtain rfl := Option.some.inj H
      exact f_ret h (rs := [.cell 4 32]) rfl (.cell rfl (hS.load_agg (p := 1) (us := [iV (w64 ((band .i64 x0 7) + 1)), iV (Int.tmod (band .i64 (shr .i64 x0 3) 7) 7), iV (Int.tmod (band .i64 (shr .i64 x0 6) 7) 7), iV (band .i64 (shr .i64 x0 9) 1023), iV 0, iV 0, .bool false, iV 0, iV 0, iV (band .i64 x1 4095), iV (band .i64 (shr .i64 x1 12) 4095), v_37, iV 0, iV 0, nS, nS, iV 0, iV 0, iV 0, iV 0, iV 0, nS, nS, nS]) rfl U32 rfl ti32 rfl rfl) .nil) ⟨_, rfl, v_37, nS, nS, nS, nS, nS, N_33, M_35, Mem.no, Mem.no, rfl, (Sep.sel hS [0, 3, 4, 5] (by decide)), ho_38, (Own.nil (Kd.int .i64) 3 Mem.no), (Own.nil (Kd.int .i64) 3 Mem.no), (Rd.nil _ _), (Rd.nil _ _), (Rd.nil _ _)⟩
     clear hKJ_32
     have hS' := hS.room
     replace hS : Sep w0 w_31 [_, _, _, Mem.no] Z := hS'
     clear hS'
     replace hS : Sep w0 w_31 [_, _, _, _] Z := hS
     replace h : Fr 150 a [(1, _), (4, _), (5, _), (6, iV 0)] := h.keep [1, 4, 5, 6]
     refine c_block <| c_loop (fun k_51 a w_51 => ∃ (x_45 : Int) (x_46 : List UInt8) (v_49 : Value) (N_44 : Mem) (M_47 : Mem), hocketlaw11_Msg.L1 K x1 (fun v => hocketlaw11_Msg.J1 K x0 x1 v) k_51 (x_45, x_46) = some r ∧ Fr 150 a [(1, iV x1), (4, .pointer (some ⟨g_2, 0, none⟩)), (5, .pointer (some ⟨g_4, 0, none⟩)), (6, iV x_45)] ∧ Sep w0 w_51 [N_44, Mem.one g_2 (.cells ([iV 0, iV 0, iV 0, iV 0, iV 0, iV 0, .bool false, iV 0, iV 0, iV 0, iV 0, nS, iV 0, iV 0, nS, nS, iV 0, iV 0, iV 0, iV 0, iV 0, nS, nS, nS] : List Value).toArray 32 (0, 0)), Mem.one g_4 (.cells ([iV (w64 ((band .i64 x0 7) + 1)), iV (Int.tmod (band .i64 (shr .i64 x0 3) 7) 7), iV (Int.tmod (band .i64 (shr .i64 x0 6) 7) 7), iV (band .i64 (shr .i64 x0 9) 1023), iV 0, iV 0, .bool false, iV 0, iV 0, iV (band .i64 x1 4095), iV (band .i64 (shr .i64 x1 12) 4095), v_49, iV 0, iV 0, nS, nS, iV 0, iV 0, iV 0, iV 0, iV 0, nS, nS, nS] : List Value).toArray 32 (0, 0)), M_47] Z ∧ Mem.no.le N_44 ∧ Own Kd.u8 5 M_47 Mem.no v_49 x_46) K ⟨0, ([] : List UInt8), nS, Mem.no, Mem.no, H, h, (Sep.sel hS [0, 1, 2, 3] (by decide)), (Mem.le.refl _), (Own.nil Kd.u8 5 Mem.no)⟩ (fun a w h => by obtain ⟨_, _, _, _, _, H, _⟩ := h; cases (show (none : Option (api_Msg)) = some r from H)) ?_
     clear h hS a H
     rintro k_51 a w_51 KL_51 hKL_51 ⟨x_45, x_46, v_49, N_44, M_47, H, h, hS, le_44, ho_50⟩
     replace H : hocketlaw11_Msg.B1 K x1 (fun v => hocketlaw11_Msg.J1 K x0 x1 v) (hocketlaw11_Msg.L1 K x1 (fun v => hocketlaw11_Msg.J1 K x0 x1 v) k_51) x_45 x_46 = some r := H
     unfold hocketlaw11_Msg.B1 at H
     refine c_seq fun KJ_54 hKJ_54 => wp_seq <| wp_region_lit <| s_move h rfl rfl fun a h=>s_move h rfl rfl fun a h=>s_shift (r := shr .i64 x1 24) h rfl rfl rfl (by decide) (.inr ⟨rfl, rfl⟩) fun a h=>s_bits (i := shr .i64 x1 24) (j := 63) (r := band .i64 (shr .i64 x1 24) 63) h rfl rfl rfl (.inl ⟨rfl, rfl⟩) fun a h=>s_cmp (b := decide (x_45 < (band .i64 (shr .i64 x1 24) 63))) h rfl rfl rfl (.inr (.inr (.inl ⟨rfl, rfl⟩))) fun a h=>wpList_nil <| x_then_n ?_
     by_cases hc_55 : x_45 < (band .i64 (shr .i64 x1 24) 63)
     ·rw [if_pos hc_55] at H
      refine c_cond_t h rfl (decide_eq_true hc_55) <| wp_skip <| x_then_n (hKJ_54 _ _ ?_)
      refine wp_seq <| c_block <| wp_region_lit <| s_fieldAddr h rfl U32 rfl ti26 rfl rfl fun a h=>s_load h rfl rfl (hS.load_one (p := 2) rfl U26 rfl rfl) fun a h=>s_move h rfl rfl fun a h=>s_move h rfl rfl fun a h=>s_bits (i := x_45) (j := 15) (r := band .i64 x_45 15) h rfl rfl rfl (.inl ⟨rfl, rfl⟩) fun a h=>s_conv (wu64 (band .i64 x_45 15)) h rfl U3 U48 rfl rfl fun a h=>s_shift (r := shr .i64 x1 (wu64 (band .i64 x_45 15))) h rfl rfl rfl (wu64_nn _) (.inr ⟨rfl, rfl⟩) fun a h=>s_conv (((toU8 (shr .i64 x1 (wu64 (band .i64 x_45 15)))).toNat : Int)) h rfl U3 U5 rfl (wrap_u8 _).symm fun a h=>?_
      have hq_60 : Reps Kd.u8 Mem.no ([toU8 (shr .i64 x1 (wu64 (band .i64 x_45 15)))] : List UInt8) _ := ((Reps.one (d := Kd.u8) (x := toU8 (shr .i64 x1 (wu64 (band .i64 x_45 15)))) (show Kd.u8.K _ _ [.int .u8 ((toU8 (shr .i64 x1 (wu64 (band .i64 x_45 15)))).toNat : Int)] from rfl)).append (Reps.nil Kd.u8 _))
      refine s_buildSlice h rfl U26 ti5 rfl rfl rfl (.cons rfl .nil) rfl rfl rfl hS hq_60 rfl fun w_56 v_57 M_58 hS' ho_59 a h => ?_
      replace hS : Sep w0 w_56 [_, _, _, _, M_58] Z := hS'
      clear hS' hq_60
      obtain ⟨t_62, et_62, H⟩ := Option.bind_eq_some_iff.1 H
      refine s_append (J := Mem.no) (I' := Mem.no) (p := 3) 140737488355328 h rfl rfl rfl U26 ti5 rfl rfl rfl rfl hS rfl ho_50 (Src.flat flat_u8 (ho_59.src (hS.own 4))) (Mem.le.refl _) (Mem.le.refl _) et_62 fun w_63 v_64 M_65 hS' ho_66 a h => ?_
      replace hS : Sep w0 w_63 [_, _, _, M_65, _] Z := hS'
      clear hS'
      refine s_fieldAddr h rfl U32 rfl ti26 rfl rfl fun a h=>?_
      obtain ⟨w_68, hs', hS'⟩ := hS.store (P := Try.prog) (p := 2) (o := 11) (t := 26) (v := v_64) (vs := [v_64]) rfl ti26 ho_66.cellsA rfl rfl (by intro u hu; simp only [List.mem_cons, List.not_mem_nil, or_false] at hu; rcases hu with rfl <;> first | rfl | exact ho_66.one)
      refine s_store h rfl rfl hs' ?_
      replace hS : Sep w0 w_68 [_, _, Mem.one g_4 (.cells ([_, _, _, _, _, _, _, _, _, _, _, v_64, _, _, _, _, _, _, _, _, _, _, _, _] : List Value).toArray 32 (0, 0)), _, _] Z := hS'
      clear hs' hS'
      refine wpList_nil <| x_block_n <| x_then_n <| wp_region_lit <| s_move h rfl rfl fun a h=>s_arith (r := w64 (x_45 + 1)) h rfl rfl rfl (.inl ⟨rfl, rfl⟩) fun a h=>s_assign h rfl rfl fun a h=>wpList_nil ?_
      replace h : Fr 150 a [(1, _), (4, _), (5, _), (6, iV (w64 (x_45 + 1)))] := h.keep [1, 4, 5, 6]
      refine x_then_n (hKL_51 _ _ ?_)
      replace hS : Sep w0 w_68 [_, _, _, _, _] Z := hS
      replace h : Fr 150 a [(1, _), (4, _), (5, _), (6, _)] := h.keep [1, 4, 5, 6]
      exact ⟨w64 (x_45 + 1), t_62, v_64, N_44, M_65, H, h, (Sep.sel hS [0, 1, 2, 3] (by decide)), le_44, ho_66⟩
     ·rw [if_neg hc_55] at H
      refine c_cond_f h rfl (decide_eq_false hc_55) <| wp_exit (x_then_x (x_then_x (x_block_t ?_)))
      replace hS : Sep w0 w_51 [_, _, _, _] Z := hS
      replace h : Fr 150 a [(4, _), (5, _)] := h.keep [4, 5]
      exact x_then_n (hJ_j_40 x_46 H _ _ ⟨v_49, N_44, M_47, h, (Sep.sel hS [0, 1, 2, 3] (by decide)), le_44, ho_50⟩)
    ·rw [if_neg hc_29] at H
     refine c_cond_f h rfl (beq_eq_false_iff_ne.2 hc_29) <| wp_seq <| wp_region_lit <| s_cmp (b := ((w64 ((band .i64 x0 7) + 1)) == 7)) h rfl rfl rfl (.inl ⟨rfl, rfl⟩) fun a h=>s_assign h rfl rfl fun a h=>wpList_nil ?_
     replace h : Fr 150 a [(0, _), (1, _), (4, _), (5, _), (25, _), (86, .bool ((w64 ((band .i64 x0 7) + 1)) == 7))] := h.keep [0, 1, 4, 5, 25, 86]
     refine x_then_n ?_
     by_cases hc_69 : (w64 ((band .i64 x0 7) + 1)) = 7
     ·rw [if_pos hc_69] at H
      refine c_cond_t h rfl (beq_iff_eq.2 hc_69) <| wp_seq <| wp_region_lit <| s_move h rfl rfl fun a h=>s_bits (i := x1) (j := 1023) (r := band .i64 x1 1023) h rfl rfl rfl (.inl ⟨rfl, rfl⟩) fun a h=>s_move h rfl rfl fun a h=>s_shift (r := shr .i64 x1 10) h rfl rfl rfl (by decide) (.inr ⟨rfl, rfl⟩) fun a h=>s_bits (i := shr .i64 x1 10) (j := 255) (r := band .i64 (shr .i64 x1 10) 255) h rfl rfl rfl (.inl ⟨rfl, rfl⟩) fun a h=>s_fieldAddr h rfl U32 rfl ti3 rfl rfl fun a h=>?_
      obtain ⟨w_70, hs', hS'⟩ := hS.store (P := Try.prog) (p := 2) (o := 12) (t := 3) (v := iV (band .i64 x1 1023)) (vs := [iV (band .i64 x1 1023)]) rfl ti3 rfl rfl rfl (by intro u hu; simp only [List.mem_cons, List.not_mem_nil, or_false] at hu; rcases hu with rfl <;> rfl)
      refine s_store h rfl rfl hs' ?_
      replace hS : Sep w0 w_70 [_, _, Mem.one g_4 (.cells ([_, _, _, _, _, _, _, _, _, _, _, _, iV (band .i64 x1 1023), _, _, _, _, _, _, _, _, _, _, _] : List Value).toArray 32 (0, 0))] Z := hS'
      clear hs' hS'
      refine s_fieldAddr h rfl U32 rfl ti3 rfl rfl fun a h=>?_
      obtain ⟨w_71, hs', hS'⟩ := hS.store (P := Try.prog) (p := 2) (o := 13) (t := 3) (v := iV (band .i64 (shr .i64 x1 10) 255)) (vs := [iV (band .i64 (shr .i64 x1 10) 255)]) rfl ti3 rfl rfl rfl (by intro u hu; simp only [List.mem_cons, List.not_mem_nil, or_false] at hu; rcases hu with rfl <;> rfl)
      refine s_store h rfl rfl hs' ?_
      replace hS : Sep w0 w_71 [_, _, Mem.one g_4 (.cells ([_, _, _, _, _, _, _, _, _, _, _, _, _, iV (band .i64 (shr .i64 x1 10) 255), _, _, _, _, _, _, _, _, _, _] : List Value).toArray 32 (0, 0))] Z := hS'
      clear hs' hS'
      refine wpList_nil <| x_then_n <| c_seq fun KJ_72 hKJ_72 => wp_seq <| wp_region_lit <| s_assign h rfl rfl fun a h=>wpList_nil <| x_then_n ?_
      have hJ_j_80 : ∀ (x_74 : List Int), hocketlaw11_Msg.J2 K x1 x0 x_74 = some r → ∀ (a : Act) (w_79 : World), (∃ (v_77 : Value) (N_73 : Mem) (M_75 : Mem), Fr 150 a [(1, iV x1), (4, .pointer (some ⟨g_2, 0, none⟩)), (5, .pointer (some ⟨g_4, 0, none⟩))] ∧ Sep w0 w_79 [N_73, Mem.one g_2 (.cells ([iV 0, iV 0, iV 0, iV 0, iV 0, iV 0, .bool false, iV 0, iV 0, iV 0, iV 0, nS, iV 0, iV 0, nS, nS, iV 0, iV 0, iV 0, iV 0, iV 0, nS, nS, nS] : List Value).toArray 32 (0, 0)), Mem.one g_4 (.cells ([iV (w64 ((band .i64 x0 7) + 1)), iV (Int.tmod (band .i64 (shr .i64 x0 3) 7) 7), iV (Int.tmod (band .i64 (shr .i64 x0 6) 7) 7), iV (band .i64 (shr .i64 x0 9) 1023), iV 0, iV 0, .bool false, iV 0, iV 0, iV 0, iV 0, nS, iV (band .i64 x1 1023), iV (band .i64 (shr .i64 x1 10) 255), v_77, nS, iV 0, iV 0, iV 0, iV 0, iV 0, nS, nS, nS] : List Value).toArray 32 (0, 0)), M_75] Z ∧ Mem.no.le N_73 ∧ Own (Kd.int .i64) 3 M_75 Mem.no v_77 x_74) → KJ_72 a w_79 := by
       clear H h hS a
       rintro x_74 H a w_79 ⟨v_77, N_73, M_75, h, hS, le_73, ho_78⟩
       unfold hocketlaw11_Msg.J2 at H
       refine hKJ_72 _ _ <| wp_seq <| wp_region_lit <| s_assign h rfl rfl fun a h=>wpList_nil <| x_then_n <| c_last fun KJ_81 hKJ_81 => ?_
       have hJ_j_89 : ∀ (x_83 : List Int), hocketlaw11_Msg.J3 K x0 x1 x_74 x_83 = some r → ∀ (a : Act) (w_88 : World), (∃ (v_86 : Value) (N_82 : Mem) (M_84 : Mem), Fr 150 a [(4, .pointer (some ⟨g_2, 0, none⟩)), (5, .pointer (some ⟨g_4, 0, none⟩))] ∧ Sep w0 w_88 [N_82, Mem.one g_2 (.cells ([iV 0, iV 0, iV 0, iV 0, iV 0, iV 0, .bool false, iV 0, iV 0, iV 0, iV 0, nS, iV 0, iV 0, nS, nS, iV 0, iV 0, iV 0, iV 0, iV 0, nS, nS, nS] : List Value).toArray 32 (0, 0)), Mem.one g_4 (.cells ([iV (w64 ((band .i64 x0 7) + 1)), iV (Int.tmod (band .i64 (shr .i64 x0 3) 7) 7), iV (Int.tmod (band .i64 (shr .i64 x0 6) 7) 7), iV (band .i64 (shr .i64 x0 9) 1023), iV 0, iV 0, .bool false, iV 0, iV 0, iV 0, iV 0, nS, iV (band .i64 x1 1023), iV (band .i64 (shr .i64 x1 10) 255), v_77, v_86, iV 0, iV 0, iV 0, iV 0, iV 0, nS, nS, nS] : List Value).toArray 32 (0, 0)), M_75, M_84] Z ∧ N_73.le N_82 ∧ Own (Kd.int .i64) 3 M_84 Mem.no v_86 x_83) → KJ_81 a w_88 := by
        clear H h hS a
        rintro x_83 H a w_88 ⟨v_86, N_82, M_84, h, hS, le_82, ho_87⟩
        unfold hocketlaw11_Msg.J3 at H
        refine hKJ_81 _ _ <| x_block_n <| x_then_n (hKJ_6 _ _ ?_)
        refine wp_seq <| wp_region_lit <| s_load h rfl rfl (hS.load_agg (p := 2) (us := [iV (w64 ((band .i64 x0 7) + 1)), iV (Int.tmod (band .i64 (shr .i64 x0 3) 7) 7), iV (Int.tmod (band .i64 (shr .i64 x0 6) 7) 7), iV (band .i64 (shr .i64 x0 9) 1023), iV 0, iV 0, .bool false, iV 0, iV 0, iV 0, iV 0, nS, iV (band .i64 x1 1023), iV (band .i64 (shr .i64 x1 10) 255), v_77, v_86, iV 0, iV 0, iV 0, iV 0, iV 0, nS, nS, nS]) rfl U32 rfl ti32 rfl rfl) fun a h=>?_
        obtain ⟨w_90, hs', hS'⟩ := hS.store (P := Try.prog) (p := 1) (o := 0) (t := 32) (v := .agg ([iV (w64 ((band .i64 x0 7) + 1)), iV (Int.tmod (band .i64 (shr .i64 x0 3) 7) 7), iV (Int.tmod (band .i64 (shr .i64 x0 6) 7) 7), iV (band .i64 (shr .i64 x0 9) 1023), iV 0, iV 0, .bool false, iV 0, iV 0, iV 0, iV 0, nS, iV (band .i64 x1 1023), iV (band .i64 (shr .i64 x1 10) 255), v_77, v_86, iV 0, iV 0, iV 0, iV 0, iV 0, nS, nS, nS] : List Value).toArray) (vs := [iV (w64 ((band .i64 x0 7) + 1)), iV (Int.tmod (band .i64 (shr .i64 x0 3) 7) 7), iV (Int.tmod (band .i64 (shr .i64 x0 6) 7) 7), iV (band .i64 (shr .i64 x0 9) 1023), iV 0, iV 0, .bool false, iV 0, iV 0, iV 0, iV 0, nS, iV (band .i64 x1 1023), iV (band .i64 (shr .i64 x1 10) 255), v_77, v_86, iV 0, iV 0, iV 0, iV 0, iV 0, nS, nS, nS]) rfl ti32 rfl rfl rfl (by intro u hu; simp only [List.mem_cons, List.not_mem_nil, or_false] at hu; rcases hu with rfl | rfl | rfl | rfl | rfl | rfl | rfl | rfl | rfl | rfl | rfl | rfl | rfl | rfl | rfl | rfl | rfl | rfl | rfl | rfl | rfl | rfl | rfl | rfl <;> first | rfl | exact ho_78.one | exact ho_87.one)
        refine s_store h rfl rfl hs' ?_
        replace hS : Sep w0 w_90 [_, Mem.one g_2 (.cells ([iV (w64 ((band .i64 x0 7) + 1)), iV (Int.tmod (band .i64 (shr .i64 x0 3) 7) 7), iV (Int.tmod (band .i64 (shr .i64 x0 6) 7) 7), iV (band .i64 (shr .i64 x0 9) 1023), _, _, _, _, _, _, _, _, iV (band .i64 x1 1023), iV (band .i64 (shr .i64 x1 10) 255), v_77, v_86, _, _, _, _, _, _, _, _] : List Value).toArray 32 (0, 0)), _, _, _] Z := hS'
        clear hs' hS'
        refine wpList_nil ?_
        replace h : Fr 150 a [(4, _)] := h.keep [4]
        refine x_then_n <| wp_ret ?_
        have hS' := hS.room
        replace hS : Sep w0 w_90 [_, _, _, _, _, Mem.no] Z := hS'
        clear hS'
        replace hS : Sep w0 w_90 [_, _, _, _, _, _] Z := hS
        obtain rfl := Option.some.inj H
        exact f_ret h (rs := [.cell 4 32]) rfl (.cell rfl (hS.load_agg (p := 1) (us := [iV (w64 ((band .i64 x0 7) + 1)), iV (Int.tmod (band .i64 (shr .i64 x0 3) 7) 7), iV (Int.tmod (band .i64 (shr .i64 x0 6) 7) 7), iV (band .i64 (shr .i64 x0 9) 1023), iV 0, iV 0, .bool false, iV 0, iV 0, iV 0, iV 0, nS, iV (band .i64 x1 1023), iV (band .i64 (shr .i64 x1 10) 255), v_77, v_86, iV 0, iV 0, iV 0, iV 0, iV 0, nS, nS, nS]) rfl U32 rfl ti32 rfl rfl) .nil) ⟨_, rfl, nS, v_77, v_86, nS, nS, nS, N_82, Mem.no, M_75, M_84, rfl, (Sep.sel hS [0, 5, 3, 4] (by decide)), (Own.nil Kd.u8 5 Mem.no), ho_78, ho_87, (Rd.nil _ _), (Rd.nil _ _), (Rd.nil _ _)⟩
       clear hKJ_81
       have hS' := hS.room
       replace hS : Sep w0 w_79 [_, _, _, _, Mem.no] Z := hS'
       clear hS'
       replace hS : Sep w0 w_79 [_, _, _, _, _] Z := hS
       replace h : Fr 150 a [(1, _), (4, _), (5, _), (8, iV 0)] := h.keep [1, 4, 5, 8]
       refine c_block <| c_loop (fun k_99 a w_99 => ∃ (x_93 : Int) (x_94 : List Int) (v_97 : Value) (N_92 : Mem) (M_95 : Mem), hocketlaw11_Msg.L2 K x1 (fun v => hocketlaw11_Msg.J3 K x0 x1 x_74 v) k_99 (x_93, x_94) = some r ∧ Fr 150 a [(1, iV x1), (4, .pointer (some ⟨g_2, 0, none⟩)), (5, .pointer (some ⟨g_4, 0, none⟩)), (8, iV x_93)] ∧ Sep w0 w_99 [N_92, Mem.one g_2 (.cells ([iV 0, iV 0, iV 0, iV 0, iV 0, iV 0, .bool false, iV 0, iV 0, iV 0, iV 0, nS, iV 0, iV 0, nS, nS, iV 0, iV 0, iV 0, iV 0, iV 0, nS, nS, nS] : List Value).toArray 32 (0, 0)), Mem.one g_4 (.cells ([iV (w64 ((band .i64 x0 7) + 1)), iV (Int.tmod (band .i64 (shr .i64 x0 3) 7) 7), iV (Int.tmod (band .i64 (shr .i64 x0 6) 7) 7), iV (band .i64 (shr .i64 x0 9) 1023), iV 0, iV 0, .bool false, iV 0, iV 0, iV 0, iV 0, nS, iV (band .i64 x1 1023), iV (band .i64 (shr .i64 x1 10) 255), v_77, v_97, iV 0, iV 0, iV 0, iV 0, iV 0, nS, nS, nS] : List Value).toArray 32 (0, 0)), M_75, M_95] Z ∧ N_73.le N_92 ∧ Own (Kd.int .i64) 3 M_95 Mem.no v_97 x_94) K ⟨0, ([] : List Int), nS, N_73, Mem.no, H, h, (Sep.sel hS [0, 1, 2, 3, 4] (by decide)), (Mem.le.refl _), (Own.nil (Kd.int .i64) 3 Mem.no)⟩ (fun a w h => by obtain ⟨_, _, _, _, _, H, _⟩ := h; cases (show (none : Option (api_Msg)) = some r from H)) ?_
       clear h hS a H
       rintro k_99 a w_99 KL_99 hKL_99 ⟨x_93, x_94, v_97, N_92, M_95, H, h, hS, le_92, ho_98⟩
       replace H : hocketlaw11_Msg.B2 K x1 (fun v => hocketlaw11_Msg.J3 K x0 x1 x_74 v) (hocketlaw11_Msg.L2 K x1 (fun v => hocketlaw11_Msg.J3 K x0 x1 x_74 v) k_99) x_93 x_94 = some r := H
       unfold hocketlaw11_Msg.B2 at H
       refine c_seq fun KJ_102 hKJ_102 => wp_seq <| wp_region_lit <| s_move h rfl rfl fun a h=>s_move h rfl rfl fun a h=>s_shift (r := shr .i64 x1 21) h rfl rfl rfl (by decide) (.inr ⟨rfl, rfl⟩) fun a h=>s_bits (i := shr .i64 x1 21) (j := 7) (r := band .i64 (shr .i64 x1 21) 7) h rfl rfl rfl (.inl ⟨rfl, rfl⟩) fun a h=>s_cmp (b := decide (x_93 < (band .i64 (shr .i64 x1 21) 7))) h rfl rfl rfl (.inr (.inr (.inl ⟨rfl, rfl⟩))) fun a h=>wpList_nil ?_
       replace h : Fr 150 a [(1, _), (4, _), (5, _), (8, _), (116, .bool (decide (x_93 < (band .i64 (shr .i64 x1 21) 7))))] := h.keep [1, 4, 5, 8, 116]
       refine x_then_n ?_
       by_cases hc_103 : x_93 < (band .i64 (shr .i64 x1 21) 7)
       ·rw [if_pos hc_103] at H
        refine c_cond_t h rfl (decide_eq_true hc_103) <| wp_skip <| x_then_n (hKJ_102 _ _ ?_)
        refine wp_seq <| c_block <| wp_region_lit <| s_fieldAddr h rfl U32 rfl ti22 rfl rfl fun a h=>s_load h rfl rfl (hS.load_one (p := 2) rfl U22 rfl rfl) fun a h=>s_move h rfl rfl fun a h=>s_move h rfl rfl fun a h=>s_arith (r := w64 (x_93 + 3)) h rfl rfl rfl (.inl ⟨rfl, rfl⟩) fun a h=>s_conv (wu64 (w64 (x_93 + 3))) h rfl U3 U48 rfl rfl fun a h=>s_shift (r := shr .i64 x1 (wu64 (w64 (x_93 + 3)))) h rfl rfl rfl (wu64_nn _) (.inr ⟨rfl, rfl⟩) fun a h=>s_bits (i := shr .i64 x1 (wu64 (w64 (x_93 + 3)))) (j := 63) (r := band .i64 (shr .i64 x1 (wu64 (w64 (x_93 + 3)))) 63) h rfl rfl rfl (.inl ⟨rfl, rfl⟩) fun a h=>?_
        have hq_108 : Reps (Kd.int .i64) Mem.no ([band .i64 (shr .i64 x1 (wu64 (w64 (x_93 + 3)))) 63] : List Int) _ := ((Reps.one (d := (Kd.int .i64)) (x := band .i64 (shr .i64 x1 (wu64 (w64 (x_93 + 3)))) 63) (show (Kd.int .i64).K _ _ [iV (band .i64 (shr .i64 x1 (wu64 (w64 (x_93 + 3)))) 63)] from rfl)).append (Reps.nil (Kd.int .i64) _))
        refine s_buildSlice h rfl U22 ti3 rfl rfl rfl (.cons rfl .nil) rfl rfl rfl hS hq_108 rfl fun w_104 v_105 M_106 hS' ho_107 a h => ?_
        replace hS : Sep w0 w_104 [_, _, _, _, _, M_106] Z := hS'
        clear hS' hq_108
        obtain ⟨t_110, et_110, H⟩ := Option.bind_eq_some_iff.1 H
        refine s_append (J := Mem.no) (I' := Mem.no) (p := 4) 17592186044416 h rfl rfl rfl U22 ti3 rfl rfl rfl rfl hS rfl ho_98 (Src.flat (flat_int .i64) (ho_107.src (hS.own 5))) (Mem.le.refl _) (Mem.le.refl _) et_110 fun w_111 v_112 M_113 hS' ho_114 a h => ?_
        replace hS : Sep w0 w_111 [_, _, _, _, M_113, _] Z := hS'
        clear hS'
        refine s_fieldAddr h rfl U32 rfl ti22 rfl rfl fun a h=>?_
        obtain ⟨w_116, hs', hS'⟩ := hS.store (P := Try.prog) (p := 2) (o := 15) (t := 22) (v := v_112) (vs := [v_112]) rfl ti22 ho_114.cellsA rfl rfl (by intro u hu; simp only [List.mem_cons, List.not_mem_nil, or_false] at hu; rcases hu with rfl <;> first | rfl | exact ho_114.one)
        refine s_store h rfl rfl hs' ?_
        replace hS : Sep w0 w_116 [_, _, Mem.one g_4 (.cells ([_, _, _, _, _, _, _, _, _, _, _, _, _, _, _, v_112, _, _, _, _, _, _, _, _] : List Value).toArray 32 (0, 0)), _, _, _] Z := hS'
        clear hs' hS'
        refine wpList_nil <| x_block_n <| x_then_n <| wp_region_lit <| s_move h rfl rfl fun a h=>s_arith (r := w64 (x_93 + 1)) h rfl rfl rfl (.inl ⟨rfl, rfl⟩) fun a h=>s_assign h rfl rfl fun a h=>wpList_nil <| x_then_n (hKL_99 _ _ ?_)
        replace hS : Sep w0 w_116 [_, _, _, _, _, _] Z := hS
        replace h : Fr 150 a [(1, _), (4, _), (5, _), (8, iV (w64 (x_93 + 1)))] := h.keep [1, 4, 5, 8]
        exact ⟨w64 (x_93 + 1), t_110, v_112, N_92, M_113, H, h, (Sep.sel hS [0, 1, 2, 3, 4] (by decide)), le_92, ho_114⟩
       ·rw [if_neg hc_103] at H
        refine c_cond_f h rfl (decide_eq_false hc_103) <| wp_exit (x_then_x (x_then_x (x_block_t ?_)))
        replace hS : Sep w0 w_99 [_, _, _, _, _] Z := hS
        replace h : Fr 150 a [(4, _), (5, _)] := h.keep [4, 5]
        exact x_then_n (hJ_j_89 x_94 H _ _ ⟨v_97, N_92, M_95, h, (Sep.sel hS [0, 1, 2, 3, 4] (by decide)), le_92, ho_98⟩)
      clear hKJ_72
      have hS' := hS.room
      replace hS : Sep w0 w_71 [_, _, _, Mem.no] Z := hS'
      clear hS'
      replace hS : Sep w0 w_71 [_, _, _, _] Z := hS
      replace h : Fr 150 a [(1, _), (4, _), (5, _), (7, iV 0)] := h.keep [1, 4, 5, 7]
      refine c_block <| c_loop (fun k_124 a w_124 => ∃ (x_118 : Int) (x_119 : List Int) (v_122 : Value) (N_117 : Mem) (M_120 : Mem), hocketlaw11_Msg.L3 K x1 (fun v => hocketlaw11_Msg.J2 K x1 x0 v) k_124 (x_118, x_119) = some r ∧ Fr 150 a [(1, iV x1), (4, .pointer (some ⟨g_2, 0, none⟩)), (5, .pointer (some ⟨g_4, 0, none⟩)), (7, iV x_118)] ∧ Sep w0 w_124 [N_117, Mem.one g_2 (.cells ([iV 0, iV 0, iV 0, iV 0, iV 0, iV 0, .bool false, iV 0, iV 0, iV 0, iV 0, nS, iV 0, iV 0, nS, nS, iV 0, iV 0, iV 0, iV 0, iV 0, nS, nS, nS] : List Value).toArray 32 (0, 0)), Mem.one g_4 (.cells ([iV (w64 ((band .i64 x0 7) + 1)), iV (Int.tmod (band .i64 (shr .i64 x0 3) 7) 7), iV (Int.tmod (band .i64 (shr .i64 x0 6) 7) 7), iV (band .i64 (shr .i64 x0 9) 1023), iV 0, iV 0, .bool false, iV 0, iV 0, iV 0, iV 0, nS, iV (band .i64 x1 1023), iV (band .i64 (shr .i64 x1 10) 255), v_122, nS, iV 0, iV 0, iV 0, iV 0, iV 0, nS, nS, nS] : List Value).toArray 32 (0, 0)), M_120] Z ∧ Mem.no.le N_117 ∧ Own (Kd.int .i64) 3 M_120 Mem.no v_122 x_119) K ⟨0, ([] : List Int), nS, Mem.no, Mem.no, H, h, (Sep.sel hS [0, 1, 2, 3] (by decide)), (Mem.le.refl _), (Own.nil (Kd.int .i64) 3 Mem.no)⟩ (fun a w h => by obtain ⟨_, _, _, _, _, H, _⟩ := h; cases (show (none : Option (api_Msg)) = some r from H)) ?_
      clear h hS a H
      rintro k_124 a w_124 KL_124 hKL_124 ⟨x_118, x_119, v_122, N_117, M_120, H, h, hS, le_117, ho_123⟩
      replace H : hocketlaw11_Msg.B3 K x1 (fun v => hocketlaw11_Msg.J2 K x1 x0 v) (hocketlaw11_Msg.L3 K x1 (fun v => hocketlaw11_Msg.J2 K x1 x0 v) k_124) x_118 x_119 = some r := H
      unfold hocketlaw11_Msg.B3 at H
      refine c_seq fun KJ_127 hKJ_127 => wp_seq <| wp_region_lit <| s_move h rfl rfl fun a h=>s_move h rfl rfl fun a h=>s_shift (r := shr .i64 x1 18) h rfl rfl rfl (by decide) (.inr ⟨rfl, rfl⟩) fun a h=>s_bits (i := shr .i64 x1 18) (j := 7) (r := band .i64 (shr .i64 x1 18) 7) h rfl rfl rfl (.inl ⟨rfl, rfl⟩) fun a h=>s_cmp (b := decide (x_118 < (band .i64 (shr .i64 x1 18) 7))) h rfl rfl rfl (.inr (.inr (.inl ⟨rfl, rfl⟩))) fun a h=>wpList_nil <| x_then_n ?_
      by_cases hc_128 : x_118 < (band .i64 (shr .i64 x1 18) 7)
      ·rw [if_pos hc_128] at H
       refine c_cond_t h rfl (decide_eq_true hc_128) <| wp_skip <| x_then_n (hKJ_127 _ _ ?_)
       refine wp_seq <| c_block <| wp_region_lit <| s_fieldAddr h rfl U32 rfl ti22 rfl rfl fun a h=>s_load h rfl rfl (hS.load_one (p := 2) rfl U22 rfl rfl) fun a h=>s_move h rfl rfl fun a h=>s_move h rfl rfl fun a h=>s_conv (wu64 x_118) h rfl U3 U48 rfl rfl fun a h=>s_shift (r := shr .i64 x1 (wu64 x_118)) h rfl rfl rfl (wu64_nn _) (.inr ⟨rfl, rfl⟩) fun a h=>s_bits (i := shr .i64 x1 (wu64 x_118)) (j := 63) (r := band .i64 (shr .i64 x1 (wu64 x_118)) 63) h rfl rfl rfl (.inl ⟨rfl, rfl⟩) fun a h=>?_
       have hq_133 : Reps (Kd.int .i64) Mem.no ([band .i64 (shr .i64 x1 (wu64 x_118)) 63] : List Int) _ := ((Reps.one (d := (Kd.int .i64)) (x := band .i64 (shr .i64 x1 (wu64 x_118)) 63) (show (Kd.int .i64).K _ _ [iV (band .i64 (shr .i64 x1 (wu64 x_118)) 63)] from rfl)).append (Reps.nil (Kd.int .i64) _))
       refine s_buildSlice h rfl U22 ti3 rfl rfl rfl (.cons rfl .nil) rfl rfl rfl hS hq_133 rfl fun w_129 v_130 M_131 hS' ho_132 a h => ?_
       replace hS : Sep w0 w_129 [_, _, _, _, M_131] Z := hS'
       clear hS' hq_133
       obtain ⟨t_135, et_135, H⟩ := Option.bind_eq_some_iff.1 H
       refine s_append (J := Mem.no) (I' := Mem.no) (p := 3) 17592186044416 h rfl rfl rfl U22 ti3 rfl rfl rfl rfl hS rfl ho_123 (Src.flat (flat_int .i64) (ho_132.src (hS.own 4))) (Mem.le.refl _) (Mem.le.refl _) et_135 fun w_136 v_137 M_138 hS' ho_139 a h => ?_
       replace hS : Sep w0 w_136 [_, _, _, M_138, _] Z := hS'
       clear hS'
       refine s_fieldAddr h rfl U32 rfl ti22 rfl rfl fun a h=>?_
       obtain ⟨w_141, hs', hS'⟩ := hS.store (P := Try.prog) (p := 2) (o := 14) (t := 22) (v := v_137) (vs := [v_137]) rfl ti22 ho_139.cellsA rfl rfl (by intro u hu; simp only [List.mem_cons, List.not_mem_nil, or_false] at hu; rcases hu with rfl <;> first | rfl | exact ho_139.one)
       refine s_store h rfl rfl hs' ?_
       replace hS : Sep w0 w_141 [_, _, Mem.one g_4 (.cells ([_, _, _, _, _, _, _, _, _, _, _, _, _, _, v_137, _, _, _, _, _, _, _, _, _] : List Value).toArray 32 (0, 0)), _, _] Z := hS'
       clear hs' hS'
       refine wpList_nil ?_
       replace h : Fr 150 a [(1, _), (4, _), (5, _), (7, _)] := h.keep [1, 4, 5, 7]
       refine x_block_n <| x_then_n <| wp_region_lit <| s_move h rfl rfl fun a h=>s_arith (r := w64 (x_118 + 1)) h rfl rfl rfl (.inl ⟨rfl, rfl⟩) fun a h=>s_assign h rfl rfl fun a h=>wpList_nil <| x_then_n (hKL_124 _ _ ?_)
       replace hS : Sep w0 w_141 [_, _, _, _, _] Z := hS
       replace h : Fr 150 a [(1, _), (4, _), (5, _), (7, iV (w64 (x_118 + 1)))] := h.keep [1, 4, 5, 7]
       exact ⟨w64 (x_118 + 1), t_135, v_137, N_117, M_138, H, h, (Sep.sel hS [0, 1, 2, 3] (by decide)), le_117, ho_139⟩
      ·rw [if_neg hc_128] at H
       refine c_cond_f h rfl (decide_eq_false hc_128) <| wp_exit (x_then_x (x_then_x (x_block_t ?_)))
       replace hS : Sep w0 w_124 [_, _, _, _] Z := hS
       replace h : Fr 150 a [(1, _), (4, _), (5, _)] := h.keep [1, 4, 5]
       exact x_then_n (hJ_j_80 x_119 H _ _ ⟨v_122, N_117, M_120, h, (Sep.sel hS [0, 1, 2, 3] (by decide)), le_117, ho_123⟩)
     ·rw [if_neg hc_69] at H
      refine c_cond_f h rfl (beq_eq_false_iff_ne.2 hc_69) <| wp_seq <| wp_region_lit <| s_cmp (b := ((w64 ((band .i64 x0 7) + 1)) == 8)) h rfl rfl rfl (.inl ⟨rfl, rfl⟩) fun a h=>s_assign h rfl rfl fun a h=>wpList_nil <| x_then_n ?_
      by_cases hc_142 : (w64 ((band .i64 x0 7) + 1)) = 8
      ·rw [if_pos hc_142] at H
       refine c_cond_t h rfl (beq_iff_eq.2 hc_142) <| wp_seq <| wp_region_lit <| s_move h rfl rfl fun a h=>s_bits (i := x1) (j := 1023) (r := band .i64 x1 1023) h rfl rfl rfl (.inl ⟨rfl, rfl⟩) fun a h=>s_move h rfl rfl fun a h=>s_move h rfl rfl fun a h=>s_shift (r := shr .i64 x1 10) h rfl rfl rfl (by decide) (.inr ⟨rfl, rfl⟩) fun a h=>s_bits (i := shr .i64 x1 10) (j := 63) (r := band .i64 (shr .i64 x1 10) 63) h rfl rfl rfl (.inl ⟨rfl, rfl⟩) fun a h=>?_
       obtain ⟨t_143, et_143, H⟩ := Option.bind_eq_some_iff.1 H
       refine s_call h rfl Try.call28 rfl (hocketlaw10_Entry.calls x0 (band .i64 (shr .i64 x1 10) 63) t_143 w0 _ _ _ (Mem.le.refl _) (hS.enter [] (by decide))  et_143) ?_
       rintro _ w_144 ⟨v_147, v_149, v_151, N_145, rfl, hS', hr_148, hr_150, hr_152⟩
       intro a h
       obtain ⟨N_146, hS'', le_146, ln_146⟩ := hS.call [] (by decide) rfl (l' := []) (ow := []) rfl hS'
       replace hS : Sep w0 w_144 [N_146, _, _] Z := hS''
       clear hS' hS''
       refine s_fieldAddr h rfl U32 rfl ti3 rfl rfl fun a h=>?_
       obtain ⟨w_153, hs', hS'⟩ := hS.store (P := Try.prog) (p := 2) (o := 16) (t := 3) (v := iV (band .i64 x1 1023)) (vs := [iV (band .i64 x1 1023)]) rfl ti3 rfl rfl rfl (by intro u hu; simp only [List.mem_cons, List.not_mem_nil, or_false] at hu; rcases hu with rfl <;> rfl)
       refine s_store h rfl rfl hs' ?_
       replace hS : Sep w0 w_153 [_, _, Mem.one g_4 (.cells ([_, _, _, _, _, _, _, _, _, _, _, _, _, _, _, _, iV (band .i64 x1 1023), _, _, _, _, _, _, _] : List Value).toArray 32 (0, 0))] Z := hS'
       clear hs' hS'
       refine s_fieldAddr h rfl U32 rfl ti30 rfl rfl fun a h=>?_
       obtain ⟨w_154, hs', hS'⟩ := hS.store (P := Try.prog) (p := 2) (o := 17) (t := 30) (v := .agg ([iV t_143.Sess, iV t_143.Seq, iV t_143.Cmd.Kind, iV t_143.Cmd.Who, v_147, v_149, v_151] : List Value).toArray) (vs := [iV t_143.Sess, iV t_143.Seq, iV t_143.Cmd.Kind, iV t_143.Cmd.Who, v_147, v_149, v_151]) rfl ti30 rfl rfl rfl (by intro u hu; simp only [List.mem_cons, List.not_mem_nil, or_false] at hu; rcases hu with rfl | rfl | rfl | rfl | rfl | rfl | rfl <;> first | rfl | exact (hr_148.mono ln_146).one | exact (hr_150.mono ln_146).one | exact (hr_152.mono ln_146).one)
       refine s_store h rfl rfl hs' ?_
       replace hS : Sep w0 w_154 [_, _, Mem.one g_4 (.cells ([_, _, _, _, _, _, _, _, _, _, _, _, _, _, _, _, _, iV t_143.Sess, iV t_143.Seq, iV t_143.Cmd.Kind, iV t_143.Cmd.Who, v_147, v_149, v_151] : List Value).toArray 32 (0, 0))] Z := hS'
       clear hs' hS'
       refine wpList_nil <| x_then_n <| wp_region_lit <| s_fieldAddr h rfl U32 rfl ti30 rfl rfl fun a h=>s_fieldAddr h rfl U30 rfl ti28 rfl rfl fun a h=>s_fieldAddr h rfl U28 rfl ti3 rfl rfl fun a h=>s_load h rfl rfl (hS.load_one (p := 2) rfl U3 rfl rfl) fun a h=>s_max h rfl rfl rfl fun a h=>s_fieldAddr h rfl U32 rfl ti30 rfl rfl fun a h=>s_fieldAddr h rfl U30 rfl ti28 rfl rfl fun a h=>s_fieldAddr h rfl U28 rfl ti3 rfl rfl fun a h=>?_
       obtain ⟨w_155, hs', hS'⟩ := hS.store (P := Try.prog) (p := 2) (o := 20) (t := 3) (v := iV (mx t_143.Cmd.Who 0)) (vs := [iV (mx t_143.Cmd.Who 0)]) rfl ti3 rfl rfl rfl (by intro u hu; simp only [List.mem_cons, List.not_mem_nil, or_false] at hu; rcases hu with rfl <;> rfl)
       refine s_store h rfl rfl hs' ?_
       replace hS : Sep w0 w_155 [_, _, Mem.one g_4 (.cells ([_, _, _, _, _, _, _, _, _, _, _, _, _, _, _, _, _, _, _, _, iV (mx t_143.Cmd.Who 0), _, _, _] : List Value).toArray 32 (0, 0))] Z := hS'
       clear hs' hS'
       refine wpList_nil <| x_block_n <| x_then_n (hKJ_6 _ _ ?_)
       refine wp_seq <| wp_region_lit <| s_load h rfl rfl (hS.load_agg (p := 2) (us := [iV (w64 ((band .i64 x0 7) + 1)), iV (Int.tmod (band .i64 (shr .i64 x0 3) 7) 7), iV (Int.tmod (band .i64 (shr .i64 x0 6) 7) 7), iV (band .i64 (shr .i64 x0 9) 1023), iV 0, iV 0, .bool false, iV 0, iV 0, iV 0, iV 0, nS, iV 0, iV 0, nS, nS, iV (band .i64 x1 1023), iV t_143.Sess, iV t_143.Seq, iV t_143.Cmd.Kind, iV (mx t_143.Cmd.Who 0), v_147, v_149, v_151]) rfl U32 rfl ti32 rfl rfl) fun a h=>?_
       obtain ⟨w_156, hs', hS'⟩ := hS.store (P := Try.prog) (p := 1) (o := 0) (t := 32) (v := .agg ([iV (w64 ((band .i64 x0 7) + 1)), iV (Int.tmod (band .i64 (shr .i64 x0 3) 7) 7), iV (Int.tmod (band .i64 (shr .i64 x0 6) 7) 7), iV (band .i64 (shr .i64 x0 9) 1023), iV 0, iV 0, .bool false, iV 0, iV 0, iV 0, iV 0, nS, iV 0, iV 0, nS, nS, iV (band .i64 x1 1023), iV t_143.Sess, iV t_143.Seq, iV t_143.Cmd.Kind, iV (mx t_143.Cmd.Who 0), v_147, v_149, v_151] : List Value).toArray) (vs := [iV (w64 ((band .i64 x0 7) + 1)), iV (Int.tmod (band .i64 (shr .i64 x0 3) 7) 7), iV (Int.tmod (band .i64 (shr .i64 x0 6) 7) 7), iV (band .i64 (shr .i64 x0 9) 1023), iV 0, iV 0, .bool false, iV 0, iV 0, iV 0, iV 0, nS, iV 0, iV 0, nS, nS, iV (band .i64 x1 1023), iV t_143.Sess, iV t_143.Seq, iV t_143.Cmd.Kind, iV (mx t_143.Cmd.Who 0), v_147, v_149, v_151]) rfl ti32 rfl rfl rfl (by intro u hu; simp only [List.mem_cons, List.not_mem_nil, or_false] at hu; rcases hu with rfl | rfl | rfl | rfl | rfl | rfl | rfl | rfl | rfl | rfl | rfl | rfl | rfl | rfl | rfl | rfl | rfl | rfl | rfl | rfl | rfl | rfl | rfl | rfl <;> first | rfl | exact (hr_148.mono ln_146).one | exact (hr_150.mono ln_146).one | exact (hr_152.mono ln_146).one)
       refine s_store h rfl rfl hs' ?_
       replace hS : Sep w0 w_156 [_, Mem.one g_2 (.cells ([iV (w64 ((band .i64 x0 7) + 1)), iV (Int.tmod (band .i64 (shr .i64 x0 3) 7) 7), iV (Int.tmod (band .i64 (shr .i64 x0 6) 7) 7), iV (band .i64 (shr .i64 x0 9) 1023), _, _, _, _, _, _, _, _, _, _, _, _, iV (band .i64 x1 1023), iV t_143.Sess, iV t_143.Seq, iV t_143.Cmd.Kind, iV (mx t_143.Cmd.Who 0), v_147, v_149, v_151] : List Value).toArray 32 (0, 0)), _] Z := hS'
       clear hs' hS'
       refine wpList_nil ?_
       replace h : Fr 150 a [(4, _)] := h.keep [4]
       refine x_then_n <| wp_ret ?_
       have hS' := hS.room
       replace hS : Sep w0 w_156 [_, _, _, Mem.no] Z := hS'
       clear hS'
       replace hS : Sep w0 w_156 [_, _, _, _] Z := hS
       have hS' := hS.room
       replace hS : Sep w0 w_156 [_, _, _, _, Mem.no] Z := hS'
       clear hS'
       replace hS : Sep w0 w_156 [_, _, _, _, _] Z := hS
       have hS' := hS.room
       replace hS : Sep w0 w_156 [_, _, _, _, _, Mem.no] Z := hS'
       clear hS'
       replace hS : Sep w0 w_156 [_, _, _, _, _, _] Z := hS
       obtain rfl := Option.some.inj H
       exact f_ret h (rs := [.cell 4 32]) rfl (.cell rfl (hS.load_agg (p := 1) (us := [iV (w64 ((band .i64 x0 7) + 1)), iV (Int.tmod (band .i64 (shr .i64 x0 3) 7) 7), iV (Int.tmod (band .i64 (shr .i64 x0 6) 7) 7), iV (band .i64 (shr .i64 x0 9) 1023), iV 0, iV 0, .bool false, iV 0, iV 0, iV 0, iV 0, nS, iV 0, iV 0, nS, nS, iV (band .i64 x1 1023), iV t_143.Sess, iV t_143.Seq, iV t_143.Cmd.Kind, iV (mx t_143.Cmd.Who 0), v_147, v_149, v_151]) rfl U32 rfl ti32 rfl rfl) .nil) ⟨_, rfl, nS, nS, nS, v_147, v_149, v_151, N_146, Mem.no, Mem.no, Mem.no, rfl, (Sep.sel hS [0, 3, 4, 5] (by decide)), (Own.nil Kd.u8 5 Mem.no), (Own.nil (Kd.int .i64) 3 Mem.no), (Own.nil (Kd.int .i64) 3 Mem.no), (hr_148.mono ln_146), (hr_150.mono ln_146), (hr_152.mono ln_146)⟩
      ·rw [if_neg hc_142] at H
       refine c_cond_f h rfl (beq_eq_false_iff_ne.2 hc_142) <| wp_skip <| x_block_n <| x_then_n (hKJ_6 _ _ ?_)
       refine wp_seq <| wp_region_lit <| s_load h rfl rfl (hS.load_agg (p := 2) (us := [iV (w64 ((band .i64 x0 7) + 1)), iV (Int.tmod (band .i64 (shr .i64 x0 3) 7) 7), iV (Int.tmod (band .i64 (shr .i64 x0 6) 7) 7), iV (band .i64 (shr .i64 x0 9) 1023), iV 0, iV 0, .bool false, iV 0, iV 0, iV 0, iV 0, nS, iV 0, iV 0, nS, nS, iV 0, iV 0, iV 0, iV 0, iV 0, nS, nS, nS]) rfl U32 rfl ti32 rfl rfl) fun a h=>?_
       obtain ⟨w_160, hs', hS'⟩ := hS.store (P := Try.prog) (p := 1) (o := 0) (t := 32) (v := .agg ([iV (w64 ((band .i64 x0 7) + 1)), iV (Int.tmod (band .i64 (shr .i64 x0 3) 7) 7), iV (Int.tmod (band .i64 (shr .i64 x0 6) 7) 7), iV (band .i64 (shr .i64 x0 9) 1023), iV 0, iV 0, .bool false, iV 0, iV 0, iV 0, iV 0, nS, iV 0, iV 0, nS, nS, iV 0, iV 0, iV 0, iV 0, iV 0, nS, nS, nS] : List Value).toArray) (vs := [iV (w64 ((band .i64 x0 7) + 1)), iV (Int.tmod (band .i64 (shr .i64 x0 3) 7) 7), iV (Int.tmod (band .i64 (shr .i64 x0 6) 7) 7), iV (band .i64 (shr .i64 x0 9) 1023), iV 0, iV 0, .bool false, iV 0, iV 0, iV 0, iV 0, nS, iV 0, iV 0, nS, nS, iV 0, iV 0, iV 0, iV 0, iV 0, nS, nS, nS]) rfl ti32 rfl rfl rfl (by intro u hu; simp only [List.mem_cons, List.not_mem_nil, or_false] at hu; rcases hu with rfl | rfl | rfl | rfl | rfl | rfl | rfl | rfl | rfl | rfl | rfl | rfl | rfl | rfl | rfl | rfl | rfl | rfl | rfl | rfl | rfl | rfl | rfl | rfl <;> rfl)
       refine s_store h rfl rfl hs' ?_
       replace hS : Sep w0 w_160 [_, Mem.one g_2 (.cells ([iV (w64 ((band .i64 x0 7) + 1)), iV (Int.tmod (band .i64 (shr .i64 x0 3) 7) 7), iV (Int.tmod (band .i64 (shr .i64 x0 6) 7) 7), iV (band .i64 (shr .i64 x0 9) 1023), _, _, _, _, _, _, _, _, _, _, _, _, _, _, _, _, _, _, _, _] : List Value).toArray 32 (0, 0)), _] Z := hS'
       clear hs' hS'
       refine wpList_nil <| x_then_n <| wp_ret ?_
       have hS' := hS.room
       replace hS : Sep w0 w_160 [_, _, _, Mem.no] Z := hS'
       clear hS'
       replace hS : Sep w0 w_160 [_, _, _, _] Z := hS
       have hS' := hS.room
       replace hS : Sep w0 w_160 [_, _, _, _, Mem.no] Z := hS'
       clear hS'
       replace hS : Sep w0 w_160 [_, _, _, _, _] Z := hS
       have hS' := hS.room
       replace hS : Sep w0 w_160 [_, _, _, _, _, Mem.no] Z := hS'
       clear hS'
       replace hS : Sep w0 w_160 [_, _, _, _, _, _] Z := hS
       obtain rfl := Option.some.inj H
       exact f_ret h (rs := [.cell 4 32]) rfl (.cell rfl (hS.load_agg (p := 1) (us := [iV (w64 ((band .i64 x0 7) + 1)), iV (Int.tmod (band .i64 (shr .i64 x0 3) 7) 7), iV (Int.tmod (band .i64 (shr .i64 x0 6) 7) 7), iV (band .i64 (shr .i64 x0 9) 1023), iV 0, iV 0, .bool false, iV 0, iV 0, iV 0, iV 0, nS, iV 0, iV 0, nS, nS, iV 0, iV 0, iV 0, iV 0, iV 0, nS, nS, nS]) rfl U32 rfl ti32 rfl rfl) .nil) ⟨_, rfl, nS, nS, nS, nS, nS, nS, Mem.no, Mem.no, Mem.no, Mem.no, rfl, (Sep.sel hS [0, 3, 4, 5] (by decide)), (Own.nil Kd.u8 5 Mem.no), (Own.nil (Kd.int .i64) 3 Mem.no), (Own.nil (Kd.int .i64) 3 Mem.no), (Rd.nil _ _), (Rd.nil _ _), (Rd.nil _ _)⟩

set_option maxHeartbeats 4000000 in
set_option maxRecDepth 20000 in
theorem hocketref1_SameInts.calls (K : Nat) (x0 : List Int) (p0_0 : Value) (x1 : List Int) (p1_1 : Value) (r : Bool) (w0 w : World) (Z A : Mem) (hA : A.le Z) (hS : Sep w0 w [] Z) (hp0_0 : Rd (Kd.int .i64) A p0_0 x0) (hp1_1 : Rd (Kd.int .i64) A p1_1 x1)
    (H : hocketref1_SameInts.f K x0 x1 = some r) :
    Calls Try.prog 31 [p0_0, p1_1].toArray w (Ret fun v w' => ∃ (N : Mem), v = .bool r ∧ Sep w0 w' [N] Z) := by
 unfold hocketref1_SameInts.f at H
 refine f_enter _ Try.func31 rfl Try.ntmps31 rfl fun a h=>?_
 replace h : Fr 26 a [(0, p0_0), (1, p1_1)] := h
 replace hS := hS.start
 replace hS : Sep w0 w [_] Z := hS
 refine wp_seq <| wp_region_lit <| s_assign h rfl rfl fun a h=>wpList_nil <| x_then_n <| c_seq fun KJ_1 hKJ_1 => wp_seq <| wp_region_lit <| s_move h rfl rfl fun a h=>s_len h rfl U22 rfl hp0_0 fun a h=>s_move h rfl rfl fun a h=>s_len h rfl U22 rfl hp1_1 fun a h=>?_
 refine s_cmp (b := ((x0.length : Int) != (x1.length : Int))) h rfl rfl rfl (.inr (.inl ⟨rfl, rfl⟩)) fun a h=>wpList_nil <| x_then_n ?_
 by_cases hc_2 : (x0.length : Int) = (x1.length : Int)
 ·rw [if_pos hc_2] at H
  refine c_cond_f h rfl (bne_eq_false_iff_eq.2 hc_2) <| wp_skip <| x_then_n (hKJ_1 _ _ ?_)
  refine c_seq fun KJ_3 hKJ_3 => wp_seq <| wp_region_lit <| s_assign h rfl rfl fun a h=>wpList_nil <| x_then_n ?_
  have hJ_j_6 : hocketref1_SameInts.J1 K = some r → ∀ (a : Act) (w_5 : World), (∃ (N_4 : Mem), Fr 26 a [(4, .bool false)] ∧ Sep w0 w_5 [N_4] Z ∧ Mem.no.le N_4) → KJ_3 a w_5 := by
   clear H h hS a
   rintro H a w_5 ⟨N_4, h, hS, le_4⟩
   unfold hocketref1_SameInts.J1 at H
   refine hKJ_3 _ _ <| wp_seq <| wp_region_lit <| s_assign h rfl rfl fun a h=>wpList_nil ?_
   replace h : Fr 26 a [(4, .bool true)] := h.keep [4]
   refine x_then_n <| wp_ret ?_
   obtain rfl := Option.some.inj H
   exact f_ret h (rs := [.tmp 4]) rfl (.tmp rfl .nil) ⟨_, rfl, N_4, rfl, (Sep.sel hS [0] (by decide))⟩
  clear hKJ_3
  replace hS : Sep w0 w [_] Z := hS
  replace h : Fr 26 a [(0, _), (1, _), (4, .bool false), (5, iV 0)] := h.keep [0, 1, 4, 5]
  refine c_block <| c_loop (fun k_9 a w_9 => ∃ (x_8 : Int) (N_7 : Mem), hocketref1_SameInts.L1 K x0 x1 (fun v => hocketref1_SameInts.J1 K) k_9 x_8 = some r ∧ Fr 26 a [(0, p0_0), (1, p1_1), (4, .bool false), (5, iV x_8)] ∧ Sep w0 w_9 [N_7] Z ∧ Mem.no.le N_7) K ⟨0, Mem.no, H, h, (Sep.sel hS [0] (by decide)), (Mem.le.refl _)⟩ (fun a w h => by obtain ⟨_, _, H, _⟩ := h; cases (show (none : Option (Bool)) = some r from H)) ?_
  clear h hS a H
  rintro k_9 a w_9 KL_9 hKL_9 ⟨x_8, N_7, H, h, hS, le_7⟩
  replace H : hocketref1_SameInts.B1 K x0 x1 (fun v => hocketref1_SameInts.J1 K) (hocketref1_SameInts.L1 K x0 x1 (fun v => hocketref1_SameInts.J1 K) k_9) x_8 = some r := H
  unfold hocketref1_SameInts.B1 at H
  refine c_seq fun KJ_11 hKJ_11 => wp_seq <| wp_region_lit <| s_move h rfl rfl fun a h=>s_move h rfl rfl fun a h=>s_len h rfl U22 rfl hp0_0 fun a h=>s_cmp (b := decide (x_8 < (x0.length : Int))) h rfl rfl rfl (.inr (.inr (.inl ⟨rfl, rfl⟩))) fun a h=>wpList_nil ?_
  replace h : Fr 26 a [(0, _), (1, _), (4, _), (5, _), (14, .bool (decide (x_8 < (x0.length : Int))))] := h.keep [0, 1, 4, 5, 14]
  refine x_then_n ?_
  by_cases hc_12 : x_8 < (x0.length : Int)
  ·rw [if_pos hc_12] at H
   refine c_cond_t h rfl (decide_eq_true hc_12) <| wp_skip <| x_then_n (hKJ_11 _ _ ?_)
   refine c_seq fun KJ_13 hKJ_13 => c_block <| c_seq fun KJ_14 hKJ_14 => h_begin (S := fun w => Sep w0 w [N_7] Z) 9 (by kernel_rfl) rfl (bA 9 0) (by kernel_rfl) hS fun w_15 hS => ?_
   replace hS : Sep w0 w_15 [_] Z := hS
   refine t_take 0 (bA 9 1) rfl rfl rfl rfl h (hS.sub .ii) (v := p0_0) (fun w hS => r_move h rfl) fun a h=>t_take 1 (bA 9 3) rfl rfl rfl rfl h (hS.sub .ii) (v := iV x_8) (fun w hS => r_move h rfl) fun a h=>?_
   obtain ⟨t_16, et_16, H⟩ := Option.bind_eq_some_iff.1 H
   refine t_takeE 2 (bA 9 7) rfl rfl rfl rfl h (hS.sub .ii) (f := fun ad => .pointer (some ad)) (r_index h U22 ti3 rfl rfl rfl hp0_0 et_16) ?_
   rintro ad_17 ⟨cs_18, hk_19, hc_20⟩
   obtain rfl := (show cs_18 = [iV t_16] from hk_19)
   intro a h
   refine t_take 3 (bA 9 15) rfl rfl rfl rfl h (hS.sub .ii) (v := iV t_16) (fun w hS => r_load h rfl (el_one (o := 0) (fun j c h => Mem.cell_le (hA.trans hS.old) (hc_20 j c h)) U3 rfl rfl)) fun a h=>t_take 4 (bA 9 31) rfl rfl rfl rfl h (hS.sub .ii) (v := p1_1) (fun w hS => r_move h rfl) fun a h=>t_take 5 (bA 9 63) rfl rfl rfl rfl h (hS.sub .ii) (v := iV x_8) (fun w hS => r_move h rfl) fun a h=>?_
   obtain ⟨t_21, et_21, H⟩ := Option.bind_eq_some_iff.1 H
   refine t_takeE 6 (bA 9 127) rfl rfl rfl rfl h (hS.sub .ii) (f := fun ad => .pointer (some ad)) (r_index h U22 ti3 rfl rfl rfl hp1_1 et_21) ?_
   rintro ad_22 ⟨cs_23, hk_24, hc_25⟩
   obtain rfl := (show cs_23 = [iV t_21] from hk_24)
   intro a h
   refine t_take 7 (bA 9 255) rfl rfl rfl rfl h (hS.sub .ii) (v := iV t_21) (fun w hS => r_load h rfl (el_one (o := 0) (fun j c h => Mem.cell_le (hA.trans hS.old) (hc_25 j c h)) U3 rfl rfl)) fun a h=>t_take 8 (bA 9 511) rfl rfl rfl rfl h (hS.sub .ii) (v := .bool (t_16 != t_21)) (fun w hS => r_cmp (b := (t_16 != t_21)) h rfl rfl (.inr (.inl ⟨rfl, rfl⟩))) fun a h=>h_done (by kernel_rfl) <| x_then_n (hKJ_14 _ _ ?_)
   by_cases hc_26 : t_16 = t_21
   ·rw [if_pos hc_26] at H
    refine c_cond_f h rfl (bne_eq_false_iff_eq.2 hc_26) <| wp_skip <| x_block_n <| x_then_n (hKJ_13 _ _ ?_)
    refine wp_region_lit <| s_move h rfl rfl fun a h=>s_arith (r := w64 (x_8 + 1)) h rfl rfl rfl (.inl ⟨rfl, rfl⟩) fun a h=>s_assign h rfl rfl fun a h=>wpList_nil <| x_then_n (hKL_9 _ _ ?_)
    replace hS : Sep w0 w_15 [_] Z := hS
    replace h : Fr 26 a [(0, _), (1, _), (4, _), (5, iV (w64 (x_8 + 1)))] := h.keep [0, 1, 4, 5]
    exact ⟨w64 (x_8 + 1), N_7, H, h, (Sep.sel hS [0] (by decide)), le_7⟩
   ·rw [if_neg hc_26] at H
    refine c_cond_t h rfl (bne_iff_ne.2 hc_26) <| wp_seq <| wp_region_lit <| s_assign h rfl rfl fun a h=>wpList_nil <| x_then_n <| wp_ret (x_block_r (x_then_r (x_then_r (x_block_r (x_then_r ?_)))))
    obtain rfl := Option.some.inj H
    exact f_ret h (rs := [.tmp 4]) rfl (.tmp rfl .nil) ⟨_, rfl, N_7, rfl, (Sep.sel hS [0] (by decide))⟩
  ·rw [if_neg hc_12] at H
   refine c_cond_f h rfl (decide_eq_false hc_12) <| wp_exit (x_then_x (x_then_x (x_block_t ?_)))
   replace hS : Sep w0 w_9 [_] Z := hS
   replace h : Fr 26 a [(4, _)] := h.keep [4]
   exact x_then_n (hJ_j_6  H _ _ ⟨N_7, h, (Sep.sel hS [0] (by decide)), le_7⟩)
 ·rw [if_neg hc_2] at H
  refine c_cond_t h rfl (bne_iff_ne.2 hc_2) <| wp_seq <| wp_region_lit <| s_assign h rfl rfl fun a h=>wpList_nil <| x_then_n <| wp_ret (x_then_r ?_)
  obtain rfl := Option.some.inj H
  exact f_ret h (rs := [.tmp 4]) rfl (.tmp rfl .nil) ⟨_, rfl, Mem.no, rfl, (Sep.sel hS [0] (by decide))⟩

set_option maxHeartbeats 4000000 in
set_option maxRecDepth 20000 in
theorem hocketref4_SameEntry.calls (x0 : api_Entry) (p0_0 : Value) (p0_1 : Value) (p0_2 : Value) (x1 : api_Entry) (p1_3 : Value) (p1_4 : Value) (p1_5 : Value) (r : Bool) (w0 w : World) (Z A : Mem) (hA : A.le Z) (hS : Sep w0 w [] Z) (hp0_0 : Rd Kd.u8 A p0_0 x0.Cmd.Key) (hp0_1 : Rd Kd.u8 A p0_1 x0.Cmd.Val) (hp0_2 : Rd Kd.u8 A p0_2 x0.Cmd.Old) (hp1_3 : Rd Kd.u8 A p1_3 x1.Cmd.Key) (hp1_4 : Rd Kd.u8 A p1_4 x1.Cmd.Val) (hp1_5 : Rd Kd.u8 A p1_5 x1.Cmd.Old)
    (H : hocketref4_SameEntry.f x0 x1 = some r) :
    Calls Try.prog 32 [.agg ([iV x0.Sess, iV x0.Seq, iV x0.Cmd.Kind, iV x0.Cmd.Who, p0_0, p0_1, p0_2] : List Value).toArray, .agg ([iV x1.Sess, iV x1.Seq, iV x1.Cmd.Kind, iV x1.Cmd.Who, p1_3, p1_4, p1_5] : List Value).toArray].toArray w (Ret fun v w' => ∃ (N : Mem), v = .bool r ∧ Sep w0 w' [N] Z) := by
 unfold hocketref4_SameEntry.f at H
 refine f_enter _ Try.func32 rfl Try.ntmps32 rfl fun a h=>?_
 replace h : Fr 68 a [(0, .agg ([iV x0.Sess, iV x0.Seq, iV x0.Cmd.Kind, iV x0.Cmd.Who, p0_0, p0_1, p0_2] : List Value).toArray), (1, .agg ([iV x1.Sess, iV x1.Seq, iV x1.Cmd.Kind, iV x1.Cmd.Who, p1_3, p1_4, p1_5] : List Value).toArray)] := h
 replace hS := hS.start
 replace hS : Sep w0 w [_] Z := hS
 refine wp_seq <| wp_region_lit <| v_box (vs := [iV x0.Sess, iV x0.Seq, iV x0.Cmd.Kind, iV x0.Cmd.Who, p0_0, p0_1, p0_2]) h rfl rfl rfl hS fun w_1 g_2 hS' a h => ?_
 replace hS : Sep w0 w_1 [_, Mem.one g_2 (.cells ([iV x0.Sess, iV x0.Seq, iV x0.Cmd.Kind, iV x0.Cmd.Who, p0_0, p0_1, p0_2] : List Value).toArray 30 (0, 0))] Z := hS'
 clear hS'
 refine v_box (vs := [iV x1.Sess, iV x1.Seq, iV x1.Cmd.Kind, iV x1.Cmd.Who, p1_3, p1_4, p1_5]) h rfl rfl rfl hS fun w_3 g_4 hS' a h => ?_
 replace hS : Sep w0 w_3 [_, _, Mem.one g_4 (.cells ([iV x1.Sess, iV x1.Seq, iV x1.Cmd.Kind, iV x1.Cmd.Who, p1_3, p1_4, p1_5] : List Value).toArray 30 (0, 0))] Z := hS'
 clear hS'
 refine s_assign h rfl rfl fun a h=>wpList_nil <| x_then_n <| c_seq fun KJ_5 hKJ_5 => wp_region_lit <| s_fieldAddr h rfl U30 rfl ti3 rfl rfl fun a h=>s_load h rfl rfl (hS.load_one (p := 1) rfl U3 rfl rfl) fun a h=>s_fieldAddr h rfl U30 rfl ti3 rfl rfl fun a h=>s_load h rfl rfl (hS.load_one (p := 2) rfl U3 rfl rfl) fun a h=>s_cmp (b := (x0.Sess == x1.Sess)) h rfl rfl rfl (.inl ⟨rfl, rfl⟩) fun a h=>s_move h rfl rfl fun a h=>?_
 by_cases hc_6 : x0.Sess = x1.Sess
 ·rw [if_pos hc_6] at H
  refine s_on h rfl rfl (beq_iff_eq.2 hc_6) <| s_fieldAddr h rfl U30 rfl ti3 rfl rfl fun a h=>s_on h rfl rfl (beq_iff_eq.2 hc_6) <| s_load h rfl rfl (hS.load_one (p := 1) rfl U3 rfl rfl) fun a h=>s_on h rfl rfl (beq_iff_eq.2 hc_6) <| s_fieldAddr h rfl U30 rfl ti3 rfl rfl fun a h=>s_on h rfl rfl (beq_iff_eq.2 hc_6) <| s_load h rfl rfl (hS.load_one (p := 2) rfl U3 rfl rfl) fun a h=>s_on h rfl rfl (beq_iff_eq.2 hc_6) <| s_cmp (b := (x0.Seq == x1.Seq)) h rfl rfl rfl (.inl ⟨rfl, rfl⟩) fun a h=>s_pick_t h rfl rfl (beq_iff_eq.2 hc_6) rfl fun a h=>s_move h rfl rfl fun a h=>?_
  by_cases hc_7 : x0.Seq = x1.Seq
  ·rw [if_pos hc_7] at H
   refine s_on h rfl rfl (beq_iff_eq.2 hc_7) <| s_fieldAddr h rfl U30 rfl ti28 rfl rfl fun a h=>s_on h rfl rfl (beq_iff_eq.2 hc_7) <| s_fieldAddr h rfl U28 rfl ti3 rfl rfl fun a h=>s_on h rfl rfl (beq_iff_eq.2 hc_7) <| s_load h rfl rfl (hS.load_one (p := 1) rfl U3 rfl rfl) fun a h=>s_on h rfl rfl (beq_iff_eq.2 hc_7) <| s_fieldAddr h rfl U30 rfl ti28 rfl rfl fun a h=>s_on h rfl rfl (beq_iff_eq.2 hc_7) <| s_fieldAddr h rfl U28 rfl ti3 rfl rfl fun a h=>s_on h rfl rfl (beq_iff_eq.2 hc_7) <| s_load h rfl rfl (hS.load_one (p := 2) rfl U3 rfl rfl) fun a h=>?_
   refine s_on h rfl rfl (beq_iff_eq.2 hc_7) <| s_cmp (b := (x0.Cmd.Kind == x1.Cmd.Kind)) h rfl rfl rfl (.inl ⟨rfl, rfl⟩) fun a h=>s_pick_t h rfl rfl (beq_iff_eq.2 hc_7) rfl fun a h=>s_move h rfl rfl fun a h=>?_
   by_cases hc_8 : x0.Cmd.Kind = x1.Cmd.Kind
   ·rw [if_pos hc_8] at H
    refine s_on h rfl rfl (beq_iff_eq.2 hc_8) <| s_fieldAddr h rfl U30 rfl ti28 rfl rfl fun a h=>s_on h rfl rfl (beq_iff_eq.2 hc_8) <| s_fieldAddr h rfl U28 rfl ti3 rfl rfl fun a h=>s_on h rfl rfl (beq_iff_eq.2 hc_8) <| s_load h rfl rfl (hS.load_one (p := 1) rfl U3 rfl rfl) fun a h=>s_on h rfl rfl (beq_iff_eq.2 hc_8) <| s_fieldAddr h rfl U30 rfl ti28 rfl rfl fun a h=>s_on h rfl rfl (beq_iff_eq.2 hc_8) <| s_fieldAddr h rfl U28 rfl ti3 rfl rfl fun a h=>s_on h rfl rfl (beq_iff_eq.2 hc_8) <| s_load h rfl rfl (hS.load_one (p := 2) rfl U3 rfl rfl) fun a h=>?_
    refine s_on h rfl rfl (beq_iff_eq.2 hc_8) <| s_cmp (b := (x0.Cmd.Who == x1.Cmd.Who)) h rfl rfl rfl (.inl ⟨rfl, rfl⟩) fun a h=>s_pick_t h rfl rfl (beq_iff_eq.2 hc_8) rfl fun a h=>s_move h rfl rfl fun a h=>?_
    by_cases hc_9 : x0.Cmd.Who = x1.Cmd.Who
    ·rw [if_pos hc_9] at H
     refine s_on h rfl rfl (beq_iff_eq.2 hc_9) <| s_fieldAddr h rfl U30 rfl ti28 rfl rfl fun a h=>s_on h rfl rfl (beq_iff_eq.2 hc_9) <| s_fieldAddr h rfl U28 rfl ti26 rfl rfl fun a h=>s_on h rfl rfl (beq_iff_eq.2 hc_9) <| s_load h rfl rfl (hS.load_one (p := 1) rfl U26 rfl rfl) fun a h=>s_on h rfl rfl (beq_iff_eq.2 hc_9) <| s_b2s h rfl U26 U5 U9 rfl hp0_0 (hA.trans hS.old) fun a h=>s_on h rfl rfl (beq_iff_eq.2 hc_9) <| s_fieldAddr h rfl U30 rfl ti28 rfl rfl fun a h=>s_on h rfl rfl (beq_iff_eq.2 hc_9) <| s_fieldAddr h rfl U28 rfl ti26 rfl rfl fun a h=>?_
     refine s_on h rfl rfl (beq_iff_eq.2 hc_9) <| s_load h rfl rfl (hS.load_one (p := 2) rfl U26 rfl rfl) fun a h=>s_on h rfl rfl (beq_iff_eq.2 hc_9) <| s_b2s h rfl U26 U5 U9 rfl hp1_3 (hA.trans hS.old) fun a h=>s_on h rfl rfl (beq_iff_eq.2 hc_9) <| s_strEq (b := (x0.Cmd.Key == x1.Cmd.Key)) h rfl rfl rfl (.inl ⟨rfl, rfl⟩) fun a h=>s_pick_t h rfl rfl (beq_iff_eq.2 hc_9) rfl fun a h=>s_move h rfl rfl fun a h=>?_
     by_cases hc_10 : x0.Cmd.Key = x1.Cmd.Key
     ·rw [if_pos hc_10] at H
      refine s_on h rfl rfl (beq_iff_eq.2 hc_10) <| s_fieldAddr h rfl U30 rfl ti28 rfl rfl fun a h=>s_on h rfl rfl (beq_iff_eq.2 hc_10) <| s_fieldAddr h rfl U28 rfl ti26 rfl rfl fun a h=>s_on h rfl rfl (beq_iff_eq.2 hc_10) <| s_load h rfl rfl (hS.load_one (p := 1) rfl U26 rfl rfl) fun a h=>s_on h rfl rfl (beq_iff_eq.2 hc_10) <| s_b2s h rfl U26 U5 U9 rfl hp0_1 (hA.trans hS.old) fun a h=>s_on h rfl rfl (beq_iff_eq.2 hc_10) <| s_fieldAddr h rfl U30 rfl ti28 rfl rfl fun a h=>s_on h rfl rfl (beq_iff_eq.2 hc_10) <| s_fieldAddr h rfl U28 rfl ti26 rfl rfl fun a h=>?_
      refine s_on h rfl rfl (beq_iff_eq.2 hc_10) <| s_load h rfl rfl (hS.load_one (p := 2) rfl U26 rfl rfl) fun a h=>s_on h rfl rfl (beq_iff_eq.2 hc_10) <| s_b2s h rfl U26 U5 U9 rfl hp1_4 (hA.trans hS.old) fun a h=>s_on h rfl rfl (beq_iff_eq.2 hc_10) <| s_strEq (b := (x0.Cmd.Val == x1.Cmd.Val)) h rfl rfl rfl (.inl ⟨rfl, rfl⟩) fun a h=>s_pick_t h rfl rfl (beq_iff_eq.2 hc_10) rfl fun a h=>s_move h rfl rfl fun a h=>?_
      by_cases hc_11 : x0.Cmd.Val = x1.Cmd.Val
      ·rw [if_pos hc_11] at H
       refine s_on h rfl rfl (beq_iff_eq.2 hc_11) <| s_fieldAddr h rfl U30 rfl ti28 rfl rfl fun a h=>s_on h rfl rfl (beq_iff_eq.2 hc_11) <| s_fieldAddr h rfl U28 rfl ti26 rfl rfl fun a h=>s_on h rfl rfl (beq_iff_eq.2 hc_11) <| s_load h rfl rfl (hS.load_one (p := 1) rfl U26 rfl rfl) fun a h=>s_on h rfl rfl (beq_iff_eq.2 hc_11) <| s_b2s h rfl U26 U5 U9 rfl hp0_2 (hA.trans hS.old) fun a h=>s_on h rfl rfl (beq_iff_eq.2 hc_11) <| s_fieldAddr h rfl U30 rfl ti28 rfl rfl fun a h=>s_on h rfl rfl (beq_iff_eq.2 hc_11) <| s_fieldAddr h rfl U28 rfl ti26 rfl rfl fun a h=>?_
       refine s_on h rfl rfl (beq_iff_eq.2 hc_11) <| s_load h rfl rfl (hS.load_one (p := 2) rfl U26 rfl rfl) fun a h=>s_on h rfl rfl (beq_iff_eq.2 hc_11) <| s_b2s h rfl U26 U5 U9 rfl hp1_5 (hA.trans hS.old) fun a h=>s_on h rfl rfl (beq_iff_eq.2 hc_11) <| s_strEq (b := (x0.Cmd.Old == x1.Cmd.Old)) h rfl rfl rfl (.inl ⟨rfl, rfl⟩) fun a h=>s_pick_t h rfl rfl (beq_iff_eq.2 hc_11) rfl fun a h=>s_assign h rfl rfl fun a h=>wpList_nil <| x_then_n (hKJ_5 _ _ ?_)
       refine wp_ret ?_
       obtain rfl := Option.some.inj H
       exact f_ret h (rs := [.tmp 4]) rfl (.tmp rfl .nil) ⟨_, rfl, Mem.no, rfl, (Sep.sel hS [0] (by decide))⟩
      ·rw [if_neg hc_11] at H
       refine s_off h rfl rfl rfl (beq_eq_false_iff_ne.2 hc_11) fun a h=>s_off h rfl rfl rfl (beq_eq_false_iff_ne.2 hc_11) fun a h=>s_off h rfl rfl rfl (beq_eq_false_iff_ne.2 hc_11) fun a h=>s_off h rfl rfl rfl (beq_eq_false_iff_ne.2 hc_11) fun a h=>s_off h rfl rfl rfl (beq_eq_false_iff_ne.2 hc_11) fun a h=>s_off h rfl rfl rfl (beq_eq_false_iff_ne.2 hc_11) fun a h=>s_off h rfl rfl rfl (beq_eq_false_iff_ne.2 hc_11) fun a h=>s_off h rfl rfl rfl (beq_eq_false_iff_ne.2 hc_11) fun a h=>s_off h rfl rfl rfl (beq_eq_false_iff_ne.2 hc_11) fun a h=>s_pick_f h rfl rfl (beq_eq_false_iff_ne.2 hc_11) rfl fun a h=>s_assign h rfl rfl fun a h=>wpList_nil <| x_then_n (hKJ_5 _ _ ?_)
       refine wp_ret ?_
       obtain rfl := Option.some.inj H
       exact f_ret h (rs := [.tmp 4]) rfl (.tmp rfl .nil) ⟨_, rfl, Mem.no, rfl, (Sep.sel hS [0] (by decide))⟩
     ·rw [if_neg hc_10] at H
      refine s_off h rfl rfl rfl (beq_eq_false_iff_ne.2 hc_10) fun a h=>s_off h rfl rfl rfl (beq_eq_false_iff_ne.2 hc_10) fun a h=>s_off h rfl rfl rfl (beq_eq_false_iff_ne.2 hc_10) fun a h=>s_off h rfl rfl rfl (beq_eq_false_iff_ne.2 hc_10) fun a h=>s_off h rfl rfl rfl (beq_eq_false_iff_ne.2 hc_10) fun a h=>s_off h rfl rfl rfl (beq_eq_false_iff_ne.2 hc_10) fun a h=>s_off h rfl rfl rfl (beq_eq_false_iff_ne.2 hc_10) fun a h=>s_off h rfl rfl rfl (beq_eq_false_iff_ne.2 hc_10) fun a h=>s_off h rfl rfl rfl (beq_eq_false_iff_ne.2 hc_10) fun a h=>s_pick_f h rfl rfl (beq_eq_false_iff_ne.2 hc_10) rfl fun a h=>s_move h rfl rfl fun a h=>s_off h rfl rfl rfl rfl fun a h=>?_
      refine s_off h rfl rfl rfl rfl fun a h=>s_off h rfl rfl rfl rfl fun a h=>s_off h rfl rfl rfl rfl fun a h=>s_off h rfl rfl rfl rfl fun a h=>s_off h rfl rfl rfl rfl fun a h=>s_off h rfl rfl rfl rfl fun a h=>s_off h rfl rfl rfl rfl fun a h=>s_off h rfl rfl rfl rfl fun a h=>s_pick_f h rfl rfl rfl rfl fun a h=>s_assign h rfl rfl fun a h=>wpList_nil <| x_then_n (hKJ_5 _ _ ?_)
      refine wp_ret ?_
      obtain rfl := Option.some.inj H
      exact f_ret h (rs := [.tmp 4]) rfl (.tmp rfl .nil) ⟨_, rfl, Mem.no, rfl, (Sep.sel hS [0] (by decide))⟩
    ·rw [if_neg hc_9] at H
     refine s_off h rfl rfl rfl (beq_eq_false_iff_ne.2 hc_9) fun a h=>s_off h rfl rfl rfl (beq_eq_false_iff_ne.2 hc_9) fun a h=>s_off h rfl rfl rfl (beq_eq_false_iff_ne.2 hc_9) fun a h=>s_off h rfl rfl rfl (beq_eq_false_iff_ne.2 hc_9) fun a h=>s_off h rfl rfl rfl (beq_eq_false_iff_ne.2 hc_9) fun a h=>s_off h rfl rfl rfl (beq_eq_false_iff_ne.2 hc_9) fun a h=>s_off h rfl rfl rfl (beq_eq_false_iff_ne.2 hc_9) fun a h=>s_off h rfl rfl rfl (beq_eq_false_iff_ne.2 hc_9) fun a h=>s_off h rfl rfl rfl (beq_eq_false_iff_ne.2 hc_9) fun a h=>s_pick_f h rfl rfl (beq_eq_false_iff_ne.2 hc_9) rfl fun a h=>s_move h rfl rfl fun a h=>s_off h rfl rfl rfl rfl fun a h=>?_
     refine s_off h rfl rfl rfl rfl fun a h=>s_off h rfl rfl rfl rfl fun a h=>s_off h rfl rfl rfl rfl fun a h=>s_off h rfl rfl rfl rfl fun a h=>s_off h rfl rfl rfl rfl fun a h=>s_off h rfl rfl rfl rfl fun a h=>s_off h rfl rfl rfl rfl fun a h=>s_off h rfl rfl rfl rfl fun a h=>s_pick_f h rfl rfl rfl rfl fun a h=>s_move h rfl rfl fun a h=>s_off h rfl rfl rfl rfl fun a h=>s_off h rfl rfl rfl rfl fun a h=>?_
     refine s_off h rfl rfl rfl rfl fun a h=>s_off h rfl rfl rfl rfl fun a h=>s_off h rfl rfl rfl rfl fun a h=>s_off h rfl rfl rfl rfl fun a h=>s_off h rfl rfl rfl rfl fun a h=>s_off h rfl rfl rfl rfl fun a h=>s_off h rfl rfl rfl rfl fun a h=>s_pick_f h rfl rfl rfl rfl fun a h=>s_assign h rfl rfl fun a h=>wpList_nil <| x_then_n (hKJ_5 _ _ ?_)
     refine wp_ret ?_
     obtain rfl := Option.some.inj H
     exact f_ret h (rs := [.tmp 4]) rfl (.tmp rfl .nil) ⟨_, rfl, Mem.no, rfl, (Sep.sel hS [0] (by decide))⟩
   ·rw [if_neg hc_8] at H
    refine s_off h rfl rfl rfl (beq_eq_false_iff_ne.2 hc_8) fun a h=>s_off h rfl rfl rfl (beq_eq_false_iff_ne.2 hc_8) fun a h=>s_off h rfl rfl rfl (beq_eq_false_iff_ne.2 hc_8) fun a h=>s_off h rfl rfl rfl (beq_eq_false_iff_ne.2 hc_8) fun a h=>s_off h rfl rfl rfl (beq_eq_false_iff_ne.2 hc_8) fun a h=>s_off h rfl rfl rfl (beq_eq_false_iff_ne.2 hc_8) fun a h=>s_off h rfl rfl rfl (beq_eq_false_iff_ne.2 hc_8) fun a h=>s_pick_f h rfl rfl (beq_eq_false_iff_ne.2 hc_8) rfl fun a h=>s_move h rfl rfl fun a h=>s_off h rfl rfl rfl rfl fun a h=>s_off h rfl rfl rfl rfl fun a h=>s_off h rfl rfl rfl rfl fun a h=>?_
    refine s_off h rfl rfl rfl rfl fun a h=>s_off h rfl rfl rfl rfl fun a h=>s_off h rfl rfl rfl rfl fun a h=>s_off h rfl rfl rfl rfl fun a h=>s_off h rfl rfl rfl rfl fun a h=>s_off h rfl rfl rfl rfl fun a h=>s_pick_f h rfl rfl rfl rfl fun a h=>s_move h rfl rfl fun a h=>s_off h rfl rfl rfl rfl fun a h=>s_off h rfl rfl rfl rfl fun a h=>s_off h rfl rfl rfl rfl fun a h=>s_off h rfl rfl rfl rfl fun a h=>?_
    refine s_off h rfl rfl rfl rfl fun a h=>s_off h rfl rfl rfl rfl fun a h=>s_off h rfl rfl rfl rfl fun a h=>s_off h rfl rfl rfl rfl fun a h=>s_off h rfl rfl rfl rfl fun a h=>s_pick_f h rfl rfl rfl rfl fun a h=>s_move h rfl rfl fun a h=>s_off h rfl rfl rfl rfl fun a h=>s_off h rfl rfl rfl rfl fun a h=>s_off h rfl rfl rfl rfl fun a h=>s_off h rfl rfl rfl rfl fun a h=>s_off h rfl rfl rfl rfl fun a h=>?_
    refine s_off h rfl rfl rfl rfl fun a h=>s_off h rfl rfl rfl rfl fun a h=>s_off h rfl rfl rfl rfl fun a h=>s_off h rfl rfl rfl rfl fun a h=>s_pick_f h rfl rfl rfl rfl fun a h=>s_assign h rfl rfl fun a h=>wpList_nil <| x_then_n (hKJ_5 _ _ ?_)
    refine wp_ret ?_
    obtain rfl := Option.some.inj H
    exact f_ret h (rs := [.tmp 4]) rfl (.tmp rfl .nil) ⟨_, rfl, Mem.no, rfl, (Sep.sel hS [0] (by decide))⟩
  ·rw [if_neg hc_7] at H
   refine s_off h rfl rfl rfl (beq_eq_false_iff_ne.2 hc_7) fun a h=>s_off h rfl rfl rfl (beq_eq_false_iff_ne.2 hc_7) fun a h=>s_off h rfl rfl rfl (beq_eq_false_iff_ne.2 hc_7) fun a h=>s_off h rfl rfl rfl (beq_eq_false_iff_ne.2 hc_7) fun a h=>s_off h rfl rfl rfl (beq_eq_false_iff_ne.2 hc_7) fun a h=>s_off h rfl rfl rfl (beq_eq_false_iff_ne.2 hc_7) fun a h=>s_off h rfl rfl rfl (beq_eq_false_iff_ne.2 hc_7) fun a h=>s_pick_f h rfl rfl (beq_eq_false_iff_ne.2 hc_7) rfl fun a h=>s_move h rfl rfl fun a h=>s_off h rfl rfl rfl rfl fun a h=>s_off h rfl rfl rfl rfl fun a h=>s_off h rfl rfl rfl rfl fun a h=>?_
   refine s_off h rfl rfl rfl rfl fun a h=>s_off h rfl rfl rfl rfl fun a h=>s_off h rfl rfl rfl rfl fun a h=>s_off h rfl rfl rfl rfl fun a h=>s_pick_f h rfl rfl rfl rfl fun a h=>s_move h rfl rfl fun a h=>s_off h rfl rfl rfl rfl fun a h=>s_off h rfl rfl rfl rfl fun a h=>s_off h rfl rfl rfl rfl fun a h=>s_off h rfl rfl rfl rfl fun a h=>s_off h rfl rfl rfl rfl fun a h=>s_off h rfl rfl rfl rfl fun a h=>?_
   refine s_off h rfl rfl rfl rfl fun a h=>s_off h rfl rfl rfl rfl fun a h=>s_off h rfl rfl rfl rfl fun a h=>s_pick_f h rfl rfl rfl rfl fun a h=>s_move h rfl rfl fun a h=>s_off h rfl rfl rfl rfl fun a h=>s_off h rfl rfl rfl rfl fun a h=>s_off h rfl rfl rfl rfl fun a h=>s_off h rfl rfl rfl rfl fun a h=>s_off h rfl rfl rfl rfl fun a h=>s_off h rfl rfl rfl rfl fun a h=>s_off h rfl rfl rfl rfl fun a h=>?_
   refine s_off h rfl rfl rfl rfl fun a h=>s_off h rfl rfl rfl rfl fun a h=>s_pick_f h rfl rfl rfl rfl fun a h=>s_move h rfl rfl fun a h=>s_off h rfl rfl rfl rfl fun a h=>s_off h rfl rfl rfl rfl fun a h=>s_off h rfl rfl rfl rfl fun a h=>s_off h rfl rfl rfl rfl fun a h=>s_off h rfl rfl rfl rfl fun a h=>s_off h rfl rfl rfl rfl fun a h=>s_off h rfl rfl rfl rfl fun a h=>s_off h rfl rfl rfl rfl fun a h=>?_
   refine s_off h rfl rfl rfl rfl fun a h=>s_pick_f h rfl rfl rfl rfl fun a h=>s_assign h rfl rfl fun a h=>wpList_nil <| x_then_n (hKJ_5 _ _ ?_)
   refine wp_ret ?_
   obtain rfl := Option.some.inj H
   exact f_ret h (rs := [.tmp 4]) rfl (.tmp rfl .nil) ⟨_, rfl, Mem.no, rfl, (Sep.sel hS [0] (by decide))⟩
 ·rw [if_neg hc_6] at H
  refine s_off h rfl rfl rfl (beq_eq_false_iff_ne.2 hc_6) fun a h=>s_off h rfl rfl rfl (beq_eq_false_iff_ne.2 hc_6) fun a h=>s_off h rfl rfl rfl (beq_eq_false_iff_ne.2 hc_6) fun a h=>s_off h rfl rfl rfl (beq_eq_false_iff_ne.2 hc_6) fun a h=>s_off h rfl rfl rfl (beq_eq_false_iff_ne.2 hc_6) fun a h=>s_pick_f h rfl rfl (beq_eq_false_iff_ne.2 hc_6) rfl fun a h=>s_move h rfl rfl fun a h=>s_off h rfl rfl rfl rfl fun a h=>s_off h rfl rfl rfl rfl fun a h=>s_off h rfl rfl rfl rfl fun a h=>s_off h rfl rfl rfl rfl fun a h=>s_off h rfl rfl rfl rfl fun a h=>?_
  refine s_off h rfl rfl rfl rfl fun a h=>s_off h rfl rfl rfl rfl fun a h=>s_pick_f h rfl rfl rfl rfl fun a h=>s_move h rfl rfl fun a h=>s_off h rfl rfl rfl rfl fun a h=>s_off h rfl rfl rfl rfl fun a h=>s_off h rfl rfl rfl rfl fun a h=>s_off h rfl rfl rfl rfl fun a h=>s_off h rfl rfl rfl rfl fun a h=>s_off h rfl rfl rfl rfl fun a h=>s_off h rfl rfl rfl rfl fun a h=>s_pick_f h rfl rfl rfl rfl fun a h=>?_
  refine s_move h rfl rfl fun a h=>s_off h rfl rfl rfl rfl fun a h=>s_off h rfl rfl rfl rfl fun a h=>s_off h rfl rfl rfl rfl fun a h=>s_off h rfl rfl rfl rfl fun a h=>s_off h rfl rfl rfl rfl fun a h=>s_off h rfl rfl rfl rfl fun a h=>s_off h rfl rfl rfl rfl fun a h=>s_off h rfl rfl rfl rfl fun a h=>s_off h rfl rfl rfl rfl fun a h=>s_pick_f h rfl rfl rfl rfl fun a h=>s_move h rfl rfl fun a h=>?_
  refine s_off h rfl rfl rfl rfl fun a h=>s_off h rfl rfl rfl rfl fun a h=>s_off h rfl rfl rfl rfl fun a h=>s_off h rfl rfl rfl rfl fun a h=>s_off h rfl rfl rfl rfl fun a h=>s_off h rfl rfl rfl rfl fun a h=>s_off h rfl rfl rfl rfl fun a h=>s_off h rfl rfl rfl rfl fun a h=>s_off h rfl rfl rfl rfl fun a h=>s_pick_f h rfl rfl rfl rfl fun a h=>s_move h rfl rfl fun a h=>s_off h rfl rfl rfl rfl fun a h=>?_
  refine s_off h rfl rfl rfl rfl fun a h=>s_off h rfl rfl rfl rfl fun a h=>s_off h rfl rfl rfl rfl fun a h=>s_off h rfl rfl rfl rfl fun a h=>s_off h rfl rfl rfl rfl fun a h=>s_off h rfl rfl rfl rfl fun a h=>s_off h rfl rfl rfl rfl fun a h=>s_off h rfl rfl rfl rfl fun a h=>s_pick_f h rfl rfl rfl rfl fun a h=>s_assign h rfl rfl fun a h=>wpList_nil <| x_then_n (hKJ_5 _ _ ?_)
  refine wp_ret ?_
  obtain rfl := Option.some.inj H
  exact f_ret h (rs := [.tmp 4]) rfl (.tmp rfl .nil) ⟨_, rfl, Mem.no, rfl, (Sep.sel hS [0] (by decide))⟩


end Go.Proofs
