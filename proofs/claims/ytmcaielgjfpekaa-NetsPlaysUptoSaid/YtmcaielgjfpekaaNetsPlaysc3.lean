/- What the calls do: each function once. -/
import Derived.Test.YtmcaielgjfpekaaNetsPlaysc2
namespace Go.Proofs
open Go.Gp
set_option linter.unusedVariables false
set_option maxHeartbeats 4000000 in
set_option maxRecDepth 20000 in
theorem hocketref11_Encode.calls (K : Nat) (x0 : api_Msg) (p0_0 : Value) (p0_1 : Value) (p0_2 : Value) (p0_3 : Value) (p0_4 : Value) (p0_5 : Value) (r : (List UInt8)) (w0 w : World) (Z A : Mem) (hA : A.le Z) (hS : Sep w0 w [] Z) (hp0_0 : Rd Kd.u8 A p0_0 x0.Data) (hp0_1 : Rd (Kd.int .i64) A p0_1 x0.Have) (hp0_2 : Rd (Kd.int .i64) A p0_2 x0.Need) (hp0_3 : Rd Kd.u8 A p0_3 x0.Entry.Cmd.Key) (hp0_4 : Rd Kd.u8 A p0_4 x0.Entry.Cmd.Val) (hp0_5 : Rd Kd.u8 A p0_5 x0.Entry.Cmd.Old)
    (H : hocketref11_Encode.f K x0 = some r) :
    Calls Try.prog 37 [.agg (E32 x0 p0_0 p0_1 p0_2 p0_3 p0_4 p0_5).toArray].toArray w (Ret fun v w' => ∃ (u0 : Value) (N : Mem), v = u0 ∧ Sep w0 w' [N] Z ∧ Rd Kd.u8 (A.un N) u0 r) := by
 unfold hocketref11_Encode.f at H
 refine f_enter _ Try.func37 rfl Try.ntmps37 rfl fun a h=>?_
 replace h : Fr 97 a [(0, .agg (E32 x0 p0_0 p0_1 p0_2 p0_3 p0_4 p0_5).toArray)] := h
 replace hS := hS.start
 refine qr <| v_box (vs := (E32 x0 p0_0 p0_1 p0_2 p0_3 p0_4 p0_5)) h rfl rfl rfl hS fun w_1 g_1 hS' a h => ?_
 replace hS : Sep w0 w_1 [_, bx g_1 32 (E32 x0 p0_0 p0_1 p0_2 p0_3 p0_4 p0_5)] Z := hS'
 refine sg h rfl fun a h=>nx <| c_seq fun KJ_1 hKJ_1 => qr <| s_load h rfl rfl (hS.load_agg (p := 1) (us := (E32 x0 p0_0 p0_1 p0_2 p0_3 p0_4 p0_5)) rfl U32 rfl ti32 rfl rfl) fun a h=>?_
 obtain ⟨t_1, et_1, H⟩ := bs H
 refine s_call h rfl Try.call21 rfl (hocketref11_Ok.calls K x0 _ _ _ _ _ _ t_1 w0 _ _ _ mr (hS.enter [] (by decide)) (hp0_0.mono (hA.trans (hS.le_zed []))) (hp0_1.mono (hA.trans (hS.le_zed []))) (hp0_2.mono (hA.trans (hS.le_zed []))) (hp0_3.mono (hA.trans (hS.le_zed []))) (hp0_4.mono (hA.trans (hS.le_zed []))) (hp0_5.mono (hA.trans (hS.le_zed []))) et_1) ?_
 rintro _ w_2 ⟨N_1, rfl, hS'⟩
 intro a h
 obtain ⟨N_2, hS'', le_1, ln_1⟩ := hS.call [] (by decide) rfl (l' := []) (ow := []) rfl hS'
 replace hS : Sep w0 w_2 [N_2, _] Z := hS''
 refine s_not h rfl rfl fun a h=>wpList_nil <| x_then_n ?_
 obtain ⟨hc_1, H⟩ | ⟨hc_1, H⟩ := ii H
 ·refine c_cond_f h rfl (nf hc_1) <| wp_skip <| x_then_n (hKJ_1 _ _ ?_)
  refine qr <| s_fieldAddr h rfl U32 rfl ti3 rfl rfl fun a h=>s_load h rfl rfl (hS.load_one (p := 1) rfl U3 rfl rfl) fun a h=>s_fieldAddr h rfl U32 rfl ti3 rfl rfl fun a h=>s_load h rfl rfl (hS.load_one (p := 1) rfl U3 rfl rfl) fun a h=>s_fieldAddr h rfl U32 rfl ti3 rfl rfl fun a h=>s_load h rfl rfl (hS.load_one (p := 1) rfl U3 rfl rfl) fun a h=>s_fieldAddr h rfl U32 rfl ti3 rfl rfl fun a h=>s_load h rfl rfl (hS.load_one (p := 1) rfl U3 rfl rfl) fun a h=>?_
  have hq_1 : Reps (Kd.int .i64) Mem.no ([x0.Kind, x0.From, x0.To, x0.View] : List Int) _ := ((Reps.one (d := (Kd.int .i64)) (x := x0.Kind) (show (Kd.int .i64).K _ _ [iV x0.Kind] from rfl)).append ((Reps.one (d := (Kd.int .i64)) (x := x0.From) (show (Kd.int .i64).K _ _ [iV x0.From] from rfl)).append ((Reps.one (d := (Kd.int .i64)) (x := x0.To) (show (Kd.int .i64).K _ _ [iV x0.To] from rfl)).append ((Reps.one (d := (Kd.int .i64)) (x := x0.View) (show (Kd.int .i64).K _ _ [iV x0.View] from rfl)).append (Reps.nil (Kd.int .i64) _)))))
  refine s_buildSlice h rfl U22 ti3 rfl rfl rfl (.cons rfl (.cons rfl (.cons rfl (.cons rfl .nil)))) rfl rfl rfl hS hq_1 rfl fun w_3 v_1 M_1 hS' ho_1 a h => ?_
  replace hS : Sep w0 w_3 [_, _, M_1] Z := hS'
  obtain ⟨N_3, hS', le_2, lo_1⟩ := hS.freeze 1 rfl
  replace hS : Sep w0 w_3 [N_3, _, Mem.no] Z := hS'
  obtain ⟨t_2, et_2, H⟩ := bs H
  refine s_call h rfl Try.call47 rfl (hocketref11_nums.calls K ([] : List UInt8) _ ([x0.Kind, x0.From, x0.To, x0.View] : List Int) _ t_2 w0 _ _ N_3 (hS.new_zed []) (hS.enter [] (by decide)) (Rd.nil _ _) (ho_1.rd lo_1 (Mem.no_le _)) et_2) ?_
  rintro v_2 w_4 ⟨_, N_4, rfl, hS', hr_1⟩
  intro a h
  obtain ⟨N_5, hS'', le_3, ln_2⟩ := hS.call [] (by decide) rfl (l' := []) (ow := []) rfl hS'
  replace hS : Sep w0 w_4 [N_5, _, _] Z := hS''
  refine sg h rfl fun a h=>nx <| c_seq fun KJ_2 hKJ_2 => qr <| s_fieldAddr h rfl U32 rfl ti3 rfl rfl fun a h=>s_load h rfl rfl (hS.load_one (p := 1) rfl U3 rfl rfl) fun a h=>wpList_nil ?_
  replace h : Fr 97 a [(1, .pointer (some ⟨g_1, 0, none⟩)), (2, nS), (3, v_2), (19, iV x0.Kind)] := h.keep [1, 2, 3, 19]
  refine x_then_n <| c_block <| qr <| s_cmp (b := (x0.Kind == 2)) h rfl rfl rfl (.inl ⟨rfl, rfl⟩) fun a h=>sg h rfl fun a h=>wpList_nil <| x_then_n ?_
  obtain ⟨hc_2, H⟩ | ⟨hc_2, H⟩ := ii H
  ·refine c_cond_t h rfl (bt hc_2) <| qr <| sg h rfl fun a h=>nx <| c_seq fun KJ_3 hKJ_3 => qr <| s_fieldAddr h rfl U32 rfl ti4 rfl rfl fun a h=>s_load h rfl rfl (hS.load_one (p := 1) rfl U4 rfl rfl) fun a h=>wpList_nil <| x_then_n ?_
   have hJ_j_1 : ∀ (x_1 : Int), hocketref11_Encode.J1 K t_2 x0 x_1 = some r → ∀ (a : Act) (w_5 : World), (∃ (N_6 : Mem), Fr 97 a [(1, .pointer (some ⟨g_1, 0, none⟩)), (2, nS), (3, v_2), (4, iV x_1)] ∧ Sep w0 w_5 [N_6, bx g_1 32 (E32 x0 p0_0 p0_1 p0_2 p0_3 p0_4 p0_5), Mem.no] Z ∧ N_5.le N_6) → KJ_3 a w_5 := by
    clear H h hS a
    rintro x_1 H a w_5 ⟨N_6, h, hS, le_4⟩
    unfold hocketref11_Encode.J1 at H
    refine hKJ_3 _ _ <| qr <| mv h rfl fun a h=>s_fieldAddr h rfl U32 rfl ti3 rfl rfl fun a h=>s_load h rfl rfl (hS.load_one (p := 1) rfl U3 rfl rfl) fun a h=>s_fieldAddr h rfl U32 rfl ti3 rfl rfl fun a h=>s_load h rfl rfl (hS.load_one (p := 1) rfl U3 rfl rfl) fun a h=>mv h rfl fun a h=>?_
    have hq_2 : Reps (Kd.int .i64) Mem.no ([x0.Inst, x0.Len, x_1] : List Int) _ := ((Reps.one (d := (Kd.int .i64)) (x := x0.Inst) (show (Kd.int .i64).K _ _ [iV x0.Inst] from rfl)).append ((Reps.one (d := (Kd.int .i64)) (x := x0.Len) (show (Kd.int .i64).K _ _ [iV x0.Len] from rfl)).append ((Reps.one (d := (Kd.int .i64)) (x := x_1) (show (Kd.int .i64).K _ _ [iV x_1] from rfl)).append (Reps.nil (Kd.int .i64) _))))
    refine s_buildSlice h rfl U22 ti3 rfl rfl rfl (.cons rfl (.cons rfl (.cons rfl .nil))) rfl rfl rfl hS hq_2 rfl fun w_6 v_3 M_2 hS' ho_2 a h => ?_
    replace hS : Sep w0 w_6 [_, _, _, M_2] Z := hS'
    obtain ⟨N_7, hS', le_5, lo_2⟩ := hS.freeze 2 rfl
    replace hS : Sep w0 w_6 [N_7, _, _, Mem.no] Z := hS'
    obtain ⟨t_3, et_3, H⟩ := bs H
    refine s_call h rfl Try.call47 rfl (hocketref11_nums.calls K t_2 _ ([x0.Inst, x0.Len, x_1] : List Int) _ t_3 w0 _ _ N_7 (hS.new_zed []) (hS.enter [] (by decide)) ((hr_1.mono (Mem.un_le le_3 ln_2)).mono (le_4.trans le_5)) (ho_2.rd lo_2 (Mem.no_le _)) et_3) ?_
    rintro v_4 w_7 ⟨_, N_8, rfl, hS', hr_2⟩
    intro a h
    obtain ⟨N_9, hS'', le_6, ln_3⟩ := hS.call [] (by decide) rfl (l' := []) (ow := []) rfl hS'
    replace hS : Sep w0 w_7 [N_9, _, _, _] Z := hS''
    refine sg h rfl fun a h=>wpList_nil ?_
    replace h : Fr 97 a [(2, v_4), (3, _)] := h.keep [2, 3]
    refine x_then_n <| wp_ret (x_block_r (x_then_r ?_))
    obtain rfl := Option.some.inj H
    exact r1 h 2 rfl rfl ⟨_, rfl, v_4, N_9, rfl, (hS.sel [0] (by decide)), ((hr_2.mono (Mem.un_le le_6 ln_3)).mono (mr.trans (hS.sndA hA)))⟩
   clear hKJ_3
   obtain ⟨hc_3, H⟩ | ⟨hc_3, H⟩ := ii H
   ·refine c_cond_t h rfl hc_3 <| wp_region_lit <| sg h rfl fun a h=>wpList_nil ?_
    replace h : Fr 97 a [(1, _), (2, _), (3, _), (4, iV 1)] := h.keep [1, 2, 3, 4]
    exact x_then_n (hJ_j_1 1 H _ _ ⟨N_5, (h.keep [1, 2, 3, 4]), (hS.sel [0, 1, 1001] (by decide)), mr⟩)
   ·refine c_cond_f h rfl (ef hc_3) <| wp_skip ?_
    exact x_then_n (hJ_j_1 0 H _ _ ⟨N_5, (h.keep [1, 2, 3, 4]), (hS.sel [0, 1, 1001] (by decide)), mr⟩)
  ·refine c_cond_f h rfl (bf hc_2) <| qr <| s_cmp (b := (x0.Kind == 3)) h rfl rfl rfl (.inl ⟨rfl, rfl⟩) fun a h=>sg h rfl fun a h=>wpList_nil <| x_then_n ?_
   obtain ⟨hc_4, H⟩ | ⟨hc_4, H⟩ := ii H
   ·refine c_cond_t h rfl (bt hc_4) <| qr <| mv h rfl fun a h=>s_fieldAddr h rfl U32 rfl ti3 rfl rfl fun a h=>s_load h rfl rfl (hS.load_one (p := 1) rfl U3 rfl rfl) fun a h=>s_fieldAddr h rfl U32 rfl ti3 rfl rfl fun a h=>s_load h rfl rfl (hS.load_one (p := 1) rfl U3 rfl rfl) fun a h=>s_fieldAddr h rfl U32 rfl ti3 rfl rfl fun a h=>s_load h rfl rfl (hS.load_one (p := 1) rfl U3 rfl rfl) fun a h=>?_
    have hq_3 : Reps (Kd.int .i64) Mem.no ([x0.Members, x0.Source, x0.Len] : List Int) _ := ((Reps.one (d := (Kd.int .i64)) (x := x0.Members) (show (Kd.int .i64).K _ _ [iV x0.Members] from rfl)).append ((Reps.one (d := (Kd.int .i64)) (x := x0.Source) (show (Kd.int .i64).K _ _ [iV x0.Source] from rfl)).append ((Reps.one (d := (Kd.int .i64)) (x := x0.Len) (show (Kd.int .i64).K _ _ [iV x0.Len] from rfl)).append (Reps.nil (Kd.int .i64) _))))
    refine s_buildSlice h rfl U22 ti3 rfl rfl rfl (.cons rfl (.cons rfl (.cons rfl .nil))) rfl rfl rfl hS hq_3 rfl fun w_8 v_5 M_3 hS' ho_3 a h => ?_
    replace hS : Sep w0 w_8 [_, _, _, M_3] Z := hS'
    obtain ⟨N_10, hS', le_7, lo_3⟩ := hS.freeze 2 rfl
    replace hS : Sep w0 w_8 [N_10, _, _, Mem.no] Z := hS'
    obtain ⟨t_4, et_4, H⟩ := bs H
    refine s_call h rfl Try.call47 rfl (hocketref11_nums.calls K t_2 _ ([x0.Members, x0.Source, x0.Len] : List Int) _ t_4 w0 _ _ N_10 (hS.new_zed []) (hS.enter [] (by decide)) ((hr_1.mono (Mem.un_le le_3 ln_2)).mono le_7) (ho_3.rd lo_3 (Mem.no_le _)) et_4) ?_
    rintro v_6 w_9 ⟨_, N_11, rfl, hS', hr_3⟩
    intro a h
    obtain ⟨N_12, hS'', le_8, ln_4⟩ := hS.call [] (by decide) rfl (l' := []) (ow := []) rfl hS'
    replace hS : Sep w0 w_9 [N_12, _, _, _] Z := hS''
    refine sg h rfl fun a h=>nx <| wp_ret (x_block_r (x_then_r ?_))
    obtain rfl := Option.some.inj H
    exact r1 h 2 rfl rfl ⟨_, rfl, v_6, N_12, rfl, (hS.sel [0] (by decide)), ((hr_3.mono (Mem.un_le le_8 ln_4)).mono (mr.trans (hS.sndA hA)))⟩
   ·refine c_cond_f h rfl (bf hc_4) <| qr <| s_cmp (b := (x0.Kind == 4)) h rfl rfl rfl (.inl ⟨rfl, rfl⟩) fun a h=>sg h rfl fun a h=>wpList_nil <| x_then_n ?_
    obtain ⟨hc_5, H⟩ | ⟨hc_5, H⟩ := ii H
    ·refine c_cond_t h rfl (bt hc_5) <| qr <| mv h rfl fun a h=>s_fieldAddr h rfl U32 rfl ti3 rfl rfl fun a h=>s_load h rfl rfl (hS.load_one (p := 1) rfl U3 rfl rfl) fun a h=>?_
     have hq_4 : Reps (Kd.int .i64) Mem.no ([x0.At] : List Int) _ := ((Reps.one (d := (Kd.int .i64)) (x := x0.At) (show (Kd.int .i64).K _ _ [iV x0.At] from rfl)).append (Reps.nil (Kd.int .i64) _))
     refine s_buildSlice h rfl U22 ti3 rfl rfl rfl (.cons rfl .nil) rfl rfl rfl hS hq_4 rfl fun w_10 v_7 M_4 hS' ho_4 a h => ?_
     replace hS : Sep w0 w_10 [_, _, _, M_4] Z := hS'
     obtain ⟨N_13, hS', le_9, lo_4⟩ := hS.freeze 2 rfl
     replace hS : Sep w0 w_10 [N_13, _, _, Mem.no] Z := hS'
     obtain ⟨t_5, et_5, H⟩ := bs H
     refine s_call h rfl Try.call47 rfl (hocketref11_nums.calls K t_2 _ ([x0.At] : List Int) _ t_5 w0 _ _ N_13 (hS.new_zed []) (hS.enter [] (by decide)) ((hr_1.mono (Mem.un_le le_3 ln_2)).mono le_9) (ho_4.rd lo_4 (Mem.no_le _)) et_5) ?_
     rintro v_8 w_11 ⟨_, N_14, rfl, hS', hr_4⟩
     intro a h
     obtain ⟨N_15, hS'', le_10, ln_5⟩ := hS.call [] (by decide) rfl (l' := []) (ow := []) rfl hS'
     replace hS : Sep w0 w_11 [N_15, _, _, _] Z := hS''
     refine sg h rfl fun a h=>wpList_nil ?_
     replace h : Fr 97 a [(2, v_8), (3, _)] := h.keep [2, 3]
     refine x_then_n <| wp_ret (x_block_r (x_then_r ?_))
     obtain rfl := Option.some.inj H
     exact r1 h 2 rfl rfl ⟨_, rfl, v_8, N_15, rfl, (hS.sel [0] (by decide)), ((hr_4.mono (Mem.un_le le_10 ln_5)).mono (mr.trans (hS.sndA hA)))⟩
    ·refine c_cond_f h rfl (bf hc_5) <| qr <| s_cmp (b := (x0.Kind == 5)) h rfl rfl rfl (.inl ⟨rfl, rfl⟩) fun a h=>sg h rfl fun a h=>wpList_nil ?_
     replace h : Fr 97 a [(1, _), (2, _), (3, _), (19, _), (50, .bool (x0.Kind == 5))] := h.keep [1, 2, 3, 19, 50]
     refine x_then_n ?_
     obtain ⟨hc_6, H⟩ | ⟨hc_6, H⟩ := ii H
     ·refine c_cond_t h rfl (bt hc_6) <| c_seq fun KJ_4 hKJ_4 => h_begin (S := fun w => Sep w0 w [N_5, bx g_1 32 (E32 x0 p0_0 p0_1 p0_2 p0_3 p0_4 p0_5), Mem.no] Z) 11 (by kernel_rfl) rfl (bA 11 0) (by kernel_rfl) hS fun w_12 hS => ?_
      refine t_take 0 (bA 11 1) rfl rfl rfl rfl h (hS.sub (.cons mr (.rr (.zz .ii)))) (v := v_2) (fun w hS => r_move h rfl) fun a h=>t_take 1 (bA 11 3) rfl rfl rfl rfl h (hS.sub (.cons mr (.rr (.zz .ii)))) (v := .pointer (some ⟨g_1, 9, none⟩)) (fun w hS => r_fieldAddr h U32 rfl ti3 rfl rfl rfl) fun a h=>t_take 2 (bA 11 7) rfl rfl rfl rfl h (hS.sub (.cons mr (.rr (.zz .ii)))) (v := iV x0.At) (fun w hS => r_load h rfl (hS.load_one (p := 1) rfl U3 rfl rfl)) fun a h=>t_take 3 (bA 11 15) rfl rfl rfl rfl h (hS.sub (.cons mr (.rr (.zz .ii)))) (v := .pointer (some ⟨g_1, 10, none⟩)) (fun w hS => r_fieldAddr h U32 rfl ti3 rfl rfl rfl) fun a h=>t_take 4 (bA 11 31) rfl rfl rfl rfl h (hS.sub (.cons mr (.rr (.zz .ii)))) (v := iV x0.Total) (fun w hS => r_load h rfl (hS.load_one (p := 1) rfl U3 rfl rfl)) fun a h=>t_take 7 (bA 11 159) rfl rfl rfl rfl h (hS.sub (.cons mr (.rr (.zz .ii)))) (v := .pointer (some ⟨g_1, 11, none⟩)) (fun w hS => r_fieldAddr h U32 rfl ti26 rfl rfl rfl) fun a h=>?_
      refine t_take 8 (bA 11 415) rfl rfl rfl rfl h (hS.sub (.cons mr (.rr (.zz .ii)))) (v := p0_0) (fun w hS => r_load h rfl (hS.load_one (p := 1) rfl U26 rfl rfl)) fun a h=>h_event 5 (bA 11 447) rfl (by kernel_rfl) (by kernel_rfl) ?_
      have hq_5 : Reps (Kd.int .i64) Mem.no ([x0.At, x0.Total] : List Int) _ := ((Reps.one (d := (Kd.int .i64)) (x := x0.At) (show (Kd.int .i64).K _ _ [iV x0.At] from rfl)).append ((Reps.one (d := (Kd.int .i64)) (x := x0.Total) (show (Kd.int .i64).K _ _ [iV x0.Total] from rfl)).append (Reps.nil (Kd.int .i64) _)))
      refine s_buildSlice h rfl U22 ti3 rfl rfl rfl (.cons rfl (.cons rfl .nil)) rfl rfl rfl hS hq_5 rfl fun w_13 v_9 M_5 hS' ho_5 a h => ?_
      replace hS : Sep w0 w_13 [_, _, _, M_5] Z := hS'
      refine wpList_nil <| x_then_n ⟨(hS.sub (.cons mr (.rr (.zz .nn)))), ?_⟩
      refine h_event 6 (bA 11 511) rfl (by kernel_rfl) (by kernel_rfl) ?_
      obtain ⟨N_16, hS', le_11, lo_5⟩ := hS.freeze 2 rfl
      replace hS : Sep w0 w_13 [N_16, _, _, Mem.no] Z := hS'
      obtain ⟨t_6, et_6, H⟩ := bs H
      refine s_call h rfl Try.call47 rfl (hocketref11_nums.calls K t_2 _ ([x0.At, x0.Total] : List Int) _ t_6 w0 _ _ N_16 (hS.new_zed []) (hS.enter [] (by decide)) ((hr_1.mono (Mem.un_le le_3 ln_2)).mono le_11) (ho_5.rd lo_5 (Mem.no_le _)) et_6) ?_
      rintro v_10 w_14 ⟨_, N_17, rfl, hS', hr_5⟩
      intro a h
      obtain ⟨N_18, hS'', le_12, ln_6⟩ := hS.call [] (by decide) rfl (l' := []) (ow := []) rfl hS'
      replace hS : Sep w0 w_14 [N_18, _, _, _] Z := hS''
      refine wpList_nil <| x_then_n ⟨(hS.sub (.cons (le_11.trans le_12) (.rr (.zz .nn)))), ?_⟩
      refine h_event 9 (bA 11 1023) rfl (by kernel_rfl) (by kernel_rfl) ?_
      obtain ⟨t_7, et_7, H⟩ := bs H
      refine s_call h rfl Try.call48 rfl (hocketref1_Bytes.calls K t_6 _ x0.Data _ t_7 w0 _ _ _ mr (hS.enter [] (by decide)) ((hr_5.mono (Mem.un_le le_12 ln_6)).mono (mr.trans (hS.new_zed []))) (hp0_0.mono (hA.trans (hS.le_zed []))) et_7) ?_
      rintro v_11 w_15 ⟨_, N_19, M_6, rfl, hS', hr_6⟩
      intro a h
      obtain ⟨N_20, hS'', le_13, ln_7⟩ := hS.call [] (by decide) rfl (l' := []) (ow := [_]) rfl hS'
      replace hS : Sep w0 w_15 [N_20, _, _, _, _] Z := hS''
      refine wpList_nil <| x_then_n ⟨(hS.sub (.cons (le_11.trans (le_12.trans le_13)) (.rr (.zz .nn)))), ?_⟩
      refine t_take 10 (bA 11 2047) rfl rfl rfl rfl h (hS.sub (.cons (le_11.trans (le_12.trans le_13)) (.rr (.zz .nn)))) (v := v_11) (fun w hS => r_assign h rfl) fun a h=>h_done (by kernel_rfl) <| x_then_n (hKJ_4 _ _ ?_)
      refine wp_ret (x_block_r (x_then_r ?_))
      obtain ⟨N_21, hS', le_14, lo_6⟩ := hS.freeze 3 rfl
      replace hS : Sep w0 w_15 [N_21, _, _, _, Mem.no] Z := hS'
      obtain rfl := Option.some.inj H
      exact r1 h 2 rfl rfl ⟨_, rfl, v_11, N_21, rfl, (hS.sel [0] (by decide)), ((hr_6.rd lo_6 (Mem.no_le _)).mono (mr.trans (hS.sndA hA)))⟩
     ·refine c_cond_f h rfl (bf hc_6) <| qr <| s_cmp (b := (x0.Kind == 7)) h rfl rfl rfl (.inl ⟨rfl, rfl⟩) fun a h=>sg h rfl fun a h=>wpList_nil <| x_then_n ?_
      obtain ⟨hc_7, H⟩ | ⟨hc_7, H⟩ := ii H
      ·refine c_cond_t h rfl (bt hc_7) <| c_seq fun KJ_5 hKJ_5 => h_begin (S := fun w => Sep w0 w [N_5, bx g_1 32 (E32 x0 p0_0 p0_1 p0_2 p0_3 p0_4 p0_5), Mem.no] Z) 14 (by kernel_rfl) rfl (bA 14 0) (by kernel_rfl) hS fun w_16 hS => ?_
       refine t_take 0 (bA 14 1) rfl rfl rfl rfl h (hS.sub (.cons mr (.rr (.zz .ii)))) (v := v_2) (fun w hS => r_move h rfl) fun a h=>t_take 1 (bA 14 3) rfl rfl rfl rfl h (hS.sub (.cons mr (.rr (.zz .ii)))) (v := .pointer (some ⟨g_1, 12, none⟩)) (fun w hS => r_fieldAddr h U32 rfl ti3 rfl rfl rfl) fun a h=>t_take 2 (bA 14 7) rfl rfl rfl rfl h (hS.sub (.cons mr (.rr (.zz .ii)))) (v := iV x0.Hop) (fun w hS => r_load h rfl (hS.load_one (p := 1) rfl U3 rfl rfl)) fun a h=>t_take 3 (bA 14 15) rfl rfl rfl rfl h (hS.sub (.cons mr (.rr (.zz .ii)))) (v := .pointer (some ⟨g_1, 13, none⟩)) (fun w hS => r_fieldAddr h U32 rfl ti3 rfl rfl rfl) fun a h=>t_take 4 (bA 14 31) rfl rfl rfl rfl h (hS.sub (.cons mr (.rr (.zz .ii)))) (v := iV x0.Seq) (fun w hS => r_load h rfl (hS.load_one (p := 1) rfl U3 rfl rfl)) fun a h=>t_take 5 (bA 14 63) rfl rfl rfl rfl h (hS.sub (.cons mr (.rr (.zz .ii)))) (v := .pointer (some ⟨g_1, 14, none⟩)) (fun w hS => r_fieldAddr h U32 rfl ti22 rfl rfl rfl) fun a h=>?_
       refine t_take 6 (bA 14 127) rfl rfl rfl rfl h (hS.sub (.cons mr (.rr (.zz .ii)))) (v := p0_1) (fun w hS => r_load h rfl (hS.load_one (p := 1) rfl U22 rfl rfl)) fun a h=>t_take 7 (bA 14 255) rfl rfl rfl rfl h (hS.sub (.cons mr (.rr (.zz .ii)))) (v := iV (x0.Have.length : Int)) (fun w hS => r_len h U22 rfl hp0_1) fun a h=>t_take 10 (bA 14 1279) rfl rfl rfl rfl h (hS.sub (.cons mr (.rr (.zz .ii)))) (v := .pointer (some ⟨g_1, 14, none⟩)) (fun w hS => r_fieldAddr h U32 rfl ti22 rfl rfl rfl) fun a h=>t_take 11 (bA 14 3327) rfl rfl rfl rfl h (hS.sub (.cons mr (.rr (.zz .ii)))) (v := p0_1) (fun w hS => r_load h rfl (hS.load_one (p := 1) rfl U22 rfl rfl)) fun a h=>h_event 8 (bA 14 3583) rfl (by kernel_rfl) (by kernel_rfl) ?_
       have hq_6 : Reps (Kd.int .i64) Mem.no ([x0.Hop, x0.Seq, (x0.Have.length : Int)] : List Int) _ := ((Reps.one (d := (Kd.int .i64)) (x := x0.Hop) (show (Kd.int .i64).K _ _ [iV x0.Hop] from rfl)).append ((Reps.one (d := (Kd.int .i64)) (x := x0.Seq) (show (Kd.int .i64).K _ _ [iV x0.Seq] from rfl)).append ((Reps.one (d := (Kd.int .i64)) (x := (x0.Have.length : Int)) (show (Kd.int .i64).K _ _ [iV (x0.Have.length : Int)] from rfl)).append (Reps.nil (Kd.int .i64) _))))
       refine s_buildSlice h rfl U22 ti3 rfl rfl rfl (.cons rfl (.cons rfl (.cons rfl .nil))) rfl rfl rfl hS hq_6 rfl fun w_17 v_12 M_7 hS' ho_6 a h => ?_
       replace hS : Sep w0 w_17 [_, _, _, M_7] Z := hS'
       refine wpList_nil <| x_then_n ⟨(hS.sub (.cons mr (.rr (.zz .nn)))), ?_⟩
       refine h_event 9 (bA 14 4095) rfl (by kernel_rfl) (by kernel_rfl) ?_
       obtain ⟨N_22, hS', le_15, lo_7⟩ := hS.freeze 2 rfl
       replace hS : Sep w0 w_17 [N_22, _, _, Mem.no] Z := hS'
       obtain ⟨t_8, et_8, H⟩ := bs H
       refine s_call h rfl Try.call47 rfl (hocketref11_nums.calls K t_2 _ ([x0.Hop, x0.Seq, (x0.Have.length : Int)] : List Int) _ t_8 w0 _ _ N_22 (hS.new_zed []) (hS.enter [] (by decide)) ((hr_1.mono (Mem.un_le le_3 ln_2)).mono le_15) (ho_6.rd lo_7 (Mem.no_le _)) et_8) ?_
       rintro v_13 w_18 ⟨_, N_23, rfl, hS', hr_7⟩
       intro a h
       obtain ⟨N_24, hS'', le_16, ln_8⟩ := hS.call [] (by decide) rfl (l' := []) (ow := []) rfl hS'
       replace hS : Sep w0 w_18 [N_24, _, _, _] Z := hS''
       refine wpList_nil <| x_then_n ⟨(hS.sub (.cons (le_15.trans le_16) (.rr (.zz .nn)))), ?_⟩
       refine h_event 12 (bA 14 8191) rfl (by kernel_rfl) (by kernel_rfl) ?_
       obtain ⟨t_9, et_9, H⟩ := bs H
       refine s_call h rfl Try.call47 rfl (hocketref11_nums.calls K t_8 _ x0.Have _ t_9 w0 _ _ (A.un N_24) (Mem.un_le (hA.trans (hS.le_zed [])) (hS.new_zed [])) (hS.enter [] (by decide)) ((hr_7.mono (Mem.un_le le_16 ln_8)).mono (mr.trans (hS.sndA hA))) (hp0_1.mono (Mem.le_un _ _)) et_9) ?_
       rintro v_14 w_19 ⟨_, N_25, rfl, hS', hr_8⟩
       intro a h
       obtain ⟨N_26, hS'', le_17, ln_9⟩ := hS.call [] (by decide) rfl (l' := []) (ow := []) rfl hS'
       replace hS : Sep w0 w_19 [N_26, _, _, _] Z := hS''
       have hr_9 : Rd Kd.u8 (A.un N_26) v_14 t_9 := hr_8.mono (Mem.un_le (Mem.un_left le_17) (ln_9.trans (hS.sndA hA)))
       refine wpList_nil <| x_then_n ⟨(hS.sub (.cons (le_15.trans (le_16.trans le_17)) (.rr (.zz .nn)))), ?_⟩
       refine t_take 13 (bA 14 16383) rfl rfl rfl rfl h (hS.sub (.cons (le_15.trans (le_16.trans le_17)) (.rr (.zz .nn)))) (v := v_14) (fun w hS => r_assign h rfl) fun a h=>h_done (by kernel_rfl) <| x_then_n (hKJ_5 _ _ ?_)
       refine c_seq fun KJ_6 hKJ_6 => h_begin (S := fun w => Sep w0 w [N_26, bx g_1 32 (E32 x0 p0_0 p0_1 p0_2 p0_3 p0_4 p0_5), Mem.no, Mem.no] Z) 10 (by kernel_rfl) rfl (bA 10 0) (by kernel_rfl) hS fun w_20 hS => ?_
       refine t_take 0 (bA 10 1) rfl rfl rfl rfl h (hS.sub (.cons mr (.rr (.zz (.zz .ii))))) (v := v_14) (fun w hS => r_move h rfl) fun a h=>t_take 1 (bA 10 3) rfl rfl rfl rfl h (hS.sub (.cons mr (.rr (.zz (.zz .ii))))) (v := .pointer (some ⟨g_1, 15, none⟩)) (fun w hS => r_fieldAddr h U32 rfl ti22 rfl rfl rfl) fun a h=>t_take 2 (bA 10 7) rfl rfl rfl rfl h (hS.sub (.cons mr (.rr (.zz (.zz .ii))))) (v := p0_2) (fun w hS => r_load h rfl (hS.load_one (p := 1) rfl U22 rfl rfl)) fun a h=>t_take 3 (bA 10 15) rfl rfl rfl rfl h (hS.sub (.cons mr (.rr (.zz (.zz .ii))))) (v := iV (x0.Need.length : Int)) (fun w hS => r_len h U22 rfl hp0_2) fun a h=>t_take 6 (bA 10 79) rfl rfl rfl rfl h (hS.sub (.cons mr (.rr (.zz (.zz .ii))))) (v := .pointer (some ⟨g_1, 15, none⟩)) (fun w hS => r_fieldAddr h U32 rfl ti22 rfl rfl rfl) fun a h=>t_take 7 (bA 10 207) rfl rfl rfl rfl h (hS.sub (.cons mr (.rr (.zz (.zz .ii))))) (v := p0_2) (fun w hS => r_load h rfl (hS.load_one (p := 1) rfl U22 rfl rfl)) fun a h=>?_
       refine h_event 4 (bA 10 223) rfl (by kernel_rfl) (by kernel_rfl) ?_
       have hq_7 : Reps (Kd.int .i64) Mem.no ([(x0.Need.length : Int)] : List Int) _ := ((Reps.one (d := (Kd.int .i64)) (x := (x0.Need.length : Int)) (show (Kd.int .i64).K _ _ [iV (x0.Need.length : Int)] from rfl)).append (Reps.nil (Kd.int .i64) _))
       refine s_buildSlice h rfl U22 ti3 rfl rfl rfl (.cons rfl .nil) rfl rfl rfl hS hq_7 rfl fun w_21 v_15 M_8 hS' ho_7 a h => ?_
       replace hS : Sep w0 w_21 [_, _, _, _, M_8] Z := hS'
       refine wpList_nil <| x_then_n ⟨(hS.sub (.cons mr (.rr (.zz (.zz .nn))))), ?_⟩
       refine h_event 5 (bA 10 255) rfl (by kernel_rfl) (by kernel_rfl) ?_
       obtain ⟨N_27, hS', le_18, lo_8⟩ := hS.freeze 3 rfl
       replace hS : Sep w0 w_21 [N_27, _, _, _, Mem.no] Z := hS'
       obtain ⟨t_10, et_10, H⟩ := bs H
       refine s_call h rfl Try.call47 rfl (hocketref11_nums.calls K t_9 _ ([(x0.Need.length : Int)] : List Int) _ t_10 w0 _ _ (A.un N_27) (Mem.un_le (hA.trans (hS.le_zed [])) (hS.new_zed [])) (hS.enter [] (by decide)) (hr_9.mono (Mem.un_left le_18)) ((ho_7.rd lo_8 (Mem.no_le _)).mono (mr.trans (hS.sndA hA))) et_10) ?_
       rintro v_16 w_22 ⟨_, N_28, rfl, hS', hr_10⟩
       intro a h
       obtain ⟨N_29, hS'', le_19, ln_10⟩ := hS.call [] (by decide) rfl (l' := []) (ow := []) rfl hS'
       replace hS : Sep w0 w_22 [N_29, _, _, _, _] Z := hS''
       have hr_11 : Rd Kd.u8 (A.un N_29) v_16 t_10 := hr_10.mono (Mem.un_le (Mem.un_left le_19) (ln_10.trans (hS.sndA hA)))
       refine wpList_nil <| x_then_n ⟨(hS.sub (.cons (le_18.trans le_19) (.rr (.zz (.zz .nn))))), ?_⟩
       refine h_event 8 (bA 10 511) rfl (by kernel_rfl) (by kernel_rfl) ?_
       obtain ⟨t_11, et_11, H⟩ := bs H
       refine s_call h rfl Try.call47 rfl (hocketref11_nums.calls K t_10 _ x0.Need _ t_11 w0 _ _ (A.un N_29) (Mem.un_le (hA.trans (hS.le_zed [])) (hS.new_zed [])) (hS.enter [] (by decide)) hr_11 (hp0_2.mono (Mem.le_un _ _)) et_11) ?_
       rintro v_17 w_23 ⟨_, N_30, rfl, hS', hr_12⟩
       intro a h
       obtain ⟨N_31, hS'', le_20, ln_11⟩ := hS.call [] (by decide) rfl (l' := []) (ow := []) rfl hS'
       replace hS : Sep w0 w_23 [N_31, _, _, _, _] Z := hS''
       have hr_13 : Rd Kd.u8 (A.un N_31) v_17 t_11 := hr_12.mono (Mem.un_le (Mem.un_left le_20) (ln_11.trans (hS.sndA hA)))
       refine wpList_nil <| x_then_n ⟨(hS.sub (.cons (le_18.trans (le_19.trans le_20)) (.rr (.zz (.zz .nn))))), ?_⟩
       refine t_take 9 (bA 10 1023) rfl rfl rfl rfl h (hS.sub (.cons (le_18.trans (le_19.trans le_20)) (.rr (.zz (.zz .nn))))) (v := v_17) (fun w hS => r_assign h rfl) fun a h=>h_done (by kernel_rfl) <| x_then_n (hKJ_6 _ _ ?_)
       refine wp_ret (x_block_r (x_then_r ?_))
       obtain rfl := Option.some.inj H
       exact r1 h 2 rfl rfl ⟨_, rfl, v_17, N_31, rfl, (hS.sel [0] (by decide)), hr_13⟩
      ·refine c_cond_f h rfl (bf hc_7) <| qr <| s_cmp (b := (x0.Kind == 8)) h rfl rfl rfl (.inl ⟨rfl, rfl⟩) fun a h=>sg h rfl fun a h=>wpList_nil <| x_then_n ?_
       obtain ⟨hc_8, H⟩ | ⟨hc_8, H⟩ := ii H
       ·refine c_cond_t h rfl (bt hc_8) <| c_seq fun KJ_7 hKJ_7 => h_begin (S := fun w => Sep w0 w [N_5, bx g_1 32 (E32 x0 p0_0 p0_1 p0_2 p0_3 p0_4 p0_5), Mem.no] Z) 9 (by kernel_rfl) rfl (bA 9 0) (by kernel_rfl) hS fun w_24 hS => ?_
        refine t_take 0 (bA 9 1) rfl rfl rfl rfl h (hS.sub (.cons mr (.rr (.zz .ii)))) (v := v_2) (fun w hS => r_move h rfl) fun a h=>t_take 1 (bA 9 3) rfl rfl rfl rfl h (hS.sub (.cons mr (.rr (.zz .ii)))) (v := .pointer (some ⟨g_1, 16, none⟩)) (fun w hS => r_fieldAddr h U32 rfl ti3 rfl rfl rfl) fun a h=>t_take 2 (bA 9 7) rfl rfl rfl rfl h (hS.sub (.cons mr (.rr (.zz .ii)))) (v := iV x0.Index) (fun w hS => r_load h rfl (hS.load_one (p := 1) rfl U3 rfl rfl)) fun a h=>t_take 5 (bA 9 39) rfl rfl rfl rfl h (hS.sub (.cons mr (.rr (.zz .ii)))) (v := .pointer (some ⟨g_1, 17, none⟩)) (fun w hS => r_fieldAddr h U32 rfl ti30 rfl rfl rfl) fun a h=>t_take 6 (bA 9 103) rfl rfl rfl rfl h (hS.sub (.cons mr (.rr (.zz .ii)))) (v := .agg (E30 x0.Entry p0_3 p0_4 p0_5).toArray) (fun w hS => r_load h rfl (hS.load_agg (p := 1) (us := (E30 x0.Entry p0_3 p0_4 p0_5)) rfl U30 rfl ti30 rfl rfl)) fun a h=>?_
        refine h_event 3 (bA 9 111) rfl (by kernel_rfl) (by kernel_rfl) ?_
        have hq_8 : Reps (Kd.int .i64) Mem.no ([x0.Index] : List Int) _ := ((Reps.one (d := (Kd.int .i64)) (x := x0.Index) (show (Kd.int .i64).K _ _ [iV x0.Index] from rfl)).append (Reps.nil (Kd.int .i64) _))
        refine s_buildSlice h rfl U22 ti3 rfl rfl rfl (.cons rfl .nil) rfl rfl rfl hS hq_8 rfl fun w_25 v_18 M_9 hS' ho_8 a h => ?_
        replace hS : Sep w0 w_25 [_, _, _, M_9] Z := hS'
        refine wpList_nil <| x_then_n ⟨(hS.sub (.cons mr (.rr (.zz .nn)))), ?_⟩
        refine h_event 4 (bA 9 127) rfl (by kernel_rfl) (by kernel_rfl) ?_
        obtain ⟨N_32, hS', le_21, lo_9⟩ := hS.freeze 2 rfl
        replace hS : Sep w0 w_25 [N_32, _, _, Mem.no] Z := hS'
        obtain ⟨t_12, et_12, H⟩ := bs H
        refine s_call h rfl Try.call47 rfl (hocketref11_nums.calls K t_2 _ ([x0.Index] : List Int) _ t_12 w0 _ _ N_32 (hS.new_zed []) (hS.enter [] (by decide)) ((hr_1.mono (Mem.un_le le_3 ln_2)).mono le_21) (ho_8.rd lo_9 (Mem.no_le _)) et_12) ?_
        rintro v_19 w_26 ⟨_, N_33, rfl, hS', hr_14⟩
        intro a h
        obtain ⟨N_34, hS'', le_22, ln_12⟩ := hS.call [] (by decide) rfl (l' := []) (ow := []) rfl hS'
        replace hS : Sep w0 w_26 [N_34, _, _, _] Z := hS''
        refine wpList_nil <| x_then_n ⟨(hS.sub (.cons (le_21.trans le_22) (.rr (.zz .nn)))), ?_⟩
        refine h_event 7 (bA 9 255) rfl (by kernel_rfl) (by kernel_rfl) ?_
        obtain ⟨t_13, et_13, H⟩ := bs H
        refine s_call h rfl Try.call49 rfl (hocketref4_PutEntry.calls K t_12 _ x0.Entry _ _ _ t_13 w0 _ _ _ mr (hS.enter [] (by decide)) ((hr_14.mono (Mem.un_le le_22 ln_12)).mono (mr.trans (hS.new_zed []))) (hp0_3.mono (hA.trans (hS.le_zed []))) (hp0_4.mono (hA.trans (hS.le_zed []))) (hp0_5.mono (hA.trans (hS.le_zed []))) et_13) ?_
        rintro v_20 w_27 ⟨_, N_35, M_10, rfl, hS', hr_15⟩
        intro a h
        obtain ⟨N_36, hS'', le_23, ln_13⟩ := hS.call [] (by decide) rfl (l' := []) (ow := [_]) rfl hS'
        replace hS : Sep w0 w_27 [N_36, _, _, _, _] Z := hS''
        refine wpList_nil <| x_then_n ⟨(hS.sub (.cons (le_21.trans (le_22.trans le_23)) (.rr (.zz .nn)))), ?_⟩
        refine t_take 8 (bA 9 511) rfl rfl rfl rfl h (hS.sub (.cons (le_21.trans (le_22.trans le_23)) (.rr (.zz .nn)))) (v := v_20) (fun w hS => r_assign h rfl) fun a h=>h_done (by kernel_rfl) <| x_then_n (hKJ_7 _ _ ?_)
        refine wp_ret (x_block_r (x_then_r ?_))
        obtain ⟨N_37, hS', le_24, lo_10⟩ := hS.freeze 3 rfl
        replace hS : Sep w0 w_27 [N_37, _, _, _, Mem.no] Z := hS'
        obtain rfl := Option.some.inj H
        exact r1 h 2 rfl rfl ⟨_, rfl, v_20, N_37, rfl, (hS.sel [0] (by decide)), ((hr_15.rd lo_10 (Mem.no_le _)).mono (mr.trans (hS.sndA hA)))⟩
       ·refine c_cond_f h rfl (bf hc_8) <| wp_skip <| x_block_n <| x_then_n (hKJ_2 _ _ ?_)
        refine qr <| mv h rfl fun a h=>sg h rfl fun a h=>nx <| wp_ret ?_
        obtain rfl := Option.some.inj H
        exact r1 h 2 rfl rfl ⟨_, rfl, v_2, N_5, rfl, (hS.sel [0] (by decide)), ((hr_1.mono (Mem.un_le le_3 ln_2)).mono (mr.trans (hS.sndA hA)))⟩
 ·refine c_cond_t h rfl (nt (ef hc_1)) <| qr <| sg h rfl fun a h=>nx <| wp_ret (x_then_r ?_)
  obtain rfl := Option.some.inj H
  exact r1 h 2 rfl rfl ⟨_, rfl, nS, N_2, rfl, (hS.sel [0] (by decide)), (Rd.nil _ _)⟩

set_option maxHeartbeats 4000000 in
set_option maxRecDepth 20000 in
theorem hocketref11_Wrap.calls (K : Nat) (x0 : api_Msg) (p0_0 : Value) (p0_1 : Value) (p0_2 : Value) (p0_3 : Value) (p0_4 : Value) (p0_5 : Value) (r : (List UInt8)) (w0 w : World) (Z A : Mem) (hA : A.le Z) (hS : Sep w0 w [] Z) (hp0_0 : Rd Kd.u8 A p0_0 x0.Data) (hp0_1 : Rd (Kd.int .i64) A p0_1 x0.Have) (hp0_2 : Rd (Kd.int .i64) A p0_2 x0.Need) (hp0_3 : Rd Kd.u8 A p0_3 x0.Entry.Cmd.Key) (hp0_4 : Rd Kd.u8 A p0_4 x0.Entry.Cmd.Val) (hp0_5 : Rd Kd.u8 A p0_5 x0.Entry.Cmd.Old)
    (H : hocketref11_Wrap.f K x0 = some r) :
    Calls Try.prog 22 [.agg (E32 x0 p0_0 p0_1 p0_2 p0_3 p0_4 p0_5).toArray].toArray w (Ret fun v w' => ∃ (u0 : Value) (N : Mem) (M0 : Mem), v = u0 ∧ Sep w0 w' [N, M0] Z ∧ Own Kd.u8 5 M0 Mem.no u0 r) := by
 unfold hocketref11_Wrap.f at H
 refine f_enter _ Try.func22 rfl Try.ntmps22 rfl fun a h=>?_
 replace h : Fr 9 a [(0, .agg (E32 x0 p0_0 p0_1 p0_2 p0_3 p0_4 p0_5).toArray)] := h
 replace hS := hS.start
 refine qr <| v_box (vs := (E32 x0 p0_0 p0_1 p0_2 p0_3 p0_4 p0_5)) h rfl rfl rfl hS fun w_1 g_1 hS' a h => ?_
 replace hS : Sep w0 w_1 [_, bx g_1 32 (E32 x0 p0_0 p0_1 p0_2 p0_3 p0_4 p0_5)] Z := hS'
 refine sg h rfl fun a h=>nx <| c_seq fun KJ_1 hKJ_1 => qr <| s_load h rfl rfl (hS.load_agg (p := 1) (us := (E32 x0 p0_0 p0_1 p0_2 p0_3 p0_4 p0_5)) rfl U32 rfl ti32 rfl rfl) fun a h=>?_
 obtain ⟨t_1, et_1, H⟩ := bs H
 refine s_call h rfl Try.call21 rfl (hocketref11_Ok.calls K x0 _ _ _ _ _ _ t_1 w0 _ _ _ mr (hS.enter [] (by decide)) (hp0_0.mono (hA.trans (hS.le_zed []))) (hp0_1.mono (hA.trans (hS.le_zed []))) (hp0_2.mono (hA.trans (hS.le_zed []))) (hp0_3.mono (hA.trans (hS.le_zed []))) (hp0_4.mono (hA.trans (hS.le_zed []))) (hp0_5.mono (hA.trans (hS.le_zed []))) et_1) ?_
 rintro _ w_2 ⟨N_1, rfl, hS'⟩
 intro a h
 obtain ⟨N_2, hS'', le_1, ln_1⟩ := hS.call [] (by decide) rfl (l' := []) (ow := []) rfl hS'
 replace hS : Sep w0 w_2 [N_2, _] Z := hS''
 refine s_not h rfl rfl fun a h=>wpList_nil <| x_then_n ?_
 obtain ⟨hc_1, H⟩ | ⟨hc_1, H⟩ := ii H
 ·refine c_cond_f h rfl (nf hc_1) <| wp_skip <| x_then_n (hKJ_1 _ _ ?_)
  refine qr <| s_load h rfl rfl (hS.load_agg (p := 1) (us := (E32 x0 p0_0 p0_1 p0_2 p0_3 p0_4 p0_5)) rfl U32 rfl ti32 rfl rfl) fun a h=>?_
  obtain ⟨t_2, et_2, H⟩ := bs H
  refine s_call h rfl Try.call37 rfl (hocketref11_Encode.calls K x0 _ _ _ _ _ _ t_2 w0 _ _ A (hA.trans (hS.le_zed [])) (hS.enter [] (by decide)) hp0_0 hp0_1 hp0_2 hp0_3 hp0_4 hp0_5 et_2) ?_
  rintro v_1 w_3 ⟨_, N_3, rfl, hS', hr_1⟩
  intro a h
  obtain ⟨N_4, hS'', le_2, ln_2⟩ := hS.call [] (by decide) rfl (l' := []) (ow := []) rfl hS'
  replace hS : Sep w0 w_3 [N_4, _] Z := hS''
  have hr_2 : Rd Kd.u8 (A.un N_4) v_1 t_2 := hr_1.mono (Mem.un_left ln_2)
  obtain ⟨t_3, et_3, H⟩ := bs H
  refine s_call h rfl Try.call36 rfl (hocketref1_Four.calls K t_2 _ t_3 w0 _ _ _ mr (hS.enter [] (by decide)) (hr_2.mono (Mem.un_le (hA.trans (hS.le_zed [])) (mr.trans (hS.new_zed [])))) et_3) ?_
  rintro v_2 w_4 ⟨_, N_5, M_1, rfl, hS', hr_3⟩
  intro a h
  obtain ⟨N_6, hS'', le_3, ln_3⟩ := hS.call [] (by decide) rfl (l' := []) (ow := [_]) rfl hS'
  replace hS : Sep w0 w_4 [N_6, _, _] Z := hS''
  refine sg h rfl fun a h=>nx <| wp_ret ?_
  obtain rfl := Option.some.inj H
  exact r1 h 2 rfl rfl ⟨_, rfl, v_2, N_6, M_1, rfl, (hS.sel [0, 2] (by decide)), hr_3⟩
 ·refine c_cond_t h rfl (nt (ef hc_1)) <| qr <| sg h rfl fun a h=>nx <| wp_ret (x_then_r ?_)
  have hS' := hS.room
  replace hS : Sep w0 w_2 [_, _, Mem.no] Z := hS'
  obtain rfl := Option.some.inj H
  exact r1 h 2 rfl rfl ⟨_, rfl, nS, N_2, Mem.no, rfl, (hS.sel [0, 2] (by decide)), (Own.nil Kd.u8 5 Mem.no)⟩

set_option maxHeartbeats 4000000 in
set_option maxRecDepth 20000 in
theorem hocketref1_Unfour.calls (K : Nat) (x0 : List UInt8) (p0_0 : Value) (r : (List UInt8) × Bool) (w0 w : World) (Z A : Mem) (hA : A.le Z) (hS : Sep w0 w [] Z) (hp0_0 : Rd Kd.u8 A p0_0 x0)
    (H : hocketref1_Unfour.f K x0 = some r) :
    Calls Try.prog 38 [p0_0].toArray w (Ret fun v w' => ∃ (u0 : Value) (N : Mem) (M0 : Mem), v = .tuple [u0, .bool r.2].toArray ∧ Sep w0 w' [N, M0] Z ∧ Own Kd.u8 5 M0 Mem.no u0 r.1) := by
 unfold hocketref1_Unfour.f at H
 refine f_enter _ Try.func38 rfl Try.ntmps38 rfl fun a h=>?_
 replace h : Fr 48 a [(0, p0_0)] := h
 replace hS := hS.start
 refine qr <| sg h rfl fun a h=>sg h rfl fun a h=>nx <| c_seq fun KJ_1 hKJ_1 => qr <| mv h rfl fun a h=>s_len h rfl U26 rfl hp0_0 fun a h=>s_cmp (b := decide ((x0.length : Int) < 4)) h rfl rfl rfl (.inr (.inr (.inl ⟨rfl, rfl⟩))) fun a h=>?_
 refine wpList_nil <| x_then_n ?_
 obtain ⟨hc_1, H⟩ | ⟨hc_1, H⟩ := ii H
 ·refine c_cond_t h rfl (dt hc_1) <| qr <| sg h rfl fun a h=>sg h rfl fun a h=>nx <| wp_ret (x_then_r ?_)
  have hS' := hS.room
  replace hS : Sep w0 w [_, Mem.no] Z := hS'
  obtain rfl := Option.some.inj H
  exact f_ret h (rs := [.tmp 2, .tmp 3]) rfl (.tmp rfl (.tmp rfl .nil)) ⟨_, rfl, nS, Mem.no, Mem.no, rfl, (hS.sel [0, 1] (by decide)), (Own.nil Kd.u8 5 Mem.no)⟩
 ·refine c_cond_f h rfl (df hc_1) <| wp_skip <| x_then_n (hKJ_1 _ _ ?_)
  refine qr <| mv h rfl fun a h=>?_
  obtain ⟨t_1, et_1, H⟩ := bs H
  refine s_slice h rfl U26 ti5 rfl rfl hp0_0 rfl rfl et_1 fun v_1 hr_1 a h => ?_
  obtain ⟨t_2, et_2, H⟩ := bs H
  refine s_call h rfl Try.call46 rfl (hocketref1_Sum.calls K t_1 _ t_2 w0 _ _ _ mr (hS.enter [] (by decide)) (hr_1.mono (hA.trans (hS.le_zed []))) et_2) ?_
  rintro _ w_1 ⟨N_1, rfl, hS'⟩
  intro a h
  obtain ⟨N_2, hS'', le_1, ln_1⟩ := hS.call [] (by decide) rfl (l' := []) (ow := []) rfl hS'
  replace hS : Sep w0 w_1 [N_2] Z := hS''
  refine sg h rfl fun a h=>nx <| c_seq fun KJ_2 hKJ_2 => c_seq fun KJ_3 hKJ_3 => ?_
  have hJ_j_1 : ∀ (x_1 : Bool), hocketref1_Unfour.J1 K x0 x_1 = some r → ∀ (a : Act) (w_2 : World), (∃ (N_3 : Mem), Fr 48 a [(0, p0_0), (2, nS), (3, .bool false), (43, .bool x_1)] ∧ Sep w0 w_2 [N_3] Z ∧ N_2.le N_3) → KJ_3 a w_2 := by
   clear H h hS a
   rintro x_1 H a w_2 ⟨N_3, h, hS, le_2⟩
   unfold hocketref1_Unfour.J1 at H
   refine hKJ_3 _ _ ?_
   obtain ⟨hc_2, H⟩ | ⟨hc_2, H⟩ := ii H
   ·refine c_cond_t h rfl hc_2 <| qr <| sg h rfl fun a h=>sg h rfl fun a h=>wpList_nil ?_
    replace h : Fr 48 a [(0, _), (2, _), (3, _)] := h.keep [0, 2, 3]
    refine x_then_n <| wp_ret (x_then_r ?_)
    have hS' := hS.room
    replace hS : Sep w0 w_2 [_, Mem.no] Z := hS'
    obtain rfl := Option.some.inj H
    exact f_ret h (rs := [.tmp 2, .tmp 3]) rfl (.tmp rfl (.tmp rfl .nil)) ⟨_, rfl, nS, N_3, Mem.no, rfl, (hS.sel [0, 1] (by decide)), (Own.nil Kd.u8 5 Mem.no)⟩
   ·refine c_cond_f h rfl (ef hc_2) <| wp_skip <| x_then_n (hKJ_2 _ _ ?_)
    refine wp_seq <| wp_region_lit ?_
    have hq_1 : Reps Kd.u8 Mem.no ([] : List UInt8) _ := (Reps.nil Kd.u8 _)
    refine s_buildSlice h rfl U26 ti5 rfl rfl rfl .nil rfl rfl rfl hS hq_1 rfl fun w_3 v_2 M_1 hS' ho_1 a h => ?_
    replace hS : Sep w0 w_3 [_, M_1] Z := hS'
    refine mv h rfl fun a h=>?_
    obtain ⟨t_3, et_3, H⟩ := bs H
    refine s_slice h rfl U26 ti5 rfl rfl hp0_0 rfl rfl et_3 fun v_3 hr_2 a h => ?_
    obtain ⟨t_4, et_4, H⟩ := bs H
    refine s_append (J := Mem.no) (I' := Mem.no) (p := 1) 140737488355328 h rfl rfl rfl U26 ti5 rfl rfl rfl rfl hS rfl ho_1 (Src.flat flat_u8 (hr_2.src (hA.trans hS.old))) mr mr et_4 fun w_4 v_4 M_2 hS' ho_2 a h => ?_
    replace hS : Sep w0 w_4 [_, M_2] Z := hS'
    refine sg h rfl fun a h=>sg h rfl fun a h=>wpList_nil ?_
    replace h : Fr 48 a [(2, v_4), (3, .bool true)] := h.keep [2, 3]
    refine x_then_n <| wp_ret ?_
    obtain rfl := Option.some.inj H
    exact f_ret h (rs := [.tmp 2, .tmp 3]) rfl (.tmp rfl (.tmp rfl .nil)) ⟨_, rfl, v_4, N_3, M_2, rfl, (hS.sel [0, 1] (by decide)), ho_2⟩
  clear hKJ_3
  refine wp_region_lit <| mv h rfl fun a h=>?_
  obtain ⟨t_5, et_5, H⟩ := bs H
  refine v_index h rfl U26 ti5 rfl rfl rfl hp0_0 (hA.trans hS.old) et_5 fun ad_1 cs_1 hk_1 hc_3 => ?_
  obtain rfl := (show cs_1 = [.int .u8 (t_5.toNat : Int)] from hk_1)
  intro a h
  refine s_load h rfl rfl (el_one (o := 0) hc_3 U5 rfl rfl) fun a h=>mv h rfl fun a h=>s_conv (((toU8 (t_2.toNat : Int)).toNat : Int)) h rfl U71 U5 rfl (wrap_u8 _).symm fun a h=>s_cmp (b := ((t_5.toNat : Int) != ((toU8 (t_2.toNat : Int)).toNat : Int))) h rfl rfl rfl (.inr (.inl ⟨rfl, rfl⟩)) fun a h=>mv h rfl fun a h=>?_
  obtain ⟨hc_4, H⟩ | ⟨hc_4, H⟩ := ii H
  ·refine s_on h rfl rfl (xf hc_4) <| mv h rfl fun a h=>s_on h rfl rfl (xf hc_4) ?_
   obtain ⟨t_6, et_6, H⟩ := bs H
   refine v_index h rfl U26 ti5 rfl rfl rfl hp0_0 (hA.trans hS.old) et_6 fun ad_2 cs_2 hk_2 hc_5 => ?_
   obtain rfl := (show cs_2 = [.int .u8 (t_6.toNat : Int)] from hk_2)
   intro a h
   refine s_on h rfl rfl (xf hc_4) <| s_load h rfl rfl (el_one (o := 0) hc_5 U5 rfl rfl) fun a h=>s_on h rfl rfl (xf hc_4) <| mv h rfl fun a h=>s_on h rfl rfl (xf hc_4) <| s_shift (r := ((toU32 (shr .u32 (t_2.toNat : Int) 8)).toNat : Int)) h rfl rfl rfl (by decide) (.inr ⟨rfl, (shr32 _ _).symm⟩) fun a h=>s_on h rfl rfl (xf hc_4) <| s_conv (((toU8 ((toU32 (shr .u32 (t_2.toNat : Int) 8)).toNat : Int)).toNat : Int)) h rfl U71 U5 rfl (wrap_u8 _).symm fun a h=>s_on h rfl rfl (xf hc_4) <| s_cmp (b := ((t_6.toNat : Int) != ((toU8 ((toU32 (shr .u32 (t_2.toNat : Int) 8)).toNat : Int)).toNat : Int))) h rfl rfl rfl (.inr (.inl ⟨rfl, rfl⟩)) fun a h=>pf h rfl (xf hc_4) fun a h=>mv h rfl fun a h=>?_
   obtain ⟨hc_6, H⟩ | ⟨hc_6, H⟩ := ii H
   ·refine s_on h rfl rfl (xf hc_6) <| mv h rfl fun a h=>s_on h rfl rfl (xf hc_6) ?_
    obtain ⟨t_7, et_7, H⟩ := bs H
    refine v_index h rfl U26 ti5 rfl rfl rfl hp0_0 (hA.trans hS.old) et_7 fun ad_3 cs_3 hk_3 hc_7 => ?_
    obtain rfl := (show cs_3 = [.int .u8 (t_7.toNat : Int)] from hk_3)
    intro a h
    refine s_on h rfl rfl (xf hc_6) <| s_load h rfl rfl (el_one (o := 0) hc_7 U5 rfl rfl) fun a h=>s_on h rfl rfl (xf hc_6) <| mv h rfl fun a h=>s_on h rfl rfl (xf hc_6) <| s_shift (r := ((toU32 (shr .u32 (t_2.toNat : Int) 16)).toNat : Int)) h rfl rfl rfl (by decide) (.inr ⟨rfl, (shr32 _ _).symm⟩) fun a h=>s_on h rfl rfl (xf hc_6) <| s_conv (((toU8 ((toU32 (shr .u32 (t_2.toNat : Int) 16)).toNat : Int)).toNat : Int)) h rfl U71 U5 rfl (wrap_u8 _).symm fun a h=>s_on h rfl rfl (xf hc_6) <| s_cmp (b := ((t_7.toNat : Int) != ((toU8 ((toU32 (shr .u32 (t_2.toNat : Int) 16)).toNat : Int)).toNat : Int))) h rfl rfl rfl (.inr (.inl ⟨rfl, rfl⟩)) fun a h=>pf h rfl (xf hc_6) fun a h=>mv h rfl fun a h=>?_
    obtain ⟨hc_8, H⟩ | ⟨hc_8, H⟩ := ii H
    ·refine s_on h rfl rfl (xf hc_8) <| mv h rfl fun a h=>s_on h rfl rfl (xf hc_8) ?_
     obtain ⟨t_8, et_8, H⟩ := bs H
     refine v_index h rfl U26 ti5 rfl rfl rfl hp0_0 (hA.trans hS.old) et_8 fun ad_4 cs_4 hk_4 hc_9 => ?_
     obtain rfl := (show cs_4 = [.int .u8 (t_8.toNat : Int)] from hk_4)
     intro a h
     refine s_on h rfl rfl (xf hc_8) <| s_load h rfl rfl (el_one (o := 0) hc_9 U5 rfl rfl) fun a h=>s_on h rfl rfl (xf hc_8) <| mv h rfl fun a h=>s_on h rfl rfl (xf hc_8) <| s_shift (r := ((toU32 (shr .u32 (t_2.toNat : Int) 24)).toNat : Int)) h rfl rfl rfl (by decide) (.inr ⟨rfl, (shr32 _ _).symm⟩) fun a h=>s_on h rfl rfl (xf hc_8) <| s_conv (((toU8 ((toU32 (shr .u32 (t_2.toNat : Int) 24)).toNat : Int)).toNat : Int)) h rfl U71 U5 rfl (wrap_u8 _).symm fun a h=>s_on h rfl rfl (xf hc_8) <| s_cmp (b := ((t_8.toNat : Int) != ((toU8 ((toU32 (shr .u32 (t_2.toNat : Int) 24)).toNat : Int)).toNat : Int))) h rfl rfl rfl (.inr (.inl ⟨rfl, rfl⟩)) fun a h=>pf h rfl (xf hc_8) fun a h=>wpList_nil ?_
     replace h : Fr 48 a [(0, _), (2, nS), (3, .bool false), (43, .bool ((t_8.toNat : Int) != ((toU8 ((toU32 (shr .u32 (t_2.toNat : Int) 24)).toNat : Int)).toNat : Int)))] := h.keep [0, 2, 3, 43]
     exact x_then_n (hJ_j_1 ((t_8.toNat : Int) != ((toU8 ((toU32 (shr .u32 (t_2.toNat : Int) 24)).toNat : Int)).toNat : Int)) H _ _ ⟨N_2, (h.keep [0, 2, 3, 43]), (hS.sel [0] (by decide)), mr⟩)
    ·refine of h rfl rfl (xt hc_8) fun a h=>of h rfl rfl (xt hc_8) fun a h=>of h rfl rfl (xt hc_8) fun a h=>of h rfl rfl (xt hc_8) fun a h=>of h rfl rfl (xt hc_8) fun a h=>of h rfl rfl (xt hc_8) fun a h=>of h rfl rfl (xt hc_8) fun a h=>pt h rfl (xt hc_8) fun a h=>wpList_nil ?_
     replace h : Fr 48 a [(0, _), (2, nS), (3, .bool false), (43, .bool true)] := h.keep [0, 2, 3, 43]
     exact x_then_n (hJ_j_1 true H _ _ ⟨N_2, (h.keep [0, 2, 3, 43]), (hS.sel [0] (by decide)), mr⟩)
   ·refine of h rfl rfl (xt hc_6) fun a h=>of h rfl rfl (xt hc_6) fun a h=>of h rfl rfl (xt hc_6) fun a h=>of h rfl rfl (xt hc_6) fun a h=>of h rfl rfl (xt hc_6) fun a h=>of h rfl rfl (xt hc_6) fun a h=>of h rfl rfl (xt hc_6) fun a h=>pt h rfl (xt hc_6) fun a h=>mv h rfl fun a h=>oo h rfl rfl fun a h=>oo h rfl rfl fun a h=>oo h rfl rfl fun a h=>?_
    refine oo h rfl rfl fun a h=>oo h rfl rfl fun a h=>oo h rfl rfl fun a h=>oo h rfl rfl fun a h=>pt h rfl rfl fun a h=>wpList_nil ?_
    replace h : Fr 48 a [(0, _), (2, nS), (3, .bool false), (43, .bool true)] := h.keep [0, 2, 3, 43]
    exact x_then_n (hJ_j_1 true H _ _ ⟨N_2, (h.keep [0, 2, 3, 43]), (hS.sel [0] (by decide)), mr⟩)
  ·refine of h rfl rfl (xt hc_4) fun a h=>of h rfl rfl (xt hc_4) fun a h=>of h rfl rfl (xt hc_4) fun a h=>of h rfl rfl (xt hc_4) fun a h=>of h rfl rfl (xt hc_4) fun a h=>of h rfl rfl (xt hc_4) fun a h=>of h rfl rfl (xt hc_4) fun a h=>pt h rfl (xt hc_4) fun a h=>mv h rfl fun a h=>oo h rfl rfl fun a h=>oo h rfl rfl fun a h=>oo h rfl rfl fun a h=>?_
   refine oo h rfl rfl fun a h=>oo h rfl rfl fun a h=>oo h rfl rfl fun a h=>oo h rfl rfl fun a h=>pt h rfl rfl fun a h=>mv h rfl fun a h=>oo h rfl rfl fun a h=>oo h rfl rfl fun a h=>oo h rfl rfl fun a h=>oo h rfl rfl fun a h=>oo h rfl rfl fun a h=>oo h rfl rfl fun a h=>?_
   refine oo h rfl rfl fun a h=>pt h rfl rfl fun a h=>wpList_nil ?_
   replace h : Fr 48 a [(0, _), (2, nS), (3, .bool false), (43, .bool true)] := h.keep [0, 2, 3, 43]
   exact x_then_n (hJ_j_1 true H _ _ ⟨N_2, (h.keep [0, 2, 3, 43]), (hS.sel [0] (by decide)), mr⟩)

set_option maxHeartbeats 4000000 in
set_option maxRecDepth 20000 in
theorem hocketref1_Reader_Num.calls (K : Nat) (g0 : Nat) (x0_B : List UInt8) (p0_0 : Value) (x0_Bad : Bool) (x1 : Int) (r : Int × (List UInt8) × Bool) (w0 w : World) (Z A : Mem) (hA : A.le Z) (hS : Sep w0 w [bx g0 78 [p0_0, .bool x0_Bad]] Z) (hp0_0 : Rd Kd.u8 A p0_0 x0_B)
    (H : hocketref1_Reader_Num.f K x0_B x0_Bad x1 = some r) :
    Calls Try.prog 50 [.pointer (some ⟨g0, 0, none⟩), iV x1].toArray w (Ret fun v w' => ∃ (u0 : Value) (N : Mem), v = iV r.1 ∧ Sep w0 w' [N, bx g0 78 [u0, .bool r.2.2]] Z ∧ Rd Kd.u8 (A.un N) u0 r.2.1) := by
 unfold hocketref1_Reader_Num.f at H
 refine f_enter _ Try.func50 rfl Try.ntmps50 rfl fun a h=>?_
 replace h : Fr 75 a [(0, .pointer (some ⟨g0, 0, none⟩)), (1, iV x1)] := h
 replace hS := hS.start
 refine qr <| sg h rfl fun a h=>nx <| qr <| sg h rfl fun a h=>sg h rfl fun a h=>nx <| c_seq fun KJ_1 hKJ_1 => ?_
 have hJ_j_1 : ∀ (x_1 : Bool), hocketref1_Reader_Num.J1 K x0_B x_1 = some r → ∀ (a : Act) (w_1 : World), (∃ (N_1 : Mem), Fr 75 a [(4, iV 0)] ∧ Sep w0 w_1 [N_1, bx g0 78 [p0_0, .bool x_1]] Z ∧ Mem.no.le N_1) → KJ_1 a w_1 := by
  clear H h hS a
  rintro x_1 H a w_1 ⟨N_1, h, hS, le_1⟩
  unfold hocketref1_Reader_Num.J1 at H
  refine hKJ_1 _ _ <| qr <| sg h rfl fun a h=>nx <| wp_ret ?_
  obtain rfl := Option.some.inj H
  exact r1 h 4 rfl rfl ⟨_, rfl, p0_0, N_1, rfl, (hS.sel [0, 1] (by decide)), (hp0_0.mono (Mem.le_un _ _))⟩
 clear hKJ_1
 refine c_block <| c_loop (fun k_1 a w_2 => ∃ (x_2 : Int) (x_3 : Int) (N_2 : Mem), hocketref1_Reader_Num.L1 K x0_Bad x0_B x1 (fun v => hocketref1_Reader_Num.J1 K x0_B v) k_1 (x_2, x_3) = some r ∧ Fr 75 a [(0, .pointer (some ⟨g0, 0, none⟩)), (1, iV x1), (4, iV 0), (5, .int .u64 x_2), (6, iV x_3)] ∧ Sep w0 w_2 [N_2, bx g0 78 [p0_0, .bool x0_Bad]] Z ∧ Mem.no.le N_2) K ⟨0, 0, Mem.no, H, (h.keep [0, 1, 4, 5, 6]), (hS.sel [0, 1] (by decide)), mr⟩ (fun a w h => by obtain ⟨_, _, _, H, _⟩ := h; cases (show (none : Option (Int × (List UInt8) × Bool)) = some r from H)) ?_
 clear h hS a H
 rintro k_1 a w_2 KL_1 hKL_1 ⟨x_2, x_3, N_2, H, h, hS, le_2⟩
 replace H : hocketref1_Reader_Num.B1 K x0_Bad x0_B x1 (fun v => hocketref1_Reader_Num.J1 K x0_B v) (hocketref1_Reader_Num.L1 K x0_Bad x0_B x1 (fun v => hocketref1_Reader_Num.J1 K x0_B v) k_1) x_2 x_3 = some r := H
 unfold hocketref1_Reader_Num.B1 at H
 refine c_seq fun KJ_2 hKJ_2 => qr <| mv h rfl fun a h=>s_nilCheck h rfl rfl fun a h=>s_fieldAddr h rfl U78 rfl ti4 rfl rfl fun a h=>s_load h rfl rfl (hS.load_one (p := 1) rfl U4 rfl rfl) fun a h=>s_not h rfl rfl fun a h=>wpList_nil <| x_then_n ?_
 obtain ⟨hc_1, H⟩ | ⟨hc_1, H⟩ := ii H
 ·refine c_cond_f h rfl (nf hc_1) <| wp_exit (x_then_x (x_then_x (x_block_t ?_)))
  exact x_then_n (hJ_j_1 x0_Bad H _ _ ⟨N_2, (h.keep [4]), (hS.sel [0, 1] (by decide)), le_2⟩)
 ·refine c_cond_t h rfl (nt (ef hc_1)) <| wp_skip <| x_then_n (hKJ_2 _ _ ?_)
  refine c_block <| c_seq fun KJ_3 hKJ_3 => c_seq fun KJ_4 hKJ_4 => ?_
  have hJ_j_2 : ∀ (x_4 : Bool), hocketref1_Reader_Num.J2 K (fun v => hocketref1_Reader_Num.J1 K x0_B v) x0_B x_3 x_2 x0_Bad x1 (hocketref1_Reader_Num.L1 K x0_Bad x0_B x1 (fun v => hocketref1_Reader_Num.J1 K x0_B v) k_1) x_4 = some r → ∀ (a : Act) (w_3 : World), (∃ (N_3 : Mem), Fr 75 a [(0, .pointer (some ⟨g0, 0, none⟩)), (1, iV x1), (4, iV 0), (5, .int .u64 x_2), (6, iV x_3), (23, .bool x_4)] ∧ Sep w0 w_3 [N_3, bx g0 78 [p0_0, .bool x0_Bad]] Z ∧ N_2.le N_3) → KJ_4 a w_3 := by
   clear H h hS a
   rintro x_4 H a w_3 ⟨N_3, h, hS, le_3⟩
   unfold hocketref1_Reader_Num.J2 at H
   refine hKJ_4 _ _ ?_
   obtain ⟨hc_2, H⟩ | ⟨hc_2, H⟩ := ii H
   ·refine c_cond_t h rfl hc_2 <| qr <| mv h rfl fun a h=>s_nilCheck h rfl rfl fun a h=>s_fieldAddr h rfl U78 rfl ti4 rfl rfl fun a h=>?_
    refine sto 1 h rfl rfl hS rfl ti4 rfl rfl rfl (oz rfl) fun w_4 hS' => ?_
    replace hS : Sep w0 w_4 [_, bx g0 78 [_, .bool true]] Z := hS'
    refine wpList_nil ?_
    replace h : Fr 75 a [(0, _), (1, _), (4, _), (5, _), (6, _)] := h.keep [0, 1, 4, 5, 6]
    refine x_then_n <| wp_exit (x_then_x (x_block_x rfl (x_then_x (x_block_t ?_))))
    exact x_then_n (hJ_j_1 true H _ _ ⟨N_3, (h.keep [4]), (hS.sel [0, 1] (by decide)), (le_2.trans le_3)⟩)
   ·refine c_cond_f h rfl (ef hc_2) <| wp_skip <| x_then_n (hKJ_3 _ _ ?_)
    refine qr <| mv h rfl fun a h=>s_nilCheck h rfl rfl fun a h=>s_fieldAddr h rfl U78 rfl ti26 rfl rfl fun a h=>s_load h rfl rfl (hS.load_one (p := 1) rfl U26 rfl rfl) fun a h=>mv h rfl fun a h=>?_
    obtain ⟨t_1, et_1, H⟩ := bs H
    refine v_index h rfl U26 ti5 rfl rfl rfl hp0_0 (hA.trans hS.old) et_1 fun ad_1 cs_1 hk_1 hc_3 => ?_
    obtain rfl := (show cs_1 = [.int .u8 (t_1.toNat : Int)] from hk_1)
    intro a h
    refine s_load h rfl rfl (el_one (o := 0) hc_3 U5 rfl rfl) fun a h=>sg h rfl fun a h=>wpList_nil ?_
    replace h : Fr 75 a [(0, _), (1, _), (4, _), (5, _), (6, _), (7, .int .u8 (t_1.toNat : Int))] := h.keep [0, 1, 4, 5, 6, 7]
    refine x_then_n <| qr <| mv h rfl fun a h=>mv h rfl fun a h=>s_bits (i := (t_1.toNat : Int)) (j := ((127 : UInt8).toNat : Int)) (r := ((t_1 &&& (127 : UInt8)).toNat : Int)) h rfl rfl rfl (.inl ⟨rfl, (band8 _ _).symm⟩) fun a h=>s_conv (wu64 ((t_1 &&& (127 : UInt8)).toNat : Int)) h rfl U5 U86 rfl rfl fun a h=>mv h rfl fun a h=>s_arith (r := w64 (7 * x_3)) h rfl rfl rfl (.inr (.inr ⟨rfl, rfl⟩)) fun a h=>s_conv (wu64 (w64 (7 * x_3))) h rfl U3 U48 rfl rfl fun a h=>s_shift (r := shl .u64 (wu64 ((t_1 &&& (127 : UInt8)).toNat : Int)) (wu64 (w64 (7 * x_3)))) h rfl rfl rfl (wu64_nn _) (.inl ⟨rfl, rfl⟩) fun a h=>s_bits (i := x_2) (j := shl .u64 (wu64 ((t_1 &&& (127 : UInt8)).toNat : Int)) (wu64 (w64 (7 * x_3)))) (r := bor .u64 x_2 (shl .u64 (wu64 ((t_1 &&& (127 : UInt8)).toNat : Int)) (wu64 (w64 (7 * x_3))))) h rfl rfl rfl (.inr (.inl ⟨rfl, rfl⟩)) fun a h=>?_
    refine sg h rfl fun a h=>nx <| qr <| mv h rfl fun a h=>s_arith (r := w64 (x_3 + 1)) h rfl rfl rfl (.inl ⟨rfl, rfl⟩) fun a h=>sg h rfl fun a h=>nx <| qr <| mv h rfl fun a h=>?_
    refine s_cmp (b := decide ((t_1.toNat : Int) < ((128 : UInt8).toNat : Int))) h rfl rfl rfl (.inr (.inr (.inl ⟨rfl, rfl⟩))) fun a h=>wpList_nil <| x_then_n ?_
    obtain ⟨hc_4, H⟩ | ⟨hc_4, H⟩ := ii H
    ·refine c_cond_t h rfl (dt hc_4) <| c_seq fun KJ_5 hKJ_5 => c_seq fun KJ_6 hKJ_6 => ?_
     have hJ_j_3 : ∀ (x_5 : Bool), hocketref1_Reader_Num.J3 K (fun v => hocketref1_Reader_Num.J1 K x0_B v) x0_B x_3 x_2 t_1 x0_Bad x_5 = some r → ∀ (a : Act) (w_5 : World), (∃ (N_4 : Mem), Fr 75 a [(0, .pointer (some ⟨g0, 0, none⟩)), (1, iV x1), (4, iV 0), (5, .int .u64 (bor .u64 x_2 (shl .u64 (wu64 ((t_1 &&& (127 : UInt8)).toNat : Int)) (wu64 (w64 (7 * x_3)))))), (6, iV (w64 (x_3 + 1))), (60, .bool x_5)] ∧ Sep w0 w_5 [N_4, bx g0 78 [p0_0, .bool x0_Bad]] Z ∧ N_3.le N_4) → KJ_6 a w_5 := by
      clear H h hS a
      rintro x_5 H a w_5 ⟨N_4, h, hS, le_4⟩
      unfold hocketref1_Reader_Num.J3 at H
      refine hKJ_6 _ _ ?_
      obtain ⟨hc_5, H⟩ | ⟨hc_5, H⟩ := ii H
      ·refine c_cond_t h rfl hc_5 <| qr <| mv h rfl fun a h=>s_nilCheck h rfl rfl fun a h=>s_fieldAddr h rfl U78 rfl ti4 rfl rfl fun a h=>?_
       refine sto 1 h rfl rfl hS rfl ti4 rfl rfl rfl (oz rfl) fun w_6 hS' => ?_
       replace hS : Sep w0 w_6 [_, bx g0 78 [_, .bool true]] Z := hS'
       refine wpList_nil ?_
       replace h : Fr 75 a [(0, _), (1, _), (4, _), (5, _), (6, _)] := h.keep [0, 1, 4, 5, 6]
       refine x_then_n <| wp_exit (x_then_x (x_block_x rfl (x_then_x (x_block_t ?_))))
       exact x_then_n (hJ_j_1 true H _ _ ⟨N_4, (h.keep [4]), (hS.sel [0, 1] (by decide)), (le_2.trans (le_3.trans le_4))⟩)
      ·refine c_cond_f h rfl (ef hc_5) <| wp_skip <| x_then_n (hKJ_5 _ _ ?_)
       refine qr <| mv h rfl fun a h=>mv h rfl fun a h=>s_nilCheck h rfl rfl fun a h=>s_fieldAddr h rfl U78 rfl ti26 rfl rfl fun a h=>s_load h rfl rfl (hS.load_one (p := 1) rfl U26 rfl rfl) fun a h=>mv h rfl fun a h=>?_
       obtain ⟨t_2, et_2, H⟩ := bs H
       refine s_slice h rfl U26 ti5 rfl rfl hp0_0 rfl rfl et_2 fun v_1 hr_1 a h => s_nilCheck h rfl rfl fun a h=>s_fieldAddr h rfl U78 rfl ti26 rfl rfl fun a h=>?_
       refine sto 1 h rfl rfl hS rfl ti26 hr_1.cellsA rfl rfl (oc hr_1.one on0) fun w_7 hS' => ?_
       replace hS : Sep w0 w_7 [_, bx g0 78 [v_1, _]] Z := hS'
       refine wpList_nil ?_
       replace h : Fr 75 a [(0, _), (1, _), (4, _), (5, _), (6, _)] := h.keep [0, 1, 4, 5, 6]
       refine x_then_n <| qr <| mv h rfl fun a h=>s_conv (w64 (bor .u64 x_2 (shl .u64 (wu64 ((t_1 &&& (127 : UInt8)).toNat : Int)) (wu64 (w64 (7 * x_3)))))) h rfl U86 U3 rfl rfl fun a h=>sg h rfl fun a h=>nx <| wp_ret (x_block_r (x_then_r (x_block_r (x_then_r ?_))))
       obtain rfl := Option.some.inj H
       exact r1 h 4 rfl rfl ⟨_, rfl, v_1, N_4, rfl, (hS.sel [0, 1] (by decide)), (hr_1.mono (Mem.le_un _ _))⟩
     clear hKJ_6
     refine wp_region_lit <| mv h rfl fun a h=>s_cmp (b := ((t_1.toNat : Int) == ((0 : UInt8).toNat : Int))) h rfl rfl rfl (.inl ⟨rfl, rfl⟩) fun a h=>mv h rfl fun a h=>?_
     obtain ⟨hc_6, H⟩ | ⟨hc_6, H⟩ := ii H
     ·refine s_on h rfl rfl (bt hc_6) <| mv h rfl fun a h=>s_on h rfl rfl (bt hc_6) <| s_cmp (b := decide ((w64 (x_3 + 1)) > 1)) h rfl rfl rfl (.inr (.inr (.inr (.inr (.inl ⟨rfl, rfl⟩))))) fun a h=>pt h rfl (bt hc_6) fun a h=>mv h rfl fun a h=>?_
      obtain ⟨hc_7, H⟩ | ⟨hc_7, H⟩ := ii H
      ·refine of h rfl rfl (dt hc_7) fun a h=>of h rfl rfl (dt hc_7) fun a h=>of h rfl rfl (dt hc_7) fun a h=>of h rfl rfl (dt hc_7) fun a h=>of h rfl rfl (dt hc_7) fun a h=>of h rfl rfl (dt hc_7) fun a h=>pt h rfl (dt hc_7) fun a h=>wpList_nil ?_
       replace h : Fr 75 a [(0, _), (1, _), (4, _), (5, .int .u64 (bor .u64 x_2 (shl .u64 (wu64 ((t_1 &&& (127 : UInt8)).toNat : Int)) (wu64 (w64 (7 * x_3)))))), (6, iV (w64 (x_3 + 1))), (60, .bool true)] := h.keep [0, 1, 4, 5, 6, 60]
       exact x_then_n (hJ_j_3 true H _ _ ⟨N_3, (h.keep [0, 1, 4, 5, 6, 60]), (hS.sel [0, 1] (by decide)), mr⟩)
      ·refine s_on h rfl rfl (df hc_7) <| mv h rfl fun a h=>s_on h rfl rfl (df hc_7) <| mv h rfl fun a h=>s_on h rfl rfl (df hc_7) <| s_max h rfl rfl rfl fun a h=>s_on h rfl rfl (df hc_7) <| s_min h rfl rfl rfl fun a h=>s_on h rfl rfl (df hc_7) <| s_conv (wu64 (mn (mx x1 0) 4611686018427387904)) h rfl U3 U86 rfl rfl fun a h=>s_on h rfl rfl (df hc_7) <| s_cmp (b := decide ((bor .u64 x_2 (shl .u64 (wu64 ((t_1 &&& (127 : UInt8)).toNat : Int)) (wu64 (w64 (7 * x_3))))) > (wu64 (mn (mx x1 0) 4611686018427387904)))) h rfl rfl rfl (.inr (.inr (.inr (.inr (.inl ⟨rfl, rfl⟩))))) fun a h=>?_
       refine pf h rfl (df hc_7) fun a h=>wpList_nil ?_
       replace h : Fr 75 a [(0, _), (1, _), (4, _), (5, .int .u64 (bor .u64 x_2 (shl .u64 (wu64 ((t_1 &&& (127 : UInt8)).toNat : Int)) (wu64 (w64 (7 * x_3)))))), (6, iV (w64 (x_3 + 1))), (60, .bool (decide ((bor .u64 x_2 (shl .u64 (wu64 ((t_1 &&& (127 : UInt8)).toNat : Int)) (wu64 (w64 (7 * x_3))))) > (wu64 (mn (mx x1 0) 4611686018427387904)))))] := h.keep [0, 1, 4, 5, 6, 60]
       exact x_then_n (hJ_j_3 (decide ((bor .u64 x_2 (shl .u64 (wu64 ((t_1 &&& (127 : UInt8)).toNat : Int)) (wu64 (w64 (7 * x_3))))) > (wu64 (mn (mx x1 0) 4611686018427387904)))) H _ _ ⟨N_3, (h.keep [0, 1, 4, 5, 6, 60]), (hS.sel [0, 1] (by decide)), mr⟩)
     ·refine of h rfl rfl (bf hc_6) fun a h=>of h rfl rfl (bf hc_6) fun a h=>pf h rfl (bf hc_6) fun a h=>mv h rfl fun a h=>s_on h rfl rfl rfl <| mv h rfl fun a h=>s_on h rfl rfl rfl <| mv h rfl fun a h=>s_on h rfl rfl rfl <| s_max h rfl rfl rfl fun a h=>s_on h rfl rfl rfl <| s_min h rfl rfl rfl fun a h=>?_
      refine s_on h rfl rfl rfl <| s_conv (wu64 (mn (mx x1 0) 4611686018427387904)) h rfl U3 U86 rfl rfl fun a h=>s_on h rfl rfl rfl <| s_cmp (b := decide ((bor .u64 x_2 (shl .u64 (wu64 ((t_1 &&& (127 : UInt8)).toNat : Int)) (wu64 (w64 (7 * x_3))))) > (wu64 (mn (mx x1 0) 4611686018427387904)))) h rfl rfl rfl (.inr (.inr (.inr (.inr (.inl ⟨rfl, rfl⟩))))) fun a h=>pf h rfl rfl fun a h=>wpList_nil ?_
      replace h : Fr 75 a [(0, _), (1, _), (4, _), (5, .int .u64 (bor .u64 x_2 (shl .u64 (wu64 ((t_1 &&& (127 : UInt8)).toNat : Int)) (wu64 (w64 (7 * x_3)))))), (6, iV (w64 (x_3 + 1))), (60, .bool (decide ((bor .u64 x_2 (shl .u64 (wu64 ((t_1 &&& (127 : UInt8)).toNat : Int)) (wu64 (w64 (7 * x_3))))) > (wu64 (mn (mx x1 0) 4611686018427387904)))))] := h.keep [0, 1, 4, 5, 6, 60]
      exact x_then_n (hJ_j_3 (decide ((bor .u64 x_2 (shl .u64 (wu64 ((t_1 &&& (127 : UInt8)).toNat : Int)) (wu64 (w64 (7 * x_3))))) > (wu64 (mn (mx x1 0) 4611686018427387904)))) H _ _ ⟨N_3, (h.keep [0, 1, 4, 5, 6, 60]), (hS.sel [0, 1] (by decide)), mr⟩)
    ·refine c_cond_f h rfl (df hc_4) <| wp_skip <| x_block_n <| x_then_n (hKL_1 _ _ ?_)
     exact ⟨bor .u64 x_2 (shl .u64 (wu64 ((t_1 &&& (127 : UInt8)).toNat : Int)) (wu64 (w64 (7 * x_3)))), w64 (x_3 + 1), N_3, H, (h.keep [0, 1, 4, 5, 6]), (hS.sel [0, 1] (by decide)), (le_2.trans le_3)⟩
  clear hKJ_4
  refine wp_region_lit <| mv h rfl fun a h=>mv h rfl fun a h=>s_nilCheck h rfl rfl fun a h=>s_fieldAddr h rfl U78 rfl ti26 rfl rfl fun a h=>s_load h rfl rfl (hS.load_one (p := 1) rfl U26 rfl rfl) fun a h=>s_len h rfl U26 rfl hp0_0 fun a h=>s_cmp (b := decide (x_3 ≥ (x0_B.length : Int))) h rfl rfl rfl (.inr (.inr (.inr (.inr (.inr ⟨rfl, rfl⟩))))) fun a h=>mv h rfl fun a h=>?_
  obtain ⟨hc_8, H⟩ | ⟨hc_8, H⟩ := ii H
  ·refine of h rfl rfl (dt hc_8) fun a h=>of h rfl rfl (dt hc_8) fun a h=>pt h rfl (dt hc_8) fun a h=>wpList_nil ?_
   replace h : Fr 75 a [(0, _), (1, _), (4, _), (5, _), (6, _), (23, .bool true)] := h.keep [0, 1, 4, 5, 6, 23]
   exact x_then_n (hJ_j_2 true H _ _ ⟨N_2, (h.keep [0, 1, 4, 5, 6, 23]), (hS.sel [0, 1] (by decide)), mr⟩)
  ·refine s_on h rfl rfl (df hc_8) <| mv h rfl fun a h=>s_on h rfl rfl (df hc_8) <| s_cmp (b := decide (x_3 > 8)) h rfl rfl rfl (.inr (.inr (.inr (.inr (.inl ⟨rfl, rfl⟩))))) fun a h=>pf h rfl (df hc_8) fun a h=>wpList_nil ?_
   replace h : Fr 75 a [(0, _), (1, _), (4, _), (5, _), (6, _), (23, .bool (decide (x_3 > 8)))] := h.keep [0, 1, 4, 5, 6, 23]
   exact x_then_n (hJ_j_2 (decide (x_3 > 8)) H _ _ ⟨N_2, (h.keep [0, 1, 4, 5, 6, 23]), (hS.sel [0, 1] (by decide)), mr⟩)

set_option maxHeartbeats 4000000 in
set_option maxRecDepth 20000 in
theorem hocketref1_Reader_Bytes.calls (K : Nat) (g0 : Nat) (x0_B : List UInt8) (p0_0 : Value) (x0_Bad : Bool) (x1 : Int) (r : (List UInt8) × (List UInt8) × Bool) (w0 w : World) (Z A : Mem) (hA : A.le Z) (hS : Sep w0 w [bx g0 78 [p0_0, .bool x0_Bad]] Z) (hp0_0 : Rd Kd.u8 A p0_0 x0_B)
    (H : hocketref1_Reader_Bytes.f K x0_B x0_Bad x1 = some r) :
    Calls Try.prog 51 [.pointer (some ⟨g0, 0, none⟩), iV x1].toArray w (Ret fun v w' => ∃ (u0 : Value) (u1 : Value) (N : Mem) (M0 : Mem), v = u0 ∧ Sep w0 w' [N, bx g0 78 [u1, .bool r.2.2], M0] Z ∧ Own Kd.u8 5 M0 Mem.no u0 r.1 ∧ Rd Kd.u8 (A.un N) u1 r.2.1) := by
 unfold hocketref1_Reader_Bytes.f at H
 refine f_enter _ Try.func51 rfl Try.ntmps51 rfl fun a h=>?_
 replace h : Fr 53 a [(0, .pointer (some ⟨g0, 0, none⟩)), (1, iV x1)] := h
 replace hS := hS.start
 refine qr <| sg h rfl fun a h=>nx <| qr <| mv h rfl fun a h=>s_nilCheck h rfl rfl fun a h=>s_fieldAddr h rfl U78 rfl ti26 rfl rfl fun a h=>s_load h rfl rfl (hS.load_one (p := 1) rfl U26 rfl rfl) fun a h=>sg h rfl fun a h=>?_
 refine nx <| qr <| mv h rfl fun a h=>mv h rfl fun a h=>?_
 obtain ⟨t_1, et_1, H⟩ := bs H
 refine s_call h rfl Try.call50 rfl (hocketref1_Reader_Num.calls K _ x0_B _ x0_Bad x1 t_1 w0 _ _ A (hA.trans (hS.le_zed [0])) (hS.enter [0] (by decide)) hp0_0 et_1) ?_
 rintro _ w_1 ⟨v_1, N_1, rfl, hS', hr_1⟩
 intro a h
 obtain ⟨N_2, hS'', le_1, ln_1⟩ := hS.call [0] (by decide) rfl (l' := [_]) (ow := []) rfl hS'
 replace hS : Sep w0 w_1 [N_2, _] Z := hS''
 have hr_2 : Rd Kd.u8 (A.un N_2) v_1 t_1.2.1 := hr_1.mono (Mem.un_left ln_1)
 refine sg h rfl fun a h=>nx <| c_seq fun KJ_1 hKJ_1 => c_seq fun KJ_2 hKJ_2 => ?_
 have hJ_j_1 : ∀ (x_1 : Bool), hocketref1_Reader_Bytes.J1 K x0_B t_1 x_1 = some r → ∀ (a : Act) (w_2 : World), (∃ (N_3 : Mem), Fr 53 a [(0, .pointer (some ⟨g0, 0, none⟩)), (4, nS), (5, p0_0), (6, iV t_1.1), (27, .bool x_1)] ∧ Sep w0 w_2 [N_3, bx g0 78 [v_1, .bool t_1.2.2]] Z ∧ N_2.le N_3) → KJ_2 a w_2 := by
  clear H h hS a
  rintro x_1 H a w_2 ⟨N_3, h, hS, le_2⟩
  unfold hocketref1_Reader_Bytes.J1 at H
  refine hKJ_2 _ _ ?_
  obtain ⟨hc_1, H⟩ | ⟨hc_1, H⟩ := ii H
  ·refine c_cond_t h rfl hc_1 <| qr <| mv h rfl fun a h=>mv h rfl fun a h=>mv h rfl fun a h=>s_nilCheck h rfl rfl fun a h=>s_fieldAddr h rfl U78 rfl ti4 rfl rfl fun a h=>?_
   refine sto 1 h rfl rfl hS rfl ti4 rfl rfl rfl (oz rfl) fun w_3 hS' => ?_
   replace hS : Sep w0 w_3 [_, bx g0 78 [_, .bool true]] Z := hS'
   refine s_nilCheck h rfl rfl fun a h=>s_fieldAddr h rfl U78 rfl ti26 rfl rfl fun a h=>?_
   refine sto 1 h rfl rfl hS rfl ti26 hp0_0.cellsA rfl rfl (oc hp0_0.one on0) fun w_4 hS' => ?_
   replace hS : Sep w0 w_4 [_, bx g0 78 [p0_0, _]] Z := hS'
   refine wpList_nil ?_
   replace h : Fr 53 a [(0, _), (4, _), (6, _)] := h.keep [0, 4, 6]
   refine x_then_n <| qr <| sg h rfl fun a h=>nx <| wp_ret (x_then_r ?_)
   have hS' := hS.room
   replace hS : Sep w0 w_4 [_, _, Mem.no] Z := hS'
   obtain rfl := Option.some.inj H
   exact r1 h 4 rfl rfl ⟨_, rfl, nS, p0_0, N_3, Mem.no, rfl, (hS.sel [0, 1, 2] (by decide)), (Own.nil Kd.u8 5 Mem.no), (hp0_0.mono (Mem.le_un _ _))⟩
  ·refine c_cond_f h rfl (ef hc_1) <| wp_skip <| x_then_n (hKJ_1 _ _ ?_)
   refine wp_seq <| wp_region_lit ?_
   have hq_1 : Reps Kd.u8 Mem.no ([] : List UInt8) _ := (Reps.nil Kd.u8 _)
   refine s_buildSlice h rfl U26 ti5 rfl rfl rfl .nil rfl rfl rfl hS hq_1 rfl fun w_5 v_2 M_1 hS' ho_1 a h => ?_
   replace hS : Sep w0 w_5 [_, _, M_1] Z := hS'
   refine mv h rfl fun a h=>s_nilCheck h rfl rfl fun a h=>s_fieldAddr h rfl U78 rfl ti26 rfl rfl fun a h=>s_load h rfl rfl (hS.load_one (p := 1) rfl U26 rfl rfl) fun a h=>mv h rfl fun a h=>?_
   obtain ⟨t_2, et_2, H⟩ := bs H
   refine s_slice h rfl U26 ti5 rfl rfl hr_2 rfl rfl et_2 fun v_3 hr_3 a h => ?_
   obtain ⟨t_3, et_3, H⟩ := bs H
   refine s_append (J := Mem.no) (I' := Mem.no) (p := 2) 140737488355328 h rfl rfl rfl U26 ti5 rfl rfl rfl rfl hS rfl ho_1 (Src.flat flat_u8 (hr_3.src (Mem.un_le (hA.trans hS.old) (le_2.trans (hS.own 0))))) mr mr et_3 fun w_6 v_4 M_2 hS' ho_2 a h => ?_
   replace hS : Sep w0 w_6 [_, _, M_2] Z := hS'
   refine sg h rfl fun a h=>wpList_nil ?_
   replace h : Fr 53 a [(0, _), (4, _), (6, _), (7, v_4)] := h.keep [0, 4, 6, 7]
   refine x_then_n <| qr <| mv h rfl fun a h=>mv h rfl fun a h=>s_nilCheck h rfl rfl fun a h=>s_fieldAddr h rfl U78 rfl ti26 rfl rfl fun a h=>s_load h rfl rfl (hS.load_one (p := 1) rfl U26 rfl rfl) fun a h=>mv h rfl fun a h=>?_
   obtain ⟨t_4, et_4, H⟩ := bs H
   refine s_slice h rfl U26 ti5 rfl rfl hr_2 rfl rfl et_4 fun v_5 hr_4 a h => s_nilCheck h rfl rfl fun a h=>s_fieldAddr h rfl U78 rfl ti26 rfl rfl fun a h=>?_
   refine sto 1 h rfl rfl hS rfl ti26 hr_4.cellsA rfl rfl (oc hr_4.one on0) fun w_7 hS' => ?_
   replace hS : Sep w0 w_7 [_, bx g0 78 [v_5, _], _] Z := hS'
   refine nx <| qr <| mv h rfl fun a h=>sg h rfl fun a h=>nx <| wp_ret ?_
   obtain rfl := Option.some.inj H
   exact r1 h 4 rfl rfl ⟨_, rfl, v_4, v_5, N_3, M_2, rfl, (hS.sel [0, 1, 2] (by decide)), ho_2, (hr_4.mono (Mem.un_left le_2))⟩
 clear hKJ_2
 refine wp_region_lit <| mv h rfl fun a h=>s_nilCheck h rfl rfl fun a h=>s_fieldAddr h rfl U78 rfl ti4 rfl rfl fun a h=>s_load h rfl rfl (hS.load_one (p := 1) rfl U4 rfl rfl) fun a h=>mv h rfl fun a h=>?_
 obtain ⟨hc_2, H⟩ | ⟨hc_2, H⟩ := ii H
 ·refine of h rfl rfl hc_2 fun a h=>of h rfl rfl hc_2 fun a h=>of h rfl rfl hc_2 fun a h=>of h rfl rfl hc_2 fun a h=>of h rfl rfl hc_2 fun a h=>of h rfl rfl hc_2 fun a h=>of h rfl rfl hc_2 fun a h=>pt h rfl hc_2 fun a h=>wpList_nil ?_
  replace h : Fr 53 a [(0, _), (4, nS), (5, p0_0), (6, iV t_1.1), (27, .bool true)] := h.keep [0, 4, 5, 6, 27]
  exact x_then_n (hJ_j_1 true H _ _ ⟨N_2, (h.keep [0, 4, 5, 6, 27]), (hS.sel [0, 1] (by decide)), mr⟩)
 ·refine s_on h rfl rfl (ef hc_2) <| mv h rfl fun a h=>s_on h rfl rfl (ef hc_2) <| mv h rfl fun a h=>s_on h rfl rfl (ef hc_2) <| s_nilCheck h rfl rfl fun a h=>s_on h rfl rfl (ef hc_2) <| s_fieldAddr h rfl U78 rfl ti26 rfl rfl fun a h=>s_on h rfl rfl (ef hc_2) <| s_load h rfl rfl (hS.load_one (p := 1) rfl U26 rfl rfl) fun a h=>s_on h rfl rfl (ef hc_2) <| s_len h rfl U26 rfl hr_2 fun a h=>?_
  refine s_on h rfl rfl (ef hc_2) <| s_cmp (b := decide (t_1.1 > (t_1.2.1.length : Int))) h rfl rfl rfl (.inr (.inr (.inr (.inr (.inl ⟨rfl, rfl⟩))))) fun a h=>pf h rfl (ef hc_2) fun a h=>wpList_nil ?_
  replace h : Fr 53 a [(0, _), (4, nS), (5, p0_0), (6, iV t_1.1), (27, .bool (decide (t_1.1 > (t_1.2.1.length : Int))))] := h.keep [0, 4, 5, 6, 27]
  exact x_then_n (hJ_j_1 (decide (t_1.1 > (t_1.2.1.length : Int))) H _ _ ⟨N_2, (h.keep [0, 4, 5, 6, 27]), (hS.sel [0, 1] (by decide)), mr⟩)

set_option maxHeartbeats 4000000 in
set_option maxRecDepth 20000 in
theorem hocketref11_row.calls (K : Nat) (g0 : Nat) (x0_B : List UInt8) (p0_0 : Value) (x0_Bad : Bool) (x1 : Int) (r : (List Int) × (List UInt8) × Bool) (w0 w : World) (Z A : Mem) (hA : A.le Z) (hS : Sep w0 w [bx g0 78 [p0_0, .bool x0_Bad]] Z) (hp0_0 : Rd Kd.u8 A p0_0 x0_B)
    (H : hocketref11_row.f K x0_B x0_Bad x1 = some r) :
    Calls Try.prog 52 [.pointer (some ⟨g0, 0, none⟩), iV x1].toArray w (Ret fun v w' => ∃ (u0 : Value) (u1 : Value) (N : Mem) (M0 : Mem), v = u0 ∧ Sep w0 w' [N, bx g0 78 [u1, .bool r.2.2], M0] Z ∧ Own (Kd.int .i64) 3 M0 Mem.no u0 r.1 ∧ Rd Kd.u8 (A.un N) u1 r.2.1) := by
 unfold hocketref11_row.f at H
 refine f_enter _ Try.func52 rfl Try.ntmps52 rfl fun a h=>?_
 replace h : Fr 20 a [(0, .pointer (some ⟨g0, 0, none⟩)), (1, iV x1)] := h
 replace hS := hS.start
 refine qr <| sg h rfl fun a h=>nx <| qr <| sg h rfl fun a h=>nx <| c_seq fun KJ_1 hKJ_1 => wp_seq <| wp_region_lit ?_
 refine mv h rfl fun a h=>mv h rfl fun a h=>?_
 obtain ⟨t_1, et_1, H⟩ := bs H
 refine s_call h rfl Try.call50 rfl (hocketref1_Reader_Num.calls K _ x0_B _ x0_Bad x1 t_1 w0 _ _ A (hA.trans (hS.le_zed [0])) (hS.enter [0] (by decide)) hp0_0 et_1) ?_
 rintro _ w_1 ⟨v_1, N_1, rfl, hS', hr_1⟩
 intro a h
 obtain ⟨N_2, hS'', le_1, ln_1⟩ := hS.call [0] (by decide) rfl (l' := [_]) (ow := []) rfl hS'
 replace hS : Sep w0 w_1 [N_2, _] Z := hS''
 have hr_2 : Rd Kd.u8 (A.un N_2) v_1 t_1.2.1 := hr_1.mono (Mem.un_left ln_1)
 refine sg h rfl fun a h=>wpList_nil <| x_then_n ?_
 have hJ_j_1 : ∀ (x_1 : List Int), ∀ (x_2 : List UInt8), ∀ (x_3 : Bool), hocketref11_row.J1 K x_1 x_2 x_3 = some r → ∀ (a : Act) (w_2 : World), (∃ (v_2 : Value) (v_3 : Value) (N_3 : Mem) (M_1 : Mem), Fr 20 a [(4, nS), (5, v_2)] ∧ Sep w0 w_2 [N_3, bx g0 78 [v_3, .bool x_3], M_1] Z ∧ N_2.le N_3 ∧ Own (Kd.int .i64) 3 M_1 Mem.no v_2 x_1 ∧ Rd Kd.u8 (A.un N_3) v_3 x_2) → KJ_1 a w_2 := by
  clear H h hS a
  rintro x_1 x_2 x_3 H a w_2 ⟨v_2, v_3, N_3, M_1, h, hS, le_2, ho_1, hr_3⟩
  unfold hocketref11_row.J1 at H
  refine hKJ_1 _ _ <| qr <| mv h rfl fun a h=>sg h rfl fun a h=>wpList_nil ?_
  replace h : Fr 20 a [(4, v_2)] := h.keep [4]
  refine x_then_n <| wp_ret ?_
  obtain rfl := Option.some.inj H
  exact r1 h 4 rfl rfl ⟨_, rfl, v_2, v_3, N_3, M_1, rfl, (hS.sel [0, 1, 2] (by decide)), ho_1, hr_3⟩
 clear hKJ_1
 have hS' := hS.room
 replace hS : Sep w0 w_1 [_, _, Mem.no] Z := hS'
 refine c_block <| c_loop (fun k_1 a w_3 => ∃ (x_4 : List Int) (x_5 : Int) (x_6 : List UInt8) (x_7 : Bool) (v_4 : Value) (v_5 : Value) (N_4 : Mem) (M_2 : Mem), hocketref11_row.L1 K (fun v => hocketref11_row.J1 K v.1 v.2.1 v.2.2) k_1 (x_4, x_5, x_6, x_7) = some r ∧ Fr 20 a [(0, .pointer (some ⟨g0, 0, none⟩)), (4, nS), (5, v_4), (6, iV x_5)] ∧ Sep w0 w_3 [N_4, bx g0 78 [v_5, .bool x_7], M_2] Z ∧ N_2.le N_4 ∧ Own (Kd.int .i64) 3 M_2 Mem.no v_4 x_4 ∧ Rd Kd.u8 (A.un N_4) v_5 x_6) K ⟨([] : List Int), t_1.1, t_1.2.1, t_1.2.2, nS, v_1, N_2, Mem.no, H, (h.keep [0, 4, 5, 6]), (hS.sel [0, 1, 2] (by decide)), mr, (Own.nil (Kd.int .i64) 3 Mem.no), hr_2⟩ (fun a w h => by obtain ⟨_, _, _, _, _, _, _, _, H, _⟩ := h; cases (show (none : Option ((List Int) × (List UInt8) × Bool)) = some r from H)) ?_
 clear h hS a H
 rintro k_1 a w_3 KL_1 hKL_1 ⟨x_4, x_5, x_6, x_7, v_4, v_5, N_4, M_2, H, h, hS, le_3, ho_2, hr_4⟩
 replace H : hocketref11_row.B1 K (fun v => hocketref11_row.J1 K v.1 v.2.1 v.2.2) (hocketref11_row.L1 K (fun v => hocketref11_row.J1 K v.1 v.2.1 v.2.2) k_1) x_4 x_5 x_6 x_7 = some r := H
 unfold hocketref11_row.B1 at H
 refine c_seq fun KJ_2 hKJ_2 => qr <| mv h rfl fun a h=>s_cmp (b := decide (x_5 > 0)) h rfl rfl rfl (.inr (.inr (.inr (.inr (.inl ⟨rfl, rfl⟩))))) fun a h=>wpList_nil ?_
 replace h : Fr 20 a [(0, _), (4, _), (5, _), (6, _), (11, .bool (decide (x_5 > 0)))] := h.keep [0, 4, 5, 6, 11]
 refine x_then_n ?_
 obtain ⟨hc_1, H⟩ | ⟨hc_1, H⟩ := ii H
 ·refine c_cond_t h rfl (dt hc_1) <| wp_skip <| x_then_n (hKJ_2 _ _ ?_)
  refine wp_seq <| c_block <| wp_region_lit <| mv h rfl fun a h=>mv h rfl fun a h=>?_
  obtain ⟨t_2, et_2, H⟩ := bs H
  refine s_call h rfl Try.call50 rfl (hocketref1_Reader_Num.calls K _ x_6 _ x_7 1099511627776 t_2 w0 _ _ (A.un N_4) (Mem.un_le (hA.trans (hS.le_zed [0])) (hS.new_zed [0])) (hS.enter [0] (by decide)) hr_4 et_2) ?_
  rintro _ w_4 ⟨v_6, N_5, rfl, hS', hr_5⟩
  intro a h
  obtain ⟨N_6, hS'', le_4, ln_2⟩ := hS.call [0] (by decide) rfl (l' := [_]) (ow := []) rfl hS'
  replace hS : Sep w0 w_4 [N_6, _, _] Z := hS''
  have hr_6 : Rd Kd.u8 (A.un N_6) v_6 t_2.2.1 := hr_5.mono (Mem.un_le (Mem.un_left le_4) (ln_2.trans (hS.sndA hA)))
  have hq_1 : Reps (Kd.int .i64) Mem.no ([t_2.1] : List Int) _ := ((Reps.one (d := (Kd.int .i64)) (x := t_2.1) (show (Kd.int .i64).K _ _ [iV t_2.1] from rfl)).append (Reps.nil (Kd.int .i64) _))
  refine s_buildSlice h rfl U22 ti3 rfl rfl rfl (.cons rfl .nil) rfl rfl rfl hS hq_1 rfl fun w_5 v_7 M_3 hS' ho_3 a h => ?_
  replace hS : Sep w0 w_5 [_, _, _, M_3] Z := hS'
  obtain ⟨t_3, et_3, H⟩ := bs H
  refine s_append (J := Mem.no) (I' := Mem.no) (p := 2) 17592186044416 h rfl rfl rfl U22 ti3 rfl rfl rfl rfl hS rfl ho_2 (Src.flat (flat_int .i64) (ho_3.src (hS.own 3))) mr mr et_3 fun w_6 v_8 M_4 hS' ho_4 a h => ?_
  replace hS : Sep w0 w_6 [_, _, M_4, _] Z := hS'
  refine sg h rfl fun a h=>wpList_nil <| x_block_n <| x_then_n <| wp_region_lit <| mv h rfl fun a h=>s_arith (r := w64 (x_5 - 1)) h rfl rfl rfl (.inr (.inl ⟨rfl, rfl⟩)) fun a h=>sg h rfl fun a h=>wpList_nil <| x_then_n (hKL_1 _ _ ?_)
  exact ⟨t_3, w64 (x_5 - 1), t_2.2.1, t_2.2.2, v_8, v_6, N_6, M_4, H, (h.keep [0, 4, 5, 6]), (hS.sel [0, 1, 2] (by decide)), (le_3.trans le_4), ho_4, hr_6⟩
 ·refine c_cond_f h rfl (df hc_1) <| wp_exit (x_then_x (x_then_x (x_block_t ?_)))
  exact x_then_n (hJ_j_1 x_4 x_6 x_7 H _ _ ⟨v_4, v_5, N_4, M_2, (h.keep [4, 5]), (hS.sel [0, 1, 2] (by decide)), le_3, ho_2, hr_4⟩)

set_option maxHeartbeats 4000000 in
set_option maxRecDepth 20000 in
theorem hocketref4_GetEntry.calls (K : Nat) (g0 : Nat) (x0_B : List UInt8) (p0_0 : Value) (x0_Bad : Bool) (r : api_Entry × (List UInt8) × Bool) (w0 w : World) (Z A : Mem) (hA : A.le Z) (hS : Sep w0 w [bx g0 78 [p0_0, .bool x0_Bad]] Z) (hp0_0 : Rd Kd.u8 A p0_0 x0_B)
    (H : hocketref4_GetEntry.f K x0_B x0_Bad = some r) :
    Calls Try.prog 53 [.pointer (some ⟨g0, 0, none⟩)].toArray w (Ret fun v w' => ∃ (u0 : Value) (u1 : Value) (u2 : Value) (u3 : Value) (N : Mem) (M0 : Mem) (M1 : Mem) (M2 : Mem), v = .agg [iV r.1.Sess, iV r.1.Seq, iV r.1.Cmd.Kind, iV r.1.Cmd.Who, u0, u1, u2].toArray ∧ Sep w0 w' [N, bx g0 78 [u3, .bool r.2.2], M0, M1, M2] Z ∧ Own Kd.u8 5 M0 Mem.no u0 r.1.Cmd.Key ∧ Own Kd.u8 5 M1 Mem.no u1 r.1.Cmd.Val ∧ Own Kd.u8 5 M2 Mem.no u2 r.1.Cmd.Old ∧ Rd Kd.u8 (A.un N) u3 r.2.1) := by
 unfold hocketref4_GetEntry.f at H
 refine f_enter _ Try.func53 rfl Try.ntmps53 rfl fun a h=>?_
 replace h : Fr 35 a [(0, .pointer (some ⟨g0, 0, none⟩))] := h
 replace hS := hS.start
 refine qr <| v_alloc h rfl ti30 hS fun w_1 g_1 hS' a h => ?_
 replace hS : Sep w0 w_1 [_, _, bx g_1 30 [iV 0, iV 0, iV 0, iV 0, nS, nS, nS]] Z := hS'
 refine nx <| qr <| mv h rfl fun a h=>?_
 obtain ⟨t_1, et_1, H⟩ := bs H
 refine s_call h rfl Try.call50 rfl (hocketref1_Reader_Num.calls K _ x0_B _ x0_Bad 1073741824 t_1 w0 _ _ A (hA.trans (hS.le_zed [0])) (hS.enter [0] (by decide)) hp0_0 et_1) ?_
 rintro _ w_2 ⟨v_1, N_1, rfl, hS', hr_1⟩
 intro a h
 obtain ⟨N_2, hS'', le_1, ln_1⟩ := hS.call [0] (by decide) rfl (l' := [_]) (ow := []) rfl hS'
 replace hS : Sep w0 w_2 [N_2, _, _] Z := hS''
 have hr_2 : Rd Kd.u8 (A.un N_2) v_1 t_1.2.1 := hr_1.mono (Mem.un_left ln_1)
 refine mv h rfl fun a h=>?_
 obtain ⟨t_2, et_2, H⟩ := bs H
 refine s_call h rfl Try.call50 rfl (hocketref1_Reader_Num.calls K _ t_1.2.1 _ t_1.2.2 1073741824 t_2 w0 _ _ (A.un N_2) (Mem.un_le (hA.trans (hS.le_zed [0])) (hS.new_zed [0])) (hS.enter [0] (by decide)) hr_2 et_2) ?_
 rintro _ w_3 ⟨v_2, N_3, rfl, hS', hr_3⟩
 intro a h
 obtain ⟨N_4, hS'', le_2, ln_2⟩ := hS.call [0] (by decide) rfl (l' := [_]) (ow := []) rfl hS'
 replace hS : Sep w0 w_3 [N_4, _, _] Z := hS''
 have hr_4 : Rd Kd.u8 (A.un N_4) v_2 t_2.2.1 := hr_3.mono (Mem.un_le (Mem.un_left le_2) (ln_2.trans (hS.sndA hA)))
 refine s_build h rfl ti30 pl30 rfl (.cons rfl (.cons rfl .nil)) (cs := [iV t_1.1, iV t_2.1, iV 0, iV 0, nS, nS, nS]) (by kernel_rfl) fun a h=>v_alloc h rfl ti30 hS fun w_4 g_2 hS' a h => ?_
 replace hS : Sep w0 w_4 [_, _, _, bx g_2 30 [iV 0, iV 0, iV 0, iV 0, nS, nS, nS]] Z := hS'
 refine sto 3 h rfl rfl hS rfl ti30 rfl rfl rfl (oz rfl) fun w_5 hS' => ?_
 replace hS : Sep w0 w_5 [_, _, _, bx g_2 30 [iV t_1.1, iV t_2.1, _, _, _, _, _]] Z := hS'
 refine nx <| qr <| mv h rfl fun a h=>?_
 obtain ⟨t_3, et_3, H⟩ := bs H
 refine s_call h rfl Try.call50 rfl (hocketref1_Reader_Num.calls K _ t_2.2.1 _ t_2.2.2 1073741824 t_3 w0 _ _ (A.un N_4) (Mem.un_le (hA.trans (hS.le_zed [0])) (hS.new_zed [0])) (hS.enter [0] (by decide)) hr_4 et_3) ?_
 rintro _ w_6 ⟨v_3, N_5, rfl, hS', hr_5⟩
 intro a h
 obtain ⟨N_6, hS'', le_3, ln_3⟩ := hS.call [0] (by decide) rfl (l' := [_]) (ow := []) rfl hS'
 replace hS : Sep w0 w_6 [N_6, _, _, _] Z := hS''
 have hr_6 : Rd Kd.u8 (A.un N_6) v_3 t_3.2.1 := hr_5.mono (Mem.un_le (Mem.un_left le_3) (ln_3.trans (hS.sndA hA)))
 refine mv h rfl fun a h=>?_
 obtain ⟨t_4, et_4, H⟩ := bs H
 refine s_call h rfl Try.call50 rfl (hocketref1_Reader_Num.calls K _ t_3.2.1 _ t_3.2.2 1073741824 t_4 w0 _ _ (A.un N_6) (Mem.un_le (hA.trans (hS.le_zed [0])) (hS.new_zed [0])) (hS.enter [0] (by decide)) hr_6 et_4) ?_
 rintro _ w_7 ⟨v_4, N_7, rfl, hS', hr_7⟩
 intro a h
 obtain ⟨N_8, hS'', le_4, ln_4⟩ := hS.call [0] (by decide) rfl (l' := [_]) (ow := []) rfl hS'
 replace hS : Sep w0 w_7 [N_8, _, _, _] Z := hS''
 have hr_8 : Rd Kd.u8 (A.un N_8) v_4 t_4.2.1 := hr_7.mono (Mem.un_le (Mem.un_left le_4) (ln_4.trans (hS.sndA hA)))
 refine s_fieldAddr h rfl U30 rfl ti28 rfl rfl fun a h=>s_fieldAddr h rfl U28 rfl ti3 rfl rfl fun a h=>?_
 refine sto 3 h rfl rfl hS rfl ti3 rfl rfl rfl (oz rfl) fun w_8 hS' => ?_
 replace hS : Sep w0 w_8 [_, _, _, bx g_2 30 [_, _, iV t_3.1, _, _, _, _]] Z := hS'
 refine s_fieldAddr h rfl U30 rfl ti28 rfl rfl fun a h=>s_fieldAddr h rfl U28 rfl ti3 rfl rfl fun a h=>?_
 refine sto 3 h rfl rfl hS rfl ti3 rfl rfl rfl (oz rfl) fun w_9 hS' => ?_
 replace hS : Sep w0 w_9 [_, _, _, bx g_2 30 [_, _, _, iV t_4.1, _, _, _]] Z := hS'
 refine nx <| qr <| mv h rfl fun a h=>?_
 obtain ⟨t_5, et_5, H⟩ := bs H
 refine s_call h rfl Try.call51 rfl (hocketref1_Reader_Bytes.calls K _ t_4.2.1 _ t_4.2.2 32 t_5 w0 _ _ (A.un N_8) (Mem.un_le (hA.trans (hS.le_zed [0])) (hS.new_zed [0])) (hS.enter [0] (by decide)) hr_8 et_5) ?_
 rintro v_5 w_10 ⟨_, v_6, N_9, M_1, rfl, hS', hr_9, hr_10⟩
 intro a h
 obtain ⟨N_10, hS'', le_5, ln_5⟩ := hS.call [0] (by decide) rfl (l' := [_]) (ow := [_]) rfl hS'
 replace hS : Sep w0 w_10 [N_10, _, _, _, _] Z := hS''
 have hr_11 : Rd Kd.u8 (A.un N_10) v_6 t_5.2.1 := hr_10.mono (Mem.un_le (Mem.un_left le_5) (ln_5.trans (hS.sndA hA)))
 refine mv h rfl fun a h=>?_
 obtain ⟨t_6, et_6, H⟩ := bs H
 refine s_call h rfl Try.call51 rfl (hocketref1_Reader_Bytes.calls K _ t_5.2.1 _ t_5.2.2 32 t_6 w0 _ _ (A.un N_10) (Mem.un_le (hA.trans (hS.le_zed [0])) (hS.new_zed [0])) (hS.enter [0] (by decide)) hr_11 et_6) ?_
 rintro v_7 w_11 ⟨_, v_8, N_11, M_2, rfl, hS', hr_12, hr_13⟩
 intro a h
 obtain ⟨N_12, hS'', le_6, ln_6⟩ := hS.call [0] (by decide) rfl (l' := [_]) (ow := [_]) rfl hS'
 replace hS : Sep w0 w_11 [N_12, _, _, _, _, _] Z := hS''
 have hr_14 : Rd Kd.u8 (A.un N_12) v_8 t_6.2.1 := hr_13.mono (Mem.un_le (Mem.un_left le_6) (ln_6.trans (hS.sndA hA)))
 refine mv h rfl fun a h=>?_
 obtain ⟨t_7, et_7, H⟩ := bs H
 refine s_call h rfl Try.call51 rfl (hocketref1_Reader_Bytes.calls K _ t_6.2.1 _ t_6.2.2 32 t_7 w0 _ _ (A.un N_12) (Mem.un_le (hA.trans (hS.le_zed [0])) (hS.new_zed [0])) (hS.enter [0] (by decide)) hr_14 et_7) ?_
 rintro v_9 w_12 ⟨_, v_10, N_13, M_3, rfl, hS', hr_15, hr_16⟩
 intro a h
 obtain ⟨N_14, hS'', le_7, ln_7⟩ := hS.call [0] (by decide) rfl (l' := [_]) (ow := [_]) rfl hS'
 replace hS : Sep w0 w_12 [N_14, _, _, _, _, _, _] Z := hS''
 have hr_17 : Rd Kd.u8 (A.un N_14) v_10 t_7.2.1 := hr_16.mono (Mem.un_le (Mem.un_left le_7) (ln_7.trans (hS.sndA hA)))
 refine s_fieldAddr h rfl U30 rfl ti28 rfl rfl fun a h=>s_fieldAddr h rfl U28 rfl ti26 rfl rfl fun a h=>?_
 refine sto 3 h rfl rfl hS rfl ti26 hr_9.cellsA rfl rfl (oc hr_9.one on0) fun w_13 hS' => ?_
 replace hS : Sep w0 w_13 [_, _, _, bx g_2 30 [_, _, _, _, v_5, _, _], _, _, _] Z := hS'
 refine s_fieldAddr h rfl U30 rfl ti28 rfl rfl fun a h=>s_fieldAddr h rfl U28 rfl ti26 rfl rfl fun a h=>?_
 refine sto 3 h rfl rfl hS rfl ti26 hr_12.cellsA rfl rfl (oc hr_12.one on0) fun w_14 hS' => ?_
 replace hS : Sep w0 w_14 [_, _, _, bx g_2 30 [_, _, _, _, _, v_7, _], _, _, _] Z := hS'
 refine s_fieldAddr h rfl U30 rfl ti28 rfl rfl fun a h=>s_fieldAddr h rfl U28 rfl ti26 rfl rfl fun a h=>?_
 refine sto 3 h rfl rfl hS rfl ti26 hr_15.cellsA rfl rfl (oc hr_15.one on0) fun w_15 hS' => ?_
 replace hS : Sep w0 w_15 [_, _, _, bx g_2 30 [_, _, _, _, _, _, v_9], _, _, _] Z := hS'
 refine wpList_nil ?_
 replace h : Fr 35 a [(0, _), (2, .pointer (some ⟨g_1, 0, none⟩)), (3, .pointer (some ⟨g_2, 0, none⟩))] := h.keep [0, 2, 3]
 refine x_then_n <| c_seq fun KJ_1 hKJ_1 => qr <| mv h rfl fun a h=>s_nilCheck h rfl rfl fun a h=>s_fieldAddr h rfl U78 rfl ti4 rfl rfl fun a h=>s_load h rfl rfl (hS.load_one (p := 1) rfl U4 rfl rfl) fun a h=>wpList_nil <| x_then_n ?_
 obtain ⟨hc_1, H⟩ | ⟨hc_1, H⟩ := ii H
 ·refine c_cond_t h rfl hc_1 <| qr <| s_build h rfl ti30 pl30 rfl .nil (cs := [iV 0, iV 0, iV 0, iV 0, nS, nS, nS]) (by kernel_rfl) fun a h=>?_
  refine sto 2 h rfl rfl hS rfl ti30 rfl rfl rfl (oz rfl) fun w_16 hS' => ?_
  replace hS : Sep w0 w_16 [_, _, _, _, _, _, _] Z := hS'
  refine nx <| wp_ret (x_then_r ?_)
  have hS' := hS.room
  replace hS : Sep w0 w_16 [_, _, _, _, _, _, _, Mem.no] Z := hS'
  have hS' := hS.room
  replace hS : Sep w0 w_16 [_, _, _, _, _, _, _, _, Mem.no] Z := hS'
  have hS' := hS.room
  replace hS : Sep w0 w_16 [_, _, _, _, _, _, _, _, _, Mem.no] Z := hS'
  obtain rfl := Option.some.inj H
  exact f_ret h (rs := [.cell 2 30]) rfl (.cell rfl (hS.load_agg (p := 2) (us := [iV 0, iV 0, iV 0, iV 0, nS, nS, nS]) rfl U30 rfl ti30 rfl rfl) .nil) ⟨_, rfl, nS, nS, nS, v_10, N_14, Mem.no, Mem.no, Mem.no, rfl, (hS.sel [0, 1, 7, 8, 9] (by decide)), (Own.nil Kd.u8 5 Mem.no), (Own.nil Kd.u8 5 Mem.no), (Own.nil Kd.u8 5 Mem.no), hr_17⟩
 ·refine c_cond_f h rfl (ef hc_1) <| wp_skip <| x_then_n (hKJ_1 _ _ ?_)
  refine qr <| s_load h rfl rfl (hS.load_agg (p := 3) (us := [iV t_1.1, iV t_2.1, iV t_3.1, iV t_4.1, v_5, v_7, v_9]) rfl U30 rfl ti30 rfl rfl) fun a h=>?_
  refine sto 2 h rfl rfl hS rfl ti30 rfl rfl rfl (oa 4 rfl (oc hr_9.one (oc hr_12.one (oc hr_15.one on0)))) fun w_17 hS' => ?_
  replace hS : Sep w0 w_17 [_, _, bx g_1 30 [iV t_1.1, iV t_2.1, iV t_3.1, iV t_4.1, v_5, v_7, v_9], _, _, _, _] Z := hS'
  refine nx <| wp_ret ?_
  obtain rfl := Option.some.inj H
  exact f_ret h (rs := [.cell 2 30]) rfl (.cell rfl (hS.load_agg (p := 2) (us := [iV t_1.1, iV t_2.1, iV t_3.1, iV t_4.1, v_5, v_7, v_9]) rfl U30 rfl ti30 rfl rfl) .nil) ⟨_, rfl, v_5, v_7, v_9, v_10, N_14, M_1, M_2, M_3, rfl, (hS.sel [0, 1, 4, 5, 6] (by decide)), hr_9, hr_12, hr_15, hr_17⟩

set_option maxHeartbeats 4000000 in
set_option maxRecDepth 20000 in
theorem hocketref1_Reader_End.calls (g0 : Nat) (x0_B : List UInt8) (p0_0 : Value) (x0_Bad : Bool) (r : Bool) (w0 w : World) (Z A : Mem) (hA : A.le Z) (hS : Sep w0 w [bx g0 78 [p0_0, .bool x0_Bad]] Z) (hp0_0 : Rd Kd.u8 A p0_0 x0_B)
    (H : hocketref1_Reader_End.f x0_B x0_Bad = some r) :
    Calls Try.prog 54 [.pointer (some ⟨g0, 0, none⟩)].toArray w (Ret fun v w' => ∃ (N : Mem), v = .bool r ∧ Sep w0 w' [N, bx g0 78 [p0_0, .bool x0_Bad]] Z) := by
 unfold hocketref1_Reader_End.f at H
 refine f_enter _ Try.func54 rfl Try.ntmps54 rfl fun a h=>?_
 replace h : Fr 16 a [(0, .pointer (some ⟨g0, 0, none⟩))] := h
 replace hS := hS.start
 refine qr <| sg h rfl fun a h=>nx <| c_seq fun KJ_1 hKJ_1 => wp_region_lit <| mv h rfl fun a h=>s_nilCheck h rfl rfl fun a h=>s_fieldAddr h rfl U78 rfl ti4 rfl rfl fun a h=>s_load h rfl rfl (hS.load_one (p := 1) rfl U4 rfl rfl) fun a h=>s_not h rfl rfl fun a h=>?_
 refine mv h rfl fun a h=>?_
 obtain ⟨hc_1, H⟩ | ⟨hc_1, H⟩ := ii H
 ·refine of h rfl rfl (nf hc_1) fun a h=>of h rfl rfl (nf hc_1) fun a h=>of h rfl rfl (nf hc_1) fun a h=>of h rfl rfl (nf hc_1) fun a h=>of h rfl rfl (nf hc_1) fun a h=>of h rfl rfl (nf hc_1) fun a h=>pf h rfl (nf hc_1) fun a h=>sg h rfl fun a h=>wpList_nil <| x_then_n (hKJ_1 _ _ ?_)
  refine wp_ret ?_
  obtain rfl := Option.some.inj H
  exact r1 h 2 rfl rfl ⟨_, rfl, Mem.no, rfl, (hS.sel [0, 1] (by decide))⟩
 ·refine s_on h rfl rfl (nt (ef hc_1)) <| mv h rfl fun a h=>s_on h rfl rfl (nt (ef hc_1)) <| s_nilCheck h rfl rfl fun a h=>s_on h rfl rfl (nt (ef hc_1)) <| s_fieldAddr h rfl U78 rfl ti26 rfl rfl fun a h=>s_on h rfl rfl (nt (ef hc_1)) <| s_load h rfl rfl (hS.load_one (p := 1) rfl U26 rfl rfl) fun a h=>s_on h rfl rfl (nt (ef hc_1)) <| s_len h rfl U26 rfl hp0_0 fun a h=>s_on h rfl rfl (nt (ef hc_1)) <| s_cmp (b := ((x0_B.length : Int) == 0)) h rfl rfl rfl (.inl ⟨rfl, rfl⟩) fun a h=>?_
  refine pt h rfl (nt (ef hc_1)) fun a h=>sg h rfl fun a h=>wpList_nil <| x_then_n (hKJ_1 _ _ ?_)
  refine wp_ret ?_
  obtain rfl := Option.some.inj H
  exact r1 h 2 rfl rfl ⟨_, rfl, Mem.no, rfl, (hS.sel [0, 1] (by decide))⟩

set_option maxHeartbeats 4000000 in
set_option maxRecDepth 20000 in
theorem hocketref11_Decode.calls (K : Nat) (x0 : List UInt8) (p0_0 : Value) (r : api_Msg × Bool) (w0 w : World) (Z A : Mem) (hA : A.le Z) (hS : Sep w0 w [] Z) (hp0_0 : Rd Kd.u8 A p0_0 x0)
    (H : hocketref11_Decode.f K x0 = some r) :
    Calls Try.prog 39 [p0_0].toArray w (Ret fun v w' => ∃ (u0 : Value) (u1 : Value) (u2 : Value) (u3 : Value) (u4 : Value) (u5 : Value) (N : Mem) (M0 : Mem) (M1 : Mem) (M2 : Mem) (M3 : Mem) (M4 : Mem) (M5 : Mem), v = .tuple [.agg [iV r.1.Kind, iV r.1.From, iV r.1.To, iV r.1.View, iV r.1.Inst, iV r.1.Len, .bool r.1.Has, iV r.1.Members, iV r.1.Source, iV r.1.At, iV r.1.Total, u0, iV r.1.Hop, iV r.1.Seq, u1, u2, iV r.1.Index, iV r.1.Entry.Sess, iV r.1.Entry.Seq, iV r.1.Entry.Cmd.Kind, iV r.1.Entry.Cmd.Who, u3, u4, u5].toArray, .bool r.2].toArray ∧ Sep w0 w' [N, M0, M1, M2, M3, M4, M5] Z ∧ Own Kd.u8 5 M0 Mem.no u0 r.1.Data ∧ Own (Kd.int .i64) 3 M1 Mem.no u1 r.1.Have ∧ Own (Kd.int .i64) 3 M2 Mem.no u2 r.1.Need ∧ Own Kd.u8 5 M3 Mem.no u3 r.1.Entry.Cmd.Key ∧ Own Kd.u8 5 M4 Mem.no u4 r.1.Entry.Cmd.Val ∧ Own Kd.u8 5 M5 Mem.no u5 r.1.Entry.Cmd.Old) := by
 unfold hocketref11_Decode.f at H
 refine f_enter _ Try.func39 rfl Try.ntmps39 rfl fun a h=>?_
 replace h : Fr 91 a [(0, p0_0)] := h
 replace hS := hS.start
 refine qr <| v_alloc h rfl ti32 hS fun w_1 g_1 hS' a h => ?_
 replace hS : Sep w0 w_1 [_, bx g_1 32 Q0] Z := hS'
 refine sg h rfl fun a h=>nx <| qr <| mv h rfl fun a h=>s_build h rfl ti78 pl78 rfl (.cons hp0_0.cells .nil) (cs := [p0_0, .bool false]) (by kernel_rfl) fun a h=>v_box (vs := [p0_0, .bool false]) h rfl rfl rfl hS fun w_2 g_2 hS' a h => ?_
 replace hS : Sep w0 w_2 [_, _, bx g_2 78 [p0_0, .bool false]] Z := hS'
 refine sg h rfl fun a h=>nx <| qr <| mv h rfl fun a h=>?_
 obtain ⟨t_1, et_1, H⟩ := bs H
 refine s_call h rfl Try.call50 rfl (hocketref1_Reader_Num.calls K _ x0 _ false 8 t_1 w0 _ _ A (hA.trans (hS.le_zed [1])) (hS.enter [1] (by decide)) hp0_0 et_1) ?_
 rintro _ w_3 ⟨v_1, N_1, rfl, hS', hr_1⟩
 intro a h
 obtain ⟨N_2, hS'', le_1, ln_1⟩ := hS.call [1] (by decide) rfl (l' := [_]) (ow := []) rfl hS'
 replace hS : Sep w0 w_3 [N_2, _, _] Z := hS''
 have hr_2 : Rd Kd.u8 (A.un N_2) v_1 t_1.2.1 := hr_1.mono (Mem.un_left ln_1)
 refine mv h rfl fun a h=>?_
 obtain ⟨t_2, et_2, H⟩ := bs H
 refine s_call h rfl Try.call50 rfl (hocketref1_Reader_Num.calls K _ t_1.2.1 _ t_1.2.2 6 t_2 w0 _ _ (A.un N_2) (Mem.un_le (hA.trans (hS.le_zed [1])) (hS.new_zed [1])) (hS.enter [1] (by decide)) hr_2 et_2) ?_
 rintro _ w_4 ⟨v_2, N_3, rfl, hS', hr_3⟩
 intro a h
 obtain ⟨N_4, hS'', le_2, ln_2⟩ := hS.call [1] (by decide) rfl (l' := [_]) (ow := []) rfl hS'
 replace hS : Sep w0 w_4 [N_4, _, _] Z := hS''
 have hr_4 : Rd Kd.u8 (A.un N_4) v_2 t_2.2.1 := hr_3.mono (Mem.un_le (Mem.un_left le_2) (ln_2.trans (hS.sndA hA)))
 refine mv h rfl fun a h=>?_
 obtain ⟨t_3, et_3, H⟩ := bs H
 refine s_call h rfl Try.call50 rfl (hocketref1_Reader_Num.calls K _ t_2.2.1 _ t_2.2.2 6 t_3 w0 _ _ (A.un N_4) (Mem.un_le (hA.trans (hS.le_zed [1])) (hS.new_zed [1])) (hS.enter [1] (by decide)) hr_4 et_3) ?_
 rintro _ w_5 ⟨v_3, N_5, rfl, hS', hr_5⟩
 intro a h
 obtain ⟨N_6, hS'', le_3, ln_3⟩ := hS.call [1] (by decide) rfl (l' := [_]) (ow := []) rfl hS'
 replace hS : Sep w0 w_5 [N_6, _, _] Z := hS''
 have hr_6 : Rd Kd.u8 (A.un N_6) v_3 t_3.2.1 := hr_5.mono (Mem.un_le (Mem.un_left le_3) (ln_3.trans (hS.sndA hA)))
 refine mv h rfl fun a h=>?_
 obtain ⟨t_4, et_4, H⟩ := bs H
 refine s_call h rfl Try.call50 rfl (hocketref1_Reader_Num.calls K _ t_3.2.1 _ t_3.2.2 1099511627776 t_4 w0 _ _ (A.un N_6) (Mem.un_le (hA.trans (hS.le_zed [1])) (hS.new_zed [1])) (hS.enter [1] (by decide)) hr_6 et_4) ?_
 rintro _ w_6 ⟨v_4, N_7, rfl, hS', hr_7⟩
 intro a h
 obtain ⟨N_8, hS'', le_4, ln_4⟩ := hS.call [1] (by decide) rfl (l' := [_]) (ow := []) rfl hS'
 replace hS : Sep w0 w_6 [N_8, _, _] Z := hS''
 have hr_8 : Rd Kd.u8 (A.un N_8) v_4 t_4.2.1 := hr_7.mono (Mem.un_le (Mem.un_left le_4) (ln_4.trans (hS.sndA hA)))
 refine s_build h rfl ti32 pl32 rfl (.cons rfl (.cons rfl (.cons rfl (.cons rfl .nil)))) (cs := [iV t_1.1, iV t_2.1, iV t_3.1, iV t_4.1, iV 0, iV 0, .bool false, iV 0, iV 0, iV 0, iV 0, nS, iV 0, iV 0, nS, nS, iV 0, iV 0, iV 0, iV 0, iV 0, nS, nS, nS]) (by kernel_rfl) fun a h=>v_alloc h rfl ti32 hS fun w_7 g_3 hS' a h => ?_
 replace hS : Sep w0 w_7 [_, _, _, bx g_3 32 Q0] Z := hS'
 refine sto 3 h rfl rfl hS rfl ti32 rfl rfl rfl (oz rfl) fun w_8 hS' => ?_
 replace hS : Sep w0 w_8 [_, _, _, bx g_3 32 [iV t_1.1, iV t_2.1, iV t_3.1, iV t_4.1, _, _, _, _, _, _, _, _, _, _, _, _, _, _, _, _, _, _, _, _]] Z := hS'
 refine nx <| c_seq fun KJ_1 hKJ_1 => qr <| s_fieldAddr h rfl U32 rfl ti3 rfl rfl fun a h=>s_load h rfl rfl (hS.load_one (p := 3) rfl U3 rfl rfl) fun a h=>wpList_nil ?_
 replace h : Fr 91 a [(2, .pointer (some ⟨g_1, 0, none⟩)), (3, .bool false), (4, .pointer (some ⟨g_2, 0, none⟩)), (5, .pointer (some ⟨g_3, 0, none⟩)), (19, iV t_1.1)] := h.keep [2, 3, 4, 5, 19]
 refine x_then_n ?_
 have hJ_j_1 : ∀ (x_1 : hocketref1_Reader), ∀ (x_2 : api_Msg), hocketref11_Decode.J1 K x_1 x_2 = some r → ∀ (a : Act) (w_9 : World), (∃ (v_5 : Value) (v_6 : Value) (v_7 : Value) (v_8 : Value) (v_9 : Value) (v_10 : Value) (v_11 : Value) (N_9 : Mem) (M_1 : Mem) (M_2 : Mem) (M_3 : Mem) (M_4 : Mem) (M_5 : Mem) (M_6 : Mem), Fr 91 a [(2, .pointer (some ⟨g_1, 0, none⟩)), (3, .bool false), (4, .pointer (some ⟨g_2, 0, none⟩)), (5, .pointer (some ⟨g_3, 0, none⟩))] ∧ Sep w0 w_9 [N_9, bx g_1 32 Q0, bx g_2 78 [v_5, .bool x_1.Bad], bx g_3 32 (E32 x_2 v_6 v_7 v_8 v_9 v_10 v_11), M_1, M_2, M_3, M_4, M_5, M_6] Z ∧ N_8.le N_9 ∧ Rd Kd.u8 (A.un N_9) v_5 x_1.B ∧ Own Kd.u8 5 M_1 Mem.no v_6 x_2.Data ∧ Own (Kd.int .i64) 3 M_2 Mem.no v_7 x_2.Have ∧ Own (Kd.int .i64) 3 M_3 Mem.no v_8 x_2.Need ∧ Own Kd.u8 5 M_4 Mem.no v_9 x_2.Entry.Cmd.Key ∧ Own Kd.u8 5 M_5 Mem.no v_10 x_2.Entry.Cmd.Val ∧ Own Kd.u8 5 M_6 Mem.no v_11 x_2.Entry.Cmd.Old) → KJ_1 a w_9 := by
  clear H h hS a
  rintro x_1 x_2 H a w_9 ⟨v_5, v_6, v_7, v_8, v_9, v_10, v_11, N_9, M_1, M_2, M_3, M_4, M_5, M_6, h, hS, le_5, hr_9, ho_1, ho_2, ho_3, ho_4, ho_5, ho_6⟩
  unfold hocketref11_Decode.J1 at H
  refine hKJ_1 _ _ <| c_seq fun KJ_2 hKJ_2 => c_seq fun KJ_3 hKJ_3 => ?_
  have hJ_j_2 : ∀ (x_3 : Bool), hocketref11_Decode.J2 K x_2 x_3 = some r → ∀ (a : Act) (w_10 : World), (∃ (N_10 : Mem), Fr 91 a [(2, .pointer (some ⟨g_1, 0, none⟩)), (3, .bool false), (5, .pointer (some ⟨g_3, 0, none⟩)), (88, .bool x_3)] ∧ Sep w0 w_10 [N_10, bx g_1 32 Q0, Mem.no, bx g_3 32 (E32 x_2 v_6 v_7 v_8 v_9 v_10 v_11), M_1, M_2, M_3, M_4, M_5, M_6] Z ∧ N_9.le N_10) → KJ_3 a w_10 := by
   clear H h hS a
   rintro x_3 H a w_10 ⟨N_10, h, hS, le_6⟩
   unfold hocketref11_Decode.J2 at H
   refine hKJ_3 _ _ ?_
   obtain ⟨hc_1, H⟩ | ⟨hc_1, H⟩ := ii H
   ·refine c_cond_t h rfl hc_1 <| qr <| s_build h rfl ti32 pl32 rfl .nil (cs := Q0) (by kernel_rfl) fun a h=>?_
    refine sto 1 h rfl rfl hS rfl ti32 rfl rfl rfl (oz rfl) fun w_11 hS' => ?_
    replace hS : Sep w0 w_11 [_, _, _, _, _, _, _, _, _, _] Z := hS'
    refine sg h rfl fun a h=>nx <| wp_ret (x_then_r ?_)
    have hS' := hS.room
    replace hS : Sep w0 w_11 [_, _, _, _, _, _, _, _, _, _, Mem.no] Z := hS'
    have hS' := hS.room
    replace hS : Sep w0 w_11 [_, _, _, _, _, _, _, _, _, _, _, Mem.no] Z := hS'
    have hS' := hS.room
    replace hS : Sep w0 w_11 [_, _, _, _, _, _, _, _, _, _, _, _, Mem.no] Z := hS'
    have hS' := hS.room
    replace hS : Sep w0 w_11 [_, _, _, _, _, _, _, _, _, _, _, _, _, Mem.no] Z := hS'
    have hS' := hS.room
    replace hS : Sep w0 w_11 [_, _, _, _, _, _, _, _, _, _, _, _, _, _, Mem.no] Z := hS'
    have hS' := hS.room
    replace hS : Sep w0 w_11 [_, _, _, _, _, _, _, _, _, _, _, _, _, _, _, Mem.no] Z := hS'
    obtain rfl := Option.some.inj H
    exact f_ret h (rs := [.cell 2 32, .tmp 3]) rfl (.cell rfl (hS.load_agg (p := 1) (us := Q0) rfl U32 rfl ti32 rfl rfl) (.tmp rfl .nil)) ⟨_, rfl, nS, nS, nS, nS, nS, nS, N_10, Mem.no, Mem.no, Mem.no, Mem.no, Mem.no, Mem.no, rfl, (hS.sel [0, 10, 11, 12, 13, 14, 15] (by decide)), (Own.nil Kd.u8 5 Mem.no), (Own.nil (Kd.int .i64) 3 Mem.no), (Own.nil (Kd.int .i64) 3 Mem.no), (Own.nil Kd.u8 5 Mem.no), (Own.nil Kd.u8 5 Mem.no), (Own.nil Kd.u8 5 Mem.no)⟩
   ·refine c_cond_f h rfl (ef hc_1) <| wp_skip <| x_then_n (hKJ_2 _ _ ?_)
    refine qr <| s_load h rfl rfl (hS.load_agg (p := 3) (us := (E32 x_2 v_6 v_7 v_8 v_9 v_10 v_11)) rfl U32 rfl ti32 rfl rfl) fun a h=>?_
    refine sto 1 h rfl rfl hS rfl ti32 rfl rfl rfl (oa 11 rfl (oc ho_1.one (oa 2 rfl (oc ho_2.one (oc ho_3.one (oa 5 rfl (oc ho_4.one (oc ho_5.one (oc ho_6.one on0))))))))) fun w_12 hS' => ?_
    replace hS : Sep w0 w_12 [_, bx g_1 32 (E32 x_2 v_6 v_7 v_8 v_9 v_10 v_11), _, _, _, _, _, _, _, _] Z := hS'
    refine sg h rfl fun a h=>nx <| wp_ret ?_
    obtain rfl := Option.some.inj H
    exact f_ret h (rs := [.cell 2 32, .tmp 3]) rfl (.cell rfl (hS.load_agg (p := 1) (us := (E32 x_2 v_6 v_7 v_8 v_9 v_10 v_11)) rfl U32 rfl ti32 rfl rfl) (.tmp rfl .nil)) ⟨_, rfl, v_6, v_7, v_8, v_9, v_10, v_11, N_10, M_1, M_2, M_3, M_4, M_5, M_6, rfl, (hS.sel [0, 4, 5, 6, 7, 8, 9] (by decide)), ho_1, ho_2, ho_3, ho_4, ho_5, ho_6⟩
  clear hKJ_3
  refine wp_region_lit <| s_fieldAddr h rfl U32 rfl ti3 rfl rfl fun a h=>s_load h rfl rfl (hS.load_one (p := 3) rfl U3 rfl rfl) fun a h=>s_cmp (b := (x_2.Kind == 0)) h rfl rfl rfl (.inl ⟨rfl, rfl⟩) fun a h=>mv h rfl fun a h=>?_
  obtain ⟨hc_2, H⟩ | ⟨hc_2, H⟩ := ii H
  ·refine of h rfl rfl (bt hc_2) fun a h=>of h rfl rfl (bt hc_2) fun a h=>of h rfl rfl (bt hc_2) fun a h=>pt h rfl (bt hc_2) fun a h=>wpList_nil ?_
   exact x_then_n (hJ_j_2 true H _ _ ⟨N_9, (h.keep [2, 3, 5, 88]), (hS.sel [0, 1, 1001, 3, 4, 5, 6, 7, 8, 9] (by decide)), mr⟩)
  ·refine s_on h rfl rfl (bf hc_2) <| mv h rfl fun a h=>s_on h rfl rfl (bf hc_2) ?_
   obtain ⟨t_5, et_5, H⟩ := bs H
   refine s_call h rfl Try.call54 rfl (hocketref1_Reader_End.calls _ x_1.B _ x_1.Bad t_5 w0 _ _ _ mr (hS.enter [1] (by decide)) (hr_9.mono (Mem.un_le (hA.trans (hS.le_zed [1])) (mr.trans (hS.new_zed [1])))) et_5) ?_
   rintro _ w_13 ⟨N_11, rfl, hS'⟩
   intro a h
   obtain ⟨N_12, hS'', le_7, ln_5⟩ := hS.call [1] (by decide) rfl (l' := [_]) (ow := []) rfl hS'
   replace hS : Sep w0 w_13 [N_12, _, _, _, _, _, _, _, _, _] Z := hS''
   refine s_on h rfl rfl (bf hc_2) <| s_not h rfl rfl fun a h=>pf h rfl (bf hc_2) fun a h=>wpList_nil ?_
   exact x_then_n (hJ_j_2 (!t_5) H _ _ ⟨N_12, (h.keep [2, 3, 5, 88]), (hS.sel [0, 1, 1001, 3, 4, 5, 6, 7, 8, 9] (by decide)), le_7⟩)
 clear hKJ_1
 refine c_block <| qr <| s_cmp (b := (t_1.1 == 2)) h rfl rfl rfl (.inl ⟨rfl, rfl⟩) fun a h=>sg h rfl fun a h=>wpList_nil <| x_then_n ?_
 obtain ⟨hc_3, H⟩ | ⟨hc_3, H⟩ := ii H
 ·refine c_cond_t h rfl (bt hc_3) <| qr <| mv h rfl fun a h=>?_
  obtain ⟨t_6, et_6, H⟩ := bs H
  refine s_call h rfl Try.call50 rfl (hocketref1_Reader_Num.calls K _ t_4.2.1 _ t_4.2.2 1099511627776 t_6 w0 _ _ (A.un N_8) (Mem.un_le (hA.trans (hS.le_zed [1])) (hS.new_zed [1])) (hS.enter [1] (by decide)) hr_8 et_6) ?_
  rintro _ w_14 ⟨v_12, N_13, rfl, hS', hr_10⟩
  intro a h
  obtain ⟨N_14, hS'', le_8, ln_6⟩ := hS.call [1] (by decide) rfl (l' := [_]) (ow := []) rfl hS'
  replace hS : Sep w0 w_14 [N_14, _, _, _] Z := hS''
  have hr_11 : Rd Kd.u8 (A.un N_14) v_12 t_6.2.1 := hr_10.mono (Mem.un_le (Mem.un_left le_8) (ln_6.trans (hS.sndA hA)))
  refine mv h rfl fun a h=>?_
  obtain ⟨t_7, et_7, H⟩ := bs H
  refine s_call h rfl Try.call50 rfl (hocketref1_Reader_Num.calls K _ t_6.2.1 _ t_6.2.2 1099511627776 t_7 w0 _ _ (A.un N_14) (Mem.un_le (hA.trans (hS.le_zed [1])) (hS.new_zed [1])) (hS.enter [1] (by decide)) hr_11 et_7) ?_
  rintro _ w_15 ⟨v_13, N_15, rfl, hS', hr_12⟩
  intro a h
  obtain ⟨N_16, hS'', le_9, ln_7⟩ := hS.call [1] (by decide) rfl (l' := [_]) (ow := []) rfl hS'
  replace hS : Sep w0 w_15 [N_16, _, _, _] Z := hS''
  have hr_13 : Rd Kd.u8 (A.un N_16) v_13 t_7.2.1 := hr_12.mono (Mem.un_le (Mem.un_left le_9) (ln_7.trans (hS.sndA hA)))
  refine s_fieldAddr h rfl U32 rfl ti3 rfl rfl fun a h=>?_
  refine sto 3 h rfl rfl hS rfl ti3 rfl rfl rfl (oz rfl) fun w_16 hS' => ?_
  replace hS : Sep w0 w_16 [_, _, _, bx g_3 32 [_, _, _, _, iV t_6.1, _, _, _, _, _, _, _, _, _, _, _, _, _, _, _, _, _, _, _]] Z := hS'
  refine s_fieldAddr h rfl U32 rfl ti3 rfl rfl fun a h=>?_
  refine sto 3 h rfl rfl hS rfl ti3 rfl rfl rfl (oz rfl) fun w_17 hS' => ?_
  replace hS : Sep w0 w_17 [_, _, _, bx g_3 32 [_, _, _, _, _, iV t_7.1, _, _, _, _, _, _, _, _, _, _, _, _, _, _, _, _, _, _]] Z := hS'
  refine nx <| wp_region_lit <| mv h rfl fun a h=>?_
  obtain ⟨t_8, et_8, H⟩ := bs H
  refine s_call h rfl Try.call50 rfl (hocketref1_Reader_Num.calls K _ t_7.2.1 _ t_7.2.2 1 t_8 w0 _ _ (A.un N_16) (Mem.un_le (hA.trans (hS.le_zed [1])) (hS.new_zed [1])) (hS.enter [1] (by decide)) hr_13 et_8) ?_
  rintro _ w_18 ⟨v_14, N_17, rfl, hS', hr_14⟩
  intro a h
  obtain ⟨N_18, hS'', le_10, ln_8⟩ := hS.call [1] (by decide) rfl (l' := [_]) (ow := []) rfl hS'
  replace hS : Sep w0 w_18 [N_18, _, _, _] Z := hS''
  have hr_15 : Rd Kd.u8 (A.un N_18) v_14 t_8.2.1 := hr_14.mono (Mem.un_le (Mem.un_left le_10) (ln_8.trans (hS.sndA hA)))
  refine s_cmp (b := (t_8.1 == 1)) h rfl rfl rfl (.inl ⟨rfl, rfl⟩) fun a h=>s_fieldAddr h rfl U32 rfl ti4 rfl rfl fun a h=>?_
  refine sto 3 h rfl rfl hS rfl ti4 rfl rfl rfl (oz rfl) fun w_19 hS' => ?_
  replace hS : Sep w0 w_19 [_, _, _, bx g_3 32 [_, _, _, _, _, _, .bool (t_8.1 == 1), _, _, _, _, _, _, _, _, _, _, _, _, _, _, _, _, _]] Z := hS'
  refine wpList_nil <| x_block_n ?_
  have hS' := hS.room
  replace hS : Sep w0 w_19 [_, _, _, _, Mem.no] Z := hS'
  have hS' := hS.room
  replace hS : Sep w0 w_19 [_, _, _, _, _, Mem.no] Z := hS'
  have hS' := hS.room
  replace hS : Sep w0 w_19 [_, _, _, _, _, _, Mem.no] Z := hS'
  have hS' := hS.room
  replace hS : Sep w0 w_19 [_, _, _, _, _, _, _, Mem.no] Z := hS'
  have hS' := hS.room
  replace hS : Sep w0 w_19 [_, _, _, _, _, _, _, _, Mem.no] Z := hS'
  have hS' := hS.room
  replace hS : Sep w0 w_19 [_, _, _, _, _, _, _, _, _, Mem.no] Z := hS'
  exact x_then_n (hJ_j_1 (⟨t_8.2.1, t_8.2.2⟩ : hocketref1_Reader) (⟨t_1.1, t_2.1, t_3.1, t_4.1, t_6.1, t_7.1, (t_8.1 == 1), 0, 0, 0, 0, ([] : List UInt8), 0, 0, ([] : List Int), ([] : List Int), 0, (⟨0, 0, (⟨0, 0, ([] : List UInt8), ([] : List UInt8), ([] : List UInt8)⟩ : api_Cmd)⟩ : api_Entry)⟩ : api_Msg) H _ _ ⟨v_14, nS, nS, nS, nS, nS, nS, N_18, Mem.no, Mem.no, Mem.no, Mem.no, Mem.no, Mem.no, (h.keep [2, 3, 4, 5]), (hS.sel [0, 1, 2, 3, 4, 5, 6, 7, 8, 9] (by decide)), (le_8.trans (le_9.trans le_10)), hr_15, (Own.nil Kd.u8 5 Mem.no), (Own.nil (Kd.int .i64) 3 Mem.no), (Own.nil (Kd.int .i64) 3 Mem.no), (Own.nil Kd.u8 5 Mem.no), (Own.nil Kd.u8 5 Mem.no), (Own.nil Kd.u8 5 Mem.no)⟩)
 ·refine c_cond_f h rfl (bf hc_3) <| qr <| s_cmp (b := (t_1.1 == 3)) h rfl rfl rfl (.inl ⟨rfl, rfl⟩) fun a h=>sg h rfl fun a h=>wpList_nil <| x_then_n ?_
  obtain ⟨hc_4, H⟩ | ⟨hc_4, H⟩ := ii H
  ·refine c_cond_t h rfl (bt hc_4) <| wp_region_lit <| mv h rfl fun a h=>?_
   obtain ⟨t_9, et_9, H⟩ := bs H
   refine s_call h rfl Try.call50 rfl (hocketref1_Reader_Num.calls K _ t_4.2.1 _ t_4.2.2 127 t_9 w0 _ _ (A.un N_8) (Mem.un_le (hA.trans (hS.le_zed [1])) (hS.new_zed [1])) (hS.enter [1] (by decide)) hr_8 et_9) ?_
   rintro _ w_20 ⟨v_15, N_19, rfl, hS', hr_16⟩
   intro a h
   obtain ⟨N_20, hS'', le_11, ln_9⟩ := hS.call [1] (by decide) rfl (l' := [_]) (ow := []) rfl hS'
   replace hS : Sep w0 w_20 [N_20, _, _, _] Z := hS''
   have hr_17 : Rd Kd.u8 (A.un N_20) v_15 t_9.2.1 := hr_16.mono (Mem.un_le (Mem.un_left le_11) (ln_9.trans (hS.sndA hA)))
   refine mv h rfl fun a h=>?_
   obtain ⟨t_10, et_10, H⟩ := bs H
   refine s_call h rfl Try.call50 rfl (hocketref1_Reader_Num.calls K _ t_9.2.1 _ t_9.2.2 6 t_10 w0 _ _ (A.un N_20) (Mem.un_le (hA.trans (hS.le_zed [1])) (hS.new_zed [1])) (hS.enter [1] (by decide)) hr_17 et_10) ?_
   rintro _ w_21 ⟨v_16, N_21, rfl, hS', hr_18⟩
   intro a h
   obtain ⟨N_22, hS'', le_12, ln_10⟩ := hS.call [1] (by decide) rfl (l' := [_]) (ow := []) rfl hS'
   replace hS : Sep w0 w_21 [N_22, _, _, _] Z := hS''
   have hr_19 : Rd Kd.u8 (A.un N_22) v_16 t_10.2.1 := hr_18.mono (Mem.un_le (Mem.un_left le_12) (ln_10.trans (hS.sndA hA)))
   refine mv h rfl fun a h=>?_
   obtain ⟨t_11, et_11, H⟩ := bs H
   refine s_call h rfl Try.call50 rfl (hocketref1_Reader_Num.calls K _ t_10.2.1 _ t_10.2.2 1099511627776 t_11 w0 _ _ (A.un N_22) (Mem.un_le (hA.trans (hS.le_zed [1])) (hS.new_zed [1])) (hS.enter [1] (by decide)) hr_19 et_11) ?_
   rintro _ w_22 ⟨v_17, N_23, rfl, hS', hr_20⟩
   intro a h
   obtain ⟨N_24, hS'', le_13, ln_11⟩ := hS.call [1] (by decide) rfl (l' := [_]) (ow := []) rfl hS'
   replace hS : Sep w0 w_22 [N_24, _, _, _] Z := hS''
   have hr_21 : Rd Kd.u8 (A.un N_24) v_17 t_11.2.1 := hr_20.mono (Mem.un_le (Mem.un_left le_13) (ln_11.trans (hS.sndA hA)))
   refine s_fieldAddr h rfl U32 rfl ti3 rfl rfl fun a h=>?_
   refine sto 3 h rfl rfl hS rfl ti3 rfl rfl rfl (oz rfl) fun w_23 hS' => ?_
   replace hS : Sep w0 w_23 [_, _, _, bx g_3 32 [_, _, _, _, _, _, _, iV t_9.1, _, _, _, _, _, _, _, _, _, _, _, _, _, _, _, _]] Z := hS'
   refine s_fieldAddr h rfl U32 rfl ti3 rfl rfl fun a h=>?_
   refine sto 3 h rfl rfl hS rfl ti3 rfl rfl rfl (oz rfl) fun w_24 hS' => ?_
   replace hS : Sep w0 w_24 [_, _, _, bx g_3 32 [_, _, _, _, _, _, _, _, iV t_10.1, _, _, _, _, _, _, _, _, _, _, _, _, _, _, _]] Z := hS'
   refine s_fieldAddr h rfl U32 rfl ti3 rfl rfl fun a h=>?_
   refine sto 3 h rfl rfl hS rfl ti3 rfl rfl rfl (oz rfl) fun w_25 hS' => ?_
   replace hS : Sep w0 w_25 [_, _, _, bx g_3 32 [_, _, _, _, _, iV t_11.1, _, _, _, _, _, _, _, _, _, _, _, _, _, _, _, _, _, _]] Z := hS'
   refine wpList_nil <| x_block_n ?_
   have hS' := hS.room
   replace hS : Sep w0 w_25 [_, _, _, _, Mem.no] Z := hS'
   have hS' := hS.room
   replace hS : Sep w0 w_25 [_, _, _, _, _, Mem.no] Z := hS'
   have hS' := hS.room
   replace hS : Sep w0 w_25 [_, _, _, _, _, _, Mem.no] Z := hS'
   have hS' := hS.room
   replace hS : Sep w0 w_25 [_, _, _, _, _, _, _, Mem.no] Z := hS'
   have hS' := hS.room
   replace hS : Sep w0 w_25 [_, _, _, _, _, _, _, _, Mem.no] Z := hS'
   have hS' := hS.room
   replace hS : Sep w0 w_25 [_, _, _, _, _, _, _, _, _, Mem.no] Z := hS'
   exact x_then_n (hJ_j_1 (⟨t_11.2.1, t_11.2.2⟩ : hocketref1_Reader) (⟨t_1.1, t_2.1, t_3.1, t_4.1, 0, t_11.1, false, t_9.1, t_10.1, 0, 0, ([] : List UInt8), 0, 0, ([] : List Int), ([] : List Int), 0, (⟨0, 0, (⟨0, 0, ([] : List UInt8), ([] : List UInt8), ([] : List UInt8)⟩ : api_Cmd)⟩ : api_Entry)⟩ : api_Msg) H _ _ ⟨v_17, nS, nS, nS, nS, nS, nS, N_24, Mem.no, Mem.no, Mem.no, Mem.no, Mem.no, Mem.no, (h.keep [2, 3, 4, 5]), (hS.sel [0, 1, 2, 3, 4, 5, 6, 7, 8, 9] (by decide)), (le_11.trans (le_12.trans le_13)), hr_21, (Own.nil Kd.u8 5 Mem.no), (Own.nil (Kd.int .i64) 3 Mem.no), (Own.nil (Kd.int .i64) 3 Mem.no), (Own.nil Kd.u8 5 Mem.no), (Own.nil Kd.u8 5 Mem.no), (Own.nil Kd.u8 5 Mem.no)⟩)
  ·refine c_cond_f h rfl (bf hc_4) <| qr <| s_cmp (b := (t_1.1 == 4)) h rfl rfl rfl (.inl ⟨rfl, rfl⟩) fun a h=>sg h rfl fun a h=>wpList_nil <| x_then_n ?_
   obtain ⟨hc_5, H⟩ | ⟨hc_5, H⟩ := ii H
   ·refine c_cond_t h rfl (bt hc_5) <| wp_region_lit <| mv h rfl fun a h=>?_
    obtain ⟨t_12, et_12, H⟩ := bs H
    refine s_call h rfl Try.call50 rfl (hocketref1_Reader_Num.calls K _ t_4.2.1 _ t_4.2.2 1099511627776 t_12 w0 _ _ (A.un N_8) (Mem.un_le (hA.trans (hS.le_zed [1])) (hS.new_zed [1])) (hS.enter [1] (by decide)) hr_8 et_12) ?_
    rintro _ w_26 ⟨v_18, N_25, rfl, hS', hr_22⟩
    intro a h
    obtain ⟨N_26, hS'', le_14, ln_12⟩ := hS.call [1] (by decide) rfl (l' := [_]) (ow := []) rfl hS'
    replace hS : Sep w0 w_26 [N_26, _, _, _] Z := hS''
    have hr_23 : Rd Kd.u8 (A.un N_26) v_18 t_12.2.1 := hr_22.mono (Mem.un_le (Mem.un_left le_14) (ln_12.trans (hS.sndA hA)))
    refine s_fieldAddr h rfl U32 rfl ti3 rfl rfl fun a h=>?_
    refine sto 3 h rfl rfl hS rfl ti3 rfl rfl rfl (oz rfl) fun w_27 hS' => ?_
    replace hS : Sep w0 w_27 [_, _, _, bx g_3 32 [_, _, _, _, _, _, _, _, _, iV t_12.1, _, _, _, _, _, _, _, _, _, _, _, _, _, _]] Z := hS'
    refine wpList_nil ?_
    replace h : Fr 91 a [(2, _), (3, _), (4, _), (5, _)] := h.keep [2, 3, 4, 5]
    refine x_block_n ?_
    have hS' := hS.room
    replace hS : Sep w0 w_27 [_, _, _, _, Mem.no] Z := hS'
    have hS' := hS.room
    replace hS : Sep w0 w_27 [_, _, _, _, _, Mem.no] Z := hS'
    have hS' := hS.room
    replace hS : Sep w0 w_27 [_, _, _, _, _, _, Mem.no] Z := hS'
    have hS' := hS.room
    replace hS : Sep w0 w_27 [_, _, _, _, _, _, _, Mem.no] Z := hS'
    have hS' := hS.room
    replace hS : Sep w0 w_27 [_, _, _, _, _, _, _, _, Mem.no] Z := hS'
    have hS' := hS.room
    replace hS : Sep w0 w_27 [_, _, _, _, _, _, _, _, _, Mem.no] Z := hS'
    exact x_then_n (hJ_j_1 (⟨t_12.2.1, t_12.2.2⟩ : hocketref1_Reader) (⟨t_1.1, t_2.1, t_3.1, t_4.1, 0, 0, false, 0, 0, t_12.1, 0, ([] : List UInt8), 0, 0, ([] : List Int), ([] : List Int), 0, (⟨0, 0, (⟨0, 0, ([] : List UInt8), ([] : List UInt8), ([] : List UInt8)⟩ : api_Cmd)⟩ : api_Entry)⟩ : api_Msg) H _ _ ⟨v_18, nS, nS, nS, nS, nS, nS, N_26, Mem.no, Mem.no, Mem.no, Mem.no, Mem.no, Mem.no, (h.keep [2, 3, 4, 5]), (hS.sel [0, 1, 2, 3, 4, 5, 6, 7, 8, 9] (by decide)), le_14, hr_23, (Own.nil Kd.u8 5 Mem.no), (Own.nil (Kd.int .i64) 3 Mem.no), (Own.nil (Kd.int .i64) 3 Mem.no), (Own.nil Kd.u8 5 Mem.no), (Own.nil Kd.u8 5 Mem.no), (Own.nil Kd.u8 5 Mem.no)⟩)
   ·refine c_cond_f h rfl (bf hc_5) <| qr <| s_cmp (b := (t_1.1 == 5)) h rfl rfl rfl (.inl ⟨rfl, rfl⟩) fun a h=>sg h rfl fun a h=>wpList_nil ?_
    replace h : Fr 91 a [(2, _), (3, _), (4, _), (5, _), (19, _), (48, .bool (t_1.1 == 5))] := h.keep [2, 3, 4, 5, 19, 48]
    refine x_then_n ?_
    obtain ⟨hc_6, H⟩ | ⟨hc_6, H⟩ := ii H
    ·refine c_cond_t h rfl (bt hc_6) <| qr <| mv h rfl fun a h=>?_
     obtain ⟨t_13, et_13, H⟩ := bs H
     refine s_call h rfl Try.call50 rfl (hocketref1_Reader_Num.calls K _ t_4.2.1 _ t_4.2.2 1099511627776 t_13 w0 _ _ (A.un N_8) (Mem.un_le (hA.trans (hS.le_zed [1])) (hS.new_zed [1])) (hS.enter [1] (by decide)) hr_8 et_13) ?_
     rintro _ w_28 ⟨v_19, N_27, rfl, hS', hr_24⟩
     intro a h
     obtain ⟨N_28, hS'', le_15, ln_13⟩ := hS.call [1] (by decide) rfl (l' := [_]) (ow := []) rfl hS'
     replace hS : Sep w0 w_28 [N_28, _, _, _] Z := hS''
     have hr_25 : Rd Kd.u8 (A.un N_28) v_19 t_13.2.1 := hr_24.mono (Mem.un_le (Mem.un_left le_15) (ln_13.trans (hS.sndA hA)))
     refine mv h rfl fun a h=>?_
     obtain ⟨t_14, et_14, H⟩ := bs H
     refine s_call h rfl Try.call50 rfl (hocketref1_Reader_Num.calls K _ t_13.2.1 _ t_13.2.2 1099511627776 t_14 w0 _ _ (A.un N_28) (Mem.un_le (hA.trans (hS.le_zed [1])) (hS.new_zed [1])) (hS.enter [1] (by decide)) hr_25 et_14) ?_
     rintro _ w_29 ⟨v_20, N_29, rfl, hS', hr_26⟩
     intro a h
     obtain ⟨N_30, hS'', le_16, ln_14⟩ := hS.call [1] (by decide) rfl (l' := [_]) (ow := []) rfl hS'
     replace hS : Sep w0 w_29 [N_30, _, _, _] Z := hS''
     have hr_27 : Rd Kd.u8 (A.un N_30) v_20 t_14.2.1 := hr_26.mono (Mem.un_le (Mem.un_left le_16) (ln_14.trans (hS.sndA hA)))
     refine s_fieldAddr h rfl U32 rfl ti3 rfl rfl fun a h=>?_
     refine sto 3 h rfl rfl hS rfl ti3 rfl rfl rfl (oz rfl) fun w_30 hS' => ?_
     replace hS : Sep w0 w_30 [_, _, _, bx g_3 32 [_, _, _, _, _, _, _, _, _, iV t_13.1, _, _, _, _, _, _, _, _, _, _, _, _, _, _]] Z := hS'
     refine s_fieldAddr h rfl U32 rfl ti3 rfl rfl fun a h=>?_
     refine sto 3 h rfl rfl hS rfl ti3 rfl rfl rfl (oz rfl) fun w_31 hS' => ?_
     replace hS : Sep w0 w_31 [_, _, _, bx g_3 32 [_, _, _, _, _, _, _, _, _, _, iV t_14.1, _, _, _, _, _, _, _, _, _, _, _, _, _]] Z := hS'
     refine nx <| wp_region_lit <| mv h rfl fun a h=>?_
     obtain ⟨t_15, et_15, H⟩ := bs H
     refine s_call h rfl Try.call51 rfl (hocketref1_Reader_Bytes.calls K _ t_14.2.1 _ t_14.2.2 64 t_15 w0 _ _ (A.un N_30) (Mem.un_le (hA.trans (hS.le_zed [1])) (hS.new_zed [1])) (hS.enter [1] (by decide)) hr_27 et_15) ?_
     rintro v_21 w_32 ⟨_, v_22, N_31, M_7, rfl, hS', hr_28, hr_29⟩
     intro a h
     obtain ⟨N_32, hS'', le_17, ln_15⟩ := hS.call [1] (by decide) rfl (l' := [_]) (ow := [_]) rfl hS'
     replace hS : Sep w0 w_32 [N_32, _, _, _, _] Z := hS''
     have hr_30 : Rd Kd.u8 (A.un N_32) v_22 t_15.2.1 := hr_29.mono (Mem.un_le (Mem.un_left le_17) (ln_15.trans (hS.sndA hA)))
     refine s_fieldAddr h rfl U32 rfl ti26 rfl rfl fun a h=>?_
     refine sto 3 h rfl rfl hS rfl ti26 hr_28.cellsA rfl rfl (oc hr_28.one on0) fun w_33 hS' => ?_
     replace hS : Sep w0 w_33 [_, _, _, bx g_3 32 [_, _, _, _, _, _, _, _, _, _, _, v_21, _, _, _, _, _, _, _, _, _, _, _, _], _] Z := hS'
     refine wpList_nil <| x_block_n ?_
     have hS' := hS.room
     replace hS : Sep w0 w_33 [_, _, _, _, _, Mem.no] Z := hS'
     have hS' := hS.room
     replace hS : Sep w0 w_33 [_, _, _, _, _, _, Mem.no] Z := hS'
     have hS' := hS.room
     replace hS : Sep w0 w_33 [_, _, _, _, _, _, _, Mem.no] Z := hS'
     have hS' := hS.room
     replace hS : Sep w0 w_33 [_, _, _, _, _, _, _, _, Mem.no] Z := hS'
     have hS' := hS.room
     replace hS : Sep w0 w_33 [_, _, _, _, _, _, _, _, _, Mem.no] Z := hS'
     exact x_then_n (hJ_j_1 (⟨t_15.2.1, t_15.2.2⟩ : hocketref1_Reader) (⟨t_1.1, t_2.1, t_3.1, t_4.1, 0, 0, false, 0, 0, t_13.1, t_14.1, t_15.1, 0, 0, ([] : List Int), ([] : List Int), 0, (⟨0, 0, (⟨0, 0, ([] : List UInt8), ([] : List UInt8), ([] : List UInt8)⟩ : api_Cmd)⟩ : api_Entry)⟩ : api_Msg) H _ _ ⟨v_22, v_21, nS, nS, nS, nS, nS, N_32, M_7, Mem.no, Mem.no, Mem.no, Mem.no, Mem.no, (h.keep [2, 3, 4, 5]), (hS.sel [0, 1, 2, 3, 4, 5, 6, 7, 8, 9] (by decide)), (le_15.trans (le_16.trans le_17)), hr_30, hr_28, (Own.nil (Kd.int .i64) 3 Mem.no), (Own.nil (Kd.int .i64) 3 Mem.no), (Own.nil Kd.u8 5 Mem.no), (Own.nil Kd.u8 5 Mem.no), (Own.nil Kd.u8 5 Mem.no)⟩)
    ·refine c_cond_f h rfl (bf hc_6) <| qr <| s_cmp (b := (t_1.1 == 7)) h rfl rfl rfl (.inl ⟨rfl, rfl⟩) fun a h=>sg h rfl fun a h=>wpList_nil <| x_then_n ?_
     obtain ⟨hc_7, H⟩ | ⟨hc_7, H⟩ := ii H
     ·refine c_cond_t h rfl (bt hc_7) <| qr <| mv h rfl fun a h=>?_
      obtain ⟨t_16, et_16, H⟩ := bs H
      refine s_call h rfl Try.call50 rfl (hocketref1_Reader_Num.calls K _ t_4.2.1 _ t_4.2.2 1099511627776 t_16 w0 _ _ (A.un N_8) (Mem.un_le (hA.trans (hS.le_zed [1])) (hS.new_zed [1])) (hS.enter [1] (by decide)) hr_8 et_16) ?_
      rintro _ w_34 ⟨v_23, N_33, rfl, hS', hr_31⟩
      intro a h
      obtain ⟨N_34, hS'', le_18, ln_16⟩ := hS.call [1] (by decide) rfl (l' := [_]) (ow := []) rfl hS'
      replace hS : Sep w0 w_34 [N_34, _, _, _] Z := hS''
      have hr_32 : Rd Kd.u8 (A.un N_34) v_23 t_16.2.1 := hr_31.mono (Mem.un_le (Mem.un_left le_18) (ln_16.trans (hS.sndA hA)))
      refine mv h rfl fun a h=>?_
      obtain ⟨t_17, et_17, H⟩ := bs H
      refine s_call h rfl Try.call50 rfl (hocketref1_Reader_Num.calls K _ t_16.2.1 _ t_16.2.2 1099511627776 t_17 w0 _ _ (A.un N_34) (Mem.un_le (hA.trans (hS.le_zed [1])) (hS.new_zed [1])) (hS.enter [1] (by decide)) hr_32 et_17) ?_
      rintro _ w_35 ⟨v_24, N_35, rfl, hS', hr_33⟩
      intro a h
      obtain ⟨N_36, hS'', le_19, ln_17⟩ := hS.call [1] (by decide) rfl (l' := [_]) (ow := []) rfl hS'
      replace hS : Sep w0 w_35 [N_36, _, _, _] Z := hS''
      have hr_34 : Rd Kd.u8 (A.un N_36) v_24 t_17.2.1 := hr_33.mono (Mem.un_le (Mem.un_left le_19) (ln_17.trans (hS.sndA hA)))
      refine s_fieldAddr h rfl U32 rfl ti3 rfl rfl fun a h=>?_
      refine sto 3 h rfl rfl hS rfl ti3 rfl rfl rfl (oz rfl) fun w_36 hS' => ?_
      replace hS : Sep w0 w_36 [_, _, _, bx g_3 32 [_, _, _, _, _, _, _, _, _, _, _, _, iV t_16.1, _, _, _, _, _, _, _, _, _, _, _]] Z := hS'
      refine s_fieldAddr h rfl U32 rfl ti3 rfl rfl fun a h=>?_
      refine sto 3 h rfl rfl hS rfl ti3 rfl rfl rfl (oz rfl) fun w_37 hS' => ?_
      replace hS : Sep w0 w_37 [_, _, _, bx g_3 32 [_, _, _, _, _, _, _, _, _, _, _, _, _, iV t_17.1, _, _, _, _, _, _, _, _, _, _]] Z := hS'
      refine nx <| qr <| mv h rfl fun a h=>?_
      obtain ⟨t_18, et_18, H⟩ := bs H
      refine s_call h rfl Try.call52 rfl (hocketref11_row.calls K _ t_17.2.1 _ t_17.2.2 7 t_18 w0 _ _ (A.un N_36) (Mem.un_le (hA.trans (hS.le_zed [1])) (hS.new_zed [1])) (hS.enter [1] (by decide)) hr_34 et_18) ?_
      rintro v_25 w_38 ⟨_, v_26, N_37, M_8, rfl, hS', hr_35, hr_36⟩
      intro a h
      obtain ⟨N_38, hS'', le_20, ln_18⟩ := hS.call [1] (by decide) rfl (l' := [_]) (ow := [_]) rfl hS'
      replace hS : Sep w0 w_38 [N_38, _, _, _, _] Z := hS''
      have hr_37 : Rd Kd.u8 (A.un N_38) v_26 t_18.2.1 := hr_36.mono (Mem.un_le (Mem.un_left le_20) (ln_18.trans (hS.sndA hA)))
      refine s_fieldAddr h rfl U32 rfl ti22 rfl rfl fun a h=>?_
      refine sto 3 h rfl rfl hS rfl ti22 hr_35.cellsA rfl rfl (oc hr_35.one on0) fun w_39 hS' => ?_
      replace hS : Sep w0 w_39 [_, _, _, bx g_3 32 [_, _, _, _, _, _, _, _, _, _, _, _, _, _, v_25, _, _, _, _, _, _, _, _, _], _] Z := hS'
      refine nx <| wp_region_lit <| mv h rfl fun a h=>?_
      obtain ⟨t_19, et_19, H⟩ := bs H
      refine s_call h rfl Try.call52 rfl (hocketref11_row.calls K _ t_18.2.1 _ t_18.2.2 8 t_19 w0 _ _ (A.un N_38) (Mem.un_le (hA.trans (hS.le_zed [1])) (hS.new_zed [1])) (hS.enter [1] (by decide)) hr_37 et_19) ?_
      rintro v_27 w_40 ⟨_, v_28, N_39, M_9, rfl, hS', hr_38, hr_39⟩
      intro a h
      obtain ⟨N_40, hS'', le_21, ln_19⟩ := hS.call [1] (by decide) rfl (l' := [_]) (ow := [_]) rfl hS'
      replace hS : Sep w0 w_40 [N_40, _, _, _, _, _] Z := hS''
      have hr_40 : Rd Kd.u8 (A.un N_40) v_28 t_19.2.1 := hr_39.mono (Mem.un_le (Mem.un_left le_21) (ln_19.trans (hS.sndA hA)))
      refine s_fieldAddr h rfl U32 rfl ti22 rfl rfl fun a h=>?_
      refine sto 3 h rfl rfl hS rfl ti22 hr_38.cellsA rfl rfl (oc hr_38.one on0) fun w_41 hS' => ?_
      replace hS : Sep w0 w_41 [_, _, _, bx g_3 32 [_, _, _, _, _, _, _, _, _, _, _, _, _, _, _, v_27, _, _, _, _, _, _, _, _], _, _] Z := hS'
      refine wpList_nil ?_
      replace h : Fr 91 a [(2, _), (3, _), (4, _), (5, _)] := h.keep [2, 3, 4, 5]
      refine x_block_n ?_
      have hS' := hS.room
      replace hS : Sep w0 w_41 [_, _, _, _, _, _, Mem.no] Z := hS'
      have hS' := hS.room
      replace hS : Sep w0 w_41 [_, _, _, _, _, _, _, Mem.no] Z := hS'
      have hS' := hS.room
      replace hS : Sep w0 w_41 [_, _, _, _, _, _, _, _, Mem.no] Z := hS'
      have hS' := hS.room
      replace hS : Sep w0 w_41 [_, _, _, _, _, _, _, _, _, Mem.no] Z := hS'
      exact x_then_n (hJ_j_1 (⟨t_19.2.1, t_19.2.2⟩ : hocketref1_Reader) (⟨t_1.1, t_2.1, t_3.1, t_4.1, 0, 0, false, 0, 0, 0, 0, ([] : List UInt8), t_16.1, t_17.1, t_18.1, t_19.1, 0, (⟨0, 0, (⟨0, 0, ([] : List UInt8), ([] : List UInt8), ([] : List UInt8)⟩ : api_Cmd)⟩ : api_Entry)⟩ : api_Msg) H _ _ ⟨v_28, nS, v_25, v_27, nS, nS, nS, N_40, Mem.no, M_8, M_9, Mem.no, Mem.no, Mem.no, (h.keep [2, 3, 4, 5]), (hS.sel [0, 1, 2, 3, 6, 4, 5, 7, 8, 9] (by decide)), (le_18.trans (le_19.trans (le_20.trans le_21))), hr_40, (Own.nil Kd.u8 5 Mem.no), hr_35, hr_38, (Own.nil Kd.u8 5 Mem.no), (Own.nil Kd.u8 5 Mem.no), (Own.nil Kd.u8 5 Mem.no)⟩)
     ·refine c_cond_f h rfl (bf hc_7) <| qr <| s_cmp (b := (t_1.1 == 8)) h rfl rfl rfl (.inl ⟨rfl, rfl⟩) fun a h=>sg h rfl fun a h=>wpList_nil <| x_then_n ?_
      obtain ⟨hc_8, H⟩ | ⟨hc_8, H⟩ := ii H
      ·refine c_cond_t h rfl (bt hc_8) <| qr <| mv h rfl fun a h=>?_
       obtain ⟨t_20, et_20, H⟩ := bs H
       refine s_call h rfl Try.call50 rfl (hocketref1_Reader_Num.calls K _ t_4.2.1 _ t_4.2.2 1099511627776 t_20 w0 _ _ (A.un N_8) (Mem.un_le (hA.trans (hS.le_zed [1])) (hS.new_zed [1])) (hS.enter [1] (by decide)) hr_8 et_20) ?_
       rintro _ w_42 ⟨v_29, N_41, rfl, hS', hr_41⟩
       intro a h
       obtain ⟨N_42, hS'', le_22, ln_20⟩ := hS.call [1] (by decide) rfl (l' := [_]) (ow := []) rfl hS'
       replace hS : Sep w0 w_42 [N_42, _, _, _] Z := hS''
       have hr_42 : Rd Kd.u8 (A.un N_42) v_29 t_20.2.1 := hr_41.mono (Mem.un_le (Mem.un_left le_22) (ln_20.trans (hS.sndA hA)))
       refine s_fieldAddr h rfl U32 rfl ti3 rfl rfl fun a h=>?_
       refine sto 3 h rfl rfl hS rfl ti3 rfl rfl rfl (oz rfl) fun w_43 hS' => ?_
       replace hS : Sep w0 w_43 [_, _, _, bx g_3 32 [_, _, _, _, _, _, _, _, _, _, _, _, _, _, _, _, iV t_20.1, _, _, _, _, _, _, _]] Z := hS'
       refine nx <| wp_region_lit <| mv h rfl fun a h=>?_
       obtain ⟨t_21, et_21, H⟩ := bs H
       refine s_call h rfl Try.call53 rfl (hocketref4_GetEntry.calls K _ t_20.2.1 _ t_20.2.2 t_21 w0 _ _ (A.un N_42) (Mem.un_le (hA.trans (hS.le_zed [1])) (hS.new_zed [1])) (hS.enter [1] (by decide)) hr_42 et_21) ?_
       rintro _ w_44 ⟨v_30, v_31, v_32, v_33, N_43, M_10, M_11, M_12, rfl, hS', hr_43, hr_44, hr_45, hr_46⟩
       intro a h
       obtain ⟨N_44, hS'', le_23, ln_21⟩ := hS.call [1] (by decide) rfl (l' := [_]) (ow := [_, _, _]) rfl hS'
       replace hS : Sep w0 w_44 [N_44, _, _, _, _, _, _] Z := hS''
       have hr_47 : Rd Kd.u8 (A.un N_44) v_33 t_21.2.1 := hr_46.mono (Mem.un_le (Mem.un_left le_23) (ln_21.trans (hS.sndA hA)))
       refine s_fieldAddr h rfl U32 rfl ti30 rfl rfl fun a h=>?_
       refine sto 3 h rfl rfl hS rfl ti30 rfl rfl rfl (oa 4 rfl (oc hr_43.one (oc hr_44.one (oc hr_45.one on0)))) fun w_45 hS' => ?_
       replace hS : Sep w0 w_45 [_, _, _, bx g_3 32 [_, _, _, _, _, _, _, _, _, _, _, _, _, _, _, _, _, iV t_21.1.Sess, iV t_21.1.Seq, iV t_21.1.Cmd.Kind, iV t_21.1.Cmd.Who, v_30, v_31, v_32], _, _, _] Z := hS'
       refine wpList_nil ?_
       replace h : Fr 91 a [(2, _), (3, _), (4, _), (5, _)] := h.keep [2, 3, 4, 5]
       refine x_block_n ?_
       have hS' := hS.room
       replace hS : Sep w0 w_45 [_, _, _, _, _, _, _, Mem.no] Z := hS'
       have hS' := hS.room
       replace hS : Sep w0 w_45 [_, _, _, _, _, _, _, _, Mem.no] Z := hS'
       have hS' := hS.room
       replace hS : Sep w0 w_45 [_, _, _, _, _, _, _, _, _, Mem.no] Z := hS'
       exact x_then_n (hJ_j_1 (⟨t_21.2.1, t_21.2.2⟩ : hocketref1_Reader) (⟨t_1.1, t_2.1, t_3.1, t_4.1, 0, 0, false, 0, 0, 0, 0, ([] : List UInt8), 0, 0, ([] : List Int), ([] : List Int), t_20.1, t_21.1⟩ : api_Msg) H _ _ ⟨v_33, nS, nS, nS, v_30, v_31, v_32, N_44, Mem.no, Mem.no, Mem.no, M_10, M_11, M_12, (h.keep [2, 3, 4, 5]), (hS.sel [0, 1, 2, 3, 7, 8, 9, 4, 5, 6] (by decide)), (le_22.trans le_23), hr_47, (Own.nil Kd.u8 5 Mem.no), (Own.nil (Kd.int .i64) 3 Mem.no), (Own.nil (Kd.int .i64) 3 Mem.no), hr_43, hr_44, hr_45⟩)
      ·refine c_cond_f h rfl (bf hc_8) <| wp_skip <| x_block_n ?_
       have hS' := hS.room
       replace hS : Sep w0 w_8 [_, _, _, _, Mem.no] Z := hS'
       have hS' := hS.room
       replace hS : Sep w0 w_8 [_, _, _, _, _, Mem.no] Z := hS'
       have hS' := hS.room
       replace hS : Sep w0 w_8 [_, _, _, _, _, _, Mem.no] Z := hS'
       have hS' := hS.room
       replace hS : Sep w0 w_8 [_, _, _, _, _, _, _, Mem.no] Z := hS'
       have hS' := hS.room
       replace hS : Sep w0 w_8 [_, _, _, _, _, _, _, _, Mem.no] Z := hS'
       have hS' := hS.room
       replace hS : Sep w0 w_8 [_, _, _, _, _, _, _, _, _, Mem.no] Z := hS'
       exact x_then_n (hJ_j_1 (⟨t_4.2.1, t_4.2.2⟩ : hocketref1_Reader) (⟨t_1.1, t_2.1, t_3.1, t_4.1, 0, 0, false, 0, 0, 0, 0, ([] : List UInt8), 0, 0, ([] : List Int), ([] : List Int), 0, (⟨0, 0, (⟨0, 0, ([] : List UInt8), ([] : List UInt8), ([] : List UInt8)⟩ : api_Cmd)⟩ : api_Entry)⟩ : api_Msg) H _ _ ⟨v_4, nS, nS, nS, nS, nS, nS, N_8, Mem.no, Mem.no, Mem.no, Mem.no, Mem.no, Mem.no, (h.keep [2, 3, 4, 5]), (hS.sel [0, 1, 2, 3, 4, 5, 6, 7, 8, 9] (by decide)), mr, hr_8, (Own.nil Kd.u8 5 Mem.no), (Own.nil (Kd.int .i64) 3 Mem.no), (Own.nil (Kd.int .i64) 3 Mem.no), (Own.nil Kd.u8 5 Mem.no), (Own.nil Kd.u8 5 Mem.no), (Own.nil Kd.u8 5 Mem.no)⟩)

set_option maxHeartbeats 4000000 in
set_option maxRecDepth 20000 in
theorem hocketref11_Open.calls (K : Nat) (x0 : List UInt8) (p0_0 : Value) (r : api_Msg × Bool) (w0 w : World) (Z A : Mem) (hA : A.le Z) (hS : Sep w0 w [] Z) (hp0_0 : Rd Kd.u8 A p0_0 x0)
    (H : hocketref11_Open.f K x0 = some r) :
    Calls Try.prog 23 [p0_0].toArray w (Ret fun v w' => ∃ (u0 : Value) (u1 : Value) (u2 : Value) (u3 : Value) (u4 : Value) (u5 : Value) (N : Mem) (M0 : Mem) (M1 : Mem) (M2 : Mem) (M3 : Mem) (M4 : Mem) (M5 : Mem), v = .tuple [.agg [iV r.1.Kind, iV r.1.From, iV r.1.To, iV r.1.View, iV r.1.Inst, iV r.1.Len, .bool r.1.Has, iV r.1.Members, iV r.1.Source, iV r.1.At, iV r.1.Total, u0, iV r.1.Hop, iV r.1.Seq, u1, u2, iV r.1.Index, iV r.1.Entry.Sess, iV r.1.Entry.Seq, iV r.1.Entry.Cmd.Kind, iV r.1.Entry.Cmd.Who, u3, u4, u5].toArray, .bool r.2].toArray ∧ Sep w0 w' [N, M0, M1, M2, M3, M4, M5] Z ∧ Own Kd.u8 5 M0 Mem.no u0 r.1.Data ∧ Own (Kd.int .i64) 3 M1 Mem.no u1 r.1.Have ∧ Own (Kd.int .i64) 3 M2 Mem.no u2 r.1.Need ∧ Own Kd.u8 5 M3 Mem.no u3 r.1.Entry.Cmd.Key ∧ Own Kd.u8 5 M4 Mem.no u4 r.1.Entry.Cmd.Val ∧ Own Kd.u8 5 M5 Mem.no u5 r.1.Entry.Cmd.Old) := by
 unfold hocketref11_Open.f at H
 refine f_enter _ Try.func23 rfl Try.ntmps23 rfl fun a h=>?_
 replace h : Fr 18 a [(0, p0_0)] := h
 replace hS := hS.start
 refine qr <| v_alloc h rfl ti32 hS fun w_1 g_1 hS' a h => ?_
 replace hS : Sep w0 w_1 [_, bx g_1 32 Q0] Z := hS'
 refine sg h rfl fun a h=>nx <| qr <| mv h rfl fun a h=>?_
 obtain ⟨t_1, et_1, H⟩ := bs H
 refine s_call h rfl Try.call38 rfl (hocketref1_Unfour.calls K x0 _ t_1 w0 _ _ _ mr (hS.enter [] (by decide)) (hp0_0.mono (hA.trans (hS.le_zed []))) et_1) ?_
 rintro _ w_2 ⟨v_1, N_1, M_1, rfl, hS', hr_1⟩
 intro a h
 obtain ⟨N_2, hS'', le_1, ln_1⟩ := hS.call [] (by decide) rfl (l' := []) (ow := [_]) rfl hS'
 replace hS : Sep w0 w_2 [N_2, _, _] Z := hS''
 refine mv h rfl fun a h=>s_extract h rfl rfl rfl fun a h=>s_extract h rfl rfl rfl fun a h=>sg h rfl fun a h=>sg h rfl fun a h=>nx <| c_seq fun KJ_1 hKJ_1 => qr <| mv h rfl fun a h=>s_not h rfl rfl fun a h=>?_
 refine wpList_nil <| x_then_n ?_
 obtain ⟨hc_1, H⟩ | ⟨hc_1, H⟩ := ii H
 ·refine c_cond_f h rfl (nf hc_1) <| wp_skip <| x_then_n (hKJ_1 _ _ ?_)
  refine qr <| mv h rfl fun a h=>?_
  obtain ⟨t_2, et_2, H⟩ := bs H
  refine s_call h rfl Try.call39 rfl (hocketref11_Decode.calls K t_1.1 _ t_2 w0 _ _ _ mr (hS.enter [] (by decide)) (hr_1.rd (hS.own_zed [] 1 (by decide)) (Mem.no_le _)) et_2) ?_
  rintro _ w_3 ⟨v_2, v_3, v_4, v_5, v_6, v_7, N_3, M_2, M_3, M_4, M_5, M_6, M_7, rfl, hS', hr_2, hr_3, hr_4, hr_5, hr_6, hr_7⟩
  intro a h
  obtain ⟨N_4, hS'', le_2, ln_2⟩ := hS.call [] (by decide) rfl (l' := []) (ow := [_, _, _, _, _, _]) rfl hS'
  replace hS : Sep w0 w_3 [N_4, _, _, _, _, _, _, _, _] Z := hS''
  refine s_extract h rfl rfl rfl fun a h=>s_extract h rfl rfl rfl fun a h=>?_
  refine sto 1 h rfl rfl hS rfl ti32 rfl rfl rfl (oa 11 rfl (oc hr_2.one (oa 2 rfl (oc hr_3.one (oc hr_4.one (oa 5 rfl (oc hr_5.one (oc hr_6.one (oc hr_7.one on0))))))))) fun w_4 hS' => ?_
  replace hS : Sep w0 w_4 [_, bx g_1 32 (E32 t_2.1 v_2 v_3 v_4 v_5 v_6 v_7), _, _, _, _, _, _, _] Z := hS'
  refine sg h rfl fun a h=>wpList_nil ?_
  replace h : Fr 18 a [(2, .pointer (some ⟨g_1, 0, none⟩)), (3, .bool t_2.2)] := h.keep [2, 3]
  refine x_then_n <| wp_ret ?_
  obtain rfl := Option.some.inj H
  exact f_ret h (rs := [.cell 2 32, .tmp 3]) rfl (.cell rfl (hS.load_agg (p := 1) (us := (E32 t_2.1 v_2 v_3 v_4 v_5 v_6 v_7)) rfl U32 rfl ti32 rfl rfl) (.tmp rfl .nil)) ⟨_, rfl, v_2, v_3, v_4, v_5, v_6, v_7, N_4, M_2, M_3, M_4, M_5, M_6, M_7, rfl, (hS.sel [0, 3, 4, 5, 6, 7, 8] (by decide)), hr_2, hr_3, hr_4, hr_5, hr_6, hr_7⟩
 ·refine c_cond_t h rfl (nt (ef hc_1)) <| qr <| s_build h rfl ti32 pl32 rfl .nil (cs := Q0) (by kernel_rfl) fun a h=>?_
  refine sto 1 h rfl rfl hS rfl ti32 rfl rfl rfl (oz rfl) fun w_5 hS' => ?_
  replace hS : Sep w0 w_5 [_, _, _] Z := hS'
  refine sg h rfl fun a h=>wpList_nil ?_
  replace h : Fr 18 a [(2, .pointer (some ⟨g_1, 0, none⟩)), (3, .bool false), (4, v_1)] := h.keep [2, 3, 4]
  refine x_then_n <| wp_ret (x_then_r ?_)
  have hS' := hS.room
  replace hS : Sep w0 w_5 [_, _, _, Mem.no] Z := hS'
  have hS' := hS.room
  replace hS : Sep w0 w_5 [_, _, _, _, Mem.no] Z := hS'
  have hS' := hS.room
  replace hS : Sep w0 w_5 [_, _, _, _, _, Mem.no] Z := hS'
  have hS' := hS.room
  replace hS : Sep w0 w_5 [_, _, _, _, _, _, Mem.no] Z := hS'
  have hS' := hS.room
  replace hS : Sep w0 w_5 [_, _, _, _, _, _, _, Mem.no] Z := hS'
  have hS' := hS.room
  replace hS : Sep w0 w_5 [_, _, _, _, _, _, _, _, Mem.no] Z := hS'
  obtain rfl := Option.some.inj H
  exact f_ret h (rs := [.cell 2 32, .tmp 3]) rfl (.cell rfl (hS.load_agg (p := 1) (us := Q0) rfl U32 rfl ti32 rfl rfl) (.tmp rfl .nil)) ⟨_, rfl, nS, nS, nS, nS, nS, nS, N_2, Mem.no, Mem.no, Mem.no, Mem.no, Mem.no, Mem.no, rfl, (hS.sel [0, 3, 4, 5, 6, 7, 8] (by decide)), (Own.nil Kd.u8 5 Mem.no), (Own.nil (Kd.int .i64) 3 Mem.no), (Own.nil (Kd.int .i64) 3 Mem.no), (Own.nil Kd.u8 5 Mem.no), (Own.nil Kd.u8 5 Mem.no), (Own.nil Kd.u8 5 Mem.no)⟩

set_option maxHeartbeats 4000000 in
set_option maxRecDepth 20000 in
theorem mesg_write_1.calls (K : Nat) (x0 : List Int) (p0_0 : Value) (g1 : Nat) (x1_ : List UInt8) (p1_1 : Value) (M1_1 : Mem) (r : (List UInt8)) (w0 w : World) (Z A : Mem) (hA : A.le Z) (hS : Sep w0 w [bx g1 26 [p1_1], M1_1] Z) (hp0_0 : Rd (Kd.int .i64) A p0_0 x0) (hp1_1 : Own Kd.u8 5 M1_1 Mem.no p1_1 x1_)
    (H : mesg_write_1.f K x0 x1_ = some r) :
    Calls Try.prog 63 [p0_0, .pointer (some ⟨g1, 0, none⟩)].toArray w (Ret fun v w' => ∃ (u0 : Value) (N : Mem) (M100 : Mem), v = .tuple [].toArray ∧ Sep w0 w' [N, bx g1 26 [u0], M100] Z ∧ Own Kd.u8 5 M100 Mem.no u0 r) := by
 unfold mesg_write_1.f at H
 refine f_enter _ Try.func63 rfl Try.ntmps63 rfl fun a h=>?_
 replace h : Fr 15 a [(0, p0_0), (1, .pointer (some ⟨g1, 0, none⟩))] := h
 replace hS := hS.start
 refine qr <| mv h rfl fun a h=>s_len h rfl U22 rfl hp0_0 fun a h=>mv h rfl fun a h=>nx <| c_last fun KJ_1 hKJ_1 => ?_
 have hJ_j_1 : ∀ (x_1 : List UInt8), mesg_write_1.J1 K x_1 = some r → ∀ (a : Act) (w_1 : World), (∃ (v_1 : Value) (N_1 : Mem) (M_1 : Mem), Fr 15 a [] ∧ Sep w0 w_1 [N_1, bx g1 26 [v_1], Mem.no, M_1] Z ∧ Mem.no.le N_1 ∧ Own Kd.u8 5 M_1 Mem.no v_1 x_1) → KJ_1 a w_1 := by
  clear H h hS a
  rintro x_1 H a w_1 ⟨v_1, N_1, M_1, h, hS, le_1, ho_1⟩
  unfold mesg_write_1.J1 at H
  refine hKJ_1 _ _ <| f_end ?_
  obtain rfl := Option.some.inj H
  exact f_ret h (rs := []) rfl .nil ⟨_, rfl, v_1, N_1, M_1, rfl, (hS.sel [0, 1, 3] (by decide)), ho_1⟩
 clear hKJ_1
 refine c_block <| c_loop (fun k_1 a w_2 => ∃ (x_2 : Int) (x_3 : List UInt8) (v_2 : Value) (N_2 : Mem) (M_2 : Mem), mesg_write_1.L1 K x0 (fun v => mesg_write_1.J1 K v) k_1 (x_2, x_3) = some r ∧ Fr 15 a [(1, .pointer (some ⟨g1, 0, none⟩)), (5, p0_0), (6, iV (x0.length : Int)), (7, iV x_2)] ∧ Sep w0 w_2 [N_2, bx g1 26 [v_2], Mem.no, M_2] Z ∧ Mem.no.le N_2 ∧ Own Kd.u8 5 M_2 Mem.no v_2 x_3) K ⟨0, x1_, p1_1, Mem.no, M1_1, H, (h.keep [1, 5, 6, 7]), (hS.sel [0, 1, 1001, 2] (by decide)), mr, hp1_1⟩ (fun a w h => by obtain ⟨_, _, _, _, _, H, _⟩ := h; cases (show (none : Option ((List UInt8))) = some r from H)) ?_
 clear h hS a H
 rintro k_1 a w_2 KL_1 hKL_1 ⟨x_2, x_3, v_2, N_2, M_2, H, h, hS, le_2, ho_2⟩
 replace H : mesg_write_1.B1 K x0 (fun v => mesg_write_1.J1 K v) (mesg_write_1.L1 K x0 (fun v => mesg_write_1.J1 K v) k_1) x_2 x_3 = some r := H
 unfold mesg_write_1.B1 at H
 refine qr <| s_cmp (b := decide (x_2 < (x0.length : Int))) h rfl rfl rfl (.inr (.inr (.inl ⟨rfl, rfl⟩))) fun a h=>nx <| c_seq fun KJ_2 hKJ_2 => ?_
 obtain ⟨hc_1, H⟩ | ⟨hc_1, H⟩ := ii H
 ·refine c_cond_t h rfl (dt hc_1) <| wp_skip <| x_then_n (hKJ_2 _ _ ?_)
  refine wp_seq <| c_block <| wp_seq <| wp_region_lit ?_
  obtain ⟨t_1, et_1, H⟩ := bs H
  refine v_index h rfl U22 ti3 rfl rfl rfl hp0_0 (hA.trans hS.old) et_1 fun ad_1 cs_1 hk_1 hc_2 => ?_
  obtain rfl := (show cs_1 = [iV t_1] from hk_1)
  intro a h
  refine s_load h rfl rfl (el_one (o := 0) hc_2 U3 rfl rfl) fun a h=>sg h rfl fun a h=>nx <| wp_region_lit <| s_load h rfl rfl (hS.load_one (p := 1) rfl U26 rfl rfl) fun a h=>mv h rfl fun a h=>?_
  obtain ⟨t_2, et_2, H⟩ := bs H
  refine s_call h rfl Try.call64 rfl (pack_Num.calls K x_3 _ t_1 t_2 w0 _ _ _ mr (hS.enter [] (by decide)) (ho_2.rd (hS.own_zed [] 2 (by decide)) (Mem.no_le _)) et_2) ?_
  rintro v_3 w_3 ⟨_, N_3, M_3, rfl, hS', hr_1⟩
  intro a h
  obtain ⟨N_4, hS'', le_3, ln_1⟩ := hS.call [] (by decide) rfl (l' := []) (ow := [_]) rfl hS'
  replace hS : Sep w0 w_3 [N_4, _, _, _, _] Z := hS''
  refine sto 1 h rfl rfl hS rfl ti26 hr_1.cellsA rfl rfl (oc hr_1.one on0) fun w_4 hS' => ?_
  replace hS : Sep w0 w_4 [_, bx g1 26 [v_3], _, _, _] Z := hS'
  refine wpList_nil ?_
  replace h : Fr 15 a [(1, _), (5, _), (6, _), (7, _)] := h.keep [1, 5, 6, 7]
  refine x_block_n <| x_then_n <| wp_region_lit <| s_arith (r := w64 (x_2 + 1)) h rfl rfl rfl (.inl ⟨rfl, rfl⟩) fun a h=>mv h rfl fun a h=>wpList_nil <| x_then_n (hKL_1 _ _ ?_)
  exact ⟨w64 (x_2 + 1), t_2, v_3, N_4, M_3, H, (h.keep [1, 5, 6, 7]), (hS.sel [0, 1, 1001, 4] (by decide)), (le_2.trans le_3), hr_1⟩
 ·refine c_cond_f h rfl (df hc_1) <| wp_exit (x_then_x (x_then_x (x_block_t ?_)))
  exact x_then_n (hJ_j_1 x_3 H _ _ ⟨v_2, N_2, M_2, (h.keep []), (hS.sel [0, 1, 1001, 3] (by decide)), le_2, ho_2⟩)

set_option maxHeartbeats 4000000 in
set_option maxRecDepth 20000 in
theorem mesg_write.calls (K : Nat) (x0 : api_Msg) (p0_0 : Value) (p0_1 : Value) (p0_2 : Value) (p0_3 : Value) (p0_4 : Value) (p0_5 : Value) (r : (List UInt8)) (w0 w : World) (Z A : Mem) (hA : A.le Z) (hS : Sep w0 w [] Z) (hp0_0 : Rd Kd.u8 A p0_0 x0.Data) (hp0_1 : Rd (Kd.int .i64) A p0_1 x0.Have) (hp0_2 : Rd (Kd.int .i64) A p0_2 x0.Need) (hp0_3 : Rd Kd.u8 A p0_3 x0.Entry.Cmd.Key) (hp0_4 : Rd Kd.u8 A p0_4 x0.Entry.Cmd.Val) (hp0_5 : Rd Kd.u8 A p0_5 x0.Entry.Cmd.Old)
    (H : mesg_write.f K x0 = some r) :
    Calls Try.prog 56 [.agg (E32 x0 p0_0 p0_1 p0_2 p0_3 p0_4 p0_5).toArray].toArray w (Ret fun v w' => ∃ (u0 : Value) (N : Mem) (M0 : Mem), v = u0 ∧ Sep w0 w' [N, M0] Z ∧ Own Kd.u8 5 M0 Mem.no u0 r) := by
 unfold mesg_write.f at H
 refine f_enter _ Try.func56 rfl Try.ntmps56 rfl fun a h=>?_
 replace h : Fr 90 a [(0, .agg (E32 x0 p0_0 p0_1 p0_2 p0_3 p0_4 p0_5).toArray)] := h
 replace hS := hS.start
 refine qr <| v_box (vs := (E32 x0 p0_0 p0_1 p0_2 p0_3 p0_4 p0_5)) h rfl rfl rfl hS fun w_1 g_1 hS' a h => ?_
 replace hS : Sep w0 w_1 [_, bx g_1 32 (E32 x0 p0_0 p0_1 p0_2 p0_3 p0_4 p0_5)] Z := hS'
 refine sg h rfl fun a h=>nx <| qr <| v_alloc h rfl ti26 hS fun w_2 g_2 hS' a h => ?_
 replace hS : Sep w0 w_2 [_, _, bx g_2 26 [nS]] Z := hS'
 refine nx <| qr <| s_func h rfl rfl fun a h=>sg h rfl fun a h=>nx <| qr <| mv h rfl fun a h=>s_fieldAddr h rfl U32 rfl ti3 rfl rfl fun a h=>?_
 refine s_load h rfl rfl (hS.load_one (p := 1) rfl U3 rfl rfl) fun a h=>s_fieldAddr h rfl U32 rfl ti3 rfl rfl fun a h=>s_load h rfl rfl (hS.load_one (p := 1) rfl U3 rfl rfl) fun a h=>s_fieldAddr h rfl U32 rfl ti3 rfl rfl fun a h=>s_load h rfl rfl (hS.load_one (p := 1) rfl U3 rfl rfl) fun a h=>s_fieldAddr h rfl U32 rfl ti3 rfl rfl fun a h=>s_load h rfl rfl (hS.load_one (p := 1) rfl U3 rfl rfl) fun a h=>?_
 have hq_1 : Reps (Kd.int .i64) Mem.no ([x0.Kind, x0.From, x0.To, x0.View] : List Int) _ := ((Reps.one (d := (Kd.int .i64)) (x := x0.Kind) (show (Kd.int .i64).K _ _ [iV x0.Kind] from rfl)).append ((Reps.one (d := (Kd.int .i64)) (x := x0.From) (show (Kd.int .i64).K _ _ [iV x0.From] from rfl)).append ((Reps.one (d := (Kd.int .i64)) (x := x0.To) (show (Kd.int .i64).K _ _ [iV x0.To] from rfl)).append ((Reps.one (d := (Kd.int .i64)) (x := x0.View) (show (Kd.int .i64).K _ _ [iV x0.View] from rfl)).append (Reps.nil (Kd.int .i64) _)))))
 refine s_buildSlice h rfl U22 ti3 rfl rfl rfl (.cons rfl (.cons rfl (.cons rfl (.cons rfl .nil)))) rfl rfl rfl hS hq_1 rfl fun w_3 v_1 M_1 hS' ho_1 a h => ?_
 replace hS : Sep w0 w_3 [_, _, _, M_1] Z := hS'
 have hS' := hS.room
 replace hS : Sep w0 w_3 [_, _, _, _, Mem.no] Z := hS'
 obtain ⟨t_1, et_1, H⟩ := bs H
 refine s_callv h rfl rfl Try.call63 rfl (mesg_write_1.calls K ([x0.Kind, x0.From, x0.To, x0.View] : List Int) _ _ ([] : List UInt8) _ _ t_1 w0 _ _ _ mr (hS.enter [1, 3] (by decide)) (ho_1.rd (hS.own_zed [1, 3] 2 (by decide)) (Mem.no_le _)) (Own.nil Kd.u8 5 Mem.no) et_1) ?_
 rintro _ w_4 ⟨v_2, N_1, M_2, rfl, hS', hr_1⟩
 intro a h
 obtain ⟨N_2, hS'', le_1, ln_1⟩ := hS.call [1, 3] (by decide) rfl (l' := [_, _]) (ow := []) rfl hS'
 replace hS : Sep w0 w_4 [N_2, _, _, _, _] Z := hS''
 refine wpList_nil ?_
 replace h : Fr 90 a [(1, .pointer (some ⟨g_1, 0, none⟩)), (2, nS), (3, .pointer (some ⟨g_2, 0, none⟩)), (4, .func (.func 63) #[] [.pointer (some ⟨g_2, 0, none⟩)].toArray)] := h.keep [1, 2, 3, 4]
 refine x_then_n <| c_seq fun KJ_1 hKJ_1 => qr <| s_fieldAddr h rfl U32 rfl ti3 rfl rfl fun a h=>s_load h rfl rfl (hS.load_one (p := 1) rfl U3 rfl rfl) fun a h=>nx <| c_block <| qr <| s_cmp (b := (x0.Kind == 2)) h rfl rfl rfl (.inl ⟨rfl, rfl⟩) fun a h=>?_
 refine sg h rfl fun a h=>wpList_nil <| x_then_n ?_
 obtain ⟨hc_1, H⟩ | ⟨hc_1, H⟩ := ii H
 ·refine c_cond_t h rfl (bt hc_1) <| h_begin (S := fun w => Sep w0 w [N_2, bx g_1 32 (E32 x0 p0_0 p0_1 p0_2 p0_3 p0_4 p0_5), Mem.no, M_1, Mem.no] Z) 10 (by kernel_rfl) rfl (bA 10 0) (by kernel_rfl) hS fun w_5 hS => ?_
  refine t_take 0 (bA 10 1) rfl rfl rfl rfl h (hS.sub (.cons mr (.rr (.zz (.rr (.zz .ii)))))) (v := .func (.func 63) #[] [.pointer (some ⟨g_2, 0, none⟩)].toArray) (fun w hS => r_move h rfl) fun a h=>t_take 1 (bA 10 3) rfl rfl rfl rfl h (hS.sub (.cons mr (.rr (.zz (.rr (.zz .ii)))))) (v := .pointer (some ⟨g_1, 4, none⟩)) (fun w hS => r_fieldAddr h U32 rfl ti3 rfl rfl rfl) fun a h=>t_take 2 (bA 10 7) rfl rfl rfl rfl h (hS.sub (.cons mr (.rr (.zz (.rr (.zz .ii)))))) (v := iV x0.Inst) (fun w hS => r_load h rfl (hS.load_one (p := 1) rfl U3 rfl rfl)) fun a h=>t_take 3 (bA 10 15) rfl rfl rfl rfl h (hS.sub (.cons mr (.rr (.zz (.rr (.zz .ii)))))) (v := .pointer (some ⟨g_1, 5, none⟩)) (fun w hS => r_fieldAddr h U32 rfl ti3 rfl rfl rfl) fun a h=>t_take 4 (bA 10 31) rfl rfl rfl rfl h (hS.sub (.cons mr (.rr (.zz (.rr (.zz .ii)))))) (v := iV x0.Len) (fun w hS => r_load h rfl (hS.load_one (p := 1) rfl U3 rfl rfl)) fun a h=>t_take 5 (bA 10 63) rfl rfl rfl rfl h (hS.sub (.cons mr (.rr (.zz (.rr (.zz .ii)))))) (v := .pointer (some ⟨g_1, 6, none⟩)) (fun w hS => r_fieldAddr h U32 rfl ti4 rfl rfl rfl) fun a h=>?_
  refine t_take 6 (bA 10 127) rfl rfl rfl rfl h (hS.sub (.cons mr (.rr (.zz (.rr (.zz .ii)))))) (v := .bool x0.Has) (fun w hS => r_load h rfl (hS.load_one (p := 1) rfl U4 rfl rfl)) fun a h=>h_event 7 (bA 10 255) rfl (by kernel_rfl) (by kernel_rfl) ?_
  obtain ⟨t_2, et_2, H⟩ := bs H
  refine s_call h rfl Try.call65 rfl (mesg_flag.calls x0.Has t_2 w0 _ _ _ mr (hS.enter [] (by decide))  et_2) ?_
  rintro _ w_6 ⟨N_3, rfl, hS'⟩
  intro a h
  obtain ⟨N_4, hS'', le_2, ln_2⟩ := hS.call [] (by decide) rfl (l' := []) (ow := []) rfl hS'
  replace hS : Sep w0 w_6 [N_4, _, _, _, _] Z := hS''
  refine wpList_nil <| x_then_n ⟨(hS.sub (.cons le_2 (.rr (.zz (.rr (.zz .ii)))))), ?_⟩
  refine h_event 8 (bA 10 511) rfl (by kernel_rfl) (by kernel_rfl) ?_
  have hq_2 : Reps (Kd.int .i64) Mem.no ([x0.Inst, x0.Len, t_2] : List Int) _ := ((Reps.one (d := (Kd.int .i64)) (x := x0.Inst) (show (Kd.int .i64).K _ _ [iV x0.Inst] from rfl)).append ((Reps.one (d := (Kd.int .i64)) (x := x0.Len) (show (Kd.int .i64).K _ _ [iV x0.Len] from rfl)).append ((Reps.one (d := (Kd.int .i64)) (x := t_2) (show (Kd.int .i64).K _ _ [iV t_2] from rfl)).append (Reps.nil (Kd.int .i64) _))))
  refine s_buildSlice h rfl U22 ti3 rfl rfl rfl (.cons rfl (.cons rfl (.cons rfl .nil))) rfl rfl rfl hS hq_2 rfl fun w_7 v_3 M_3 hS' ho_2 a h => ?_
  replace hS : Sep w0 w_7 [_, _, _, _, _, M_3] Z := hS'
  refine wpList_nil <| x_then_n ⟨(hS.sub (.cons le_2 (.rr (.zz (.rr (.zz .nn)))))), ?_⟩
  refine h_event 9 (bA 10 1023) rfl (by kernel_rfl) (by kernel_rfl) ?_
  obtain ⟨t_3, et_3, H⟩ := bs H
  refine s_callv h rfl rfl Try.call63 rfl (mesg_write_1.calls K ([x0.Inst, x0.Len, t_2] : List Int) _ _ t_1 _ _ t_3 w0 _ _ _ mr (hS.enter [1, 3] (by decide)) (ho_2.rd (hS.own_zed [1, 3] 4 (by decide)) (Mem.no_le _)) hr_1 et_3) ?_
  rintro _ w_8 ⟨v_4, N_5, M_4, rfl, hS', hr_2⟩
  intro a h
  obtain ⟨N_6, hS'', le_3, ln_3⟩ := hS.call [1, 3] (by decide) rfl (l' := [_, _]) (ow := []) rfl hS'
  replace hS : Sep w0 w_8 [N_6, _, _, _, _, _] Z := hS''
  refine wpList_nil <| x_then_n ⟨(hS.sub (.cons (le_2.trans le_3) (.rr (.zz (.rr (.zz .nn)))))), ?_⟩
  refine h_done (by kernel_rfl) <| x_block_n <| x_then_n (hKJ_1 _ _ ?_)
  refine qr <| s_load h rfl rfl (hS.load_one (p := 2) rfl U26 rfl rfl) fun a h=>sg h rfl fun a h=>wpList_nil ?_
  replace h : Fr 90 a [(2, v_4)] := h.keep [2]
  refine x_then_n <| wp_ret ?_
  obtain rfl := Option.some.inj H
  exact r1 h 2 rfl rfl ⟨_, rfl, v_4, N_6, M_4, rfl, (hS.sel [0, 4] (by decide)), hr_2⟩
 ·refine c_cond_f h rfl (bf hc_1) <| qr <| s_cmp (b := (x0.Kind == 3)) h rfl rfl rfl (.inl ⟨rfl, rfl⟩) fun a h=>sg h rfl fun a h=>wpList_nil <| x_then_n ?_
  obtain ⟨hc_2, H⟩ | ⟨hc_2, H⟩ := ii H
  ·refine c_cond_t h rfl (bt hc_2) <| wp_region_lit <| mv h rfl fun a h=>s_fieldAddr h rfl U32 rfl ti3 rfl rfl fun a h=>s_load h rfl rfl (hS.load_one (p := 1) rfl U3 rfl rfl) fun a h=>s_fieldAddr h rfl U32 rfl ti3 rfl rfl fun a h=>s_load h rfl rfl (hS.load_one (p := 1) rfl U3 rfl rfl) fun a h=>s_fieldAddr h rfl U32 rfl ti3 rfl rfl fun a h=>s_load h rfl rfl (hS.load_one (p := 1) rfl U3 rfl rfl) fun a h=>?_
   have hq_3 : Reps (Kd.int .i64) Mem.no ([x0.Members, x0.Source, x0.Len] : List Int) _ := ((Reps.one (d := (Kd.int .i64)) (x := x0.Members) (show (Kd.int .i64).K _ _ [iV x0.Members] from rfl)).append ((Reps.one (d := (Kd.int .i64)) (x := x0.Source) (show (Kd.int .i64).K _ _ [iV x0.Source] from rfl)).append ((Reps.one (d := (Kd.int .i64)) (x := x0.Len) (show (Kd.int .i64).K _ _ [iV x0.Len] from rfl)).append (Reps.nil (Kd.int .i64) _))))
   refine s_buildSlice h rfl U22 ti3 rfl rfl rfl (.cons rfl (.cons rfl (.cons rfl .nil))) rfl rfl rfl hS hq_3 rfl fun w_9 v_5 M_5 hS' ho_3 a h => ?_
   replace hS : Sep w0 w_9 [_, _, _, _, _, M_5] Z := hS'
   obtain ⟨t_4, et_4, H⟩ := bs H
   refine s_callv h rfl rfl Try.call63 rfl (mesg_write_1.calls K ([x0.Members, x0.Source, x0.Len] : List Int) _ _ t_1 _ _ t_4 w0 _ _ _ mr (hS.enter [1, 3] (by decide)) (ho_3.rd (hS.own_zed [1, 3] 4 (by decide)) (Mem.no_le _)) hr_1 et_4) ?_
   rintro _ w_10 ⟨v_6, N_7, M_6, rfl, hS', hr_3⟩
   intro a h
   obtain ⟨N_8, hS'', le_4, ln_4⟩ := hS.call [1, 3] (by decide) rfl (l' := [_, _]) (ow := []) rfl hS'
   replace hS : Sep w0 w_10 [N_8, _, _, _, _, _] Z := hS''
   refine wpList_nil ?_
   replace h : Fr 90 a [(2, _), (3, _)] := h.keep [2, 3]
   refine x_block_n <| x_then_n (hKJ_1 _ _ ?_)
   refine qr <| s_load h rfl rfl (hS.load_one (p := 2) rfl U26 rfl rfl) fun a h=>sg h rfl fun a h=>nx <| wp_ret ?_
   obtain rfl := Option.some.inj H
   exact r1 h 2 rfl rfl ⟨_, rfl, v_6, N_8, M_6, rfl, (hS.sel [0, 4] (by decide)), hr_3⟩
  ·refine c_cond_f h rfl (bf hc_2) <| qr <| s_cmp (b := (x0.Kind == 4)) h rfl rfl rfl (.inl ⟨rfl, rfl⟩) fun a h=>sg h rfl fun a h=>wpList_nil ?_
   replace h : Fr 90 a [(1, _), (2, _), (3, _), (4, _), (18, iV x0.Kind), (42, .bool (x0.Kind == 4))] := h.keep [1, 2, 3, 4, 18, 42]
   refine x_then_n ?_
   obtain ⟨hc_3, H⟩ | ⟨hc_3, H⟩ := ii H
   ·refine c_cond_t h rfl (bt hc_3) <| wp_region_lit <| mv h rfl fun a h=>s_fieldAddr h rfl U32 rfl ti3 rfl rfl fun a h=>s_load h rfl rfl (hS.load_one (p := 1) rfl U3 rfl rfl) fun a h=>?_
    have hq_4 : Reps (Kd.int .i64) Mem.no ([x0.At] : List Int) _ := ((Reps.one (d := (Kd.int .i64)) (x := x0.At) (show (Kd.int .i64).K _ _ [iV x0.At] from rfl)).append (Reps.nil (Kd.int .i64) _))
    refine s_buildSlice h rfl U22 ti3 rfl rfl rfl (.cons rfl .nil) rfl rfl rfl hS hq_4 rfl fun w_11 v_7 M_7 hS' ho_4 a h => ?_
    replace hS : Sep w0 w_11 [_, _, _, _, _, M_7] Z := hS'
    obtain ⟨t_5, et_5, H⟩ := bs H
    refine s_callv h rfl rfl Try.call63 rfl (mesg_write_1.calls K ([x0.At] : List Int) _ _ t_1 _ _ t_5 w0 _ _ _ mr (hS.enter [1, 3] (by decide)) (ho_4.rd (hS.own_zed [1, 3] 4 (by decide)) (Mem.no_le _)) hr_1 et_5) ?_
    rintro _ w_12 ⟨v_8, N_9, M_8, rfl, hS', hr_4⟩
    intro a h
    obtain ⟨N_10, hS'', le_5, ln_5⟩ := hS.call [1, 3] (by decide) rfl (l' := [_, _]) (ow := []) rfl hS'
    replace hS : Sep w0 w_12 [N_10, _, _, _, _, _] Z := hS''
    refine wpList_nil <| x_block_n <| x_then_n (hKJ_1 _ _ ?_)
    refine qr <| s_load h rfl rfl (hS.load_one (p := 2) rfl U26 rfl rfl) fun a h=>sg h rfl fun a h=>nx <| wp_ret ?_
    obtain rfl := Option.some.inj H
    exact r1 h 2 rfl rfl ⟨_, rfl, v_8, N_10, M_8, rfl, (hS.sel [0, 4] (by decide)), hr_4⟩
   ·refine c_cond_f h rfl (bf hc_3) <| qr <| s_cmp (b := (x0.Kind == 5)) h rfl rfl rfl (.inl ⟨rfl, rfl⟩) fun a h=>sg h rfl fun a h=>wpList_nil <| x_then_n ?_
    obtain ⟨hc_4, H⟩ | ⟨hc_4, H⟩ := ii H
    ·refine c_cond_t h rfl (bt hc_4) <| qr <| mv h rfl fun a h=>s_fieldAddr h rfl U32 rfl ti3 rfl rfl fun a h=>s_load h rfl rfl (hS.load_one (p := 1) rfl U3 rfl rfl) fun a h=>s_fieldAddr h rfl U32 rfl ti3 rfl rfl fun a h=>s_load h rfl rfl (hS.load_one (p := 1) rfl U3 rfl rfl) fun a h=>?_
     have hq_5 : Reps (Kd.int .i64) Mem.no ([x0.At, x0.Total] : List Int) _ := ((Reps.one (d := (Kd.int .i64)) (x := x0.At) (show (Kd.int .i64).K _ _ [iV x0.At] from rfl)).append ((Reps.one (d := (Kd.int .i64)) (x := x0.Total) (show (Kd.int .i64).K _ _ [iV x0.Total] from rfl)).append (Reps.nil (Kd.int .i64) _)))
     refine s_buildSlice h rfl U22 ti3 rfl rfl rfl (.cons rfl (.cons rfl .nil)) rfl rfl rfl hS hq_5 rfl fun w_13 v_9 M_9 hS' ho_5 a h => ?_
     replace hS : Sep w0 w_13 [_, _, _, _, _, M_9] Z := hS'
     obtain ⟨t_6, et_6, H⟩ := bs H
     refine s_callv h rfl rfl Try.call63 rfl (mesg_write_1.calls K ([x0.At, x0.Total] : List Int) _ _ t_1 _ _ t_6 w0 _ _ _ mr (hS.enter [1, 3] (by decide)) (ho_5.rd (hS.own_zed [1, 3] 4 (by decide)) (Mem.no_le _)) hr_1 et_6) ?_
     rintro _ w_14 ⟨v_10, N_11, M_10, rfl, hS', hr_5⟩
     intro a h
     obtain ⟨N_12, hS'', le_6, ln_6⟩ := hS.call [1, 3] (by decide) rfl (l' := [_, _]) (ow := []) rfl hS'
     replace hS : Sep w0 w_14 [N_12, _, _, _, _, _] Z := hS''
     refine nx <| wp_region_lit <| s_load h rfl rfl (hS.load_one (p := 2) rfl U26 rfl rfl) fun a h=>s_fieldAddr h rfl U32 rfl ti26 rfl rfl fun a h=>s_load h rfl rfl (hS.load_one (p := 1) rfl U26 rfl rfl) fun a h=>?_
     obtain ⟨t_7, et_7, H⟩ := bs H
     refine s_call h rfl Try.call66 rfl (pack_Bytes.calls K t_6 _ x0.Data _ t_7 w0 _ _ _ mr (hS.enter [] (by decide)) (hr_5.rd (hS.own_zed [] 3 (by decide)) (Mem.no_le _)) (hp0_0.mono (hA.trans (hS.le_zed []))) et_7) ?_
     rintro v_11 w_15 ⟨_, N_13, M_11, rfl, hS', hr_6⟩
     intro a h
     obtain ⟨N_14, hS'', le_7, ln_7⟩ := hS.call [] (by decide) rfl (l' := []) (ow := [_]) rfl hS'
     replace hS : Sep w0 w_15 [N_14, _, _, _, _, _, _] Z := hS''
     refine sto 2 h rfl rfl hS rfl ti26 hr_6.cellsA rfl rfl (oc hr_6.one on0) fun w_16 hS' => ?_
     replace hS : Sep w0 w_16 [_, _, bx g_2 26 [v_11], _, _, _, _] Z := hS'
     refine wpList_nil <| x_block_n <| x_then_n (hKJ_1 _ _ ?_)
     refine qr <| s_load h rfl rfl (hS.load_one (p := 2) rfl U26 rfl rfl) fun a h=>sg h rfl fun a h=>wpList_nil ?_
     replace h : Fr 90 a [(2, v_11)] := h.keep [2]
     refine x_then_n <| wp_ret ?_
     obtain rfl := Option.some.inj H
     exact r1 h 2 rfl rfl ⟨_, rfl, v_11, N_14, M_11, rfl, (hS.sel [0, 6] (by decide)), hr_6⟩
    ·refine c_cond_f h rfl (bf hc_4) <| qr <| s_cmp (b := (x0.Kind == 7)) h rfl rfl rfl (.inl ⟨rfl, rfl⟩) fun a h=>sg h rfl fun a h=>wpList_nil <| x_then_n ?_
     obtain ⟨hc_5, H⟩ | ⟨hc_5, H⟩ := ii H
     ·refine c_cond_t h rfl (bt hc_5) <| qr <| mv h rfl fun a h=>s_fieldAddr h rfl U32 rfl ti3 rfl rfl fun a h=>s_load h rfl rfl (hS.load_one (p := 1) rfl U3 rfl rfl) fun a h=>s_fieldAddr h rfl U32 rfl ti3 rfl rfl fun a h=>s_load h rfl rfl (hS.load_one (p := 1) rfl U3 rfl rfl) fun a h=>?_
      have hq_6 : Reps (Kd.int .i64) Mem.no ([x0.Hop, x0.Seq] : List Int) _ := ((Reps.one (d := (Kd.int .i64)) (x := x0.Hop) (show (Kd.int .i64).K _ _ [iV x0.Hop] from rfl)).append ((Reps.one (d := (Kd.int .i64)) (x := x0.Seq) (show (Kd.int .i64).K _ _ [iV x0.Seq] from rfl)).append (Reps.nil (Kd.int .i64) _)))
      refine s_buildSlice h rfl U22 ti3 rfl rfl rfl (.cons rfl (.cons rfl .nil)) rfl rfl rfl hS hq_6 rfl fun w_17 v_12 M_12 hS' ho_6 a h => ?_
      replace hS : Sep w0 w_17 [_, _, _, _, _, M_12] Z := hS'
      obtain ⟨t_8, et_8, H⟩ := bs H
      refine s_callv h rfl rfl Try.call63 rfl (mesg_write_1.calls K ([x0.Hop, x0.Seq] : List Int) _ _ t_1 _ _ t_8 w0 _ _ _ mr (hS.enter [1, 3] (by decide)) (ho_6.rd (hS.own_zed [1, 3] 4 (by decide)) (Mem.no_le _)) hr_1 et_8) ?_
      rintro _ w_18 ⟨v_13, N_15, M_13, rfl, hS', hr_7⟩
      intro a h
      obtain ⟨N_16, hS'', le_8, ln_8⟩ := hS.call [1, 3] (by decide) rfl (l' := [_, _]) (ow := []) rfl hS'
      replace hS : Sep w0 w_18 [N_16, _, _, _, _, _] Z := hS''
      refine nx <| h_begin (S := fun w => Sep w0 w [N_16, bx g_1 32 (E32 x0 p0_0 p0_1 p0_2 p0_3 p0_4 p0_5), Mem.no, M_1, M_13, M_12] Z) 8 (by kernel_rfl) rfl (bA 8 0) (by kernel_rfl) hS fun w_19 hS => ?_
      refine t_take 1 (bA 8 2) rfl rfl rfl rfl h (hS.sub (.cons mr (.rr (.zz .ii)))) (v := .pointer (some ⟨g_1, 14, none⟩)) (fun w hS => r_fieldAddr h U32 rfl ti22 rfl rfl rfl) fun a h=>t_take 2 (bA 8 6) rfl rfl rfl rfl h (hS.sub (.cons mr (.rr (.zz .ii)))) (v := p0_1) (fun w hS => r_load h rfl (hS.load_one (p := 1) rfl U22 rfl rfl)) fun a h=>t_take 4 (bA 8 22) rfl rfl rfl rfl h (hS.sub (.cons mr (.rr (.zz .ii)))) (v := .pointer (some ⟨g_1, 15, none⟩)) (fun w hS => r_fieldAddr h U32 rfl ti22 rfl rfl rfl) fun a h=>t_take 5 (bA 8 54) rfl rfl rfl rfl h (hS.sub (.cons mr (.rr (.zz .ii)))) (v := p0_2) (fun w hS => r_load h rfl (hS.load_one (p := 1) rfl U22 rfl rfl)) fun a h=>h_event 0 (bA 8 55) rfl (by kernel_rfl) (by kernel_rfl) <| s_load h rfl rfl (hS.load_one (p := 2) rfl U26 rfl rfl) fun a h=>wpList_nil <| x_then_n ⟨(hS.sub (.cons mr (.rr (.zz .ii)))), ?_⟩
      refine h_event 3 (bA 8 63) rfl (by kernel_rfl) (by kernel_rfl) ?_
      obtain ⟨t_9, et_9, H⟩ := bs H
      refine s_call h rfl Try.call67 rfl (mesg_row.calls K t_8 _ x0.Have _ t_9 w0 _ _ _ mr (hS.enter [] (by decide)) (hr_7.rd (hS.own_zed [] 3 (by decide)) (Mem.no_le _)) (hp0_1.mono (hA.trans (hS.le_zed []))) et_9) ?_
      rintro v_14 w_20 ⟨_, N_17, M_14, rfl, hS', hr_8⟩
      intro a h
      obtain ⟨N_18, hS'', le_9, ln_9⟩ := hS.call [] (by decide) rfl (l' := []) (ow := [_]) rfl hS'
      replace hS : Sep w0 w_20 [N_18, _, _, _, _, _, _] Z := hS''
      refine wpList_nil <| x_then_n ⟨(hS.sub (.cons le_9 (.rr (.zz (.rr (.rr (.rr .nn))))))), ?_⟩
      refine h_event 6 (bA 8 127) rfl (by kernel_rfl) (by kernel_rfl) ?_
      obtain ⟨t_10, et_10, H⟩ := bs H
      refine s_call h rfl Try.call67 rfl (mesg_row.calls K t_9 _ x0.Need _ t_10 w0 _ _ _ mr (hS.enter [] (by decide)) (hr_8.rd (hS.own_zed [] 5 (by decide)) (Mem.no_le _)) (hp0_2.mono (hA.trans (hS.le_zed []))) et_10) ?_
      rintro v_15 w_21 ⟨_, N_19, M_15, rfl, hS', hr_9⟩
      intro a h
      obtain ⟨N_20, hS'', le_10, ln_10⟩ := hS.call [] (by decide) rfl (l' := []) (ow := [_]) rfl hS'
      replace hS : Sep w0 w_21 [N_20, _, _, _, _, _, _, _] Z := hS''
      refine wpList_nil <| x_then_n ⟨(hS.sub (.cons (le_9.trans le_10) (.rr (.zz (.rr (.rr (.rr .nn))))))), ?_⟩
      refine h_event 7 (bA 8 255) rfl (by kernel_rfl) (by kernel_rfl) ?_
      refine sto 2 h rfl rfl hS rfl ti26 hr_9.cellsA rfl rfl (oc hr_9.one on0) fun w_22 hS' => ?_
      replace hS : Sep w0 w_22 [_, _, bx g_2 26 [v_15], _, _, _, _, _] Z := hS'
      refine wpList_nil <| x_then_n ⟨(hS.sub (.cons (le_9.trans le_10) (.rr (.zz (.rr (.rr (.rr .nn))))))), ?_⟩
      refine h_done (by kernel_rfl) ?_
      replace h : Fr 90 a [(2, _), (3, _)] := h.keep [2, 3]
      refine x_block_n <| x_then_n (hKJ_1 _ _ ?_)
      refine qr <| s_load h rfl rfl (hS.load_one (p := 2) rfl U26 rfl rfl) fun a h=>sg h rfl fun a h=>nx <| wp_ret ?_
      obtain rfl := Option.some.inj H
      exact r1 h 2 rfl rfl ⟨_, rfl, v_15, N_20, M_15, rfl, (hS.sel [0, 7] (by decide)), hr_9⟩
     ·refine c_cond_f h rfl (bf hc_5) <| qr <| s_cmp (b := (x0.Kind == 8)) h rfl rfl rfl (.inl ⟨rfl, rfl⟩) fun a h=>sg h rfl fun a h=>wpList_nil <| x_then_n ?_
      obtain ⟨hc_6, H⟩ | ⟨hc_6, H⟩ := ii H
      ·refine c_cond_t h rfl (bt hc_6) <| qr <| mv h rfl fun a h=>s_fieldAddr h rfl U32 rfl ti3 rfl rfl fun a h=>s_load h rfl rfl (hS.load_one (p := 1) rfl U3 rfl rfl) fun a h=>?_
       have hq_7 : Reps (Kd.int .i64) Mem.no ([x0.Index] : List Int) _ := ((Reps.one (d := (Kd.int .i64)) (x := x0.Index) (show (Kd.int .i64).K _ _ [iV x0.Index] from rfl)).append (Reps.nil (Kd.int .i64) _))
       refine s_buildSlice h rfl U22 ti3 rfl rfl rfl (.cons rfl .nil) rfl rfl rfl hS hq_7 rfl fun w_23 v_16 M_16 hS' ho_7 a h => ?_
       replace hS : Sep w0 w_23 [_, _, _, _, _, M_16] Z := hS'
       obtain ⟨t_11, et_11, H⟩ := bs H
       refine s_callv h rfl rfl Try.call63 rfl (mesg_write_1.calls K ([x0.Index] : List Int) _ _ t_1 _ _ t_11 w0 _ _ _ mr (hS.enter [1, 3] (by decide)) (ho_7.rd (hS.own_zed [1, 3] 4 (by decide)) (Mem.no_le _)) hr_1 et_11) ?_
       rintro _ w_24 ⟨v_17, N_21, M_17, rfl, hS', hr_10⟩
       intro a h
       obtain ⟨N_22, hS'', le_11, ln_11⟩ := hS.call [1, 3] (by decide) rfl (l' := [_, _]) (ow := []) rfl hS'
       replace hS : Sep w0 w_24 [N_22, _, _, _, _, _] Z := hS''
       refine wpList_nil ?_
       replace h : Fr 90 a [(1, _), (2, _), (3, _)] := h.keep [1, 2, 3]
       refine x_then_n <| wp_region_lit <| s_load h rfl rfl (hS.load_one (p := 2) rfl U26 rfl rfl) fun a h=>s_fieldAddr h rfl U32 rfl ti30 rfl rfl fun a h=>s_load h rfl rfl (hS.load_agg (p := 1) (us := (E30 x0.Entry p0_3 p0_4 p0_5)) rfl U30 rfl ti30 rfl rfl) fun a h=>?_
       obtain ⟨t_12, et_12, H⟩ := bs H
       refine s_call h rfl Try.call68 rfl (mach_PutEntry.calls K t_11 _ x0.Entry _ _ _ t_12 w0 _ _ _ mr (hS.enter [] (by decide)) (hr_10.rd (hS.own_zed [] 3 (by decide)) (Mem.no_le _)) (hp0_3.mono (hA.trans (hS.le_zed []))) (hp0_4.mono (hA.trans (hS.le_zed []))) (hp0_5.mono (hA.trans (hS.le_zed []))) et_12) ?_
       rintro v_18 w_25 ⟨_, N_23, M_18, rfl, hS', hr_11⟩
       intro a h
       obtain ⟨N_24, hS'', le_12, ln_12⟩ := hS.call [] (by decide) rfl (l' := []) (ow := [_]) rfl hS'
       replace hS : Sep w0 w_25 [N_24, _, _, _, _, _, _] Z := hS''
       refine sto 2 h rfl rfl hS rfl ti26 hr_11.cellsA rfl rfl (oc hr_11.one on0) fun w_26 hS' => ?_
       replace hS : Sep w0 w_26 [_, _, bx g_2 26 [v_18], _, _, _, _] Z := hS'
       refine wpList_nil <| x_block_n <| x_then_n (hKJ_1 _ _ ?_)
       refine qr <| s_load h rfl rfl (hS.load_one (p := 2) rfl U26 rfl rfl) fun a h=>sg h rfl fun a h=>nx <| wp_ret ?_
       obtain rfl := Option.some.inj H
       exact r1 h 2 rfl rfl ⟨_, rfl, v_18, N_24, M_18, rfl, (hS.sel [0, 6] (by decide)), hr_11⟩
      ·refine c_cond_f h rfl (bf hc_6) <| wp_skip <| x_block_n <| x_then_n (hKJ_1 _ _ ?_)
       refine qr <| s_load h rfl rfl (hS.load_one (p := 2) rfl U26 rfl rfl) fun a h=>sg h rfl fun a h=>wpList_nil ?_
       replace h : Fr 90 a [(2, v_2)] := h.keep [2]
       refine x_then_n <| wp_ret ?_
       obtain rfl := Option.some.inj H
       exact r1 h 2 rfl rfl ⟨_, rfl, v_2, N_2, M_2, rfl, (hS.sel [0, 4] (by decide)), hr_1⟩

set_option maxHeartbeats 4000000 in
set_option maxRecDepth 20000 in
theorem mesg_Encode.calls (K : Nat) (x0 : api_Msg) (p0_0 : Value) (p0_1 : Value) (p0_2 : Value) (p0_3 : Value) (p0_4 : Value) (p0_5 : Value) (r : (List UInt8)) (w0 w : World) (Z A : Mem) (hA : A.le Z) (hS : Sep w0 w [] Z) (hp0_0 : Rd Kd.u8 A p0_0 x0.Data) (hp0_1 : Rd (Kd.int .i64) A p0_1 x0.Have) (hp0_2 : Rd (Kd.int .i64) A p0_2 x0.Need) (hp0_3 : Rd Kd.u8 A p0_3 x0.Entry.Cmd.Key) (hp0_4 : Rd Kd.u8 A p0_4 x0.Entry.Cmd.Val) (hp0_5 : Rd Kd.u8 A p0_5 x0.Entry.Cmd.Old)
    (H : mesg_Encode.f K x0 = some r) :
    Calls Try.prog 41 [.agg (E32 x0 p0_0 p0_1 p0_2 p0_3 p0_4 p0_5).toArray].toArray w (Ret fun v w' => ∃ (u0 : Value) (N : Mem) (M0 : Mem), v = u0 ∧ Sep w0 w' [N, M0] Z ∧ Own Kd.u8 5 M0 Mem.no u0 r) := by
 unfold mesg_Encode.f at H
 refine f_enter _ Try.func41 rfl Try.ntmps41 rfl fun a h=>?_
 replace h : Fr 24 a [(0, .agg (E32 x0 p0_0 p0_1 p0_2 p0_3 p0_4 p0_5).toArray)] := h
 replace hS := hS.start
 refine qr <| v_box (vs := (E32 x0 p0_0 p0_1 p0_2 p0_3 p0_4 p0_5)) h rfl rfl rfl hS fun w_1 g_1 hS' a h => ?_
 replace hS : Sep w0 w_1 [_, bx g_1 32 (E32 x0 p0_0 p0_1 p0_2 p0_3 p0_4 p0_5)] Z := hS'
 refine sg h rfl fun a h=>nx <| c_seq fun KJ_1 hKJ_1 => qr <| s_load h rfl rfl (hS.load_agg (p := 1) (us := (E32 x0 p0_0 p0_1 p0_2 p0_3 p0_4 p0_5)) rfl U32 rfl ti32 rfl rfl) fun a h=>?_
 obtain ⟨t_1, et_1, H⟩ := bs H
 refine s_call h rfl Try.call55 rfl (mesg_beyond.calls x0 _ _ _ _ _ _ t_1 w0 _ _ _ mr (hS.enter [] (by decide)) (hp0_0.mono (hA.trans (hS.le_zed []))) (hp0_1.mono (hA.trans (hS.le_zed []))) (hp0_2.mono (hA.trans (hS.le_zed []))) (hp0_3.mono (hA.trans (hS.le_zed []))) (hp0_4.mono (hA.trans (hS.le_zed []))) (hp0_5.mono (hA.trans (hS.le_zed []))) et_1) ?_
 rintro _ w_2 ⟨N_1, rfl, hS'⟩
 intro a h
 obtain ⟨N_2, hS'', le_1, ln_1⟩ := hS.call [] (by decide) rfl (l' := []) (ow := []) rfl hS'
 replace hS : Sep w0 w_2 [N_2, _] Z := hS''
 refine wpList_nil <| x_then_n ?_
 obtain ⟨hc_1, H⟩ | ⟨hc_1, H⟩ := ii H
 ·refine c_cond_t h rfl hc_1 <| qr <| sg h rfl fun a h=>nx <| wp_ret (x_then_r ?_)
  have hS' := hS.room
  replace hS : Sep w0 w_2 [_, _, Mem.no] Z := hS'
  obtain rfl := Option.some.inj H
  exact r1 h 2 rfl rfl ⟨_, rfl, nS, N_2, Mem.no, rfl, (hS.sel [0, 2] (by decide)), (Own.nil Kd.u8 5 Mem.no)⟩
 ·refine c_cond_f h rfl (ef hc_1) <| wp_skip <| x_then_n (hKJ_1 _ _ ?_)
  refine qr <| s_load h rfl rfl (hS.load_agg (p := 1) (us := (E32 x0 p0_0 p0_1 p0_2 p0_3 p0_4 p0_5)) rfl U32 rfl ti32 rfl rfl) fun a h=>?_
  obtain ⟨t_2, et_2, H⟩ := bs H
  refine s_call h rfl Try.call56 rfl (mesg_write.calls K x0 _ _ _ _ _ _ t_2 w0 _ _ _ mr (hS.enter [] (by decide)) (hp0_0.mono (hA.trans (hS.le_zed []))) (hp0_1.mono (hA.trans (hS.le_zed []))) (hp0_2.mono (hA.trans (hS.le_zed []))) (hp0_3.mono (hA.trans (hS.le_zed []))) (hp0_4.mono (hA.trans (hS.le_zed []))) (hp0_5.mono (hA.trans (hS.le_zed []))) et_2) ?_
  rintro v_1 w_3 ⟨_, N_3, M_1, rfl, hS', hr_1⟩
  intro a h
  obtain ⟨N_4, hS'', le_2, ln_2⟩ := hS.call [] (by decide) rfl (l' := []) (ow := [_]) rfl hS'
  replace hS : Sep w0 w_3 [N_4, _, _] Z := hS''
  refine sg h rfl fun a h=>nx <| c_seq fun KJ_2 hKJ_2 => qr <| mv h rfl fun a h=>?_
  obtain ⟨t_3, et_3, H⟩ := bs H
  refine s_call h rfl Try.call57 rfl (mesg_read.calls K t_2 _ t_3 w0 _ _ _ mr (hS.enter [] (by decide)) (hr_1.rd (hS.own_zed [] 1 (by decide)) (Mem.no_le _)) et_3) ?_
  rintro _ w_4 ⟨v_2, v_3, v_4, v_5, v_6, v_7, N_5, M_2, M_3, M_4, M_5, M_6, M_7, rfl, hS', hr_2, hr_3, hr_4, hr_5, hr_6, hr_7⟩
  intro a h
  obtain ⟨N_6, hS'', le_3, ln_3⟩ := hS.call [] (by decide) rfl (l' := []) (ow := [_, _, _, _, _, _]) rfl hS'
  replace hS : Sep w0 w_4 [N_6, _, _, _, _, _, _, _, _] Z := hS''
  refine mv h rfl fun a h=>s_extract h rfl rfl rfl fun a h=>s_extract h rfl rfl rfl fun a h=>v_alloc h rfl ti32 hS fun w_5 g_2 hS' a h => ?_
  replace hS : Sep w0 w_5 [_, _, _, _, _, _, _, _, _, bx g_2 32 Q0] Z := hS'
  refine sto 9 h rfl rfl hS rfl ti32 rfl rfl rfl (oa 11 rfl (oc hr_2.one (oa 2 rfl (oc hr_3.one (oc hr_4.one (oa 5 rfl (oc hr_5.one (oc hr_6.one (oc hr_7.one on0))))))))) fun w_6 hS' => ?_
  replace hS : Sep w0 w_6 [_, _, _, _, _, _, _, _, _, bx g_2 32 (E32 t_3.1 v_2 v_3 v_4 v_5 v_6 v_7)] Z := hS'
  refine sg h rfl fun a h=>wpList_nil ?_
  replace h : Fr 24 a [(1, .pointer (some ⟨g_1, 0, none⟩)), (2, nS), (3, v_1), (4, .pointer (some ⟨g_2, 0, none⟩)), (5, .bool t_3.2)] := h.keep [1, 2, 3, 4, 5]
  refine x_then_n <| c_seq fun KJ_3 hKJ_3 => wp_region_lit <| mv h rfl fun a h=>s_not h rfl rfl fun a h=>mv h rfl fun a h=>?_
  obtain ⟨hc_2, H⟩ | ⟨hc_2, H⟩ := ii H
  ·refine s_on h rfl rfl (nf hc_2) <| s_load h rfl rfl (hS.load_agg (p := 9) (us := (E32 t_3.1 v_2 v_3 v_4 v_5 v_6 v_7)) rfl U32 rfl ti32 rfl rfl) fun a h=>s_on h rfl rfl (nf hc_2) <| s_load h rfl rfl (hS.load_agg (p := 1) (us := (E32 x0 p0_0 p0_1 p0_2 p0_3 p0_4 p0_5)) rfl U32 rfl ti32 rfl rfl) fun a h=>s_on h rfl rfl (nf hc_2) ?_
   obtain ⟨t_4, et_4, H⟩ := bs H
   refine s_call h rfl Try.call58 rfl (mesg_alike.calls K t_3.1 _ _ _ _ _ _ x0 _ _ _ _ _ _ t_4 w0 _ _ _ mr (hS.enter [] (by decide)) (hr_2.rd (hS.own_zed [] 2 (by decide)) (Mem.no_le _)) (hr_3.rd (hS.own_zed [] 3 (by decide)) (Mem.no_le _)) (hr_4.rd (hS.own_zed [] 4 (by decide)) (Mem.no_le _)) (hr_5.rd (hS.own_zed [] 5 (by decide)) (Mem.no_le _)) (hr_6.rd (hS.own_zed [] 6 (by decide)) (Mem.no_le _)) (hr_7.rd (hS.own_zed [] 7 (by decide)) (Mem.no_le _)) (hp0_0.mono (hA.trans (hS.le_zed []))) (hp0_1.mono (hA.trans (hS.le_zed []))) (hp0_2.mono (hA.trans (hS.le_zed []))) (hp0_3.mono (hA.trans (hS.le_zed []))) (hp0_4.mono (hA.trans (hS.le_zed []))) (hp0_5.mono (hA.trans (hS.le_zed []))) et_4) ?_
   rintro _ w_7 ⟨N_7, rfl, hS'⟩
   intro a h
   obtain ⟨N_8, hS'', le_4, ln_4⟩ := hS.call [] (by decide) rfl (l' := []) (ow := []) rfl hS'
   replace hS : Sep w0 w_7 [N_8, _, _, _, _, _, _, _, _, _] Z := hS''
   refine s_on h rfl rfl (nf hc_2) <| s_not h rfl rfl fun a h=>pf h rfl (nf hc_2) fun a h=>wpList_nil <| x_then_n (hKJ_3 _ _ ?_)
   obtain ⟨hc_3, H⟩ | ⟨hc_3, H⟩ := ii H
   ·refine c_cond_f h rfl (nf hc_3) <| wp_skip <| x_then_n (hKJ_2 _ _ ?_)
    refine qr <| mv h rfl fun a h=>sg h rfl fun a h=>nx <| wp_ret ?_
    obtain rfl := Option.some.inj H
    exact r1 h 2 rfl rfl ⟨_, rfl, v_1, N_8, M_1, rfl, (hS.sel [0, 2] (by decide)), hr_1⟩
   ·refine c_cond_t h rfl (nt (ef hc_3)) <| qr <| sg h rfl fun a h=>nx <| wp_ret (x_then_r ?_)
    have hS' := hS.room
    replace hS : Sep w0 w_7 [_, _, _, _, _, _, _, _, _, _, Mem.no] Z := hS'
    obtain rfl := Option.some.inj H
    exact r1 h 2 rfl rfl ⟨_, rfl, nS, N_8, Mem.no, rfl, (hS.sel [0, 10] (by decide)), (Own.nil Kd.u8 5 Mem.no)⟩
  ·refine of h rfl rfl (nt (ef hc_2)) fun a h=>of h rfl rfl (nt (ef hc_2)) fun a h=>of h rfl rfl (nt (ef hc_2)) fun a h=>of h rfl rfl (nt (ef hc_2)) fun a h=>pt h rfl (nt (ef hc_2)) fun a h=>wpList_nil <| x_then_n (hKJ_3 _ _ ?_)
   refine c_cond_t h rfl rfl <| qr <| sg h rfl fun a h=>nx <| wp_ret (x_then_r ?_)
   have hS' := hS.room
   replace hS : Sep w0 w_6 [_, _, _, _, _, _, _, _, _, _, Mem.no] Z := hS'
   obtain rfl := Option.some.inj H
   exact r1 h 2 rfl rfl ⟨_, rfl, nS, N_6, Mem.no, rfl, (hS.sel [0, 10] (by decide)), (Own.nil Kd.u8 5 Mem.no)⟩

set_option maxHeartbeats 4000000 in
set_option maxRecDepth 20000 in
theorem fram_Wrap.calls (K : Nat) (x0 : api_Msg) (p0_0 : Value) (p0_1 : Value) (p0_2 : Value) (p0_3 : Value) (p0_4 : Value) (p0_5 : Value) (r : (List UInt8)) (w0 w : World) (Z A : Mem) (hA : A.le Z) (hS : Sep w0 w [] Z) (hp0_0 : Rd Kd.u8 A p0_0 x0.Data) (hp0_1 : Rd (Kd.int .i64) A p0_1 x0.Have) (hp0_2 : Rd (Kd.int .i64) A p0_2 x0.Need) (hp0_3 : Rd Kd.u8 A p0_3 x0.Entry.Cmd.Key) (hp0_4 : Rd Kd.u8 A p0_4 x0.Entry.Cmd.Val) (hp0_5 : Rd Kd.u8 A p0_5 x0.Entry.Cmd.Old)
    (H : fram_Wrap.f K x0 = some r) :
    Calls Try.prog 25 [.agg (E32 x0 p0_0 p0_1 p0_2 p0_3 p0_4 p0_5).toArray].toArray w (Ret fun v w' => ∃ (u0 : Value) (N : Mem) (M0 : Mem), v = u0 ∧ Sep w0 w' [N, M0] Z ∧ Own Kd.u8 5 M0 Mem.no u0 r) := by
 unfold fram_Wrap.f at H
 refine f_enter _ Try.func25 rfl Try.ntmps25 rfl fun a h=>?_
 replace h : Fr 11 a [(0, .agg (E32 x0 p0_0 p0_1 p0_2 p0_3 p0_4 p0_5).toArray)] := h
 replace hS := hS.start
 refine qr <| v_box (vs := (E32 x0 p0_0 p0_1 p0_2 p0_3 p0_4 p0_5)) h rfl rfl rfl hS fun w_1 g_1 hS' a h => ?_
 replace hS : Sep w0 w_1 [_, bx g_1 32 (E32 x0 p0_0 p0_1 p0_2 p0_3 p0_4 p0_5)] Z := hS'
 refine sg h rfl fun a h=>nx <| qr <| s_load h rfl rfl (hS.load_agg (p := 1) (us := (E32 x0 p0_0 p0_1 p0_2 p0_3 p0_4 p0_5)) rfl U32 rfl ti32 rfl rfl) fun a h=>?_
 obtain ⟨t_1, et_1, H⟩ := bs H
 refine s_call h rfl Try.call41 rfl (mesg_Encode.calls K x0 _ _ _ _ _ _ t_1 w0 _ _ _ mr (hS.enter [] (by decide)) (hp0_0.mono (hA.trans (hS.le_zed []))) (hp0_1.mono (hA.trans (hS.le_zed []))) (hp0_2.mono (hA.trans (hS.le_zed []))) (hp0_3.mono (hA.trans (hS.le_zed []))) (hp0_4.mono (hA.trans (hS.le_zed []))) (hp0_5.mono (hA.trans (hS.le_zed []))) et_1) ?_
 rintro v_1 w_2 ⟨_, N_1, M_1, rfl, hS', hr_1⟩
 intro a h
 obtain ⟨N_2, hS'', le_1, ln_1⟩ := hS.call [] (by decide) rfl (l' := []) (ow := [_]) rfl hS'
 replace hS : Sep w0 w_2 [N_2, _, _] Z := hS''
 refine sg h rfl fun a h=>nx <| c_seq fun KJ_1 hKJ_1 => qr <| mv h rfl fun a h=>s_lenO h rfl U26 rfl hr_1 fun a h=>s_cmp (b := ((t_1.length : Int) == 0)) h rfl rfl rfl (.inl ⟨rfl, rfl⟩) fun a h=>wpList_nil <| x_then_n ?_
 obtain ⟨hc_1, H⟩ | ⟨hc_1, H⟩ := ii H
 ·refine c_cond_t h rfl (bt hc_1) <| qr <| sg h rfl fun a h=>wpList_nil ?_
  replace h : Fr 11 a [(2, nS), (3, v_1)] := h.keep [2, 3]
  refine x_then_n <| wp_ret (x_then_r ?_)
  have hS' := hS.room
  replace hS : Sep w0 w_2 [_, _, _, Mem.no] Z := hS'
  obtain rfl := Option.some.inj H
  exact r1 h 2 rfl rfl ⟨_, rfl, nS, N_2, Mem.no, rfl, (hS.sel [0, 3] (by decide)), (Own.nil Kd.u8 5 Mem.no)⟩
 ·refine c_cond_f h rfl (bf hc_1) <| wp_skip <| x_then_n (hKJ_1 _ _ ?_)
  refine qr <| mv h rfl fun a h=>?_
  obtain ⟨t_2, et_2, H⟩ := bs H
  refine s_call h rfl Try.call42 rfl (fram_Sealed.calls K t_1 _ t_2 w0 _ _ _ mr (hS.enter [] (by decide)) (hr_1.rd (hS.own_zed [] 1 (by decide)) (Mem.no_le _)) et_2) ?_
  rintro v_2 w_3 ⟨_, N_3, M_2, rfl, hS', hr_2⟩
  intro a h
  obtain ⟨N_4, hS'', le_2, ln_2⟩ := hS.call [] (by decide) rfl (l' := []) (ow := [_]) rfl hS'
  replace hS : Sep w0 w_3 [N_4, _, _, _] Z := hS''
  refine sg h rfl fun a h=>wpList_nil ?_
  replace h : Fr 11 a [(2, v_2)] := h.keep [2]
  refine x_then_n <| wp_ret ?_
  obtain rfl := Option.some.inj H
  exact r1 h 2 rfl rfl ⟨_, rfl, v_2, N_4, M_2, rfl, (hS.sel [0, 3] (by decide)), hr_2⟩

set_option maxHeartbeats 4000000 in
set_option maxRecDepth 20000 in
theorem nets_Net_Send.calls (K : Nat) (g0 : Nat) (x0_n : Int) (x0_mask : Int) (x0_l : List nets_frame) (p0_0 : Value) (M0_0 : Mem) (x1 : api_Msg) (p1_1 : Value) (p1_2 : Value) (p1_3 : Value) (p1_4 : Value) (p1_5 : Value) (p1_6 : Value) (r : Bool × Int × Int × (List nets_frame)) (w0 w : World) (Z A : Mem) (hA : A.le Z) (hS : Sep w0 w [bx g0 58 [iV x0_n, iV x0_mask, p0_0], M0_0] Z) (hp0_0 : Own k_nets_frame 60 M0_0 A p0_0 x0_l) (hp1_1 : Rd Kd.u8 A p1_1 x1.Data) (hp1_2 : Rd (Kd.int .i64) A p1_2 x1.Have) (hp1_3 : Rd (Kd.int .i64) A p1_3 x1.Need) (hp1_4 : Rd Kd.u8 A p1_4 x1.Entry.Cmd.Key) (hp1_5 : Rd Kd.u8 A p1_5 x1.Entry.Cmd.Val) (hp1_6 : Rd Kd.u8 A p1_6 x1.Entry.Cmd.Old)
    (H : nets_Net_Send.f K x0_n x0_mask x0_l x1 = some r) :
    Calls Try.prog 10 [.pointer (some ⟨g0, 0, none⟩), .agg (E32 x1 p1_1 p1_2 p1_3 p1_4 p1_5 p1_6).toArray].toArray w (Ret fun v w' => ∃ (u0 : Value) (N : Mem) (M100 : Mem), v = .bool r.1 ∧ Sep w0 w' [N, bx g0 58 [iV r.2.1, iV r.2.2.1, u0], M100] Z ∧ Own k_nets_frame 60 M100 (A.un N) u0 r.2.2.2) := by
 unfold nets_Net_Send.f at H
 refine f_enter _ Try.func10 rfl Try.ntmps10 rfl fun a h=>?_
 replace h : Fr 50 a [(0, .pointer (some ⟨g0, 0, none⟩)), (1, .agg (E32 x1 p1_1 p1_2 p1_3 p1_4 p1_5 p1_6).toArray)] := h
 replace hS := hS.start
 refine qr <| v_box (vs := (E32 x1 p1_1 p1_2 p1_3 p1_4 p1_5 p1_6)) h rfl rfl rfl hS fun w_1 g_1 hS' a h => ?_
 replace hS : Sep w0 w_1 [_, _, _, bx g_1 32 (E32 x1 p1_1 p1_2 p1_3 p1_4 p1_5 p1_6)] Z := hS'
 refine sg h rfl fun a h=>nx <| qr <| s_load h rfl rfl (hS.load_agg (p := 3) (us := (E32 x1 p1_1 p1_2 p1_3 p1_4 p1_5 p1_6)) rfl U32 rfl ti32 rfl rfl) fun a h=>?_
 obtain ⟨t_1, et_1, H⟩ := bs H
 refine s_call h rfl Try.call25 rfl (fram_Wrap.calls K x1 _ _ _ _ _ _ t_1 w0 _ _ _ mr (hS.enter [] (by decide)) (hp1_1.mono (hA.trans (hS.le_zed []))) (hp1_2.mono (hA.trans (hS.le_zed []))) (hp1_3.mono (hA.trans (hS.le_zed []))) (hp1_4.mono (hA.trans (hS.le_zed []))) (hp1_5.mono (hA.trans (hS.le_zed []))) (hp1_6.mono (hA.trans (hS.le_zed []))) et_1) ?_
 rintro v_1 w_2 ⟨_, N_1, M_1, rfl, hS', hr_1⟩
 intro a h
 obtain ⟨N_2, hS'', le_1, ln_1⟩ := hS.call [] (by decide) rfl (l' := []) (ow := [_]) rfl hS'
 replace hS : Sep w0 w_2 [N_2, _, _, _, _] Z := hS''
 refine sg h rfl fun a h=>nx <| c_seq fun KJ_1 hKJ_1 => c_seq fun KJ_2 hKJ_2 => ?_
 have hJ_j_1 : ∀ (x_1 : Bool), nets_Net_Send.J1 K x0_n x0_mask x0_l x1 t_1 x_1 = some r → ∀ (a : Act) (w_3 : World), (∃ (N_3 : Mem), Fr 50 a [(0, .pointer (some ⟨g0, 0, none⟩)), (3, .pointer (some ⟨g_1, 0, none⟩)), (4, .bool false), (5, v_1), (33, .bool x_1)] ∧ Sep w0 w_3 [N_3, bx g0 58 [iV x0_n, iV x0_mask, p0_0], M0_0, bx g_1 32 (E32 x1 p1_1 p1_2 p1_3 p1_4 p1_5 p1_6), M_1] Z ∧ N_2.le N_3) → KJ_2 a w_3 := by
  clear H h hS a
  rintro x_1 H a w_3 ⟨N_3, h, hS, le_2⟩
  unfold nets_Net_Send.J1 at H
  refine hKJ_2 _ _ ?_
  obtain ⟨hc_1, H⟩ | ⟨hc_1, H⟩ := ii H
  ·refine c_cond_t h rfl hc_1 <| qr <| sg h rfl fun a h=>nx <| wp_ret (x_then_r ?_)
   obtain rfl := Option.some.inj H
   exact r1 h 4 rfl rfl ⟨_, rfl, p0_0, N_3, M0_0, rfl, (hS.sel [0, 1, 2] (by decide)), (hp0_0.mono (Mem.le_un _ _))⟩
  ·refine c_cond_f h rfl (ef hc_1) <| wp_skip <| x_then_n (hKJ_1 _ _ ?_)
   refine c_seq fun KJ_3 hKJ_3 => h_begin (S := fun w => Sep w0 w [N_3, Mem.no, Mem.no, bx g_1 32 (E32 x1 p1_1 p1_2 p1_3 p1_4 p1_5 p1_6), Mem.no] Z) 17 (by kernel_rfl) rfl (bA 17 0) (by kernel_rfl) hS fun w_4 hS => ?_
   refine t_take 0 (bA 17 1) rfl rfl rfl rfl h (hS.sub (.cons mr (.zz (.zz (.rr (.zz .ii)))))) (v := .pointer (some ⟨g0, 0, none⟩)) (fun w hS => r_move h rfl) fun a h=>t_take 1 (bA 17 3) rfl rfl rfl rfl h (hS.sub (.cons mr (.zz (.zz (.rr (.zz .ii)))))) (v := .pointer (some ⟨g0, 0, none⟩)) (fun w hS => r_move h rfl) fun a h=>t_take 2 (bA 17 7) rfl rfl rfl rfl h (hS.sub (.cons mr (.zz (.zz (.rr (.zz .ii)))))) (v := .pointer (some ⟨g0, 0, none⟩)) (fun w hS => r_nilCheck h rfl) fun a h=>t_take 3 (bA 17 15) rfl rfl rfl rfl h (hS.sub (.cons mr (.zz (.zz (.rr (.zz .ii)))))) (v := .pointer (some ⟨g0, 2, none⟩)) (fun w hS => r_fieldAddr h U58 rfl ti56 rfl rfl rfl) fun a h=>t_take 5 (bA 17 47) rfl rfl rfl rfl h (hS.sub (.cons mr (.zz (.zz (.rr (.zz .ii)))))) (v := .pointer (some ⟨g_1, 1, none⟩)) (fun w hS => r_fieldAddr h U32 rfl ti3 rfl rfl rfl) fun a h=>t_take 6 (bA 17 111) rfl rfl rfl rfl h (hS.sub (.cons mr (.zz (.zz (.rr (.zz .ii)))))) (v := iV x1.From) (fun w hS => r_load h rfl (hS.load_one (p := 3) rfl U3 rfl rfl)) fun a h=>?_
   refine t_take 7 (bA 17 239) rfl rfl rfl rfl h (hS.sub (.cons mr (.zz (.zz (.rr (.zz .ii)))))) (v := .pointer (some ⟨g_1, 2, none⟩)) (fun w hS => r_fieldAddr h U32 rfl ti3 rfl rfl rfl) fun a h=>t_take 8 (bA 17 495) rfl rfl rfl rfl h (hS.sub (.cons mr (.zz (.zz (.rr (.zz .ii)))))) (v := iV x1.To) (fun w hS => r_load h rfl (hS.load_one (p := 3) rfl U3 rfl rfl)) fun a h=>t_take 9 (bA 17 1007) rfl rfl rfl rfl h (hS.sub (.cons mr (.zz (.zz (.rr (.zz .ii)))))) (v := v_1) (fun w hS => r_move h rfl) fun a h=>t_take 10 (bA 17 2031) rfl rfl rfl rfl h (hS.sub (.cons mr (.zz (.zz (.rr (.zz .ii)))))) (v := .agg ([iV x1.From, iV x1.To, v_1] : List Value).toArray) (fun w hS => r_build h ti44 pl44 rfl (.cons rfl (.cons rfl (.cons hr_1.cells .nil))) (cs := [iV x1.From, iV x1.To, v_1]) (by kernel_rfl)) fun a h=>t_take 11 (bA 17 4079) rfl rfl rfl rfl h (hS.sub (.cons mr (.zz (.zz (.rr (.zz .ii)))))) (v := .agg ([iV x1.From, iV x1.To, v_1, .bool false] : List Value).toArray) (fun w hS => r_build h ti60 pl60 rfl (.cons rfl .nil) (cs := [iV x1.From, iV x1.To, v_1, .bool false]) (by kernel_rfl)) fun a h=>?_
   obtain ⟨t_2, et_2, H⟩ := bs H
   refine h_events [4, 12] (by kernel_rfl) (by simp) ?_
   intro i hi; simp only [List.mem_cons, List.not_mem_nil, or_false] at hi; rcases hi with rfl | rfl
   ·refine ⟨_, (bA 17 4095), rfl, by kernel_rfl, ?_⟩
    refine s_load h rfl rfl (hS.load_one (p := 1) rfl U56 rfl rfl) fun a h=>wpList_nil <| x_then_n ⟨(hS.sub (.cons mr (.zz (.zz (.rr (.zz .ii)))))), ?_⟩
    refine h_event 12 (bA 17 8191) rfl (by kernel_rfl) (by kernel_rfl) ?_
    obtain ⟨N_4, hS', le_3, lo_1⟩ := hS.freeze 3 rfl
    replace hS : Sep w0 w_4 [N_4, _, _, _, Mem.no] Z := hS'
    have hq_1 : Reps k_nets_frame N_4 ([(⟨(⟨x1.From, x1.To, t_1⟩ : api_Flight), false⟩ : nets_frame)] : List nets_frame) _ := ((Reps.one (d := k_nets_frame) (x := (⟨(⟨x1.From, x1.To, t_1⟩ : api_Flight), false⟩ : nets_frame)) (k_nets_frame.mk' (hr_1.rd lo_1 (Mem.no_le _)))).append (Reps.nil k_nets_frame _))
    refine s_buildSlice h rfl U56 ti60 rfl rfl rfl (.cons rfl .nil) rfl rfl rfl hS hq_1 rfl fun w_5 v_2 M_2 hS' ho_1 a h => ?_
    replace hS : Sep w0 w_5 [_, _, _, _, _, M_2] Z := hS'
    refine wpList_nil <| x_then_n ⟨(hS.sub (.cons le_3 (.zz (.zz (.rr (.zz .nn)))))), ?_⟩
    refine h_event 13 (bA 17 16383) rfl (by kernel_rfl) (by kernel_rfl) <| s_append (J := N_4) (I' := (A.un N_4)) (p := 2) 2932031007402 h rfl rfl rfl U56 ti60 rfl rfl rfl rfl hS rfl hp0_0 (ho_1.src (hS.own 5)) (Mem.le_un _ _) (mr.trans (hS.sndA hA)) et_2 fun w_6 v_3 M_3 hS' ho_2 a h => ?_
    replace hS : Sep w0 w_6 [_, _, M_3, _, _, _] Z := hS'
    refine wpList_nil <| x_then_n ⟨(hS.sub (.cons le_3 (.zz (.zz (.rr (.zz .nn)))))), ?_⟩
    refine t_take 14 (bA 17 32767) rfl rfl rfl rfl h (hS.sub (.cons le_3 (.zz (.zz (.rr (.zz .nn)))))) (v := .pointer (some ⟨g0, 0, none⟩)) (fun w hS => r_nilCheck h rfl) fun a h=>t_take 15 (bA 17 65535) rfl rfl rfl rfl h (hS.sub (.cons le_3 (.zz (.zz (.rr (.zz .nn)))))) (v := .pointer (some ⟨g0, 2, none⟩)) (fun w hS => r_fieldAddr h U58 rfl ti56 rfl rfl rfl) fun a h=>h_event 16 (bA 17 131071) rfl (by kernel_rfl) (by kernel_rfl) ?_
    refine sto 1 h rfl rfl hS rfl ti56 ho_2.cellsA rfl rfl (oc ho_2.one on0) fun w_7 hS' => ?_
    replace hS : Sep w0 w_7 [_, bx g0 58 [_, _, v_3], _, _, _, _] Z := hS'
    refine wpList_nil <| x_then_n ⟨(hS.sub (.cons le_3 (.zz (.zz (.rr (.zz .nn)))))), ?_⟩
    refine h_done (by kernel_rfl) <| x_then_n (hKJ_3 _ _ ?_)
    refine qr <| sg h rfl fun a h=>wpList_nil ?_
    replace h : Fr 50 a [(4, .bool true)] := h.keep [4]
    refine x_then_n <| wp_ret ?_
    obtain rfl := Option.some.inj H
    exact r1 h 4 rfl rfl ⟨_, rfl, v_3, N_4, M_3, rfl, (hS.sel [0, 1, 2] (by decide)), (ho_2.mono (Mem.un_left mr))⟩
   ·refine ⟨_, (bA 17 8175), rfl, by kernel_rfl, ?_⟩
    obtain ⟨N_5, hS', le_4, lo_2⟩ := hS.freeze 3 rfl
    replace hS : Sep w0 w_4 [N_5, _, _, _, Mem.no] Z := hS'
    have hq_2 : Reps k_nets_frame N_5 ([(⟨(⟨x1.From, x1.To, t_1⟩ : api_Flight), false⟩ : nets_frame)] : List nets_frame) _ := ((Reps.one (d := k_nets_frame) (x := (⟨(⟨x1.From, x1.To, t_1⟩ : api_Flight), false⟩ : nets_frame)) (k_nets_frame.mk' (hr_1.rd lo_2 (Mem.no_le _)))).append (Reps.nil k_nets_frame _))
    refine s_buildSlice h rfl U56 ti60 rfl rfl rfl (.cons rfl .nil) rfl rfl rfl hS hq_2 rfl fun w_8 v_4 M_4 hS' ho_3 a h => ?_
    replace hS : Sep w0 w_8 [_, _, _, _, _, M_4] Z := hS'
    refine wpList_nil <| x_then_n ⟨(hS.sub (.cons le_4 (.zz (.zz (.rr (.zz .nn)))))), ?_⟩
    refine h_event 4 (bA 17 8191) rfl (by kernel_rfl) (by kernel_rfl) <| s_load h rfl rfl (hS.load_one (p := 1) rfl U56 rfl rfl) fun a h=>wpList_nil <| x_then_n ⟨(hS.sub (.cons le_4 (.zz (.zz (.rr (.zz .nn)))))), ?_⟩
    refine h_event 13 (bA 17 16383) rfl (by kernel_rfl) (by kernel_rfl) <| s_append (J := N_5) (I' := (A.un N_5)) (p := 2) 2932031007402 h rfl rfl rfl U56 ti60 rfl rfl rfl rfl hS rfl hp0_0 (ho_3.src (hS.own 5)) (Mem.le_un _ _) (mr.trans (hS.sndA hA)) et_2 fun w_9 v_5 M_5 hS' ho_4 a h => ?_
    replace hS : Sep w0 w_9 [_, _, M_5, _, _, _] Z := hS'
    refine wpList_nil <| x_then_n ⟨(hS.sub (.cons le_4 (.zz (.zz (.rr (.zz .nn)))))), ?_⟩
    refine t_take 14 (bA 17 32767) rfl rfl rfl rfl h (hS.sub (.cons le_4 (.zz (.zz (.rr (.zz .nn)))))) (v := .pointer (some ⟨g0, 0, none⟩)) (fun w hS => r_nilCheck h rfl) fun a h=>t_take 15 (bA 17 65535) rfl rfl rfl rfl h (hS.sub (.cons le_4 (.zz (.zz (.rr (.zz .nn)))))) (v := .pointer (some ⟨g0, 2, none⟩)) (fun w hS => r_fieldAddr h U58 rfl ti56 rfl rfl rfl) fun a h=>h_event 16 (bA 17 131071) rfl (by kernel_rfl) (by kernel_rfl) ?_
    refine sto 1 h rfl rfl hS rfl ti56 ho_4.cellsA rfl rfl (oc ho_4.one on0) fun w_10 hS' => ?_
    replace hS : Sep w0 w_10 [_, bx g0 58 [_, _, v_5], _, _, _, _] Z := hS'
    refine wpList_nil <| x_then_n ⟨(hS.sub (.cons le_4 (.zz (.zz (.rr (.zz .nn)))))), ?_⟩
    refine h_done (by kernel_rfl) <| x_then_n (hKJ_3 _ _ ?_)
    refine qr <| sg h rfl fun a h=>wpList_nil ?_
    replace h : Fr 50 a [(4, .bool true)] := h.keep [4]
    refine x_then_n <| wp_ret ?_
    obtain rfl := Option.some.inj H
    exact r1 h 4 rfl rfl ⟨_, rfl, v_5, N_5, M_5, rfl, (hS.sel [0, 1, 2] (by decide)), (ho_4.mono (Mem.un_left mr))⟩
 clear hKJ_2
 refine h_begin (S := fun w => Sep w0 w [N_2, bx g0 58 [iV x0_n, iV x0_mask, p0_0], M0_0, bx g_1 32 (E32 x1 p1_1 p1_2 p1_3 p1_4 p1_5 p1_6), M_1] Z) 26 (by kernel_rfl) rfl (bA 26 0) (by kernel_rfl) hS fun w_11 hS => ?_
 refine t_take 0 (bA 26 1) rfl rfl rfl rfl h (hS.sub .ii) (v := v_1) (fun w hS => r_move h rfl) fun a h=>t_take 1 (bA 26 3) rfl rfl rfl rfl h (hS.sub .ii) (v := iV (t_1.length : Int)) (fun w hS => r_lenO h U26 rfl hr_1) fun a h=>t_take 2 (bA 26 7) rfl rfl rfl rfl h (hS.sub .ii) (v := .bool ((t_1.length : Int) == 0)) (fun w hS => r_cmp (b := ((t_1.length : Int) == 0)) h rfl rfl (.inl ⟨rfl, rfl⟩)) fun a h=>t_take 3 (bA 26 15) rfl rfl rfl rfl h (hS.sub .ii) (v := .bool ((t_1.length : Int) == 0)) (fun w hS => r_move h rfl) fun a h=>?_
 obtain ⟨hc_2, H⟩ | ⟨hc_2, H⟩ := ii H
 ·refine t_take_off 4 (bA 26 31) rfl rfl rfl rfl (.inl (congrArg Value.bool (bt hc_2))) rfl rfl h (hS.sub .ii) fun a h=>t_take_off 5 (bA 26 63) rfl rfl rfl rfl (.inl (congrArg Value.bool (bt hc_2))) rfl rfl h (hS.sub .ii) fun a h=>t_take_off 6 (bA 26 127) rfl rfl rfl rfl (.inl (congrArg Value.bool (bt hc_2))) rfl rfl h (hS.sub .ii) fun a h=>t_take_off 7 (bA 26 255) rfl rfl rfl rfl (.inl (congrArg Value.bool (bt hc_2))) rfl rfl h (hS.sub .ii) fun a h=>t_take_off 8 (bA 26 511) rfl rfl rfl rfl (.inl (congrArg Value.bool (bt hc_2))) rfl rfl h (hS.sub .ii) fun a h=>t_take_off 9 (bA 26 1023) rfl rfl rfl rfl (.inl (congrArg Value.bool (bt hc_2))) rfl rfl h (hS.sub .ii) fun a h=>t_take_off 10 (bA 26 2047) rfl rfl rfl rfl (.inl (congrArg Value.bool (bt hc_2))) rfl rfl h (hS.sub .ii) fun a h=>t_take 11 (bA 26 4095) rfl rfl rfl rfl h (hS.sub .ii) (v := .bool true) (fun w hS => r_pick_t h rfl (bt hc_2) rfl) fun a h=>t_take 12 (bA 26 8191) rfl rfl rfl rfl h (hS.sub .ii) (v := .bool true) (fun w hS => r_move h rfl) fun a h=>t_take_off 13 (bA 26 16383) rfl rfl rfl rfl (.inl (congrArg Value.bool rfl)) rfl rfl h (hS.sub .ii) fun a h=>?_
  refine t_take_off 14 (bA 26 32767) rfl rfl rfl rfl (.inl (congrArg Value.bool rfl)) rfl rfl h (hS.sub .ii) fun a h=>t_take_off 15 (bA 26 65535) rfl rfl rfl rfl (.inl (congrArg Value.bool rfl)) rfl rfl h (hS.sub .ii) fun a h=>t_take_off 16 (bA 26 131071) rfl rfl rfl rfl (.inl (congrArg Value.bool rfl)) rfl rfl h (hS.sub .ii) fun a h=>t_take_off 17 (bA 26 262143) rfl rfl rfl rfl (.inl (congrArg Value.bool rfl)) rfl rfl h (hS.sub .ii) fun a h=>t_take_off 18 (bA 26 524287) rfl rfl rfl rfl (.inl (congrArg Value.bool rfl)) rfl rfl h (hS.sub .ii) fun a h=>t_take_off 19 (bA 26 1048575) rfl rfl rfl rfl (.inl (congrArg Value.bool rfl)) rfl rfl h (hS.sub .ii) fun a h=>t_take 20 (bA 26 2097151) rfl rfl rfl rfl h (hS.sub .ii) (v := .bool true) (fun w hS => r_pick_t h rfl rfl rfl) fun a h=>t_take 21 (bA 26 4194303) rfl rfl rfl rfl h (hS.sub .ii) (v := .bool true) (fun w hS => r_move h rfl) fun a h=>t_take_off 22 (bA 26 8388607) rfl rfl rfl rfl (.inl (congrArg Value.bool rfl)) rfl rfl h (hS.sub .ii) fun a h=>t_take_off 23 (bA 26 16777215) rfl rfl rfl rfl (.inl (congrArg Value.bool rfl)) rfl rfl h (hS.sub .ii) fun a h=>?_
  refine t_take_off 24 (bA 26 33554431) rfl rfl rfl rfl (.inl (congrArg Value.bool rfl)) rfl rfl h (hS.sub .ii) fun a h=>t_take 25 (bA 26 67108863) rfl rfl rfl rfl h (hS.sub .ii) (v := .bool true) (fun w hS => r_pick_t h rfl rfl rfl) fun a h=>h_done (by kernel_rfl) ?_
  exact x_then_n (hJ_j_1 true H _ _ ⟨N_2, (h.keep [0, 3, 4, 5, 33]), (hS.sel [0, 1, 2, 3, 4] (by decide)), mr⟩)
 ·refine t_take_on 4 (bA 26 31) rfl rfl rfl rfl (bf hc_2) rfl rfl h (hS.sub .ii) (v := .pointer (some ⟨g_1, 1, none⟩)) (fun w hS => r_fieldAddr h U32 rfl ti3 rfl rfl rfl) fun a h=>t_take_on 5 (bA 26 63) rfl rfl rfl rfl (bf hc_2) rfl rfl h (hS.sub .ii) (v := iV x1.From) (fun w hS => r_load h rfl (hS.load_one (p := 3) rfl U3 rfl rfl)) fun a h=>t_take_on 6 (bA 26 127) rfl rfl rfl rfl (bf hc_2) rfl rfl h (hS.sub .ii) (v := .pointer (some ⟨g0, 0, none⟩)) (fun w hS => r_move h rfl) fun a h=>t_take_on 7 (bA 26 255) rfl rfl rfl rfl (bf hc_2) rfl rfl h (hS.sub .ii) (v := .pointer (some ⟨g0, 0, none⟩)) (fun w hS => r_nilCheck h rfl) fun a h=>t_take_on 8 (bA 26 511) rfl rfl rfl rfl (bf hc_2) rfl rfl h (hS.sub .ii) (v := .pointer (some ⟨g0, 0, none⟩)) (fun w hS => r_fieldAddr h U58 rfl ti3 rfl rfl rfl) fun a h=>t_take_on 9 (bA 26 1023) rfl rfl rfl rfl (bf hc_2) rfl rfl h (hS.sub .ii) (v := iV x0_n) (fun w hS => r_load h rfl (hS.load_one (p := 1) rfl U3 rfl rfl)) fun a h=>?_
  refine t_take_on 10 (bA 26 2047) rfl rfl rfl rfl (bf hc_2) rfl rfl h (hS.sub .ii) (v := .bool (decide (x1.From ≥ x0_n))) (fun w hS => r_cmp (b := decide (x1.From ≥ x0_n)) h rfl rfl (.inr (.inr (.inr (.inr (.inr ⟨rfl, rfl⟩)))))) fun a h=>t_take 11 (bA 26 4095) rfl rfl rfl rfl h (hS.sub .ii) (v := .bool (decide (x1.From ≥ x0_n))) (fun w hS => r_pick_f h rfl (bf hc_2) rfl) fun a h=>t_take 12 (bA 26 8191) rfl rfl rfl rfl h (hS.sub .ii) (v := .bool (decide (x1.From ≥ x0_n))) (fun w hS => r_move h rfl) fun a h=>?_
  obtain ⟨hc_3, H⟩ | ⟨hc_3, H⟩ := ii H
  ·refine t_take_off 13 (bA 26 16383) rfl rfl rfl rfl (.inl (congrArg Value.bool (dt hc_3))) rfl rfl h (hS.sub .ii) fun a h=>t_take_off 14 (bA 26 32767) rfl rfl rfl rfl (.inl (congrArg Value.bool (dt hc_3))) rfl rfl h (hS.sub .ii) fun a h=>t_take_off 15 (bA 26 65535) rfl rfl rfl rfl (.inl (congrArg Value.bool (dt hc_3))) rfl rfl h (hS.sub .ii) fun a h=>t_take_off 16 (bA 26 131071) rfl rfl rfl rfl (.inl (congrArg Value.bool (dt hc_3))) rfl rfl h (hS.sub .ii) fun a h=>t_take_off 17 (bA 26 262143) rfl rfl rfl rfl (.inl (congrArg Value.bool (dt hc_3))) rfl rfl h (hS.sub .ii) fun a h=>t_take_off 18 (bA 26 524287) rfl rfl rfl rfl (.inl (congrArg Value.bool (dt hc_3))) rfl rfl h (hS.sub .ii) fun a h=>t_take_off 19 (bA 26 1048575) rfl rfl rfl rfl (.inl (congrArg Value.bool (dt hc_3))) rfl rfl h (hS.sub .ii) fun a h=>t_take 20 (bA 26 2097151) rfl rfl rfl rfl h (hS.sub .ii) (v := .bool true) (fun w hS => r_pick_t h rfl (dt hc_3) rfl) fun a h=>t_take 21 (bA 26 4194303) rfl rfl rfl rfl h (hS.sub .ii) (v := .bool true) (fun w hS => r_move h rfl) fun a h=>?_
   refine t_take_off 22 (bA 26 8388607) rfl rfl rfl rfl (.inl (congrArg Value.bool rfl)) rfl rfl h (hS.sub .ii) fun a h=>t_take_off 23 (bA 26 16777215) rfl rfl rfl rfl (.inl (congrArg Value.bool rfl)) rfl rfl h (hS.sub .ii) fun a h=>t_take_off 24 (bA 26 33554431) rfl rfl rfl rfl (.inl (congrArg Value.bool rfl)) rfl rfl h (hS.sub .ii) fun a h=>t_take 25 (bA 26 67108863) rfl rfl rfl rfl h (hS.sub .ii) (v := .bool true) (fun w hS => r_pick_t h rfl rfl rfl) fun a h=>h_done (by kernel_rfl) ?_
   exact x_then_n (hJ_j_1 true H _ _ ⟨N_2, (h.keep [0, 3, 4, 5, 33]), (hS.sel [0, 1, 2, 3, 4] (by decide)), mr⟩)
  ·refine t_take_on 13 (bA 26 16383) rfl rfl rfl rfl (df hc_3) rfl rfl h (hS.sub .ii) (v := .pointer (some ⟨g_1, 2, none⟩)) (fun w hS => r_fieldAddr h U32 rfl ti3 rfl rfl rfl) fun a h=>t_take_on 14 (bA 26 32767) rfl rfl rfl rfl (df hc_3) rfl rfl h (hS.sub .ii) (v := iV x1.To) (fun w hS => r_load h rfl (hS.load_one (p := 3) rfl U3 rfl rfl)) fun a h=>t_take_on 15 (bA 26 65535) rfl rfl rfl rfl (df hc_3) rfl rfl h (hS.sub .ii) (v := .pointer (some ⟨g0, 0, none⟩)) (fun w hS => r_move h rfl) fun a h=>t_take_on 16 (bA 26 131071) rfl rfl rfl rfl (df hc_3) rfl rfl h (hS.sub .ii) (v := .pointer (some ⟨g0, 0, none⟩)) (fun w hS => r_nilCheck h rfl) fun a h=>t_take_on 17 (bA 26 262143) rfl rfl rfl rfl (df hc_3) rfl rfl h (hS.sub .ii) (v := .pointer (some ⟨g0, 0, none⟩)) (fun w hS => r_fieldAddr h U58 rfl ti3 rfl rfl rfl) fun a h=>t_take_on 18 (bA 26 524287) rfl rfl rfl rfl (df hc_3) rfl rfl h (hS.sub .ii) (v := iV x0_n) (fun w hS => r_load h rfl (hS.load_one (p := 1) rfl U3 rfl rfl)) fun a h=>?_
   refine t_take_on 19 (bA 26 1048575) rfl rfl rfl rfl (df hc_3) rfl rfl h (hS.sub .ii) (v := .bool (decide (x1.To ≥ x0_n))) (fun w hS => r_cmp (b := decide (x1.To ≥ x0_n)) h rfl rfl (.inr (.inr (.inr (.inr (.inr ⟨rfl, rfl⟩)))))) fun a h=>t_take 20 (bA 26 2097151) rfl rfl rfl rfl h (hS.sub .ii) (v := .bool (decide (x1.To ≥ x0_n))) (fun w hS => r_pick_f h rfl (df hc_3) rfl) fun a h=>t_take 21 (bA 26 4194303) rfl rfl rfl rfl h (hS.sub .ii) (v := .bool (decide (x1.To ≥ x0_n))) (fun w hS => r_move h rfl) fun a h=>?_
   obtain ⟨hc_4, H⟩ | ⟨hc_4, H⟩ := ii H
   ·refine t_take_off 22 (bA 26 8388607) rfl rfl rfl rfl (.inl (congrArg Value.bool (dt hc_4))) rfl rfl h (hS.sub .ii) fun a h=>t_take_off 23 (bA 26 16777215) rfl rfl rfl rfl (.inl (congrArg Value.bool (dt hc_4))) rfl rfl h (hS.sub .ii) fun a h=>t_take_off 24 (bA 26 33554431) rfl rfl rfl rfl (.inl (congrArg Value.bool (dt hc_4))) rfl rfl h (hS.sub .ii) fun a h=>t_take 25 (bA 26 67108863) rfl rfl rfl rfl h (hS.sub .ii) (v := .bool true) (fun w hS => r_pick_t h rfl (dt hc_4) rfl) fun a h=>h_done (by kernel_rfl) ?_
    exact x_then_n (hJ_j_1 true H _ _ ⟨N_2, (h.keep [0, 3, 4, 5, 33]), (hS.sel [0, 1, 2, 3, 4] (by decide)), mr⟩)
   ·refine t_take_on 22 (bA 26 8388607) rfl rfl rfl rfl (df hc_4) rfl rfl h (hS.sub .ii) (v := .pointer (some ⟨g0, 0, none⟩)) (fun w hS => r_move h rfl) fun a h=>h_event 23 (bA 26 16777215) rfl (by kernel_rfl) (by kernel_rfl) <| s_on h rfl rfl (df hc_4) ?_
    obtain ⟨t_3, et_3, H⟩ := bs H
    refine s_call h rfl Try.call26 rfl (nets_Net_room.calls _ x0_n x0_mask x0_l _ t_3 w0 _ _ _ mr (hS.enter [0] (by decide)) (hp0_0.rd (hS.own_zed [0] 1 (by decide)) (hA.trans (hS.le_zed [0]))) et_3) ?_
    rintro _ w_12 ⟨N_6, rfl, hS'⟩
    intro a h
    obtain ⟨N_7, hS'', le_5, ln_2⟩ := hS.call [0] (by decide) rfl (l' := [_]) (ow := []) rfl hS'
    replace hS : Sep w0 w_12 [N_7, _, _, _, _] Z := hS''
    refine wpList_nil <| x_then_n ⟨(hS.sub (.cons le_5 .ii)), ?_⟩
    refine t_take_on 24 (bA 26 33554431) rfl rfl rfl rfl (df hc_4) rfl rfl h (hS.sub (.cons le_5 .ii)) (v := .bool (!t_3)) (fun w hS => r_not h rfl) fun a h=>t_take 25 (bA 26 67108863) rfl rfl rfl rfl h (hS.sub (.cons le_5 .ii)) (v := .bool (!t_3)) (fun w hS => r_pick_f h rfl (df hc_4) rfl) fun a h=>h_done (by kernel_rfl) ?_
    exact x_then_n (hJ_j_1 (!t_3) H _ _ ⟨N_7, (h.keep [0, 3, 4, 5, 33]), (hS.sel [0, 1, 2, 3, 4] (by decide)), le_5⟩)

set_option maxHeartbeats 4000000 in
set_option maxRecDepth 20000 in
theorem hocketlaw23_awake.calls (K : Nat) (r : Unit) (w0 w : World) (Z A : Mem) (hA : A.le Z) (hS : Sep w0 w [] Z)
    (H : hocketlaw23_awake.f K = some r) :
    Calls Try.prog 13 [].toArray w (Ret fun v w' => ∃ (N : Mem), v = .bool true ∧ Sep w0 w' [N] Z) := by
 unfold hocketlaw23_awake.f at H
 refine f_enter _ Try.func13 rfl Try.ntmps13 rfl fun a h=>?_
 replace h : Fr 72 a [] := h
 replace hS := hS.start
 refine qr <| sg h rfl fun a h=>nx <| wp_seq <| wp_region_lit ?_
 obtain ⟨t_1, et_1, H⟩ := bs H
 refine s_call h rfl Try.call9 rfl (nets_New.calls 3 t_1 w0 _ _ _ mr (hS.enter [] (by decide))  et_1) ?_
 rintro _ w_1 ⟨g_1, v_1, N_1, M_1, rfl, hS', hr_1⟩
 intro a h
 obtain ⟨N_2, hS'', le_1, ln_1⟩ := hS.call [] (by decide) rfl (l' := []) (ow := [_, _]) rfl hS'
 replace hS : Sep w0 w_1 [N_2, _, _] Z := hS''
 refine sg h rfl fun a h=>nx <| c_seq fun KJ_1 hKJ_1 => qr <| mv h rfl fun a h=>s_ptrNil (b := false) h rfl U23 rfl (.inl ⟨rfl, rfl⟩) fun a h=>nx <| c_cond_f h rfl rfl <| wp_skip <| x_then_n (hKJ_1 _ _ ?_)
 refine qr <| mv h rfl fun a h=>s_build h rfl ti32 pl32 rfl (.cons rfl (.cons rfl (.cons rfl (.cons rfl .nil)))) (cs := Q1) (by kernel_rfl) fun a h=>?_
 obtain ⟨t_2, et_2, H⟩ := bs H
 refine s_call h rfl Try.call10 rfl (nets_Net_Send.calls K _ t_1.1 t_1.2.1 t_1.2.2 _ _ (⟨1, 0, 1, 8, 0, 0, false, 0, 0, 0, 0, ([] : List UInt8), 0, 0, ([] : List Int), ([] : List Int), 0, (⟨0, 0, (⟨0, 0, ([] : List UInt8), ([] : List UInt8), ([] : List UInt8)⟩ : api_Cmd)⟩ : api_Entry)⟩ : api_Msg) _ _ _ _ _ _ t_2 w0 _ _ N_2 (hS.new_zed [0, 1]) (hS.enter [0, 1] (by decide)) ((hr_1.mono ln_1).mono mr) (Rd.nil _ _) (Rd.nil _ _) (Rd.nil _ _) (Rd.nil _ _) (Rd.nil _ _) (Rd.nil _ _) et_2) ?_
 rintro _ w_2 ⟨v_2, N_3, M_2, rfl, hS', hr_2⟩
 intro a h
 obtain ⟨N_4, hS'', le_2, ln_2⟩ := hS.call [0, 1] (by decide) rfl (l' := [_, _]) (ow := []) rfl hS'
 replace hS : Sep w0 w_2 [N_4, _, _] Z := hS''
 refine sg h rfl fun a h=>wpList_nil ?_
 replace h : Fr 72 a [(0, .bool false), (1, .pointer (some ⟨g_1, 0, none⟩)), (2, .bool t_2.1)] := h.keep [0, 1, 2]
 refine x_then_n <| qr <| mv h rfl fun a h=>s_build h rfl ti32 pl32 rfl (.cons rfl (.cons rfl (.cons rfl (.cons rfl .nil)))) (cs := Q2) (by kernel_rfl) fun a h=>?_
 obtain ⟨t_3, et_3, H⟩ := bs H
 refine s_call h rfl Try.call10 rfl (nets_Net_Send.calls K _ t_2.2.1 t_2.2.2.1 t_2.2.2.2 _ _ (⟨1, 0, 3, 8, 0, 0, false, 0, 0, 0, 0, ([] : List UInt8), 0, 0, ([] : List Int), ([] : List Int), 0, (⟨0, 0, (⟨0, 0, ([] : List UInt8), ([] : List UInt8), ([] : List UInt8)⟩ : api_Cmd)⟩ : api_Entry)⟩ : api_Msg) _ _ _ _ _ _ t_3 w0 _ _ N_4 (hS.new_zed [0, 1]) (hS.enter [0, 1] (by decide)) ((hr_2.mono (Mem.un_le le_2 ln_2)).mono mr) (Rd.nil _ _) (Rd.nil _ _) (Rd.nil _ _) (Rd.nil _ _) (Rd.nil _ _) (Rd.nil _ _) et_3) ?_
 rintro _ w_3 ⟨v_3, N_5, M_3, rfl, hS', hr_3⟩
 intro a h
 obtain ⟨N_6, hS'', le_3, ln_3⟩ := hS.call [0, 1] (by decide) rfl (l' := [_, _]) (ow := []) rfl hS'
 replace hS : Sep w0 w_3 [N_6, _, _] Z := hS''
 refine sg h rfl fun a h=>nx <| qr <| mv h rfl fun a h=>?_
 obtain ⟨t_4, et_4, H⟩ := bs H
 refine s_call h rfl Try.call15 rfl (nets_Net_Twice.calls _ t_3.2.1 t_3.2.2.1 t_3.2.2.2 _ _ 0 t_4 w0 _ _ N_6 (hS.new_zed [0, 1]) (hS.enter [0, 1] (by decide)) ((hr_3.mono (Mem.un_le le_3 ln_3)).mono mr) et_4) ?_
 rintro _ w_4 ⟨v_4, N_7, M_4, rfl, hS', hr_4⟩
 intro a h
 obtain ⟨N_8, hS'', le_4, ln_4⟩ := hS.call [0, 1] (by decide) rfl (l' := [_, _]) (ow := []) rfl hS'
 replace hS : Sep w0 w_4 [N_8, _, _] Z := hS''
 refine sg h rfl fun a h=>nx <| qr <| mv h rfl fun a h=>?_
 obtain ⟨t_5, et_5, H⟩ := bs H
 refine s_call h rfl Try.call16 rfl (nets_Net_Flip.calls _ t_4.2.1 t_4.2.2.1 t_4.2.2.2 _ _ 0 3 t_5 w0 _ _ N_8 (hS.new_zed [0, 1]) (hS.enter [0, 1] (by decide)) ((hr_4.mono (Mem.un_le le_4 ln_4)).mono mr) et_5) ?_
 rintro _ w_5 ⟨v_5, N_9, M_5, rfl, hS', hr_5⟩
 intro a h
 obtain ⟨N_10, hS'', le_5, ln_5⟩ := hS.call [0, 1] (by decide) rfl (l' := [_, _]) (ow := []) rfl hS'
 replace hS : Sep w0 w_5 [N_10, _, _] Z := hS''
 refine sg h rfl fun a h=>nx <| qr <| mv h rfl fun a h=>?_
 obtain ⟨t_6, et_6, H⟩ := bs H
 refine s_call h rfl Try.call11 rfl (nets_Net_Take.calls K _ t_5.2.1 t_5.2.2.1 t_5.2.2.2 _ _ 0 t_6 w0 _ _ N_10 (hS.new_zed [0, 1]) (hS.enter [0, 1] (by decide)) ((hr_5.mono (Mem.un_le le_5 ln_5)).mono mr) et_6) ?_
 rintro _ w_6 ⟨v_6, v_7, v_8, v_9, v_10, v_11, v_12, N_11, M_6, M_7, M_8, M_9, M_10, M_11, M_12, rfl, hS', hr_6, hr_7, hr_8, hr_9, hr_10, hr_11, hr_12⟩
 intro a h
 obtain ⟨N_12, hS'', le_6, ln_6⟩ := hS.call [0, 1] (by decide) rfl (l' := [_, _]) (ow := [_, _, _, _, _, _]) rfl hS'
 replace hS : Sep w0 w_6 [N_12, _, _, _, _, _, _, _, _] Z := hS''
 refine mv h rfl fun a h=>s_extract h rfl rfl rfl fun a h=>s_extract h rfl rfl rfl fun a h=>v_alloc h rfl ti32 hS fun w_7 g_2 hS' a h => ?_
 replace hS : Sep w0 w_7 [_, _, _, _, _, _, _, _, _, bx g_2 32 Q0] Z := hS'
 refine sto 9 h rfl rfl hS rfl ti32 rfl rfl rfl (oa 11 rfl (oc hr_6.one (oa 2 rfl (oc hr_7.one (oc hr_8.one (oa 5 rfl (oc hr_9.one (oc hr_10.one (oc hr_11.one on0))))))))) fun w_8 hS' => ?_
 replace hS : Sep w0 w_8 [_, _, _, _, _, _, _, _, _, bx g_2 32 (E32 t_6.1 v_6 v_7 v_8 v_9 v_10 v_11)] Z := hS'
 refine sg h rfl fun a h=>wpList_nil ?_
 replace h : Fr 72 a [(0, _), (1, _), (2, _), (3, .bool t_3.1), (4, .bool t_4.1), (5, .bool t_5.1), (7, .bool t_6.2.1)] := h.keep [0, 1, 2, 3, 4, 5, 7]
 refine x_then_n <| qr <| mv h rfl fun a h=>?_
 obtain ⟨t_7, et_7, H⟩ := bs H
 refine s_call h rfl Try.call11 rfl (nets_Net_Take.calls K _ t_6.2.2.1 t_6.2.2.2.1 t_6.2.2.2.2 _ _ 0 t_7 w0 _ _ N_12 (hS.new_zed [0, 1]) (hS.enter [0, 1] (by decide)) ((hr_12.mono (Mem.un_le le_6 ln_6)).mono mr) et_7) ?_
 rintro _ w_9 ⟨v_13, v_14, v_15, v_16, v_17, v_18, v_19, N_13, M_13, M_14, M_15, M_16, M_17, M_18, M_19, rfl, hS', hr_13, hr_14, hr_15, hr_16, hr_17, hr_18, hr_19⟩
 intro a h
 obtain ⟨N_14, hS'', le_7, ln_7⟩ := hS.call [0, 1] (by decide) rfl (l' := [_, _]) (ow := [_, _, _, _, _, _]) rfl hS'
 replace hS : Sep w0 w_9 [N_14, _, _, _, _, _, _, _, _, _, _, _, _, _, _, _] Z := hS''
 refine mv h rfl fun a h=>s_extract h rfl rfl rfl fun a h=>s_extract h rfl rfl rfl fun a h=>v_alloc h rfl ti32 hS fun w_10 g_3 hS' a h => ?_
 replace hS : Sep w0 w_10 [_, _, _, _, _, _, _, _, _, _, _, _, _, _, _, _, bx g_3 32 Q0] Z := hS'
 refine sto 16 h rfl rfl hS rfl ti32 rfl rfl rfl (oa 11 rfl (oc hr_13.one (oa 2 rfl (oc hr_14.one (oc hr_15.one (oa 5 rfl (oc hr_16.one (oc hr_17.one (oc hr_18.one on0))))))))) fun w_11 hS' => ?_
 replace hS : Sep w0 w_11 [_, _, _, _, _, _, _, _, _, _, _, _, _, _, _, _, bx g_3 32 (E32 t_7.1 v_13 v_14 v_15 v_16 v_17 v_18)] Z := hS'
 refine sg h rfl fun a h=>nx <| qr <| mv h rfl fun a h=>?_
 obtain ⟨t_8, et_8, H⟩ := bs H
 refine s_call h rfl Try.call19 rfl (nets_Net_Split.calls _ t_7.2.2.1 t_7.2.2.2.1 t_7.2.2.2.2 _ _ 1 t_8 w0 _ _ N_14 (hS.new_zed [0, 1]) (hS.enter [0, 1] (by decide)) ((hr_19.mono (Mem.un_le le_7 ln_7)).mono mr) et_8) ?_
 rintro _ w_12 ⟨v_20, N_15, M_20, rfl, hS', hr_20⟩
 intro a h
 obtain ⟨N_16, hS'', le_8, ln_8⟩ := hS.call [0, 1] (by decide) rfl (l' := [_, _]) (ow := []) rfl hS'
 replace hS : Sep w0 w_12 [N_16, _, _, _, _, _, _, _, _, _, _, _, _, _, _, _, _] Z := hS''
 refine nx <| c_seq fun KJ_2 hKJ_2 => wp_region_lit <| mv h rfl fun a h=>mv h rfl fun a h=>?_
 obtain ⟨hc_1, H⟩ | ⟨hc_1, H⟩ := ii H
 ·refine s_on h rfl rfl hc_1 <| mv h rfl fun a h=>s_on h rfl rfl hc_1 <| s_not h rfl rfl fun a h=>pt h rfl hc_1 fun a h=>mv h rfl fun a h=>?_
  obtain ⟨hc_2, H⟩ | ⟨hc_2, H⟩ := ii H
  ·cases H
  ·refine s_on h rfl rfl (nt (ef hc_2)) <| mv h rfl fun a h=>pt h rfl (nt (ef hc_2)) fun a h=>mv h rfl fun a h=>?_
   obtain ⟨hc_3, H⟩ | ⟨hc_3, H⟩ := ii H
   ·refine s_on h rfl rfl hc_3 <| mv h rfl fun a h=>pt h rfl hc_3 fun a h=>mv h rfl fun a h=>?_
    obtain ⟨hc_4, H⟩ | ⟨hc_4, H⟩ := ii H
    ·refine s_on h rfl rfl hc_4 <| mv h rfl fun a h=>s_on h rfl rfl hc_4 <| s_not h rfl rfl fun a h=>pt h rfl hc_4 fun a h=>mv h rfl fun a h=>?_
     obtain ⟨hc_5, H⟩ | ⟨hc_5, H⟩ := ii H
     ·cases H
     ·refine s_on h rfl rfl (nt (ef hc_5)) <| mv h rfl fun a h=>pt h rfl (nt (ef hc_5)) fun a h=>mv h rfl fun a h=>?_
      obtain ⟨hc_6, H⟩ | ⟨hc_6, H⟩ := ii H
      ·refine s_on h rfl rfl hc_6 <| s_fieldAddr h rfl U32 rfl ti3 rfl rfl fun a h=>s_on h rfl rfl hc_6 <| s_load h rfl rfl (hS.load_one (p := 16) rfl U3 rfl rfl) fun a h=>s_on h rfl rfl hc_6 <| s_cmp (b := (t_7.1.View == 8)) h rfl rfl rfl (.inl ⟨rfl, rfl⟩) fun a h=>pt h rfl hc_6 fun a h=>mv h rfl fun a h=>?_
       obtain ⟨hc_7, H⟩ | ⟨hc_7, H⟩ := ii H
       ·refine s_on h rfl rfl (bt hc_7) <| mv h rfl fun a h=>s_on h rfl rfl (bt hc_7) ?_
        obtain ⟨t_9, et_9, H⟩ := bs H
        refine s_call h rfl Try.call12 rfl (nets_Net_Count.calls _ t_8.1 t_8.2.1 t_8.2.2 _ t_9 w0 _ _ _ mr (hS.enter [0] (by decide)) ((hr_20.mono (Mem.un_le le_8 ln_8)).rd (hS.own_zed [0] 1 (by decide)) (mr.trans (hS.new_zed [0]))) et_9) ?_
        rintro _ w_13 ⟨N_17, rfl, hS'⟩
        intro a h
        obtain ⟨N_18, hS'', le_9, ln_9⟩ := hS.call [0] (by decide) rfl (l' := [_]) (ow := []) rfl hS'
        replace hS : Sep w0 w_13 [N_18, _, _, _, _, _, _, _, _, _, _, _, _, _, _, _, _] Z := hS''
        refine s_on h rfl rfl (bt hc_7) <| s_cmp (b := (t_9 == 0)) h rfl rfl rfl (.inl ⟨rfl, rfl⟩) fun a h=>pt h rfl (bt hc_7) fun a h=>mv h rfl fun a h=>?_
        obtain ⟨hc_8, H⟩ | ⟨hc_8, H⟩ := ii H
        ·refine s_on h rfl rfl (bt hc_8) <| mv h rfl fun a h=>s_on h rfl rfl (bt hc_8) ?_
         obtain ⟨t_10, et_10, H⟩ := bs H
         refine s_call h rfl Try.call20 rfl (nets_Net_Apart.calls _ t_8.1 t_8.2.1 t_8.2.2 _ 0 1 t_10 w0 _ _ _ mr (hS.enter [0] (by decide)) ((hr_20.mono (Mem.un_le le_8 ln_8)).rd (hS.own_zed [0] 1 (by decide)) (le_9.trans (hS.new_zed [0]))) et_10) ?_
         rintro _ w_14 ⟨N_19, rfl, hS'⟩
         intro a h
         obtain ⟨N_20, hS'', le_10, ln_10⟩ := hS.call [0] (by decide) rfl (l' := [_]) (ow := []) rfl hS'
         replace hS : Sep w0 w_14 [N_20, _, _, _, _, _, _, _, _, _, _, _, _, _, _, _, _] Z := hS''
         refine pt h rfl (bt hc_8) fun a h=>mv h rfl fun a h=>?_
         obtain ⟨hc_9, H⟩ | ⟨hc_9, H⟩ := ii H
         ·refine s_on h rfl rfl hc_9 <| mv h rfl fun a h=>s_on h rfl rfl hc_9 ?_
          obtain ⟨t_11, et_11, H⟩ := bs H
          refine s_call h rfl Try.call20 rfl (nets_Net_Apart.calls _ t_8.1 t_8.2.1 t_8.2.2 _ 1 2 t_11 w0 _ _ _ mr (hS.enter [0] (by decide)) ((hr_20.mono (Mem.un_le le_8 ln_8)).rd (hS.own_zed [0] 1 (by decide)) ((le_9.trans le_10).trans (hS.new_zed [0]))) et_11) ?_
          rintro _ w_15 ⟨N_21, rfl, hS'⟩
          intro a h
          obtain ⟨N_22, hS'', le_11, ln_11⟩ := hS.call [0] (by decide) rfl (l' := [_]) (ow := []) rfl hS'
          replace hS : Sep w0 w_15 [N_22, _, _, _, _, _, _, _, _, _, _, _, _, _, _, _, _] Z := hS''
          refine s_on h rfl rfl hc_9 <| s_not h rfl rfl fun a h=>pt h rfl hc_9 fun a h=>sg h rfl fun a h=>wpList_nil <| x_then_n (hKJ_2 _ _ ?_)
          refine wp_ret ?_
          obtain ⟨hc_10, H⟩ | ⟨hc_10, H⟩ := ii H
          ·cases H
          ·exact r1 h 0 rfl rfl ⟨_, rfl, N_22, (congrArg Value.bool (nt (ef hc_10))), (hS.sel [0] (by decide))⟩
         ·cases H
        ·cases H
       ·cases H
      ·cases H
    ·cases H
   ·cases H
 ·cases H


end Go.Proofs
