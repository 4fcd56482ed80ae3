/- What the calls do: each function once. -/
import Derived.Test.YtploijfgnnkddaaXferServesc0
namespace Go.Proofs
open Go.Gp
set_option linter.unusedVariables false
set_option maxHeartbeats 4000000 in
set_option maxRecDepth 20000 in
theorem hocketref4_Encode.calls (K : Nat) (x0 : api_Machine) (p0_0 : Value) (p0_1 : Value) (p0_2 : Value) (p0_3 : Value) (p0_4 : Value) (r : (List UInt8)) (w0 w : World) (Z A : Mem) (hA : A.le Z) (hS : Sep w0 w [] Z) (hp0_0 : Rd Kd.u8 A p0_0 x0.Objects.Reg) (hp0_1 : Rd (Kd.slice Kd.u8) A p0_1 x0.Objects.Queue) (hp0_2 : Rd (Kd.int .i64) A p0_2 x0.Objects.Lock) (hp0_3 : Rd k_api_Pair A p0_3 x0.Objects.Map) (hp0_4 : Rd k_api_Last A p0_4 x0.Table)
    (H : hocketref4_Encode.f K x0 = some r) :
    Calls Try.prog 31 [.agg ([p0_0, p0_1, p0_2, p0_3, p0_4] : List Value).toArray].toArray w (Ret fun v w' => ∃ (u0 : Value) (N : Mem) (M0 : Mem), v = u0 ∧ Sep w0 w' [N, M0] Z ∧ Own Kd.u8 5 M0 Mem.no u0 r) := by
 unfold hocketref4_Encode.f at H
 refine f_enter _ Try.func31 rfl Try.ntmps31 rfl fun a h=>?_
 replace h : Fr 127 a [(0, .agg ([p0_0, p0_1, p0_2, p0_3, p0_4] : List Value).toArray)] := h
 replace hS := hS.start
 refine qr <| v_box (vs := [p0_0, p0_1, p0_2, p0_3, p0_4]) h rfl rfl rfl hS fun w_1 g_1 hS' a h => ?_
 replace hS : Sep w0 w_1 [_, bx g_1 35 [p0_0, p0_1, p0_2, p0_3, p0_4]] Z := hS'
 refine sg h rfl fun a h=>nx <| qr <| s_fieldAddr h rfl U35 rfl ti32 rfl rfl fun a h=>s_fieldAddr h rfl U32 rfl ti22 rfl rfl fun a h=>s_load h rfl rfl (hS.load_one (p := 1) rfl U22 rfl rfl) fun a h=>?_
 obtain ⟨t_1, et_1, H⟩ := bs H
 refine s_call h rfl Try.call29 rfl (hocketref1_Bytes.calls K ([] : List UInt8) _ x0.Objects.Reg _ t_1 w0 _ _ _ mr (hS.enter [] (by decide)) (Rd.nil _ _) (hp0_0.mono (hA.trans (hS.le_zed []))) et_1) ?_
 rintro v_1 w_2 ⟨_, N_1, M_1, rfl, hS', hr_1⟩
 intro a h
 obtain ⟨N_2, hS'', le_1, ln_1⟩ := hS.call [] (by decide) rfl (l' := []) (ow := [_]) rfl hS'
 replace hS : Sep w0 w_2 [N_2, _, _] Z := hS''
 refine sg h rfl fun a h=>nx <| qr <| mv h rfl fun a h=>s_fieldAddr h rfl U35 rfl ti32 rfl rfl fun a h=>s_fieldAddr h rfl U32 rfl ti28 rfl rfl fun a h=>s_load h rfl rfl (hS.load_one (p := 1) rfl U28 rfl rfl) fun a h=>s_len h rfl U28 rfl hp0_1 fun a h=>?_
 obtain ⟨t_2, et_2, H⟩ := bs H
 refine s_call h rfl Try.call30 rfl (hocketref1_Num.calls K t_1 _ (x0.Objects.Queue.length : Int) t_2 w0 _ _ _ mr (hS.enter [] (by decide)) (hr_1.rd (hS.own_zed [] 1 (by decide)) (Mem.no_le _)) et_2) ?_
 rintro v_2 w_3 ⟨_, N_3, M_2, rfl, hS', hr_2⟩
 intro a h
 obtain ⟨N_4, hS'', le_2, ln_2⟩ := hS.call [] (by decide) rfl (l' := []) (ow := [_]) rfl hS'
 replace hS : Sep w0 w_3 [N_4, _, _, _] Z := hS''
 refine sg h rfl fun a h=>nx <| c_seq fun KJ_1 hKJ_1 => qr <| sg h rfl fun a h=>wpList_nil ?_
 replace h : Fr 127 a [(1, .pointer (some ⟨g_1, 0, none⟩)), (2, nS), (3, v_2), (4, iV 0)] := h.keep [1, 2, 3, 4]
 refine x_then_n ?_
 have hJ_j_1 : ∀ (x_1 : List UInt8), hocketref4_Encode.J1 K x0 x_1 = some r → ∀ (a : Act) (w_4 : World), (∃ (v_3 : Value) (N_5 : Mem) (M_3 : Mem), Fr 127 a [(1, .pointer (some ⟨g_1, 0, none⟩)), (2, nS), (3, v_3)] ∧ Sep w0 w_4 [N_5, bx g_1 35 [p0_0, p0_1, p0_2, p0_3, p0_4], Mem.no, Mem.no, M_3] Z ∧ N_4.le N_5 ∧ Own Kd.u8 5 M_3 Mem.no v_3 x_1) → KJ_1 a w_4 := by
  clear H h hS a
  rintro x_1 H a w_4 ⟨v_3, N_5, M_3, h, hS, le_3, ho_1⟩
  unfold hocketref4_Encode.J1 at H
  refine hKJ_1 _ _ <| qr <| mv h rfl fun a h=>s_fieldAddr h rfl U35 rfl ti32 rfl rfl fun a h=>s_fieldAddr h rfl U32 rfl ti29 rfl rfl fun a h=>s_load h rfl rfl (hS.load_one (p := 1) rfl U29 rfl rfl) fun a h=>s_len h rfl U29 rfl hp0_2 fun a h=>?_
  obtain ⟨t_3, et_3, H⟩ := bs H
  refine s_call h rfl Try.call30 rfl (hocketref1_Num.calls K x_1 _ (x0.Objects.Lock.length : Int) t_3 w0 _ _ _ mr (hS.enter [] (by decide)) (ho_1.rd (hS.own_zed [] 3 (by decide)) (Mem.no_le _)) et_3) ?_
  rintro v_4 w_5 ⟨_, N_6, M_4, rfl, hS', hr_3⟩
  intro a h
  obtain ⟨N_7, hS'', le_4, ln_3⟩ := hS.call [] (by decide) rfl (l' := []) (ow := [_]) rfl hS'
  replace hS : Sep w0 w_5 [N_7, _, _, _, _, _] Z := hS''
  refine sg h rfl fun a h=>nx <| c_seq fun KJ_2 hKJ_2 => qr <| sg h rfl fun a h=>wpList_nil <| x_then_n ?_
  have hJ_j_2 : ∀ (x_2 : List UInt8), hocketref4_Encode.J2 K x0 x_2 = some r → ∀ (a : Act) (w_6 : World), (∃ (v_5 : Value) (N_8 : Mem) (M_5 : Mem), Fr 127 a [(1, .pointer (some ⟨g_1, 0, none⟩)), (2, nS), (3, v_5)] ∧ Sep w0 w_6 [N_8, bx g_1 35 [p0_0, p0_1, p0_2, p0_3, p0_4], Mem.no, Mem.no, Mem.no, Mem.no, M_5] Z ∧ N_7.le N_8 ∧ Own Kd.u8 5 M_5 Mem.no v_5 x_2) → KJ_2 a w_6 := by
   clear H h hS a
   rintro x_2 H a w_6 ⟨v_5, N_8, M_5, h, hS, le_5, ho_2⟩
   unfold hocketref4_Encode.J2 at H
   refine hKJ_2 _ _ <| qr <| mv h rfl fun a h=>s_fieldAddr h rfl U35 rfl ti32 rfl rfl fun a h=>s_fieldAddr h rfl U32 rfl ti30 rfl rfl fun a h=>s_load h rfl rfl (hS.load_one (p := 1) rfl U30 rfl rfl) fun a h=>s_len h rfl U30 rfl hp0_3 fun a h=>?_
   obtain ⟨t_4, et_4, H⟩ := bs H
   refine s_call h rfl Try.call30 rfl (hocketref1_Num.calls K x_2 _ (x0.Objects.Map.length : Int) t_4 w0 _ _ _ mr (hS.enter [] (by decide)) (ho_2.rd (hS.own_zed [] 5 (by decide)) (Mem.no_le _)) et_4) ?_
   rintro v_6 w_7 ⟨_, N_9, M_6, rfl, hS', hr_4⟩
   intro a h
   obtain ⟨N_10, hS'', le_6, ln_4⟩ := hS.call [] (by decide) rfl (l' := []) (ow := [_]) rfl hS'
   replace hS : Sep w0 w_7 [N_10, _, _, _, _, _, _, _] Z := hS''
   refine sg h rfl fun a h=>nx <| c_seq fun KJ_3 hKJ_3 => qr <| sg h rfl fun a h=>wpList_nil ?_
   replace h : Fr 127 a [(1, _), (2, _), (3, v_6), (6, iV 0)] := h.keep [1, 2, 3, 6]
   refine x_then_n ?_
   have hJ_j_3 : ∀ (x_3 : List UInt8), hocketref4_Encode.J3 K x0 x_3 = some r → ∀ (a : Act) (w_8 : World), (∃ (v_7 : Value) (N_11 : Mem) (M_7 : Mem), Fr 127 a [(1, .pointer (some ⟨g_1, 0, none⟩)), (2, nS), (3, v_7)] ∧ Sep w0 w_8 [N_11, bx g_1 35 [p0_0, p0_1, p0_2, p0_3, p0_4], Mem.no, Mem.no, Mem.no, Mem.no, Mem.no, Mem.no, M_7] Z ∧ N_10.le N_11 ∧ Own Kd.u8 5 M_7 Mem.no v_7 x_3) → KJ_3 a w_8 := by
    clear H h hS a
    rintro x_3 H a w_8 ⟨v_7, N_11, M_7, h, hS, le_7, ho_3⟩
    unfold hocketref4_Encode.J3 at H
    refine hKJ_3 _ _ <| wp_seq ?_
    replace hS : Sep w0 w_8 [N_11, bx g_1 35 [p0_0, p0_1, p0_2, p0_3, p0_4], M_7] Z := hS.sel [0, 1, 8] (by decide)
    refine wp_region_lit <| mv h rfl fun a h=>s_fieldAddr h rfl U35 rfl ti33 rfl rfl fun a h=>s_load h rfl rfl (hS.load_one (p := 1) rfl U33 rfl rfl) fun a h=>s_len h rfl U33 rfl hp0_4 fun a h=>?_
    obtain ⟨t_5, et_5, H⟩ := bs H
    refine s_call h rfl Try.call30 rfl (hocketref1_Num.calls K x_3 _ (x0.Table.length : Int) t_5 w0 _ _ _ mr (hS.enter [] (by decide)) (ho_3.rd (hS.own_zed [] 1 (by decide)) (Mem.no_le _)) et_5) ?_
    rintro v_8 w_9 ⟨_, N_12, M_8, rfl, hS', hr_5⟩
    intro a h
    obtain ⟨N_13, hS'', le_8, ln_5⟩ := hS.call [] (by decide) rfl (l' := []) (ow := [_]) rfl hS'
    replace hS : Sep w0 w_9 [N_13, _, _, _] Z := hS''
    refine sg h rfl fun a h=>nx <| c_seq fun KJ_4 hKJ_4 => qr <| sg h rfl fun a h=>wpList_nil <| x_then_n ?_
    have hJ_j_4 : ∀ (x_4 : List UInt8), hocketref4_Encode.J4 K x_4 = some r → ∀ (a : Act) (w_10 : World), (∃ (v_9 : Value) (N_14 : Mem) (M_9 : Mem), Fr 127 a [(2, nS), (3, v_9)] ∧ Sep w0 w_10 [N_14, Mem.no, Mem.no, Mem.no, M_9] Z ∧ N_13.le N_14 ∧ Own Kd.u8 5 M_9 Mem.no v_9 x_4) → KJ_4 a w_10 := by
     clear H h hS a
     rintro x_4 H a w_10 ⟨v_9, N_14, M_9, h, hS, le_9, ho_4⟩
     unfold hocketref4_Encode.J4 at H
     refine hKJ_4 _ _ <| qr <| mv h rfl fun a h=>sg h rfl fun a h=>nx <| wp_ret ?_
     obtain rfl := Option.some.inj H
     exact r1 h 2 rfl rfl ⟨_, rfl, v_9, N_14, M_9, rfl, (hS.sel [0, 4] (by decide)), ho_4⟩
    clear hKJ_4
    refine c_block <| c_loop (fun k_1 a w_11 => ∃ (x_5 : List UInt8) (x_6 : Int) (v_10 : Value) (N_15 : Mem) (M_10 : Mem), hocketref4_Encode.L1 K x0 (fun v => hocketref4_Encode.J4 K v) k_1 (x_5, x_6) = some r ∧ Fr 127 a [(1, .pointer (some ⟨g_1, 0, none⟩)), (2, nS), (3, v_10), (7, iV x_6)] ∧ Sep w0 w_11 [N_15, bx g_1 35 [p0_0, p0_1, p0_2, p0_3, p0_4], Mem.no, Mem.no, M_10] Z ∧ N_13.le N_15 ∧ Own Kd.u8 5 M_10 Mem.no v_10 x_5) K ⟨t_5, 0, v_8, N_13, M_8, H, (h.to rfl), (hS.sel [0, 1, 1001, 1002, 3] (by decide)), mr, hr_5⟩ (fun a w h => by obtain ⟨_, _, _, _, _, H, _⟩ := h; cases (show (none : Option ((List UInt8))) = some r from H)) ?_
    clear h hS a H
    rintro k_1 a w_11 KL_1 hKL_1 ⟨x_5, x_6, v_10, N_15, M_10, H, h, hS, le_10, ho_5⟩
    replace H : hocketref4_Encode.B1 K x0 (fun v => hocketref4_Encode.J4 K v) (hocketref4_Encode.L1 K x0 (fun v => hocketref4_Encode.J4 K v) k_1) x_5 x_6 = some r := H
    unfold hocketref4_Encode.B1 at H
    refine c_seq fun KJ_5 hKJ_5 => qr <| mv h rfl fun a h=>s_fieldAddr h rfl U35 rfl ti33 rfl rfl fun a h=>s_load h rfl rfl (hS.load_one (p := 1) rfl U33 rfl rfl) fun a h=>s_len h rfl U33 rfl hp0_4 fun a h=>s_cmp (b := decide (x_6 < (x0.Table.length : Int))) h rfl rfl rfl (.inr (.inr (.inl ⟨rfl, rfl⟩))) fun a h=>wpList_nil <| x_then_n ?_
    obtain ⟨hc_1, H⟩ | ⟨hc_1, H⟩ := ii H
    ·refine c_cond_t h rfl (dt hc_1) <| wp_skip <| x_then_n (hKJ_5 _ _ ?_)
     refine c_seq fun KJ_6 hKJ_6 => c_block <| qr <| s_fieldAddr h rfl U35 rfl ti33 rfl rfl fun a h=>s_load h rfl rfl (hS.load_one (p := 1) rfl U33 rfl rfl) fun a h=>mv h rfl fun a h=>?_
     obtain ⟨t_6, et_6, H⟩ := bs H
     refine v_index h rfl U33 ti93 rfl rfl rfl hp0_4 (hA.trans hS.old) et_6 fun ad_1 cs_1 hk_1 hc_2 => ?_
     obtain ⟨v_11, rfl, hr_6⟩ := k_api_Last.open' hk_1
     intro a h
     refine s_load h rfl rfl (el_agg (o := 0) (us := (E93 t_6 v_11)) hc_2 U93 rfl ti93 rfl rfl) fun a h=>v_alloc h rfl ti93 hS fun w_12 g_2 hS' a h => ?_
     replace hS : Sep w0 w_12 [_, _, _, _, _, bx g_2 93 [iV 0, iV 0, iV 0, nS, iV 0]] Z := hS'
     refine sto 5 h rfl rfl hS rfl ti93 rfl rfl rfl (oa 3 rfl (oc hr_6.one (oz rfl))) fun w_13 hS' => ?_
     replace hS : Sep w0 w_13 [_, _, _, _, _, bx g_2 93 (E93 t_6 v_11)] Z := hS'
     refine wpList_nil ?_
     replace h : Fr 127 a [(1, _), (2, _), (3, _), (7, _), (8, .pointer (some ⟨g_2, 0, none⟩))] := h.keep [1, 2, 3, 7, 8]
     refine x_then_n <| c_seq fun KJ_7 hKJ_7 => h_begin (S := fun w => Sep w0 w [N_15, bx g_1 35 [p0_0, p0_1, p0_2, p0_3, p0_4], Mem.no, Mem.no, M_10, bx g_2 93 (E93 t_6 v_11)] Z) 8 (by kernel_rfl) rfl (bA 8 0) (by kernel_rfl) hS fun w_14 hS => ?_
     refine t_take 0 (bA 8 1) rfl rfl rfl rfl h (hS.sub (.cons mr (.rr (.zz (.zz .ii))))) (v := v_10) (fun w hS => r_move h rfl) fun a h=>t_take 1 (bA 8 3) rfl rfl rfl rfl h (hS.sub (.cons mr (.rr (.zz (.zz .ii))))) (v := .pointer (some ⟨g_2, 0, none⟩)) (fun w hS => r_fieldAddr h U93 rfl ti3 rfl rfl rfl) fun a h=>t_take 2 (bA 8 7) rfl rfl rfl rfl h (hS.sub (.cons mr (.rr (.zz (.zz .ii))))) (v := iV t_6.Sess) (fun w hS => r_load h rfl (hS.load_one (p := 5) rfl U3 rfl rfl)) fun a h=>t_take 4 (bA 8 23) rfl rfl rfl rfl h (hS.sub (.cons mr (.rr (.zz (.zz .ii))))) (v := .pointer (some ⟨g_2, 1, none⟩)) (fun w hS => r_fieldAddr h U93 rfl ti3 rfl rfl rfl) fun a h=>t_take 5 (bA 8 55) rfl rfl rfl rfl h (hS.sub (.cons mr (.rr (.zz (.zz .ii))))) (v := iV t_6.Seq) (fun w hS => r_load h rfl (hS.load_one (p := 5) rfl U3 rfl rfl)) fun a h=>h_event 3 (bA 8 63) rfl (by kernel_rfl) (by kernel_rfl) ?_
     obtain ⟨t_7, et_7, H⟩ := bs H
     refine s_call h rfl Try.call30 rfl (hocketref1_Num.calls K x_5 _ t_6.Sess t_7 w0 _ _ _ mr (hS.enter [] (by decide)) (ho_5.rd (hS.own_zed [] 3 (by decide)) (Mem.no_le _)) et_7) ?_
     rintro v_12 w_15 ⟨_, N_16, M_11, rfl, hS', hr_7⟩
     intro a h
     obtain ⟨N_17, hS'', le_11, ln_6⟩ := hS.call [] (by decide) rfl (l' := []) (ow := [_]) rfl hS'
     replace hS : Sep w0 w_15 [N_17, _, _, _, _, _, _] Z := hS''
     refine ne (hS.sub (.cons le_11 (.rr (.zz (.zz (.rr (.rr .nn))))))) fun hs => ?_
     refine h_event 6 (bA 8 127) rfl (by kernel_rfl) (by kernel_rfl) ?_
     obtain ⟨t_8, et_8, H⟩ := bs H
     refine s_call h rfl Try.call30 rfl (hocketref1_Num.calls K t_7 _ t_6.Seq t_8 w0 _ _ _ mr (hS.enter [] (by decide)) (hr_7.rd (hS.own_zed [] 5 (by decide)) (Mem.no_le _)) et_8) ?_
     rintro v_13 w_16 ⟨_, N_18, M_12, rfl, hS', hr_8⟩
     intro a h
     obtain ⟨N_19, hS'', le_12, ln_7⟩ := hS.call [] (by decide) rfl (l' := []) (ow := [_]) rfl hS'
     replace hS : Sep w0 w_16 [N_19, _, _, _, _, _, _, _] Z := hS''
     refine ne (hS.sub (.cons (le_11.trans le_12) (.rr (.zz (.zz (.rr (.rr .nn))))))) fun hs => ?_
     refine t_take 7 (bA 8 255) rfl rfl rfl rfl h hs (v := v_13) (fun w hS => r_assign h rfl) fun a h=>h_done (by kernel_rfl) <| x_then_n (hKJ_7 _ _ ?_)
     refine h_begin (S := fun w => Sep w0 w [N_19, bx g_1 35 [p0_0, p0_1, p0_2, p0_3, p0_4], Mem.no, Mem.no, M_10, bx g_2 93 (E93 t_6 v_11), M_11, M_12] Z) 15 (by kernel_rfl) rfl (bA 15 0) (by kernel_rfl) hS fun w_17 hS => ?_
     refine t_take 0 (bA 15 1) rfl rfl rfl rfl h (hS.sub (.cons mr (.rr (.zz (.zz .ii))))) (v := v_13) (fun w hS => r_move h rfl) fun a h=>t_take 1 (bA 15 3) rfl rfl rfl rfl h (hS.sub (.cons mr (.rr (.zz (.zz .ii))))) (v := .pointer (some ⟨g_2, 2, none⟩)) (fun w hS => r_fieldAddr h U93 rfl ti91 rfl rfl rfl) fun a h=>t_take 2 (bA 15 7) rfl rfl rfl rfl h (hS.sub (.cons mr (.rr (.zz (.zz .ii))))) (v := .pointer (some ⟨g_2, 2, none⟩)) (fun w hS => r_fieldAddr h U91 rfl ti89 rfl rfl rfl) fun a h=>t_take 3 (bA 15 15) rfl rfl rfl rfl h (hS.sub (.cons mr (.rr (.zz (.zz .ii))))) (v := iV t_6.Result.Err) (fun w hS => r_load h rfl (hS.load_one (p := 5) rfl U89 rfl rfl)) fun a h=>t_take 5 (bA 15 47) rfl rfl rfl rfl h (hS.sub (.cons mr (.rr (.zz (.zz .ii))))) (v := .pointer (some ⟨g_2, 2, none⟩)) (fun w hS => r_fieldAddr h U93 rfl ti91 rfl rfl rfl) fun a h=>t_take 6 (bA 15 111) rfl rfl rfl rfl h (hS.sub (.cons mr (.rr (.zz (.zz .ii))))) (v := .pointer (some ⟨g_2, 4, none⟩)) (fun w hS => r_fieldAddr h U91 rfl ti3 rfl rfl rfl) fun a h=>?_
     refine t_take 7 (bA 15 239) rfl rfl rfl rfl h (hS.sub (.cons mr (.rr (.zz (.zz .ii))))) (v := iV t_6.Result.N) (fun w hS => r_load h rfl (hS.load_one (p := 5) rfl U3 rfl rfl)) fun a h=>t_take 8 (bA 15 495) rfl rfl rfl rfl h (hS.sub (.cons mr (.rr (.zz (.zz .ii))))) (v := iV (w64 (t_6.Result.N + 1))) (fun w hS => r_arith (r := w64 (t_6.Result.N + 1)) h rfl rfl (.inl ⟨rfl, rfl⟩)) fun a h=>t_take 10 (bA 15 1519) rfl rfl rfl rfl h (hS.sub (.cons mr (.rr (.zz (.zz .ii))))) (v := .pointer (some ⟨g_2, 2, none⟩)) (fun w hS => r_fieldAddr h U93 rfl ti91 rfl rfl rfl) fun a h=>t_take 11 (bA 15 3567) rfl rfl rfl rfl h (hS.sub (.cons mr (.rr (.zz (.zz .ii))))) (v := .pointer (some ⟨g_2, 3, none⟩)) (fun w hS => r_fieldAddr h U91 rfl ti22 rfl rfl rfl) fun a h=>t_take 12 (bA 15 7663) rfl rfl rfl rfl h (hS.sub (.cons mr (.rr (.zz (.zz .ii))))) (v := v_11) (fun w hS => r_load h rfl (hS.load_one (p := 5) rfl U22 rfl rfl)) fun a h=>h_event 4 (bA 15 7679) rfl (by kernel_rfl) (by kernel_rfl) ?_
     obtain ⟨t_9, et_9, H⟩ := bs H
     refine s_call h rfl Try.call30 rfl (hocketref1_Num.calls K t_8 _ t_6.Result.Err t_9 w0 _ _ _ mr (hS.enter [] (by decide)) (hr_8.rd (hS.own_zed [] 6 (by decide)) (Mem.no_le _)) et_9) ?_
     rintro v_14 w_18 ⟨_, N_20, M_13, rfl, hS', hr_9⟩
     intro a h
     obtain ⟨N_21, hS'', le_13, ln_8⟩ := hS.call [] (by decide) rfl (l' := []) (ow := [_]) rfl hS'
     replace hS : Sep w0 w_18 [N_21, _, _, _, _, _, _, _, _] Z := hS''
     refine ne (hS.sub (.cons le_13 (.rr (.zz (.zz (.rr (.rr (.rr (.rr .nn))))))))) fun hs => ?_
     refine h_event 9 (bA 15 8191) rfl (by kernel_rfl) (by kernel_rfl) ?_
     obtain ⟨t_10, et_10, H⟩ := bs H
     refine s_call h rfl Try.call30 rfl (hocketref1_Num.calls K t_9 _ (w64 (t_6.Result.N + 1)) t_10 w0 _ _ _ mr (hS.enter [] (by decide)) (hr_9.rd (hS.own_zed [] 7 (by decide)) (Mem.no_le _)) et_10) ?_
     rintro v_15 w_19 ⟨_, N_22, M_14, rfl, hS', hr_10⟩
     intro a h
     obtain ⟨N_23, hS'', le_14, ln_9⟩ := hS.call [] (by decide) rfl (l' := []) (ow := [_]) rfl hS'
     replace hS : Sep w0 w_19 [N_23, _, _, _, _, _, _, _, _, _] Z := hS''
     refine ne (hS.sub (.cons (le_13.trans le_14) (.rr (.zz (.zz (.rr (.rr (.rr (.rr .nn))))))))) fun hs => ?_
     refine h_event 13 (bA 15 16383) rfl (by kernel_rfl) (by kernel_rfl) ?_
     obtain ⟨t_11, et_11, H⟩ := bs H
     refine s_call h rfl Try.call29 rfl (hocketref1_Bytes.calls K t_10 _ t_6.Result.Val _ t_11 w0 _ _ _ mr (hS.enter [] (by decide)) (hr_10.rd (hS.own_zed [] 8 (by decide)) (Mem.no_le _)) (hr_6.mono (hA.trans (hS.le_zed []))) et_11) ?_
     rintro v_16 w_20 ⟨_, N_24, M_15, rfl, hS', hr_11⟩
     intro a h
     obtain ⟨N_25, hS'', le_15, ln_10⟩ := hS.call [] (by decide) rfl (l' := []) (ow := [_]) rfl hS'
     replace hS : Sep w0 w_20 [N_25, _, _, _, _, _, _, _, _, _, _] Z := hS''
     refine ne (hS.sub (.cons (le_13.trans (le_14.trans le_15)) (.rr (.zz (.zz (.rr (.rr (.rr (.rr .nn))))))))) fun hs => ?_
     refine t_take 14 (bA 15 32767) rfl rfl rfl rfl h hs (v := v_16) (fun w hS => r_assign h rfl) fun a h=>h_done (by kernel_rfl) <| x_block_n <| x_then_n (hKJ_6 _ _ ?_)
     refine wp_region_lit <| mv h rfl fun a h=>s_arith (r := w64 (x_6 + 1)) h rfl rfl rfl (.inl ⟨rfl, rfl⟩) fun a h=>sg h rfl fun a h=>wpList_nil <| x_then_n (hKL_1 _ _ ?_)
     exact ⟨t_11, w64 (x_6 + 1), v_16, N_25, M_15, H, (h.to rfl), (hS.sel [0, 1, 1001, 1002, 10] (by decide)), (le_10.trans (le_11.trans (le_12.trans (le_13.trans (le_14.trans le_15))))), hr_11⟩
    ·refine c_cond_f h rfl (df hc_1) <| wp_exit (x_then_x (x_then_x (x_block_t ?_)))
     exact x_then_n (hJ_j_4 x_5 H _ _ ⟨v_10, N_15, M_10, (h.to rfl), (hS.sel [0, 1000, 1001, 1002, 4] (by decide)), le_10, ho_5⟩)
   clear hKJ_3
   refine c_block <| c_loop (fun k_2 a w_21 => ∃ (x_7 : List UInt8) (x_8 : Int) (v_17 : Value) (N_26 : Mem) (M_16 : Mem), hocketref4_Encode.L2 K x0 (fun v => hocketref4_Encode.J3 K x0 v) k_2 (x_7, x_8) = some r ∧ Fr 127 a [(1, .pointer (some ⟨g_1, 0, none⟩)), (2, nS), (3, v_17), (6, iV x_8)] ∧ Sep w0 w_21 [N_26, bx g_1 35 [p0_0, p0_1, p0_2, p0_3, p0_4], Mem.no, Mem.no, Mem.no, Mem.no, Mem.no, Mem.no, M_16] Z ∧ N_10.le N_26 ∧ Own Kd.u8 5 M_16 Mem.no v_17 x_7) K ⟨t_4, 0, v_6, N_10, M_6, H, (h.to rfl), (hS.sel [0, 1, 1001, 1002, 1003, 1004, 1005, 1006, 7] (by decide)), mr, hr_4⟩ (fun a w h => by obtain ⟨_, _, _, _, _, H, _⟩ := h; cases (show (none : Option ((List UInt8))) = some r from H)) ?_
   clear h hS a H
   rintro k_2 a w_21 KL_2 hKL_2 ⟨x_7, x_8, v_17, N_26, M_16, H, h, hS, le_16, ho_6⟩
   replace H : hocketref4_Encode.B2 K x0 (fun v => hocketref4_Encode.J3 K x0 v) (hocketref4_Encode.L2 K x0 (fun v => hocketref4_Encode.J3 K x0 v) k_2) x_7 x_8 = some r := H
   unfold hocketref4_Encode.B2 at H
   refine c_seq fun KJ_8 hKJ_8 => qr <| mv h rfl fun a h=>s_fieldAddr h rfl U35 rfl ti32 rfl rfl fun a h=>s_fieldAddr h rfl U32 rfl ti30 rfl rfl fun a h=>s_load h rfl rfl (hS.load_one (p := 1) rfl U30 rfl rfl) fun a h=>s_len h rfl U30 rfl hp0_3 fun a h=>s_cmp (b := decide (x_8 < (x0.Objects.Map.length : Int))) h rfl rfl rfl (.inr (.inr (.inl ⟨rfl, rfl⟩))) fun a h=>wpList_nil <| x_then_n ?_
   obtain ⟨hc_3, H⟩ | ⟨hc_3, H⟩ := ii H
   ·refine c_cond_t h rfl (dt hc_3) <| wp_skip <| x_then_n (hKJ_8 _ _ ?_)
    refine c_seq fun KJ_9 hKJ_9 => c_block <| h_begin (S := fun w => Sep w0 w [N_26, bx g_1 35 [p0_0, p0_1, p0_2, p0_3, p0_4], Mem.no, Mem.no, Mem.no, Mem.no, Mem.no, Mem.no, M_16] Z) 18 (by kernel_rfl) rfl (bA 18 0) (by kernel_rfl) hS fun w_22 hS => ?_
    refine t_take 0 (bA 18 1) rfl rfl rfl rfl h (hS.sub (.cons mr (.rr (.zz (.zz (.zz (.zz (.zz (.zz .ii))))))))) (v := v_17) (fun w hS => r_move h rfl) fun a h=>t_take 1 (bA 18 3) rfl rfl rfl rfl h (hS.sub (.cons mr (.rr (.zz (.zz (.zz (.zz (.zz (.zz .ii))))))))) (v := .pointer (some ⟨g_1, 0, none⟩)) (fun w hS => r_fieldAddr h U35 rfl ti32 rfl rfl rfl) fun a h=>t_take 2 (bA 18 7) rfl rfl rfl rfl h (hS.sub (.cons mr (.rr (.zz (.zz (.zz (.zz (.zz (.zz .ii))))))))) (v := .pointer (some ⟨g_1, 3, none⟩)) (fun w hS => r_fieldAddr h U32 rfl ti30 rfl rfl rfl) fun a h=>t_take 3 (bA 18 15) rfl rfl rfl rfl h (hS.sub (.cons mr (.rr (.zz (.zz (.zz (.zz (.zz (.zz .ii))))))))) (v := p0_3) (fun w hS => r_load h rfl (hS.load_one (p := 1) rfl U30 rfl rfl)) fun a h=>t_take 4 (bA 18 31) rfl rfl rfl rfl h (hS.sub (.cons mr (.rr (.zz (.zz (.zz (.zz (.zz (.zz .ii))))))))) (v := iV x_8) (fun w hS => r_move h rfl) fun a h=>?_
    obtain ⟨t_12, et_12, H⟩ := bs H
    refine t_takeE 5 (bA 18 63) rfl rfl rfl rfl h (hS.sub (.cons mr (.rr (.zz (.zz (.zz (.zz (.zz (.zz .ii))))))))) (f := fun ad => .pointer (some ad)) (r_index h U30 ti88 rfl rfl rfl hp0_3 et_12) ?_
    rintro ad_2 ⟨cs_2, hk_2, hc_4⟩
    obtain ⟨v_18, v_19, rfl, hr_12, hr_13⟩ := k_api_Pair.open' hk_2
    intro a h
    refine t_take 6 (bA 18 127) rfl rfl rfl rfl h (hS.sub (.cons mr (.rr (.zz (.zz (.zz (.zz (.zz (.zz .ii))))))))) (v := .pointer (some (ad_2.add 0))) (fun w hS => r_fieldAddr h U88 rfl ti22 rfl rfl rfl) fun a h=>t_take 7 (bA 18 255) rfl rfl rfl rfl h (hS.sub (.cons mr (.rr (.zz (.zz (.zz (.zz (.zz (.zz .ii))))))))) (v := v_18) (fun w hS => r_load h rfl (el_one (o := 0) (fun j c h => Mem.cell_le (hA.trans hS.old) (hc_4 j c h)) U22 rfl rfl)) fun a h=>t_take 9 (bA 18 767) rfl rfl rfl rfl h (hS.sub (.cons mr (.rr (.zz (.zz (.zz (.zz (.zz (.zz .ii))))))))) (v := .pointer (some ⟨g_1, 0, none⟩)) (fun w hS => r_fieldAddr h U35 rfl ti32 rfl rfl rfl) fun a h=>t_take 10 (bA 18 1791) rfl rfl rfl rfl h (hS.sub (.cons mr (.rr (.zz (.zz (.zz (.zz (.zz (.zz .ii))))))))) (v := .pointer (some ⟨g_1, 3, none⟩)) (fun w hS => r_fieldAddr h U32 rfl ti30 rfl rfl rfl) fun a h=>t_take 11 (bA 18 3839) rfl rfl rfl rfl h (hS.sub (.cons mr (.rr (.zz (.zz (.zz (.zz (.zz (.zz .ii))))))))) (v := p0_3) (fun w hS => r_load h rfl (hS.load_one (p := 1) rfl U30 rfl rfl)) fun a h=>?_
    refine t_take 12 (bA 18 7935) rfl rfl rfl rfl h (hS.sub (.cons mr (.rr (.zz (.zz (.zz (.zz (.zz (.zz .ii))))))))) (v := iV x_8) (fun w hS => r_move h rfl) fun a h=>?_
    obtain ⟨t_13, et_13, H⟩ := bs H
    refine t_takeE 13 (bA 18 16127) rfl rfl rfl rfl h (hS.sub (.cons mr (.rr (.zz (.zz (.zz (.zz (.zz (.zz .ii))))))))) (f := fun ad => .pointer (some ad)) (r_index h U30 ti88 rfl rfl rfl hp0_3 et_13) ?_
    rintro ad_3 ⟨cs_3, hk_3, hc_5⟩
    obtain ⟨v_20, v_21, rfl, hr_14, hr_15⟩ := k_api_Pair.open' hk_3
    intro a h
    refine t_take 14 (bA 18 32511) rfl rfl rfl rfl h (hS.sub (.cons mr (.rr (.zz (.zz (.zz (.zz (.zz (.zz .ii))))))))) (v := .pointer (some (ad_3.add 1))) (fun w hS => r_fieldAddr h U88 rfl ti22 rfl rfl rfl) fun a h=>t_take 15 (bA 18 65279) rfl rfl rfl rfl h (hS.sub (.cons mr (.rr (.zz (.zz (.zz (.zz (.zz (.zz .ii))))))))) (v := v_21) (fun w hS => r_load h rfl (el_one (o := 1) (fun j c h => Mem.cell_le (hA.trans hS.old) (hc_5 j c h)) U22 rfl rfl)) fun a h=>h_event 8 (bA 18 65535) rfl (by kernel_rfl) (by kernel_rfl) ?_
    obtain ⟨t_14, et_14, H⟩ := bs H
    refine s_call h rfl Try.call29 rfl (hocketref1_Bytes.calls K x_7 _ t_12.Key _ t_14 w0 _ _ _ mr (hS.enter [] (by decide)) (ho_6.rd (hS.own_zed [] 7 (by decide)) (Mem.no_le _)) (hr_12.mono (hA.trans (hS.le_zed []))) et_14) ?_
    rintro v_22 w_23 ⟨_, N_27, M_17, rfl, hS', hr_16⟩
    intro a h
    obtain ⟨N_28, hS'', le_17, ln_11⟩ := hS.call [] (by decide) rfl (l' := []) (ow := [_]) rfl hS'
    replace hS : Sep w0 w_23 [N_28, _, _, _, _, _, _, _, _, _] Z := hS''
    refine ne (hS.sub (.cons le_17 (.rr (.zz (.zz (.zz (.zz (.zz (.zz (.rr .nn)))))))))) fun hs => ?_
    refine h_event 16 (bA 18 131071) rfl (by kernel_rfl) (by kernel_rfl) ?_
    obtain ⟨t_15, et_15, H⟩ := bs H
    refine s_call h rfl Try.call29 rfl (hocketref1_Bytes.calls K t_14 _ t_13.Val _ t_15 w0 _ _ _ mr (hS.enter [] (by decide)) (hr_16.rd (hS.own_zed [] 8 (by decide)) (Mem.no_le _)) (hr_15.mono (hA.trans (hS.le_zed []))) et_15) ?_
    rintro v_23 w_24 ⟨_, N_29, M_18, rfl, hS', hr_17⟩
    intro a h
    obtain ⟨N_30, hS'', le_18, ln_12⟩ := hS.call [] (by decide) rfl (l' := []) (ow := [_]) rfl hS'
    replace hS : Sep w0 w_24 [N_30, _, _, _, _, _, _, _, _, _, _] Z := hS''
    refine ne (hS.sub (.cons (le_17.trans le_18) (.rr (.zz (.zz (.zz (.zz (.zz (.zz (.rr .nn)))))))))) fun hs => ?_
    refine t_take 17 (bA 18 262143) rfl rfl rfl rfl h hs (v := v_23) (fun w hS => r_assign h rfl) fun a h=>h_done (by kernel_rfl) <| x_block_n <| x_then_n (hKJ_9 _ _ ?_)
    refine wp_region_lit <| mv h rfl fun a h=>s_arith (r := w64 (x_8 + 1)) h rfl rfl rfl (.inl ⟨rfl, rfl⟩) fun a h=>sg h rfl fun a h=>wpList_nil <| x_then_n (hKL_2 _ _ ?_)
    exact ⟨t_15, w64 (x_8 + 1), v_23, N_30, M_18, H, (h.to rfl), (hS.sel [0, 1, 1001, 1002, 1003, 1004, 1005, 1006, 10] (by decide)), (le_16.trans (le_17.trans le_18)), hr_17⟩
   ·refine c_cond_f h rfl (df hc_3) <| wp_exit (x_then_x (x_then_x (x_block_t ?_)))
    exact x_then_n (hJ_j_3 x_7 H _ _ ⟨v_17, N_26, M_16, (h.to rfl), (hS.sel [0, 1, 1001, 1002, 1003, 1004, 1005, 1006, 8] (by decide)), le_16, ho_6⟩)
  clear hKJ_2
  refine c_block <| c_loop (fun k_3 a w_25 => ∃ (x_9 : List UInt8) (x_10 : Int) (v_24 : Value) (N_31 : Mem) (M_19 : Mem), hocketref4_Encode.L3 K x0 (fun v => hocketref4_Encode.J2 K x0 v) k_3 (x_9, x_10) = some r ∧ Fr 127 a [(1, .pointer (some ⟨g_1, 0, none⟩)), (2, nS), (3, v_24), (5, iV x_10)] ∧ Sep w0 w_25 [N_31, bx g_1 35 [p0_0, p0_1, p0_2, p0_3, p0_4], Mem.no, Mem.no, Mem.no, Mem.no, M_19] Z ∧ N_7.le N_31 ∧ Own Kd.u8 5 M_19 Mem.no v_24 x_9) K ⟨t_3, 0, v_4, N_7, M_4, H, (h.to rfl), (hS.sel [0, 1, 1001, 1002, 1003, 1004, 5] (by decide)), mr, hr_3⟩ (fun a w h => by obtain ⟨_, _, _, _, _, H, _⟩ := h; cases (show (none : Option ((List UInt8))) = some r from H)) ?_
  clear h hS a H
  rintro k_3 a w_25 KL_3 hKL_3 ⟨x_9, x_10, v_24, N_31, M_19, H, h, hS, le_19, ho_7⟩
  replace H : hocketref4_Encode.B3 K x0 (fun v => hocketref4_Encode.J2 K x0 v) (hocketref4_Encode.L3 K x0 (fun v => hocketref4_Encode.J2 K x0 v) k_3) x_9 x_10 = some r := H
  unfold hocketref4_Encode.B3 at H
  refine c_seq fun KJ_10 hKJ_10 => qr <| mv h rfl fun a h=>s_fieldAddr h rfl U35 rfl ti32 rfl rfl fun a h=>s_fieldAddr h rfl U32 rfl ti29 rfl rfl fun a h=>s_load h rfl rfl (hS.load_one (p := 1) rfl U29 rfl rfl) fun a h=>s_len h rfl U29 rfl hp0_2 fun a h=>s_cmp (b := decide (x_10 < (x0.Objects.Lock.length : Int))) h rfl rfl rfl (.inr (.inr (.inl ⟨rfl, rfl⟩))) fun a h=>wpList_nil <| x_then_n ?_
  obtain ⟨hc_6, H⟩ | ⟨hc_6, H⟩ := ii H
  ·refine c_cond_t h rfl (dt hc_6) <| wp_skip <| x_then_n (hKJ_10 _ _ ?_)
   refine wp_seq <| c_block <| wp_region_lit <| mv h rfl fun a h=>s_fieldAddr h rfl U35 rfl ti32 rfl rfl fun a h=>s_fieldAddr h rfl U32 rfl ti29 rfl rfl fun a h=>s_load h rfl rfl (hS.load_one (p := 1) rfl U29 rfl rfl) fun a h=>mv h rfl fun a h=>?_
   obtain ⟨t_16, et_16, H⟩ := bs H
   refine v_index h rfl U29 ti3 rfl rfl rfl hp0_2 (hA.trans hS.old) et_16 fun ad_4 cs_4 hk_4 hc_7 => ?_
   obtain rfl := (show cs_4 = [iV t_16] from hk_4)
   intro a h
   refine s_load h rfl rfl (el_one (o := 0) hc_7 U3 rfl rfl) fun a h=>?_
   obtain ⟨t_17, et_17, H⟩ := bs H
   refine s_call h rfl Try.call30 rfl (hocketref1_Num.calls K x_9 _ t_16 t_17 w0 _ _ _ mr (hS.enter [] (by decide)) (ho_7.rd (hS.own_zed [] 5 (by decide)) (Mem.no_le _)) et_17) ?_
   rintro v_25 w_26 ⟨_, N_32, M_20, rfl, hS', hr_18⟩
   intro a h
   obtain ⟨N_33, hS'', le_20, ln_13⟩ := hS.call [] (by decide) rfl (l' := []) (ow := [_]) rfl hS'
   replace hS : Sep w0 w_26 [N_33, _, _, _, _, _, _, _] Z := hS''
   refine sg h rfl fun a h=>wpList_nil ?_
   replace h : Fr 127 a [(1, _), (2, _), (3, v_25), (5, _)] := h.keep [1, 2, 3, 5]
   refine x_block_n <| x_then_n <| wp_region_lit <| mv h rfl fun a h=>s_arith (r := w64 (x_10 + 1)) h rfl rfl rfl (.inl ⟨rfl, rfl⟩) fun a h=>sg h rfl fun a h=>wpList_nil <| x_then_n (hKL_3 _ _ ?_)
   exact ⟨t_17, w64 (x_10 + 1), v_25, N_33, M_20, H, (h.to rfl), (hS.sel [0, 1, 1001, 1002, 1003, 1004, 7] (by decide)), (le_19.trans le_20), hr_18⟩
  ·refine c_cond_f h rfl (df hc_6) <| wp_exit (x_then_x (x_then_x (x_block_t ?_)))
   exact x_then_n (hJ_j_2 x_9 H _ _ ⟨v_24, N_31, M_19, (h.to rfl), (hS.sel [0, 1, 1001, 1002, 1003, 1004, 6] (by decide)), le_19, ho_7⟩)
 clear hKJ_1
 refine c_block <| c_loop (fun k_4 a w_27 => ∃ (x_11 : List UInt8) (x_12 : Int) (v_26 : Value) (N_34 : Mem) (M_21 : Mem), hocketref4_Encode.L4 K x0 (fun v => hocketref4_Encode.J1 K x0 v) k_4 (x_11, x_12) = some r ∧ Fr 127 a [(1, .pointer (some ⟨g_1, 0, none⟩)), (2, nS), (3, v_26), (4, iV x_12)] ∧ Sep w0 w_27 [N_34, bx g_1 35 [p0_0, p0_1, p0_2, p0_3, p0_4], Mem.no, Mem.no, M_21] Z ∧ N_4.le N_34 ∧ Own Kd.u8 5 M_21 Mem.no v_26 x_11) K ⟨t_2, 0, v_2, N_4, M_2, H, (h.to rfl), (hS.sel [0, 1, 1001, 1002, 3] (by decide)), mr, hr_2⟩ (fun a w h => by obtain ⟨_, _, _, _, _, H, _⟩ := h; cases (show (none : Option ((List UInt8))) = some r from H)) ?_
 clear h hS a H
 rintro k_4 a w_27 KL_4 hKL_4 ⟨x_11, x_12, v_26, N_34, M_21, H, h, hS, le_21, ho_8⟩
 replace H : hocketref4_Encode.B4 K x0 (fun v => hocketref4_Encode.J1 K x0 v) (hocketref4_Encode.L4 K x0 (fun v => hocketref4_Encode.J1 K x0 v) k_4) x_11 x_12 = some r := H
 unfold hocketref4_Encode.B4 at H
 refine c_seq fun KJ_11 hKJ_11 => qr <| mv h rfl fun a h=>s_fieldAddr h rfl U35 rfl ti32 rfl rfl fun a h=>s_fieldAddr h rfl U32 rfl ti28 rfl rfl fun a h=>s_load h rfl rfl (hS.load_one (p := 1) rfl U28 rfl rfl) fun a h=>s_len h rfl U28 rfl hp0_1 fun a h=>s_cmp (b := decide (x_12 < (x0.Objects.Queue.length : Int))) h rfl rfl rfl (.inr (.inr (.inl ⟨rfl, rfl⟩))) fun a h=>wpList_nil <| x_then_n ?_
 obtain ⟨hc_8, H⟩ | ⟨hc_8, H⟩ := ii H
 ·refine c_cond_t h rfl (dt hc_8) <| wp_skip <| x_then_n (hKJ_11 _ _ ?_)
  refine wp_seq <| c_block <| wp_region_lit <| mv h rfl fun a h=>s_fieldAddr h rfl U35 rfl ti32 rfl rfl fun a h=>s_fieldAddr h rfl U32 rfl ti28 rfl rfl fun a h=>s_load h rfl rfl (hS.load_one (p := 1) rfl U28 rfl rfl) fun a h=>mv h rfl fun a h=>?_
  obtain ⟨t_18, et_18, H⟩ := bs H
  refine v_index h rfl U28 ti22 rfl rfl rfl hp0_1 (hA.trans hS.old) et_18 fun ad_5 cs_5 hk_5 hc_9 => ?_
  obtain ⟨v_27, rfl, hr_19⟩ := hk_5
  intro a h
  refine s_load h rfl rfl (el_one (o := 0) hc_9 U22 rfl rfl) fun a h=>?_
  obtain ⟨t_19, et_19, H⟩ := bs H
  refine s_call h rfl Try.call29 rfl (hocketref1_Bytes.calls K x_11 _ t_18 _ t_19 w0 _ _ _ mr (hS.enter [] (by decide)) (ho_8.rd (hS.own_zed [] 3 (by decide)) (Mem.no_le _)) (hr_19.mono (hA.trans (hS.le_zed []))) et_19) ?_
  rintro v_28 w_28 ⟨_, N_35, M_22, rfl, hS', hr_20⟩
  intro a h
  obtain ⟨N_36, hS'', le_22, ln_14⟩ := hS.call [] (by decide) rfl (l' := []) (ow := [_]) rfl hS'
  replace hS : Sep w0 w_28 [N_36, _, _, _, _, _] Z := hS''
  refine sg h rfl fun a h=>wpList_nil <| x_block_n <| x_then_n <| wp_region_lit <| mv h rfl fun a h=>s_arith (r := w64 (x_12 + 1)) h rfl rfl rfl (.inl ⟨rfl, rfl⟩) fun a h=>sg h rfl fun a h=>wpList_nil <| x_then_n (hKL_4 _ _ ?_)
  exact ⟨t_19, w64 (x_12 + 1), v_28, N_36, M_22, H, (h.to rfl), (hS.sel [0, 1, 1001, 1002, 5] (by decide)), (le_21.trans le_22), hr_20⟩
 ·refine c_cond_f h rfl (df hc_8) <| wp_exit (x_then_x (x_then_x (x_block_t ?_)))
  exact x_then_n (hJ_j_1 x_11 H _ _ ⟨v_26, N_34, M_21, (h.to rfl), (hS.sel [0, 1, 1001, 1002, 4] (by decide)), le_21, ho_8⟩)

set_option maxHeartbeats 4000000 in
set_option maxRecDepth 20000 in
theorem hocketref4_PutEntry.calls (K : Nat) (x0 : List UInt8) (p0_0 : Value) (x1 : api_Entry) (p1_1 : Value) (p1_2 : Value) (p1_3 : Value) (r : (List UInt8)) (w0 w : World) (Z A : Mem) (hA : A.le Z) (hS : Sep w0 w [] Z) (hp0_0 : Rd Kd.u8 A p0_0 x0) (hp1_1 : Rd Kd.u8 A p1_1 x1.Cmd.Key) (hp1_2 : Rd Kd.u8 A p1_2 x1.Cmd.Val) (hp1_3 : Rd Kd.u8 A p1_3 x1.Cmd.Old)
    (H : hocketref4_PutEntry.f K x0 x1 = some r) :
    Calls Try.prog 32 [p0_0, .agg (E26 x1 p1_1 p1_2 p1_3).toArray].toArray w (Ret fun v w' => ∃ (u0 : Value) (N : Mem) (M0 : Mem), v = u0 ∧ Sep w0 w' [N, M0] Z ∧ Own Kd.u8 5 M0 Mem.no u0 r) := by
 unfold hocketref4_PutEntry.f at H
 refine f_enter _ Try.func32 rfl Try.ntmps32 rfl fun a h=>?_
 replace h : Fr 33 a [(0, p0_0), (1, .agg (E26 x1 p1_1 p1_2 p1_3).toArray)] := h
 replace hS := hS.start
 refine qr <| v_box (vs := (E26 x1 p1_1 p1_2 p1_3)) h rfl rfl rfl hS fun w_1 g_1 hS' a h => ?_
 replace hS : Sep w0 w_1 [_, bx g_1 26 (E26 x1 p1_1 p1_2 p1_3)] Z := hS'
 refine sg h rfl fun a h=>nx <| c_seq fun KJ_1 hKJ_1 => h_begin (S := fun w => Sep w0 w [Mem.no, bx g_1 26 (E26 x1 p1_1 p1_2 p1_3)] Z) 16 (by kernel_rfl) rfl (bA 16 0) (by kernel_rfl) hS fun w_2 hS => ?_
 refine t_take 0 (bA 16 1) rfl rfl rfl rfl h (hS.sub .ii) (v := p0_0) (fun w hS => r_move h rfl) fun a h=>t_take 1 (bA 16 3) rfl rfl rfl rfl h (hS.sub .ii) (v := .pointer (some ⟨g_1, 0, none⟩)) (fun w hS => r_fieldAddr h U26 rfl ti3 rfl rfl rfl) fun a h=>t_take 2 (bA 16 7) rfl rfl rfl rfl h (hS.sub .ii) (v := iV x1.Sess) (fun w hS => r_load h rfl (hS.load_one (p := 1) rfl U3 rfl rfl)) fun a h=>t_take 4 (bA 16 23) rfl rfl rfl rfl h (hS.sub .ii) (v := .pointer (some ⟨g_1, 1, none⟩)) (fun w hS => r_fieldAddr h U26 rfl ti3 rfl rfl rfl) fun a h=>t_take 5 (bA 16 55) rfl rfl rfl rfl h (hS.sub .ii) (v := iV x1.Seq) (fun w hS => r_load h rfl (hS.load_one (p := 1) rfl U3 rfl rfl)) fun a h=>t_take 7 (bA 16 183) rfl rfl rfl rfl h (hS.sub .ii) (v := .pointer (some ⟨g_1, 2, none⟩)) (fun w hS => r_fieldAddr h U26 rfl ti24 rfl rfl rfl) fun a h=>?_
 refine t_take 8 (bA 16 439) rfl rfl rfl rfl h (hS.sub .ii) (v := .pointer (some ⟨g_1, 2, none⟩)) (fun w hS => r_fieldAddr h U24 rfl ti3 rfl rfl rfl) fun a h=>t_take 9 (bA 16 951) rfl rfl rfl rfl h (hS.sub .ii) (v := iV x1.Cmd.Kind) (fun w hS => r_load h rfl (hS.load_one (p := 1) rfl U3 rfl rfl)) fun a h=>t_take 11 (bA 16 2999) rfl rfl rfl rfl h (hS.sub .ii) (v := .pointer (some ⟨g_1, 2, none⟩)) (fun w hS => r_fieldAddr h U26 rfl ti24 rfl rfl rfl) fun a h=>t_take 12 (bA 16 7095) rfl rfl rfl rfl h (hS.sub .ii) (v := .pointer (some ⟨g_1, 3, none⟩)) (fun w hS => r_fieldAddr h U24 rfl ti3 rfl rfl rfl) fun a h=>t_take 13 (bA 16 15287) rfl rfl rfl rfl h (hS.sub .ii) (v := iV x1.Cmd.Who) (fun w hS => r_load h rfl (hS.load_one (p := 1) rfl U3 rfl rfl)) fun a h=>h_event 3 (bA 16 15295) rfl (by kernel_rfl) (by kernel_rfl) ?_
 obtain ⟨t_1, et_1, H⟩ := bs H
 refine s_call h rfl Try.call30 rfl (hocketref1_Num.calls K x0 _ x1.Sess t_1 w0 _ _ _ mr (hS.enter [] (by decide)) (hp0_0.mono (hA.trans (hS.le_zed []))) et_1) ?_
 rintro v_1 w_3 ⟨_, N_1, M_1, rfl, hS', hr_1⟩
 intro a h
 obtain ⟨N_2, hS'', le_1, ln_1⟩ := hS.call [] (by decide) rfl (l' := []) (ow := [_]) rfl hS'
 replace hS : Sep w0 w_3 [N_2, _, _] Z := hS''
 refine ne (hS.sub (.cons le_1 (.rr .nn))) fun hs => ?_
 refine h_event 6 (bA 16 15359) rfl (by kernel_rfl) (by kernel_rfl) ?_
 obtain ⟨t_2, et_2, H⟩ := bs H
 refine s_call h rfl Try.call30 rfl (hocketref1_Num.calls K t_1 _ x1.Seq t_2 w0 _ _ _ mr (hS.enter [] (by decide)) (hr_1.rd (hS.own_zed [] 1 (by decide)) (Mem.no_le _)) et_2) ?_
 rintro v_2 w_4 ⟨_, N_3, M_2, rfl, hS', hr_2⟩
 intro a h
 obtain ⟨N_4, hS'', le_2, ln_2⟩ := hS.call [] (by decide) rfl (l' := []) (ow := [_]) rfl hS'
 replace hS : Sep w0 w_4 [N_4, _, _, _] Z := hS''
 refine ne (hS.sub (.cons (le_1.trans le_2) (.rr .nn))) fun hs => ?_
 refine h_event 10 (bA 16 16383) rfl (by kernel_rfl) (by kernel_rfl) ?_
 obtain ⟨t_3, et_3, H⟩ := bs H
 refine s_call h rfl Try.call30 rfl (hocketref1_Num.calls K t_2 _ x1.Cmd.Kind t_3 w0 _ _ _ mr (hS.enter [] (by decide)) (hr_2.rd (hS.own_zed [] 2 (by decide)) (Mem.no_le _)) et_3) ?_
 rintro v_3 w_5 ⟨_, N_5, M_3, rfl, hS', hr_3⟩
 intro a h
 obtain ⟨N_6, hS'', le_3, ln_3⟩ := hS.call [] (by decide) rfl (l' := []) (ow := [_]) rfl hS'
 replace hS : Sep w0 w_5 [N_6, _, _, _, _] Z := hS''
 refine ne (hS.sub (.cons (le_1.trans (le_2.trans le_3)) (.rr .nn))) fun hs => ?_
 refine h_event 14 (bA 16 32767) rfl (by kernel_rfl) (by kernel_rfl) ?_
 obtain ⟨t_4, et_4, H⟩ := bs H
 refine s_call h rfl Try.call30 rfl (hocketref1_Num.calls K t_3 _ x1.Cmd.Who t_4 w0 _ _ _ mr (hS.enter [] (by decide)) (hr_3.rd (hS.own_zed [] 3 (by decide)) (Mem.no_le _)) et_4) ?_
 rintro v_4 w_6 ⟨_, N_7, M_4, rfl, hS', hr_4⟩
 intro a h
 obtain ⟨N_8, hS'', le_4, ln_4⟩ := hS.call [] (by decide) rfl (l' := []) (ow := [_]) rfl hS'
 replace hS : Sep w0 w_6 [N_8, _, _, _, _, _] Z := hS''
 refine ne (hS.sub (.cons (le_1.trans (le_2.trans (le_3.trans le_4))) (.rr .nn))) fun hs => ?_
 refine t_take 15 (bA 16 65535) rfl rfl rfl rfl h hs (v := v_4) (fun w hS => r_assign h rfl) fun a h=>h_done (by kernel_rfl) <| x_then_n (hKJ_1 _ _ ?_)
 refine c_seq fun KJ_2 hKJ_2 => h_begin (S := fun w => Sep w0 w [N_8, bx g_1 26 (E26 x1 p1_1 p1_2 p1_3), M_1, M_2, M_3, M_4] Z) 14 (by kernel_rfl) rfl (bA 14 0) (by kernel_rfl) hS fun w_7 hS => ?_
 refine t_take 0 (bA 14 1) rfl rfl rfl rfl h (hS.sub .ii) (v := v_4) (fun w hS => r_move h rfl) fun a h=>t_take 1 (bA 14 3) rfl rfl rfl rfl h (hS.sub .ii) (v := .pointer (some ⟨g_1, 2, none⟩)) (fun w hS => r_fieldAddr h U26 rfl ti24 rfl rfl rfl) fun a h=>t_take 2 (bA 14 7) rfl rfl rfl rfl h (hS.sub .ii) (v := .pointer (some ⟨g_1, 4, none⟩)) (fun w hS => r_fieldAddr h U24 rfl ti22 rfl rfl rfl) fun a h=>t_take 3 (bA 14 15) rfl rfl rfl rfl h (hS.sub .ii) (v := p1_1) (fun w hS => r_load h rfl (hS.load_one (p := 1) rfl U22 rfl rfl)) fun a h=>t_take 5 (bA 14 47) rfl rfl rfl rfl h (hS.sub .ii) (v := .pointer (some ⟨g_1, 2, none⟩)) (fun w hS => r_fieldAddr h U26 rfl ti24 rfl rfl rfl) fun a h=>t_take 6 (bA 14 111) rfl rfl rfl rfl h (hS.sub .ii) (v := .pointer (some ⟨g_1, 5, none⟩)) (fun w hS => r_fieldAddr h U24 rfl ti22 rfl rfl rfl) fun a h=>?_
 refine t_take 7 (bA 14 239) rfl rfl rfl rfl h (hS.sub .ii) (v := p1_2) (fun w hS => r_load h rfl (hS.load_one (p := 1) rfl U22 rfl rfl)) fun a h=>t_take 9 (bA 14 751) rfl rfl rfl rfl h (hS.sub .ii) (v := .pointer (some ⟨g_1, 2, none⟩)) (fun w hS => r_fieldAddr h U26 rfl ti24 rfl rfl rfl) fun a h=>t_take 10 (bA 14 1775) rfl rfl rfl rfl h (hS.sub .ii) (v := .pointer (some ⟨g_1, 6, none⟩)) (fun w hS => r_fieldAddr h U24 rfl ti22 rfl rfl rfl) fun a h=>t_take 11 (bA 14 3823) rfl rfl rfl rfl h (hS.sub .ii) (v := p1_3) (fun w hS => r_load h rfl (hS.load_one (p := 1) rfl U22 rfl rfl)) fun a h=>h_event 4 (bA 14 3839) rfl (by kernel_rfl) (by kernel_rfl) ?_
 obtain ⟨t_5, et_5, H⟩ := bs H
 refine s_call h rfl Try.call29 rfl (hocketref1_Bytes.calls K t_4 _ x1.Cmd.Key _ t_5 w0 _ _ _ mr (hS.enter [] (by decide)) (hr_4.rd (hS.own_zed [] 4 (by decide)) (Mem.no_le _)) (hp1_1.mono (hA.trans (hS.le_zed []))) et_5) ?_
 rintro v_5 w_8 ⟨_, N_9, M_5, rfl, hS', hr_5⟩
 intro a h
 obtain ⟨N_10, hS'', le_5, ln_5⟩ := hS.call [] (by decide) rfl (l' := []) (ow := [_]) rfl hS'
 replace hS : Sep w0 w_8 [N_10, _, _, _, _, _, _] Z := hS''
 refine ne (hS.sub (.cons le_5 (.rr (.rr (.rr (.rr (.rr .nn))))))) fun hs => ?_
 refine h_event 8 (bA 14 4095) rfl (by kernel_rfl) (by kernel_rfl) ?_
 obtain ⟨t_6, et_6, H⟩ := bs H
 refine s_call h rfl Try.call29 rfl (hocketref1_Bytes.calls K t_5 _ x1.Cmd.Val _ t_6 w0 _ _ _ mr (hS.enter [] (by decide)) (hr_5.rd (hS.own_zed [] 5 (by decide)) (Mem.no_le _)) (hp1_2.mono (hA.trans (hS.le_zed []))) et_6) ?_
 rintro v_6 w_9 ⟨_, N_11, M_6, rfl, hS', hr_6⟩
 intro a h
 obtain ⟨N_12, hS'', le_6, ln_6⟩ := hS.call [] (by decide) rfl (l' := []) (ow := [_]) rfl hS'
 replace hS : Sep w0 w_9 [N_12, _, _, _, _, _, _, _] Z := hS''
 refine ne (hS.sub (.cons (le_5.trans le_6) (.rr (.rr (.rr (.rr (.rr .nn))))))) fun hs => ?_
 refine h_event 12 (bA 14 8191) rfl (by kernel_rfl) (by kernel_rfl) ?_
 obtain ⟨t_7, et_7, H⟩ := bs H
 refine s_call h rfl Try.call29 rfl (hocketref1_Bytes.calls K t_6 _ x1.Cmd.Old _ t_7 w0 _ _ _ mr (hS.enter [] (by decide)) (hr_6.rd (hS.own_zed [] 6 (by decide)) (Mem.no_le _)) (hp1_3.mono (hA.trans (hS.le_zed []))) et_7) ?_
 rintro v_7 w_10 ⟨_, N_13, M_7, rfl, hS', hr_7⟩
 intro a h
 obtain ⟨N_14, hS'', le_7, ln_7⟩ := hS.call [] (by decide) rfl (l' := []) (ow := [_]) rfl hS'
 replace hS : Sep w0 w_10 [N_14, _, _, _, _, _, _, _, _] Z := hS''
 refine ne (hS.sub (.cons (le_5.trans (le_6.trans le_7)) (.rr (.rr (.rr (.rr (.rr .nn))))))) fun hs => ?_
 refine t_take 13 (bA 14 16383) rfl rfl rfl rfl h hs (v := v_7) (fun w hS => r_assign h rfl) fun a h=>h_done (by kernel_rfl) <| x_then_n (hKJ_2 _ _ ?_)
 refine wp_ret ?_
 obtain rfl := Option.some.inj H
 exact r1 h 4 rfl rfl ⟨_, rfl, v_7, N_14, M_7, rfl, (hS.sel [0, 8] (by decide)), hr_7⟩

set_option maxHeartbeats 4000000 in
set_option maxRecDepth 20000 in
theorem hocketref15_Encode.calls (K : Nat) (x0 : api_State) (p0_0 : Value) (p0_1 : Value) (p0_2 : Value) (p0_3 : Value) (p0_4 : Value) (p0_5 : Value) (r : (List UInt8)) (w0 w : World) (Z A : Mem) (hA : A.le Z) (hS : Sep w0 w [] Z) (hp0_0 : Rd Kd.u8 A p0_0 x0.Machine.Objects.Reg) (hp0_1 : Rd (Kd.slice Kd.u8) A p0_1 x0.Machine.Objects.Queue) (hp0_2 : Rd (Kd.int .i64) A p0_2 x0.Machine.Objects.Lock) (hp0_3 : Rd k_api_Pair A p0_3 x0.Machine.Objects.Map) (hp0_4 : Rd k_api_Last A p0_4 x0.Machine.Table) (hp0_5 : Rd k_api_Entry A p0_5 x0.Rest)
    (H : hocketref15_Encode.f K x0 = some r) :
    Calls Try.prog 12 [.agg ([iV x0.At, p0_0, p0_1, p0_2, p0_3, p0_4, p0_5] : List Value).toArray].toArray w (Ret fun v w' => ∃ (u0 : Value) (N : Mem) (M0 : Mem), v = u0 ∧ Sep w0 w' [N, M0] Z ∧ Own Kd.u8 5 M0 Mem.no u0 r) := by
 unfold hocketref15_Encode.f at H
 refine f_enter _ Try.func12 rfl Try.ntmps12 rfl fun a h=>?_
 replace h : Fr 33 a [(0, .agg ([iV x0.At, p0_0, p0_1, p0_2, p0_3, p0_4, p0_5] : List Value).toArray)] := h
 replace hS := hS.start
 refine qr <| v_box (vs := [iV x0.At, p0_0, p0_1, p0_2, p0_3, p0_4, p0_5]) h rfl rfl rfl hS fun w_1 g_1 hS' a h => ?_
 replace hS : Sep w0 w_1 [_, bx g_1 37 [iV x0.At, p0_0, p0_1, p0_2, p0_3, p0_4, p0_5]] Z := hS'
 refine sg h rfl fun a h=>nx <| c_seq fun KJ_1 hKJ_1 => h_begin (S := fun w => Sep w0 w [Mem.no, bx g_1 37 [iV x0.At, p0_0, p0_1, p0_2, p0_3, p0_4, p0_5]] Z) 8 (by kernel_rfl) rfl (bA 8 0) (by kernel_rfl) hS fun w_2 hS => ?_
 refine t_take 0 (bA 8 1) rfl rfl rfl rfl h (hS.sub .ii) (v := .pointer (some ⟨g_1, 0, none⟩)) (fun w hS => r_fieldAddr h U37 rfl ti3 rfl rfl rfl) fun a h=>t_take 1 (bA 8 3) rfl rfl rfl rfl h (hS.sub .ii) (v := iV x0.At) (fun w hS => r_load h rfl (hS.load_one (p := 1) rfl U3 rfl rfl)) fun a h=>t_take 3 (bA 8 11) rfl rfl rfl rfl h (hS.sub .ii) (v := .pointer (some ⟨g_1, 1, none⟩)) (fun w hS => r_fieldAddr h U37 rfl ti35 rfl rfl rfl) fun a h=>t_take 4 (bA 8 27) rfl rfl rfl rfl h (hS.sub .ii) (v := .agg ([p0_0, p0_1, p0_2, p0_3, p0_4] : List Value).toArray) (fun w hS => r_load h rfl (hS.load_agg (p := 1) (us := [p0_0, p0_1, p0_2, p0_3, p0_4]) rfl U35 rfl ti35 rfl rfl)) fun a h=>h_event 2 (bA 8 31) rfl (by kernel_rfl) (by kernel_rfl) ?_
 obtain ⟨t_1, et_1, H⟩ := bs H
 refine s_call h rfl Try.call30 rfl (hocketref1_Num.calls K ([] : List UInt8) _ x0.At t_1 w0 _ _ _ mr (hS.enter [] (by decide)) (Rd.nil _ _) et_1) ?_
 rintro v_1 w_3 ⟨_, N_1, M_1, rfl, hS', hr_1⟩
 intro a h
 obtain ⟨N_2, hS'', le_1, ln_1⟩ := hS.call [] (by decide) rfl (l' := []) (ow := [_]) rfl hS'
 replace hS : Sep w0 w_3 [N_2, _, _] Z := hS''
 refine ne (hS.sub (.cons le_1 (.rr .nn))) fun hs => ?_
 refine h_event 5 (bA 8 63) rfl (by kernel_rfl) (by kernel_rfl) ?_
 obtain ⟨t_2, et_2, H⟩ := bs H
 refine s_call h rfl Try.call31 rfl (hocketref4_Encode.calls K x0.Machine _ _ _ _ _ t_2 w0 _ _ _ mr (hS.enter [] (by decide)) (hp0_0.mono (hA.trans (hS.le_zed []))) (hp0_1.mono (hA.trans (hS.le_zed []))) (hp0_2.mono (hA.trans (hS.le_zed []))) (hp0_3.mono (hA.trans (hS.le_zed []))) (hp0_4.mono (hA.trans (hS.le_zed []))) et_2) ?_
 rintro v_2 w_4 ⟨_, N_3, M_2, rfl, hS', hr_2⟩
 intro a h
 obtain ⟨N_4, hS'', le_2, ln_2⟩ := hS.call [] (by decide) rfl (l' := []) (ow := [_]) rfl hS'
 replace hS : Sep w0 w_4 [N_4, _, _, _] Z := hS''
 refine ne (hS.sub (.cons (le_1.trans le_2) (.rr .nn))) fun hs => ?_
 refine h_event 6 (bA 8 127) rfl (by kernel_rfl) (by kernel_rfl) ?_
 obtain ⟨t_3, et_3, H⟩ := bs H
 refine s_call h rfl Try.call29 rfl (hocketref1_Bytes.calls K t_1 _ t_2 _ t_3 w0 _ _ _ mr (hS.enter [] (by decide)) (hr_1.rd (hS.own_zed [] 1 (by decide)) (Mem.no_le _)) (hr_2.rd (hS.own_zed [] 2 (by decide)) (Mem.no_le _)) et_3) ?_
 rintro v_3 w_5 ⟨_, N_5, M_3, rfl, hS', hr_3⟩
 intro a h
 obtain ⟨N_6, hS'', le_3, ln_3⟩ := hS.call [] (by decide) rfl (l' := []) (ow := [_]) rfl hS'
 replace hS : Sep w0 w_5 [N_6, _, _, _, _] Z := hS''
 refine ne (hS.sub (.cons (le_1.trans (le_2.trans le_3)) (.rr .nn))) fun hs => ?_
 refine t_take 7 (bA 8 255) rfl rfl rfl rfl h hs (v := v_3) (fun w hS => r_assign h rfl) fun a h=>h_done (by kernel_rfl) <| x_then_n (hKJ_1 _ _ ?_)
 refine qr <| mv h rfl fun a h=>s_fieldAddr h rfl U37 rfl ti27 rfl rfl fun a h=>s_load h rfl rfl (hS.load_one (p := 1) rfl U27 rfl rfl) fun a h=>s_len h rfl U27 rfl hp0_5 fun a h=>?_
 obtain ⟨t_4, et_4, H⟩ := bs H
 refine s_call h rfl Try.call30 rfl (hocketref1_Num.calls K t_3 _ (x0.Rest.length : Int) t_4 w0 _ _ _ mr (hS.enter [] (by decide)) (hr_3.rd (hS.own_zed [] 3 (by decide)) (Mem.no_le _)) et_4) ?_
 rintro v_4 w_6 ⟨_, N_7, M_4, rfl, hS', hr_4⟩
 intro a h
 obtain ⟨N_8, hS'', le_4, ln_4⟩ := hS.call [] (by decide) rfl (l' := []) (ow := [_]) rfl hS'
 replace hS : Sep w0 w_6 [N_8, _, _, _, _, _] Z := hS''
 refine sg h rfl fun a h=>nx <| c_seq fun KJ_2 hKJ_2 => qr <| sg h rfl fun a h=>wpList_nil ?_
 replace h : Fr 33 a [(1, .pointer (some ⟨g_1, 0, none⟩)), (2, nS), (3, v_4), (4, iV 0)] := h.keep [1, 2, 3, 4]
 refine x_then_n ?_
 have hJ_j_1 : ∀ (x_1 : List UInt8), hocketref15_Encode.J1 K x_1 = some r → ∀ (a : Act) (w_7 : World), (∃ (v_5 : Value) (N_9 : Mem) (M_5 : Mem), Fr 33 a [(2, nS), (3, v_5)] ∧ Sep w0 w_7 [N_9, Mem.no, Mem.no, Mem.no, Mem.no, Mem.no, M_5] Z ∧ N_8.le N_9 ∧ Own Kd.u8 5 M_5 Mem.no v_5 x_1) → KJ_2 a w_7 := by
  clear H h hS a
  rintro x_1 H a w_7 ⟨v_5, N_9, M_5, h, hS, le_5, ho_1⟩
  unfold hocketref15_Encode.J1 at H
  refine hKJ_2 _ _ <| qr <| mv h rfl fun a h=>?_
  obtain ⟨t_5, et_5, H⟩ := bs H
  refine s_call h rfl Try.call10 rfl (hocketref1_Four.calls K x_1 _ t_5 w0 _ _ _ mr (hS.enter [] (by decide)) (ho_1.rd (hS.own_zed [] 5 (by decide)) (Mem.no_le _)) et_5) ?_
  rintro v_6 w_8 ⟨_, N_10, M_6, rfl, hS', hr_5⟩
  intro a h
  obtain ⟨N_11, hS'', le_6, ln_5⟩ := hS.call [] (by decide) rfl (l' := []) (ow := [_]) rfl hS'
  replace hS : Sep w0 w_8 [N_11, _, _, _, _, _, _, _] Z := hS''
  refine sg h rfl fun a h=>nx <| wp_ret ?_
  obtain rfl := Option.some.inj H
  exact r1 h 2 rfl rfl ⟨_, rfl, v_6, N_11, M_6, rfl, (hS.sel [0, 7] (by decide)), hr_5⟩
 clear hKJ_2
 refine c_block <| c_loop (fun k_1 a w_9 => ∃ (x_2 : List UInt8) (x_3 : Int) (v_7 : Value) (N_12 : Mem) (M_7 : Mem), hocketref15_Encode.L1 K x0 (fun v => hocketref15_Encode.J1 K v) k_1 (x_2, x_3) = some r ∧ Fr 33 a [(1, .pointer (some ⟨g_1, 0, none⟩)), (2, nS), (3, v_7), (4, iV x_3)] ∧ Sep w0 w_9 [N_12, bx g_1 37 [iV x0.At, p0_0, p0_1, p0_2, p0_3, p0_4, p0_5], Mem.no, Mem.no, Mem.no, Mem.no, M_7] Z ∧ N_8.le N_12 ∧ Own Kd.u8 5 M_7 Mem.no v_7 x_2) K ⟨t_4, 0, v_4, N_8, M_4, H, (h.to rfl), (hS.sel [0, 1, 1001, 1002, 1003, 1004, 5] (by decide)), mr, hr_4⟩ (fun a w h => by obtain ⟨_, _, _, _, _, H, _⟩ := h; cases (show (none : Option ((List UInt8))) = some r from H)) ?_
 clear h hS a H
 rintro k_1 a w_9 KL_1 hKL_1 ⟨x_2, x_3, v_7, N_12, M_7, H, h, hS, le_7, ho_2⟩
 replace H : hocketref15_Encode.B1 K x0 (fun v => hocketref15_Encode.J1 K v) (hocketref15_Encode.L1 K x0 (fun v => hocketref15_Encode.J1 K v) k_1) x_2 x_3 = some r := H
 unfold hocketref15_Encode.B1 at H
 refine c_seq fun KJ_3 hKJ_3 => qr <| mv h rfl fun a h=>s_fieldAddr h rfl U37 rfl ti27 rfl rfl fun a h=>s_load h rfl rfl (hS.load_one (p := 1) rfl U27 rfl rfl) fun a h=>s_len h rfl U27 rfl hp0_5 fun a h=>s_cmp (b := decide (x_3 < (x0.Rest.length : Int))) h rfl rfl rfl (.inr (.inr (.inl ⟨rfl, rfl⟩))) fun a h=>wpList_nil <| x_then_n ?_
 obtain ⟨hc_1, H⟩ | ⟨hc_1, H⟩ := ii H
 ·refine c_cond_t h rfl (dt hc_1) <| wp_skip <| x_then_n (hKJ_3 _ _ ?_)
  refine wp_seq <| c_block <| wp_region_lit <| mv h rfl fun a h=>s_fieldAddr h rfl U37 rfl ti27 rfl rfl fun a h=>s_load h rfl rfl (hS.load_one (p := 1) rfl U27 rfl rfl) fun a h=>mv h rfl fun a h=>?_
  obtain ⟨t_6, et_6, H⟩ := bs H
  refine v_index h rfl U27 ti26 rfl rfl rfl hp0_5 (hA.trans hS.old) et_6 fun ad_1 cs_1 hk_1 hc_2 => ?_
  obtain ⟨v_8, v_9, v_10, rfl, hr_6, hr_7, hr_8⟩ := k_api_Entry.open' hk_1
  intro a h
  refine s_load h rfl rfl (el_agg (o := 0) (us := (E26 t_6 v_8 v_9 v_10)) hc_2 U26 rfl ti26 rfl rfl) fun a h=>?_
  obtain ⟨t_7, et_7, H⟩ := bs H
  refine s_call h rfl Try.call32 rfl (hocketref4_PutEntry.calls K x_2 _ t_6 _ _ _ t_7 w0 _ _ _ mr (hS.enter [] (by decide)) (ho_2.rd (hS.own_zed [] 5 (by decide)) (Mem.no_le _)) (hr_6.mono (hA.trans (hS.le_zed []))) (hr_7.mono (hA.trans (hS.le_zed []))) (hr_8.mono (hA.trans (hS.le_zed []))) et_7) ?_
  rintro v_11 w_10 ⟨_, N_13, M_8, rfl, hS', hr_9⟩
  intro a h
  obtain ⟨N_14, hS'', le_8, ln_6⟩ := hS.call [] (by decide) rfl (l' := []) (ow := [_]) rfl hS'
  replace hS : Sep w0 w_10 [N_14, _, _, _, _, _, _, _] Z := hS''
  refine sg h rfl fun a h=>wpList_nil <| x_block_n <| x_then_n <| wp_region_lit <| mv h rfl fun a h=>s_arith (r := w64 (x_3 + 1)) h rfl rfl rfl (.inl ⟨rfl, rfl⟩) fun a h=>sg h rfl fun a h=>wpList_nil <| x_then_n (hKL_1 _ _ ?_)
  exact ⟨t_7, w64 (x_3 + 1), v_11, N_14, M_8, H, (h.to rfl), (hS.sel [0, 1, 1001, 1002, 1003, 1004, 7] (by decide)), (le_7.trans le_8), hr_9⟩
 ·refine c_cond_f h rfl (df hc_1) <| wp_exit (x_then_x (x_then_x (x_block_t ?_)))
  exact x_then_n (hJ_j_1 x_2 H _ _ ⟨v_7, N_12, M_7, (h.to rfl), (hS.sel [0, 1000, 1001, 1002, 1003, 1004, 6] (by decide)), le_7, ho_2⟩)

set_option maxHeartbeats 4000000 in
set_option maxRecDepth 20000 in
theorem mesg_beyond.calls (x0 : api_Msg) (p0_0 : Value) (p0_1 : Value) (p0_2 : Value) (p0_3 : Value) (p0_4 : Value) (p0_5 : Value) (r : Bool) (w0 w : World) (Z A : Mem) (hA : A.le Z) (hS : Sep w0 w [] Z) (hp0_0 : Rd Kd.u8 A p0_0 x0.Data) (hp0_1 : Rd (Kd.int .i64) A p0_1 x0.Have) (hp0_2 : Rd (Kd.int .i64) A p0_2 x0.Need) (hp0_3 : Rd Kd.u8 A p0_3 x0.Entry.Cmd.Key) (hp0_4 : Rd Kd.u8 A p0_4 x0.Entry.Cmd.Val) (hp0_5 : Rd Kd.u8 A p0_5 x0.Entry.Cmd.Old)
    (H : mesg_beyond.f x0 = some r) :
    Calls Try.prog 70 [.agg (E56 x0 p0_0 p0_1 p0_2 p0_3 p0_4 p0_5).toArray].toArray w (Ret fun v w' => ∃ (N : Mem), v = .bool r ∧ Sep w0 w' [N] Z) := by
 unfold mesg_beyond.f at H
 refine f_enter _ Try.func70 rfl Try.ntmps70 rfl fun a h=>?_
 replace h : Fr 34 a [(0, .agg (E56 x0 p0_0 p0_1 p0_2 p0_3 p0_4 p0_5).toArray)] := h
 replace hS := hS.start
 refine qr <| v_box (vs := (E56 x0 p0_0 p0_1 p0_2 p0_3 p0_4 p0_5)) h rfl rfl rfl hS fun w_1 g_1 hS' a h => ?_
 replace hS : Sep w0 w_1 [_, bx g_1 56 (E56 x0 p0_0 p0_1 p0_2 p0_3 p0_4 p0_5)] Z := hS'
 refine sg h rfl fun a h=>nx <| c_seq fun KJ_1 hKJ_1 => wp_region_lit <| s_fieldAddr h rfl U56 rfl ti29 rfl rfl fun a h=>s_load h rfl rfl (hS.load_one (p := 1) rfl U29 rfl rfl) fun a h=>s_len h rfl U29 rfl hp0_1 fun a h=>s_cmp (b := decide ((x0.Have.length : Int) > 7)) h rfl rfl rfl (.inr (.inr (.inr (.inr (.inl ⟨rfl, rfl⟩))))) fun a h=>mv h rfl fun a h=>?_
 obtain ⟨hc_1, H⟩ | ⟨hc_1, H⟩ := ii H
 ·refine s_on h rfl rfl (dt hc_1) <| s_fieldAddr h rfl U56 rfl ti3 rfl rfl fun a h=>s_on h rfl rfl (dt hc_1) <| s_load h rfl rfl (hS.load_one (p := 1) rfl U3 rfl rfl) fun a h=>s_on h rfl rfl (dt hc_1) <| s_cmp (b := (x0.Kind == 7)) h rfl rfl rfl (.inl ⟨rfl, rfl⟩) fun a h=>pt h rfl (dt hc_1) fun a h=>mv h rfl fun a h=>?_
  obtain ⟨hc_2, H⟩ | ⟨hc_2, H⟩ := ii H
  ·refine of h rfl rfl (bt hc_2) fun a h=>of h rfl rfl (bt hc_2) fun a h=>of h rfl rfl (bt hc_2) fun a h=>of h rfl rfl (bt hc_2) fun a h=>of h rfl rfl (bt hc_2) fun a h=>s_offu h rfl rfl rfl fun a h=>s_offu h rfl rfl rfl fun a h=>s_offu h rfl rfl rfl fun a h=>of h rfl rfl (bt hc_2) fun a h=>pt h rfl (bt hc_2) fun a h=>mv h rfl fun a h=>oo h rfl rfl fun a h=>?_
   refine oo h rfl rfl fun a h=>oo h rfl rfl fun a h=>oo h rfl rfl fun a h=>oo h rfl rfl fun a h=>s_offu h rfl rfl rfl fun a h=>s_offu h rfl rfl rfl fun a h=>s_offu h rfl rfl rfl fun a h=>oo h rfl rfl fun a h=>pt h rfl rfl fun a h=>sg h rfl fun a h=>wpList_nil <| x_then_n (hKJ_1 _ _ ?_)
   refine wp_ret ?_
   obtain rfl := Option.some.inj H
   exact r1 h 2 rfl rfl ⟨_, rfl, Mem.no, rfl, (hS.sel [0] (by decide))⟩
  ·refine s_on h rfl rfl (bf hc_2) <| s_fieldAddr h rfl U56 rfl ti29 rfl rfl fun a h=>s_on h rfl rfl (bf hc_2) <| s_load h rfl rfl (hS.load_one (p := 1) rfl U29 rfl rfl) fun a h=>s_on h rfl rfl (bf hc_2) <| s_len h rfl U29 rfl hp0_2 fun a h=>s_on h rfl rfl (bf hc_2) <| s_cmp (b := decide ((x0.Need.length : Int) > 8)) h rfl rfl rfl (.inr (.inr (.inr (.inr (.inl ⟨rfl, rfl⟩))))) fun a h=>s_on h rfl rfl (bf hc_2) <| mv h rfl fun a h=>?_
   obtain ⟨hc_3, H⟩ | ⟨hc_3, H⟩ := ii H
   ·refine s_on h rfl rfl (dt hc_3) <| s_fieldAddr h rfl U56 rfl ti3 rfl rfl fun a h=>s_on h rfl rfl (dt hc_3) <| s_load h rfl rfl (hS.load_one (p := 1) rfl U3 rfl rfl) fun a h=>s_on h rfl rfl (dt hc_3) <| s_cmp (b := (x0.Kind == 7)) h rfl rfl rfl (.inl ⟨rfl, rfl⟩) fun a h=>s_on h rfl rfl (bf hc_2) <| pt h rfl (dt hc_3) fun a h=>pf h rfl (bf hc_2) fun a h=>mv h rfl fun a h=>s_on h rfl rfl (bf hc_2) <| s_fieldAddr h rfl U56 rfl ti22 rfl rfl fun a h=>?_
    refine s_on h rfl rfl (bf hc_2) <| s_load h rfl rfl (hS.load_one (p := 1) rfl U22 rfl rfl) fun a h=>s_on h rfl rfl (bf hc_2) <| s_len h rfl U22 rfl hp0_0 fun a h=>s_on h rfl rfl (bf hc_2) <| s_cmp (b := decide ((x0.Data.length : Int) > 64)) h rfl rfl rfl (.inr (.inr (.inr (.inr (.inl ⟨rfl, rfl⟩))))) fun a h=>s_on h rfl rfl (bf hc_2) <| mv h rfl fun a h=>?_
    obtain ⟨hc_4, H⟩ | ⟨hc_4, H⟩ := ii H
    ·refine s_on h rfl rfl (dt hc_4) <| s_fieldAddr h rfl U56 rfl ti3 rfl rfl fun a h=>s_on h rfl rfl (dt hc_4) <| s_load h rfl rfl (hS.load_one (p := 1) rfl U3 rfl rfl) fun a h=>s_on h rfl rfl (dt hc_4) <| s_cmp (b := (x0.Kind == 5)) h rfl rfl rfl (.inl ⟨rfl, rfl⟩) fun a h=>s_on h rfl rfl (bf hc_2) <| pt h rfl (dt hc_4) fun a h=>pf h rfl (bf hc_2) fun a h=>sg h rfl fun a h=>wpList_nil <| x_then_n (hKJ_1 _ _ ?_)
     refine wp_ret ?_
     obtain rfl := Option.some.inj H
     exact r1 h 2 rfl rfl ⟨_, rfl, Mem.no, rfl, (hS.sel [0] (by decide))⟩
    ·refine of h rfl rfl (df hc_4) fun a h=>of h rfl rfl (df hc_4) fun a h=>of h rfl rfl (df hc_4) fun a h=>s_on h rfl rfl (bf hc_2) <| pf h rfl (df hc_4) fun a h=>pf h rfl (bf hc_2) fun a h=>sg h rfl fun a h=>wpList_nil <| x_then_n (hKJ_1 _ _ ?_)
     refine wp_ret ?_
     obtain rfl := Option.some.inj H
     exact r1 h 2 rfl rfl ⟨_, rfl, Mem.no, rfl, (hS.sel [0] (by decide))⟩
   ·refine of h rfl rfl (df hc_3) fun a h=>of h rfl rfl (df hc_3) fun a h=>of h rfl rfl (df hc_3) fun a h=>s_on h rfl rfl (bf hc_2) <| pf h rfl (df hc_3) fun a h=>pf h rfl (bf hc_2) fun a h=>mv h rfl fun a h=>s_on h rfl rfl rfl <| s_fieldAddr h rfl U56 rfl ti22 rfl rfl fun a h=>s_on h rfl rfl rfl <| s_load h rfl rfl (hS.load_one (p := 1) rfl U22 rfl rfl) fun a h=>s_on h rfl rfl rfl <| s_len h rfl U22 rfl hp0_0 fun a h=>?_
    refine s_on h rfl rfl rfl <| s_cmp (b := decide ((x0.Data.length : Int) > 64)) h rfl rfl rfl (.inr (.inr (.inr (.inr (.inl ⟨rfl, rfl⟩))))) fun a h=>s_on h rfl rfl rfl <| mv h rfl fun a h=>?_
    obtain ⟨hc_5, H⟩ | ⟨hc_5, H⟩ := ii H
    ·refine s_on h rfl rfl (dt hc_5) <| s_fieldAddr h rfl U56 rfl ti3 rfl rfl fun a h=>s_on h rfl rfl (dt hc_5) <| s_load h rfl rfl (hS.load_one (p := 1) rfl U3 rfl rfl) fun a h=>s_on h rfl rfl (dt hc_5) <| s_cmp (b := (x0.Kind == 5)) h rfl rfl rfl (.inl ⟨rfl, rfl⟩) fun a h=>s_on h rfl rfl rfl <| pt h rfl (dt hc_5) fun a h=>pf h rfl rfl fun a h=>sg h rfl fun a h=>wpList_nil <| x_then_n (hKJ_1 _ _ ?_)
     refine wp_ret ?_
     obtain rfl := Option.some.inj H
     exact r1 h 2 rfl rfl ⟨_, rfl, Mem.no, rfl, (hS.sel [0] (by decide))⟩
    ·refine of h rfl rfl (df hc_5) fun a h=>of h rfl rfl (df hc_5) fun a h=>of h rfl rfl (df hc_5) fun a h=>s_on h rfl rfl rfl <| pf h rfl (df hc_5) fun a h=>pf h rfl rfl fun a h=>sg h rfl fun a h=>wpList_nil <| x_then_n (hKJ_1 _ _ ?_)
     refine wp_ret ?_
     obtain rfl := Option.some.inj H
     exact r1 h 2 rfl rfl ⟨_, rfl, Mem.no, rfl, (hS.sel [0] (by decide))⟩
 ·refine of h rfl rfl (df hc_1) fun a h=>of h rfl rfl (df hc_1) fun a h=>of h rfl rfl (df hc_1) fun a h=>pf h rfl (df hc_1) fun a h=>mv h rfl fun a h=>s_on h rfl rfl rfl <| s_fieldAddr h rfl U56 rfl ti29 rfl rfl fun a h=>s_on h rfl rfl rfl <| s_load h rfl rfl (hS.load_one (p := 1) rfl U29 rfl rfl) fun a h=>s_on h rfl rfl rfl <| s_len h rfl U29 rfl hp0_2 fun a h=>s_on h rfl rfl rfl <| s_cmp (b := decide ((x0.Need.length : Int) > 8)) h rfl rfl rfl (.inr (.inr (.inr (.inr (.inl ⟨rfl, rfl⟩))))) fun a h=>?_
  refine s_on h rfl rfl rfl <| mv h rfl fun a h=>?_
  obtain ⟨hc_6, H⟩ | ⟨hc_6, H⟩ := ii H
  ·refine s_on h rfl rfl (dt hc_6) <| s_fieldAddr h rfl U56 rfl ti3 rfl rfl fun a h=>s_on h rfl rfl (dt hc_6) <| s_load h rfl rfl (hS.load_one (p := 1) rfl U3 rfl rfl) fun a h=>s_on h rfl rfl (dt hc_6) <| s_cmp (b := (x0.Kind == 7)) h rfl rfl rfl (.inl ⟨rfl, rfl⟩) fun a h=>s_on h rfl rfl rfl <| pt h rfl (dt hc_6) fun a h=>pf h rfl rfl fun a h=>mv h rfl fun a h=>?_
   obtain ⟨hc_7, H⟩ | ⟨hc_7, H⟩ := ii H
   ·refine of h rfl rfl (bt hc_7) fun a h=>of h rfl rfl (bt hc_7) fun a h=>of h rfl rfl (bt hc_7) fun a h=>of h rfl rfl (bt hc_7) fun a h=>of h rfl rfl (bt hc_7) fun a h=>s_offu h rfl rfl rfl fun a h=>s_offu h rfl rfl rfl fun a h=>s_offu h rfl rfl rfl fun a h=>of h rfl rfl (bt hc_7) fun a h=>pt h rfl (bt hc_7) fun a h=>sg h rfl fun a h=>wpList_nil <| x_then_n (hKJ_1 _ _ ?_)
    refine wp_ret ?_
    obtain rfl := Option.some.inj H
    exact r1 h 2 rfl rfl ⟨_, rfl, Mem.no, rfl, (hS.sel [0] (by decide))⟩
   ·refine s_on h rfl rfl (bf hc_7) <| s_fieldAddr h rfl U56 rfl ti22 rfl rfl fun a h=>s_on h rfl rfl (bf hc_7) <| s_load h rfl rfl (hS.load_one (p := 1) rfl U22 rfl rfl) fun a h=>s_on h rfl rfl (bf hc_7) <| s_len h rfl U22 rfl hp0_0 fun a h=>s_on h rfl rfl (bf hc_7) <| s_cmp (b := decide ((x0.Data.length : Int) > 64)) h rfl rfl rfl (.inr (.inr (.inr (.inr (.inl ⟨rfl, rfl⟩))))) fun a h=>s_on h rfl rfl (bf hc_7) <| mv h rfl fun a h=>?_
    obtain ⟨hc_8, H⟩ | ⟨hc_8, H⟩ := ii H
    ·refine s_on h rfl rfl (dt hc_8) <| s_fieldAddr h rfl U56 rfl ti3 rfl rfl fun a h=>s_on h rfl rfl (dt hc_8) <| s_load h rfl rfl (hS.load_one (p := 1) rfl U3 rfl rfl) fun a h=>s_on h rfl rfl (dt hc_8) <| s_cmp (b := (x0.Kind == 5)) h rfl rfl rfl (.inl ⟨rfl, rfl⟩) fun a h=>s_on h rfl rfl (bf hc_7) <| pt h rfl (dt hc_8) fun a h=>pf h rfl (bf hc_7) fun a h=>sg h rfl fun a h=>wpList_nil <| x_then_n (hKJ_1 _ _ ?_)
     refine wp_ret ?_
     obtain rfl := Option.some.inj H
     exact r1 h 2 rfl rfl ⟨_, rfl, Mem.no, rfl, (hS.sel [0] (by decide))⟩
    ·refine of h rfl rfl (df hc_8) fun a h=>of h rfl rfl (df hc_8) fun a h=>of h rfl rfl (df hc_8) fun a h=>s_on h rfl rfl (bf hc_7) <| pf h rfl (df hc_8) fun a h=>pf h rfl (bf hc_7) fun a h=>sg h rfl fun a h=>wpList_nil <| x_then_n (hKJ_1 _ _ ?_)
     refine wp_ret ?_
     obtain rfl := Option.some.inj H
     exact r1 h 2 rfl rfl ⟨_, rfl, Mem.no, rfl, (hS.sel [0] (by decide))⟩
  ·refine of h rfl rfl (df hc_6) fun a h=>of h rfl rfl (df hc_6) fun a h=>of h rfl rfl (df hc_6) fun a h=>s_on h rfl rfl rfl <| pf h rfl (df hc_6) fun a h=>pf h rfl rfl fun a h=>mv h rfl fun a h=>s_on h rfl rfl rfl <| s_fieldAddr h rfl U56 rfl ti22 rfl rfl fun a h=>s_on h rfl rfl rfl <| s_load h rfl rfl (hS.load_one (p := 1) rfl U22 rfl rfl) fun a h=>s_on h rfl rfl rfl <| s_len h rfl U22 rfl hp0_0 fun a h=>?_
   refine s_on h rfl rfl rfl <| s_cmp (b := decide ((x0.Data.length : Int) > 64)) h rfl rfl rfl (.inr (.inr (.inr (.inr (.inl ⟨rfl, rfl⟩))))) fun a h=>s_on h rfl rfl rfl <| mv h rfl fun a h=>?_
   obtain ⟨hc_9, H⟩ | ⟨hc_9, H⟩ := ii H
   ·refine s_on h rfl rfl (dt hc_9) <| s_fieldAddr h rfl U56 rfl ti3 rfl rfl fun a h=>s_on h rfl rfl (dt hc_9) <| s_load h rfl rfl (hS.load_one (p := 1) rfl U3 rfl rfl) fun a h=>s_on h rfl rfl (dt hc_9) <| s_cmp (b := (x0.Kind == 5)) h rfl rfl rfl (.inl ⟨rfl, rfl⟩) fun a h=>s_on h rfl rfl rfl <| pt h rfl (dt hc_9) fun a h=>pf h rfl rfl fun a h=>sg h rfl fun a h=>wpList_nil <| x_then_n (hKJ_1 _ _ ?_)
    refine wp_ret ?_
    obtain rfl := Option.some.inj H
    exact r1 h 2 rfl rfl ⟨_, rfl, Mem.no, rfl, (hS.sel [0] (by decide))⟩
   ·refine of h rfl rfl (df hc_9) fun a h=>of h rfl rfl (df hc_9) fun a h=>of h rfl rfl (df hc_9) fun a h=>s_on h rfl rfl rfl <| pf h rfl (df hc_9) fun a h=>pf h rfl rfl fun a h=>sg h rfl fun a h=>wpList_nil <| x_then_n (hKJ_1 _ _ ?_)
    refine wp_ret ?_
    obtain rfl := Option.some.inj H
    exact r1 h 2 rfl rfl ⟨_, rfl, Mem.no, rfl, (hS.sel [0] (by decide))⟩

set_option maxHeartbeats 4000000 in
set_option maxRecDepth 20000 in
theorem mesg_flag.calls (x0 : Bool) (r : Int) (w0 w : World) (Z A : Mem) (hA : A.le Z) (hS : Sep w0 w [] Z)
    (H : mesg_flag.f x0 = some r) :
    Calls Try.prog 87 [.bool x0].toArray w (Ret fun v w' => ∃ (N : Mem), v = iV r ∧ Sep w0 w' [N] Z) := by
 unfold mesg_flag.f at H
 refine f_enter _ Try.func87 rfl Try.ntmps87 rfl fun a h=>?_
 replace h : Fr 4 a [(0, .bool x0)] := h
 replace hS := hS.start
 refine qr <| sg h rfl fun a h=>nx <| c_seq fun KJ_1 hKJ_1 => qr <| mv h rfl fun a h=>wpList_nil <| x_then_n ?_
 obtain ⟨hc_1, H⟩ | ⟨hc_1, H⟩ := ii H
 ·refine c_cond_t h rfl hc_1 <| qr <| sg h rfl fun a h=>nx <| wp_ret (x_then_r ?_)
  obtain rfl := Option.some.inj H
  exact r1 h 2 rfl rfl ⟨_, rfl, Mem.no, rfl, (hS.sel [0] (by decide))⟩
 ·refine c_cond_f h rfl (ef hc_1) <| wp_skip <| x_then_n (hKJ_1 _ _ ?_)
  refine qr <| sg h rfl fun a h=>nx <| wp_ret ?_
  obtain rfl := Option.some.inj H
  exact r1 h 2 rfl rfl ⟨_, rfl, Mem.no, rfl, (hS.sel [0] (by decide))⟩

set_option maxHeartbeats 4000000 in
set_option maxRecDepth 20000 in
theorem mesg_row.calls (K : Nat) (x0 : List UInt8) (p0_0 : Value) (x1 : List Int) (p1_1 : Value) (r : (List UInt8)) (w0 w : World) (Z A : Mem) (hA : A.le Z) (hS : Sep w0 w [] Z) (hp0_0 : Rd Kd.u8 A p0_0 x0) (hp1_1 : Rd (Kd.int .i64) A p1_1 x1)
    (H : mesg_row.f K x0 x1 = some r) :
    Calls Try.prog 88 [p0_0, p1_1].toArray w (Ret fun v w' => ∃ (u0 : Value) (N : Mem) (M0 : Mem), v = u0 ∧ Sep w0 w' [N, M0] Z ∧ Own Kd.u8 5 M0 Mem.no u0 r) := by
 unfold mesg_row.f at H
 refine f_enter _ Try.func88 rfl Try.ntmps88 rfl fun a h=>?_
 replace h : Fr 22 a [(0, p0_0), (1, p1_1)] := h
 replace hS := hS.start
 refine qr <| sg h rfl fun a h=>nx <| qr <| mv h rfl fun a h=>mv h rfl fun a h=>s_len h rfl U29 rfl hp1_1 fun a h=>?_
 obtain ⟨t_1, et_1, H⟩ := bs H
 refine s_call h rfl Try.call22 rfl (pack_Num.calls K x0 _ (x1.length : Int) t_1 w0 _ _ _ mr (hS.enter [] (by decide)) (hp0_0.mono (hA.trans (hS.le_zed []))) et_1) ?_
 rintro v_1 w_1 ⟨_, N_1, M_1, rfl, hS', hr_1⟩
 intro a h
 obtain ⟨N_2, hS'', le_1, ln_1⟩ := hS.call [] (by decide) rfl (l' := []) (ow := [_]) rfl hS'
 replace hS : Sep w0 w_1 [N_2, _] Z := hS''
 refine sg h rfl fun a h=>nx <| c_seq fun KJ_1 hKJ_1 => qr <| mv h rfl fun a h=>s_len h rfl U29 rfl hp1_1 fun a h=>mv h rfl fun a h=>wpList_nil <| x_then_n ?_
 have hJ_j_1 : ∀ (x_1 : List UInt8), mesg_row.J1 K x_1 = some r → ∀ (a : Act) (w_2 : World), (∃ (v_2 : Value) (N_3 : Mem) (M_2 : Mem), Fr 22 a [(0, v_2), (4, nS)] ∧ Sep w0 w_2 [N_3, Mem.no, M_2] Z ∧ N_2.le N_3 ∧ Own Kd.u8 5 M_2 Mem.no v_2 x_1) → KJ_1 a w_2 := by
  clear H h hS a
  rintro x_1 H a w_2 ⟨v_2, N_3, M_2, h, hS, le_2, ho_1⟩
  unfold mesg_row.J1 at H
  refine hKJ_1 _ _ <| qr <| mv h rfl fun a h=>sg h rfl fun a h=>wpList_nil ?_
  replace h : Fr 22 a [(4, v_2)] := h.keep [4]
  refine x_then_n <| wp_ret ?_
  obtain rfl := Option.some.inj H
  exact r1 h 4 rfl rfl ⟨_, rfl, v_2, N_3, M_2, rfl, (hS.sel [0, 2] (by decide)), ho_1⟩
 clear hKJ_1
 refine c_block <| c_loop (fun k_1 a w_3 => ∃ (x_2 : List UInt8) (x_3 : Int) (v_3 : Value) (N_4 : Mem) (M_3 : Mem), mesg_row.L1 K x1 (fun v => mesg_row.J1 K v) k_1 (x_2, x_3) = some r ∧ Fr 22 a [(0, v_3), (4, nS), (11, p1_1), (12, iV (x1.length : Int)), (13, iV x_3)] ∧ Sep w0 w_3 [N_4, Mem.no, M_3] Z ∧ N_2.le N_4 ∧ Own Kd.u8 5 M_3 Mem.no v_3 x_2) K ⟨t_1, 0, v_1, N_2, M_1, H, (h.to rfl), (hS.sel [0, 1000, 1] (by decide)), mr, hr_1⟩ (fun a w h => by obtain ⟨_, _, _, _, _, H, _⟩ := h; cases (show (none : Option ((List UInt8))) = some r from H)) ?_
 clear h hS a H
 rintro k_1 a w_3 KL_1 hKL_1 ⟨x_2, x_3, v_3, N_4, M_3, H, h, hS, le_3, ho_2⟩
 replace H : mesg_row.B1 K x1 (fun v => mesg_row.J1 K v) (mesg_row.L1 K x1 (fun v => mesg_row.J1 K v) k_1) x_2 x_3 = some r := H
 unfold mesg_row.B1 at H
 refine qr <| s_cmp (b := decide (x_3 < (x1.length : Int))) h rfl rfl rfl (.inr (.inr (.inl ⟨rfl, rfl⟩))) fun a h=>wpList_nil ?_
 replace h : Fr 22 a [(0, _), (4, _), (11, _), (12, _), (13, _), (14, .bool (decide (x_3 < (x1.length : Int))))] := h.keep [0, 4, 11, 12, 13, 14]
 refine x_then_n <| c_seq fun KJ_2 hKJ_2 => ?_
 obtain ⟨hc_1, H⟩ | ⟨hc_1, H⟩ := ii H
 ·refine c_cond_t h rfl (dt hc_1) <| wp_skip <| x_then_n (hKJ_2 _ _ ?_)
  refine wp_seq <| c_block <| wp_seq <| wp_region_lit ?_
  obtain ⟨t_2, et_2, H⟩ := bs H
  refine v_index h rfl U29 ti3 rfl rfl rfl hp1_1 (hA.trans hS.old) et_2 fun ad_1 cs_1 hk_1 hc_2 => ?_
  obtain rfl := (show cs_1 = [iV t_2] from hk_1)
  intro a h
  refine s_load h rfl rfl (el_one (o := 0) hc_2 U3 rfl rfl) fun a h=>sg h rfl fun a h=>nx <| wp_region_lit <| mv h rfl fun a h=>mv h rfl fun a h=>?_
  obtain ⟨t_3, et_3, H⟩ := bs H
  refine s_call h rfl Try.call22 rfl (pack_Num.calls K x_2 _ t_2 t_3 w0 _ _ _ mr (hS.enter [] (by decide)) (ho_2.rd (hS.own_zed [] 1 (by decide)) (Mem.no_le _)) et_3) ?_
  rintro v_4 w_4 ⟨_, N_5, M_4, rfl, hS', hr_2⟩
  intro a h
  obtain ⟨N_6, hS'', le_4, ln_2⟩ := hS.call [] (by decide) rfl (l' := []) (ow := [_]) rfl hS'
  replace hS : Sep w0 w_4 [N_6, _, _, _] Z := hS''
  refine sg h rfl fun a h=>wpList_nil <| x_block_n <| x_then_n <| wp_region_lit <| s_arith (r := w64 (x_3 + 1)) h rfl rfl rfl (.inl ⟨rfl, rfl⟩) fun a h=>mv h rfl fun a h=>wpList_nil <| x_then_n (hKL_1 _ _ ?_)
  exact ⟨t_3, w64 (x_3 + 1), v_4, N_6, M_4, H, (h.to rfl), (hS.sel [0, 1000, 3] (by decide)), (le_3.trans le_4), hr_2⟩
 ·refine c_cond_f h rfl (df hc_1) <| wp_exit (x_then_x (x_then_x (x_block_t ?_)))
  exact x_then_n (hJ_j_1 x_2 H _ _ ⟨v_3, N_4, M_3, (h.to rfl), (hS.sel [0, 1000, 2] (by decide)), le_3, ho_2⟩)

set_option maxHeartbeats 4000000 in
set_option maxRecDepth 20000 in
theorem mesg_numbers.calls (K : Nat) (g0 : Nat) (x0_b : List UInt8) (p0_0 : Value) (x0_bad : Bool) (x1 : Int) (r : (List Int) × (List UInt8) × Bool) (w0 w : World) (Z A : Mem) (hA : A.le Z) (hS : Sep w0 w [bx g0 112 [p0_0, .bool x0_bad]] Z) (hp0_0 : Rd Kd.u8 A p0_0 x0_b)
    (H : mesg_numbers.f K x0_b x0_bad x1 = some r) :
    Calls Try.prog 89 [.pointer (some ⟨g0, 0, none⟩), iV x1].toArray w (Ret fun v w' => ∃ (u0 : Value) (u1 : Value) (N : Mem) (M0 : Mem), v = u0 ∧ Sep w0 w' [N, bx g0 112 [u1, .bool r.2.2], M0] Z ∧ Own (Kd.int .i64) 3 M0 Mem.no u0 r.1 ∧ Rd Kd.u8 (A.un N) u1 r.2.1) := by
 unfold mesg_numbers.f at H
 refine f_enter _ Try.func89 rfl Try.ntmps89 rfl fun a h=>?_
 replace h : Fr 18 a [(0, .pointer (some ⟨g0, 0, none⟩)), (1, iV x1)] := h
 replace hS := hS.start
 refine qr <| sg h rfl fun a h=>nx <| qr <| sg h rfl fun a h=>nx <| c_seq fun KJ_1 hKJ_1 => wp_seq <| wp_region_lit ?_
 refine mv h rfl fun a h=>mv h rfl fun a h=>?_
 obtain ⟨t_1, et_1, H⟩ := bs H
 refine s_call h rfl Try.call55 rfl (pack_Reader_Num.calls K _ x0_b _ x0_bad x1 t_1 w0 _ _ A (hA.trans (hS.le_zed [0])) (hS.enter [0] (by decide)) hp0_0 et_1) ?_
 rintro _ w_1 ⟨v_1, N_1, rfl, hS', hr_1⟩
 intro a h
 obtain ⟨N_2, hS'', le_1, ln_1⟩ := hS.call [0] (by decide) rfl (l' := [_]) (ow := []) rfl hS'
 replace hS : Sep w0 w_1 [N_2, _] Z := hS''
 have hr_2 : Rd Kd.u8 (A.un N_2) v_1 t_1.2.1 := hr_1.mono (Mem.un_left ln_1)
 refine mv h rfl fun a h=>wpList_nil <| x_then_n ?_
 have hJ_j_1 : ∀ (x_1 : List Int), ∀ (x_2 : List UInt8), ∀ (x_3 : Bool), mesg_numbers.J1 K x_1 x_2 x_3 = some r → ∀ (a : Act) (w_2 : World), (∃ (v_2 : Value) (v_3 : Value) (N_3 : Mem) (M_1 : Mem), Fr 18 a [(4, nS), (5, v_2)] ∧ Sep w0 w_2 [N_3, bx g0 112 [v_3, .bool x_3], M_1] Z ∧ N_2.le N_3 ∧ Own (Kd.int .i64) 3 M_1 Mem.no v_2 x_1 ∧ Rd Kd.u8 (A.un N_3) v_3 x_2) → KJ_1 a w_2 := by
  clear H h hS a
  rintro x_1 x_2 x_3 H a w_2 ⟨v_2, v_3, N_3, M_1, h, hS, le_2, ho_1, hr_3⟩
  unfold mesg_numbers.J1 at H
  refine hKJ_1 _ _ <| qr <| mv h rfl fun a h=>sg h rfl fun a h=>wpList_nil ?_
  replace h : Fr 18 a [(4, v_2)] := h.keep [4]
  refine x_then_n <| wp_ret ?_
  obtain rfl := Option.some.inj H
  exact r1 h 4 rfl rfl ⟨_, rfl, v_2, v_3, N_3, M_1, rfl, (hS.sel [0, 1, 2] (by decide)), ho_1, hr_3⟩
 clear hKJ_1
 have hS' := hS.room
 replace hS : Sep w0 w_1 [_, _, Mem.no] Z := hS'
 refine c_block <| c_loop (fun k_1 a w_3 => ∃ (x_4 : List Int) (x_5 : Int) (x_6 : List UInt8) (x_7 : Bool) (v_4 : Value) (v_5 : Value) (N_4 : Mem) (M_2 : Mem), mesg_numbers.L1 K t_1 (fun v => mesg_numbers.J1 K v.1 v.2.1 v.2.2) k_1 (x_4, x_5, x_6, x_7) = some r ∧ Fr 18 a [(0, .pointer (some ⟨g0, 0, none⟩)), (4, nS), (5, v_4), (8, iV t_1.1), (9, iV x_5)] ∧ Sep w0 w_3 [N_4, bx g0 112 [v_5, .bool x_7], M_2] Z ∧ N_2.le N_4 ∧ Own (Kd.int .i64) 3 M_2 Mem.no v_4 x_4 ∧ Rd Kd.u8 (A.un N_4) v_5 x_6) K ⟨([] : List Int), 0, t_1.2.1, t_1.2.2, nS, v_1, N_2, Mem.no, H, (h.to rfl), (hS.sel [0, 1, 2] (by decide)), mr, (Own.nil (Kd.int .i64) 3 Mem.no), hr_2⟩ (fun a w h => by obtain ⟨_, _, _, _, _, _, _, _, H, _⟩ := h; cases (show (none : Option ((List Int) × (List UInt8) × Bool)) = some r from H)) ?_
 clear h hS a H
 rintro k_1 a w_3 KL_1 hKL_1 ⟨x_4, x_5, x_6, x_7, v_4, v_5, N_4, M_2, H, h, hS, le_3, ho_2, hr_4⟩
 replace H : mesg_numbers.B1 K t_1 (fun v => mesg_numbers.J1 K v.1 v.2.1 v.2.2) (mesg_numbers.L1 K t_1 (fun v => mesg_numbers.J1 K v.1 v.2.1 v.2.2) k_1) x_4 x_5 x_6 x_7 = some r := H
 unfold mesg_numbers.B1 at H
 refine qr <| s_cmp (b := decide (x_5 < t_1.1)) h rfl rfl rfl (.inr (.inr (.inl ⟨rfl, rfl⟩))) fun a h=>wpList_nil ?_
 replace h : Fr 18 a [(0, _), (4, _), (5, _), (8, _), (9, _), (10, .bool (decide (x_5 < t_1.1)))] := h.keep [0, 4, 5, 8, 9, 10]
 refine x_then_n <| c_seq fun KJ_2 hKJ_2 => ?_
 obtain ⟨hc_1, H⟩ | ⟨hc_1, H⟩ := ii H
 ·refine c_cond_t h rfl (dt hc_1) <| wp_skip <| x_then_n (hKJ_2 _ _ ?_)
  refine wp_seq <| c_block <| wp_region_lit <| mv h rfl fun a h=>mv h rfl fun a h=>?_
  obtain ⟨t_2, et_2, H⟩ := bs H
  refine s_call h rfl Try.call55 rfl (pack_Reader_Num.calls K _ x_6 _ x_7 1099511627776 t_2 w0 _ _ (A.un N_4) (Mem.un_le (hA.trans (hS.le_zed [0])) (hS.new_zed [0])) (hS.enter [0] (by decide)) hr_4 et_2) ?_
  rintro _ w_4 ⟨v_6, N_5, rfl, hS', hr_5⟩
  intro a h
  obtain ⟨N_6, hS'', le_4, ln_2⟩ := hS.call [0] (by decide) rfl (l' := [_]) (ow := []) rfl hS'
  replace hS : Sep w0 w_4 [N_6, _, _] Z := hS''
  have hr_6 : Rd Kd.u8 (A.un N_6) v_6 t_2.2.1 := hr_5.mono (Mem.un_le (Mem.un_left le_4) (ln_2.trans (hS.sndA hA)))
  have hq_1 : Reps (Kd.int .i64) Mem.no ([t_2.1] : List Int) _ := ((Reps.one (d := (Kd.int .i64)) (x := t_2.1) (show (Kd.int .i64).K _ _ [iV t_2.1] from rfl)).append (Reps.nil (Kd.int .i64) _))
  refine s_buildSlice h rfl U29 ti3 rfl rfl rfl (.cons rfl .nil) rfl rfl rfl hS hq_1 rfl fun w_5 v_7 M_3 hS' ho_3 a h => ?_
  replace hS : Sep w0 w_5 [_, _, _, M_3] Z := hS'
  obtain ⟨t_3, et_3, H⟩ := bs H
  refine s_append (J := Mem.no) (I' := Mem.no) (p := 2) 17592186044416 h rfl rfl rfl U29 ti3 rfl rfl rfl rfl hS rfl ho_2 (Src.flat (flat_int .i64) (ho_3.src (hS.own 3))) mr mr et_3 fun w_6 v_8 M_4 hS' ho_4 a h => ?_
  replace hS : Sep w0 w_6 [_, _, M_4, _] Z := hS'
  refine sg h rfl fun a h=>wpList_nil <| x_block_n <| x_then_n <| wp_region_lit <| s_arith (r := w64 (x_5 + 1)) h rfl rfl rfl (.inl ⟨rfl, rfl⟩) fun a h=>mv h rfl fun a h=>wpList_nil <| x_then_n (hKL_1 _ _ ?_)
  exact ⟨t_3, w64 (x_5 + 1), t_2.2.1, t_2.2.2, v_8, v_6, N_6, M_4, H, (h.to rfl), (hS.sel [0, 1, 2] (by decide)), (le_3.trans le_4), ho_4, hr_6⟩
 ·refine c_cond_f h rfl (df hc_1) <| wp_exit (x_then_x (x_then_x (x_block_t ?_)))
  exact x_then_n (hJ_j_1 x_4 x_6 x_7 H _ _ ⟨v_4, v_5, N_4, M_2, (h.to rfl), (hS.sel [0, 1, 2] (by decide)), le_3, ho_2, hr_4⟩)

set_option maxHeartbeats 4000000 in
set_option maxRecDepth 20000 in
theorem mesg_read.calls (K : Nat) (x0 : List UInt8) (p0_0 : Value) (r : api_Msg × Bool) (w0 w : World) (Z A : Mem) (hA : A.le Z) (hS : Sep w0 w [] Z) (hp0_0 : Rd Kd.u8 A p0_0 x0)
    (H : mesg_read.f K x0 = some r) :
    Calls Try.prog 72 [p0_0].toArray w (Ret fun v w' => ∃ (u0 : Value) (u1 : Value) (u2 : Value) (u3 : Value) (u4 : Value) (u5 : Value) (N : Mem) (M0 : Mem) (M1 : Mem) (M2 : Mem) (M3 : Mem) (M4 : Mem) (M5 : Mem), v = .tuple [.agg (E56 r.1 u0 u1 u2 u3 u4 u5).toArray, .bool r.2].toArray ∧ Sep w0 w' [N, M0, M1, M2, M3, M4, M5] Z ∧ Own Kd.u8 5 M0 Mem.no u0 r.1.Data ∧ Own (Kd.int .i64) 3 M1 Mem.no u1 r.1.Have ∧ Own (Kd.int .i64) 3 M2 Mem.no u2 r.1.Need ∧ Own Kd.u8 5 M3 Mem.no u3 r.1.Entry.Cmd.Key ∧ Own Kd.u8 5 M4 Mem.no u4 r.1.Entry.Cmd.Val ∧ Own Kd.u8 5 M5 Mem.no u5 r.1.Entry.Cmd.Old) := by
 unfold mesg_read.f at H
 refine f_enter _ Try.func72 rfl Try.ntmps72 rfl fun a h=>?_
 replace h : Fr 87 a [(0, p0_0)] := h
 replace hS := hS.start
 refine qr <| v_alloc h rfl ti56 hS fun w_1 g_1 hS' a h => ?_
 replace hS : Sep w0 w_1 [_, bx g_1 56 Q0] Z := hS'
 refine sg h rfl fun a h=>nx <| qr <| mv h rfl fun a h=>?_
 obtain ⟨t_1, et_1, H⟩ := bs H
 refine s_call h rfl Try.call54 rfl (pack_Read.calls x0 _ t_1 w0 _ _ _ mr (hS.enter [] (by decide)) (hp0_0.mono (hA.trans (hS.le_zed []))) et_1) ?_
 rintro _ w_2 ⟨g_2, v_1, N_1, rfl, hS', hr_1⟩
 intro a h
 obtain ⟨N_2, hS'', le_1, ln_1⟩ := hS.call [] (by decide) rfl (l' := []) (ow := [_]) rfl hS'
 replace hS : Sep w0 w_2 [N_2, _, _] Z := hS''
 refine sg h rfl fun a h=>nx <| qr <| mv h rfl fun a h=>?_
 obtain ⟨t_2, et_2, H⟩ := bs H
 refine s_call h rfl Try.call55 rfl (pack_Reader_Num.calls K _ t_1.1 _ t_1.2 8 t_2 w0 _ _ N_2 (hS.new_zed [1]) (hS.enter [1] (by decide)) (hr_1.mono ln_1) et_2) ?_
 rintro _ w_3 ⟨v_2, N_3, rfl, hS', hr_2⟩
 intro a h
 obtain ⟨N_4, hS'', le_2, ln_2⟩ := hS.call [1] (by decide) rfl (l' := [_]) (ow := []) rfl hS'
 replace hS : Sep w0 w_3 [N_4, _, _] Z := hS''
 refine mv h rfl fun a h=>?_
 obtain ⟨t_3, et_3, H⟩ := bs H
 refine s_call h rfl Try.call55 rfl (pack_Reader_Num.calls K _ t_2.2.1 _ t_2.2.2 6 t_3 w0 _ _ N_4 (hS.new_zed [1]) (hS.enter [1] (by decide)) (hr_2.mono (Mem.un_le le_2 ln_2)) et_3) ?_
 rintro _ w_4 ⟨v_3, N_5, rfl, hS', hr_3⟩
 intro a h
 obtain ⟨N_6, hS'', le_3, ln_3⟩ := hS.call [1] (by decide) rfl (l' := [_]) (ow := []) rfl hS'
 replace hS : Sep w0 w_4 [N_6, _, _] Z := hS''
 refine mv h rfl fun a h=>?_
 obtain ⟨t_4, et_4, H⟩ := bs H
 refine s_call h rfl Try.call55 rfl (pack_Reader_Num.calls K _ t_3.2.1 _ t_3.2.2 6 t_4 w0 _ _ N_6 (hS.new_zed [1]) (hS.enter [1] (by decide)) (hr_3.mono (Mem.un_le le_3 ln_3)) et_4) ?_
 rintro _ w_5 ⟨v_4, N_7, rfl, hS', hr_4⟩
 intro a h
 obtain ⟨N_8, hS'', le_4, ln_4⟩ := hS.call [1] (by decide) rfl (l' := [_]) (ow := []) rfl hS'
 replace hS : Sep w0 w_5 [N_8, _, _] Z := hS''
 refine mv h rfl fun a h=>?_
 obtain ⟨t_5, et_5, H⟩ := bs H
 refine s_call h rfl Try.call55 rfl (pack_Reader_Num.calls K _ t_4.2.1 _ t_4.2.2 1099511627776 t_5 w0 _ _ N_8 (hS.new_zed [1]) (hS.enter [1] (by decide)) (hr_4.mono (Mem.un_le le_4 ln_4)) et_5) ?_
 rintro _ w_6 ⟨v_5, N_9, rfl, hS', hr_5⟩
 intro a h
 obtain ⟨N_10, hS'', le_5, ln_5⟩ := hS.call [1] (by decide) rfl (l' := [_]) (ow := []) rfl hS'
 replace hS : Sep w0 w_6 [N_10, _, _] Z := hS''
 refine s_build h rfl ti56 pl56 rfl (.cons rfl (.cons rfl (.cons rfl (.cons rfl .nil)))) (cs := [iV t_2.1, iV t_3.1, iV t_4.1, iV t_5.1, iV 0, iV 0, .bool false, iV 0, iV 0, iV 0, iV 0, nS, iV 0, iV 0, nS, nS, iV 0, iV 0, iV 0, iV 0, iV 0, nS, nS, nS]) (by kernel_rfl) fun a h=>v_alloc h rfl ti56 hS fun w_7 g_3 hS' a h => ?_
 replace hS : Sep w0 w_7 [_, _, _, bx g_3 56 Q0] Z := hS'
 refine sto 3 h rfl rfl hS rfl ti56 rfl rfl rfl (oz rfl) fun w_8 hS' => ?_
 replace hS : Sep w0 w_8 [_, _, _, bx g_3 56 [iV t_2.1, iV t_3.1, iV t_4.1, iV t_5.1, _, _, _, _, _, _, _, _, _, _, _, _, _, _, _, _, _, _, _, _]] Z := hS'
 refine nx <| c_seq fun KJ_1 hKJ_1 => qr <| s_fieldAddr h rfl U56 rfl ti3 rfl rfl fun a h=>s_load h rfl rfl (hS.load_one (p := 3) rfl U3 rfl rfl) fun a h=>wpList_nil ?_
 replace h : Fr 87 a [(2, .pointer (some ⟨g_1, 0, none⟩)), (3, .bool false), (4, .pointer (some ⟨g_2, 0, none⟩)), (5, .pointer (some ⟨g_3, 0, none⟩)), (18, iV t_2.1)] := h.keep [2, 3, 4, 5, 18]
 refine x_then_n ?_
 have hJ_j_1 : ∀ (x_1 : pack_Reader), ∀ (x_2 : api_Msg), mesg_read.J1 K x_1 x_2 = some r → ∀ (a : Act) (w_9 : World), (∃ (v_6 : Value) (v_7 : Value) (v_8 : Value) (v_9 : Value) (v_10 : Value) (v_11 : Value) (v_12 : Value) (N_11 : Mem) (M_1 : Mem) (M_2 : Mem) (M_3 : Mem) (M_4 : Mem) (M_5 : Mem) (M_6 : Mem), Fr 87 a [(2, .pointer (some ⟨g_1, 0, none⟩)), (3, .bool false), (4, .pointer (some ⟨g_2, 0, none⟩)), (5, .pointer (some ⟨g_3, 0, none⟩))] ∧ Sep w0 w_9 [N_11, bx g_1 56 Q0, bx g_2 112 [v_6, .bool x_1.bad], bx g_3 56 (E56 x_2 v_7 v_8 v_9 v_10 v_11 v_12), M_1, M_2, M_3, M_4, M_5, M_6] Z ∧ N_10.le N_11 ∧ Rd Kd.u8 N_11 v_6 x_1.b ∧ Own Kd.u8 5 M_1 Mem.no v_7 x_2.Data ∧ Own (Kd.int .i64) 3 M_2 Mem.no v_8 x_2.Have ∧ Own (Kd.int .i64) 3 M_3 Mem.no v_9 x_2.Need ∧ Own Kd.u8 5 M_4 Mem.no v_10 x_2.Entry.Cmd.Key ∧ Own Kd.u8 5 M_5 Mem.no v_11 x_2.Entry.Cmd.Val ∧ Own Kd.u8 5 M_6 Mem.no v_12 x_2.Entry.Cmd.Old) → KJ_1 a w_9 := by
  clear H h hS a
  rintro x_1 x_2 H a w_9 ⟨v_6, v_7, v_8, v_9, v_10, v_11, v_12, N_11, M_1, M_2, M_3, M_4, M_5, M_6, h, hS, le_6, hr_6, ho_1, ho_2, ho_3, ho_4, ho_5, ho_6⟩
  unfold mesg_read.J1 at H
  refine hKJ_1 _ _ <| c_seq fun KJ_2 hKJ_2 => h_begin (S := fun w => Sep w0 w [N_11, Mem.no, bx g_2 112 [v_6, .bool x_1.bad], bx g_3 56 (E56 x_2 v_7 v_8 v_9 v_10 v_11 v_12), M_1, M_2, M_3, M_4, M_5, M_6] Z) 5 (by kernel_rfl) rfl (bA 5 0) (by kernel_rfl) hS fun w_10 hS => ?_
  refine t_take 0 (bA 5 1) rfl rfl rfl rfl h (hS.sub (.cons mr (.zz .ii))) (v := .agg (E56 x_2 v_7 v_8 v_9 v_10 v_11 v_12).toArray) (fun w hS => r_load h rfl (hS.load_agg (p := 3) (us := (E56 x_2 v_7 v_8 v_9 v_10 v_11 v_12)) rfl U56 rfl ti56 rfl rfl)) fun a h=>t_take 1 (bA 5 3) rfl rfl rfl rfl h (hS.sub (.cons mr (.zz .ii))) (v := .pointer (some ⟨g_2, 0, none⟩)) (fun w hS => r_move h rfl) fun a h=>?_
  refine h_event 2 (bA 5 7) rfl (by kernel_rfl) (by kernel_rfl) ?_
  obtain ⟨t_6, et_6, H⟩ := bs H
  refine s_call h rfl Try.call59 rfl (pack_Reader_End.calls _ x_1.b _ x_1.bad t_6 w0 _ _ _ mr (hS.enter [1] (by decide)) (hr_6.mono (mr.trans (hS.new_zed [1]))) et_6) ?_
  rintro _ w_11 ⟨N_12, rfl, hS'⟩
  intro a h
  obtain ⟨N_13, hS'', le_7, ln_6⟩ := hS.call [1] (by decide) rfl (l' := [_]) (ow := []) rfl hS'
  replace hS : Sep w0 w_11 [N_13, _, _, _, _, _, _, _, _, _] Z := hS''
  refine ne (hS.sub (.cons le_7 (.zz .ii))) fun hs => ?_
  refine h_event 3 (bA 5 15) rfl (by kernel_rfl) (by kernel_rfl) ?_
  refine sto 1 h rfl rfl hS rfl ti56 rfl rfl rfl (oa 11 rfl (oc ho_1.one (oa 2 rfl (oc ho_2.one (oc ho_3.one (oa 5 rfl (oc ho_4.one (oc ho_5.one (oc ho_6.one on0))))))))) fun w_12 hS' => ?_
  replace hS : Sep w0 w_12 [_, bx g_1 56 (E56 x_2 v_7 v_8 v_9 v_10 v_11 v_12), _, _, _, _, _, _, _, _] Z := hS'
  refine ne (hS.sub (.cons le_7 (.zz .ii))) fun hs => ?_
  refine t_take 4 (bA 5 31) rfl rfl rfl rfl h hs (v := .bool t_6) (fun w hS => r_assign h rfl) fun a h=>h_done (by kernel_rfl) <| x_then_n (hKJ_2 _ _ ?_)
  refine wp_ret ?_
  obtain rfl := Option.some.inj H
  exact f_ret h (rs := [.cell 2 56, .tmp 3]) rfl (.cell rfl (hS.load_agg (p := 1) (us := (E56 x_2 v_7 v_8 v_9 v_10 v_11 v_12)) rfl U56 rfl ti56 rfl rfl) (.tmp rfl .nil)) ⟨_, rfl, v_7, v_8, v_9, v_10, v_11, v_12, N_13, M_1, M_2, M_3, M_4, M_5, M_6, rfl, (hS.sel [0, 4, 5, 6, 7, 8, 9] (by decide)), ho_1, ho_2, ho_3, ho_4, ho_5, ho_6⟩
 clear hKJ_1
 refine c_block <| c_seq fun KJ_3 hKJ_3 => qr <| s_cmp (b := (t_2.1 == 1)) h rfl rfl rfl (.inl ⟨rfl, rfl⟩) fun a h=>sg h rfl fun a h=>wpList_nil <| x_then_n ?_
 have hJ_j_2 : ∀ (x_3 : Bool), mesg_read.J2 K t_5 t_2 t_3 t_4 x_3 = some r → ∀ (a : Act) (w_13 : World), (∃ (N_14 : Mem), Fr 87 a [(2, .pointer (some ⟨g_1, 0, none⟩)), (3, .bool false), (4, .pointer (some ⟨g_2, 0, none⟩)), (5, .pointer (some ⟨g_3, 0, none⟩)), (18, iV t_2.1), (20, .bool x_3)] ∧ Sep w0 w_13 [N_14, bx g_1 56 Q0, bx g_2 112 [v_5, .bool t_5.2.2], bx g_3 56 [iV t_2.1, iV t_3.1, iV t_4.1, iV t_5.1, iV 0, iV 0, .bool false, iV 0, iV 0, iV 0, iV 0, nS, iV 0, iV 0, nS, nS, iV 0, iV 0, iV 0, iV 0, iV 0, nS, nS, nS]] Z ∧ N_10.le N_14) → KJ_3 a w_13 := by
  clear H h hS a
  rintro x_3 H a w_13 ⟨N_14, h, hS, le_8⟩
  unfold mesg_read.J2 at H
  refine hKJ_3 _ _ ?_
  obtain ⟨hc_1, H⟩ | ⟨hc_1, H⟩ := ii H
  ·refine c_cond_t h rfl hc_1 <| wp_skip <| x_block_n ?_
   have hS' := hS.room
   replace hS : Sep w0 w_13 [_, _, _, _, Mem.no] Z := hS'
   have hS' := hS.room
   replace hS : Sep w0 w_13 [_, _, _, _, _, Mem.no] Z := hS'
   have hS' := hS.room
   replace hS : Sep w0 w_13 [_, _, _, _, _, _, Mem.no] Z := hS'
   have hS' := hS.room
   replace hS : Sep w0 w_13 [_, _, _, _, _, _, _, Mem.no] Z := hS'
   have hS' := hS.room
   replace hS : Sep w0 w_13 [_, _, _, _, _, _, _, _, Mem.no] Z := hS'
   have hS' := hS.room
   replace hS : Sep w0 w_13 [_, _, _, _, _, _, _, _, _, Mem.no] Z := hS'
   exact x_then_n (hJ_j_1 (⟨t_5.2.1, t_5.2.2⟩ : pack_Reader) (⟨t_2.1, t_3.1, t_4.1, t_5.1, 0, 0, false, 0, 0, 0, 0, ([] : List UInt8), 0, 0, ([] : List Int), ([] : List Int), 0, (⟨0, 0, (⟨0, 0, ([] : List UInt8), ([] : List UInt8), ([] : List UInt8)⟩ : api_Cmd)⟩ : api_Entry)⟩ : api_Msg) H _ _ ⟨v_5, nS, nS, nS, nS, nS, nS, N_14, Mem.no, Mem.no, Mem.no, Mem.no, Mem.no, Mem.no, (h.to rfl), (hS.sel [0, 1, 2, 3, 4, 5, 6, 7, 8, 9] (by decide)), le_8, ((hr_5.mono (Mem.un_le le_5 ln_5)).mono le_8), (Own.nil Kd.u8 5 Mem.no), (Own.nil (Kd.int .i64) 3 Mem.no), (Own.nil (Kd.int .i64) 3 Mem.no), (Own.nil Kd.u8 5 Mem.no), (Own.nil Kd.u8 5 Mem.no), (Own.nil Kd.u8 5 Mem.no)⟩)
  ·refine c_cond_f h rfl (ef hc_1) <| qr <| s_cmp (b := (t_2.1 == 2)) h rfl rfl rfl (.inl ⟨rfl, rfl⟩) fun a h=>sg h rfl fun a h=>wpList_nil <| x_then_n ?_
   obtain ⟨hc_2, H⟩ | ⟨hc_2, H⟩ := ii H
   ·refine c_cond_t h rfl (bt hc_2) <| wp_region_lit <| mv h rfl fun a h=>?_
    obtain ⟨t_7, et_7, H⟩ := bs H
    refine s_call h rfl Try.call55 rfl (pack_Reader_Num.calls K _ t_5.2.1 _ t_5.2.2 1099511627776 t_7 w0 _ _ N_14 (hS.new_zed [1]) (hS.enter [1] (by decide)) ((hr_5.mono (Mem.un_le le_5 ln_5)).mono le_8) et_7) ?_
    rintro _ w_14 ⟨v_13, N_15, rfl, hS', hr_7⟩
    intro a h
    obtain ⟨N_16, hS'', le_9, ln_7⟩ := hS.call [1] (by decide) rfl (l' := [_]) (ow := []) rfl hS'
    replace hS : Sep w0 w_14 [N_16, _, _, _] Z := hS''
    refine mv h rfl fun a h=>?_
    obtain ⟨t_8, et_8, H⟩ := bs H
    refine s_call h rfl Try.call55 rfl (pack_Reader_Num.calls K _ t_7.2.1 _ t_7.2.2 1099511627776 t_8 w0 _ _ N_16 (hS.new_zed [1]) (hS.enter [1] (by decide)) (hr_7.mono (Mem.un_le le_9 ln_7)) et_8) ?_
    rintro _ w_15 ⟨v_14, N_17, rfl, hS', hr_8⟩
    intro a h
    obtain ⟨N_18, hS'', le_10, ln_8⟩ := hS.call [1] (by decide) rfl (l' := [_]) (ow := []) rfl hS'
    replace hS : Sep w0 w_15 [N_18, _, _, _] Z := hS''
    refine mv h rfl fun a h=>?_
    obtain ⟨t_9, et_9, H⟩ := bs H
    refine s_call h rfl Try.call55 rfl (pack_Reader_Num.calls K _ t_8.2.1 _ t_8.2.2 1 t_9 w0 _ _ N_18 (hS.new_zed [1]) (hS.enter [1] (by decide)) (hr_8.mono (Mem.un_le le_10 ln_8)) et_9) ?_
    rintro _ w_16 ⟨v_15, N_19, rfl, hS', hr_9⟩
    intro a h
    obtain ⟨N_20, hS'', le_11, ln_9⟩ := hS.call [1] (by decide) rfl (l' := [_]) (ow := []) rfl hS'
    replace hS : Sep w0 w_16 [N_20, _, _, _] Z := hS''
    refine s_cmp (b := (t_9.1 == 1)) h rfl rfl rfl (.inl ⟨rfl, rfl⟩) fun a h=>s_fieldAddr h rfl U56 rfl ti3 rfl rfl fun a h=>?_
    refine sto 3 h rfl rfl hS rfl ti3 rfl rfl rfl (oz rfl) fun w_17 hS' => ?_
    replace hS : Sep w0 w_17 [_, _, _, bx g_3 56 [_, _, _, _, iV t_7.1, _, _, _, _, _, _, _, _, _, _, _, _, _, _, _, _, _, _, _]] Z := hS'
    refine s_fieldAddr h rfl U56 rfl ti3 rfl rfl fun a h=>?_
    refine sto 3 h rfl rfl hS rfl ti3 rfl rfl rfl (oz rfl) fun w_18 hS' => ?_
    replace hS : Sep w0 w_18 [_, _, _, bx g_3 56 [_, _, _, _, _, iV t_8.1, _, _, _, _, _, _, _, _, _, _, _, _, _, _, _, _, _, _]] Z := hS'
    refine s_fieldAddr h rfl U56 rfl ti4 rfl rfl fun a h=>?_
    refine sto 3 h rfl rfl hS rfl ti4 rfl rfl rfl (oz rfl) fun w_19 hS' => ?_
    replace hS : Sep w0 w_19 [_, _, _, bx g_3 56 [_, _, _, _, _, _, .bool (t_9.1 == 1), _, _, _, _, _, _, _, _, _, _, _, _, _, _, _, _, _]] Z := hS'
    refine wpList_nil <| x_block_n ?_
    have hS' := hS.room
    replace hS : Sep w0 w_19 [_, _, _, _, Mem.no] Z := hS'
    have hS' := hS.room
    replace hS : Sep w0 w_19 [_, _, _, _, _, Mem.no] Z := hS'
    have hS' := hS.room
    replace hS : Sep w0 w_19 [_, _, _, _, _, _, Mem.no] Z := hS'
    have hS' := hS.room
    replace hS : Sep w0 w_19 [_, _, _, _, _, _, _, Mem.no] Z := hS'
    have hS' := hS.room
    replace hS : Sep w0 w_19 [_, _, _, _, _, _, _, _, Mem.no] Z := hS'
    have hS' := hS.room
    replace hS : Sep w0 w_19 [_, _, _, _, _, _, _, _, _, Mem.no] Z := hS'
    exact x_then_n (hJ_j_1 (⟨t_9.2.1, t_9.2.2⟩ : pack_Reader) (⟨t_2.1, t_3.1, t_4.1, t_5.1, t_7.1, t_8.1, (t_9.1 == 1), 0, 0, 0, 0, ([] : List UInt8), 0, 0, ([] : List Int), ([] : List Int), 0, (⟨0, 0, (⟨0, 0, ([] : List UInt8), ([] : List UInt8), ([] : List UInt8)⟩ : api_Cmd)⟩ : api_Entry)⟩ : api_Msg) H _ _ ⟨v_15, nS, nS, nS, nS, nS, nS, N_20, Mem.no, Mem.no, Mem.no, Mem.no, Mem.no, Mem.no, (h.to rfl), (hS.sel [0, 1, 2, 3, 4, 5, 6, 7, 8, 9] (by decide)), (le_8.trans (le_9.trans (le_10.trans le_11))), (hr_9.mono (Mem.un_le le_11 ln_9)), (Own.nil Kd.u8 5 Mem.no), (Own.nil (Kd.int .i64) 3 Mem.no), (Own.nil (Kd.int .i64) 3 Mem.no), (Own.nil Kd.u8 5 Mem.no), (Own.nil Kd.u8 5 Mem.no), (Own.nil Kd.u8 5 Mem.no)⟩)
   ·refine c_cond_f h rfl (bf hc_2) <| qr <| s_cmp (b := (t_2.1 == 3)) h rfl rfl rfl (.inl ⟨rfl, rfl⟩) fun a h=>sg h rfl fun a h=>wpList_nil <| x_then_n ?_
    obtain ⟨hc_3, H⟩ | ⟨hc_3, H⟩ := ii H
    ·refine c_cond_t h rfl (bt hc_3) <| wp_region_lit <| mv h rfl fun a h=>?_
     obtain ⟨t_10, et_10, H⟩ := bs H
     refine s_call h rfl Try.call55 rfl (pack_Reader_Num.calls K _ t_5.2.1 _ t_5.2.2 127 t_10 w0 _ _ N_14 (hS.new_zed [1]) (hS.enter [1] (by decide)) ((hr_5.mono (Mem.un_le le_5 ln_5)).mono le_8) et_10) ?_
     rintro _ w_20 ⟨v_16, N_21, rfl, hS', hr_10⟩
     intro a h
     obtain ⟨N_22, hS'', le_12, ln_10⟩ := hS.call [1] (by decide) rfl (l' := [_]) (ow := []) rfl hS'
     replace hS : Sep w0 w_20 [N_22, _, _, _] Z := hS''
     refine mv h rfl fun a h=>?_
     obtain ⟨t_11, et_11, H⟩ := bs H
     refine s_call h rfl Try.call55 rfl (pack_Reader_Num.calls K _ t_10.2.1 _ t_10.2.2 6 t_11 w0 _ _ N_22 (hS.new_zed [1]) (hS.enter [1] (by decide)) (hr_10.mono (Mem.un_le le_12 ln_10)) et_11) ?_
     rintro _ w_21 ⟨v_17, N_23, rfl, hS', hr_11⟩
     intro a h
     obtain ⟨N_24, hS'', le_13, ln_11⟩ := hS.call [1] (by decide) rfl (l' := [_]) (ow := []) rfl hS'
     replace hS : Sep w0 w_21 [N_24, _, _, _] Z := hS''
     refine mv h rfl fun a h=>?_
     obtain ⟨t_12, et_12, H⟩ := bs H
     refine s_call h rfl Try.call55 rfl (pack_Reader_Num.calls K _ t_11.2.1 _ t_11.2.2 1099511627776 t_12 w0 _ _ N_24 (hS.new_zed [1]) (hS.enter [1] (by decide)) (hr_11.mono (Mem.un_le le_13 ln_11)) et_12) ?_
     rintro _ w_22 ⟨v_18, N_25, rfl, hS', hr_12⟩
     intro a h
     obtain ⟨N_26, hS'', le_14, ln_12⟩ := hS.call [1] (by decide) rfl (l' := [_]) (ow := []) rfl hS'
     replace hS : Sep w0 w_22 [N_26, _, _, _] Z := hS''
     refine s_fieldAddr h rfl U56 rfl ti3 rfl rfl fun a h=>?_
     refine sto 3 h rfl rfl hS rfl ti3 rfl rfl rfl (oz rfl) fun w_23 hS' => ?_
     replace hS : Sep w0 w_23 [_, _, _, bx g_3 56 [_, _, _, _, _, _, _, iV t_10.1, _, _, _, _, _, _, _, _, _, _, _, _, _, _, _, _]] Z := hS'
     refine s_fieldAddr h rfl U56 rfl ti3 rfl rfl fun a h=>?_
     refine sto 3 h rfl rfl hS rfl ti3 rfl rfl rfl (oz rfl) fun w_24 hS' => ?_
     replace hS : Sep w0 w_24 [_, _, _, bx g_3 56 [_, _, _, _, _, _, _, _, iV t_11.1, _, _, _, _, _, _, _, _, _, _, _, _, _, _, _]] Z := hS'
     refine s_fieldAddr h rfl U56 rfl ti3 rfl rfl fun a h=>?_
     refine sto 3 h rfl rfl hS rfl ti3 rfl rfl rfl (oz rfl) fun w_25 hS' => ?_
     replace hS : Sep w0 w_25 [_, _, _, bx g_3 56 [_, _, _, _, _, iV t_12.1, _, _, _, _, _, _, _, _, _, _, _, _, _, _, _, _, _, _]] Z := hS'
     refine wpList_nil ?_
     replace h : Fr 87 a [(2, _), (3, _), (4, _), (5, _)] := h.keep [2, 3, 4, 5]
     refine x_block_n ?_
     have hS' := hS.room
     replace hS : Sep w0 w_25 [_, _, _, _, Mem.no] Z := hS'
     have hS' := hS.room
     replace hS : Sep w0 w_25 [_, _, _, _, _, Mem.no] Z := hS'
     have hS' := hS.room
     replace hS : Sep w0 w_25 [_, _, _, _, _, _, Mem.no] Z := hS'
     have hS' := hS.room
     replace hS : Sep w0 w_25 [_, _, _, _, _, _, _, Mem.no] Z := hS'
     have hS' := hS.room
     replace hS : Sep w0 w_25 [_, _, _, _, _, _, _, _, Mem.no] Z := hS'
     have hS' := hS.room
     replace hS : Sep w0 w_25 [_, _, _, _, _, _, _, _, _, Mem.no] Z := hS'
     exact x_then_n (hJ_j_1 (⟨t_12.2.1, t_12.2.2⟩ : pack_Reader) (⟨t_2.1, t_3.1, t_4.1, t_5.1, 0, t_12.1, false, t_10.1, t_11.1, 0, 0, ([] : List UInt8), 0, 0, ([] : List Int), ([] : List Int), 0, (⟨0, 0, (⟨0, 0, ([] : List UInt8), ([] : List UInt8), ([] : List UInt8)⟩ : api_Cmd)⟩ : api_Entry)⟩ : api_Msg) H _ _ ⟨v_18, nS, nS, nS, nS, nS, nS, N_26, Mem.no, Mem.no, Mem.no, Mem.no, Mem.no, Mem.no, (h.to rfl), (hS.sel [0, 1, 2, 3, 4, 5, 6, 7, 8, 9] (by decide)), (le_8.trans (le_12.trans (le_13.trans le_14))), (hr_12.mono (Mem.un_le le_14 ln_12)), (Own.nil Kd.u8 5 Mem.no), (Own.nil (Kd.int .i64) 3 Mem.no), (Own.nil (Kd.int .i64) 3 Mem.no), (Own.nil Kd.u8 5 Mem.no), (Own.nil Kd.u8 5 Mem.no), (Own.nil Kd.u8 5 Mem.no)⟩)
    ·refine c_cond_f h rfl (bf hc_3) <| qr <| s_cmp (b := (t_2.1 == 4)) h rfl rfl rfl (.inl ⟨rfl, rfl⟩) fun a h=>sg h rfl fun a h=>wpList_nil ?_
     replace h : Fr 87 a [(2, _), (3, _), (4, _), (5, _), (18, _), (46, .bool (t_2.1 == 4))] := h.keep [2, 3, 4, 5, 18, 46]
     refine x_then_n ?_
     obtain ⟨hc_4, H⟩ | ⟨hc_4, H⟩ := ii H
     ·refine c_cond_t h rfl (bt hc_4) <| wp_region_lit <| mv h rfl fun a h=>?_
      obtain ⟨t_13, et_13, H⟩ := bs H
      refine s_call h rfl Try.call55 rfl (pack_Reader_Num.calls K _ t_5.2.1 _ t_5.2.2 1099511627776 t_13 w0 _ _ N_14 (hS.new_zed [1]) (hS.enter [1] (by decide)) ((hr_5.mono (Mem.un_le le_5 ln_5)).mono le_8) et_13) ?_
      rintro _ w_26 ⟨v_19, N_27, rfl, hS', hr_13⟩
      intro a h
      obtain ⟨N_28, hS'', le_15, ln_13⟩ := hS.call [1] (by decide) rfl (l' := [_]) (ow := []) rfl hS'
      replace hS : Sep w0 w_26 [N_28, _, _, _] Z := hS''
      refine s_fieldAddr h rfl U56 rfl ti3 rfl rfl fun a h=>?_
      refine sto 3 h rfl rfl hS rfl ti3 rfl rfl rfl (oz rfl) fun w_27 hS' => ?_
      replace hS : Sep w0 w_27 [_, _, _, bx g_3 56 [_, _, _, _, _, _, _, _, _, iV t_13.1, _, _, _, _, _, _, _, _, _, _, _, _, _, _]] Z := hS'
      refine wpList_nil <| x_block_n ?_
      have hS' := hS.room
      replace hS : Sep w0 w_27 [_, _, _, _, Mem.no] Z := hS'
      have hS' := hS.room
      replace hS : Sep w0 w_27 [_, _, _, _, _, Mem.no] Z := hS'
      have hS' := hS.room
      replace hS : Sep w0 w_27 [_, _, _, _, _, _, Mem.no] Z := hS'
      have hS' := hS.room
      replace hS : Sep w0 w_27 [_, _, _, _, _, _, _, Mem.no] Z := hS'
      have hS' := hS.room
      replace hS : Sep w0 w_27 [_, _, _, _, _, _, _, _, Mem.no] Z := hS'
      have hS' := hS.room
      replace hS : Sep w0 w_27 [_, _, _, _, _, _, _, _, _, Mem.no] Z := hS'
      exact x_then_n (hJ_j_1 (⟨t_13.2.1, t_13.2.2⟩ : pack_Reader) (⟨t_2.1, t_3.1, t_4.1, t_5.1, 0, 0, false, 0, 0, t_13.1, 0, ([] : List UInt8), 0, 0, ([] : List Int), ([] : List Int), 0, (⟨0, 0, (⟨0, 0, ([] : List UInt8), ([] : List UInt8), ([] : List UInt8)⟩ : api_Cmd)⟩ : api_Entry)⟩ : api_Msg) H _ _ ⟨v_19, nS, nS, nS, nS, nS, nS, N_28, Mem.no, Mem.no, Mem.no, Mem.no, Mem.no, Mem.no, (h.to rfl), (hS.sel [0, 1, 2, 3, 4, 5, 6, 7, 8, 9] (by decide)), (le_8.trans le_15), (hr_13.mono (Mem.un_le le_15 ln_13)), (Own.nil Kd.u8 5 Mem.no), (Own.nil (Kd.int .i64) 3 Mem.no), (Own.nil (Kd.int .i64) 3 Mem.no), (Own.nil Kd.u8 5 Mem.no), (Own.nil Kd.u8 5 Mem.no), (Own.nil Kd.u8 5 Mem.no)⟩)
     ·refine c_cond_f h rfl (bf hc_4) <| qr <| s_cmp (b := (t_2.1 == 5)) h rfl rfl rfl (.inl ⟨rfl, rfl⟩) fun a h=>sg h rfl fun a h=>wpList_nil <| x_then_n ?_
      obtain ⟨hc_5, H⟩ | ⟨hc_5, H⟩ := ii H
      ·refine c_cond_t h rfl (bt hc_5) <| wp_region_lit <| mv h rfl fun a h=>?_
       obtain ⟨t_14, et_14, H⟩ := bs H
       refine s_call h rfl Try.call55 rfl (pack_Reader_Num.calls K _ t_5.2.1 _ t_5.2.2 1099511627776 t_14 w0 _ _ N_14 (hS.new_zed [1]) (hS.enter [1] (by decide)) ((hr_5.mono (Mem.un_le le_5 ln_5)).mono le_8) et_14) ?_
       rintro _ w_28 ⟨v_20, N_29, rfl, hS', hr_14⟩
       intro a h
       obtain ⟨N_30, hS'', le_16, ln_14⟩ := hS.call [1] (by decide) rfl (l' := [_]) (ow := []) rfl hS'
       replace hS : Sep w0 w_28 [N_30, _, _, _] Z := hS''
       refine mv h rfl fun a h=>?_
       obtain ⟨t_15, et_15, H⟩ := bs H
       refine s_call h rfl Try.call55 rfl (pack_Reader_Num.calls K _ t_14.2.1 _ t_14.2.2 1099511627776 t_15 w0 _ _ N_30 (hS.new_zed [1]) (hS.enter [1] (by decide)) (hr_14.mono (Mem.un_le le_16 ln_14)) et_15) ?_
       rintro _ w_29 ⟨v_21, N_31, rfl, hS', hr_15⟩
       intro a h
       obtain ⟨N_32, hS'', le_17, ln_15⟩ := hS.call [1] (by decide) rfl (l' := [_]) (ow := []) rfl hS'
       replace hS : Sep w0 w_29 [N_32, _, _, _] Z := hS''
       refine mv h rfl fun a h=>?_
       obtain ⟨t_16, et_16, H⟩ := bs H
       refine s_call h rfl Try.call57 rfl (pack_Reader_Bytes.calls K _ t_15.2.1 _ t_15.2.2 64 t_16 w0 _ _ N_32 (hS.new_zed [1]) (hS.enter [1] (by decide)) (hr_15.mono (Mem.un_le le_17 ln_15)) et_16) ?_
       rintro v_22 w_30 ⟨_, v_23, N_33, M_7, rfl, hS', hr_16, hr_17⟩
       intro a h
       obtain ⟨N_34, hS'', le_18, ln_16⟩ := hS.call [1] (by decide) rfl (l' := [_]) (ow := [_]) rfl hS'
       replace hS : Sep w0 w_30 [N_34, _, _, _, _] Z := hS''
       refine s_fieldAddr h rfl U56 rfl ti3 rfl rfl fun a h=>?_
       refine sto 3 h rfl rfl hS rfl ti3 rfl rfl rfl (oz rfl) fun w_31 hS' => ?_
       replace hS : Sep w0 w_31 [_, _, _, bx g_3 56 [_, _, _, _, _, _, _, _, _, iV t_14.1, _, _, _, _, _, _, _, _, _, _, _, _, _, _], _] Z := hS'
       refine s_fieldAddr h rfl U56 rfl ti3 rfl rfl fun a h=>?_
       refine sto 3 h rfl rfl hS rfl ti3 rfl rfl rfl (oz rfl) fun w_32 hS' => ?_
       replace hS : Sep w0 w_32 [_, _, _, bx g_3 56 [_, _, _, _, _, _, _, _, _, _, iV t_15.1, _, _, _, _, _, _, _, _, _, _, _, _, _], _] Z := hS'
       refine s_fieldAddr h rfl U56 rfl ti22 rfl rfl fun a h=>?_
       refine sto 3 h rfl rfl hS rfl ti22 hr_16.cellsA rfl rfl (oc hr_16.one on0) fun w_33 hS' => ?_
       replace hS : Sep w0 w_33 [_, _, _, bx g_3 56 [_, _, _, _, _, _, _, _, _, _, _, v_22, _, _, _, _, _, _, _, _, _, _, _, _], _] Z := hS'
       refine wpList_nil <| x_block_n ?_
       have hS' := hS.room
       replace hS : Sep w0 w_33 [_, _, _, _, _, Mem.no] Z := hS'
       have hS' := hS.room
       replace hS : Sep w0 w_33 [_, _, _, _, _, _, Mem.no] Z := hS'
       have hS' := hS.room
       replace hS : Sep w0 w_33 [_, _, _, _, _, _, _, Mem.no] Z := hS'
       have hS' := hS.room
       replace hS : Sep w0 w_33 [_, _, _, _, _, _, _, _, Mem.no] Z := hS'
       have hS' := hS.room
       replace hS : Sep w0 w_33 [_, _, _, _, _, _, _, _, _, Mem.no] Z := hS'
       exact x_then_n (hJ_j_1 (⟨t_16.2.1, t_16.2.2⟩ : pack_Reader) (⟨t_2.1, t_3.1, t_4.1, t_5.1, 0, 0, false, 0, 0, t_14.1, t_15.1, t_16.1, 0, 0, ([] : List Int), ([] : List Int), 0, (⟨0, 0, (⟨0, 0, ([] : List UInt8), ([] : List UInt8), ([] : List UInt8)⟩ : api_Cmd)⟩ : api_Entry)⟩ : api_Msg) H _ _ ⟨v_23, v_22, nS, nS, nS, nS, nS, N_34, M_7, Mem.no, Mem.no, Mem.no, Mem.no, Mem.no, (h.to rfl), (hS.sel [0, 1, 2, 3, 4, 5, 6, 7, 8, 9] (by decide)), (le_8.trans (le_16.trans (le_17.trans le_18))), (hr_17.mono (Mem.un_le le_18 ln_16)), hr_16, (Own.nil (Kd.int .i64) 3 Mem.no), (Own.nil (Kd.int .i64) 3 Mem.no), (Own.nil Kd.u8 5 Mem.no), (Own.nil Kd.u8 5 Mem.no), (Own.nil Kd.u8 5 Mem.no)⟩)
      ·refine c_cond_f h rfl (bf hc_5) <| qr <| s_cmp (b := (t_2.1 == 7)) h rfl rfl rfl (.inl ⟨rfl, rfl⟩) fun a h=>sg h rfl fun a h=>wpList_nil <| x_then_n ?_
       obtain ⟨hc_6, H⟩ | ⟨hc_6, H⟩ := ii H
       ·refine c_cond_t h rfl (bt hc_6) <| qr <| mv h rfl fun a h=>?_
        obtain ⟨t_17, et_17, H⟩ := bs H
        refine s_call h rfl Try.call55 rfl (pack_Reader_Num.calls K _ t_5.2.1 _ t_5.2.2 1099511627776 t_17 w0 _ _ N_14 (hS.new_zed [1]) (hS.enter [1] (by decide)) ((hr_5.mono (Mem.un_le le_5 ln_5)).mono le_8) et_17) ?_
        rintro _ w_34 ⟨v_24, N_35, rfl, hS', hr_18⟩
        intro a h
        obtain ⟨N_36, hS'', le_19, ln_17⟩ := hS.call [1] (by decide) rfl (l' := [_]) (ow := []) rfl hS'
        replace hS : Sep w0 w_34 [N_36, _, _, _] Z := hS''
        refine mv h rfl fun a h=>?_
        obtain ⟨t_18, et_18, H⟩ := bs H
        refine s_call h rfl Try.call55 rfl (pack_Reader_Num.calls K _ t_17.2.1 _ t_17.2.2 1099511627776 t_18 w0 _ _ N_36 (hS.new_zed [1]) (hS.enter [1] (by decide)) (hr_18.mono (Mem.un_le le_19 ln_17)) et_18) ?_
        rintro _ w_35 ⟨v_25, N_37, rfl, hS', hr_19⟩
        intro a h
        obtain ⟨N_38, hS'', le_20, ln_18⟩ := hS.call [1] (by decide) rfl (l' := [_]) (ow := []) rfl hS'
        replace hS : Sep w0 w_35 [N_38, _, _, _] Z := hS''
        refine s_fieldAddr h rfl U56 rfl ti3 rfl rfl fun a h=>?_
        refine sto 3 h rfl rfl hS rfl ti3 rfl rfl rfl (oz rfl) fun w_36 hS' => ?_
        replace hS : Sep w0 w_36 [_, _, _, bx g_3 56 [_, _, _, _, _, _, _, _, _, _, _, _, iV t_17.1, _, _, _, _, _, _, _, _, _, _, _]] Z := hS'
        refine s_fieldAddr h rfl U56 rfl ti3 rfl rfl fun a h=>?_
        refine sto 3 h rfl rfl hS rfl ti3 rfl rfl rfl (oz rfl) fun w_37 hS' => ?_
        replace hS : Sep w0 w_37 [_, _, _, bx g_3 56 [_, _, _, _, _, _, _, _, _, _, _, _, _, iV t_18.1, _, _, _, _, _, _, _, _, _, _]] Z := hS'
        refine nx <| wp_region_lit <| mv h rfl fun a h=>?_
        obtain ⟨t_19, et_19, H⟩ := bs H
        refine s_call h rfl Try.call89 rfl (mesg_numbers.calls K _ t_18.2.1 _ t_18.2.2 7 t_19 w0 _ _ N_38 (hS.new_zed [1]) (hS.enter [1] (by decide)) (hr_19.mono (Mem.un_le le_20 ln_18)) et_19) ?_
        rintro v_26 w_38 ⟨_, v_27, N_39, M_8, rfl, hS', hr_20, hr_21⟩
        intro a h
        obtain ⟨N_40, hS'', le_21, ln_19⟩ := hS.call [1] (by decide) rfl (l' := [_]) (ow := [_]) rfl hS'
        replace hS : Sep w0 w_38 [N_40, _, _, _, _] Z := hS''
        refine mv h rfl fun a h=>?_
        obtain ⟨t_20, et_20, H⟩ := bs H
        refine s_call h rfl Try.call89 rfl (mesg_numbers.calls K _ t_19.2.1 _ t_19.2.2 8 t_20 w0 _ _ N_40 (hS.new_zed [1]) (hS.enter [1] (by decide)) (hr_21.mono (Mem.un_le le_21 ln_19)) et_20) ?_
        rintro v_28 w_39 ⟨_, v_29, N_41, M_9, rfl, hS', hr_22, hr_23⟩
        intro a h
        obtain ⟨N_42, hS'', le_22, ln_20⟩ := hS.call [1] (by decide) rfl (l' := [_]) (ow := [_]) rfl hS'
        replace hS : Sep w0 w_39 [N_42, _, _, _, _, _] Z := hS''
        refine s_fieldAddr h rfl U56 rfl ti29 rfl rfl fun a h=>?_
        refine sto 3 h rfl rfl hS rfl ti29 hr_20.cellsA rfl rfl (oc hr_20.one on0) fun w_40 hS' => ?_
        replace hS : Sep w0 w_40 [_, _, _, bx g_3 56 [_, _, _, _, _, _, _, _, _, _, _, _, _, _, v_26, _, _, _, _, _, _, _, _, _], _, _] Z := hS'
        refine s_fieldAddr h rfl U56 rfl ti29 rfl rfl fun a h=>?_
        refine sto 3 h rfl rfl hS rfl ti29 hr_22.cellsA rfl rfl (oc hr_22.one on0) fun w_41 hS' => ?_
        replace hS : Sep w0 w_41 [_, _, _, bx g_3 56 [_, _, _, _, _, _, _, _, _, _, _, _, _, _, _, v_28, _, _, _, _, _, _, _, _], _, _] Z := hS'
        refine wpList_nil ?_
        replace h : Fr 87 a [(2, _), (3, _), (4, _), (5, _)] := h.keep [2, 3, 4, 5]
        refine x_block_n ?_
        have hS' := hS.room
        replace hS : Sep w0 w_41 [_, _, _, _, _, _, Mem.no] Z := hS'
        have hS' := hS.room
        replace hS : Sep w0 w_41 [_, _, _, _, _, _, _, Mem.no] Z := hS'
        have hS' := hS.room
        replace hS : Sep w0 w_41 [_, _, _, _, _, _, _, _, Mem.no] Z := hS'
        have hS' := hS.room
        replace hS : Sep w0 w_41 [_, _, _, _, _, _, _, _, _, Mem.no] Z := hS'
        exact x_then_n (hJ_j_1 (⟨t_20.2.1, t_20.2.2⟩ : pack_Reader) (⟨t_2.1, t_3.1, t_4.1, t_5.1, 0, 0, false, 0, 0, 0, 0, ([] : List UInt8), t_17.1, t_18.1, t_19.1, t_20.1, 0, (⟨0, 0, (⟨0, 0, ([] : List UInt8), ([] : List UInt8), ([] : List UInt8)⟩ : api_Cmd)⟩ : api_Entry)⟩ : api_Msg) H _ _ ⟨v_29, nS, v_26, v_28, nS, nS, nS, N_42, Mem.no, M_8, M_9, Mem.no, Mem.no, Mem.no, (h.to rfl), (hS.sel [0, 1, 2, 3, 6, 4, 5, 7, 8, 9] (by decide)), (le_8.trans (le_19.trans (le_20.trans (le_21.trans le_22)))), (hr_23.mono (Mem.un_le le_22 ln_20)), (Own.nil Kd.u8 5 Mem.no), hr_20, hr_22, (Own.nil Kd.u8 5 Mem.no), (Own.nil Kd.u8 5 Mem.no), (Own.nil Kd.u8 5 Mem.no)⟩)
       ·refine c_cond_f h rfl (bf hc_6) <| qr <| s_cmp (b := (t_2.1 == 8)) h rfl rfl rfl (.inl ⟨rfl, rfl⟩) fun a h=>sg h rfl fun a h=>wpList_nil <| x_then_n ?_
        obtain ⟨hc_7, H⟩ | ⟨hc_7, H⟩ := ii H
        ·refine c_cond_t h rfl (bt hc_7) <| wp_region_lit <| mv h rfl fun a h=>?_
         obtain ⟨t_21, et_21, H⟩ := bs H
         refine s_call h rfl Try.call55 rfl (pack_Reader_Num.calls K _ t_5.2.1 _ t_5.2.2 1099511627776 t_21 w0 _ _ N_14 (hS.new_zed [1]) (hS.enter [1] (by decide)) ((hr_5.mono (Mem.un_le le_5 ln_5)).mono le_8) et_21) ?_
         rintro _ w_42 ⟨v_30, N_43, rfl, hS', hr_24⟩
         intro a h
         obtain ⟨N_44, hS'', le_23, ln_21⟩ := hS.call [1] (by decide) rfl (l' := [_]) (ow := []) rfl hS'
         replace hS : Sep w0 w_42 [N_44, _, _, _] Z := hS''
         refine mv h rfl fun a h=>?_
         obtain ⟨t_22, et_22, H⟩ := bs H
         refine s_call h rfl Try.call58 rfl (mach_GetEntry.calls K _ t_21.2.1 _ t_21.2.2 t_22 w0 _ _ N_44 (hS.new_zed [1]) (hS.enter [1] (by decide)) (hr_24.mono (Mem.un_le le_23 ln_21)) et_22) ?_
         rintro _ w_43 ⟨v_31, v_32, v_33, v_34, N_45, M_10, M_11, M_12, rfl, hS', hr_25, hr_26, hr_27, hr_28⟩
         intro a h
         obtain ⟨N_46, hS'', le_24, ln_22⟩ := hS.call [1] (by decide) rfl (l' := [_]) (ow := [_, _, _]) rfl hS'
         replace hS : Sep w0 w_43 [N_46, _, _, _, _, _, _] Z := hS''
         refine s_fieldAddr h rfl U56 rfl ti3 rfl rfl fun a h=>?_
         refine sto 3 h rfl rfl hS rfl ti3 rfl rfl rfl (oz rfl) fun w_44 hS' => ?_
         replace hS : Sep w0 w_44 [_, _, _, bx g_3 56 [_, _, _, _, _, _, _, _, _, _, _, _, _, _, _, _, iV t_21.1, _, _, _, _, _, _, _], _, _, _] Z := hS'
         refine s_fieldAddr h rfl U56 rfl ti26 rfl rfl fun a h=>?_
         refine sto 3 h rfl rfl hS rfl ti26 rfl rfl rfl (oa 4 rfl (oc hr_25.one (oc hr_26.one (oc hr_27.one on0)))) fun w_45 hS' => ?_
         replace hS : Sep w0 w_45 [_, _, _, bx g_3 56 [_, _, _, _, _, _, _, _, _, _, _, _, _, _, _, _, _, iV t_22.1.Sess, iV t_22.1.Seq, iV t_22.1.Cmd.Kind, iV t_22.1.Cmd.Who, v_31, v_32, v_33], _, _, _] Z := hS'
         refine wpList_nil ?_
         replace h : Fr 87 a [(2, _), (3, _), (4, _), (5, _)] := h.keep [2, 3, 4, 5]
         refine x_block_n ?_
         have hS' := hS.room
         replace hS : Sep w0 w_45 [_, _, _, _, _, _, _, Mem.no] Z := hS'
         have hS' := hS.room
         replace hS : Sep w0 w_45 [_, _, _, _, _, _, _, _, Mem.no] Z := hS'
         have hS' := hS.room
         replace hS : Sep w0 w_45 [_, _, _, _, _, _, _, _, _, Mem.no] Z := hS'
         exact x_then_n (hJ_j_1 (⟨t_22.2.1, t_22.2.2⟩ : pack_Reader) (⟨t_2.1, t_3.1, t_4.1, t_5.1, 0, 0, false, 0, 0, 0, 0, ([] : List UInt8), 0, 0, ([] : List Int), ([] : List Int), t_21.1, t_22.1⟩ : api_Msg) H _ _ ⟨v_34, nS, nS, nS, v_31, v_32, v_33, N_46, Mem.no, Mem.no, Mem.no, M_10, M_11, M_12, (h.to rfl), (hS.sel [0, 1, 2, 3, 7, 8, 9, 4, 5, 6] (by decide)), (le_8.trans (le_23.trans le_24)), (hr_28.mono (Mem.un_le le_24 ln_22)), (Own.nil Kd.u8 5 Mem.no), (Own.nil (Kd.int .i64) 3 Mem.no), (Own.nil (Kd.int .i64) 3 Mem.no), hr_25, hr_26, hr_27⟩)
        ·refine c_cond_f h rfl (bf hc_7) <| qr <| s_build h rfl ti56 pl56 rfl .nil (cs := Q0) (by kernel_rfl) fun a h=>?_
         refine sto 1 h rfl rfl hS rfl ti56 rfl rfl rfl (oz rfl) fun w_46 hS' => ?_
         replace hS : Sep w0 w_46 [_, _, _, _] Z := hS'
         refine sg h rfl fun a h=>wpList_nil ?_
         replace h : Fr 87 a [(2, _), (3, _), (4, _), (5, _)] := h.keep [2, 3, 4, 5]
         refine x_then_n <| wp_ret (x_block_r (x_then_r ?_))
         have hS' := hS.room
         replace hS : Sep w0 w_46 [_, _, _, _, Mem.no] Z := hS'
         have hS' := hS.room
         replace hS : Sep w0 w_46 [_, _, _, _, _, Mem.no] Z := hS'
         have hS' := hS.room
         replace hS : Sep w0 w_46 [_, _, _, _, _, _, Mem.no] Z := hS'
         have hS' := hS.room
         replace hS : Sep w0 w_46 [_, _, _, _, _, _, _, Mem.no] Z := hS'
         have hS' := hS.room
         replace hS : Sep w0 w_46 [_, _, _, _, _, _, _, _, Mem.no] Z := hS'
         have hS' := hS.room
         replace hS : Sep w0 w_46 [_, _, _, _, _, _, _, _, _, Mem.no] Z := hS'
         obtain rfl := Option.some.inj H
         exact f_ret h (rs := [.cell 2 56, .tmp 3]) rfl (.cell rfl (hS.load_agg (p := 1) (us := Q0) rfl U56 rfl ti56 rfl rfl) (.tmp rfl .nil)) ⟨_, rfl, nS, nS, nS, nS, nS, nS, N_14, Mem.no, Mem.no, Mem.no, Mem.no, Mem.no, Mem.no, rfl, (hS.sel [0, 4, 5, 6, 7, 8, 9] (by decide)), (Own.nil Kd.u8 5 Mem.no), (Own.nil (Kd.int .i64) 3 Mem.no), (Own.nil (Kd.int .i64) 3 Mem.no), (Own.nil Kd.u8 5 Mem.no), (Own.nil Kd.u8 5 Mem.no), (Own.nil Kd.u8 5 Mem.no)⟩
 clear hKJ_3
 obtain ⟨hc_8, H⟩ | ⟨hc_8, H⟩ := ii H
 ·refine c_cond_t h rfl (bt hc_8) <| wp_skip ?_
  exact x_then_n (hJ_j_2 (t_2.1 == 1) H _ _ ⟨N_10, (h.to rfl), (hS.sel [0, 1, 2, 3] (by decide)), mr⟩)
 ·refine c_cond_f h rfl (bf hc_8) <| wp_region_lit <| s_cmp (b := (t_2.1 == 6)) h rfl rfl rfl (.inl ⟨rfl, rfl⟩) fun a h=>sg h rfl fun a h=>wpList_nil ?_
  exact x_then_n (hJ_j_2 (t_2.1 == 6) H _ _ ⟨N_10, (h.to rfl), (hS.sel [0, 1, 2, 3] (by decide)), mr⟩)

set_option maxHeartbeats 4000000 in
set_option maxRecDepth 20000 in
theorem bytes_Equal.calls (x0 : List UInt8) (p0_0 : Value) (x1 : List UInt8) (p1_1 : Value) (r : Bool) (w0 w : World) (Z A : Mem) (hA : A.le Z) (hS : Sep w0 w [] Z) (hp0_0 : Rd Kd.u8 A p0_0 x0) (hp1_1 : Rd Kd.u8 A p1_1 x1)
    (H : bytes_Equal.f x0 x1 = some r) :
    Calls Try.prog 116 [p0_0, p1_1].toArray w (Ret fun v w' => ∃ (N : Mem), v = .bool r ∧ Sep w0 w' [N] Z) := by
 unfold bytes_Equal.f at H
 refine f_enter _ Try.func116 rfl Try.ntmps116 rfl fun a h=>?_
 replace h : Fr 10 a [(0, p0_0), (1, p1_1)] := h
 replace hS := hS.start
 refine qr <| sg h rfl fun a h=>nx <| qr <| mv h rfl fun a h=>s_b2s h rfl U22 U5 U9 rfl hp0_0 (hA.trans hS.old) fun a h=>mv h rfl fun a h=>s_b2s h rfl U22 U5 U9 rfl hp1_1 (hA.trans hS.old) fun a h=>s_strEq (b := (x0 == x1)) h rfl rfl rfl (.inl ⟨rfl, rfl⟩) fun a h=>?_
 refine sg h rfl fun a h=>nx <| wp_ret ?_
 obtain rfl := Option.some.inj H
 exact r1 h 4 rfl rfl ⟨_, rfl, Mem.no, rfl, (hS.sel [0] (by decide))⟩

set_option maxHeartbeats 4000000 in
set_option maxRecDepth 20000 in
theorem slices_Equal_sint_int.calls (K : Nat) (x0 : List Int) (p0_0 : Value) (x1 : List Int) (p1_1 : Value) (r : Bool) (w0 w : World) (Z A : Mem) (hA : A.le Z) (hS : Sep w0 w [] Z) (hp0_0 : Rd (Kd.int .i64) A p0_0 x0) (hp1_1 : Rd (Kd.int .i64) A p1_1 x1)
    (H : slices_Equal_sint_int.f K x0 x1 = some r) :
    Calls Try.prog 117 [p0_0, p1_1].toArray w (Ret fun v w' => ∃ (N : Mem), v = .bool r ∧ Sep w0 w' [N] Z) := by
 unfold slices_Equal_sint_int.f at H
 refine f_enter _ Try.func117 rfl Try.ntmps117 rfl fun a h=>?_
 replace h : Fr 26 a [(0, p0_0), (1, p1_1)] := h
 replace hS := hS.start
 refine qr <| sg h rfl fun a h=>nx <| c_seq fun KJ_1 hKJ_1 => qr <| mv h rfl fun a h=>s_len h rfl U29 rfl hp0_0 fun a h=>mv h rfl fun a h=>s_len h rfl U29 rfl hp1_1 fun a h=>?_
 refine s_cmp (b := ((x0.length : Int) != (x1.length : Int))) h rfl rfl rfl (.inr (.inl ⟨rfl, rfl⟩)) fun a h=>wpList_nil <| x_then_n ?_
 obtain ⟨hc_1, H⟩ | ⟨hc_1, H⟩ := ii H
 ·refine c_cond_f h rfl (xf hc_1) <| wp_skip <| x_then_n (hKJ_1 _ _ ?_)
  refine c_seq fun KJ_2 hKJ_2 => qr <| mv h rfl fun a h=>s_len h rfl U29 rfl hp0_0 fun a h=>mv h rfl fun a h=>wpList_nil <| x_then_n ?_
  have hJ_j_1 : slices_Equal_sint_int.J1 K = some r → ∀ (a : Act) (w_1 : World), (∃ (N_1 : Mem), Fr 26 a [(4, .bool false)] ∧ Sep w0 w_1 [N_1] Z ∧ Mem.no.le N_1) → KJ_2 a w_1 := by
   clear H h hS a
   rintro H a w_1 ⟨N_1, h, hS, le_1⟩
   unfold slices_Equal_sint_int.J1 at H
   refine hKJ_2 _ _ <| qr <| sg h rfl fun a h=>wpList_nil ?_
   replace h : Fr 26 a [(4, .bool true)] := h.keep [4]
   refine x_then_n <| wp_ret ?_
   obtain rfl := Option.some.inj H
   exact r1 h 4 rfl rfl ⟨_, rfl, N_1, rfl, (hS.sel [0] (by decide))⟩
  clear hKJ_2
  refine c_block <| c_loop (fun k_1 a w_2 => ∃ (x_1 : Int) (N_2 : Mem), slices_Equal_sint_int.L1 K x0 x1 (fun v => slices_Equal_sint_int.J1 K) k_1 x_1 = some r ∧ Fr 26 a [(0, p0_0), (1, p1_1), (4, .bool false), (12, iV (x0.length : Int)), (13, iV x_1)] ∧ Sep w0 w_2 [N_2] Z ∧ Mem.no.le N_2) K ⟨0, Mem.no, H, (h.to rfl), (hS.sel [0] (by decide)), mr⟩ (fun a w h => by obtain ⟨_, _, H, _⟩ := h; cases (show (none : Option (Bool)) = some r from H)) ?_
  clear h hS a H
  rintro k_1 a w_2 KL_1 hKL_1 ⟨x_1, N_2, H, h, hS, le_2⟩
  replace H : slices_Equal_sint_int.B1 K x0 x1 (fun v => slices_Equal_sint_int.J1 K) (slices_Equal_sint_int.L1 K x0 x1 (fun v => slices_Equal_sint_int.J1 K) k_1) x_1 = some r := H
  unfold slices_Equal_sint_int.B1 at H
  refine qr <| s_cmp (b := decide (x_1 < (x0.length : Int))) h rfl rfl rfl (.inr (.inr (.inl ⟨rfl, rfl⟩))) fun a h=>wpList_nil ?_
  replace h : Fr 26 a [(0, _), (1, _), (4, _), (12, _), (13, _), (14, .bool (decide (x_1 < (x0.length : Int))))] := h.keep [0, 1, 4, 12, 13, 14]
  refine x_then_n <| c_seq fun KJ_3 hKJ_3 => ?_
  obtain ⟨hc_2, H⟩ | ⟨hc_2, H⟩ := ii H
  ·refine c_cond_t h rfl (dt hc_2) <| wp_skip <| x_then_n (hKJ_3 _ _ ?_)
   refine c_seq fun KJ_4 hKJ_4 => c_block <| qr <| mv h rfl fun a h=>sg h rfl fun a h=>nx <| c_seq fun KJ_5 hKJ_5 => h_begin (S := fun w => Sep w0 w [N_2] Z) 9 (by kernel_rfl) rfl (bA 9 0) (by kernel_rfl) hS fun w_3 hS => ?_
   refine t_take 0 (bA 9 1) rfl rfl rfl rfl h (hS.sub .ii) (v := p0_0) (fun w hS => r_move h rfl) fun a h=>t_take 1 (bA 9 3) rfl rfl rfl rfl h (hS.sub .ii) (v := iV x_1) (fun w hS => r_move h rfl) fun a h=>?_
   obtain ⟨t_1, et_1, H⟩ := bs H
   refine t_takeE 2 (bA 9 7) rfl rfl rfl rfl h (hS.sub .ii) (f := fun ad => .pointer (some ad)) (r_index h U29 ti3 rfl rfl rfl hp0_0 et_1) ?_
   rintro ad_1 ⟨cs_1, hk_1, hc_3⟩
   obtain rfl := (show cs_1 = [iV t_1] from hk_1)
   intro a h
   refine t_take 3 (bA 9 15) rfl rfl rfl rfl h (hS.sub .ii) (v := iV t_1) (fun w hS => r_load h rfl (el_one (o := 0) (fun j c h => Mem.cell_le (hA.trans hS.old) (hc_3 j c h)) U3 rfl rfl)) fun a h=>t_take 4 (bA 9 31) rfl rfl rfl rfl h (hS.sub .ii) (v := p1_1) (fun w hS => r_move h rfl) fun a h=>t_take 5 (bA 9 63) rfl rfl rfl rfl h (hS.sub .ii) (v := iV x_1) (fun w hS => r_move h rfl) fun a h=>?_
   obtain ⟨t_2, et_2, H⟩ := bs H
   refine t_takeE 6 (bA 9 127) rfl rfl rfl rfl h (hS.sub .ii) (f := fun ad => .pointer (some ad)) (r_index h U29 ti3 rfl rfl rfl hp1_1 et_2) ?_
   rintro ad_2 ⟨cs_2, hk_2, hc_4⟩
   obtain rfl := (show cs_2 = [iV t_2] from hk_2)
   intro a h
   refine t_take 7 (bA 9 255) rfl rfl rfl rfl h (hS.sub .ii) (v := iV t_2) (fun w hS => r_load h rfl (el_one (o := 0) (fun j c h => Mem.cell_le (hA.trans hS.old) (hc_4 j c h)) U3 rfl rfl)) fun a h=>t_take 8 (bA 9 511) rfl rfl rfl rfl h (hS.sub .ii) (v := .bool (t_1 != t_2)) (fun w hS => r_cmp (b := (t_1 != t_2)) h rfl rfl (.inr (.inl ⟨rfl, rfl⟩))) fun a h=>h_done (by kernel_rfl) <| x_then_n (hKJ_5 _ _ ?_)
   obtain ⟨hc_5, H⟩ | ⟨hc_5, H⟩ := ii H
   ·refine c_cond_f h rfl (xf hc_5) <| wp_skip <| x_block_n <| x_then_n (hKJ_4 _ _ ?_)
    refine wp_region_lit <| s_arith (r := w64 (x_1 + 1)) h rfl rfl rfl (.inl ⟨rfl, rfl⟩) fun a h=>mv h rfl fun a h=>wpList_nil <| x_then_n (hKL_1 _ _ ?_)
    exact ⟨w64 (x_1 + 1), N_2, H, (h.to rfl), (hS.sel [0] (by decide)), le_2⟩
   ·refine c_cond_t h rfl (xt hc_5) <| qr <| sg h rfl fun a h=>nx <| wp_ret (x_block_r (x_then_r (x_then_r (x_block_r (x_then_r ?_)))))
    obtain rfl := Option.some.inj H
    exact r1 h 4 rfl rfl ⟨_, rfl, N_2, rfl, (hS.sel [0] (by decide))⟩
  ·refine c_cond_f h rfl (df hc_2) <| wp_exit (x_then_x (x_then_x (x_block_t ?_)))
   exact x_then_n (hJ_j_1  H _ _ ⟨N_2, (h.to rfl), (hS.sel [0] (by decide)), le_2⟩)
 ·refine c_cond_t h rfl (xt hc_1) <| qr <| sg h rfl fun a h=>nx <| wp_ret (x_then_r ?_)
  obtain rfl := Option.some.inj H
  exact r1 h 4 rfl rfl ⟨_, rfl, Mem.no, rfl, (hS.sel [0] (by decide))⟩

set_option maxHeartbeats 4000000 in
set_option maxRecDepth 20000 in
theorem mach_SameEntry.calls (x0 : api_Entry) (p0_0 : Value) (p0_1 : Value) (p0_2 : Value) (x1 : api_Entry) (p1_3 : Value) (p1_4 : Value) (p1_5 : Value) (r : Bool) (w0 w : World) (Z A : Mem) (hA : A.le Z) (hS : Sep w0 w [] Z) (hp0_0 : Rd Kd.u8 A p0_0 x0.Cmd.Key) (hp0_1 : Rd Kd.u8 A p0_1 x0.Cmd.Val) (hp0_2 : Rd Kd.u8 A p0_2 x0.Cmd.Old) (hp1_3 : Rd Kd.u8 A p1_3 x1.Cmd.Key) (hp1_4 : Rd Kd.u8 A p1_4 x1.Cmd.Val) (hp1_5 : Rd Kd.u8 A p1_5 x1.Cmd.Old)
    (H : mach_SameEntry.f x0 x1 = some r) :
    Calls Try.prog 118 [.agg (E26 x0 p0_0 p0_1 p0_2).toArray, .agg (E26 x1 p1_3 p1_4 p1_5).toArray].toArray w (Ret fun v w' => ∃ (N : Mem), v = .bool r ∧ Sep w0 w' [N] Z) := by
 unfold mach_SameEntry.f at H
 refine f_enter _ Try.func118 rfl Try.ntmps118 rfl fun a h=>?_
 replace h : Fr 58 a [(0, .agg (E26 x0 p0_0 p0_1 p0_2).toArray), (1, .agg (E26 x1 p1_3 p1_4 p1_5).toArray)] := h
 replace hS := hS.start
 refine qr <| v_box (vs := (E26 x0 p0_0 p0_1 p0_2)) h rfl rfl rfl hS fun w_1 g_1 hS' a h => ?_
 replace hS : Sep w0 w_1 [_, bx g_1 26 (E26 x0 p0_0 p0_1 p0_2)] Z := hS'
 refine v_box (vs := (E26 x1 p1_3 p1_4 p1_5)) h rfl rfl rfl hS fun w_2 g_2 hS' a h => ?_
 replace hS : Sep w0 w_2 [_, _, bx g_2 26 (E26 x1 p1_3 p1_4 p1_5)] Z := hS'
 refine sg h rfl fun a h=>nx <| c_seq fun KJ_1 hKJ_1 => h_begin (S := fun w => Sep w0 w [Mem.no, bx g_1 26 (E26 x0 p0_0 p0_1 p0_2), bx g_2 26 (E26 x1 p1_3 p1_4 p1_5)] Z) 8 (by kernel_rfl) rfl (bA 8 0) (by kernel_rfl) hS fun w_3 hS => ?_
 refine t_take 0 (bA 8 1) rfl rfl rfl rfl h (hS.sub .ii) (v := .pointer (some ⟨g_1, 2, none⟩)) (fun w hS => r_fieldAddr h U26 rfl ti24 rfl rfl rfl) fun a h=>t_take 1 (bA 8 3) rfl rfl rfl rfl h (hS.sub .ii) (v := .agg (E24 x0.Cmd p0_0 p0_1 p0_2).toArray) (fun w hS => r_load h rfl (hS.load_agg (p := 1) (us := (E24 x0.Cmd p0_0 p0_1 p0_2)) rfl U24 rfl ti24 rfl rfl)) fun a h=>t_take 2 (bA 8 7) rfl rfl rfl rfl h (hS.sub .ii) (v := .pointer (some ⟨g_2, 2, none⟩)) (fun w hS => r_fieldAddr h U26 rfl ti24 rfl rfl rfl) fun a h=>t_take 3 (bA 8 15) rfl rfl rfl rfl h (hS.sub .ii) (v := .agg (E24 x1.Cmd p1_3 p1_4 p1_5).toArray) (fun w hS => r_load h rfl (hS.load_agg (p := 2) (us := (E24 x1.Cmd p1_3 p1_4 p1_5)) rfl U24 rfl ti24 rfl rfl)) fun a h=>h_state fun GD_1 hGD_1 => ?_
 have hD_1 : ∀ (a : Act) (w_4 : World), (∃ (g_3 : Nat) (g_4 : Nat) (N_1 : Mem), Fr 58 a [(2, .pointer (some ⟨g_1, 0, none⟩)), (3, .pointer (some ⟨g_2, 0, none⟩)), (4, .bool false), (5, .pointer (some ⟨g_3, 0, none⟩)), (6, .pointer (some ⟨g_4, 0, none⟩))] ∧ Sep w0 w_4 [N_1, bx g_1 26 (E26 x0 p0_0 p0_1 p0_2), bx g_2 26 (E26 x1 p1_3 p1_4 p1_5), bx g_3 24 (E24 x0.Cmd p0_0 p0_1 p0_2), bx g_4 24 (E24 x1.Cmd p1_3 p1_4 p1_5)] Z ∧ Mem.no.le N_1) → GD_1 0 (bA 8 255) a w_4 := by
  rintro a w_4 ⟨g_3, g_4, N_1, h, hS, le_1⟩
  refine (hGD_1 _ _ _ _).2 <| h_done (by kernel_rfl) <| x_then_n (hKJ_1 _ _ ?_)
  refine c_seq fun KJ_2 hKJ_2 => wp_region_lit <| s_fieldAddr h rfl U26 rfl ti3 rfl rfl fun a h=>s_load h rfl rfl (hS.load_one (p := 1) rfl U3 rfl rfl) fun a h=>s_fieldAddr h rfl U26 rfl ti3 rfl rfl fun a h=>s_load h rfl rfl (hS.load_one (p := 2) rfl U3 rfl rfl) fun a h=>s_cmp (b := (x0.Sess == x1.Sess)) h rfl rfl rfl (.inl ⟨rfl, rfl⟩) fun a h=>mv h rfl fun a h=>?_
  obtain ⟨hc_1, H⟩ | ⟨hc_1, H⟩ := ii H
  ·refine s_on h rfl rfl (bt hc_1) <| s_fieldAddr h rfl U26 rfl ti3 rfl rfl fun a h=>s_on h rfl rfl (bt hc_1) <| s_load h rfl rfl (hS.load_one (p := 1) rfl U3 rfl rfl) fun a h=>s_on h rfl rfl (bt hc_1) <| s_fieldAddr h rfl U26 rfl ti3 rfl rfl fun a h=>s_on h rfl rfl (bt hc_1) <| s_load h rfl rfl (hS.load_one (p := 2) rfl U3 rfl rfl) fun a h=>s_on h rfl rfl (bt hc_1) <| s_cmp (b := (x0.Seq == x1.Seq)) h rfl rfl rfl (.inl ⟨rfl, rfl⟩) fun a h=>pt h rfl (bt hc_1) fun a h=>mv h rfl fun a h=>?_
   obtain ⟨hc_2, H⟩ | ⟨hc_2, H⟩ := ii H
   ·refine s_on h rfl rfl (bt hc_2) <| s_fieldAddr h rfl U24 rfl ti3 rfl rfl fun a h=>s_on h rfl rfl (bt hc_2) <| s_load h rfl rfl (hS.load_one (p := 3) rfl U3 rfl rfl) fun a h=>s_on h rfl rfl (bt hc_2) <| s_fieldAddr h rfl U24 rfl ti3 rfl rfl fun a h=>s_on h rfl rfl (bt hc_2) <| s_load h rfl rfl (hS.load_one (p := 4) rfl U3 rfl rfl) fun a h=>s_on h rfl rfl (bt hc_2) <| s_cmp (b := (x0.Cmd.Kind == x1.Cmd.Kind)) h rfl rfl rfl (.inl ⟨rfl, rfl⟩) fun a h=>pt h rfl (bt hc_2) fun a h=>mv h rfl fun a h=>?_
    obtain ⟨hc_3, H⟩ | ⟨hc_3, H⟩ := ii H
    ·refine s_on h rfl rfl (bt hc_3) <| s_fieldAddr h rfl U24 rfl ti3 rfl rfl fun a h=>s_on h rfl rfl (bt hc_3) <| s_load h rfl rfl (hS.load_one (p := 3) rfl U3 rfl rfl) fun a h=>s_on h rfl rfl (bt hc_3) <| s_fieldAddr h rfl U24 rfl ti3 rfl rfl fun a h=>s_on h rfl rfl (bt hc_3) <| s_load h rfl rfl (hS.load_one (p := 4) rfl U3 rfl rfl) fun a h=>s_on h rfl rfl (bt hc_3) <| s_cmp (b := (x0.Cmd.Who == x1.Cmd.Who)) h rfl rfl rfl (.inl ⟨rfl, rfl⟩) fun a h=>pt h rfl (bt hc_3) fun a h=>mv h rfl fun a h=>?_
     obtain ⟨hc_4, H⟩ | ⟨hc_4, H⟩ := ii H
     ·refine s_on h rfl rfl (bt hc_4) <| s_fieldAddr h rfl U24 rfl ti22 rfl rfl fun a h=>s_on h rfl rfl (bt hc_4) <| s_load h rfl rfl (hS.load_one (p := 3) rfl U22 rfl rfl) fun a h=>s_on h rfl rfl (bt hc_4) <| s_fieldAddr h rfl U24 rfl ti22 rfl rfl fun a h=>s_on h rfl rfl (bt hc_4) <| s_load h rfl rfl (hS.load_one (p := 4) rfl U22 rfl rfl) fun a h=>s_on h rfl rfl (bt hc_4) ?_
      obtain ⟨t_1, et_1, H⟩ := bs H
      refine s_call h rfl Try.call116 rfl (bytes_Equal.calls x0.Cmd.Key _ x1.Cmd.Key _ t_1 w0 _ _ _ mr (hS.enter [] (by decide)) (hp0_0.mono (hA.trans (hS.le_zed []))) (hp1_3.mono (hA.trans (hS.le_zed []))) et_1) ?_
      rintro _ w_5 ⟨N_2, rfl, hS'⟩
      intro a h
      obtain ⟨N_3, hS'', le_2, ln_1⟩ := hS.call [] (by decide) rfl (l' := []) (ow := []) rfl hS'
      replace hS : Sep w0 w_5 [N_3, _, _, _, _] Z := hS''
      refine pt h rfl (bt hc_4) fun a h=>mv h rfl fun a h=>?_
      obtain ⟨hc_5, H⟩ | ⟨hc_5, H⟩ := ii H
      ·refine s_on h rfl rfl hc_5 <| s_fieldAddr h rfl U24 rfl ti22 rfl rfl fun a h=>s_on h rfl rfl hc_5 <| s_load h rfl rfl (hS.load_one (p := 3) rfl U22 rfl rfl) fun a h=>s_on h rfl rfl hc_5 <| s_fieldAddr h rfl U24 rfl ti22 rfl rfl fun a h=>s_on h rfl rfl hc_5 <| s_load h rfl rfl (hS.load_one (p := 4) rfl U22 rfl rfl) fun a h=>s_on h rfl rfl hc_5 ?_
       obtain ⟨t_2, et_2, H⟩ := bs H
       refine s_call h rfl Try.call116 rfl (bytes_Equal.calls x0.Cmd.Val _ x1.Cmd.Val _ t_2 w0 _ _ _ mr (hS.enter [] (by decide)) (hp0_1.mono (hA.trans (hS.le_zed []))) (hp1_4.mono (hA.trans (hS.le_zed []))) et_2) ?_
       rintro _ w_6 ⟨N_4, rfl, hS'⟩
       intro a h
       obtain ⟨N_5, hS'', le_3, ln_2⟩ := hS.call [] (by decide) rfl (l' := []) (ow := []) rfl hS'
       replace hS : Sep w0 w_6 [N_5, _, _, _, _] Z := hS''
       refine pt h rfl hc_5 fun a h=>mv h rfl fun a h=>?_
       obtain ⟨hc_6, H⟩ | ⟨hc_6, H⟩ := ii H
       ·refine s_on h rfl rfl hc_6 <| s_fieldAddr h rfl U24 rfl ti22 rfl rfl fun a h=>s_on h rfl rfl hc_6 <| s_load h rfl rfl (hS.load_one (p := 3) rfl U22 rfl rfl) fun a h=>s_on h rfl rfl hc_6 <| s_fieldAddr h rfl U24 rfl ti22 rfl rfl fun a h=>s_on h rfl rfl hc_6 <| s_load h rfl rfl (hS.load_one (p := 4) rfl U22 rfl rfl) fun a h=>s_on h rfl rfl hc_6 ?_
        obtain ⟨t_3, et_3, H⟩ := bs H
        refine s_call h rfl Try.call116 rfl (bytes_Equal.calls x0.Cmd.Old _ x1.Cmd.Old _ t_3 w0 _ _ _ mr (hS.enter [] (by decide)) (hp0_2.mono (hA.trans (hS.le_zed []))) (hp1_5.mono (hA.trans (hS.le_zed []))) et_3) ?_
        rintro _ w_7 ⟨N_6, rfl, hS'⟩
        intro a h
        obtain ⟨N_7, hS'', le_4, ln_3⟩ := hS.call [] (by decide) rfl (l' := []) (ow := []) rfl hS'
        replace hS : Sep w0 w_7 [N_7, _, _, _, _] Z := hS''
        refine pt h rfl hc_6 fun a h=>sg h rfl fun a h=>wpList_nil <| x_then_n (hKJ_2 _ _ ?_)
        refine wp_ret ?_
        obtain rfl := Option.some.inj H
        exact r1 h 4 rfl rfl ⟨_, rfl, N_7, rfl, (hS.sel [0] (by decide))⟩
       ·refine of h rfl rfl (ef hc_6) fun a h=>of h rfl rfl (ef hc_6) fun a h=>of h rfl rfl (ef hc_6) fun a h=>of h rfl rfl (ef hc_6) fun a h=>of h rfl rfl (ef hc_6) fun a h=>pf h rfl (ef hc_6) fun a h=>sg h rfl fun a h=>wpList_nil <| x_then_n (hKJ_2 _ _ ?_)
        refine wp_ret ?_
        obtain rfl := Option.some.inj H
        exact r1 h 4 rfl rfl ⟨_, rfl, N_5, rfl, (hS.sel [0] (by decide))⟩
      ·refine of h rfl rfl (ef hc_5) fun a h=>of h rfl rfl (ef hc_5) fun a h=>of h rfl rfl (ef hc_5) fun a h=>of h rfl rfl (ef hc_5) fun a h=>of h rfl rfl (ef hc_5) fun a h=>pf h rfl (ef hc_5) fun a h=>mv h rfl fun a h=>oo h rfl rfl fun a h=>oo h rfl rfl fun a h=>oo h rfl rfl fun a h=>oo h rfl rfl fun a h=>oo h rfl rfl fun a h=>?_
       refine pf h rfl rfl fun a h=>sg h rfl fun a h=>wpList_nil <| x_then_n (hKJ_2 _ _ ?_)
       refine wp_ret ?_
       obtain rfl := Option.some.inj H
       exact r1 h 4 rfl rfl ⟨_, rfl, N_3, rfl, (hS.sel [0] (by decide))⟩
     ·refine of h rfl rfl (bf hc_4) fun a h=>of h rfl rfl (bf hc_4) fun a h=>of h rfl rfl (bf hc_4) fun a h=>of h rfl rfl (bf hc_4) fun a h=>of h rfl rfl (bf hc_4) fun a h=>pf h rfl (bf hc_4) fun a h=>mv h rfl fun a h=>oo h rfl rfl fun a h=>oo h rfl rfl fun a h=>oo h rfl rfl fun a h=>oo h rfl rfl fun a h=>oo h rfl rfl fun a h=>?_
      refine pf h rfl rfl fun a h=>mv h rfl fun a h=>oo h rfl rfl fun a h=>oo h rfl rfl fun a h=>oo h rfl rfl fun a h=>oo h rfl rfl fun a h=>oo h rfl rfl fun a h=>pf h rfl rfl fun a h=>sg h rfl fun a h=>wpList_nil <| x_then_n (hKJ_2 _ _ ?_)
      refine wp_ret ?_
      obtain rfl := Option.some.inj H
      exact r1 h 4 rfl rfl ⟨_, rfl, N_1, rfl, (hS.sel [0] (by decide))⟩
    ·refine of h rfl rfl (bf hc_3) fun a h=>of h rfl rfl (bf hc_3) fun a h=>of h rfl rfl (bf hc_3) fun a h=>of h rfl rfl (bf hc_3) fun a h=>of h rfl rfl (bf hc_3) fun a h=>pf h rfl (bf hc_3) fun a h=>mv h rfl fun a h=>oo h rfl rfl fun a h=>oo h rfl rfl fun a h=>oo h rfl rfl fun a h=>oo h rfl rfl fun a h=>oo h rfl rfl fun a h=>?_
     refine pf h rfl rfl fun a h=>mv h rfl fun a h=>oo h rfl rfl fun a h=>oo h rfl rfl fun a h=>oo h rfl rfl fun a h=>oo h rfl rfl fun a h=>oo h rfl rfl fun a h=>pf h rfl rfl fun a h=>mv h rfl fun a h=>oo h rfl rfl fun a h=>oo h rfl rfl fun a h=>oo h rfl rfl fun a h=>?_
     refine oo h rfl rfl fun a h=>oo h rfl rfl fun a h=>pf h rfl rfl fun a h=>sg h rfl fun a h=>wpList_nil <| x_then_n (hKJ_2 _ _ ?_)
     refine wp_ret ?_
     obtain rfl := Option.some.inj H
     exact r1 h 4 rfl rfl ⟨_, rfl, N_1, rfl, (hS.sel [0] (by decide))⟩
   ·refine of h rfl rfl (bf hc_2) fun a h=>of h rfl rfl (bf hc_2) fun a h=>of h rfl rfl (bf hc_2) fun a h=>of h rfl rfl (bf hc_2) fun a h=>of h rfl rfl (bf hc_2) fun a h=>pf h rfl (bf hc_2) fun a h=>mv h rfl fun a h=>oo h rfl rfl fun a h=>oo h rfl rfl fun a h=>oo h rfl rfl fun a h=>oo h rfl rfl fun a h=>oo h rfl rfl fun a h=>?_
    refine pf h rfl rfl fun a h=>mv h rfl fun a h=>oo h rfl rfl fun a h=>oo h rfl rfl fun a h=>oo h rfl rfl fun a h=>oo h rfl rfl fun a h=>oo h rfl rfl fun a h=>pf h rfl rfl fun a h=>mv h rfl fun a h=>oo h rfl rfl fun a h=>oo h rfl rfl fun a h=>oo h rfl rfl fun a h=>?_
    refine oo h rfl rfl fun a h=>oo h rfl rfl fun a h=>pf h rfl rfl fun a h=>mv h rfl fun a h=>oo h rfl rfl fun a h=>oo h rfl rfl fun a h=>oo h rfl rfl fun a h=>oo h rfl rfl fun a h=>oo h rfl rfl fun a h=>pf h rfl rfl fun a h=>sg h rfl fun a h=>wpList_nil <| x_then_n (hKJ_2 _ _ ?_)
    refine wp_ret ?_
    obtain rfl := Option.some.inj H
    exact r1 h 4 rfl rfl ⟨_, rfl, N_1, rfl, (hS.sel [0] (by decide))⟩
  ·refine of h rfl rfl (bf hc_1) fun a h=>of h rfl rfl (bf hc_1) fun a h=>of h rfl rfl (bf hc_1) fun a h=>of h rfl rfl (bf hc_1) fun a h=>of h rfl rfl (bf hc_1) fun a h=>pf h rfl (bf hc_1) fun a h=>mv h rfl fun a h=>oo h rfl rfl fun a h=>oo h rfl rfl fun a h=>oo h rfl rfl fun a h=>oo h rfl rfl fun a h=>oo h rfl rfl fun a h=>?_
   refine pf h rfl rfl fun a h=>mv h rfl fun a h=>oo h rfl rfl fun a h=>oo h rfl rfl fun a h=>oo h rfl rfl fun a h=>oo h rfl rfl fun a h=>oo h rfl rfl fun a h=>pf h rfl rfl fun a h=>mv h rfl fun a h=>oo h rfl rfl fun a h=>oo h rfl rfl fun a h=>oo h rfl rfl fun a h=>?_
   refine oo h rfl rfl fun a h=>oo h rfl rfl fun a h=>pf h rfl rfl fun a h=>mv h rfl fun a h=>oo h rfl rfl fun a h=>oo h rfl rfl fun a h=>oo h rfl rfl fun a h=>oo h rfl rfl fun a h=>oo h rfl rfl fun a h=>pf h rfl rfl fun a h=>mv h rfl fun a h=>oo h rfl rfl fun a h=>?_
   refine oo h rfl rfl fun a h=>oo h rfl rfl fun a h=>oo h rfl rfl fun a h=>oo h rfl rfl fun a h=>pf h rfl rfl fun a h=>sg h rfl fun a h=>wpList_nil <| x_then_n (hKJ_2 _ _ ?_)
   refine wp_ret ?_
   obtain rfl := Option.some.inj H
   exact r1 h 4 rfl rfl ⟨_, rfl, N_1, rfl, (hS.sel [0] (by decide))⟩
 have hD_2 : ∀ (a : Act) (w_8 : World), (∃ (g_5 : Nat) (g_6 : Nat) (N_8 : Mem), Fr 58 a [(2, .pointer (some ⟨g_1, 0, none⟩)), (3, .pointer (some ⟨g_2, 0, none⟩)), (4, .bool false), (5, .pointer (some ⟨g_5, 0, none⟩)), (6, .pointer (some ⟨g_6, 0, none⟩)), (10, .agg (E24 x1.Cmd p1_3 p1_4 p1_5).toArray)] ∧ Sep w0 w_8 [N_8, bx g_1 26 (E26 x0 p0_0 p0_1 p0_2), bx g_2 26 (E26 x1 p1_3 p1_4 p1_5), bx g_5 24 (E24 x0.Cmd p0_0 p0_1 p0_2), bx g_6 24 [iV 0, iV 0, nS, nS, nS]] Z ∧ Mem.no.le N_8) → GD_1 1 (bA 8 127) a w_8 := by
  rintro a w_8 ⟨g_5, g_6, N_8, h, hS, le_5⟩
  refine (hGD_1 _ _ _ _).2 <| h_events [7] (by kernel_rfl) (by simp) ?_
  intro i hi; simp only [List.mem_cons, List.not_mem_nil, or_false] at hi; rcases hi with rfl
  refine ⟨_, (bA 8 255), rfl, by kernel_rfl, ?_⟩
  refine sto 4 h rfl rfl hS rfl ti24 rfl rfl rfl (oa 2 rfl (oc hp1_3.one (oc hp1_4.one (oc hp1_5.one on0)))) fun w_9 hS' => ?_
  replace hS : Sep w0 w_9 [_, _, _, _, bx g_6 24 (E24 x1.Cmd p1_3 p1_4 p1_5)] Z := hS'
  refine ne (hS.sub (.cons le_5 (.rr (.rr .nn)))) fun hs => ?_
  exact (hGD_1 _ _ _ _).1 (hD_1 _ _ ⟨g_5, g_6, N_8, (h.to rfl), (hS.sel [0, 1, 2, 3, 4] (by decide)), le_5⟩)
 have hD_3 : ∀ (a : Act) (w_10 : World), (∃ (g_7 : Nat) (g_8 : Nat) (N_9 : Mem), Fr 58 a [(2, .pointer (some ⟨g_1, 0, none⟩)), (3, .pointer (some ⟨g_2, 0, none⟩)), (4, .bool false), (5, .pointer (some ⟨g_7, 0, none⟩)), (6, .pointer (some ⟨g_8, 0, none⟩)), (8, .agg (E24 x0.Cmd p0_0 p0_1 p0_2).toArray), (10, .agg (E24 x1.Cmd p1_3 p1_4 p1_5).toArray)] ∧ Sep w0 w_10 [N_9, bx g_1 26 (E26 x0 p0_0 p0_1 p0_2), bx g_2 26 (E26 x1 p1_3 p1_4 p1_5), bx g_7 24 [iV 0, iV 0, nS, nS, nS], bx g_8 24 [iV 0, iV 0, nS, nS, nS]] Z ∧ Mem.no.le N_9) → GD_1 2 (bA 8 63) a w_10 := by
  rintro a w_10 ⟨g_7, g_8, N_9, h, hS, le_6⟩
  refine (hGD_1 _ _ _ _).2 <| h_events [6] (by kernel_rfl) (by simp) ?_
  intro i hi; simp only [List.mem_cons, List.not_mem_nil, or_false] at hi; rcases hi with rfl
  refine ⟨_, (bA 8 127), rfl, by kernel_rfl, ?_⟩
  refine sto 3 h rfl rfl hS rfl ti24 rfl rfl rfl (oa 2 rfl (oc hp0_0.one (oc hp0_1.one (oc hp0_2.one on0)))) fun w_11 hS' => ?_
  replace hS : Sep w0 w_11 [_, _, _, bx g_7 24 (E24 x0.Cmd p0_0 p0_1 p0_2), _] Z := hS'
  refine ne (hS.sub (.cons le_6 (.rr (.rr .nn)))) fun hs => ?_
  exact (hGD_1 _ _ _ _).1 (hD_2 _ _ ⟨g_7, g_8, N_9, (h.to rfl), (hS.sel [0, 1, 2, 3, 4] (by decide)), le_6⟩)
 have hD_4 : ∀ (a : Act) (w_12 : World), (∃ (g_9 : Nat) (N_10 : Mem), Fr 58 a [(2, .pointer (some ⟨g_1, 0, none⟩)), (3, .pointer (some ⟨g_2, 0, none⟩)), (4, .bool false), (5, .pointer (some ⟨g_9, 0, none⟩)), (8, .agg (E24 x0.Cmd p0_0 p0_1 p0_2).toArray), (10, .agg (E24 x1.Cmd p1_3 p1_4 p1_5).toArray)] ∧ Sep w0 w_12 [N_10, bx g_1 26 (E26 x0 p0_0 p0_1 p0_2), bx g_2 26 (E26 x1 p1_3 p1_4 p1_5), bx g_9 24 [iV 0, iV 0, nS, nS, nS]] Z ∧ Mem.no.le N_10) → GD_1 3 (bA 8 31) a w_12 := by
  rintro a w_12 ⟨g_9, N_10, h, hS, le_7⟩
  refine (hGD_1 _ _ _ _).2 <| h_events [5] (by kernel_rfl) (by simp) ?_
  intro i hi; simp only [List.mem_cons, List.not_mem_nil, or_false] at hi; rcases hi with rfl
  refine ⟨_, (bA 8 63), rfl, by kernel_rfl, ?_⟩
  refine v_alloc h rfl ti24 hS fun w_13 g_10 hS' a h => ?_
  replace hS : Sep w0 w_13 [_, _, _, _, bx g_10 24 [iV 0, iV 0, nS, nS, nS]] Z := hS'
  refine ne (hS.sub (.cons le_7 (.rr (.rr .nn)))) fun hs => ?_
  exact (hGD_1 _ _ _ _).1 (hD_3 _ _ ⟨g_9, g_10, N_10, (h.to rfl), (hS.sel [0, 1, 2, 3, 4] (by decide)), le_7⟩)
 have hD_5 : ∀ (a : Act) (w_14 : World), (∃ (g_11 : Nat) (N_11 : Mem), Fr 58 a [(2, .pointer (some ⟨g_1, 0, none⟩)), (3, .pointer (some ⟨g_2, 0, none⟩)), (4, .bool false), (6, .pointer (some ⟨g_11, 0, none⟩)), (8, .agg (E24 x0.Cmd p0_0 p0_1 p0_2).toArray), (10, .agg (E24 x1.Cmd p1_3 p1_4 p1_5).toArray)] ∧ Sep w0 w_14 [N_11, bx g_1 26 (E26 x0 p0_0 p0_1 p0_2), bx g_2 26 (E26 x1 p1_3 p1_4 p1_5), bx g_11 24 [iV 0, iV 0, nS, nS, nS]] Z ∧ Mem.no.le N_11) → GD_1 3 (bA 8 47) a w_14 := by
  rintro a w_14 ⟨g_11, N_11, h, hS, le_8⟩
  refine (hGD_1 _ _ _ _).2 <| h_events [4] (by kernel_rfl) (by simp) ?_
  intro i hi; simp only [List.mem_cons, List.not_mem_nil, or_false] at hi; rcases hi with rfl
  refine ⟨_, (bA 8 63), rfl, by kernel_rfl, ?_⟩
  refine v_alloc h rfl ti24 hS fun w_15 g_12 hS' a h => ?_
  replace hS : Sep w0 w_15 [_, _, _, _, bx g_12 24 [iV 0, iV 0, nS, nS, nS]] Z := hS'
  refine ne (hS.sub (.cons le_8 (.rr (.rr .nn)))) fun hs => ?_
  exact (hGD_1 _ _ _ _).1 (hD_3 _ _ ⟨g_12, g_11, N_11, (h.to rfl), (hS.sel [0, 1, 2, 4, 3] (by decide)), le_8⟩)
 refine (hGD_1 _ _ _ _).2 <| h_evs [4, 5] (by kernel_rfl) ⟨⟨_, (bA 8 31), rfl, by kernel_rfl, ?_⟩, ⟨_, (bA 8 47), rfl, by kernel_rfl, ?_⟩, trivial⟩
 ·refine v_alloc h rfl ti24 hS fun w_16 g_13 hS' a h => ?_
  replace hS : Sep w0 w_16 [_, _, _, bx g_13 24 [iV 0, iV 0, nS, nS, nS]] Z := hS'
  refine ne (hS.sub (.cons mr (.rr (.rr .nn)))) fun hs => ?_
  exact (hGD_1 _ _ _ _).1 (hD_4 _ _ ⟨g_13, Mem.no, (h.to rfl), (hS.sel [0, 1, 2, 3] (by decide)), mr⟩)
 ·refine v_alloc h rfl ti24 hS fun w_17 g_14 hS' a h => ?_
  replace hS : Sep w0 w_17 [_, _, _, bx g_14 24 [iV 0, iV 0, nS, nS, nS]] Z := hS'
  refine ne (hS.sub (.cons mr (.rr (.rr .nn)))) fun hs => ?_
  exact (hGD_1 _ _ _ _).1 (hD_5 _ _ ⟨g_14, Mem.no, (h.to rfl), (hS.sel [0, 1, 2, 3] (by decide)), mr⟩)

set_option maxHeartbeats 4000000 in
set_option maxRecDepth 20000 in
theorem mesg_fields.calls (K : Nat) (x0 : api_Msg) (p0_0 : Value) (p0_1 : Value) (p0_2 : Value) (p0_3 : Value) (p0_4 : Value) (p0_5 : Value) (x1 : api_Msg) (p1_6 : Value) (p1_7 : Value) (p1_8 : Value) (p1_9 : Value) (p1_10 : Value) (p1_11 : Value) (r : Bool) (w0 w : World) (Z A : Mem) (hA : A.le Z) (hS : Sep w0 w [] Z) (hp0_0 : Rd Kd.u8 A p0_0 x0.Data) (hp0_1 : Rd (Kd.int .i64) A p0_1 x0.Have) (hp0_2 : Rd (Kd.int .i64) A p0_2 x0.Need) (hp0_3 : Rd Kd.u8 A p0_3 x0.Entry.Cmd.Key) (hp0_4 : Rd Kd.u8 A p0_4 x0.Entry.Cmd.Val) (hp0_5 : Rd Kd.u8 A p0_5 x0.Entry.Cmd.Old) (hp1_6 : Rd Kd.u8 A p1_6 x1.Data) (hp1_7 : Rd (Kd.int .i64) A p1_7 x1.Have) (hp1_8 : Rd (Kd.int .i64) A p1_8 x1.Need) (hp1_9 : Rd Kd.u8 A p1_9 x1.Entry.Cmd.Key) (hp1_10 : Rd Kd.u8 A p1_10 x1.Entry.Cmd.Val) (hp1_11 : Rd Kd.u8 A p1_11 x1.Entry.Cmd.Old)
    (H : mesg_fields.f K x0 x1 = some r) :
    Calls Try.prog 90 [.agg (E56 x0 p0_0 p0_1 p0_2 p0_3 p0_4 p0_5).toArray, .agg (E56 x1 p1_6 p1_7 p1_8 p1_9 p1_10 p1_11).toArray].toArray w (Ret fun v w' => ∃ (N : Mem), v = .bool r ∧ Sep w0 w' [N] Z) := by
 unfold mesg_fields.f at H
 refine f_enter _ Try.func90 rfl Try.ntmps90 rfl fun a h=>?_
 replace h : Fr 119 a [(0, .agg (E56 x0 p0_0 p0_1 p0_2 p0_3 p0_4 p0_5).toArray), (1, .agg (E56 x1 p1_6 p1_7 p1_8 p1_9 p1_10 p1_11).toArray)] := h
 replace hS := hS.start
 refine qr <| v_box (vs := (E56 x0 p0_0 p0_1 p0_2 p0_3 p0_4 p0_5)) h rfl rfl rfl hS fun w_1 g_1 hS' a h => ?_
 replace hS : Sep w0 w_1 [_, bx g_1 56 (E56 x0 p0_0 p0_1 p0_2 p0_3 p0_4 p0_5)] Z := hS'
 refine v_box (vs := (E56 x1 p1_6 p1_7 p1_8 p1_9 p1_10 p1_11)) h rfl rfl rfl hS fun w_2 g_2 hS' a h => ?_
 replace hS : Sep w0 w_2 [_, _, bx g_2 56 (E56 x1 p1_6 p1_7 p1_8 p1_9 p1_10 p1_11)] Z := hS'
 refine sg h rfl fun a h=>nx <| c_seq fun KJ_1 hKJ_1 => qr <| s_fieldAddr h rfl U56 rfl ti3 rfl rfl fun a h=>s_load h rfl rfl (hS.load_one (p := 1) rfl U3 rfl rfl) fun a h=>nx <| c_block <| wp_seq <| wp_region_lit ?_
 refine s_cmp (b := (x0.Kind == 2)) h rfl rfl rfl (.inl ⟨rfl, rfl⟩) fun a h=>sg h rfl fun a h=>wpList_nil <| x_then_n ?_
 obtain ⟨hc_1, H⟩ | ⟨hc_1, H⟩ := ii H
 ·refine c_cond_t h rfl (bt hc_1) <| c_seq fun KJ_2 hKJ_2 => wp_region_lit <| s_fieldAddr h rfl U56 rfl ti3 rfl rfl fun a h=>s_load h rfl rfl (hS.load_one (p := 1) rfl U3 rfl rfl) fun a h=>s_fieldAddr h rfl U56 rfl ti3 rfl rfl fun a h=>s_load h rfl rfl (hS.load_one (p := 2) rfl U3 rfl rfl) fun a h=>s_cmp (b := (x0.Inst == x1.Inst)) h rfl rfl rfl (.inl ⟨rfl, rfl⟩) fun a h=>mv h rfl fun a h=>?_
  obtain ⟨hc_2, H⟩ | ⟨hc_2, H⟩ := ii H
  ·refine s_on h rfl rfl (bt hc_2) <| s_fieldAddr h rfl U56 rfl ti3 rfl rfl fun a h=>s_on h rfl rfl (bt hc_2) <| s_load h rfl rfl (hS.load_one (p := 1) rfl U3 rfl rfl) fun a h=>s_on h rfl rfl (bt hc_2) <| s_fieldAddr h rfl U56 rfl ti3 rfl rfl fun a h=>s_on h rfl rfl (bt hc_2) <| s_load h rfl rfl (hS.load_one (p := 2) rfl U3 rfl rfl) fun a h=>s_on h rfl rfl (bt hc_2) <| s_cmp (b := (x0.Len == x1.Len)) h rfl rfl rfl (.inl ⟨rfl, rfl⟩) fun a h=>pt h rfl (bt hc_2) fun a h=>mv h rfl fun a h=>?_
   obtain ⟨hc_3, H⟩ | ⟨hc_3, H⟩ := ii H
   ·refine s_on h rfl rfl (bt hc_3) <| s_fieldAddr h rfl U56 rfl ti4 rfl rfl fun a h=>s_on h rfl rfl (bt hc_3) <| s_load h rfl rfl (hS.load_one (p := 1) rfl U4 rfl rfl) fun a h=>s_on h rfl rfl (bt hc_3) <| s_fieldAddr h rfl U56 rfl ti4 rfl rfl fun a h=>s_on h rfl rfl (bt hc_3) <| s_load h rfl rfl (hS.load_one (p := 2) rfl U4 rfl rfl) fun a h=>s_on h rfl rfl (bt hc_3) <| s_beq (b := (x0.Has == x1.Has)) h rfl U4 rfl rfl (.inl ⟨rfl, rfl⟩) fun a h=>pt h rfl (bt hc_3) fun a h=>sg h rfl fun a h=>?_
    refine wpList_nil ?_
    replace h : Fr 119 a [(4, .bool (x0.Has == x1.Has))] := h.keep [4]
    refine x_then_n (hKJ_2 _ _ ?_)
    refine wp_ret (x_block_r (x_then_r ?_))
    obtain rfl := Option.some.inj H
    exact r1 h 4 rfl rfl ⟨_, rfl, Mem.no, rfl, (hS.sel [0] (by decide))⟩
   ·refine of h rfl rfl (bf hc_3) fun a h=>of h rfl rfl (bf hc_3) fun a h=>of h rfl rfl (bf hc_3) fun a h=>of h rfl rfl (bf hc_3) fun a h=>of h rfl rfl (bf hc_3) fun a h=>pf h rfl (bf hc_3) fun a h=>sg h rfl fun a h=>wpList_nil ?_
    replace h : Fr 119 a [(4, .bool false)] := h.keep [4]
    refine x_then_n (hKJ_2 _ _ ?_)
    refine wp_ret (x_block_r (x_then_r ?_))
    obtain rfl := Option.some.inj H
    exact r1 h 4 rfl rfl ⟨_, rfl, Mem.no, rfl, (hS.sel [0] (by decide))⟩
  ·refine of h rfl rfl (bf hc_2) fun a h=>of h rfl rfl (bf hc_2) fun a h=>of h rfl rfl (bf hc_2) fun a h=>of h rfl rfl (bf hc_2) fun a h=>of h rfl rfl (bf hc_2) fun a h=>pf h rfl (bf hc_2) fun a h=>mv h rfl fun a h=>oo h rfl rfl fun a h=>oo h rfl rfl fun a h=>oo h rfl rfl fun a h=>oo h rfl rfl fun a h=>oo h rfl rfl fun a h=>?_
   refine pf h rfl rfl fun a h=>sg h rfl fun a h=>wpList_nil ?_
   replace h : Fr 119 a [(4, .bool false)] := h.keep [4]
   refine x_then_n (hKJ_2 _ _ ?_)
   refine wp_ret (x_block_r (x_then_r ?_))
   obtain rfl := Option.some.inj H
   exact r1 h 4 rfl rfl ⟨_, rfl, Mem.no, rfl, (hS.sel [0] (by decide))⟩
 ·refine c_cond_f h rfl (bf hc_1) <| qr <| s_cmp (b := (x0.Kind == 3)) h rfl rfl rfl (.inl ⟨rfl, rfl⟩) fun a h=>sg h rfl fun a h=>wpList_nil ?_
  replace h : Fr 119 a [(2, .pointer (some ⟨g_1, 0, none⟩)), (3, .pointer (some ⟨g_2, 0, none⟩)), (4, .bool false), (6, iV x0.Kind), (28, .bool (x0.Kind == 3))] := h.keep [2, 3, 4, 6, 28]
  refine x_then_n ?_
  obtain ⟨hc_4, H⟩ | ⟨hc_4, H⟩ := ii H
  ·refine c_cond_t h rfl (bt hc_4) <| c_seq fun KJ_3 hKJ_3 => wp_region_lit <| s_fieldAddr h rfl U56 rfl ti3 rfl rfl fun a h=>s_load h rfl rfl (hS.load_one (p := 1) rfl U3 rfl rfl) fun a h=>s_fieldAddr h rfl U56 rfl ti3 rfl rfl fun a h=>s_load h rfl rfl (hS.load_one (p := 2) rfl U3 rfl rfl) fun a h=>s_cmp (b := (x0.Members == x1.Members)) h rfl rfl rfl (.inl ⟨rfl, rfl⟩) fun a h=>mv h rfl fun a h=>?_
   obtain ⟨hc_5, H⟩ | ⟨hc_5, H⟩ := ii H
   ·refine s_on h rfl rfl (bt hc_5) <| s_fieldAddr h rfl U56 rfl ti3 rfl rfl fun a h=>s_on h rfl rfl (bt hc_5) <| s_load h rfl rfl (hS.load_one (p := 1) rfl U3 rfl rfl) fun a h=>s_on h rfl rfl (bt hc_5) <| s_fieldAddr h rfl U56 rfl ti3 rfl rfl fun a h=>s_on h rfl rfl (bt hc_5) <| s_load h rfl rfl (hS.load_one (p := 2) rfl U3 rfl rfl) fun a h=>s_on h rfl rfl (bt hc_5) <| s_cmp (b := (x0.Source == x1.Source)) h rfl rfl rfl (.inl ⟨rfl, rfl⟩) fun a h=>pt h rfl (bt hc_5) fun a h=>mv h rfl fun a h=>?_
    obtain ⟨hc_6, H⟩ | ⟨hc_6, H⟩ := ii H
    ·refine s_on h rfl rfl (bt hc_6) <| s_fieldAddr h rfl U56 rfl ti3 rfl rfl fun a h=>s_on h rfl rfl (bt hc_6) <| s_load h rfl rfl (hS.load_one (p := 1) rfl U3 rfl rfl) fun a h=>s_on h rfl rfl (bt hc_6) <| s_fieldAddr h rfl U56 rfl ti3 rfl rfl fun a h=>s_on h rfl rfl (bt hc_6) <| s_load h rfl rfl (hS.load_one (p := 2) rfl U3 rfl rfl) fun a h=>s_on h rfl rfl (bt hc_6) <| s_cmp (b := (x0.Len == x1.Len)) h rfl rfl rfl (.inl ⟨rfl, rfl⟩) fun a h=>pt h rfl (bt hc_6) fun a h=>sg h rfl fun a h=>?_
     refine wpList_nil <| x_then_n (hKJ_3 _ _ ?_)
     refine wp_ret (x_block_r (x_then_r ?_))
     obtain rfl := Option.some.inj H
     exact r1 h 4 rfl rfl ⟨_, rfl, Mem.no, rfl, (hS.sel [0] (by decide))⟩
    ·refine of h rfl rfl (bf hc_6) fun a h=>of h rfl rfl (bf hc_6) fun a h=>of h rfl rfl (bf hc_6) fun a h=>of h rfl rfl (bf hc_6) fun a h=>of h rfl rfl (bf hc_6) fun a h=>pf h rfl (bf hc_6) fun a h=>sg h rfl fun a h=>wpList_nil <| x_then_n (hKJ_3 _ _ ?_)
     refine wp_ret (x_block_r (x_then_r ?_))
     obtain rfl := Option.some.inj H
     exact r1 h 4 rfl rfl ⟨_, rfl, Mem.no, rfl, (hS.sel [0] (by decide))⟩
   ·refine of h rfl rfl (bf hc_5) fun a h=>of h rfl rfl (bf hc_5) fun a h=>of h rfl rfl (bf hc_5) fun a h=>of h rfl rfl (bf hc_5) fun a h=>of h rfl rfl (bf hc_5) fun a h=>pf h rfl (bf hc_5) fun a h=>mv h rfl fun a h=>oo h rfl rfl fun a h=>oo h rfl rfl fun a h=>oo h rfl rfl fun a h=>oo h rfl rfl fun a h=>oo h rfl rfl fun a h=>?_
    refine pf h rfl rfl fun a h=>sg h rfl fun a h=>wpList_nil <| x_then_n (hKJ_3 _ _ ?_)
    refine wp_ret (x_block_r (x_then_r ?_))
    obtain rfl := Option.some.inj H
    exact r1 h 4 rfl rfl ⟨_, rfl, Mem.no, rfl, (hS.sel [0] (by decide))⟩
  ·refine c_cond_f h rfl (bf hc_4) <| qr <| s_cmp (b := (x0.Kind == 4)) h rfl rfl rfl (.inl ⟨rfl, rfl⟩) fun a h=>sg h rfl fun a h=>wpList_nil <| x_then_n ?_
   obtain ⟨hc_7, H⟩ | ⟨hc_7, H⟩ := ii H
   ·refine c_cond_t h rfl (bt hc_7) <| qr <| s_fieldAddr h rfl U56 rfl ti3 rfl rfl fun a h=>s_load h rfl rfl (hS.load_one (p := 1) rfl U3 rfl rfl) fun a h=>s_fieldAddr h rfl U56 rfl ti3 rfl rfl fun a h=>s_load h rfl rfl (hS.load_one (p := 2) rfl U3 rfl rfl) fun a h=>s_cmp (b := (x0.At == x1.At)) h rfl rfl rfl (.inl ⟨rfl, rfl⟩) fun a h=>sg h rfl fun a h=>nx <| wp_ret (x_block_r (x_then_r ?_))
    obtain rfl := Option.some.inj H
    exact r1 h 4 rfl rfl ⟨_, rfl, Mem.no, rfl, (hS.sel [0] (by decide))⟩
   ·refine c_cond_f h rfl (bf hc_7) <| qr <| s_cmp (b := (x0.Kind == 5)) h rfl rfl rfl (.inl ⟨rfl, rfl⟩) fun a h=>sg h rfl fun a h=>wpList_nil <| x_then_n ?_
    obtain ⟨hc_8, H⟩ | ⟨hc_8, H⟩ := ii H
    ·refine c_cond_t h rfl (bt hc_8) <| c_seq fun KJ_4 hKJ_4 => wp_region_lit <| s_fieldAddr h rfl U56 rfl ti3 rfl rfl fun a h=>s_load h rfl rfl (hS.load_one (p := 1) rfl U3 rfl rfl) fun a h=>s_fieldAddr h rfl U56 rfl ti3 rfl rfl fun a h=>s_load h rfl rfl (hS.load_one (p := 2) rfl U3 rfl rfl) fun a h=>s_cmp (b := (x0.At == x1.At)) h rfl rfl rfl (.inl ⟨rfl, rfl⟩) fun a h=>mv h rfl fun a h=>?_
     obtain ⟨hc_9, H⟩ | ⟨hc_9, H⟩ := ii H
     ·refine s_on h rfl rfl (bt hc_9) <| s_fieldAddr h rfl U56 rfl ti3 rfl rfl fun a h=>s_on h rfl rfl (bt hc_9) <| s_load h rfl rfl (hS.load_one (p := 1) rfl U3 rfl rfl) fun a h=>s_on h rfl rfl (bt hc_9) <| s_fieldAddr h rfl U56 rfl ti3 rfl rfl fun a h=>s_on h rfl rfl (bt hc_9) <| s_load h rfl rfl (hS.load_one (p := 2) rfl U3 rfl rfl) fun a h=>s_on h rfl rfl (bt hc_9) <| s_cmp (b := (x0.Total == x1.Total)) h rfl rfl rfl (.inl ⟨rfl, rfl⟩) fun a h=>pt h rfl (bt hc_9) fun a h=>mv h rfl fun a h=>?_
      obtain ⟨hc_10, H⟩ | ⟨hc_10, H⟩ := ii H
      ·refine s_on h rfl rfl (bt hc_10) <| s_fieldAddr h rfl U56 rfl ti22 rfl rfl fun a h=>s_on h rfl rfl (bt hc_10) <| s_load h rfl rfl (hS.load_one (p := 1) rfl U22 rfl rfl) fun a h=>s_on h rfl rfl (bt hc_10) <| s_fieldAddr h rfl U56 rfl ti22 rfl rfl fun a h=>s_on h rfl rfl (bt hc_10) <| s_load h rfl rfl (hS.load_one (p := 2) rfl U22 rfl rfl) fun a h=>s_on h rfl rfl (bt hc_10) ?_
       obtain ⟨t_1, et_1, H⟩ := bs H
       refine s_call h rfl Try.call116 rfl (bytes_Equal.calls x0.Data _ x1.Data _ t_1 w0 _ _ _ mr (hS.enter [] (by decide)) (hp0_0.mono (hA.trans (hS.le_zed []))) (hp1_6.mono (hA.trans (hS.le_zed []))) et_1) ?_
       rintro _ w_3 ⟨N_1, rfl, hS'⟩
       intro a h
       obtain ⟨N_2, hS'', le_1, ln_1⟩ := hS.call [] (by decide) rfl (l' := []) (ow := []) rfl hS'
       replace hS : Sep w0 w_3 [N_2, _, _] Z := hS''
       refine pt h rfl (bt hc_10) fun a h=>sg h rfl fun a h=>wpList_nil <| x_then_n (hKJ_4 _ _ ?_)
       refine wp_ret (x_block_r (x_then_r ?_))
       obtain rfl := Option.some.inj H
       exact r1 h 4 rfl rfl ⟨_, rfl, N_2, rfl, (hS.sel [0] (by decide))⟩
      ·refine of h rfl rfl (bf hc_10) fun a h=>of h rfl rfl (bf hc_10) fun a h=>of h rfl rfl (bf hc_10) fun a h=>of h rfl rfl (bf hc_10) fun a h=>of h rfl rfl (bf hc_10) fun a h=>pf h rfl (bf hc_10) fun a h=>sg h rfl fun a h=>wpList_nil <| x_then_n (hKJ_4 _ _ ?_)
       refine wp_ret (x_block_r (x_then_r ?_))
       obtain rfl := Option.some.inj H
       exact r1 h 4 rfl rfl ⟨_, rfl, Mem.no, rfl, (hS.sel [0] (by decide))⟩
     ·refine of h rfl rfl (bf hc_9) fun a h=>of h rfl rfl (bf hc_9) fun a h=>of h rfl rfl (bf hc_9) fun a h=>of h rfl rfl (bf hc_9) fun a h=>of h rfl rfl (bf hc_9) fun a h=>pf h rfl (bf hc_9) fun a h=>mv h rfl fun a h=>oo h rfl rfl fun a h=>oo h rfl rfl fun a h=>oo h rfl rfl fun a h=>oo h rfl rfl fun a h=>oo h rfl rfl fun a h=>?_
      refine pf h rfl rfl fun a h=>sg h rfl fun a h=>wpList_nil <| x_then_n (hKJ_4 _ _ ?_)
      refine wp_ret (x_block_r (x_then_r ?_))
      obtain rfl := Option.some.inj H
      exact r1 h 4 rfl rfl ⟨_, rfl, Mem.no, rfl, (hS.sel [0] (by decide))⟩
    ·refine c_cond_f h rfl (bf hc_8) <| qr <| s_cmp (b := (x0.Kind == 7)) h rfl rfl rfl (.inl ⟨rfl, rfl⟩) fun a h=>sg h rfl fun a h=>wpList_nil <| x_then_n ?_
     obtain ⟨hc_11, H⟩ | ⟨hc_11, H⟩ := ii H
     ·refine c_cond_t h rfl (bt hc_11) <| c_seq fun KJ_5 hKJ_5 => wp_region_lit <| s_fieldAddr h rfl U56 rfl ti3 rfl rfl fun a h=>s_load h rfl rfl (hS.load_one (p := 1) rfl U3 rfl rfl) fun a h=>s_fieldAddr h rfl U56 rfl ti3 rfl rfl fun a h=>s_load h rfl rfl (hS.load_one (p := 2) rfl U3 rfl rfl) fun a h=>s_cmp (b := (x0.Hop == x1.Hop)) h rfl rfl rfl (.inl ⟨rfl, rfl⟩) fun a h=>mv h rfl fun a h=>?_
      obtain ⟨hc_12, H⟩ | ⟨hc_12, H⟩ := ii H
      ·refine s_on h rfl rfl (bt hc_12) <| s_fieldAddr h rfl U56 rfl ti3 rfl rfl fun a h=>s_on h rfl rfl (bt hc_12) <| s_load h rfl rfl (hS.load_one (p := 1) rfl U3 rfl rfl) fun a h=>s_on h rfl rfl (bt hc_12) <| s_fieldAddr h rfl U56 rfl ti3 rfl rfl fun a h=>s_on h rfl rfl (bt hc_12) <| s_load h rfl rfl (hS.load_one (p := 2) rfl U3 rfl rfl) fun a h=>s_on h rfl rfl (bt hc_12) <| s_cmp (b := (x0.Seq == x1.Seq)) h rfl rfl rfl (.inl ⟨rfl, rfl⟩) fun a h=>pt h rfl (bt hc_12) fun a h=>mv h rfl fun a h=>?_
       obtain ⟨hc_13, H⟩ | ⟨hc_13, H⟩ := ii H
       ·refine s_on h rfl rfl (bt hc_13) <| s_fieldAddr h rfl U56 rfl ti29 rfl rfl fun a h=>s_on h rfl rfl (bt hc_13) <| s_load h rfl rfl (hS.load_one (p := 1) rfl U29 rfl rfl) fun a h=>s_on h rfl rfl (bt hc_13) <| s_fieldAddr h rfl U56 rfl ti29 rfl rfl fun a h=>s_on h rfl rfl (bt hc_13) <| s_load h rfl rfl (hS.load_one (p := 2) rfl U29 rfl rfl) fun a h=>s_on h rfl rfl (bt hc_13) ?_
        obtain ⟨t_2, et_2, H⟩ := bs H
        refine s_call h rfl Try.call117 rfl (slices_Equal_sint_int.calls K x0.Have _ x1.Have _ t_2 w0 _ _ _ mr (hS.enter [] (by decide)) (hp0_1.mono (hA.trans (hS.le_zed []))) (hp1_7.mono (hA.trans (hS.le_zed []))) et_2) ?_
        rintro _ w_4 ⟨N_3, rfl, hS'⟩
        intro a h
        obtain ⟨N_4, hS'', le_2, ln_2⟩ := hS.call [] (by decide) rfl (l' := []) (ow := []) rfl hS'
        replace hS : Sep w0 w_4 [N_4, _, _] Z := hS''
        refine pt h rfl (bt hc_13) fun a h=>mv h rfl fun a h=>?_
        obtain ⟨hc_14, H⟩ | ⟨hc_14, H⟩ := ii H
        ·refine s_on h rfl rfl hc_14 <| s_fieldAddr h rfl U56 rfl ti29 rfl rfl fun a h=>s_on h rfl rfl hc_14 <| s_load h rfl rfl (hS.load_one (p := 1) rfl U29 rfl rfl) fun a h=>s_on h rfl rfl hc_14 <| s_fieldAddr h rfl U56 rfl ti29 rfl rfl fun a h=>s_on h rfl rfl hc_14 <| s_load h rfl rfl (hS.load_one (p := 2) rfl U29 rfl rfl) fun a h=>s_on h rfl rfl hc_14 ?_
         obtain ⟨t_3, et_3, H⟩ := bs H
         refine s_call h rfl Try.call117 rfl (slices_Equal_sint_int.calls K x0.Need _ x1.Need _ t_3 w0 _ _ _ mr (hS.enter [] (by decide)) (hp0_2.mono (hA.trans (hS.le_zed []))) (hp1_8.mono (hA.trans (hS.le_zed []))) et_3) ?_
         rintro _ w_5 ⟨N_5, rfl, hS'⟩
         intro a h
         obtain ⟨N_6, hS'', le_3, ln_3⟩ := hS.call [] (by decide) rfl (l' := []) (ow := []) rfl hS'
         replace hS : Sep w0 w_5 [N_6, _, _] Z := hS''
         refine pt h rfl hc_14 fun a h=>sg h rfl fun a h=>wpList_nil ?_
         replace h : Fr 119 a [(4, .bool t_3)] := h.keep [4]
         refine x_then_n (hKJ_5 _ _ ?_)
         refine wp_ret (x_block_r (x_then_r ?_))
         obtain rfl := Option.some.inj H
         exact r1 h 4 rfl rfl ⟨_, rfl, N_6, rfl, (hS.sel [0] (by decide))⟩
        ·refine of h rfl rfl (ef hc_14) fun a h=>of h rfl rfl (ef hc_14) fun a h=>of h rfl rfl (ef hc_14) fun a h=>of h rfl rfl (ef hc_14) fun a h=>of h rfl rfl (ef hc_14) fun a h=>pf h rfl (ef hc_14) fun a h=>sg h rfl fun a h=>wpList_nil ?_
         replace h : Fr 119 a [(4, _)] := h.keep [4]
         refine x_then_n (hKJ_5 _ _ ?_)
         refine wp_ret (x_block_r (x_then_r ?_))
         obtain rfl := Option.some.inj H
         exact r1 h 4 rfl rfl ⟨_, rfl, N_4, rfl, (hS.sel [0] (by decide))⟩
       ·refine of h rfl rfl (bf hc_13) fun a h=>of h rfl rfl (bf hc_13) fun a h=>of h rfl rfl (bf hc_13) fun a h=>of h rfl rfl (bf hc_13) fun a h=>of h rfl rfl (bf hc_13) fun a h=>pf h rfl (bf hc_13) fun a h=>mv h rfl fun a h=>oo h rfl rfl fun a h=>oo h rfl rfl fun a h=>oo h rfl rfl fun a h=>oo h rfl rfl fun a h=>oo h rfl rfl fun a h=>?_
        refine pf h rfl rfl fun a h=>sg h rfl fun a h=>wpList_nil ?_
        replace h : Fr 119 a [(4, _)] := h.keep [4]
        refine x_then_n (hKJ_5 _ _ ?_)
        refine wp_ret (x_block_r (x_then_r ?_))
        obtain rfl := Option.some.inj H
        exact r1 h 4 rfl rfl ⟨_, rfl, Mem.no, rfl, (hS.sel [0] (by decide))⟩
      ·refine of h rfl rfl (bf hc_12) fun a h=>of h rfl rfl (bf hc_12) fun a h=>of h rfl rfl (bf hc_12) fun a h=>of h rfl rfl (bf hc_12) fun a h=>of h rfl rfl (bf hc_12) fun a h=>pf h rfl (bf hc_12) fun a h=>mv h rfl fun a h=>oo h rfl rfl fun a h=>oo h rfl rfl fun a h=>oo h rfl rfl fun a h=>oo h rfl rfl fun a h=>oo h rfl rfl fun a h=>?_
       refine pf h rfl rfl fun a h=>mv h rfl fun a h=>oo h rfl rfl fun a h=>oo h rfl rfl fun a h=>oo h rfl rfl fun a h=>oo h rfl rfl fun a h=>oo h rfl rfl fun a h=>pf h rfl rfl fun a h=>sg h rfl fun a h=>wpList_nil ?_
       replace h : Fr 119 a [(4, _)] := h.keep [4]
       refine x_then_n (hKJ_5 _ _ ?_)
       refine wp_ret (x_block_r (x_then_r ?_))
       obtain rfl := Option.some.inj H
       exact r1 h 4 rfl rfl ⟨_, rfl, Mem.no, rfl, (hS.sel [0] (by decide))⟩
     ·refine c_cond_f h rfl (bf hc_11) <| qr <| s_cmp (b := (x0.Kind == 8)) h rfl rfl rfl (.inl ⟨rfl, rfl⟩) fun a h=>sg h rfl fun a h=>wpList_nil ?_
      replace h : Fr 119 a [(2, _), (3, _), (4, _), (105, .bool (x0.Kind == 8))] := h.keep [2, 3, 4, 105]
      refine x_then_n ?_
      obtain ⟨hc_15, H⟩ | ⟨hc_15, H⟩ := ii H
      ·refine c_cond_t h rfl (bt hc_15) <| c_seq fun KJ_6 hKJ_6 => wp_region_lit <| s_fieldAddr h rfl U56 rfl ti3 rfl rfl fun a h=>s_load h rfl rfl (hS.load_one (p := 1) rfl U3 rfl rfl) fun a h=>s_fieldAddr h rfl U56 rfl ti3 rfl rfl fun a h=>s_load h rfl rfl (hS.load_one (p := 2) rfl U3 rfl rfl) fun a h=>s_cmp (b := (x0.Index == x1.Index)) h rfl rfl rfl (.inl ⟨rfl, rfl⟩) fun a h=>mv h rfl fun a h=>?_
       obtain ⟨hc_16, H⟩ | ⟨hc_16, H⟩ := ii H
       ·refine s_on h rfl rfl (bt hc_16) <| s_fieldAddr h rfl U56 rfl ti26 rfl rfl fun a h=>s_on h rfl rfl (bt hc_16) <| s_load h rfl rfl (hS.load_agg (p := 1) (us := (E26 x0.Entry p0_3 p0_4 p0_5)) rfl U26 rfl ti26 rfl rfl) fun a h=>s_on h rfl rfl (bt hc_16) <| s_fieldAddr h rfl U56 rfl ti26 rfl rfl fun a h=>s_on h rfl rfl (bt hc_16) <| s_load h rfl rfl (hS.load_agg (p := 2) (us := (E26 x1.Entry p1_9 p1_10 p1_11)) rfl U26 rfl ti26 rfl rfl) fun a h=>s_on h rfl rfl (bt hc_16) ?_
        obtain ⟨t_4, et_4, H⟩ := bs H
        refine s_call h rfl Try.call118 rfl (mach_SameEntry.calls x0.Entry _ _ _ x1.Entry _ _ _ t_4 w0 _ _ _ mr (hS.enter [] (by decide)) (hp0_3.mono (hA.trans (hS.le_zed []))) (hp0_4.mono (hA.trans (hS.le_zed []))) (hp0_5.mono (hA.trans (hS.le_zed []))) (hp1_9.mono (hA.trans (hS.le_zed []))) (hp1_10.mono (hA.trans (hS.le_zed []))) (hp1_11.mono (hA.trans (hS.le_zed []))) et_4) ?_
        rintro _ w_6 ⟨N_7, rfl, hS'⟩
        intro a h
        obtain ⟨N_8, hS'', le_4, ln_4⟩ := hS.call [] (by decide) rfl (l' := []) (ow := []) rfl hS'
        replace hS : Sep w0 w_6 [N_8, _, _] Z := hS''
        refine pt h rfl (bt hc_16) fun a h=>sg h rfl fun a h=>wpList_nil <| x_then_n (hKJ_6 _ _ ?_)
        refine wp_ret (x_block_r (x_then_r ?_))
        obtain rfl := Option.some.inj H
        exact r1 h 4 rfl rfl ⟨_, rfl, N_8, rfl, (hS.sel [0] (by decide))⟩
       ·refine of h rfl rfl (bf hc_16) fun a h=>of h rfl rfl (bf hc_16) fun a h=>of h rfl rfl (bf hc_16) fun a h=>of h rfl rfl (bf hc_16) fun a h=>of h rfl rfl (bf hc_16) fun a h=>pf h rfl (bf hc_16) fun a h=>sg h rfl fun a h=>wpList_nil <| x_then_n (hKJ_6 _ _ ?_)
        refine wp_ret (x_block_r (x_then_r ?_))
        obtain rfl := Option.some.inj H
        exact r1 h 4 rfl rfl ⟨_, rfl, Mem.no, rfl, (hS.sel [0] (by decide))⟩
      ·refine c_cond_f h rfl (bf hc_15) <| wp_skip <| x_block_n <| x_then_n (hKJ_1 _ _ ?_)
       refine qr <| sg h rfl fun a h=>nx <| wp_ret ?_
       obtain rfl := Option.some.inj H
       exact r1 h 4 rfl rfl ⟨_, rfl, Mem.no, rfl, (hS.sel [0] (by decide))⟩

set_option maxHeartbeats 4000000 in
set_option maxRecDepth 20000 in
theorem mesg_alike.calls (K : Nat) (x0 : api_Msg) (p0_0 : Value) (p0_1 : Value) (p0_2 : Value) (p0_3 : Value) (p0_4 : Value) (p0_5 : Value) (x1 : api_Msg) (p1_6 : Value) (p1_7 : Value) (p1_8 : Value) (p1_9 : Value) (p1_10 : Value) (p1_11 : Value) (r : Bool) (w0 w : World) (Z A : Mem) (hA : A.le Z) (hS : Sep w0 w [] Z) (hp0_0 : Rd Kd.u8 A p0_0 x0.Data) (hp0_1 : Rd (Kd.int .i64) A p0_1 x0.Have) (hp0_2 : Rd (Kd.int .i64) A p0_2 x0.Need) (hp0_3 : Rd Kd.u8 A p0_3 x0.Entry.Cmd.Key) (hp0_4 : Rd Kd.u8 A p0_4 x0.Entry.Cmd.Val) (hp0_5 : Rd Kd.u8 A p0_5 x0.Entry.Cmd.Old) (hp1_6 : Rd Kd.u8 A p1_6 x1.Data) (hp1_7 : Rd (Kd.int .i64) A p1_7 x1.Have) (hp1_8 : Rd (Kd.int .i64) A p1_8 x1.Need) (hp1_9 : Rd Kd.u8 A p1_9 x1.Entry.Cmd.Key) (hp1_10 : Rd Kd.u8 A p1_10 x1.Entry.Cmd.Val) (hp1_11 : Rd Kd.u8 A p1_11 x1.Entry.Cmd.Old)
    (H : mesg_alike.f K x0 x1 = some r) :
    Calls Try.prog 73 [.agg (E56 x0 p0_0 p0_1 p0_2 p0_3 p0_4 p0_5).toArray, .agg (E56 x1 p1_6 p1_7 p1_8 p1_9 p1_10 p1_11).toArray].toArray w (Ret fun v w' => ∃ (N : Mem), v = .bool r ∧ Sep w0 w' [N] Z) := by
 unfold mesg_alike.f at H
 refine f_enter _ Try.func73 rfl Try.ntmps73 rfl fun a h=>?_
 replace h : Fr 36 a [(0, .agg (E56 x0 p0_0 p0_1 p0_2 p0_3 p0_4 p0_5).toArray), (1, .agg (E56 x1 p1_6 p1_7 p1_8 p1_9 p1_10 p1_11).toArray)] := h
 replace hS := hS.start
 refine qr <| v_box (vs := (E56 x0 p0_0 p0_1 p0_2 p0_3 p0_4 p0_5)) h rfl rfl rfl hS fun w_1 g_1 hS' a h => ?_
 replace hS : Sep w0 w_1 [_, bx g_1 56 (E56 x0 p0_0 p0_1 p0_2 p0_3 p0_4 p0_5)] Z := hS'
 refine v_box (vs := (E56 x1 p1_6 p1_7 p1_8 p1_9 p1_10 p1_11)) h rfl rfl rfl hS fun w_2 g_2 hS' a h => ?_
 replace hS : Sep w0 w_2 [_, _, bx g_2 56 (E56 x1 p1_6 p1_7 p1_8 p1_9 p1_10 p1_11)] Z := hS'
 refine sg h rfl fun a h=>nx <| c_seq fun KJ_1 hKJ_1 => wp_region_lit <| s_fieldAddr h rfl U56 rfl ti3 rfl rfl fun a h=>s_load h rfl rfl (hS.load_one (p := 1) rfl U3 rfl rfl) fun a h=>s_fieldAddr h rfl U56 rfl ti3 rfl rfl fun a h=>s_load h rfl rfl (hS.load_one (p := 2) rfl U3 rfl rfl) fun a h=>s_cmp (b := (x0.Kind == x1.Kind)) h rfl rfl rfl (.inl ⟨rfl, rfl⟩) fun a h=>mv h rfl fun a h=>?_
 obtain ⟨hc_1, H⟩ | ⟨hc_1, H⟩ := ii H
 ·refine s_on h rfl rfl (bt hc_1) <| s_fieldAddr h rfl U56 rfl ti3 rfl rfl fun a h=>s_on h rfl rfl (bt hc_1) <| s_load h rfl rfl (hS.load_one (p := 1) rfl U3 rfl rfl) fun a h=>s_on h rfl rfl (bt hc_1) <| s_fieldAddr h rfl U56 rfl ti3 rfl rfl fun a h=>s_on h rfl rfl (bt hc_1) <| s_load h rfl rfl (hS.load_one (p := 2) rfl U3 rfl rfl) fun a h=>s_on h rfl rfl (bt hc_1) <| s_cmp (b := (x0.From == x1.From)) h rfl rfl rfl (.inl ⟨rfl, rfl⟩) fun a h=>pt h rfl (bt hc_1) fun a h=>mv h rfl fun a h=>?_
  obtain ⟨hc_2, H⟩ | ⟨hc_2, H⟩ := ii H
  ·refine s_on h rfl rfl (bt hc_2) <| s_fieldAddr h rfl U56 rfl ti3 rfl rfl fun a h=>s_on h rfl rfl (bt hc_2) <| s_load h rfl rfl (hS.load_one (p := 1) rfl U3 rfl rfl) fun a h=>s_on h rfl rfl (bt hc_2) <| s_fieldAddr h rfl U56 rfl ti3 rfl rfl fun a h=>s_on h rfl rfl (bt hc_2) <| s_load h rfl rfl (hS.load_one (p := 2) rfl U3 rfl rfl) fun a h=>s_on h rfl rfl (bt hc_2) <| s_cmp (b := (x0.To == x1.To)) h rfl rfl rfl (.inl ⟨rfl, rfl⟩) fun a h=>pt h rfl (bt hc_2) fun a h=>mv h rfl fun a h=>?_
   obtain ⟨hc_3, H⟩ | ⟨hc_3, H⟩ := ii H
   ·refine s_on h rfl rfl (bt hc_3) <| s_fieldAddr h rfl U56 rfl ti3 rfl rfl fun a h=>s_on h rfl rfl (bt hc_3) <| s_load h rfl rfl (hS.load_one (p := 1) rfl U3 rfl rfl) fun a h=>s_on h rfl rfl (bt hc_3) <| s_fieldAddr h rfl U56 rfl ti3 rfl rfl fun a h=>s_on h rfl rfl (bt hc_3) <| s_load h rfl rfl (hS.load_one (p := 2) rfl U3 rfl rfl) fun a h=>s_on h rfl rfl (bt hc_3) <| s_cmp (b := (x0.View == x1.View)) h rfl rfl rfl (.inl ⟨rfl, rfl⟩) fun a h=>pt h rfl (bt hc_3) fun a h=>mv h rfl fun a h=>?_
    obtain ⟨hc_4, H⟩ | ⟨hc_4, H⟩ := ii H
    ·refine s_on h rfl rfl (bt hc_4) <| s_load h rfl rfl (hS.load_agg (p := 1) (us := (E56 x0 p0_0 p0_1 p0_2 p0_3 p0_4 p0_5)) rfl U56 rfl ti56 rfl rfl) fun a h=>s_on h rfl rfl (bt hc_4) <| s_load h rfl rfl (hS.load_agg (p := 2) (us := (E56 x1 p1_6 p1_7 p1_8 p1_9 p1_10 p1_11)) rfl U56 rfl ti56 rfl rfl) fun a h=>s_on h rfl rfl (bt hc_4) ?_
     obtain ⟨t_1, et_1, H⟩ := bs H
     refine s_call h rfl Try.call90 rfl (mesg_fields.calls K x0 _ _ _ _ _ _ x1 _ _ _ _ _ _ t_1 w0 _ _ _ mr (hS.enter [] (by decide)) (hp0_0.mono (hA.trans (hS.le_zed []))) (hp0_1.mono (hA.trans (hS.le_zed []))) (hp0_2.mono (hA.trans (hS.le_zed []))) (hp0_3.mono (hA.trans (hS.le_zed []))) (hp0_4.mono (hA.trans (hS.le_zed []))) (hp0_5.mono (hA.trans (hS.le_zed []))) (hp1_6.mono (hA.trans (hS.le_zed []))) (hp1_7.mono (hA.trans (hS.le_zed []))) (hp1_8.mono (hA.trans (hS.le_zed []))) (hp1_9.mono (hA.trans (hS.le_zed []))) (hp1_10.mono (hA.trans (hS.le_zed []))) (hp1_11.mono (hA.trans (hS.le_zed []))) et_1) ?_
     rintro _ w_3 ⟨N_1, rfl, hS'⟩
     intro a h
     obtain ⟨N_2, hS'', le_1, ln_1⟩ := hS.call [] (by decide) rfl (l' := []) (ow := []) rfl hS'
     replace hS : Sep w0 w_3 [N_2, _, _] Z := hS''
     refine pt h rfl (bt hc_4) fun a h=>sg h rfl fun a h=>wpList_nil <| x_then_n (hKJ_1 _ _ ?_)
     refine wp_ret ?_
     obtain rfl := Option.some.inj H
     exact r1 h 4 rfl rfl ⟨_, rfl, N_2, rfl, (hS.sel [0] (by decide))⟩
    ·refine of h rfl rfl (bf hc_4) fun a h=>of h rfl rfl (bf hc_4) fun a h=>of h rfl rfl (bf hc_4) fun a h=>pf h rfl (bf hc_4) fun a h=>sg h rfl fun a h=>wpList_nil <| x_then_n (hKJ_1 _ _ ?_)
     refine wp_ret ?_
     obtain rfl := Option.some.inj H
     exact r1 h 4 rfl rfl ⟨_, rfl, Mem.no, rfl, (hS.sel [0] (by decide))⟩
   ·refine of h rfl rfl (bf hc_3) fun a h=>of h rfl rfl (bf hc_3) fun a h=>of h rfl rfl (bf hc_3) fun a h=>of h rfl rfl (bf hc_3) fun a h=>of h rfl rfl (bf hc_3) fun a h=>pf h rfl (bf hc_3) fun a h=>mv h rfl fun a h=>oo h rfl rfl fun a h=>oo h rfl rfl fun a h=>oo h rfl rfl fun a h=>pf h rfl rfl fun a h=>sg h rfl fun a h=>?_
    refine wpList_nil <| x_then_n (hKJ_1 _ _ ?_)
    refine wp_ret ?_
    obtain rfl := Option.some.inj H
    exact r1 h 4 rfl rfl ⟨_, rfl, Mem.no, rfl, (hS.sel [0] (by decide))⟩
  ·refine of h rfl rfl (bf hc_2) fun a h=>of h rfl rfl (bf hc_2) fun a h=>of h rfl rfl (bf hc_2) fun a h=>of h rfl rfl (bf hc_2) fun a h=>of h rfl rfl (bf hc_2) fun a h=>pf h rfl (bf hc_2) fun a h=>mv h rfl fun a h=>oo h rfl rfl fun a h=>oo h rfl rfl fun a h=>oo h rfl rfl fun a h=>oo h rfl rfl fun a h=>oo h rfl rfl fun a h=>?_
   refine pf h rfl rfl fun a h=>mv h rfl fun a h=>oo h rfl rfl fun a h=>oo h rfl rfl fun a h=>oo h rfl rfl fun a h=>pf h rfl rfl fun a h=>sg h rfl fun a h=>wpList_nil <| x_then_n (hKJ_1 _ _ ?_)
   refine wp_ret ?_
   obtain rfl := Option.some.inj H
   exact r1 h 4 rfl rfl ⟨_, rfl, Mem.no, rfl, (hS.sel [0] (by decide))⟩
 ·refine of h rfl rfl (bf hc_1) fun a h=>of h rfl rfl (bf hc_1) fun a h=>of h rfl rfl (bf hc_1) fun a h=>of h rfl rfl (bf hc_1) fun a h=>of h rfl rfl (bf hc_1) fun a h=>pf h rfl (bf hc_1) fun a h=>mv h rfl fun a h=>oo h rfl rfl fun a h=>oo h rfl rfl fun a h=>oo h rfl rfl fun a h=>oo h rfl rfl fun a h=>oo h rfl rfl fun a h=>?_
  refine pf h rfl rfl fun a h=>mv h rfl fun a h=>oo h rfl rfl fun a h=>oo h rfl rfl fun a h=>oo h rfl rfl fun a h=>oo h rfl rfl fun a h=>oo h rfl rfl fun a h=>pf h rfl rfl fun a h=>mv h rfl fun a h=>oo h rfl rfl fun a h=>oo h rfl rfl fun a h=>oo h rfl rfl fun a h=>?_
  refine pf h rfl rfl fun a h=>sg h rfl fun a h=>wpList_nil <| x_then_n (hKJ_1 _ _ ?_)
  refine wp_ret ?_
  obtain rfl := Option.some.inj H
  exact r1 h 4 rfl rfl ⟨_, rfl, Mem.no, rfl, (hS.sel [0] (by decide))⟩

set_option maxHeartbeats 4000000 in
set_option maxRecDepth 20000 in
theorem xfer_New.calls (x0 : Int) (x1 : Int) (x2 : Int) (r : Int × Int × Int × (List UInt8) × Int × Bool × Bool) (w0 w : World) (Z A : Mem) (hA : A.le Z) (hS : Sep w0 w [] Z)
    (H : xfer_New.f x0 x1 x2 = some r) :
    Calls Try.prog 45 [iV x0, iV x1, iV x2].toArray w (Ret fun v w' => ∃ (u0 : Nat) (u1 : Value) (N : Mem) (M0 : Mem), v = .pointer (some ⟨u0, 0, none⟩) ∧ Sep w0 w' [N, bx u0 109 [iV r.1, iV r.2.1, iV r.2.2.1, u1, iV r.2.2.2.2.1, .bool r.2.2.2.2.2.1, .bool r.2.2.2.2.2.2], M0] Z ∧ Own Kd.u8 5 M0 Mem.no u1 r.2.2.2.1) := by
 unfold xfer_New.f at H
 refine f_enter _ Try.func45 rfl Try.ntmps45 rfl fun a h=>?_
 replace h : Fr 12 a [(0, iV x0), (1, iV x1), (2, iV x2)] := h
 replace hS := hS.start
 refine qr <| sg h rfl fun a h=>nx <| qr <| mv h rfl fun a h=>mv h rfl fun a h=>mv h rfl fun a h=>s_build h rfl ti109 pl109 rfl (.cons rfl (.cons rfl (.cons rfl .nil))) (cs := [iV x0, iV x1, iV x2, nS, iV 0, .bool false, .bool false]) (by kernel_rfl) fun a h=>v_box (vs := [iV x0, iV x1, iV x2, nS, iV 0, .bool false, .bool false]) h rfl rfl rfl hS fun w_1 g_1 hS' a h => ?_
 replace hS : Sep w0 w_1 [_, bx g_1 109 [iV x0, iV x1, iV x2, nS, iV 0, .bool false, .bool false]] Z := hS'
 refine sg h rfl fun a h=>nx <| wp_ret ?_
 have hS' := hS.room
 replace hS : Sep w0 w_1 [_, _, Mem.no] Z := hS'
 obtain rfl := Option.some.inj H
 exact r1 h 6 rfl rfl ⟨_, rfl, g_1, nS, Mem.no, Mem.no, rfl, (hS.sel [0, 1, 2] (by decide)), (Own.nil Kd.u8 5 Mem.no)⟩

set_option maxHeartbeats 4000000 in
set_option maxRecDepth 20000 in
theorem xfer_Fetch_Ask.calls (g0 : Nat) (x0_v : Int) (x0_me : Int) (x0_source : Int) (x0_b : List UInt8) (p0_0 : Value) (x0_total : Int) (x0_begun : Bool) (x0_done : Bool) (r : api_Msg) (w0 w : World) (Z A : Mem) (hA : A.le Z) (hS : Sep w0 w [bx g0 109 [iV x0_v, iV x0_me, iV x0_source, p0_0, iV x0_total, .bool x0_begun, .bool x0_done]] Z) (hp0_0 : Rd Kd.u8 A p0_0 x0_b)
    (H : xfer_Fetch_Ask.f x0_v x0_me x0_source x0_b x0_total x0_begun x0_done = some r) :
    Calls Try.prog 46 [.pointer (some ⟨g0, 0, none⟩)].toArray w (Ret fun v w' => ∃ (u0 : Value) (u1 : Value) (u2 : Value) (u3 : Value) (u4 : Value) (u5 : Value) (N : Mem) (M0 : Mem) (M1 : Mem) (M2 : Mem) (M3 : Mem) (M4 : Mem) (M5 : Mem), v = .agg (E56 r u0 u1 u2 u3 u4 u5).toArray ∧ Sep w0 w' [N, bx g0 109 [iV x0_v, iV x0_me, iV x0_source, p0_0, iV x0_total, .bool x0_begun, .bool x0_done], M0, M1, M2, M3, M4, M5] Z ∧ Own Kd.u8 5 M0 Mem.no u0 r.Data ∧ Own (Kd.int .i64) 3 M1 Mem.no u1 r.Have ∧ Own (Kd.int .i64) 3 M2 Mem.no u2 r.Need ∧ Own Kd.u8 5 M3 Mem.no u3 r.Entry.Cmd.Key ∧ Own Kd.u8 5 M4 Mem.no u4 r.Entry.Cmd.Val ∧ Own Kd.u8 5 M5 Mem.no u5 r.Entry.Cmd.Old) := by
 unfold xfer_Fetch_Ask.f at H
 refine f_enter _ Try.func46 rfl Try.ntmps46 rfl fun a h=>?_
 replace h : Fr 21 a [(0, .pointer (some ⟨g0, 0, none⟩))] := h
 replace hS := hS.start
 refine qr <| v_alloc h rfl ti56 hS fun w_1 g_1 hS' a h => ?_
 replace hS : Sep w0 w_1 [_, _, bx g_1 56 Q0] Z := hS'
 refine nx <| c_seq fun KJ_1 hKJ_1 => h_begin (S := fun w => Sep w0 w [Mem.no, bx g0 109 [iV x0_v, iV x0_me, iV x0_source, p0_0, iV x0_total, .bool x0_begun, .bool x0_done], Mem.no] Z) 19 (by kernel_rfl) rfl (bA 19 0) (by kernel_rfl) hS fun w_2 hS => ?_
 refine t_take 0 (bA 19 1) rfl rfl rfl rfl h (hS.sub (.cons mr (.rr (.zz .ii)))) (v := .pointer (some ⟨g0, 0, none⟩)) (fun w hS => r_move h rfl) fun a h=>t_take 1 (bA 19 3) rfl rfl rfl rfl h (hS.sub (.cons mr (.rr (.zz .ii)))) (v := .pointer (some ⟨g0, 0, none⟩)) (fun w hS => r_nilCheck h rfl) fun a h=>t_take 2 (bA 19 7) rfl rfl rfl rfl h (hS.sub (.cons mr (.rr (.zz .ii)))) (v := .pointer (some ⟨g0, 1, none⟩)) (fun w hS => r_fieldAddr h U109 rfl ti3 rfl rfl rfl) fun a h=>t_take 3 (bA 19 15) rfl rfl rfl rfl h (hS.sub (.cons mr (.rr (.zz .ii)))) (v := iV x0_me) (fun w hS => r_load h rfl (hS.load_one (p := 1) rfl U3 rfl rfl)) fun a h=>t_take 4 (bA 19 31) rfl rfl rfl rfl h (hS.sub (.cons mr (.rr (.zz .ii)))) (v := .pointer (some ⟨g0, 0, none⟩)) (fun w hS => r_move h rfl) fun a h=>t_take 5 (bA 19 63) rfl rfl rfl rfl h (hS.sub (.cons mr (.rr (.zz .ii)))) (v := .pointer (some ⟨g0, 0, none⟩)) (fun w hS => r_nilCheck h rfl) fun a h=>?_
 refine t_take 6 (bA 19 127) rfl rfl rfl rfl h (hS.sub (.cons mr (.rr (.zz .ii)))) (v := .pointer (some ⟨g0, 2, none⟩)) (fun w hS => r_fieldAddr h U109 rfl ti3 rfl rfl rfl) fun a h=>t_take 7 (bA 19 255) rfl rfl rfl rfl h (hS.sub (.cons mr (.rr (.zz .ii)))) (v := iV x0_source) (fun w hS => r_load h rfl (hS.load_one (p := 1) rfl U3 rfl rfl)) fun a h=>t_take 8 (bA 19 511) rfl rfl rfl rfl h (hS.sub (.cons mr (.rr (.zz .ii)))) (v := .pointer (some ⟨g0, 0, none⟩)) (fun w hS => r_move h rfl) fun a h=>t_take 9 (bA 19 1023) rfl rfl rfl rfl h (hS.sub (.cons mr (.rr (.zz .ii)))) (v := .pointer (some ⟨g0, 0, none⟩)) (fun w hS => r_nilCheck h rfl) fun a h=>t_take 10 (bA 19 2047) rfl rfl rfl rfl h (hS.sub (.cons mr (.rr (.zz .ii)))) (v := .pointer (some ⟨g0, 0, none⟩)) (fun w hS => r_fieldAddr h U109 rfl ti3 rfl rfl rfl) fun a h=>t_take 11 (bA 19 4095) rfl rfl rfl rfl h (hS.sub (.cons mr (.rr (.zz .ii)))) (v := iV x0_v) (fun w hS => r_load h rfl (hS.load_one (p := 1) rfl U3 rfl rfl)) fun a h=>?_
 refine t_take 12 (bA 19 8191) rfl rfl rfl rfl h (hS.sub (.cons mr (.rr (.zz .ii)))) (v := .pointer (some ⟨g0, 0, none⟩)) (fun w hS => r_move h rfl) fun a h=>t_take 13 (bA 19 16383) rfl rfl rfl rfl h (hS.sub (.cons mr (.rr (.zz .ii)))) (v := .pointer (some ⟨g0, 0, none⟩)) (fun w hS => r_nilCheck h rfl) fun a h=>t_take 14 (bA 19 32767) rfl rfl rfl rfl h (hS.sub (.cons mr (.rr (.zz .ii)))) (v := .pointer (some ⟨g0, 3, none⟩)) (fun w hS => r_fieldAddr h U109 rfl ti22 rfl rfl rfl) fun a h=>t_take 15 (bA 19 65535) rfl rfl rfl rfl h (hS.sub (.cons mr (.rr (.zz .ii)))) (v := p0_0) (fun w hS => r_load h rfl (hS.load_one (p := 1) rfl U22 rfl rfl)) fun a h=>t_take 16 (bA 19 131071) rfl rfl rfl rfl h (hS.sub (.cons mr (.rr (.zz .ii)))) (v := iV (x0_b.length : Int)) (fun w hS => r_len h U22 rfl hp0_0) fun a h=>t_take 17 (bA 19 262143) rfl rfl rfl rfl h (hS.sub (.cons mr (.rr (.zz .ii)))) (v := .agg ([iV 4, iV x0_me, iV x0_source, iV x0_v, iV 0, iV 0, .bool false, iV 0, iV 0, iV (x0_b.length : Int), iV 0, nS, iV 0, iV 0, nS, nS, iV 0, iV 0, iV 0, iV 0, iV 0, nS, nS, nS] : List Value).toArray) (fun w hS => r_build h ti56 pl56 rfl (.cons rfl (.cons rfl (.cons rfl (.cons rfl (.cons rfl .nil))))) (cs := [iV 4, iV x0_me, iV x0_source, iV x0_v, iV 0, iV 0, .bool false, iV 0, iV 0, iV (x0_b.length : Int), iV 0, nS, iV 0, iV 0, nS, nS, iV 0, iV 0, iV 0, iV 0, iV 0, nS, nS, nS]) (by kernel_rfl)) fun a h=>?_
 refine h_event 18 (bA 19 524287) rfl (by kernel_rfl) (by kernel_rfl) ?_
 refine sto 2 h rfl rfl hS rfl ti56 rfl rfl rfl (oz rfl) fun w_3 hS' => ?_
 replace hS : Sep w0 w_3 [_, _, bx g_1 56 [iV 4, iV x0_me, iV x0_source, iV x0_v, _, _, _, _, _, iV (x0_b.length : Int), _, _, _, _, _, _, _, _, _, _, _, _, _, _]] Z := hS'
 refine ne (hS.sub (.cons mr (.rr (.zz .ii)))) fun hs => ?_
 refine h_done (by kernel_rfl) <| x_then_n (hKJ_1 _ _ ?_)
 refine wp_ret ?_
 have hS' := hS.room
 replace hS : Sep w0 w_3 [_, _, _, Mem.no] Z := hS'
 have hS' := hS.room
 replace hS : Sep w0 w_3 [_, _, _, _, Mem.no] Z := hS'
 have hS' := hS.room
 replace hS : Sep w0 w_3 [_, _, _, _, _, Mem.no] Z := hS'
 have hS' := hS.room
 replace hS : Sep w0 w_3 [_, _, _, _, _, _, Mem.no] Z := hS'
 have hS' := hS.room
 replace hS : Sep w0 w_3 [_, _, _, _, _, _, _, Mem.no] Z := hS'
 have hS' := hS.room
 replace hS : Sep w0 w_3 [_, _, _, _, _, _, _, _, Mem.no] Z := hS'
 obtain rfl := Option.some.inj H
 exact f_ret h (rs := [.cell 2 56]) rfl (.cell rfl (hS.load_agg (p := 2) (us := [iV 4, iV x0_me, iV x0_source, iV x0_v, iV 0, iV 0, .bool false, iV 0, iV 0, iV (x0_b.length : Int), iV 0, nS, iV 0, iV 0, nS, nS, iV 0, iV 0, iV 0, iV 0, iV 0, nS, nS, nS]) rfl U56 rfl ti56 rfl rfl) .nil) ⟨_, rfl, nS, nS, nS, nS, nS, nS, Mem.no, Mem.no, Mem.no, Mem.no, Mem.no, Mem.no, Mem.no, rfl, (hS.sel [0, 1, 3, 4, 5, 6, 7, 8] (by decide)), (Own.nil Kd.u8 5 Mem.no), (Own.nil (Kd.int .i64) 3 Mem.no), (Own.nil (Kd.int .i64) 3 Mem.no), (Own.nil Kd.u8 5 Mem.no), (Own.nil Kd.u8 5 Mem.no), (Own.nil Kd.u8 5 Mem.no)⟩


end Go.Proofs
